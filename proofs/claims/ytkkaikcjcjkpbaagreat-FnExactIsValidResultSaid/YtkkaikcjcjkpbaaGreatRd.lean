/-
IsValidResult: validity, matches, copies, on plain lists. No condition.
-/
import Derived.Test.YtkkaikcjcjkpbaaGreatRc
import Derived.Test.YtkkaikcjcjkpbaaGreatOb
set_option linter.unusedVariables false
set_option linter.unusedSimpArgs false
/-! VGa -/

namespace Go.Proofs.YtkkaikcjcjkpbaaGreat.Q
open Go Ovi
/-- laws.szRelation -/
theorem c33 {k : Nat} (hk : 2000001 ≤ k) {a0 : List UInt8} (ha0 : a0.length ≤ maxLen) {a1 : Int} {a2 : Bool} {left : Int} (h0 : 0 ≤ left) (h1 : left ≤ 1048576) : C k 33 [.agg [.d (.str a0), .d (.int .i64 a1), .d (.bool a2)], .d (.int .i64 left)] = some [(false, [.d (.int .i64 (szT left (szC [.str a0, .int .i64 a1, .bool a2])))])] := by
  obtain ⟨k, rfl⟩ : ∃ j, k = j + 1 := ⟨k - 1, by omega⟩
  have eT : szC [.str a0, .int .i64 a1, .bool a2] = ((a0.length : Nat)) := by simp only [szC, szD] <;> omega
  rw [eT, F33.run]
  unfold maxLen at ha0
  rw [wrap_id (n := left - (a0.length : Int)) (by omega) (by omega)]
  rcases szT_cases (left) ((a0.length : Nat)) with ⟨q0, e0⟩ | ⟨q0, e0⟩
  rotate_left
  · rw [ite'_t (by simp only [decide_eq_true_eq]; omega)] <;> first | rfl | rw [szT_neg (by omega)]
  rw [ite'_f (neg_f (by omega))] <;> first | rfl | (rw [szT_pos (by omega)] <;> (congr 6 <;> omega))
/-- laws.toRelation -/
theorem F46x0 {a0 : List UInt8} {a1 : Int} {a2 : Bool} : resS 1 true 3 [(true, [.d (.str a0), .d (.int .i64 a1), .d (.bool a2)])] 0 0 = some a0 := rfl
theorem F46x1 {a0 : List UInt8} {a1 : Int} {a2 : Bool} : resI .i64 1 true 3 [(true, [.d (.str a0), .d (.int .i64 a1), .d (.bool a2)])] 0 1 = some a1 := rfl
theorem F46x2 {a0 : List UInt8} {a1 : Int} {a2 : Bool} : resB 1 true 3 [(true, [.d (.str a0), .d (.int .i64 a1), .d (.bool a2)])] 0 2 = some a2 := rfl
theorem c46 {k : Nat} (hk : 2000001 ≤ k) {a0 : List UInt8} (ha0 : a0.length ≤ maxLen) {a1 : Int} {a2 : Bool}  : C k 46 [.agg [.d (.str a0), .d (.int .i64 a1), .d (.bool a2)]] = some [(true, [.d (.str a0), .d (.int .i64 a1), .d (.bool a2)])] := by
  obtain ⟨k, rfl⟩ : ∃ j, k = j + 1 := ⟨k - 1, by omega⟩
  rw [F46.run]
/-- laws.eqRelation -/
theorem c59 {k : Nat} (hk : 2000001 ≤ k) {a0 : List UInt8} (ha0 : a0.length ≤ maxLen) {a1 : Int} {a2 : Bool}  : C k 59 [.agg [.d (.str a0), .d (.int .i64 a1), .d (.bool a2)], .agg [.d (.str a0), .d (.int .i64 a1), .d (.bool a2)]] = some [(false, [.d (.bool true)])] := by
  obtain ⟨k, rfl⟩ : ∃ j, k = j + 1 := ⟨k - 1, by omega⟩
  rw [F59.run]
  simp only [List.getElem?_cons_zero, List.getElem?_cons_succ, Option.bind_some, asI_s, asB_s, asS_s, asL_s, bindI_s, bindB_s, bindS_s, bindL_s, bindR_s, resI_s, resB_s, resS_s, resO_s, bne_self_eq_false, beq_self_eq_true, Bool.not_true]
  rfl
/-- laws.szIntS -/
theorem c63 {k : Nat} (hk : 2000001 ≤ k) {a : Ovi.Rows} (ha : Fit (.list [.int .i64]) (.list 1 a)) {left : Int} (h0 : 0 ≤ left) (h1 : left ≤ 1048576) : C k 63 [.d (.list 1 a), .d (.int .i64 left)] = some [(false, [.d (.int .i64 (szT left (szD (.list 1 a))))])] := by
  obtain ⟨k, rfl⟩ : ∃ j, k = j + 1 := ⟨k - 1, by omega⟩
  have hlen := ha.len; unfold maxLen at hlen
  have hz : szR a = 0 := by
    clear hlen h0 h1
    induction a with
    | nil => rfl
    | cons r rs ih =>
      simp only [Fit, List.length_cons, List.mem_cons, forall_eq_or_imp] at ha
      obtain ⟨q1, q2, hfr, q4⟩ := ha
      obtain ⟨d0, rr0, rfl, hd0, hfr0⟩ := Fits.cons hfr
      obtain ⟨x0, rfl, wx0⟩ := hd0.int
      obtain rfl := Fits.nil hfr0
      simp only [szR, szC, szD]
      rw [ih (by simp only [Fit]; exact ⟨q1, by omega, q4⟩)]
  rw [F63.run, wrap_id (by omega) (by omega)]
  simp only [szD, hz, Nat.add_zero]
  rcases szT_cases left a.length with ⟨q, e⟩ | ⟨q, e⟩ <;> rw [e]
  · rw [ite'_f (neg_f (by omega))]
  · rw [ite'_t (by simp only [decide_eq_true_eq]; omega)]
/-- laws.toIntS -/
theorem l81 {k : Nat} (hk : 2000000 ≤ k) {a : Ovi.Rows} (ha : Fit (.list [.int .i64]) (.list 1 a)) (hs : szR a ≤ 1048576) : ∀ (m i n : Nat) (v : Ovi.Rows), Filled a v i 1 → i + m = a.length → m < n → F81.L3 k (C k) n a (i : Int) v = some [(false, [.row 3 1 a])] := by
  have hlen := ha.len
  intro m; induction m with
  | zero =>
    intro i n v hv hm hn
    obtain ⟨n, rfl⟩ : ∃ j, n = j + 1 := ⟨n - 1, by omega⟩
    obtain rfl : i = a.length := by omega
    rw [F81.L3.succ, ite'_f (lt_f (by omega)), hv.done]
  | succ m ih =>
    intro i n v hv hm hn
    obtain ⟨n, rfl⟩ : ∃ j, n = j + 1 := ⟨n - 1, by omega⟩
    obtain ⟨row, hr, hfr, hdr⟩ := ha.row (i := i) (by omega)
    obtain ⟨d0, rr0, rfl, hd0, hfr0⟩ := Fits.cons hfr
    obtain ⟨x0, rfl, wx0⟩ := hd0.int
    obtain rfl := Fits.nil hfr0
    have hst := hv.step hr rfl
    have hvl := hv.1
    have hszr := szR_at hr
    rw [F81.L3.succ, ite'_t (lt_t (by omega)), ite'_t (inR_t (by omega))]
    simp only [Int.toNat_natCast, cellI_at hr, cellB_at hr, cellS_at hr, cellL_at hr]
    simp only [List.getElem?_cons_zero, List.getElem?_cons_succ, Option.bind_some, asI_s, asB_s, asS_s, asL_s, bindI_s, bindB_s, bindS_s, bindL_s, bindR_s, resI_s, resB_s, resS_s, resO_s, bne_self_eq_false, beq_self_eq_true, Bool.not_true]
    rw [ite'_t (inR_t (by omega)), wrap_succ (m := a.length) (by omega) (by omega) hlen]
    rw [show ((i : Int) + 1) = ((i + 1 : Nat) : Int) by omega]
    exact ih (i + 1) n _ hst (by omega) (by omega)
theorem c81 {k : Nat} (hk : 2000001 ≤ k) {a : Ovi.Rows} (ha : Fit (.list [.int .i64]) (.list 1 a)) (hs : szD (.list 1 a) ≤ 1048576) : C k 81 [.d (.list 1 a)] = some [(false, [.row 3 1 a])] := by
  obtain ⟨k, rfl⟩ : ∃ j, k = j + 1 := ⟨k - 1, by omega⟩
  simp only [szD] at hs
  rw [F81.run, ite'_t (beq_t _), ite'_t (inM_t (by omega))]
  exact l81 (k := k) (by omega) ha (by omega) a.length 0 k _ (Filled.start a _) (by omega) (by omega)
/-- laws.eqIntS -/
theorem l101 {k : Nat} (hk : 2000000 ≤ k) {a : Ovi.Rows} (ha : Fit (.list [.int .i64]) (.list 1 a)) (hs : szR a ≤ 1048576) : ∀ (m i n : Nat), i + m = a.length → m < n → F101.L4 k (C k) n a a (i : Int) = some [(false, [.d (.bool true)])] := by
  have hlen := ha.len
  intro m; induction m with
  | zero =>
    intro i n hm hn
    obtain ⟨n, rfl⟩ : ∃ j, n = j + 1 := ⟨n - 1, by omega⟩
    rw [F101.L4.succ, ite'_f (lt_f (by omega))]
  | succ m ih =>
    intro i n hm hn
    obtain ⟨n, rfl⟩ : ∃ j, n = j + 1 := ⟨n - 1, by omega⟩
    obtain ⟨row, hr, hfr, hdr⟩ := ha.row (i := i) (by omega)
    obtain ⟨d0, rr0, rfl, hd0, hfr0⟩ := Fits.cons hfr
    obtain ⟨x0, rfl, wx0⟩ := hd0.int
    obtain rfl := Fits.nil hfr0
    have hszr := szR_at hr
    rw [F101.L4.succ, ite'_t (lt_t (by omega)), ite'_t (inR_t (by omega))]
    simp only [Int.toNat_natCast, cellI_at hr, cellB_at hr, cellS_at hr, cellL_at hr]
    simp only [List.getElem?_cons_zero, List.getElem?_cons_succ, Option.bind_some, asI_s, asB_s, asS_s, asL_s, bindI_s, bindB_s, bindS_s, bindL_s, bindR_s, resI_s, resB_s, resS_s, resO_s, bne_self_eq_false, beq_self_eq_true, Bool.not_true]
    rw [ite'_t (inR_t (by omega))]
    rw [ite'_f rfl, wrap_succ (m := a.length) (by omega) (by omega) hlen]
    rw [show ((i : Int) + 1) = ((i + 1 : Nat) : Int) by omega]
    exact ih (i + 1) n (by omega) (by omega)
theorem c101 {k : Nat} (hk : 2000001 ≤ k) {a : Ovi.Rows} (ha : Fit (.list [.int .i64]) (.list 1 a)) (hs : szD (.list 1 a) ≤ 1048576) : C k 101 [.d (.list 1 a), .d (.list 1 a)] = some [(false, [.d (.bool true)])] := by
  obtain ⟨k, rfl⟩ : ∃ j, k = j + 1 := ⟨k - 1, by omega⟩
  simp only [szD] at hs
  rw [F101.run, ite'_f (bne_f _)]
  exact l101 (k := k) (by omega) ha (by omega) a.length 0 k (by omega) (by omega)
/-- laws.szRelationS -/
theorem l15 {k : Nat} (hk : 2000001 ≤ k) {a : Ovi.Rows} (ha : Fit (.list [.str, .int .i64, .bool]) (.list 3 a)) : ∀ (m i n : Nat) (left : Int), 0 ≤ left → left ≤ 1048576 → i + m = a.length → m < n → F15.L5 k (C k) n a left (i : Int) = some [(false, [.d (.int .i64 (szT left (szR (a.drop i))))])] := by
  have hlen := ha.len
  intro m; induction m with
  | zero =>
    intro i n left h0 h1 hm hn
    obtain ⟨n, rfl⟩ : ∃ j, n = j + 1 := ⟨n - 1, by omega⟩
    rw [F15.L5.succ, ite'_f (lt_f (by omega)), List.drop_eq_nil_of_le (by omega)]
    simp only [szR, szT_pos (left := left) (s := 0) (by omega)]
    simp
  | succ m ih =>
    intro i n left h0 h1 hm hn
    obtain ⟨n, rfl⟩ : ∃ j, n = j + 1 := ⟨n - 1, by omega⟩
    obtain ⟨row, hr, hfr, hdr⟩ := ha.row (i := i) (by omega)
    obtain ⟨d0, rr0, rfl, hd0, hfr0⟩ := Fits.cons hfr
    obtain ⟨x0, rfl, hx0⟩ := hd0.str
    obtain ⟨d1, rr1, rfl, hd1, hfr1⟩ := Fits.cons hfr0
    obtain ⟨x1, rfl, wx1⟩ := hd1.int
    obtain ⟨d2, rr2, rfl, hd2, hfr2⟩ := Fits.cons hfr1
    obtain ⟨x2, rfl⟩ := hd2.bool
    obtain rfl := Fits.nil hfr2
    have eR : szR (a.drop i) = szC [.str x0, .int .i64 x1, .bool x2] + szR (a.drop (i + 1)) := by rw [hdr]; rfl
    rw [F15.L5.succ, ite'_t (lt_t (by omega)), ite'_t (inR_t (by omega)), eR]
    simp only [Int.toNat_natCast, cellI_at hr, cellB_at hr, cellS_at hr, cellL_at hr]
    simp only [List.getElem?_cons_zero, List.getElem?_cons_succ, Option.bind_some, asI_s, asB_s, asS_s, asL_s, bindI_s, bindB_s, bindS_s, bindL_s, bindR_s, resI_s, resB_s, resS_s, resO_s, bne_self_eq_false, beq_self_eq_true, Bool.not_true]
    have cc := c33 (k := k) (by omega) (a1 := x1) (a2 := x2) hx0 h0 h1
    rw [cc]
    simp only [List.getElem?_cons_zero, List.getElem?_cons_succ, Option.bind_some, asI_s, asB_s, asS_s, asL_s, bindI_s, bindB_s, bindS_s, bindL_s, bindR_s, resI_s, resB_s, resS_s, resO_s, bne_self_eq_false, beq_self_eq_true, Bool.not_true]
    rcases szT_cases left (szC [.str x0, .int .i64 x1, .bool x2]) with ⟨q, e⟩ | ⟨q, e⟩ <;> rw [e]
    · rw [ite'_f (neg_f (by omega)), wrap_succ (m := a.length) (by omega) (by omega) hlen]
      have := ih (i + 1) n (left - ((szC [.str x0, .int .i64 x1, .bool x2] : Nat) : Int)) (by omega) (by omega) (by omega) (by omega)
      rw [show ((i : Int) + 1) = ((i + 1 : Nat) : Int) by omega, this]
      rcases szT_cases (left - ((szC [.str x0, .int .i64 x1, .bool x2] : Nat) : Int)) (szR (a.drop (i + 1))) with ⟨q2, e2⟩ | ⟨q2, e2⟩ <;> rw [e2]
      · rw [szT_pos (by omega)] <;> (congr 6 <;> omega)
      · rw [szT_neg (by omega)]
    · rw [ite'_t neg_t, szT_neg (by omega)]
theorem c15 {k : Nat} (hk : 2000002 ≤ k) {a : Ovi.Rows} (ha : Fit (.list [.str, .int .i64, .bool]) (.list 3 a)) {left : Int} (h0 : 0 ≤ left) (h1 : left ≤ 1048576) : C k 15 [.d (.list 3 a), .d (.int .i64 left)] = some [(false, [.d (.int .i64 (szT left (szD (.list 3 a))))])] := by
  obtain ⟨k, rfl⟩ : ∃ j, k = j + 1 := ⟨k - 1, by omega⟩
  have hlen := ha.len; unfold maxLen at hlen
  rw [F15.run, wrap_id (by omega) (by omega)]
  have eD : szD (.list 3 a) = a.length + szR a := by simp only [szD]
  rw [eD]
  rcases szT_cases left a.length with ⟨q, e⟩ | ⟨q, e⟩
  · rw [ite'_f (neg_f (by omega))]
    have := l15 (k := k) (by omega) ha a.length 0 k (left - (a.length : Int)) (by omega) (by omega) (by omega) (by omega)
    rw [List.drop_zero] at this
    rw [show ((0 : Int)) = ((0 : Nat) : Int) by rfl, this]
    rcases szT_cases (left - (a.length : Int)) (szR a) with ⟨q2, e2⟩ | ⟨q2, e2⟩ <;> rw [e2]
    · rw [szT_pos (by omega)] <;> (congr 6 <;> omega)
    · rw [szT_neg (by omega)]
  · rw [ite'_t (by simp only [decide_eq_true_eq]; omega), szT_neg (by omega)]
/-- laws.toRelationS -/
theorem l22 {k : Nat} (hk : 2000001 ≤ k) {a : Ovi.Rows} (ha : Fit (.list [.str, .int .i64, .bool]) (.list 3 a)) (hs : szR a ≤ 1048576) : ∀ (m i n : Nat) (v : Ovi.Rows), Filled a v i 3 → i + m = a.length → m < n → F22.L3 k (C k) n a (i : Int) v = some [(false, [.row 93 3 a])] := by
  have hlen := ha.len
  intro m; induction m with
  | zero =>
    intro i n v hv hm hn
    obtain ⟨n, rfl⟩ : ∃ j, n = j + 1 := ⟨n - 1, by omega⟩
    obtain rfl : i = a.length := by omega
    rw [F22.L3.succ, ite'_f (lt_f (by omega)), hv.done]
  | succ m ih =>
    intro i n v hv hm hn
    obtain ⟨n, rfl⟩ : ∃ j, n = j + 1 := ⟨n - 1, by omega⟩
    obtain ⟨row, hr, hfr, hdr⟩ := ha.row (i := i) (by omega)
    obtain ⟨d0, rr0, rfl, hd0, hfr0⟩ := Fits.cons hfr
    obtain ⟨x0, rfl, hx0⟩ := hd0.str
    obtain ⟨d1, rr1, rfl, hd1, hfr1⟩ := Fits.cons hfr0
    obtain ⟨x1, rfl, wx1⟩ := hd1.int
    obtain ⟨d2, rr2, rfl, hd2, hfr2⟩ := Fits.cons hfr1
    obtain ⟨x2, rfl⟩ := hd2.bool
    obtain rfl := Fits.nil hfr2
    have hst := hv.step hr rfl
    have hvl := hv.1
    have hszr := szR_at hr
    rw [F22.L3.succ, ite'_t (lt_t (by omega)), ite'_t (inR_t (by omega))]
    simp only [Int.toNat_natCast, cellI_at hr, cellB_at hr, cellS_at hr, cellL_at hr]
    simp only [List.getElem?_cons_zero, List.getElem?_cons_succ, Option.bind_some, asI_s, asB_s, asS_s, asL_s, bindI_s, bindB_s, bindS_s, bindL_s, bindR_s, resI_s, resB_s, resS_s, resO_s, bne_self_eq_false, beq_self_eq_true, Bool.not_true]
    rw [c46 (k := k) (by omega) (a1 := x1) (a2 := x2) hx0 ]
    simp only [List.getElem?_cons_zero, List.getElem?_cons_succ, Option.bind_some, asI_s, asB_s, asS_s, asL_s, bindI_s, bindB_s, bindS_s, bindL_s, bindR_s, resI_s, resB_s, resS_s, resO_s, bne_self_eq_false, beq_self_eq_true, Bool.not_true]
    simp only [F46x0, F46x1, F46x2]
    simp only [List.getElem?_cons_zero, List.getElem?_cons_succ, Option.bind_some, asI_s, asB_s, asS_s, asL_s, bindI_s, bindB_s, bindS_s, bindL_s, bindR_s, resI_s, resB_s, resS_s, resO_s, bne_self_eq_false, beq_self_eq_true, Bool.not_true]
    rw [ite'_t (inR_t (by omega)), wrap_succ (m := a.length) (by omega) (by omega) hlen]
    rw [show ((i : Int) + 1) = ((i + 1 : Nat) : Int) by omega]
    exact ih (i + 1) n _ hst (by omega) (by omega)
theorem c22 {k : Nat} (hk : 2000002 ≤ k) {a : Ovi.Rows} (ha : Fit (.list [.str, .int .i64, .bool]) (.list 3 a)) (hs : szD (.list 3 a) ≤ 1048576) : C k 22 [.d (.list 3 a)] = some [(false, [.row 93 3 a])] := by
  obtain ⟨k, rfl⟩ : ∃ j, k = j + 1 := ⟨k - 1, by omega⟩
  simp only [szD] at hs
  rw [F22.run, ite'_t (beq_t _), ite'_t (inM_t (by omega))]
  exact l22 (k := k) (by omega) ha (by omega) a.length 0 k _ (Filled.start a _) (by omega) (by omega)
/-- laws.eqRelationS -/
theorem l29 {k : Nat} (hk : 2000001 ≤ k) {a : Ovi.Rows} (ha : Fit (.list [.str, .int .i64, .bool]) (.list 3 a)) (hs : szR a ≤ 1048576) : ∀ (m i n : Nat), i + m = a.length → m < n → F29.L4 k (C k) n a a (i : Int) = some [(false, [.d (.bool true)])] := by
  have hlen := ha.len
  intro m; induction m with
  | zero =>
    intro i n hm hn
    obtain ⟨n, rfl⟩ : ∃ j, n = j + 1 := ⟨n - 1, by omega⟩
    rw [F29.L4.succ, ite'_f (lt_f (by omega))]
  | succ m ih =>
    intro i n hm hn
    obtain ⟨n, rfl⟩ : ∃ j, n = j + 1 := ⟨n - 1, by omega⟩
    obtain ⟨row, hr, hfr, hdr⟩ := ha.row (i := i) (by omega)
    obtain ⟨d0, rr0, rfl, hd0, hfr0⟩ := Fits.cons hfr
    obtain ⟨x0, rfl, hx0⟩ := hd0.str
    obtain ⟨d1, rr1, rfl, hd1, hfr1⟩ := Fits.cons hfr0
    obtain ⟨x1, rfl, wx1⟩ := hd1.int
    obtain ⟨d2, rr2, rfl, hd2, hfr2⟩ := Fits.cons hfr1
    obtain ⟨x2, rfl⟩ := hd2.bool
    obtain rfl := Fits.nil hfr2
    have hszr := szR_at hr
    rw [F29.L4.succ, ite'_t (lt_t (by omega)), ite'_t (inR_t (by omega))]
    simp only [Int.toNat_natCast, cellI_at hr, cellB_at hr, cellS_at hr, cellL_at hr]
    simp only [List.getElem?_cons_zero, List.getElem?_cons_succ, Option.bind_some, asI_s, asB_s, asS_s, asL_s, bindI_s, bindB_s, bindS_s, bindL_s, bindR_s, resI_s, resB_s, resS_s, resO_s, bne_self_eq_false, beq_self_eq_true, Bool.not_true]
    rw [ite'_t (inR_t (by omega))]
    rw [c59 (k := k) (by omega) (a1 := x1) (a2 := x2) hx0 ]
    simp only [List.getElem?_cons_zero, List.getElem?_cons_succ, Option.bind_some, asI_s, asB_s, asS_s, asL_s, bindI_s, bindB_s, bindS_s, bindL_s, bindR_s, resI_s, resB_s, resS_s, resO_s, bne_self_eq_false, beq_self_eq_true, Bool.not_true]
    rw [ite'_f rfl, wrap_succ (m := a.length) (by omega) (by omega) hlen]
    rw [show ((i : Int) + 1) = ((i + 1 : Nat) : Int) by omega]
    exact ih (i + 1) n (by omega) (by omega)
theorem c29 {k : Nat} (hk : 2000002 ≤ k) {a : Ovi.Rows} (ha : Fit (.list [.str, .int .i64, .bool]) (.list 3 a)) (hs : szD (.list 3 a) ≤ 1048576) : C k 29 [.d (.list 3 a), .d (.list 3 a)] = some [(false, [.d (.bool true)])] := by
  obtain ⟨k, rfl⟩ : ∃ j, k = j + 1 := ⟨k - 1, by omega⟩
  simp only [szD] at hs
  rw [F29.run, ite'_f (bne_f _)]
  exact l29 (k := k) (by omega) ha (by omega) a.length 0 k (by omega) (by omega)
/-- laws.szFact -/
theorem c34 {k : Nat} (hk : 2000002 ≤ k) {a0 : Int} {a1 : Ovi.Rows} (ha1 : Fit (.list [.int .i64]) (.list 1 a1)) {left : Int} (h0 : 0 ≤ left) (h1 : left ≤ 1048576) : C k 34 [.agg [.d (.int .i64 a0), .d (.list 1 a1)], .d (.int .i64 left)] = some [(false, [.d (.int .i64 (szT left (szC [.int .i64 a0, .list 1 a1])))])] := by
  obtain ⟨k, rfl⟩ : ∃ j, k = j + 1 := ⟨k - 1, by omega⟩
  have eT : szC [.int .i64 a0, .list 1 a1] = (szD (.list 1 a1)) := by simp only [szC, szD] <;> omega
  rw [eT, F34.run]
  rw [c63 (k := k) (by omega)  ha1 (left := left) (by omega) (by omega)]
  simp only [List.getElem?_cons_zero, List.getElem?_cons_succ, Option.bind_some, asI_s, asB_s, asS_s, asL_s, bindI_s, bindB_s, bindS_s, bindL_s, bindR_s, resI_s, resB_s, resS_s, resO_s, bne_self_eq_false, beq_self_eq_true, Bool.not_true]
  rcases szT_cases (left) (szD (.list 1 a1)) with ⟨q0, e0⟩ | ⟨q0, e0⟩ <;> rw [e0]
  rotate_left
  · rw [ite'_t (by simp only [decide_eq_true_eq]; omega)] <;> first | rfl | rw [szT_neg (by omega)]
  rw [ite'_f (neg_f (by omega))] <;> first | rfl | (rw [szT_pos (by omega)] <;> (congr 6 <;> omega))
/-- laws.szChaseStep -/
theorem c36 {k : Nat} (hk : 2000002 ≤ k) {a0 : Int} {a1 : Ovi.Rows} (ha1 : Fit (.list [.int .i64]) (.list 1 a1)) {left : Int} (h0 : 0 ≤ left) (h1 : left ≤ 1048576) : C k 36 [.agg [.d (.int .i64 a0), .d (.list 1 a1)], .d (.int .i64 left)] = some [(false, [.d (.int .i64 (szT left (szC [.int .i64 a0, .list 1 a1])))])] := by
  obtain ⟨k, rfl⟩ : ∃ j, k = j + 1 := ⟨k - 1, by omega⟩
  have eT : szC [.int .i64 a0, .list 1 a1] = (szD (.list 1 a1)) := by simp only [szC, szD] <;> omega
  rw [eT, F36.run]
  rw [c63 (k := k) (by omega)  ha1 (left := left) (by omega) (by omega)]
  simp only [List.getElem?_cons_zero, List.getElem?_cons_succ, Option.bind_some, asI_s, asB_s, asS_s, asL_s, bindI_s, bindB_s, bindS_s, bindL_s, bindR_s, resI_s, resB_s, resS_s, resO_s, bne_self_eq_false, beq_self_eq_true, Bool.not_true]
  rcases szT_cases (left) (szD (.list 1 a1)) with ⟨q0, e0⟩ | ⟨q0, e0⟩ <;> rw [e0]
  rotate_left
  · rw [ite'_t (by simp only [decide_eq_true_eq]; omega)] <;> first | rfl | rw [szT_neg (by omega)]
  rw [ite'_f (neg_f (by omega))] <;> first | rfl | (rw [szT_pos (by omega)] <;> (congr 6 <;> omega))
/-- laws.toFact -/
theorem F47x0 {a0 : Int} {a1 : Ovi.Rows} : resI .i64 1 true 2 [(true, [.d (.int .i64 a0), .row 3 1 a1])] 0 0 = some a0 := rfl
theorem F47x1 {a0 : Int} {a1 : Ovi.Rows} : resO 3 1 1 true 2 [(true, [.d (.int .i64 a0), .row 3 1 a1])] 0 1 = some a1 := rfl
theorem c47 {k : Nat} (hk : 2000002 ≤ k) {a0 : Int} {a1 : Ovi.Rows} (ha1 : Fit (.list [.int .i64]) (.list 1 a1)) (s1 : szD (.list 1 a1) ≤ 1048576) : C k 47 [.agg [.d (.int .i64 a0), .d (.list 1 a1)]] = some [(true, [.d (.int .i64 a0), .row 3 1 a1])] := by
  obtain ⟨k, rfl⟩ : ∃ j, k = j + 1 := ⟨k - 1, by omega⟩
  rw [F47.run]
  rw [c81 (k := k) (by omega)  ha1 s1]
  simp only [List.getElem?_cons_zero, List.getElem?_cons_succ, Option.bind_some, asI_s, asB_s, asS_s, asL_s, bindI_s, bindB_s, bindS_s, bindL_s, bindR_s, resI_s, resB_s, resS_s, resO_s, bne_self_eq_false, beq_self_eq_true, Bool.not_true]
/-- laws.toChaseStep -/
theorem F49x0 {a0 : Int} {a1 : Ovi.Rows} : resI .i64 1 true 2 [(true, [.d (.int .i64 a0), .row 3 1 a1])] 0 0 = some a0 := rfl
theorem F49x1 {a0 : Int} {a1 : Ovi.Rows} : resO 3 1 1 true 2 [(true, [.d (.int .i64 a0), .row 3 1 a1])] 0 1 = some a1 := rfl
theorem c49 {k : Nat} (hk : 2000002 ≤ k) {a0 : Int} {a1 : Ovi.Rows} (ha1 : Fit (.list [.int .i64]) (.list 1 a1)) (s1 : szD (.list 1 a1) ≤ 1048576) : C k 49 [.agg [.d (.int .i64 a0), .d (.list 1 a1)]] = some [(true, [.d (.int .i64 a0), .row 3 1 a1])] := by
  obtain ⟨k, rfl⟩ : ∃ j, k = j + 1 := ⟨k - 1, by omega⟩
  rw [F49.run]
  rw [c81 (k := k) (by omega)  ha1 s1]
  simp only [List.getElem?_cons_zero, List.getElem?_cons_succ, Option.bind_some, asI_s, asB_s, asS_s, asL_s, bindI_s, bindB_s, bindS_s, bindL_s, bindR_s, resI_s, resB_s, resS_s, resO_s, bne_self_eq_false, beq_self_eq_true, Bool.not_true]
/-- laws.eqFact -/
theorem c60 {k : Nat} (hk : 2000002 ≤ k) {a0 : Int} {a1 : Ovi.Rows} (ha1 : Fit (.list [.int .i64]) (.list 1 a1)) (s1 : szD (.list 1 a1) ≤ 1048576) : C k 60 [.agg [.d (.int .i64 a0), .d (.list 1 a1)], .agg [.d (.int .i64 a0), .d (.list 1 a1)]] = some [(false, [.d (.bool true)])] := by
  obtain ⟨k, rfl⟩ : ∃ j, k = j + 1 := ⟨k - 1, by omega⟩
  rw [F60.run]
  rw [c101 (k := k) (by omega)  ha1 s1]
  simp only [List.getElem?_cons_zero, List.getElem?_cons_succ, Option.bind_some, asI_s, asB_s, asS_s, asL_s, bindI_s, bindB_s, bindS_s, bindL_s, bindR_s, resI_s, resB_s, resS_s, resO_s, bne_self_eq_false, beq_self_eq_true, Bool.not_true]
  rfl
/-- laws.eqChaseStep -/
theorem c62 {k : Nat} (hk : 2000002 ≤ k) {a0 : Int} {a1 : Ovi.Rows} (ha1 : Fit (.list [.int .i64]) (.list 1 a1)) (s1 : szD (.list 1 a1) ≤ 1048576) : C k 62 [.agg [.d (.int .i64 a0), .d (.list 1 a1)], .agg [.d (.int .i64 a0), .d (.list 1 a1)]] = some [(false, [.d (.bool true)])] := by
  obtain ⟨k, rfl⟩ : ∃ j, k = j + 1 := ⟨k - 1, by omega⟩
  rw [F62.run]
  rw [c101 (k := k) (by omega)  ha1 s1]
  simp only [List.getElem?_cons_zero, List.getElem?_cons_succ, Option.bind_some, asI_s, asB_s, asS_s, asL_s, bindI_s, bindB_s, bindS_s, bindL_s, bindR_s, resI_s, resB_s, resS_s, resO_s, bne_self_eq_false, beq_self_eq_true, Bool.not_true]
  rfl
/-- laws.szAtom -/
theorem c64 {k : Nat} (hk : 2000002 ≤ k) {a0 : Int} {a1 : Ovi.Rows} (ha1 : Fit (.list [.int .i64]) (.list 1 a1)) {left : Int} (h0 : 0 ≤ left) (h1 : left ≤ 1048576) : C k 64 [.agg [.d (.int .i64 a0), .d (.list 1 a1)], .d (.int .i64 left)] = some [(false, [.d (.int .i64 (szT left (szC [.int .i64 a0, .list 1 a1])))])] := by
  obtain ⟨k, rfl⟩ : ∃ j, k = j + 1 := ⟨k - 1, by omega⟩
  have eT : szC [.int .i64 a0, .list 1 a1] = (szD (.list 1 a1)) := by simp only [szC, szD] <;> omega
  rw [eT, F64.run]
  rw [c63 (k := k) (by omega)  ha1 (left := left) (by omega) (by omega)]
  simp only [List.getElem?_cons_zero, List.getElem?_cons_succ, Option.bind_some, asI_s, asB_s, asS_s, asL_s, bindI_s, bindB_s, bindS_s, bindL_s, bindR_s, resI_s, resB_s, resS_s, resO_s, bne_self_eq_false, beq_self_eq_true, Bool.not_true]
  rcases szT_cases (left) (szD (.list 1 a1)) with ⟨q0, e0⟩ | ⟨q0, e0⟩ <;> rw [e0]
  rotate_left
  · rw [ite'_t (by simp only [decide_eq_true_eq]; omega)] <;> first | rfl | rw [szT_neg (by omega)]
  rw [ite'_f (neg_f (by omega))] <;> first | rfl | (rw [szT_pos (by omega)] <;> (congr 6 <;> omega))
/-- laws.toAtom -/
theorem F82x0 {a0 : Int} {a1 : Ovi.Rows} : resI .i64 1 true 2 [(true, [.d (.int .i64 a0), .row 3 1 a1])] 0 0 = some a0 := rfl
theorem F82x1 {a0 : Int} {a1 : Ovi.Rows} : resO 3 1 1 true 2 [(true, [.d (.int .i64 a0), .row 3 1 a1])] 0 1 = some a1 := rfl
theorem c82 {k : Nat} (hk : 2000002 ≤ k) {a0 : Int} {a1 : Ovi.Rows} (ha1 : Fit (.list [.int .i64]) (.list 1 a1)) (s1 : szD (.list 1 a1) ≤ 1048576) : C k 82 [.agg [.d (.int .i64 a0), .d (.list 1 a1)]] = some [(true, [.d (.int .i64 a0), .row 3 1 a1])] := by
  obtain ⟨k, rfl⟩ : ∃ j, k = j + 1 := ⟨k - 1, by omega⟩
  rw [F82.run]
  rw [c81 (k := k) (by omega)  ha1 s1]
  simp only [List.getElem?_cons_zero, List.getElem?_cons_succ, Option.bind_some, asI_s, asB_s, asS_s, asL_s, bindI_s, bindB_s, bindS_s, bindL_s, bindR_s, resI_s, resB_s, resS_s, resO_s, bne_self_eq_false, beq_self_eq_true, Bool.not_true]
/-- laws.eqAtom -/
theorem c102 {k : Nat} (hk : 2000002 ≤ k) {a0 : Int} {a1 : Ovi.Rows} (ha1 : Fit (.list [.int .i64]) (.list 1 a1)) (s1 : szD (.list 1 a1) ≤ 1048576) : C k 102 [.agg [.d (.int .i64 a0), .d (.list 1 a1)], .agg [.d (.int .i64 a0), .d (.list 1 a1)]] = some [(false, [.d (.bool true)])] := by
  obtain ⟨k, rfl⟩ : ∃ j, k = j + 1 := ⟨k - 1, by omega⟩
  rw [F102.run]
  rw [c101 (k := k) (by omega)  ha1 s1]
  simp only [List.getElem?_cons_zero, List.getElem?_cons_succ, Option.bind_some, asI_s, asB_s, asS_s, asL_s, bindI_s, bindB_s, bindS_s, bindL_s, bindR_s, resI_s, resB_s, resS_s, resO_s, bne_self_eq_false, beq_self_eq_true, Bool.not_true]
  rfl
/-- laws.szFactS -/
theorem l16 {k : Nat} (hk : 2000002 ≤ k) {a : Ovi.Rows} (ha : Fit (.list [.int .i64, .list [.int .i64]]) (.list 2 a)) : ∀ (m i n : Nat) (left : Int), 0 ≤ left → left ≤ 1048576 → i + m = a.length → m < n → F16.L5 k (C k) n a left (i : Int) = some [(false, [.d (.int .i64 (szT left (szR (a.drop i))))])] := by
  have hlen := ha.len
  intro m; induction m with
  | zero =>
    intro i n left h0 h1 hm hn
    obtain ⟨n, rfl⟩ : ∃ j, n = j + 1 := ⟨n - 1, by omega⟩
    rw [F16.L5.succ, ite'_f (lt_f (by omega)), List.drop_eq_nil_of_le (by omega)]
    simp only [szR, szT_pos (left := left) (s := 0) (by omega)]
    simp
  | succ m ih =>
    intro i n left h0 h1 hm hn
    obtain ⟨n, rfl⟩ : ∃ j, n = j + 1 := ⟨n - 1, by omega⟩
    obtain ⟨row, hr, hfr, hdr⟩ := ha.row (i := i) (by omega)
    obtain ⟨d0, rr0, rfl, hd0, hfr0⟩ := Fits.cons hfr
    obtain ⟨x0, rfl, wx0⟩ := hd0.int
    obtain ⟨d1, rr1, rfl, hd1, hfr1⟩ := Fits.cons hfr0
    obtain ⟨x1, rfl, hx1⟩ := hd1.list (n := 1) rfl
    obtain rfl := Fits.nil hfr1
    have eR : szR (a.drop i) = szC [.int .i64 x0, .list 1 x1] + szR (a.drop (i + 1)) := by rw [hdr]; rfl
    rw [F16.L5.succ, ite'_t (lt_t (by omega)), ite'_t (inR_t (by omega)), eR]
    simp only [Int.toNat_natCast, cellI_at hr, cellB_at hr, cellS_at hr, cellL_at hr]
    simp only [List.getElem?_cons_zero, List.getElem?_cons_succ, Option.bind_some, asI_s, asB_s, asS_s, asL_s, bindI_s, bindB_s, bindS_s, bindL_s, bindR_s, resI_s, resB_s, resS_s, resO_s, bne_self_eq_false, beq_self_eq_true, Bool.not_true]
    have cc := c34 (k := k) (by omega) (a0 := x0) hx1 h0 h1
    rw [cc]
    simp only [List.getElem?_cons_zero, List.getElem?_cons_succ, Option.bind_some, asI_s, asB_s, asS_s, asL_s, bindI_s, bindB_s, bindS_s, bindL_s, bindR_s, resI_s, resB_s, resS_s, resO_s, bne_self_eq_false, beq_self_eq_true, Bool.not_true]
    rcases szT_cases left (szC [.int .i64 x0, .list 1 x1]) with ⟨q, e⟩ | ⟨q, e⟩ <;> rw [e]
    · rw [ite'_f (neg_f (by omega)), wrap_succ (m := a.length) (by omega) (by omega) hlen]
      have := ih (i + 1) n (left - ((szC [.int .i64 x0, .list 1 x1] : Nat) : Int)) (by omega) (by omega) (by omega) (by omega)
      rw [show ((i : Int) + 1) = ((i + 1 : Nat) : Int) by omega, this]
      rcases szT_cases (left - ((szC [.int .i64 x0, .list 1 x1] : Nat) : Int)) (szR (a.drop (i + 1))) with ⟨q2, e2⟩ | ⟨q2, e2⟩ <;> rw [e2]
      · rw [szT_pos (by omega)] <;> (congr 6 <;> omega)
      · rw [szT_neg (by omega)]
    · rw [ite'_t neg_t, szT_neg (by omega)]
theorem c16 {k : Nat} (hk : 2000003 ≤ k) {a : Ovi.Rows} (ha : Fit (.list [.int .i64, .list [.int .i64]]) (.list 2 a)) {left : Int} (h0 : 0 ≤ left) (h1 : left ≤ 1048576) : C k 16 [.d (.list 2 a), .d (.int .i64 left)] = some [(false, [.d (.int .i64 (szT left (szD (.list 2 a))))])] := by
  obtain ⟨k, rfl⟩ : ∃ j, k = j + 1 := ⟨k - 1, by omega⟩
  have hlen := ha.len; unfold maxLen at hlen
  rw [F16.run, wrap_id (by omega) (by omega)]
  have eD : szD (.list 2 a) = a.length + szR a := by simp only [szD]
  rw [eD]
  rcases szT_cases left a.length with ⟨q, e⟩ | ⟨q, e⟩
  · rw [ite'_f (neg_f (by omega))]
    have := l16 (k := k) (by omega) ha a.length 0 k (left - (a.length : Int)) (by omega) (by omega) (by omega) (by omega)
    rw [List.drop_zero] at this
    rw [show ((0 : Int)) = ((0 : Nat) : Int) by rfl, this]
    rcases szT_cases (left - (a.length : Int)) (szR a) with ⟨q2, e2⟩ | ⟨q2, e2⟩ <;> rw [e2]
    · rw [szT_pos (by omega)] <;> (congr 6 <;> omega)
    · rw [szT_neg (by omega)]
  · rw [ite'_t (by simp only [decide_eq_true_eq]; omega), szT_neg (by omega)]
/-- laws.szChaseStepS -/
theorem l18 {k : Nat} (hk : 2000002 ≤ k) {a : Ovi.Rows} (ha : Fit (.list [.int .i64, .list [.int .i64]]) (.list 2 a)) : ∀ (m i n : Nat) (left : Int), 0 ≤ left → left ≤ 1048576 → i + m = a.length → m < n → F18.L5 k (C k) n a left (i : Int) = some [(false, [.d (.int .i64 (szT left (szR (a.drop i))))])] := by
  have hlen := ha.len
  intro m; induction m with
  | zero =>
    intro i n left h0 h1 hm hn
    obtain ⟨n, rfl⟩ : ∃ j, n = j + 1 := ⟨n - 1, by omega⟩
    rw [F18.L5.succ, ite'_f (lt_f (by omega)), List.drop_eq_nil_of_le (by omega)]
    simp only [szR, szT_pos (left := left) (s := 0) (by omega)]
    simp
  | succ m ih =>
    intro i n left h0 h1 hm hn
    obtain ⟨n, rfl⟩ : ∃ j, n = j + 1 := ⟨n - 1, by omega⟩
    obtain ⟨row, hr, hfr, hdr⟩ := ha.row (i := i) (by omega)
    obtain ⟨d0, rr0, rfl, hd0, hfr0⟩ := Fits.cons hfr
    obtain ⟨x0, rfl, wx0⟩ := hd0.int
    obtain ⟨d1, rr1, rfl, hd1, hfr1⟩ := Fits.cons hfr0
    obtain ⟨x1, rfl, hx1⟩ := hd1.list (n := 1) rfl
    obtain rfl := Fits.nil hfr1
    have eR : szR (a.drop i) = szC [.int .i64 x0, .list 1 x1] + szR (a.drop (i + 1)) := by rw [hdr]; rfl
    rw [F18.L5.succ, ite'_t (lt_t (by omega)), ite'_t (inR_t (by omega)), eR]
    simp only [Int.toNat_natCast, cellI_at hr, cellB_at hr, cellS_at hr, cellL_at hr]
    simp only [List.getElem?_cons_zero, List.getElem?_cons_succ, Option.bind_some, asI_s, asB_s, asS_s, asL_s, bindI_s, bindB_s, bindS_s, bindL_s, bindR_s, resI_s, resB_s, resS_s, resO_s, bne_self_eq_false, beq_self_eq_true, Bool.not_true]
    have cc := c36 (k := k) (by omega) (a0 := x0) hx1 h0 h1
    rw [cc]
    simp only [List.getElem?_cons_zero, List.getElem?_cons_succ, Option.bind_some, asI_s, asB_s, asS_s, asL_s, bindI_s, bindB_s, bindS_s, bindL_s, bindR_s, resI_s, resB_s, resS_s, resO_s, bne_self_eq_false, beq_self_eq_true, Bool.not_true]
    rcases szT_cases left (szC [.int .i64 x0, .list 1 x1]) with ⟨q, e⟩ | ⟨q, e⟩ <;> rw [e]
    · rw [ite'_f (neg_f (by omega)), wrap_succ (m := a.length) (by omega) (by omega) hlen]
      have := ih (i + 1) n (left - ((szC [.int .i64 x0, .list 1 x1] : Nat) : Int)) (by omega) (by omega) (by omega) (by omega)
      rw [show ((i : Int) + 1) = ((i + 1 : Nat) : Int) by omega, this]
      rcases szT_cases (left - ((szC [.int .i64 x0, .list 1 x1] : Nat) : Int)) (szR (a.drop (i + 1))) with ⟨q2, e2⟩ | ⟨q2, e2⟩ <;> rw [e2]
      · rw [szT_pos (by omega)] <;> (congr 6 <;> omega)
      · rw [szT_neg (by omega)]
    · rw [ite'_t neg_t, szT_neg (by omega)]
theorem c18 {k : Nat} (hk : 2000003 ≤ k) {a : Ovi.Rows} (ha : Fit (.list [.int .i64, .list [.int .i64]]) (.list 2 a)) {left : Int} (h0 : 0 ≤ left) (h1 : left ≤ 1048576) : C k 18 [.d (.list 2 a), .d (.int .i64 left)] = some [(false, [.d (.int .i64 (szT left (szD (.list 2 a))))])] := by
  obtain ⟨k, rfl⟩ : ∃ j, k = j + 1 := ⟨k - 1, by omega⟩
  have hlen := ha.len; unfold maxLen at hlen
  rw [F18.run, wrap_id (by omega) (by omega)]
  have eD : szD (.list 2 a) = a.length + szR a := by simp only [szD]
  rw [eD]
  rcases szT_cases left a.length with ⟨q, e⟩ | ⟨q, e⟩
  · rw [ite'_f (neg_f (by omega))]
    have := l18 (k := k) (by omega) ha a.length 0 k (left - (a.length : Int)) (by omega) (by omega) (by omega) (by omega)
    rw [List.drop_zero] at this
    rw [show ((0 : Int)) = ((0 : Nat) : Int) by rfl, this]
    rcases szT_cases (left - (a.length : Int)) (szR a) with ⟨q2, e2⟩ | ⟨q2, e2⟩ <;> rw [e2]
    · rw [szT_pos (by omega)] <;> (congr 6 <;> omega)
    · rw [szT_neg (by omega)]
  · rw [ite'_t (by simp only [decide_eq_true_eq]; omega), szT_neg (by omega)]
/-- laws.toFactS -/
theorem l23 {k : Nat} (hk : 2000002 ≤ k) {a : Ovi.Rows} (ha : Fit (.list [.int .i64, .list [.int .i64]]) (.list 2 a)) (hs : szR a ≤ 1048576) : ∀ (m i n : Nat) (v : Ovi.Rows), Filled a v i 2 → i + m = a.length → m < n → F23.L3 k (C k) n a (i : Int) v = some [(false, [.row 90 2 a])] := by
  have hlen := ha.len
  intro m; induction m with
  | zero =>
    intro i n v hv hm hn
    obtain ⟨n, rfl⟩ : ∃ j, n = j + 1 := ⟨n - 1, by omega⟩
    obtain rfl : i = a.length := by omega
    rw [F23.L3.succ, ite'_f (lt_f (by omega)), hv.done]
  | succ m ih =>
    intro i n v hv hm hn
    obtain ⟨n, rfl⟩ : ∃ j, n = j + 1 := ⟨n - 1, by omega⟩
    obtain ⟨row, hr, hfr, hdr⟩ := ha.row (i := i) (by omega)
    obtain ⟨d0, rr0, rfl, hd0, hfr0⟩ := Fits.cons hfr
    obtain ⟨x0, rfl, wx0⟩ := hd0.int
    obtain ⟨d1, rr1, rfl, hd1, hfr1⟩ := Fits.cons hfr0
    obtain ⟨x1, rfl, hx1⟩ := hd1.list (n := 1) rfl
    obtain rfl := Fits.nil hfr1
    have hst := hv.step hr rfl
    have hvl := hv.1
    have hszr := szR_at hr
    rw [F23.L3.succ, ite'_t (lt_t (by omega)), ite'_t (inR_t (by omega))]
    simp only [Int.toNat_natCast, cellI_at hr, cellB_at hr, cellS_at hr, cellL_at hr]
    simp only [List.getElem?_cons_zero, List.getElem?_cons_succ, Option.bind_some, asI_s, asB_s, asS_s, asL_s, bindI_s, bindB_s, bindS_s, bindL_s, bindR_s, resI_s, resB_s, resS_s, resO_s, bne_self_eq_false, beq_self_eq_true, Bool.not_true]
    rw [c47 (k := k) (by omega) (a0 := x0) hx1 (by simp only [szC, szD] at hszr ⊢; omega)]
    simp only [List.getElem?_cons_zero, List.getElem?_cons_succ, Option.bind_some, asI_s, asB_s, asS_s, asL_s, bindI_s, bindB_s, bindS_s, bindL_s, bindR_s, resI_s, resB_s, resS_s, resO_s, bne_self_eq_false, beq_self_eq_true, Bool.not_true]
    simp only [F47x0, F47x1]
    simp only [List.getElem?_cons_zero, List.getElem?_cons_succ, Option.bind_some, asI_s, asB_s, asS_s, asL_s, bindI_s, bindB_s, bindS_s, bindL_s, bindR_s, resI_s, resB_s, resS_s, resO_s, bne_self_eq_false, beq_self_eq_true, Bool.not_true]
    rw [ite'_t (inR_t (by omega)), wrap_succ (m := a.length) (by omega) (by omega) hlen]
    rw [show ((i : Int) + 1) = ((i + 1 : Nat) : Int) by omega]
    exact ih (i + 1) n _ hst (by omega) (by omega)
theorem c23 {k : Nat} (hk : 2000003 ≤ k) {a : Ovi.Rows} (ha : Fit (.list [.int .i64, .list [.int .i64]]) (.list 2 a)) (hs : szD (.list 2 a) ≤ 1048576) : C k 23 [.d (.list 2 a)] = some [(false, [.row 90 2 a])] := by
  obtain ⟨k, rfl⟩ : ∃ j, k = j + 1 := ⟨k - 1, by omega⟩
  simp only [szD] at hs
  rw [F23.run, ite'_t (beq_t _), ite'_t (inM_t (by omega))]
  exact l23 (k := k) (by omega) ha (by omega) a.length 0 k _ (Filled.start a _) (by omega) (by omega)
/-- laws.toChaseStepS -/
theorem l25 {k : Nat} (hk : 2000002 ≤ k) {a : Ovi.Rows} (ha : Fit (.list [.int .i64, .list [.int .i64]]) (.list 2 a)) (hs : szR a ≤ 1048576) : ∀ (m i n : Nat) (v : Ovi.Rows), Filled a v i 2 → i + m = a.length → m < n → F25.L3 k (C k) n a (i : Int) v = some [(false, [.row 85 2 a])] := by
  have hlen := ha.len
  intro m; induction m with
  | zero =>
    intro i n v hv hm hn
    obtain ⟨n, rfl⟩ : ∃ j, n = j + 1 := ⟨n - 1, by omega⟩
    obtain rfl : i = a.length := by omega
    rw [F25.L3.succ, ite'_f (lt_f (by omega)), hv.done]
  | succ m ih =>
    intro i n v hv hm hn
    obtain ⟨n, rfl⟩ : ∃ j, n = j + 1 := ⟨n - 1, by omega⟩
    obtain ⟨row, hr, hfr, hdr⟩ := ha.row (i := i) (by omega)
    obtain ⟨d0, rr0, rfl, hd0, hfr0⟩ := Fits.cons hfr
    obtain ⟨x0, rfl, wx0⟩ := hd0.int
    obtain ⟨d1, rr1, rfl, hd1, hfr1⟩ := Fits.cons hfr0
    obtain ⟨x1, rfl, hx1⟩ := hd1.list (n := 1) rfl
    obtain rfl := Fits.nil hfr1
    have hst := hv.step hr rfl
    have hvl := hv.1
    have hszr := szR_at hr
    rw [F25.L3.succ, ite'_t (lt_t (by omega)), ite'_t (inR_t (by omega))]
    simp only [Int.toNat_natCast, cellI_at hr, cellB_at hr, cellS_at hr, cellL_at hr]
    simp only [List.getElem?_cons_zero, List.getElem?_cons_succ, Option.bind_some, asI_s, asB_s, asS_s, asL_s, bindI_s, bindB_s, bindS_s, bindL_s, bindR_s, resI_s, resB_s, resS_s, resO_s, bne_self_eq_false, beq_self_eq_true, Bool.not_true]
    rw [c49 (k := k) (by omega) (a0 := x0) hx1 (by simp only [szC, szD] at hszr ⊢; omega)]
    simp only [List.getElem?_cons_zero, List.getElem?_cons_succ, Option.bind_some, asI_s, asB_s, asS_s, asL_s, bindI_s, bindB_s, bindS_s, bindL_s, bindR_s, resI_s, resB_s, resS_s, resO_s, bne_self_eq_false, beq_self_eq_true, Bool.not_true]
    simp only [F49x0, F49x1]
    simp only [List.getElem?_cons_zero, List.getElem?_cons_succ, Option.bind_some, asI_s, asB_s, asS_s, asL_s, bindI_s, bindB_s, bindS_s, bindL_s, bindR_s, resI_s, resB_s, resS_s, resO_s, bne_self_eq_false, beq_self_eq_true, Bool.not_true]
    rw [ite'_t (inR_t (by omega)), wrap_succ (m := a.length) (by omega) (by omega) hlen]
    rw [show ((i : Int) + 1) = ((i + 1 : Nat) : Int) by omega]
    exact ih (i + 1) n _ hst (by omega) (by omega)
theorem c25 {k : Nat} (hk : 2000003 ≤ k) {a : Ovi.Rows} (ha : Fit (.list [.int .i64, .list [.int .i64]]) (.list 2 a)) (hs : szD (.list 2 a) ≤ 1048576) : C k 25 [.d (.list 2 a)] = some [(false, [.row 85 2 a])] := by
  obtain ⟨k, rfl⟩ : ∃ j, k = j + 1 := ⟨k - 1, by omega⟩
  simp only [szD] at hs
  rw [F25.run, ite'_t (beq_t _), ite'_t (inM_t (by omega))]
  exact l25 (k := k) (by omega) ha (by omega) a.length 0 k _ (Filled.start a _) (by omega) (by omega)
/-- laws.eqFactS -/
theorem l30 {k : Nat} (hk : 2000002 ≤ k) {a : Ovi.Rows} (ha : Fit (.list [.int .i64, .list [.int .i64]]) (.list 2 a)) (hs : szR a ≤ 1048576) : ∀ (m i n : Nat), i + m = a.length → m < n → F30.L4 k (C k) n a a (i : Int) = some [(false, [.d (.bool true)])] := by
  have hlen := ha.len
  intro m; induction m with
  | zero =>
    intro i n hm hn
    obtain ⟨n, rfl⟩ : ∃ j, n = j + 1 := ⟨n - 1, by omega⟩
    rw [F30.L4.succ, ite'_f (lt_f (by omega))]
  | succ m ih =>
    intro i n hm hn
    obtain ⟨n, rfl⟩ : ∃ j, n = j + 1 := ⟨n - 1, by omega⟩
    obtain ⟨row, hr, hfr, hdr⟩ := ha.row (i := i) (by omega)
    obtain ⟨d0, rr0, rfl, hd0, hfr0⟩ := Fits.cons hfr
    obtain ⟨x0, rfl, wx0⟩ := hd0.int
    obtain ⟨d1, rr1, rfl, hd1, hfr1⟩ := Fits.cons hfr0
    obtain ⟨x1, rfl, hx1⟩ := hd1.list (n := 1) rfl
    obtain rfl := Fits.nil hfr1
    have hszr := szR_at hr
    rw [F30.L4.succ, ite'_t (lt_t (by omega)), ite'_t (inR_t (by omega))]
    simp only [Int.toNat_natCast, cellI_at hr, cellB_at hr, cellS_at hr, cellL_at hr]
    simp only [List.getElem?_cons_zero, List.getElem?_cons_succ, Option.bind_some, asI_s, asB_s, asS_s, asL_s, bindI_s, bindB_s, bindS_s, bindL_s, bindR_s, resI_s, resB_s, resS_s, resO_s, bne_self_eq_false, beq_self_eq_true, Bool.not_true]
    rw [ite'_t (inR_t (by omega))]
    rw [c60 (k := k) (by omega) (a0 := x0) hx1 (by simp only [szC, szD] at hszr ⊢; omega)]
    simp only [List.getElem?_cons_zero, List.getElem?_cons_succ, Option.bind_some, asI_s, asB_s, asS_s, asL_s, bindI_s, bindB_s, bindS_s, bindL_s, bindR_s, resI_s, resB_s, resS_s, resO_s, bne_self_eq_false, beq_self_eq_true, Bool.not_true]
    rw [ite'_f rfl, wrap_succ (m := a.length) (by omega) (by omega) hlen]
    rw [show ((i : Int) + 1) = ((i + 1 : Nat) : Int) by omega]
    exact ih (i + 1) n (by omega) (by omega)
theorem c30 {k : Nat} (hk : 2000003 ≤ k) {a : Ovi.Rows} (ha : Fit (.list [.int .i64, .list [.int .i64]]) (.list 2 a)) (hs : szD (.list 2 a) ≤ 1048576) : C k 30 [.d (.list 2 a), .d (.list 2 a)] = some [(false, [.d (.bool true)])] := by
  obtain ⟨k, rfl⟩ : ∃ j, k = j + 1 := ⟨k - 1, by omega⟩
  simp only [szD] at hs
  rw [F30.run, ite'_f (bne_f _)]
  exact l30 (k := k) (by omega) ha (by omega) a.length 0 k (by omega) (by omega)
/-- laws.eqChaseStepS -/
theorem l32 {k : Nat} (hk : 2000002 ≤ k) {a : Ovi.Rows} (ha : Fit (.list [.int .i64, .list [.int .i64]]) (.list 2 a)) (hs : szR a ≤ 1048576) : ∀ (m i n : Nat), i + m = a.length → m < n → F32.L4 k (C k) n a a (i : Int) = some [(false, [.d (.bool true)])] := by
  have hlen := ha.len
  intro m; induction m with
  | zero =>
    intro i n hm hn
    obtain ⟨n, rfl⟩ : ∃ j, n = j + 1 := ⟨n - 1, by omega⟩
    rw [F32.L4.succ, ite'_f (lt_f (by omega))]
  | succ m ih =>
    intro i n hm hn
    obtain ⟨n, rfl⟩ : ∃ j, n = j + 1 := ⟨n - 1, by omega⟩
    obtain ⟨row, hr, hfr, hdr⟩ := ha.row (i := i) (by omega)
    obtain ⟨d0, rr0, rfl, hd0, hfr0⟩ := Fits.cons hfr
    obtain ⟨x0, rfl, wx0⟩ := hd0.int
    obtain ⟨d1, rr1, rfl, hd1, hfr1⟩ := Fits.cons hfr0
    obtain ⟨x1, rfl, hx1⟩ := hd1.list (n := 1) rfl
    obtain rfl := Fits.nil hfr1
    have hszr := szR_at hr
    rw [F32.L4.succ, ite'_t (lt_t (by omega)), ite'_t (inR_t (by omega))]
    simp only [Int.toNat_natCast, cellI_at hr, cellB_at hr, cellS_at hr, cellL_at hr]
    simp only [List.getElem?_cons_zero, List.getElem?_cons_succ, Option.bind_some, asI_s, asB_s, asS_s, asL_s, bindI_s, bindB_s, bindS_s, bindL_s, bindR_s, resI_s, resB_s, resS_s, resO_s, bne_self_eq_false, beq_self_eq_true, Bool.not_true]
    rw [ite'_t (inR_t (by omega))]
    rw [c62 (k := k) (by omega) (a0 := x0) hx1 (by simp only [szC, szD] at hszr ⊢; omega)]
    simp only [List.getElem?_cons_zero, List.getElem?_cons_succ, Option.bind_some, asI_s, asB_s, asS_s, asL_s, bindI_s, bindB_s, bindS_s, bindL_s, bindR_s, resI_s, resB_s, resS_s, resO_s, bne_self_eq_false, beq_self_eq_true, Bool.not_true]
    rw [ite'_f rfl, wrap_succ (m := a.length) (by omega) (by omega) hlen]
    rw [show ((i : Int) + 1) = ((i + 1 : Nat) : Int) by omega]
    exact ih (i + 1) n (by omega) (by omega)
theorem c32 {k : Nat} (hk : 2000003 ≤ k) {a : Ovi.Rows} (ha : Fit (.list [.int .i64, .list [.int .i64]]) (.list 2 a)) (hs : szD (.list 2 a) ≤ 1048576) : C k 32 [.d (.list 2 a), .d (.list 2 a)] = some [(false, [.d (.bool true)])] := by
  obtain ⟨k, rfl⟩ : ∃ j, k = j + 1 := ⟨k - 1, by omega⟩
  simp only [szD] at hs
  rw [F32.run, ite'_f (bne_f _)]
  exact l32 (k := k) (by omega) ha (by omega) a.length 0 k (by omega) (by omega)
/-- laws.szAtomS -/
theorem l35 {k : Nat} (hk : 2000002 ≤ k) {a : Ovi.Rows} (ha : Fit (.list [.int .i64, .list [.int .i64]]) (.list 2 a)) : ∀ (m i n : Nat) (left : Int), 0 ≤ left → left ≤ 1048576 → i + m = a.length → m < n → F35.L5 k (C k) n a left (i : Int) = some [(false, [.d (.int .i64 (szT left (szR (a.drop i))))])] := by
  have hlen := ha.len
  intro m; induction m with
  | zero =>
    intro i n left h0 h1 hm hn
    obtain ⟨n, rfl⟩ : ∃ j, n = j + 1 := ⟨n - 1, by omega⟩
    rw [F35.L5.succ, ite'_f (lt_f (by omega)), List.drop_eq_nil_of_le (by omega)]
    simp only [szR, szT_pos (left := left) (s := 0) (by omega)]
    simp
  | succ m ih =>
    intro i n left h0 h1 hm hn
    obtain ⟨n, rfl⟩ : ∃ j, n = j + 1 := ⟨n - 1, by omega⟩
    obtain ⟨row, hr, hfr, hdr⟩ := ha.row (i := i) (by omega)
    obtain ⟨d0, rr0, rfl, hd0, hfr0⟩ := Fits.cons hfr
    obtain ⟨x0, rfl, wx0⟩ := hd0.int
    obtain ⟨d1, rr1, rfl, hd1, hfr1⟩ := Fits.cons hfr0
    obtain ⟨x1, rfl, hx1⟩ := hd1.list (n := 1) rfl
    obtain rfl := Fits.nil hfr1
    have eR : szR (a.drop i) = szC [.int .i64 x0, .list 1 x1] + szR (a.drop (i + 1)) := by rw [hdr]; rfl
    rw [F35.L5.succ, ite'_t (lt_t (by omega)), ite'_t (inR_t (by omega)), eR]
    simp only [Int.toNat_natCast, cellI_at hr, cellB_at hr, cellS_at hr, cellL_at hr]
    simp only [List.getElem?_cons_zero, List.getElem?_cons_succ, Option.bind_some, asI_s, asB_s, asS_s, asL_s, bindI_s, bindB_s, bindS_s, bindL_s, bindR_s, resI_s, resB_s, resS_s, resO_s, bne_self_eq_false, beq_self_eq_true, Bool.not_true]
    have cc := c64 (k := k) (by omega) (a0 := x0) hx1 h0 h1
    rw [cc]
    simp only [List.getElem?_cons_zero, List.getElem?_cons_succ, Option.bind_some, asI_s, asB_s, asS_s, asL_s, bindI_s, bindB_s, bindS_s, bindL_s, bindR_s, resI_s, resB_s, resS_s, resO_s, bne_self_eq_false, beq_self_eq_true, Bool.not_true]
    rcases szT_cases left (szC [.int .i64 x0, .list 1 x1]) with ⟨q, e⟩ | ⟨q, e⟩ <;> rw [e]
    · rw [ite'_f (neg_f (by omega)), wrap_succ (m := a.length) (by omega) (by omega) hlen]
      have := ih (i + 1) n (left - ((szC [.int .i64 x0, .list 1 x1] : Nat) : Int)) (by omega) (by omega) (by omega) (by omega)
      rw [show ((i : Int) + 1) = ((i + 1 : Nat) : Int) by omega, this]
      rcases szT_cases (left - ((szC [.int .i64 x0, .list 1 x1] : Nat) : Int)) (szR (a.drop (i + 1))) with ⟨q2, e2⟩ | ⟨q2, e2⟩ <;> rw [e2]
      · rw [szT_pos (by omega)] <;> (congr 6 <;> omega)
      · rw [szT_neg (by omega)]
    · rw [ite'_t neg_t, szT_neg (by omega)]
theorem c35 {k : Nat} (hk : 2000003 ≤ k) {a : Ovi.Rows} (ha : Fit (.list [.int .i64, .list [.int .i64]]) (.list 2 a)) {left : Int} (h0 : 0 ≤ left) (h1 : left ≤ 1048576) : C k 35 [.d (.list 2 a), .d (.int .i64 left)] = some [(false, [.d (.int .i64 (szT left (szD (.list 2 a))))])] := by
  obtain ⟨k, rfl⟩ : ∃ j, k = j + 1 := ⟨k - 1, by omega⟩
  have hlen := ha.len; unfold maxLen at hlen
  rw [F35.run, wrap_id (by omega) (by omega)]
  have eD : szD (.list 2 a) = a.length + szR a := by simp only [szD]
  rw [eD]
  rcases szT_cases left a.length with ⟨q, e⟩ | ⟨q, e⟩
  · rw [ite'_f (neg_f (by omega))]
    have := l35 (k := k) (by omega) ha a.length 0 k (left - (a.length : Int)) (by omega) (by omega) (by omega) (by omega)
    rw [List.drop_zero] at this
    rw [show ((0 : Int)) = ((0 : Nat) : Int) by rfl, this]
    rcases szT_cases (left - (a.length : Int)) (szR a) with ⟨q2, e2⟩ | ⟨q2, e2⟩ <;> rw [e2]
    · rw [szT_pos (by omega)] <;> (congr 6 <;> omega)
    · rw [szT_neg (by omega)]
  · rw [ite'_t (by simp only [decide_eq_true_eq]; omega), szT_neg (by omega)]
/-- laws.toAtomS -/
theorem l48 {k : Nat} (hk : 2000002 ≤ k) {a : Ovi.Rows} (ha : Fit (.list [.int .i64, .list [.int .i64]]) (.list 2 a)) (hs : szR a ≤ 1048576) : ∀ (m i n : Nat) (v : Ovi.Rows), Filled a v i 2 → i + m = a.length → m < n → F48.L3 k (C k) n a (i : Int) v = some [(false, [.row 124 2 a])] := by
  have hlen := ha.len
  intro m; induction m with
  | zero =>
    intro i n v hv hm hn
    obtain ⟨n, rfl⟩ : ∃ j, n = j + 1 := ⟨n - 1, by omega⟩
    obtain rfl : i = a.length := by omega
    rw [F48.L3.succ, ite'_f (lt_f (by omega)), hv.done]
  | succ m ih =>
    intro i n v hv hm hn
    obtain ⟨n, rfl⟩ : ∃ j, n = j + 1 := ⟨n - 1, by omega⟩
    obtain ⟨row, hr, hfr, hdr⟩ := ha.row (i := i) (by omega)
    obtain ⟨d0, rr0, rfl, hd0, hfr0⟩ := Fits.cons hfr
    obtain ⟨x0, rfl, wx0⟩ := hd0.int
    obtain ⟨d1, rr1, rfl, hd1, hfr1⟩ := Fits.cons hfr0
    obtain ⟨x1, rfl, hx1⟩ := hd1.list (n := 1) rfl
    obtain rfl := Fits.nil hfr1
    have hst := hv.step hr rfl
    have hvl := hv.1
    have hszr := szR_at hr
    rw [F48.L3.succ, ite'_t (lt_t (by omega)), ite'_t (inR_t (by omega))]
    simp only [Int.toNat_natCast, cellI_at hr, cellB_at hr, cellS_at hr, cellL_at hr]
    simp only [List.getElem?_cons_zero, List.getElem?_cons_succ, Option.bind_some, asI_s, asB_s, asS_s, asL_s, bindI_s, bindB_s, bindS_s, bindL_s, bindR_s, resI_s, resB_s, resS_s, resO_s, bne_self_eq_false, beq_self_eq_true, Bool.not_true]
    rw [c82 (k := k) (by omega) (a0 := x0) hx1 (by simp only [szC, szD] at hszr ⊢; omega)]
    simp only [List.getElem?_cons_zero, List.getElem?_cons_succ, Option.bind_some, asI_s, asB_s, asS_s, asL_s, bindI_s, bindB_s, bindS_s, bindL_s, bindR_s, resI_s, resB_s, resS_s, resO_s, bne_self_eq_false, beq_self_eq_true, Bool.not_true]
    simp only [F82x0, F82x1]
    simp only [List.getElem?_cons_zero, List.getElem?_cons_succ, Option.bind_some, asI_s, asB_s, asS_s, asL_s, bindI_s, bindB_s, bindS_s, bindL_s, bindR_s, resI_s, resB_s, resS_s, resO_s, bne_self_eq_false, beq_self_eq_true, Bool.not_true]
    rw [ite'_t (inR_t (by omega)), wrap_succ (m := a.length) (by omega) (by omega) hlen]
    rw [show ((i : Int) + 1) = ((i + 1 : Nat) : Int) by omega]
    exact ih (i + 1) n _ hst (by omega) (by omega)
theorem c48 {k : Nat} (hk : 2000003 ≤ k) {a : Ovi.Rows} (ha : Fit (.list [.int .i64, .list [.int .i64]]) (.list 2 a)) (hs : szD (.list 2 a) ≤ 1048576) : C k 48 [.d (.list 2 a)] = some [(false, [.row 124 2 a])] := by
  obtain ⟨k, rfl⟩ : ∃ j, k = j + 1 := ⟨k - 1, by omega⟩
  simp only [szD] at hs
  rw [F48.run, ite'_t (beq_t _), ite'_t (inM_t (by omega))]
  exact l48 (k := k) (by omega) ha (by omega) a.length 0 k _ (Filled.start a _) (by omega) (by omega)
/-- laws.eqAtomS -/
theorem l61 {k : Nat} (hk : 2000002 ≤ k) {a : Ovi.Rows} (ha : Fit (.list [.int .i64, .list [.int .i64]]) (.list 2 a)) (hs : szR a ≤ 1048576) : ∀ (m i n : Nat), i + m = a.length → m < n → F61.L4 k (C k) n a a (i : Int) = some [(false, [.d (.bool true)])] := by
  have hlen := ha.len
  intro m; induction m with
  | zero =>
    intro i n hm hn
    obtain ⟨n, rfl⟩ : ∃ j, n = j + 1 := ⟨n - 1, by omega⟩
    rw [F61.L4.succ, ite'_f (lt_f (by omega))]
  | succ m ih =>
    intro i n hm hn
    obtain ⟨n, rfl⟩ : ∃ j, n = j + 1 := ⟨n - 1, by omega⟩
    obtain ⟨row, hr, hfr, hdr⟩ := ha.row (i := i) (by omega)
    obtain ⟨d0, rr0, rfl, hd0, hfr0⟩ := Fits.cons hfr
    obtain ⟨x0, rfl, wx0⟩ := hd0.int
    obtain ⟨d1, rr1, rfl, hd1, hfr1⟩ := Fits.cons hfr0
    obtain ⟨x1, rfl, hx1⟩ := hd1.list (n := 1) rfl
    obtain rfl := Fits.nil hfr1
    have hszr := szR_at hr
    rw [F61.L4.succ, ite'_t (lt_t (by omega)), ite'_t (inR_t (by omega))]
    simp only [Int.toNat_natCast, cellI_at hr, cellB_at hr, cellS_at hr, cellL_at hr]
    simp only [List.getElem?_cons_zero, List.getElem?_cons_succ, Option.bind_some, asI_s, asB_s, asS_s, asL_s, bindI_s, bindB_s, bindS_s, bindL_s, bindR_s, resI_s, resB_s, resS_s, resO_s, bne_self_eq_false, beq_self_eq_true, Bool.not_true]
    rw [ite'_t (inR_t (by omega))]
    rw [c102 (k := k) (by omega) (a0 := x0) hx1 (by simp only [szC, szD] at hszr ⊢; omega)]
    simp only [List.getElem?_cons_zero, List.getElem?_cons_succ, Option.bind_some, asI_s, asB_s, asS_s, asL_s, bindI_s, bindB_s, bindS_s, bindL_s, bindR_s, resI_s, resB_s, resS_s, resO_s, bne_self_eq_false, beq_self_eq_true, Bool.not_true]
    rw [ite'_f rfl, wrap_succ (m := a.length) (by omega) (by omega) hlen]
    rw [show ((i : Int) + 1) = ((i + 1 : Nat) : Int) by omega]
    exact ih (i + 1) n (by omega) (by omega)
theorem c61 {k : Nat} (hk : 2000003 ≤ k) {a : Ovi.Rows} (ha : Fit (.list [.int .i64, .list [.int .i64]]) (.list 2 a)) (hs : szD (.list 2 a) ≤ 1048576) : C k 61 [.d (.list 2 a), .d (.list 2 a)] = some [(false, [.d (.bool true)])] := by
  obtain ⟨k, rfl⟩ : ∃ j, k = j + 1 := ⟨k - 1, by omega⟩
  simp only [szD] at hs
  rw [F61.run, ite'_f (bne_f _)]
  exact l61 (k := k) (by omega) ha (by omega) a.length 0 k (by omega) (by omega)
/-- laws.szInstance -/
theorem c4 {k : Nat} (hk : 2000004 ≤ k) {a0 : Ovi.Rows} (ha0 : Fit (.list [.str, .int .i64, .bool]) (.list 3 a0)) {a1 : Ovi.Rows} (ha1 : Fit (.list [.int .i64, .list [.int .i64]]) (.list 2 a1)) {left : Int} (h0 : 0 ≤ left) (h1 : left ≤ 1048576) : C k 4 [.agg [.d (.list 3 a0), .d (.list 2 a1)], .d (.int .i64 left)] = some [(false, [.d (.int .i64 (szT left (szC [.list 3 a0, .list 2 a1])))])] := by
  obtain ⟨k, rfl⟩ : ∃ j, k = j + 1 := ⟨k - 1, by omega⟩
  have eT : szC [.list 3 a0, .list 2 a1] = (szD (.list 3 a0)) + (szD (.list 2 a1)) := by simp only [szC, szD] <;> omega
  rw [eT, F4.run]
  rw [c15 (k := k) (by omega)  ha0 (left := left) (by omega) (by omega)]
  simp only [List.getElem?_cons_zero, List.getElem?_cons_succ, Option.bind_some, asI_s, asB_s, asS_s, asL_s, bindI_s, bindB_s, bindS_s, bindL_s, bindR_s, resI_s, resB_s, resS_s, resO_s, bne_self_eq_false, beq_self_eq_true, Bool.not_true]
  rcases szT_cases (left) (szD (.list 3 a0)) with ⟨q0, e0⟩ | ⟨q0, e0⟩ <;> rw [e0]
  rotate_left
  · rw [ite'_t (by simp only [decide_eq_true_eq]; omega)] <;> first | rfl | rw [szT_neg (by omega)]
  rw [ite'_f (neg_f (by omega))]
  rw [c16 (k := k) (by omega)  ha1 (left := left - ((szD (.list 3 a0) : Nat) : Int)) (by omega) (by omega)]
  simp only [List.getElem?_cons_zero, List.getElem?_cons_succ, Option.bind_some, asI_s, asB_s, asS_s, asL_s, bindI_s, bindB_s, bindS_s, bindL_s, bindR_s, resI_s, resB_s, resS_s, resO_s, bne_self_eq_false, beq_self_eq_true, Bool.not_true]
  rcases szT_cases (left - ((szD (.list 3 a0) : Nat) : Int)) (szD (.list 2 a1)) with ⟨q1, e1⟩ | ⟨q1, e1⟩ <;> rw [e1]
  rotate_left
  · rw [ite'_t (by simp only [decide_eq_true_eq]; omega)] <;> first | rfl | rw [szT_neg (by omega)]
  rw [ite'_f (neg_f (by omega))] <;> first | rfl | (rw [szT_pos (by omega)] <;> (congr 6 <;> omega))
/-- laws.toInstance -/
theorem F8x0 {a0 : Ovi.Rows} {a1 : Ovi.Rows} : resO 93 3 1 true 2 [(true, [.row 93 3 a0, .row 90 2 a1])] 0 0 = some a0 := rfl
theorem F8x1 {a0 : Ovi.Rows} {a1 : Ovi.Rows} : resO 90 2 1 true 2 [(true, [.row 93 3 a0, .row 90 2 a1])] 0 1 = some a1 := rfl
theorem c8 {k : Nat} (hk : 2000004 ≤ k) {a0 : Ovi.Rows} (ha0 : Fit (.list [.str, .int .i64, .bool]) (.list 3 a0)) {a1 : Ovi.Rows} (ha1 : Fit (.list [.int .i64, .list [.int .i64]]) (.list 2 a1)) (s0 : szD (.list 3 a0) ≤ 1048576) (s1 : szD (.list 2 a1) ≤ 1048576) : C k 8 [.agg [.d (.list 3 a0), .d (.list 2 a1)]] = some [(true, [.row 93 3 a0, .row 90 2 a1])] := by
  obtain ⟨k, rfl⟩ : ∃ j, k = j + 1 := ⟨k - 1, by omega⟩
  rw [F8.run]
  rw [c22 (k := k) (by omega)  ha0 s0]
  simp only [List.getElem?_cons_zero, List.getElem?_cons_succ, Option.bind_some, asI_s, asB_s, asS_s, asL_s, bindI_s, bindB_s, bindS_s, bindL_s, bindR_s, resI_s, resB_s, resS_s, resO_s, bne_self_eq_false, beq_self_eq_true, Bool.not_true]
  rw [c23 (k := k) (by omega)  ha1 s1]
  simp only [List.getElem?_cons_zero, List.getElem?_cons_succ, Option.bind_some, asI_s, asB_s, asS_s, asL_s, bindI_s, bindB_s, bindS_s, bindL_s, bindR_s, resI_s, resB_s, resS_s, resO_s, bne_self_eq_false, beq_self_eq_true, Bool.not_true]
/-- laws.eqInstance -/
theorem c12 {k : Nat} (hk : 2000004 ≤ k) {a0 : Ovi.Rows} (ha0 : Fit (.list [.str, .int .i64, .bool]) (.list 3 a0)) {a1 : Ovi.Rows} (ha1 : Fit (.list [.int .i64, .list [.int .i64]]) (.list 2 a1)) (s0 : szD (.list 3 a0) ≤ 1048576) (s1 : szD (.list 2 a1) ≤ 1048576) : C k 12 [.agg [.d (.list 3 a0), .d (.list 2 a1)], .agg [.d (.list 3 a0), .d (.list 2 a1)]] = some [(false, [.d (.bool true)])] := by
  obtain ⟨k, rfl⟩ : ∃ j, k = j + 1 := ⟨k - 1, by omega⟩
  rw [F12.run]
  rw [c29 (k := k) (by omega)  ha0 s0]
  rw [c30 (k := k) (by omega)  ha1 s1]
  simp only [List.getElem?_cons_zero, List.getElem?_cons_succ, Option.bind_some, asI_s, asB_s, asS_s, asL_s, bindI_s, bindB_s, bindS_s, bindL_s, bindR_s, resI_s, resB_s, resS_s, resO_s, bne_self_eq_false, beq_self_eq_true, Bool.not_true]
  rfl
/-- laws.szDependency -/
theorem c17 {k : Nat} (hk : 2000004 ≤ k) {a0 : Ovi.Rows} (ha0 : Fit (.list [.int .i64, .list [.int .i64]]) (.list 2 a0)) {a1 : Ovi.Rows} (ha1 : Fit (.list [.int .i64, .list [.int .i64]]) (.list 2 a1)) {a2 : Bool} {a3 : Int} {a4 : Int} {left : Int} (h0 : 0 ≤ left) (h1 : left ≤ 1048576) : C k 17 [.agg [.d (.list 2 a0), .d (.list 2 a1), .d (.bool a2), .d (.int .i64 a3), .d (.int .i64 a4)], .d (.int .i64 left)] = some [(false, [.d (.int .i64 (szT left (szC [.list 2 a0, .list 2 a1, .bool a2, .int .i64 a3, .int .i64 a4])))])] := by
  obtain ⟨k, rfl⟩ : ∃ j, k = j + 1 := ⟨k - 1, by omega⟩
  have eT : szC [.list 2 a0, .list 2 a1, .bool a2, .int .i64 a3, .int .i64 a4] = (szD (.list 2 a0)) + (szD (.list 2 a1)) := by simp only [szC, szD] <;> omega
  rw [eT, F17.run]
  rw [c35 (k := k) (by omega)  ha0 (left := left) (by omega) (by omega)]
  simp only [List.getElem?_cons_zero, List.getElem?_cons_succ, Option.bind_some, asI_s, asB_s, asS_s, asL_s, bindI_s, bindB_s, bindS_s, bindL_s, bindR_s, resI_s, resB_s, resS_s, resO_s, bne_self_eq_false, beq_self_eq_true, Bool.not_true]
  rcases szT_cases (left) (szD (.list 2 a0)) with ⟨q0, e0⟩ | ⟨q0, e0⟩ <;> rw [e0]
  rotate_left
  · rw [ite'_t (by simp only [decide_eq_true_eq]; omega)] <;> first | rfl | rw [szT_neg (by omega)]
  rw [ite'_f (neg_f (by omega))]
  rw [c35 (k := k) (by omega)  ha1 (left := left - ((szD (.list 2 a0) : Nat) : Int)) (by omega) (by omega)]
  simp only [List.getElem?_cons_zero, List.getElem?_cons_succ, Option.bind_some, asI_s, asB_s, asS_s, asL_s, bindI_s, bindB_s, bindS_s, bindL_s, bindR_s, resI_s, resB_s, resS_s, resO_s, bne_self_eq_false, beq_self_eq_true, Bool.not_true]
  rcases szT_cases (left - ((szD (.list 2 a0) : Nat) : Int)) (szD (.list 2 a1)) with ⟨q1, e1⟩ | ⟨q1, e1⟩ <;> rw [e1]
  rotate_left
  · rw [ite'_t (by simp only [decide_eq_true_eq]; omega)] <;> first | rfl | rw [szT_neg (by omega)]
  rw [ite'_f (neg_f (by omega))] <;> first | rfl | (rw [szT_pos (by omega)] <;> (congr 6 <;> omega))
/-- laws.toDependency -/
theorem F24x0 {a0 : Ovi.Rows} {a1 : Ovi.Rows} {a2 : Bool} {a3 : Int} {a4 : Int} : resO 124 2 1 true 5 [(true, [.row 124 2 a0, .row 124 2 a1, .d (.bool a2), .d (.int .i64 a3), .d (.int .i64 a4)])] 0 0 = some a0 := rfl
theorem F24x1 {a0 : Ovi.Rows} {a1 : Ovi.Rows} {a2 : Bool} {a3 : Int} {a4 : Int} : resO 124 2 1 true 5 [(true, [.row 124 2 a0, .row 124 2 a1, .d (.bool a2), .d (.int .i64 a3), .d (.int .i64 a4)])] 0 1 = some a1 := rfl
theorem F24x2 {a0 : Ovi.Rows} {a1 : Ovi.Rows} {a2 : Bool} {a3 : Int} {a4 : Int} : resB 1 true 5 [(true, [.row 124 2 a0, .row 124 2 a1, .d (.bool a2), .d (.int .i64 a3), .d (.int .i64 a4)])] 0 2 = some a2 := rfl
theorem F24x3 {a0 : Ovi.Rows} {a1 : Ovi.Rows} {a2 : Bool} {a3 : Int} {a4 : Int} : resI .i64 1 true 5 [(true, [.row 124 2 a0, .row 124 2 a1, .d (.bool a2), .d (.int .i64 a3), .d (.int .i64 a4)])] 0 3 = some a3 := rfl
theorem F24x4 {a0 : Ovi.Rows} {a1 : Ovi.Rows} {a2 : Bool} {a3 : Int} {a4 : Int} : resI .i64 1 true 5 [(true, [.row 124 2 a0, .row 124 2 a1, .d (.bool a2), .d (.int .i64 a3), .d (.int .i64 a4)])] 0 4 = some a4 := rfl
theorem c24 {k : Nat} (hk : 2000004 ≤ k) {a0 : Ovi.Rows} (ha0 : Fit (.list [.int .i64, .list [.int .i64]]) (.list 2 a0)) {a1 : Ovi.Rows} (ha1 : Fit (.list [.int .i64, .list [.int .i64]]) (.list 2 a1)) {a2 : Bool} {a3 : Int} {a4 : Int} (s0 : szD (.list 2 a0) ≤ 1048576) (s1 : szD (.list 2 a1) ≤ 1048576) : C k 24 [.agg [.d (.list 2 a0), .d (.list 2 a1), .d (.bool a2), .d (.int .i64 a3), .d (.int .i64 a4)]] = some [(true, [.row 124 2 a0, .row 124 2 a1, .d (.bool a2), .d (.int .i64 a3), .d (.int .i64 a4)])] := by
  obtain ⟨k, rfl⟩ : ∃ j, k = j + 1 := ⟨k - 1, by omega⟩
  rw [F24.run]
  rw [c48 (k := k) (by omega)  ha0 s0]
  simp only [List.getElem?_cons_zero, List.getElem?_cons_succ, Option.bind_some, asI_s, asB_s, asS_s, asL_s, bindI_s, bindB_s, bindS_s, bindL_s, bindR_s, resI_s, resB_s, resS_s, resO_s, bne_self_eq_false, beq_self_eq_true, Bool.not_true]
  rw [c48 (k := k) (by omega)  ha1 s1]
  simp only [List.getElem?_cons_zero, List.getElem?_cons_succ, Option.bind_some, asI_s, asB_s, asS_s, asL_s, bindI_s, bindB_s, bindS_s, bindL_s, bindR_s, resI_s, resB_s, resS_s, resO_s, bne_self_eq_false, beq_self_eq_true, Bool.not_true]
/-- laws.eqDependency -/
theorem c31 {k : Nat} (hk : 2000004 ≤ k) {a0 : Ovi.Rows} (ha0 : Fit (.list [.int .i64, .list [.int .i64]]) (.list 2 a0)) {a1 : Ovi.Rows} (ha1 : Fit (.list [.int .i64, .list [.int .i64]]) (.list 2 a1)) {a2 : Bool} {a3 : Int} {a4 : Int} (s0 : szD (.list 2 a0) ≤ 1048576) (s1 : szD (.list 2 a1) ≤ 1048576) : C k 31 [.agg [.d (.list 2 a0), .d (.list 2 a1), .d (.bool a2), .d (.int .i64 a3), .d (.int .i64 a4)], .agg [.d (.list 2 a0), .d (.list 2 a1), .d (.bool a2), .d (.int .i64 a3), .d (.int .i64 a4)]] = some [(false, [.d (.bool true)])] := by
  obtain ⟨k, rfl⟩ : ∃ j, k = j + 1 := ⟨k - 1, by omega⟩
  rw [F31.run]
  rw [c61 (k := k) (by omega)  ha0 s0]
  rw [c61 (k := k) (by omega)  ha1 s1]
  simp only [List.getElem?_cons_zero, List.getElem?_cons_succ, Option.bind_some, asI_s, asB_s, asS_s, asL_s, bindI_s, bindB_s, bindS_s, bindL_s, bindR_s, resI_s, resB_s, resS_s, resO_s, bne_self_eq_false, beq_self_eq_true, Bool.not_true]
  rfl
/-- laws.szDependencyS -/
theorem l5 {k : Nat} (hk : 2000004 ≤ k) {a : Ovi.Rows} (ha : Fit (.list [.list [.int .i64, .list [.int .i64]], .list [.int .i64, .list [.int .i64]], .bool, .int .i64, .int .i64]) (.list 5 a)) : ∀ (m i n : Nat) (left : Int), 0 ≤ left → left ≤ 1048576 → i + m = a.length → m < n → F5.L5 k (C k) n a left (i : Int) = some [(false, [.d (.int .i64 (szT left (szR (a.drop i))))])] := by
  have hlen := ha.len
  intro m; induction m with
  | zero =>
    intro i n left h0 h1 hm hn
    obtain ⟨n, rfl⟩ : ∃ j, n = j + 1 := ⟨n - 1, by omega⟩
    rw [F5.L5.succ, ite'_f (lt_f (by omega)), List.drop_eq_nil_of_le (by omega)]
    simp only [szR, szT_pos (left := left) (s := 0) (by omega)]
    simp
  | succ m ih =>
    intro i n left h0 h1 hm hn
    obtain ⟨n, rfl⟩ : ∃ j, n = j + 1 := ⟨n - 1, by omega⟩
    obtain ⟨row, hr, hfr, hdr⟩ := ha.row (i := i) (by omega)
    obtain ⟨d0, rr0, rfl, hd0, hfr0⟩ := Fits.cons hfr
    obtain ⟨x0, rfl, hx0⟩ := hd0.list (n := 2) rfl
    obtain ⟨d1, rr1, rfl, hd1, hfr1⟩ := Fits.cons hfr0
    obtain ⟨x1, rfl, hx1⟩ := hd1.list (n := 2) rfl
    obtain ⟨d2, rr2, rfl, hd2, hfr2⟩ := Fits.cons hfr1
    obtain ⟨x2, rfl⟩ := hd2.bool
    obtain ⟨d3, rr3, rfl, hd3, hfr3⟩ := Fits.cons hfr2
    obtain ⟨x3, rfl, wx3⟩ := hd3.int
    obtain ⟨d4, rr4, rfl, hd4, hfr4⟩ := Fits.cons hfr3
    obtain ⟨x4, rfl, wx4⟩ := hd4.int
    obtain rfl := Fits.nil hfr4
    have eR : szR (a.drop i) = szC [.list 2 x0, .list 2 x1, .bool x2, .int .i64 x3, .int .i64 x4] + szR (a.drop (i + 1)) := by rw [hdr]; rfl
    rw [F5.L5.succ, ite'_t (lt_t (by omega)), ite'_t (inR_t (by omega)), eR]
    simp only [Int.toNat_natCast, cellI_at hr, cellB_at hr, cellS_at hr, cellL_at hr]
    simp only [List.getElem?_cons_zero, List.getElem?_cons_succ, Option.bind_some, asI_s, asB_s, asS_s, asL_s, bindI_s, bindB_s, bindS_s, bindL_s, bindR_s, resI_s, resB_s, resS_s, resO_s, bne_self_eq_false, beq_self_eq_true, Bool.not_true]
    have cc := c17 (k := k) (by omega) (a2 := x2) (a3 := x3) (a4 := x4) hx0 hx1 h0 h1
    rw [cc]
    simp only [List.getElem?_cons_zero, List.getElem?_cons_succ, Option.bind_some, asI_s, asB_s, asS_s, asL_s, bindI_s, bindB_s, bindS_s, bindL_s, bindR_s, resI_s, resB_s, resS_s, resO_s, bne_self_eq_false, beq_self_eq_true, Bool.not_true]
    rcases szT_cases left (szC [.list 2 x0, .list 2 x1, .bool x2, .int .i64 x3, .int .i64 x4]) with ⟨q, e⟩ | ⟨q, e⟩ <;> rw [e]
    · rw [ite'_f (neg_f (by omega)), wrap_succ (m := a.length) (by omega) (by omega) hlen]
      have := ih (i + 1) n (left - ((szC [.list 2 x0, .list 2 x1, .bool x2, .int .i64 x3, .int .i64 x4] : Nat) : Int)) (by omega) (by omega) (by omega) (by omega)
      rw [show ((i : Int) + 1) = ((i + 1 : Nat) : Int) by omega, this]
      rcases szT_cases (left - ((szC [.list 2 x0, .list 2 x1, .bool x2, .int .i64 x3, .int .i64 x4] : Nat) : Int)) (szR (a.drop (i + 1))) with ⟨q2, e2⟩ | ⟨q2, e2⟩ <;> rw [e2]
      · rw [szT_pos (by omega)] <;> (congr 6 <;> omega)
      · rw [szT_neg (by omega)]
    · rw [ite'_t neg_t, szT_neg (by omega)]
theorem c5 {k : Nat} (hk : 2000005 ≤ k) {a : Ovi.Rows} (ha : Fit (.list [.list [.int .i64, .list [.int .i64]], .list [.int .i64, .list [.int .i64]], .bool, .int .i64, .int .i64]) (.list 5 a)) {left : Int} (h0 : 0 ≤ left) (h1 : left ≤ 1048576) : C k 5 [.d (.list 5 a), .d (.int .i64 left)] = some [(false, [.d (.int .i64 (szT left (szD (.list 5 a))))])] := by
  obtain ⟨k, rfl⟩ : ∃ j, k = j + 1 := ⟨k - 1, by omega⟩
  have hlen := ha.len; unfold maxLen at hlen
  rw [F5.run, wrap_id (by omega) (by omega)]
  have eD : szD (.list 5 a) = a.length + szR a := by simp only [szD]
  rw [eD]
  rcases szT_cases left a.length with ⟨q, e⟩ | ⟨q, e⟩
  · rw [ite'_f (neg_f (by omega))]
    have := l5 (k := k) (by omega) ha a.length 0 k (left - (a.length : Int)) (by omega) (by omega) (by omega) (by omega)
    rw [List.drop_zero] at this
    rw [show ((0 : Int)) = ((0 : Nat) : Int) by rfl, this]
    rcases szT_cases (left - (a.length : Int)) (szR a) with ⟨q2, e2⟩ | ⟨q2, e2⟩ <;> rw [e2]
    · rw [szT_pos (by omega)] <;> (congr 6 <;> omega)
    · rw [szT_neg (by omega)]
  · rw [ite'_t (by simp only [decide_eq_true_eq]; omega), szT_neg (by omega)]
/-- laws.szChaseResult -/
theorem c6 {k : Nat} (hk : 2000005 ≤ k) {a0 : Ovi.Rows} (ha0 : Fit (.list [.str, .int .i64, .bool]) (.list 3 a0)) {a1 : Ovi.Rows} (ha1 : Fit (.list [.int .i64, .list [.int .i64]]) (.list 2 a1)) {a2 : Int} {a3 : Ovi.Rows} (ha3 : Fit (.list [.int .i64, .list [.int .i64]]) (.list 2 a3)) {left : Int} (h0 : 0 ≤ left) (h1 : left ≤ 1048576) : C k 6 [.agg [.d (.list 3 a0), .d (.list 2 a1), .d (.int .i64 a2), .d (.list 2 a3)], .d (.int .i64 left)] = some [(false, [.d (.int .i64 (szT left (szC [.list 3 a0, .list 2 a1, .int .i64 a2, .list 2 a3])))])] := by
  obtain ⟨k, rfl⟩ : ∃ j, k = j + 1 := ⟨k - 1, by omega⟩
  have eT : szC [.list 3 a0, .list 2 a1, .int .i64 a2, .list 2 a3] = (szC [.list 3 a0, .list 2 a1]) + (szD (.list 2 a3)) := by simp only [szC, szD] <;> omega
  rw [eT, F6.run]
  rw [c4 (k := k) (by omega)  ha0 ha1 (left := left) (by omega) (by omega)]
  simp only [List.getElem?_cons_zero, List.getElem?_cons_succ, Option.bind_some, asI_s, asB_s, asS_s, asL_s, bindI_s, bindB_s, bindS_s, bindL_s, bindR_s, resI_s, resB_s, resS_s, resO_s, bne_self_eq_false, beq_self_eq_true, Bool.not_true]
  rcases szT_cases (left) (szC [.list 3 a0, .list 2 a1]) with ⟨q0, e0⟩ | ⟨q0, e0⟩ <;> rw [e0]
  rotate_left
  · rw [ite'_t (by simp only [decide_eq_true_eq]; omega)] <;> first | rfl | rw [szT_neg (by omega)]
  rw [ite'_f (neg_f (by omega))]
  rw [c18 (k := k) (by omega)  ha3 (left := left - ((szC [.list 3 a0, .list 2 a1] : Nat) : Int)) (by omega) (by omega)]
  simp only [List.getElem?_cons_zero, List.getElem?_cons_succ, Option.bind_some, asI_s, asB_s, asS_s, asL_s, bindI_s, bindB_s, bindS_s, bindL_s, bindR_s, resI_s, resB_s, resS_s, resO_s, bne_self_eq_false, beq_self_eq_true, Bool.not_true]
  rcases szT_cases (left - ((szC [.list 3 a0, .list 2 a1] : Nat) : Int)) (szD (.list 2 a3)) with ⟨q1, e1⟩ | ⟨q1, e1⟩ <;> rw [e1]
  rotate_left
  · rw [ite'_t (by simp only [decide_eq_true_eq]; omega)] <;> first | rfl | rw [szT_neg (by omega)]
  rw [ite'_f (neg_f (by omega))] <;> first | rfl | (rw [szT_pos (by omega)] <;> (congr 6 <;> omega))
/-- laws.toDependencyS -/
theorem l9 {k : Nat} (hk : 2000004 ≤ k) {a : Ovi.Rows} (ha : Fit (.list [.list [.int .i64, .list [.int .i64]], .list [.int .i64, .list [.int .i64]], .bool, .int .i64, .int .i64]) (.list 5 a)) (hs : szR a ≤ 1048576) : ∀ (m i n : Nat) (v : Ovi.Rows), Filled a v i 5 → i + m = a.length → m < n → F9.L3 k (C k) n a (i : Int) v = some [(false, [.row 63 5 a])] := by
  have hlen := ha.len
  intro m; induction m with
  | zero =>
    intro i n v hv hm hn
    obtain ⟨n, rfl⟩ : ∃ j, n = j + 1 := ⟨n - 1, by omega⟩
    obtain rfl : i = a.length := by omega
    rw [F9.L3.succ, ite'_f (lt_f (by omega)), hv.done]
  | succ m ih =>
    intro i n v hv hm hn
    obtain ⟨n, rfl⟩ : ∃ j, n = j + 1 := ⟨n - 1, by omega⟩
    obtain ⟨row, hr, hfr, hdr⟩ := ha.row (i := i) (by omega)
    obtain ⟨d0, rr0, rfl, hd0, hfr0⟩ := Fits.cons hfr
    obtain ⟨x0, rfl, hx0⟩ := hd0.list (n := 2) rfl
    obtain ⟨d1, rr1, rfl, hd1, hfr1⟩ := Fits.cons hfr0
    obtain ⟨x1, rfl, hx1⟩ := hd1.list (n := 2) rfl
    obtain ⟨d2, rr2, rfl, hd2, hfr2⟩ := Fits.cons hfr1
    obtain ⟨x2, rfl⟩ := hd2.bool
    obtain ⟨d3, rr3, rfl, hd3, hfr3⟩ := Fits.cons hfr2
    obtain ⟨x3, rfl, wx3⟩ := hd3.int
    obtain ⟨d4, rr4, rfl, hd4, hfr4⟩ := Fits.cons hfr3
    obtain ⟨x4, rfl, wx4⟩ := hd4.int
    obtain rfl := Fits.nil hfr4
    have hst := hv.step hr rfl
    have hvl := hv.1
    have hszr := szR_at hr
    rw [F9.L3.succ, ite'_t (lt_t (by omega)), ite'_t (inR_t (by omega))]
    simp only [Int.toNat_natCast, cellI_at hr, cellB_at hr, cellS_at hr, cellL_at hr]
    simp only [List.getElem?_cons_zero, List.getElem?_cons_succ, Option.bind_some, asI_s, asB_s, asS_s, asL_s, bindI_s, bindB_s, bindS_s, bindL_s, bindR_s, resI_s, resB_s, resS_s, resO_s, bne_self_eq_false, beq_self_eq_true, Bool.not_true]
    rw [c24 (k := k) (by omega) (a2 := x2) (a3 := x3) (a4 := x4) hx0 hx1 (by simp only [szC, szD] at hszr ⊢; omega) (by simp only [szC, szD] at hszr ⊢; omega)]
    simp only [List.getElem?_cons_zero, List.getElem?_cons_succ, Option.bind_some, asI_s, asB_s, asS_s, asL_s, bindI_s, bindB_s, bindS_s, bindL_s, bindR_s, resI_s, resB_s, resS_s, resO_s, bne_self_eq_false, beq_self_eq_true, Bool.not_true]
    simp only [F24x0, F24x1, F24x2, F24x3, F24x4]
    simp only [List.getElem?_cons_zero, List.getElem?_cons_succ, Option.bind_some, asI_s, asB_s, asS_s, asL_s, bindI_s, bindB_s, bindS_s, bindL_s, bindR_s, resI_s, resB_s, resS_s, resO_s, bne_self_eq_false, beq_self_eq_true, Bool.not_true]
    rw [ite'_t (inR_t (by omega)), wrap_succ (m := a.length) (by omega) (by omega) hlen]
    rw [show ((i : Int) + 1) = ((i + 1 : Nat) : Int) by omega]
    exact ih (i + 1) n _ hst (by omega) (by omega)
theorem c9 {k : Nat} (hk : 2000005 ≤ k) {a : Ovi.Rows} (ha : Fit (.list [.list [.int .i64, .list [.int .i64]], .list [.int .i64, .list [.int .i64]], .bool, .int .i64, .int .i64]) (.list 5 a)) (hs : szD (.list 5 a) ≤ 1048576) : C k 9 [.d (.list 5 a)] = some [(false, [.row 63 5 a])] := by
  obtain ⟨k, rfl⟩ : ∃ j, k = j + 1 := ⟨k - 1, by omega⟩
  simp only [szD] at hs
  rw [F9.run, ite'_t (beq_t _), ite'_t (inM_t (by omega))]
  exact l9 (k := k) (by omega) ha (by omega) a.length 0 k _ (Filled.start a _) (by omega) (by omega)
/-- laws.toChaseResult -/
theorem F10x0 {a0 : Ovi.Rows} {a1 : Ovi.Rows} {a2 : Int} {a3 : Ovi.Rows} : resO 93 3 1 true 4 [(true, [.row 93 3 a0, .row 90 2 a1, .d (.int .i64 a2), .row 85 2 a3])] 0 0 = some a0 := rfl
theorem F10x1 {a0 : Ovi.Rows} {a1 : Ovi.Rows} {a2 : Int} {a3 : Ovi.Rows} : resO 90 2 1 true 4 [(true, [.row 93 3 a0, .row 90 2 a1, .d (.int .i64 a2), .row 85 2 a3])] 0 1 = some a1 := rfl
theorem F10x2 {a0 : Ovi.Rows} {a1 : Ovi.Rows} {a2 : Int} {a3 : Ovi.Rows} : resI .i64 1 true 4 [(true, [.row 93 3 a0, .row 90 2 a1, .d (.int .i64 a2), .row 85 2 a3])] 0 2 = some a2 := rfl
theorem F10x3 {a0 : Ovi.Rows} {a1 : Ovi.Rows} {a2 : Int} {a3 : Ovi.Rows} : resO 85 2 1 true 4 [(true, [.row 93 3 a0, .row 90 2 a1, .d (.int .i64 a2), .row 85 2 a3])] 0 3 = some a3 := rfl
theorem c10 {k : Nat} (hk : 2000005 ≤ k) {a0 : Ovi.Rows} (ha0 : Fit (.list [.str, .int .i64, .bool]) (.list 3 a0)) {a1 : Ovi.Rows} (ha1 : Fit (.list [.int .i64, .list [.int .i64]]) (.list 2 a1)) {a2 : Int} {a3 : Ovi.Rows} (ha3 : Fit (.list [.int .i64, .list [.int .i64]]) (.list 2 a3)) (s0 : szD (.list 3 a0) ≤ 1048576) (s1 : szD (.list 2 a1) ≤ 1048576) (s3 : szD (.list 2 a3) ≤ 1048576) : C k 10 [.agg [.d (.list 3 a0), .d (.list 2 a1), .d (.int .i64 a2), .d (.list 2 a3)]] = some [(true, [.row 93 3 a0, .row 90 2 a1, .d (.int .i64 a2), .row 85 2 a3])] := by
  obtain ⟨k, rfl⟩ : ∃ j, k = j + 1 := ⟨k - 1, by omega⟩
  rw [F10.run]
  rw [c8 (k := k) (by omega)  ha0 ha1 s0 s1]
  simp only [List.getElem?_cons_zero, List.getElem?_cons_succ, Option.bind_some, asI_s, asB_s, asS_s, asL_s, bindI_s, bindB_s, bindS_s, bindL_s, bindR_s, resI_s, resB_s, resS_s, resO_s, bne_self_eq_false, beq_self_eq_true, Bool.not_true]
  simp only [F8x0, F8x1]
  simp only [List.getElem?_cons_zero, List.getElem?_cons_succ, Option.bind_some, asI_s, asB_s, asS_s, asL_s, bindI_s, bindB_s, bindS_s, bindL_s, bindR_s, resI_s, resB_s, resS_s, resO_s, bne_self_eq_false, beq_self_eq_true, Bool.not_true]
  rw [c25 (k := k) (by omega)  ha3 s3]
  simp only [List.getElem?_cons_zero, List.getElem?_cons_succ, Option.bind_some, asI_s, asB_s, asS_s, asL_s, bindI_s, bindB_s, bindS_s, bindL_s, bindR_s, resI_s, resB_s, resS_s, resO_s, bne_self_eq_false, beq_self_eq_true, Bool.not_true]
/-- laws.eqDependencyS -/
theorem l13 {k : Nat} (hk : 2000004 ≤ k) {a : Ovi.Rows} (ha : Fit (.list [.list [.int .i64, .list [.int .i64]], .list [.int .i64, .list [.int .i64]], .bool, .int .i64, .int .i64]) (.list 5 a)) (hs : szR a ≤ 1048576) : ∀ (m i n : Nat), i + m = a.length → m < n → F13.L4 k (C k) n a a (i : Int) = some [(false, [.d (.bool true)])] := by
  have hlen := ha.len
  intro m; induction m with
  | zero =>
    intro i n hm hn
    obtain ⟨n, rfl⟩ : ∃ j, n = j + 1 := ⟨n - 1, by omega⟩
    rw [F13.L4.succ, ite'_f (lt_f (by omega))]
  | succ m ih =>
    intro i n hm hn
    obtain ⟨n, rfl⟩ : ∃ j, n = j + 1 := ⟨n - 1, by omega⟩
    obtain ⟨row, hr, hfr, hdr⟩ := ha.row (i := i) (by omega)
    obtain ⟨d0, rr0, rfl, hd0, hfr0⟩ := Fits.cons hfr
    obtain ⟨x0, rfl, hx0⟩ := hd0.list (n := 2) rfl
    obtain ⟨d1, rr1, rfl, hd1, hfr1⟩ := Fits.cons hfr0
    obtain ⟨x1, rfl, hx1⟩ := hd1.list (n := 2) rfl
    obtain ⟨d2, rr2, rfl, hd2, hfr2⟩ := Fits.cons hfr1
    obtain ⟨x2, rfl⟩ := hd2.bool
    obtain ⟨d3, rr3, rfl, hd3, hfr3⟩ := Fits.cons hfr2
    obtain ⟨x3, rfl, wx3⟩ := hd3.int
    obtain ⟨d4, rr4, rfl, hd4, hfr4⟩ := Fits.cons hfr3
    obtain ⟨x4, rfl, wx4⟩ := hd4.int
    obtain rfl := Fits.nil hfr4
    have hszr := szR_at hr
    rw [F13.L4.succ, ite'_t (lt_t (by omega)), ite'_t (inR_t (by omega))]
    simp only [Int.toNat_natCast, cellI_at hr, cellB_at hr, cellS_at hr, cellL_at hr]
    simp only [List.getElem?_cons_zero, List.getElem?_cons_succ, Option.bind_some, asI_s, asB_s, asS_s, asL_s, bindI_s, bindB_s, bindS_s, bindL_s, bindR_s, resI_s, resB_s, resS_s, resO_s, bne_self_eq_false, beq_self_eq_true, Bool.not_true]
    rw [ite'_t (inR_t (by omega))]
    rw [c31 (k := k) (by omega) (a2 := x2) (a3 := x3) (a4 := x4) hx0 hx1 (by simp only [szC, szD] at hszr ⊢; omega) (by simp only [szC, szD] at hszr ⊢; omega)]
    simp only [List.getElem?_cons_zero, List.getElem?_cons_succ, Option.bind_some, asI_s, asB_s, asS_s, asL_s, bindI_s, bindB_s, bindS_s, bindL_s, bindR_s, resI_s, resB_s, resS_s, resO_s, bne_self_eq_false, beq_self_eq_true, Bool.not_true]
    rw [ite'_f rfl, wrap_succ (m := a.length) (by omega) (by omega) hlen]
    rw [show ((i : Int) + 1) = ((i + 1 : Nat) : Int) by omega]
    exact ih (i + 1) n (by omega) (by omega)
theorem c13 {k : Nat} (hk : 2000005 ≤ k) {a : Ovi.Rows} (ha : Fit (.list [.list [.int .i64, .list [.int .i64]], .list [.int .i64, .list [.int .i64]], .bool, .int .i64, .int .i64]) (.list 5 a)) (hs : szD (.list 5 a) ≤ 1048576) : C k 13 [.d (.list 5 a), .d (.list 5 a)] = some [(false, [.d (.bool true)])] := by
  obtain ⟨k, rfl⟩ : ∃ j, k = j + 1 := ⟨k - 1, by omega⟩
  simp only [szD] at hs
  rw [F13.run, ite'_f (bne_f _)]
  exact l13 (k := k) (by omega) ha (by omega) a.length 0 k (by omega) (by omega)
/-- laws.eqChaseResult -/
theorem c14 {k : Nat} (hk : 2000005 ≤ k) {a0 : Ovi.Rows} (ha0 : Fit (.list [.str, .int .i64, .bool]) (.list 3 a0)) {a1 : Ovi.Rows} (ha1 : Fit (.list [.int .i64, .list [.int .i64]]) (.list 2 a1)) {a2 : Int} {a3 : Ovi.Rows} (ha3 : Fit (.list [.int .i64, .list [.int .i64]]) (.list 2 a3)) (s0 : szD (.list 3 a0) ≤ 1048576) (s1 : szD (.list 2 a1) ≤ 1048576) (s3 : szD (.list 2 a3) ≤ 1048576) : C k 14 [.agg [.d (.list 3 a0), .d (.list 2 a1), .d (.int .i64 a2), .d (.list 2 a3)], .agg [.d (.list 3 a0), .d (.list 2 a1), .d (.int .i64 a2), .d (.list 2 a3)]] = some [(false, [.d (.bool true)])] := by
  obtain ⟨k, rfl⟩ : ∃ j, k = j + 1 := ⟨k - 1, by omega⟩
  rw [F14.run]
  rw [c12 (k := k) (by omega)  ha0 ha1 s0 s1]
  rw [c32 (k := k) (by omega)  ha3 s3]
  simp only [List.getElem?_cons_zero, List.getElem?_cons_succ, Option.bind_some, asI_s, asB_s, asS_s, asL_s, bindI_s, bindB_s, bindS_s, bindL_s, bindR_s, resI_s, resB_s, resS_s, resO_s, bne_self_eq_false, beq_self_eq_true, Bool.not_true]
  rfl
end Go.Proofs.YtkkaikcjcjkpbaaGreat.Q

/-! VHa -/
namespace Go.Proofs.YtkkaikcjcjkpbaaGreat.Q
open Go Ovi

def bo (b : Bool) : Option Res := some [(false, [.d (.bool b)])]
theorem bo_eq {b c : Bool} (h : b = c) : bo b = bo c := by rw [h]
/-- spec.l1In -/
theorem c40 (k : Nat) (a l h : Int) : C (k + 1) 40 [.d (.int .i64 a), .d (.int .i64 l), .d (.int .i64 h)] = bo (decide (l ≤ a ∧ a ≤ h)) := by
  rw [F40.run]
  by_cases h1 : l ≤ a
  · rw [ite'_t (by simpa using h1)]; exact bo_eq (by simp [h1])
  · rw [ite'_f (by simpa using h1)]; exact bo_eq (by simp [h1])
/-- impl.within -/
theorem c53 (k : Nat) (a l h : Int) : C (k + 1) 53 [.d (.int .i64 a), .d (.int .i64 l), .d (.int .i64 h)] = bo (decide (l ≤ a ∧ a ≤ h)) := by
  rw [F53.run]
  by_cases h1 : l ≤ a
  · rw [ite'_t (by simpa using h1)]; exact bo_eq (by simp [h1])
  · rw [ite'_f (by simpa using h1)]; exact bo_eq (by simp [h1])
theorem bB (b : Bool) (k : Bool → Option Res) : (bindR (bo b) fun r => bindB (resB 1 false 1 r 0 0) k) = k b := rfl
theorem iB {x y : Option Res} (b : Bool) : ite' b x y = cond b x y := rfl
variable {k : Nat}
/-- spec.l4Has -/
theorem c108 (zs : List Int) (v : Int) (hk : zs.length < k) (hz : zs.length ≤ maxLen) : C (k + 1) 108 [.d (.list 1 (I1 zs)), .d (.int .i64 v)] = bo (decide (v ∈ zs)) := by
  rw [F108.run]
  have := loop_any (xs := zs) (L := fun n i => F108.L2 k (C k) n (I1 zs) v i) (stop := fun x => x == v) (hit := bo true) (fin := bo false)
    (fun n i x hx => by
      have hi := (List.getElem?_eq_some_iff.1 hx).1
      rw [F108.L2.succ, I1_len, ite'_t (lt_t hi), ite'_t (inR_t hi)]
      simp only [Int.toNat_natCast, cellI_at (I1_get' hx), List.getElem?_cons_zero, Option.bind_some, asI_s, bindI_s]
      rw [next_i hi hz]; rfl)
    (fun n => by rw [F108.L2.succ, I1_len, ite'_f (lt_f (by omega))]; rfl) k hk
  rw [show F108.L2 k (C k) k (I1 zs) v 0 = _ from this]
  by_cases h : v ∈ zs
  · rw [List.any_eq_true.2 ⟨v, h, by simp⟩]; exact bo_eq (by simp [h])
  · rw [show zs.any (fun x => x == v) = false by rw [List.any_eq_false]; intro x hx; simp; intro e; exact h (e ▸ hx)]; exact bo_eq (by simp [h])
/-- slices.Contains on integers -/
theorem c128 (zs : List Int) (v : Int) (hk : zs.length < k) (hz : zs.length ≤ maxLen) : C (k + 2) 128 [.d (.list 1 (I1 zs)), .d (.int .i64 v)] = bo (decide (v ∈ zs)) := by
  rw [F128.run, F151.run, I1_len]
  have := loop_find (xs := zs) (L := fun n i => F151.L2 k (C k) n (I1 zs) v (zs.length : Int) i) (stop := fun _ x => v == x) (hit := fun i => some [(false, [.d (.int .i64 (i : Int))])]) (fin := some [(false, [.d (.int .i64 (-1))])])
    (fun n i x hx => by
      have hi := (List.getElem?_eq_some_iff.1 hx).1
      rw [F151.L2.succ, I1_len, ite'_t (lt_t hi), ite'_t (inR_t hi)]
      simp only [Int.toNat_natCast, cellI_at (I1_get' hx), List.getElem?_cons_zero, Option.bind_some, asI_s, bindI_s]
      rw [next_i hi hz]; rfl)
    (fun n => by rw [F151.L2.succ, ite'_f (lt_f (by omega))]) k hk
  rcases this with ⟨i, x, hx, hst, e⟩ | ⟨hst, e⟩
  · rw [show F151.L2 k (C k) k (I1 zs) v (zs.length : Int) 0 = _ from e]
    simp only [bindR_s, resI_s, bindI_s]
    have : v = x := by simpa using hst
    subst this
    exact bo_eq (by rw [decide_eq_true (List.mem_of_getElem? hx)]; simp)
  · rw [show F151.L2 k (C k) k (I1 zs) v (zs.length : Int) 0 = _ from e]
    simp only [bindR_s, resI_s, bindI_s]
    refine bo_eq ?_
    rw [decide_eq_false (p := v ∈ zs) (fun h => ?_)]
    · rfl
    · obtain ⟨i, hi⟩ := List.mem_iff_getElem?.1 h
      have := hst i v hi
      simp at this
/-- slices.ContainsFunc on integers -/
theorem c118 (zs : List Int) (f : FuncId) (caps : Ovi.Rows) (p : Int → Bool) (hk : zs.length < k) (hz : zs.length ≤ maxLen) (hp : ∀ z ∈ zs, C k f (.d (.int .i64 z) :: caps.map fun c => .cap c 0) = bo (p z)) : C (k + 2) 118 [.d (.list 1 (I1 zs)), .d (.fn f caps)] = bo (zs.any p) := by
  rw [F118.run, F145.run, I1_len]
  have := loop_find (xs := zs) (L := fun n i => F145.L2 k (C k) n (I1 zs) f caps (zs.length : Int) i) (stop := fun _ x => p x) (hit := fun i => some [(false, [.d (.int .i64 (i : Int))])]) (fin := some [(false, [.d (.int .i64 (-1))])])
    (fun n i x hx => by
      have hi := (List.getElem?_eq_some_iff.1 hx).1
      rw [F145.L2.succ, I1_len, ite'_t (lt_t hi), ite'_t (inR_t hi)]
      simp only [Int.toNat_natCast, cellI_at (I1_get' hx), List.getElem?_cons_zero, Option.bind_some, asI_s, bindI_s]
      rw [next_i hi hz]
      have := hp x (List.mem_of_getElem? hx)
      simp only [List.append_eq, List.nil_append] at this ⊢
      rw [this, bB]; rfl)
    (fun n => by rw [F145.L2.succ, ite'_f (lt_f (by omega))]) k hk
  rcases this with ⟨i, x, hx, hst, e⟩ | ⟨hst, e⟩
  · rw [show F145.L2 k (C k) k (I1 zs) f caps (zs.length : Int) 0 = _ from e]
    simp only [bindR_s, resI_s, bindI_s]
    exact bo_eq (by rw [List.any_eq_true.2 ⟨x, List.mem_of_getElem? hx, hst⟩]; simp)
  · rw [show F145.L2 k (C k) k (I1 zs) f caps (zs.length : Int) 0 = _ from e]
    simp only [bindR_s, resI_s, bindI_s]
    refine bo_eq ?_
    rw [List.any_eq_false.2 (fun x hx => ?_)]
    · rfl
    · obtain ⟨i, hi⟩ := List.mem_iff_getElem?.1 hx
      simpa using hst i x hi
/-- slices.ContainsFunc on atoms -/
theorem c129 (xs : List Atom) (f : FuncId) (caps : Ovi.Rows) (p : Atom → Bool) (hk : xs.length < k) (hz : xs.length ≤ maxLen) (hp : ∀ x ∈ xs, C k f (.agg [.d (.int .i64 x.1), .d (.list 1 (I1 x.2))] :: caps.map fun c => .cap c 0) = bo (p x)) : C (k + 2) 129 [.d (.list 2 (A1 xs)), .d (.fn f caps)] = bo (xs.any p) := by
  rw [F129.run, F152.run, A1_len]
  have := loop_find (xs := xs) (L := fun n i => F152.L2 k (C k) n (A1 xs) f caps (xs.length : Int) i) (stop := fun _ x => p x) (hit := fun i => some [(false, [.d (.int .i64 (i : Int))])]) (fin := some [(false, [.d (.int .i64 (-1))])])
    (fun n i x hx => by
      have hi := (List.getElem?_eq_some_iff.1 hx).1
      rw [F152.L2.succ, A1_len, ite'_t (lt_t hi), ite'_t (inR_t hi)]
      simp only [Int.toNat_natCast, cellI_at (A1_get hx), cellL_at (A1_get hx), List.getElem?_cons_zero, List.getElem?_cons_succ, Option.bind_some, asI_s, asL_s, bindI_s, bindL_s]
      rw [next_i hi hz]
      have := hp x (List.mem_of_getElem? hx)
      simp only [List.append_eq, List.nil_append] at this ⊢
      rw [this, bB]; rfl)
    (fun n => by rw [F152.L2.succ, ite'_f (lt_f (by omega))]) k hk
  rcases this with ⟨i, x, hx, hst, e⟩ | ⟨hst, e⟩
  · rw [show F152.L2 k (C k) k (A1 xs) f caps (xs.length : Int) 0 = _ from e]
    simp only [bindR_s, resI_s, bindI_s]
    exact bo_eq (by rw [List.any_eq_true.2 ⟨x, List.mem_of_getElem? hx, hst⟩]; simp)
  · rw [show F152.L2 k (C k) k (A1 xs) f caps (xs.length : Int) 0 = _ from e]
    simp only [bindR_s, resI_s, bindI_s]
    refine bo_eq ?_
    rw [List.any_eq_false.2 (fun x hx => ?_)]
    · rfl
    · obtain ⟨i, hi⟩ := List.mem_iff_getElem?.1 hx
      simpa using hst i x hi

/-! ### relations -/
def Rl : Ty := .list [.str, .int .i64, .bool]
/-- both IsValidRelation -/
def relOk (s : List UInt8) (n : Int) : Bool := decide (s.length = 1) && (decide (byteAt s 0 ≥ 97) && (decide (byteAt s 0 ≤ 122) && decide (1 ≤ n ∧ n ≤ 3)))
theorem c117 (s : List UInt8) (n : Int) (b : Bool) : C (k + 2) 117 [.agg [.d (.str s), .d (.int .i64 n), .d (.bool b)]] = bo (relOk s n) := by
  rw [F117.run]
  by_cases h : s.length = 1
  · obtain ⟨h1, h2⟩ := letter s h
    rw [ite'_t (by simp; omega), h1, h2, c53, bB]
    unfold relOk
    rw [decide_eq_true h]
    cases decide (byteAt s 0 ≥ 97) <;> cases decide (byteAt s 0 ≤ 122) <;> rfl
  · rw [ite'_f (by simp; omega)]
    unfold relOk
    rw [decide_eq_false h]
    rfl
theorem c105 (s : List UInt8) (n : Int) (b : Bool) : C (k + 2) 105 [.agg [.d (.str s), .d (.int .i64 n), .d (.bool b)]] = bo (relOk s n) := by
  rw [F105.run]
  by_cases h : s.length = 1
  · rw [ite'_t (by simp; omega), ite'_t (by simp [inR]; omega), ite'_t (b := inR 0 s.length) (by simp [inR]; omega), c40, bB]
    unfold relOk
    rw [decide_eq_true h]
    cases decide (byteAt s 0 ≥ 97) <;> cases decide (byteAt s 0 ≤ 122) <;> rfl
  · rw [ite'_f (by simp; omega)]
    unfold relOk
    rw [decide_eq_false h]
    rfl
/-- the arity that a relation has -/
def ar (a : Ovi.Rows) (r : Int) : Int := (cellI .i64 a r.toNat 1).getD (-1)
/-- both AreValidRelations answer alike -/
theorem rels3 {a : Ovi.Rows} (ha : Fit Rl (.list 3 a)) : ∃ b, (b = true → ∀ r : Int, 0 ≤ r → r < (a.length : Int) → ar a r ≤ 3) ∧ ∀ k, a.length < k → C (k + 3) 83 [.d (.list 3 a)] = bo b ∧ C (k + 3) 67 [.d (.list 3 a)] = bo b := by
  have hlen := ha.len
  have key : ∀ (m i : Nat), i + m = a.length → ∃ b, (b = true → ∀ r : Int, (i : Int) ≤ r → r < (a.length : Int) → ar a r ≤ 3) ∧ ∀ k n, m < n → F83.L2 (k + 2) (C (k + 2)) n a a (a.length : Int) (i : Int) = bo b ∧ F67.L2 (k + 2) (C (k + 2)) n a (i : Int) = bo b := by
    intro m
    induction m with
    | zero =>
      intro i hm
      refine ⟨decide ((a.length : Int) ≤ 6), fun _ r h1 h2 => (by omega), fun k n hn => ?_⟩
      obtain ⟨n, rfl⟩ : ∃ j, n = j + 1 := ⟨n - 1, by omega⟩
      constructor
      · rw [F83.L2.succ, ite'_f (lt_f (by omega))]; rfl
      · rw [F67.L2.succ, ite'_f (lt_f (by omega))]; rfl
    | succ m ih =>
      intro i hm
      have hi : i < a.length := by omega
      obtain ⟨row, hr, hfr, _⟩ := ha.row hi
      obtain ⟨d0, r0, rfl, f0, h1⟩ := Fits.cons hfr
      obtain ⟨d1, r1, rfl, f1, h1⟩ := Fits.cons h1
      obtain ⟨d2, r2, rfl, f2, h1⟩ := Fits.cons h1
      obtain rfl := Fits.nil h1
      obtain ⟨s, rfl, hs⟩ := f0.str
      obtain ⟨x, rfl, _⟩ := f1.int
      obtain ⟨b, rfl⟩ := f2.bool
      obtain ⟨bb, ih3, ih⟩ := ih (i + 1) (by omega)
      have har : relOk s x = true → bb = true → ∀ r : Int, (i : Int) ≤ r → r < (a.length : Int) → ar a r ≤ 3 := by
        intro hv hbb r h1 h2
        by_cases hri : r = (i : Int)
        · subst hri
          have : ar a (i : Int) = x := by unfold ar; rw [Int.toNat_natCast, cellI_at hr]; simp [asI_s]
          unfold relOk at hv
          simp only [Bool.and_eq_true, decide_eq_true_eq] at hv
          omega
        · exact ih3 hbb r (by omega) h2
      have step : ∀ k n, F83.L2 (k + 2) (C (k + 2)) (n + 1) a a (a.length : Int) (i : Int) = ite' (!relOk s x) (bo false) (ite' (decide ((i : Int) > 0)) (ite' (inR (IntKind.i64.wrap ((i : Int) - 1)) a.length) (bindS (cellS a (IntKind.i64.wrap ((i : Int) - 1)).toNat 0) fun s13 => ite' (sLess s s13 || s == s13) (bo false) (F83.L2 (k + 2) (C (k + 2)) n a a (a.length : Int) ((i + 1 : Nat) : Int))) none) (F83.L2 (k + 2) (C (k + 2)) n a a (a.length : Int) ((i + 1 : Nat) : Int))) ∧
          F67.L2 (k + 2) (C (k + 2)) (n + 1) a (i : Int) = ite' (!relOk s x) (bo false) (ite' (decide ((i : Int) > 0)) (ite' (inR (IntKind.i64.wrap ((i : Int) - 1)) a.length) (bindS (cellS a (IntKind.i64.wrap ((i : Int) - 1)).toNat 0) fun s11 => ite' (!sLess s11 s) (bo false) (F67.L2 (k + 2) (C (k + 2)) n a ((i + 1 : Nat) : Int))) none) (F67.L2 (k + 2) (C (k + 2)) n a ((i + 1 : Nat) : Int))) := by
        intro k n
        rw [F83.L2.succ, F67.L2.succ, ite'_t (lt_t hi), ite'_t (inR_t hi), ite'_t (lt_t hi), ite'_t (inR_t hi)]
        simp only [Int.toNat_natCast, cellI_at hr, cellS_at hr, cellB_at hr, List.getElem?_cons_zero, List.getElem?_cons_succ, Option.bind_some, asI_s, asS_s, asB_s, bindI_s, bindS_s, bindB_s]
        rw [c117, c105, next_i hi hlen, bB, bB]
        refine ⟨rfl, ?_⟩
        simp only [show ∀ x y : Option Res, ite' (inR (i : Int) a.length) x y = x from fun x y => ite'_t (inR_t hi)]
        rfl
      cases hv : relOk s x with
      | false =>
        refine ⟨false, fun h => (by cases h), fun k n hn => ?_⟩
        obtain ⟨n, rfl⟩ : ∃ j, n = j + 1 := ⟨n - 1, by omega⟩
        obtain ⟨e1, e2⟩ := step k n
        rw [e1, e2, hv]
        exact ⟨rfl, rfl⟩
      | true =>
        by_cases h0 : i = 0
        · subst h0
          refine ⟨bb, har hv, fun k n hn => ?_⟩
          obtain ⟨n, rfl⟩ : ∃ j, n = j + 1 := ⟨n - 1, by omega⟩
          obtain ⟨e1, e2⟩ := step k n
          rw [e1, e2, hv]
          exact ih k n (by omega)
        · have hw : IntKind.i64.wrap ((i : Int) - 1) = ((i - 1 : Nat) : Int) := by
            unfold maxLen at hlen
            rw [wrap_id (by omega) (by omega)]; omega
          obtain ⟨row', hr', hfr', _⟩ := ha.row (i := i - 1) (by omega)
          obtain ⟨d0', r0', rfl, f0', h1'⟩ := Fits.cons hfr'
          obtain ⟨s', rfl, hs'⟩ := f0'.str
          have hcs : cellS a ((i - 1 : Nat) : Int).toNat 0 = some s' := by rw [Int.toNat_natCast, cellS_at hr']; rfl
          have hgt : decide ((i : Int) > 0) = true := by simp; omega
          have hin : inR ((i - 1 : Nat) : Int) a.length = true := inR_t (by omega)
          cases hl : sLess s' s with
          | true =>
            refine ⟨bb, har hv, fun k n hn => ?_⟩
            obtain ⟨n, rfl⟩ : ∃ j, n = j + 1 := ⟨n - 1, by omega⟩
            obtain ⟨e1, e2⟩ := step k n
            rw [e1, e2, hv, hw, hgt, hin, hcs]
            simp only [bindS_s]
            rw [sLess_total, hl]
            exact ih k n (by omega)
          | false =>
            refine ⟨false, fun h => (by cases h), fun k n hn => ?_⟩
            obtain ⟨n, rfl⟩ : ∃ j, n = j + 1 := ⟨n - 1, by omega⟩
            obtain ⟨e1, e2⟩ := step k n
            rw [e1, e2, hv, hw, hgt, hin, hcs]
            simp only [bindS_s]
            rw [sLess_total, hl]
            exact ⟨rfl, rfl⟩
  obtain ⟨b, hb3, hb⟩ := key a.length 0 (by omega)
  refine ⟨b, fun h r h1 h2 => hb3 h r (by omega) h2, fun k hk => ?_⟩
  rw [F83.run, F67.run]
  exact hb k (k + 2) (by omega)
theorem rels {a : Ovi.Rows} (ha : Fit Rl (.list 3 a)) : ∃ b, ∀ k, a.length < k → C (k + 3) 83 [.d (.list 3 a)] = bo b ∧ C (k + 3) 67 [.d (.list 3 a)] = bo b :=
  let ⟨b, _, h⟩ := rels3 ha; ⟨b, h⟩
/-- both IsValidAtom answer alike -/
theorem atoms {a : Ovi.Rows} (ha : Fit Rl (.list 3 a)) (x : Atom) (hx2 : x.2.length ≤ maxLen) : ∃ b, (b = true → (0 ≤ x.1 ∧ x.1 < (a.length : Int)) ∧ (x.2.length : Int) = ar a x.1 ∧ ∀ t ∈ x.2, -10 ≤ t ∧ t ≤ 4) ∧ ∀ k, a.length < k → x.2.length < k → C (k + 5) 150 [.d (.list 3 a), .agg [.d (.int .i64 x.1), .d (.list 1 (I1 x.2))]] = bo b ∧ C (k + 5) 106 [.d (.list 3 a), .agg [.d (.int .i64 x.1), .d (.list 1 (I1 x.2))]] = bo b := by
  have hlen := ha.len
  unfold maxLen at hlen
  obtain ⟨b, hb⟩ := rels ha
  have e : ∀ k, a.length < k → C (k + 4) 83 [.d (.list 3 a)] = bo b ∧ C (k + 4) 67 [.d (.list 3 a)] = bo b := fun k hk => hb (k + 1) (by omega)
  cases b with
  | false =>
    refine ⟨false, fun h => (by cases h), fun k hk hx => ?_⟩
    rw [F150.run, F106.run, (e k hk).1, (e k hk).2, bB, bB]
    exact ⟨rfl, rfl⟩
  | true =>
    by_cases hr : 0 ≤ x.1 ∧ x.1 ≤ (a.length : Int) - 1
    · obtain ⟨i, hi⟩ : ∃ i : Nat, x.1 = i := ⟨x.1.toNat, by omega⟩
      have hia : i < a.length := by omega
      obtain ⟨row, hrow, hfr, _⟩ := ha.row hia
      obtain ⟨d0, r0, rfl, f0, h1⟩ := Fits.cons hfr
      obtain ⟨d1, r1, rfl, f1, h1⟩ := Fits.cons h1
      obtain ⟨n, rfl, _⟩ := f1.int
      have hcn : cellI .i64 a ((i : Int)).toNat 1 = some n := by rw [Int.toNat_natCast, cellI_at hrow]; simp [asI_s]
      by_cases hn : ((I1 x.2).length : Int) = n
      · refine ⟨!(x.2.any fun t => !decide (-10 ≤ t ∧ t ≤ 4)), fun h => ⟨by omega, by unfold ar; rw [hi, hcn]; rw [I1_len] at hn; exact hn, fun t ht => by
          simp only [Bool.not_eq_true', List.any_eq_false, Bool.not_eq_true, decide_eq_false_iff_not, Decidable.not_not] at h
          exact h t ht⟩, fun k hk hx => ?_⟩
        rw [F150.run, F106.run, (e k hk).1, (e k hk).2, bB, bB, ite'_nt, ite'_nt, c53, c40, bB, bB, wrap_id (by omega) (by omega), decide_eq_true hr, ite'_nt, ite'_nt, hi, ite'_t (inR_t hia), ite'_t (inR_t hia), hcn]
        simp only [bindI_s]
        rw [ite'_f (by simpa using hn), ite'_f (b := ((I1 x.2).length : Int) != n) (by simpa using hn)]
        have e69 := c118 (k := k + 2) x.2 163 [] (fun t => !decide (-10 ≤ t ∧ t ≤ 4)) (by omega) hx2 (fun z _ => by
          rw [List.map_nil, F163.run, c53 k, bB]; rfl)
        rw [e69, bB]
        refine ⟨rfl, ?_⟩
        have := loop_any (xs := x.2) (L := fun m j => F106.L4 (k + 4) (C (k + 4)) m j (i : Int) (I1 x.2)) (stop := fun t => !decide (-10 ≤ t ∧ t ≤ 4)) (hit := bo false) (fin := bo true)
          (fun m j t ht => by
            have hj := (List.getElem?_eq_some_iff.1 ht).1
            rw [F106.L4.succ, I1_len, ite'_t (lt_t hj), ite'_t (inR_t hj)]
            simp only [Int.toNat_natCast, cellI_at (I1_get' ht), List.getElem?_cons_zero, Option.bind_some, asI_s, bindI_s]
            rw [c40, bB, next_i hj hx2]; rfl)
          (fun m => by rw [F106.L4.succ, I1_len, ite'_f (lt_f (by omega))]; rfl) (k + 4) (by omega)
        rw [show F106.L4 (k + 4) (C (k + 4)) (k + 4) 0 (i : Int) (I1 x.2) = _ from this]
        cases x.2.any (fun t => !decide (-10 ≤ t ∧ t ≤ 4)) <;> rfl
      · refine ⟨false, fun h => (by cases h), fun k hk hx => ?_⟩
        rw [F150.run, F106.run, (e k hk).1, (e k hk).2, bB, bB, ite'_nt, ite'_nt, c53, c40, bB, bB, wrap_id (by omega) (by omega), decide_eq_true hr, ite'_nt, ite'_nt, hi, ite'_t (inR_t hia), ite'_t (inR_t hia), hcn]
        simp only [bindI_s]
        rw [ite'_t (by simpa using hn), ite'_t (b := ((I1 x.2).length : Int) != n) (by simpa using hn)]
        exact ⟨rfl, rfl⟩
    · refine ⟨false, fun h => (by cases h), fun k hk hx => ?_⟩
      rw [F150.run, F106.run, (e k hk).1, (e k hk).2, bB, bB, ite'_nt, ite'_nt, c53, c40, bB, bB, wrap_id (by omega) (by omega), decide_eq_false hr]
      exact ⟨rfl, rfl⟩
end Go.Proofs.YtkkaikcjcjkpbaaGreat.Q

/-! VIa -/
namespace Go.Proofs.YtkkaikcjcjkpbaaGreat.Q
open Go Ovi
variable {k : Nat}
/-- what the atoms hold: z is a variable of theirs -/
def isVar (xs : List Atom) (z : Int) : Prop := 0 ≤ z ∧ ∃ x ∈ xs, z ∈ x.2
def terms (xs : List Atom) : Nat := (xs.map fun x => x.2.length).sum
theorem terms_at {xs : List Atom} {i : Nat} {x : Atom} (h : xs[i]? = some x) : terms (xs.take i) + x.2.length = terms (xs.take (i + 1)) := by
  obtain ⟨hi, e⟩ := List.getElem?_eq_some_iff.1 h
  unfold terms
  rw [List.take_succ_eq_append_getElem hi, e]
  simp
theorem terms_le (xs : List Atom) (i : Nat) : terms (xs.take i) ≤ terms xs := by
  have : terms xs = terms (xs.take i) + terms (xs.drop i) := by
    unfold terms
    rw [← List.sum_append, ← List.map_append, List.take_append_drop]
  omega
theorem isVar_take {xs : List Atom} {i : Nat} {x : Atom} (h : xs[i]? = some x) (z : Int) : isVar (xs.take (i + 1)) z ↔ isVar (xs.take i) z ∨ (0 ≤ z ∧ z ∈ x.2) := by
  obtain ⟨hi, e⟩ := List.getElem?_eq_some_iff.1 h
  unfold isVar
  rw [List.take_succ_eq_append_getElem hi, e]
  simp only [List.mem_append, List.mem_singleton]
  constructor
  · rintro ⟨h0, y, hy | rfl, hz⟩
    · exact .inl ⟨h0, y, hy, hz⟩
    · exact .inr ⟨h0, hz⟩
  · rintro (⟨h0, y, hy, hz⟩ | ⟨h0, hz⟩)
    · exact ⟨h0, y, .inl hy, hz⟩
    · exact ⟨h0, x, .inr rfl, hz⟩
/-- impl.Variables -/
theorem c127 (xs : List Atom) (hk : terms xs + xs.length < k) (hs : terms xs + xs.length ≤ 1048576) : ∃ vs, C (k + 1) 127 [.d (.list 2 (A1 xs))] = some [(false, [.row 3 1 (I1 vs)])] ∧ (∀ z, z ∈ vs ↔ isVar xs z) ∧ vs.length ≤ terms xs := by
  rw [F127.run, A1_len]
  have hmax : (1048576 : Nat) ≤ maxLen := by decide
  -- the inner loop
  have inner : ∀ (i : Nat) (x : Atom), xs[i]? = some x → ∀ (m j n k3 : Nat) (acc : List Int), j + m = x.2.length → m < n → acc.length ≤ terms (xs.take i) + j → (∀ z, z ∈ acc ↔ isVar (xs.take i) z ∨ (0 ≤ z ∧ z ∈ x.2.take j)) →
      ∃ acc', F127.L6 k (C k) k3 n (A1 xs) (xs.length : Int) (i : Int) (I1 x.2) (x.2.length : Int) (j : Int) (I1 acc) = F127.L3 k (C k) k3 (A1 xs) (xs.length : Int) ((i + 1 : Nat) : Int) (I1 acc') ∧ acc'.length ≤ terms (xs.take (i + 1)) ∧ ∀ z, z ∈ acc' ↔ isVar (xs.take (i + 1)) z := by
    intro i x hx m
    have hi := (List.getElem?_eq_some_iff.1 hx).1
    have hta := terms_at hx
    have htl := terms_le xs (i + 1)
    induction m with
    | zero =>
      intro j n k3 acc hm hn ha hmem
      obtain ⟨n, rfl⟩ : ∃ j, n = j + 1 := ⟨n - 1, by omega⟩
      obtain rfl : j = x.2.length := by omega
      refine ⟨acc, ?_, by omega, fun z => ?_⟩
      · rw [F127.L6.succ, ite'_f (lt_f (by omega)), next_i hi (m := xs.length) (by omega)]
      · rw [hmem z, isVar_take hx, List.take_length]
    | succ m ih =>
      intro j n k3 acc hm hn ha hmem
      obtain ⟨n, rfl⟩ : ∃ j, n = j + 1 := ⟨n - 1, by omega⟩
      have hj : j < x.2.length := by omega
      have hz := List.getElem?_eq_getElem hj
      rw [F127.L6.succ, ite'_t (lt_t hj), I1_len, ite'_t (inR_t hj)]
      simp only [Int.toNat_natCast, cellI_at (I1_get' hz), List.getElem?_cons_zero, Option.bind_some, asI_s, bindI_s]
      rw [next_i hj (m := x.2.length) (by omega)]
      have htk : ∀ z, z ∈ x.2.take (j + 1) ↔ z ∈ x.2.take j ∨ z = x.2[j] := by
        intro z
        rw [List.take_succ_eq_append_getElem hj]
        simp only [List.mem_append, List.mem_singleton]
      by_cases h0 : 0 ≤ x.2[j]
      · rw [ite'_t (by simpa using h0), ite'_t (fits_t (by simp [I1_len]; omega))]
        have e : I1 acc ++ [[.int .i64 x.2[j]]] = I1 (acc ++ [x.2[j]]) := by simp [I1]
        rw [e]
        refine ih (j + 1) n k3 _ (by omega) (by omega) (by simp; omega) (fun z => ?_)
        rw [List.mem_append, List.mem_singleton, hmem z, htk z]
        constructor
        · rintro ((h | h) | h)
          · exact .inl h
          · exact .inr ⟨h.1, .inl h.2⟩
          · exact .inr ⟨h ▸ h0, .inr h⟩
        · rintro (h | ⟨h1, h | h⟩)
          · exact .inl (.inl h)
          · exact .inl (.inr ⟨h1, h⟩)
          · exact .inr h
      · rw [ite'_f (by simpa using h0)]
        refine ih (j + 1) n k3 _ (by omega) (by omega) (by omega) (fun z => ?_)
        rw [hmem z, htk z]
        constructor
        · rintro (h | h)
          · exact .inl h
          · exact .inr ⟨h.1, .inl h.2⟩
        · rintro (h | ⟨h1, h | h⟩)
          · exact .inl h
          · exact .inr ⟨h1, h⟩
          · exact absurd (h ▸ h1) h0
  have outer : ∀ (m i n : Nat) (acc : List Int), i + m = xs.length → m < n → acc.length ≤ terms (xs.take i) → (∀ z, z ∈ acc ↔ isVar (xs.take i) z) →
      ∃ vs, F127.L3 k (C k) n (A1 xs) (xs.length : Int) (i : Int) (I1 acc) = some [(false, [.row 3 1 (I1 vs)])] ∧ (∀ z, z ∈ vs ↔ isVar xs z) ∧ vs.length ≤ terms xs := by
    intro m
    induction m with
    | zero =>
      intro i n acc hm hn ha hmem
      obtain ⟨n, rfl⟩ : ∃ j, n = j + 1 := ⟨n - 1, by omega⟩
      obtain rfl : i = xs.length := by omega
      rw [List.take_length] at ha hmem
      obtain ⟨k, rfl⟩ : ∃ j, k = j + 1 := ⟨k - 1, by omega⟩
      have e1 : C (k + 1) 147 [.var 0 0, .d (.int .i64 3), .d (.list 1 (I1 acc))] = some [(false, [.row 3 1 (I1 (sortInts acc))])] := by
        show sortP _ = _
        unfold sortP rawArg
        simp only [ints_I1]
        rw [show Nat.ble acc.length 1099511627776 = true from Nat.ble_eq_true_of_le (by omega)]
        rfl
      have hsl : (sortInts acc).length = acc.length := by simp [sortInts]
      have e2 : C (k + 1) 148 [.var 0 0, .d (.int .i64 3), .d (.list 1 (I1 (sortInts acc)))] = some [(false, [.row 3 1 (I1 (Lib.compact (sortInts acc)))]), (true, [])] := by
        show compactP _ = _
        unfold compactP rawArg
        simp only [ints_I1]
        rw [show Nat.ble (sortInts acc).length 1099511627776 = true from Nat.ble_eq_true_of_le (by omega)]
        rfl
      refine ⟨Lib.compact (sortInts acc), ?_, fun z => ?_, ?_⟩
      · rw [F127.L3.succ, ite'_f (lt_f (by omega)), e1]
        simp only [bindR_s, resO_s, bindL_s]
        rw [e2]
        rfl
      · rw [mem_compact, mem_sortInts, hmem z]
      · have := compact_len (sortInts acc)
        omega
    | succ m ih =>
      intro i n acc hm hn ha hmem
      obtain ⟨n, rfl⟩ : ∃ j, n = j + 1 := ⟨n - 1, by omega⟩
      have hi : i < xs.length := by omega
      have hx := List.getElem?_eq_getElem hi
      rw [F127.L3.succ, A1_len, ite'_t (lt_t hi), ite'_t (inR_t hi)]
      simp only [Int.toNat_natCast, cellI_at (A1_get hx), cellL_at (A1_get hx), List.getElem?_cons_zero, List.getElem?_cons_succ, Option.bind_some, asI_s, asL_s, bindI_s, bindL_s]
      have hta := terms_at hx
      have htl := terms_le xs (i + 1)
      rw [I1_len]
      obtain ⟨acc', e, h1, h2⟩ := inner i _ hx (xs[i]).2.length 0 k n acc (by omega) (by omega) (by omega) (fun z => by simp [hmem z])
      rw [show ((0 : Nat) : Int) = 0 from rfl] at e
      rw [e]
      exact ih (i + 1) n acc' (by omega) (by omega) h1 h2
  have := outer xs.length 0 k [] (by omega) (by omega) (by simp) (fun z => by simp [isVar])
  exact this
theorem sortP_show : True := trivial
/-- spec.l4Put -/
theorem c104 (zs : List Int) (v : Int) (hk : zs.length < k) (hz : zs.length ≤ 1048576) : ∃ r ws, C (k + 1) 104 [.d (.list 1 (I1 zs)), .d (.int .i64 v)] = some r ∧ resL 1 1 false 1 r 0 0 = some (I1 ws) ∧ (∀ z, z ∈ ws ↔ z ∈ zs ∨ z = v) ∧ ws.length ≤ zs.length + 1 := by
  rw [F104.run]
  have hmax : (1048576 : Nat) ≤ maxLen := by decide
  have ins : ∀ i : Nat, i ≤ zs.length → ∃ r ws, (ite' (inS (i : Int) ((I1 zs).length : Int) (I1 zs).length) (ite' (fits (([[D.int .i64 v]] : Ovi.Rows).length + ((I1 zs).drop (i : Int).toNat).length)) (ite' (inS (0 : Int) (i : Int) (I1 zs).length) (ite' (fits ((I1 zs).take (i : Int).toNat).length) (ite' (fits (((I1 zs).take (i : Int).toNat).length + List.length ([[D.int .i64 v]] ++ (I1 zs).drop (i : Int).toNat))) (some ([(false, [RL.row 3 1 ((I1 zs).take (i : Int).toNat ++ ([[D.int .i64 v]] ++ (I1 zs).drop (i : Int).toNat))])] : Res)) none) none) none) none) none) = some r ∧ resL 1 1 false 1 r 0 0 = some (I1 ws) ∧ (∀ z, z ∈ ws ↔ z ∈ zs ∨ z = v) ∧ ws.length ≤ zs.length + 1 := by
    intro i hi
    rw [I1_len, ite'_t (by simp [inS]; omega), ite'_t (fits_t (by simp [I1_len]; omega)), ite'_t (by simp [inS]; omega), ite'_t (fits_t (by simp [I1_len]; omega)), ite'_t (fits_t (by simp [I1_len]; omega))]
    refine ⟨_, zs.take i ++ v :: zs.drop i, rfl, ?_, fun z => ?_, by simp; omega⟩
    · rw [resL_s]
      simp [I1]
    · have : z ∈ zs ↔ z ∈ zs.take i ∨ z ∈ zs.drop i := by rw [← List.mem_append, List.take_append_drop]
      rw [this, List.mem_append, List.mem_cons]
      constructor
      · rintro (h | h | h)
        · exact .inl (.inl h)
        · exact .inr h
        · exact .inl (.inr h)
      · rintro ((h | h) | h)
        · exact .inl h
        · exact .inr (.inr h)
        · exact .inr (.inl h)
  have main : ∀ (m i n : Nat), i + m = zs.length → m < n → ∃ r ws, F104.L2 k (C k) n (I1 zs) v (i : Int) = some r ∧ resL 1 1 false 1 r 0 0 = some (I1 ws) ∧ (∀ z, z ∈ ws ↔ z ∈ zs ∨ z = v) ∧ ws.length ≤ zs.length + 1 := by
    intro m
    induction m with
    | zero =>
      intro i n hm hn
      obtain ⟨n, rfl⟩ : ∃ j, n = j + 1 := ⟨n - 1, by omega⟩
      obtain ⟨r, ws, h1, h2⟩ := ins i (by omega)
      refine ⟨r, ws, ?_, h2⟩
      rw [F104.L2.succ]
      rw [ite'_f (b := decide ((i : Int) < ((I1 zs).length : Int))) (by rw [I1_len]; exact lt_f (by omega))]
      rw [ite'_f (b := decide ((i : Int) < ((I1 zs).length : Int))) (by rw [I1_len]; exact lt_f (by omega))]
      exact h1
    | succ m ih =>
      intro i n hm hn
      obtain ⟨n, rfl⟩ : ∃ j, n = j + 1 := ⟨n - 1, by omega⟩
      have hi : i < zs.length := by omega
      have hx := List.getElem?_eq_getElem hi
      obtain ⟨r, ws, h1, h2⟩ := ins i (by omega)
      rw [F104.L2.succ]
      rw [ite'_t (b := decide ((i : Int) < ((I1 zs).length : Int))) (by rw [I1_len]; exact lt_t hi)]
      rw [ite'_t (b := inR (i : Int) (I1 zs).length) (by rw [I1_len]; exact inR_t hi)]
      rw [show cellI .i64 (I1 zs) (i : Int).toNat 0 = some zs[i] by rw [Int.toNat_natCast, cellI_at (I1_get' hx)]; rfl]
      simp only [bindI_s]
      by_cases hlt : zs[i] < v
      · rw [ite'_t (by simpa using hlt), next_i hi (m := zs.length) (by omega)]
        exact ih (i + 1) n (by omega) (by omega)
      · rw [ite'_f (b := decide (zs[i] < v)) (by simpa using hlt)]
        rw [ite'_t (b := decide ((i : Int) < ((I1 zs).length : Int))) (by rw [I1_len]; exact lt_t hi)]
        rw [ite'_t (b := inR (i : Int) (I1 zs).length) (by rw [I1_len]; exact inR_t hi)]
        by_cases heq : zs[i] = v
        · rw [ite'_t (b := zs[i] == v) (by simpa using heq)]
          refine ⟨_, zs, rfl, resL_d _ _, fun z => ⟨.inl, ?_⟩, by omega⟩
          rintro (h | h)
          · exact h
          · rw [h, ← heq]; exact List.getElem_mem hi
        · rw [ite'_f (b := zs[i] == v) (by simpa using heq)]
          exact ⟨r, ws, h1, h2⟩
  have := main zs.length 0 k (by omega) (by omega)
  exact this
/-- spec.Variables -/
theorem c107 (xs : List Atom) (hk : terms xs + xs.length < k) (hs : terms xs + xs.length ≤ 1048576) : ∃ vs, C (k + 2) 107 [.d (.list 2 (A1 xs))] = some [(false, [.d (.list 1 (I1 vs))])] ∧ (∀ z, z ∈ vs ↔ isVar xs z) ∧ vs.length ≤ terms xs := by
  rw [F107.run]
  have hmax : (1048576 : Nat) ≤ maxLen := by decide
  have inner : ∀ (i : Nat) (x : Atom), xs[i]? = some x → ∀ (m j n k3 : Nat) (acc : List Int), j + m = x.2.length → m < n → acc.length ≤ terms (xs.take i) + j → (∀ z, z ∈ acc ↔ isVar (xs.take i) z ∨ (0 ≤ z ∧ z ∈ x.2.take j)) →
      ∃ acc', F107.L6 (k + 1) (C (k + 1)) k3 n (A1 xs) (I1 acc) (i : Int) (j : Int) = F107.L3 (k + 1) (C (k + 1)) k3 (A1 xs) (I1 acc') ((i + 1 : Nat) : Int) ∧ acc'.length ≤ terms (xs.take (i + 1)) ∧ ∀ z, z ∈ acc' ↔ isVar (xs.take (i + 1)) z := by
    intro i x hx m
    have hi := (List.getElem?_eq_some_iff.1 hx).1
    have hta := terms_at hx
    have htl := terms_le xs (i + 1)
    have hcell : cellL 1 (A1 xs) ((i : Int)).toNat 1 = some (I1 x.2) := by rw [Int.toNat_natCast, cellL_at (A1_get hx)]; rfl
    have hin : inR (i : Int) (A1 xs).length = true := by rw [A1_len]; exact inR_t hi
    induction m with
    | zero =>
      intro j n k3 acc hm hn ha hmem
      obtain ⟨n, rfl⟩ : ∃ j, n = j + 1 := ⟨n - 1, by omega⟩
      obtain rfl : j = x.2.length := by omega
      refine ⟨acc, ?_, by omega, fun z => ?_⟩
      · rw [F107.L6.succ, ite'_t hin, hcell, bindL_s, I1_len, ite'_f (lt_f (by omega)), next_i hi (m := xs.length) (by omega)]
      · rw [hmem z, isVar_take hx, List.take_length]
    | succ m ih =>
      intro j n k3 acc hm hn ha hmem
      obtain ⟨n, rfl⟩ : ∃ j, n = j + 1 := ⟨n - 1, by omega⟩
      have hj : j < x.2.length := by omega
      have hz := List.getElem?_eq_getElem hj
      have hcz : cellI .i64 (I1 x.2) ((j : Int)).toNat 0 = some x.2[j] := by rw [Int.toNat_natCast, cellI_at (I1_get' hz)]; rfl
      have hinj : inR (j : Int) (I1 x.2).length = true := by rw [I1_len]; exact inR_t hj
      rw [F107.L6.succ, ite'_t hin, hcell, bindL_s, ite'_t (b := decide ((j : Int) < ((I1 x.2).length : Int))) (by rw [I1_len]; exact lt_t hj), ite'_t hin]
      simp only [bindL_s]
      rw [ite'_t hinj, hcz]
      simp only [bindI_s]
      rw [next_i hj (m := x.2.length) (by omega)]
      have htk : ∀ z, z ∈ x.2.take (j + 1) ↔ z ∈ x.2.take j ∨ z = x.2[j] := by
        intro z
        rw [List.take_succ_eq_append_getElem hj]
        simp only [List.mem_append, List.mem_singleton]
      by_cases h0 : 0 ≤ x.2[j]
      · obtain ⟨r, ws, e1, e2, e3, e4⟩ := c104 (k := k) acc x.2[j] (by omega) (by omega)
        rw [ite'_t (by simpa using h0), ite'_t hin, ite'_t hinj, e1]
        simp only [bindR_s]
        rw [e2, bindL_s]
        refine ih (j + 1) n k3 _ (by omega) (by omega) (by omega) (fun z => ?_)
        rw [e3 z, hmem z, htk z]
        constructor
        · rintro ((h | h) | h)
          · exact .inl h
          · exact .inr ⟨h.1, .inl h.2⟩
          · exact .inr ⟨h ▸ h0, .inr h⟩
        · rintro (h | ⟨h1, h | h⟩)
          · exact .inl (.inl h)
          · exact .inl (.inr ⟨h1, h⟩)
          · exact .inr h
      · rw [ite'_f (by simpa using h0)]
        refine ih (j + 1) n k3 _ (by omega) (by omega) (by omega) (fun z => ?_)
        rw [hmem z, htk z]
        constructor
        · rintro (h | h)
          · exact .inl h
          · exact .inr ⟨h.1, .inl h.2⟩
        · rintro (h | ⟨h1, h | h⟩)
          · exact .inl h
          · exact .inr ⟨h1, h⟩
          · exact absurd (h ▸ h1) h0
  have outer : ∀ (m i n : Nat) (acc : List Int), i + m = xs.length → m < n → acc.length ≤ terms (xs.take i) → (∀ z, z ∈ acc ↔ isVar (xs.take i) z) →
      ∃ vs, F107.L3 (k + 1) (C (k + 1)) n (A1 xs) (I1 acc) (i : Int) = some [(false, [.d (.list 1 (I1 vs))])] ∧ (∀ z, z ∈ vs ↔ isVar xs z) ∧ vs.length ≤ terms xs := by
    intro m
    induction m with
    | zero =>
      intro i n acc hm hn ha hmem
      obtain ⟨n, rfl⟩ : ∃ j, n = j + 1 := ⟨n - 1, by omega⟩
      obtain rfl : i = xs.length := by omega
      rw [List.take_length] at ha hmem
      exact ⟨acc, by rw [F107.L3.succ, A1_len, ite'_f (lt_f (by omega))], hmem, ha⟩
    | succ m ih =>
      intro i n acc hm hn ha hmem
      obtain ⟨n, rfl⟩ : ∃ j, n = j + 1 := ⟨n - 1, by omega⟩
      have hi : i < xs.length := by omega
      have hx := List.getElem?_eq_getElem hi
      have hta := terms_at hx
      have htl := terms_le xs (i + 1)
      rw [F107.L3.succ, A1_len, ite'_t (lt_t hi)]
      obtain ⟨acc', e, h1, h2⟩ := inner i _ hx (xs[i]).2.length 0 (k + 1) n acc (by omega) (by omega) (by omega) (fun z => by simp [hmem z])
      rw [show ((0 : Nat) : Int) = 0 from rfl] at e
      rw [e]
      exact ih (i + 1) n acc' (by omega) (by omega) h1 h2
  have := outer xs.length 0 (k + 1) [] (by omega) (by omega) (by simp) (fun z => by simp [isVar])
  exact this
end Go.Proofs.YtkkaikcjcjkpbaaGreat.Q

/-! VJa -/
namespace Go.Proofs.YtkkaikcjcjkpbaaGreat.Q
open Go Ovi
variable {k : Nat}
noncomputable def vB (xs : List Atom) (z : Int) : Bool := @decide (isVar xs z) (Classical.propDecidable _)
theorem vB_mem {xs : List Atom} {vs : List Int} (h : ∀ z, z ∈ vs ↔ isVar xs z) (z : Int) : decide (z ∈ vs) = vB xs z := by
  unfold vB
  rw [Bool.eq_iff_iff]
  simp [h z]
/-- what both IsValidAtom say -/
def Valid (a : Ovi.Rows) (xs : List Atom) (valid : Atom → Bool) : Prop := ∀ x ∈ xs, ∀ k, a.length < k → x.2.length < k → C (k + 5) 150 [.d (.list 3 a), .agg [.d (.int .i64 x.1), .d (.list 1 (I1 x.2))]] = bo (valid x) ∧ C (k + 5) 106 [.d (.list 3 a), .agg [.d (.int .i64 x.1), .d (.list 1 (I1 x.2))]] = bo (valid x)
theorem valid_ex {a : Ovi.Rows} (ha : Fit Rl (.list 3 a)) (xs : List Atom) (hx : ∀ x ∈ xs, x.2.length ≤ maxLen) : ∃ valid : Atom → Bool, (∀ x ∈ xs, valid x = true → (0 ≤ x.1 ∧ x.1 < (a.length : Int)) ∧ (x.2.length : Int) = ar a x.1 ∧ ∀ t ∈ x.2, -10 ≤ t ∧ t ≤ 4) ∧ Valid a xs valid := by
  have : ∀ x : Atom, ∃ b, x ∈ xs → (b = true → (0 ≤ x.1 ∧ x.1 < (a.length : Int)) ∧ (x.2.length : Int) = ar a x.1 ∧ ∀ t ∈ x.2, -10 ≤ t ∧ t ≤ 4) ∧ ∀ k, a.length < k → x.2.length < k → C (k + 5) 150 [.d (.list 3 a), .agg [.d (.int .i64 x.1), .d (.list 1 (I1 x.2))]] = bo b ∧ C (k + 5) 106 [.d (.list 3 a), .agg [.d (.int .i64 x.1), .d (.list 1 (I1 x.2))]] = bo b := by
    intro x
    by_cases h : x ∈ xs
    · obtain ⟨b, hb⟩ := atoms ha x (hx x h)
      exact ⟨b, fun _ => hb⟩
    · exact ⟨false, fun h' => absurd h' h⟩
  obtain ⟨valid, hv⟩ := Classical.axiomOfChoice this
  exact ⟨valid, fun x hx => (hv x hx).1, fun x hx => (hv x hx).2⟩
noncomputable def qOk (valid : Atom → Bool) (xs : List Atom) (out : List Int) : Bool := (decide ((1 : Int) ≤ (xs.length : Int) ∧ (xs.length : Int) ≤ 3) && xs.all valid) && (decide ((out.length : Int) ≤ 3) && out.all (vB xs))
theorem len_terms {xs : List Atom} {x : Atom} (h : x ∈ xs) : x.2.length ≤ terms xs := by
  induction xs with
  | nil => cases h
  | cons y ys ih =>
    have e : terms (y :: ys) = y.2.length + terms ys := by simp [terms]
    rw [e]
    rcases List.mem_cons.1 h with rfl | h
    · omega
    · have := ih h; omega
theorem any_not {α : Type} (l : List α) (p : α → Bool) : (!(l.any fun x => !p x)) = l.all p := by
  induction l with
  | nil => rfl
  | cons x l ih => rw [List.any_cons, List.all_cons, ← ih]; cases p x <;> simp
def In1 : Ty := .list [.int .i64]
def At : Ty := .list [.int .i64, .list [.int .i64]]
theorem sz_atoms {xs : List Atom} : szD (.list 2 (A1 xs)) = xs.length + terms xs := by
  simp only [szD, A1_len, szR_A1]
  rfl
theorem sz_ints {zs : List Int} : szD (.list 1 (I1 zs)) = zs.length := by simp only [szD, I1_len, szR_I1, Nat.add_zero]
theorem sz_rels {a : Ovi.Rows} : a.length ≤ szD (.list 3 a) := by simp only [szD]; omega
end Go.Proofs.YtkkaikcjcjkpbaaGreat.Q

/-! VHb -/
namespace Go.Proofs.YtkkaikcjcjkpbaaGreat.Q
open Go Ovi
variable {k : Nat}
/-! ### values -/
def isN (v : Int) : Bool := decide (-40 ≤ v ∧ v ≤ -1)
def okV (v : Int) : Bool := decide (-40 ≤ v ∧ v ≤ 9)
def nn (v : Int) : Option Res := some [(false, [.d (.int .i64 (if isN v then -1 - v else 0))]), (false, [.d (.bool (isN v))])]
theorem nnB (v : Int) (f : Int → Bool → Option Res) : (bindR (nn v) fun r => bindI (resI .i64 2 false 1 r 0 0) fun n => bindB (resB 2 false 1 r 1 0) fun b => f n b) = f (if isN v then -1 - v else 0) (isN v) := rfl
theorem isN_t {v : Int} (h : isN v = true) : -40 ≤ v ∧ v ≤ -1 := of_decide_eq_true h
theorem isN_f {v : Int} (h : isN v = false) : ¬ (-40 ≤ v ∧ v ≤ -1) := of_decide_eq_false h
theorem wrapN {v : Int} (h : inI v) : IntKind.i64.wrap (-1 - v) = -1 - v := by unfold inI at h; exact wrap_id (by omega) (by omega)
/-- spec.NullNumber -/
theorem c72 {v : Int} (h : inI v) : C (k + 2) 72 [.d (.int .i64 v)] = nn v := by
  rw [F72.run]
  by_cases h0 : v ≥ 0
  · rw [ite'_t (by simpa using h0)]
    have : isN v = false := decide_eq_false (by omega)
    simp [nn, this]
  · rw [ite'_f (by simpa using h0), wrapN h, c40, bB]
    by_cases h1 : isN v = true
    · have := isN_t h1
      rw [decide_eq_true (by omega), ite'_nt]
      simp [nn, h1]
    · have h1 : isN v = false := by simpa using h1
      have := isN_f h1
      rw [decide_eq_false (by omega), ite'_nf]
      simp [nn, h1]
/-- impl.NullNumber -/
theorem c135 {v : Int} (h : inI v) : C (k + 2) 135 [.d (.int .i64 v)] = nn v := by
  rw [F135.run, wrapN h, c53, bB]
  by_cases h1 : isN v = true
  · have := isN_t h1
    rw [decide_eq_true (by omega), ite'_nt]
    simp [nn, h1]
  · have h1 : isN v = false := by simpa using h1
    have := isN_f h1
    rw [decide_eq_false (by omega), ite'_nf]
    simp [nn, h1]
/-- spec.IsValidValue -/
theorem c103 {v : Int} (h : inI v) : C (k + 3) 103 [.d (.int .i64 v)] = bo (okV v) := by
  rw [F103.run, c72 h, nnB]
  by_cases h1 : isN v = true
  · have := isN_t h1
    rw [ite'_t h1]
    exact bo_eq (b := true) (by rw [okV, decide_eq_true (by omega)])
  · have h1 : isN v = false := by simpa using h1
    have := isN_f h1
    rw [ite'_f h1, c40, bB]
    refine bo_eq ?_
    unfold okV
    rw [Bool.eq_iff_iff]
    simp only [decide_eq_true_eq]
    omega
/-- impl.IsValidValue -/
theorem c120 (v : Int) : C (k + 2) 120 [.d (.int .i64 v)] = bo (okV v) := by
  rw [F120.run, c53, bB]; rfl
/-- the numbers of the nulls among values -/
def nulls (zs : List Int) : List Int := Lib.compact (sortInts ((zs.filter isN).map fun v => -1 - v))
theorem nulls_ss (zs : List Int) : SS (nulls zs) := ss_compact _
theorem mem_nulls (zs : List Int) (n : Int) : n ∈ nulls zs ↔ ∃ v ∈ zs, isN v = true ∧ n = -1 - v := by
  unfold nulls
  rw [mem_compact, mem_sortInts]
  simp only [List.mem_map, List.mem_filter]
  constructor
  · rintro ⟨v, ⟨h1, h2⟩, rfl⟩; exact ⟨v, h1, h2, rfl⟩
  · rintro ⟨v, h1, h2, rfl⟩; exact ⟨v, ⟨h1, h2⟩, rfl⟩
theorem nulls_len (zs : List Int) : (nulls zs).length ≤ zs.length := by
  unfold nulls
  have h1 := compact_len (sortInts ((zs.filter isN).map fun v => -1 - v))
  have h2 : (sortInts ((zs.filter isN).map fun v => -1 - v)).length = (zs.filter isN).length := by simp [sortInts]
  have h3 := List.length_filter_le isN zs
  omega
/-- impl.nullsOf -/
theorem c124 (zs : List Int) (hI : ∀ z ∈ zs, inI z) (hk : zs.length < k) (hz : zs.length ≤ 1048576) : C (k + 3) 124 [.d (.list 1 (I1 zs))] = some [(false, [.row 3 1 (I1 (nulls zs))])] := by
  rw [F124.run, I1_len]
  have hmax : (1048576 : Nat) ≤ maxLen := by decide
  have main : ∀ (m i n : Nat), i + m = zs.length → m < n → F124.L3 (k + 2) (C (k + 2)) n (I1 zs) (zs.length : Int) (i : Int) (I1 (((zs.take i).filter isN).map fun v => -1 - v)) = some [(false, [.row 3 1 (I1 (nulls zs))])] := by
    intro m
    induction m with
    | zero =>
      intro i n hm hn
      obtain ⟨n, rfl⟩ : ∃ j, n = j + 1 := ⟨n - 1, by omega⟩
      obtain rfl : i = zs.length := by omega
      rw [List.take_length]
      have hf := List.length_filter_le isN zs
      generalize hacc : (zs.filter isN).map (fun v => -1 - v) = acc
      have hal : acc.length ≤ zs.length := by rw [← hacc]; simpa using hf
      have e1 : C (k + 2) 147 [.var 0 0, .d (.int .i64 3), .d (.list 1 (I1 acc))] = some [(false, [.row 3 1 (I1 (sortInts acc))])] := by
        show sortP _ = _
        unfold sortP rawArg
        simp only [ints_I1]
        rw [show Nat.ble acc.length 1099511627776 = true from Nat.ble_eq_true_of_le (by omega)]
        rfl
      have hsl : (sortInts acc).length = acc.length := by simp [sortInts]
      have e2 : C (k + 2) 148 [.var 0 0, .d (.int .i64 3), .d (.list 1 (I1 (sortInts acc)))] = some [(false, [.row 3 1 (I1 (Lib.compact (sortInts acc)))]), (true, [])] := by
        show compactP _ = _
        unfold compactP rawArg
        simp only [ints_I1]
        rw [show Nat.ble (sortInts acc).length 1099511627776 = true from Nat.ble_eq_true_of_le (by omega)]
        rfl
      rw [F124.L3.succ, ite'_f (lt_f (by omega)), e1]
      simp only [bindR_s, resO_s, bindL_s]
      rw [e2]
      unfold nulls
      rw [hacc]
      rfl
    | succ m ih =>
      intro i n hm hn
      obtain ⟨n, rfl⟩ : ∃ j, n = j + 1 := ⟨n - 1, by omega⟩
      have hi : i < zs.length := by omega
      have hx := List.getElem?_eq_getElem hi
      have hft := List.length_filter_le isN (zs.take i)
      rw [F124.L3.succ, I1_len, ite'_t (lt_t hi), ite'_t (inR_t hi)]
      simp only [Int.toNat_natCast, cellI_at (I1_get' hx), List.getElem?_cons_zero, Option.bind_some, asI_s, bindI_s]
      rw [c135 (hI _ (List.getElem_mem hi)), nnB, next_i hi (m := zs.length) (by omega)]
      have hstep : (zs.take (i + 1)).filter isN = (zs.take i).filter isN ++ (if isN zs[i] then [zs[i]] else []) := by
        rw [List.take_succ_eq_append_getElem hi, List.filter_append]
        cases h : isN zs[i] <;> simp [h]
      have := ih (i + 1) n (by omega) (by omega)
      rw [hstep] at this
      cases h : isN zs[i] with
      | true =>
        rw [ite'_t rfl, ite'_t (fits_t (by simp [I1_len] at hft ⊢; omega))]
        rw [h] at this
        simp only [if_true, List.map_append, List.map_cons, List.map_nil] at this ⊢
        rw [← this]
        simp [I1]
      | false =>
        rw [ite'_f rfl]
        rw [h] at this
        simpa using this
  exact main zs.length 0 (k + 2) (by omega) (by omega)
/-- spec.l4Put keeps the order -/
theorem c104s (zs : List Int) (v : Int) (hS : SS zs) (hk : zs.length < k) (hz : zs.length ≤ 1048576) : ∃ r ws, C (k + 1) 104 [.d (.list 1 (I1 zs)), .d (.int .i64 v)] = some r ∧ resL 1 1 false 1 r 0 0 = some (I1 ws) ∧ (∀ z, z ∈ ws ↔ z ∈ zs ∨ z = v) ∧ ws.length ≤ zs.length + 1 ∧ SS ws := by
  rw [F104.run]
  have hmax : (1048576 : Nat) ≤ maxLen := by decide
  have ins : ∀ i : Nat, i ≤ zs.length → (∀ (j : Nat) y, j < i → zs[j]? = some y → y < v) → (∀ y, zs[i]? = some y → v < y) → ∃ r ws, (ite' (inS (i : Int) ((I1 zs).length : Int) (I1 zs).length) (ite' (fits (([[D.int .i64 v]] : Ovi.Rows).length + ((I1 zs).drop (i : Int).toNat).length)) (ite' (inS (0 : Int) (i : Int) (I1 zs).length) (ite' (fits ((I1 zs).take (i : Int).toNat).length) (ite' (fits (((I1 zs).take (i : Int).toNat).length + List.length ([[D.int .i64 v]] ++ (I1 zs).drop (i : Int).toNat))) (some ([(false, [RL.row 3 1 ((I1 zs).take (i : Int).toNat ++ ([[D.int .i64 v]] ++ (I1 zs).drop (i : Int).toNat))])] : Res)) none) none) none) none) none) = some r ∧ resL 1 1 false 1 r 0 0 = some (I1 ws) ∧ (∀ z, z ∈ ws ↔ z ∈ zs ∨ z = v) ∧ ws.length ≤ zs.length + 1 ∧ SS ws := by
    intro i hi hlt hgt
    rw [I1_len, ite'_t (by simp [inS]; omega), ite'_t (fits_t (by simp [I1_len]; omega)), ite'_t (by simp [inS]; omega), ite'_t (fits_t (by simp [I1_len]; omega)), ite'_t (fits_t (by simp [I1_len]; omega))]
    refine ⟨_, zs.take i ++ v :: zs.drop i, rfl, ?_, fun z => ?_, by simp; omega, ?_⟩
    · rw [resL_s]
      simp [I1]
    · have : z ∈ zs ↔ z ∈ zs.take i ∨ z ∈ zs.drop i := by rw [← List.mem_append, List.take_append_drop]
      rw [this, List.mem_append, List.mem_cons]
      constructor
      · rintro (h | h | h)
        · exact .inl (.inl h)
        · exact .inr h
        · exact .inl (.inr h)
      · rintro ((h | h) | h)
        · exact .inl h
        · exact .inr (.inr h)
        · exact .inr (.inl h)
    · have hd : ∀ y ∈ zs.drop i, v < y := by
        intro y hy
        obtain ⟨j, hj⟩ := List.mem_iff_getElem?.1 hy
        rw [List.getElem?_drop] at hj
        have hil : i < zs.length := by have := (List.getElem?_eq_some_iff.1 hj).1; omega
        have h0 := hgt zs[i] (List.getElem?_eq_getElem hil)
        rcases Nat.eq_zero_or_pos j with rfl | hjp
        · rw [Nat.add_zero, List.getElem?_eq_getElem hil] at hj; cases hj; exact h0
        · obtain ⟨hjl, e⟩ := List.getElem?_eq_some_iff.1 hj
          have := List.pairwise_iff_getElem.1 hS i (i + j) hil hjl (by omega)
          omega
      have ht : ∀ y ∈ zs.take i, y < v := by
        intro y hy
        obtain ⟨j, hj⟩ := List.mem_iff_getElem?.1 hy
        obtain ⟨hjl, e⟩ := List.getElem?_eq_some_iff.1 hj
        simp only [List.length_take] at hjl
        rw [List.getElem?_take_of_lt (by omega)] at hj
        exact hlt j y (by omega) hj
      refine List.pairwise_append.2 ⟨hS.sublist (List.take_sublist _ _), List.pairwise_cons.2 ⟨hd, hS.sublist (List.drop_sublist _ _)⟩, fun x hx y hy => ?_⟩
      have := ht x hx
      rcases List.mem_cons.1 hy with rfl | hy
      · exact this
      · have := hd y hy; omega
  have main : ∀ (m i n : Nat), i + m = zs.length → m < n → (∀ (j : Nat) y, j < i → zs[j]? = some y → y < v) → ∃ r ws, F104.L2 k (C k) n (I1 zs) v (i : Int) = some r ∧ resL 1 1 false 1 r 0 0 = some (I1 ws) ∧ (∀ z, z ∈ ws ↔ z ∈ zs ∨ z = v) ∧ ws.length ≤ zs.length + 1 ∧ SS ws := by
    intro m
    induction m with
    | zero =>
      intro i n hm hn hlt
      obtain ⟨n, rfl⟩ : ∃ j, n = j + 1 := ⟨n - 1, by omega⟩
      obtain ⟨r, ws, h1, h2⟩ := ins i (by omega) hlt (fun y hy => by have := (List.getElem?_eq_some_iff.1 hy).1; omega)
      refine ⟨r, ws, ?_, h2⟩
      rw [F104.L2.succ]
      rw [ite'_f (b := decide ((i : Int) < ((I1 zs).length : Int))) (by rw [I1_len]; exact lt_f (by omega))]
      rw [ite'_f (b := decide ((i : Int) < ((I1 zs).length : Int))) (by rw [I1_len]; exact lt_f (by omega))]
      exact h1
    | succ m ih =>
      intro i n hm hn hlt0
      obtain ⟨n, rfl⟩ : ∃ j, n = j + 1 := ⟨n - 1, by omega⟩
      have hi : i < zs.length := by omega
      have hx := List.getElem?_eq_getElem hi
      rw [F104.L2.succ]
      rw [ite'_t (b := decide ((i : Int) < ((I1 zs).length : Int))) (by rw [I1_len]; exact lt_t hi)]
      rw [ite'_t (b := inR (i : Int) (I1 zs).length) (by rw [I1_len]; exact inR_t hi)]
      rw [show cellI .i64 (I1 zs) (i : Int).toNat 0 = some zs[i] by rw [Int.toNat_natCast, cellI_at (I1_get' hx)]; rfl]
      simp only [bindI_s]
      by_cases hlt : zs[i] < v
      · rw [ite'_t (by simpa using hlt), next_i hi (m := zs.length) (by omega)]
        refine ih (i + 1) n (by omega) (by omega) (fun j y hj hy => ?_)
        by_cases hji : j = i
        · subst hji; rw [hx] at hy; cases hy; exact hlt
        · exact hlt0 j y (by omega) hy
      · rw [ite'_f (b := decide (zs[i] < v)) (by simpa using hlt)]
        rw [ite'_t (b := decide ((i : Int) < ((I1 zs).length : Int))) (by rw [I1_len]; exact lt_t hi)]
        rw [ite'_t (b := inR (i : Int) (I1 zs).length) (by rw [I1_len]; exact inR_t hi)]
        by_cases heq : zs[i] = v
        · rw [ite'_t (b := zs[i] == v) (by simpa using heq)]
          refine ⟨_, zs, rfl, resL_d _ _, fun z => ⟨.inl, ?_⟩, by omega, hS⟩
          rintro (h | h)
          · exact h
          · rw [h, ← heq]; exact List.getElem_mem hi
        · rw [ite'_f (b := zs[i] == v) (by simpa using heq)]
          obtain ⟨r, ws, h1, h2⟩ := ins i (by omega) hlt0 (fun y hy => by rw [hx] at hy; cases hy; omega)
          exact ⟨r, ws, h1, h2⟩
  have := main zs.length 0 k (by omega) (by omega) (fun j y hj => by omega)
  exact this
/-- spec.NullsOfFact -/
theorem c66 (r : Int) (zs : List Int) (hI : ∀ z ∈ zs, inI z) (hk : zs.length < k) (hz : zs.length ≤ 1048576) : C (k + 3) 66 [.agg [.d (.int .i64 r), .d (.list 1 (I1 zs))]] = some [(false, [.d (.list 1 (I1 (nulls zs)))])] := by
  rw [F66.run]
  have hmax : (1048576 : Nat) ≤ maxLen := by decide
  have main : ∀ (m i n : Nat) (acc : List Int), i + m = zs.length → m < n → SS acc → acc.length ≤ i → (∀ z, z ∈ acc ↔ ∃ v ∈ zs.take i, isN v = true ∧ z = -1 - v) → F66.L3 (k + 2) (C (k + 2)) n (I1 acc) (i : Int) r (I1 zs) = some [(false, [.d (.list 1 (I1 (nulls zs)))])] := by
    intro m
    induction m with
    | zero =>
      intro i n acc hm hn hS hl hmem
      obtain ⟨n, rfl⟩ : ∃ j, n = j + 1 := ⟨n - 1, by omega⟩
      obtain rfl : i = zs.length := by omega
      rw [List.take_length] at hmem
      rw [F66.L3.succ, I1_len, ite'_f (lt_f (by omega)), ss_eq hS (nulls_ss zs) (fun z => by rw [hmem z, mem_nulls])]
    | succ m ih =>
      intro i n acc hm hn hS hl hmem
      obtain ⟨n, rfl⟩ : ∃ j, n = j + 1 := ⟨n - 1, by omega⟩
      have hi : i < zs.length := by omega
      have hx := List.getElem?_eq_getElem hi
      have htk : ∀ z, z ∈ zs.take (i + 1) ↔ z ∈ zs.take i ∨ z = zs[i] := by
        intro z
        rw [List.take_succ_eq_append_getElem hi]
        simp only [List.mem_append, List.mem_singleton]
      rw [F66.L3.succ, I1_len, ite'_t (lt_t hi), ite'_t (inR_t hi)]
      simp only [Int.toNat_natCast, cellI_at (I1_get' hx), List.getElem?_cons_zero, Option.bind_some, asI_s, bindI_s]
      rw [c72 (hI _ (List.getElem_mem hi)), nnB, next_i hi (m := zs.length) (by omega)]
      cases h : isN zs[i] with
      | true =>
        obtain ⟨r', ws, e1, e2, e3, e4, e5⟩ := c104s (k := k + 1) acc (-1 - zs[i]) hS (by omega) (by omega)
        rw [ite'_t rfl]
        simp only [if_true]
        rw [e1]
        simp only [bindR_s]
        rw [e2, bindL_s]
        refine ih (i + 1) n ws (by omega) (by omega) e5 (by omega) (fun z => ?_)
        rw [e3 z, hmem z]
        constructor
        · rintro (⟨v, h1, h2⟩ | h1)
          · exact ⟨v, (htk v).2 (.inl h1), h2⟩
          · exact ⟨zs[i], (htk _).2 (.inr rfl), h, h1⟩
        · rintro ⟨v, h1, h2⟩
          rcases (htk v).1 h1 with h1 | rfl
          · exact .inl ⟨v, h1, h2⟩
          · exact .inr h2.2
      | false =>
        rw [ite'_f rfl]
        refine ih (i + 1) n acc (by omega) (by omega) hS (by omega) (fun z => ?_)
        rw [hmem z]
        constructor
        · rintro ⟨v, h1, h2⟩
          exact ⟨v, (htk v).2 (.inl h1), h2⟩
        · rintro ⟨v, h1, h2⟩
          rcases (htk v).1 h1 with h1 | rfl
          · exact ⟨v, h1, h2⟩
          · rw [h] at h2; cases h2.1
  exact main zs.length 0 (k + 2) [] (by omega) (by omega) (by simp [SS]) (by simp) (fun z => by simp)
/-- impl.NullsOfFact -/
theorem c86 (r : Int) (zs : List Int) (hI : ∀ z ∈ zs, inI z) (hk : zs.length < k) (hz : zs.length ≤ 1048576) : C (k + 4) 86 [.agg [.d (.int .i64 r), .d (.list 1 (I1 zs))]] = some [(false, [.row 3 1 (I1 (nulls zs))])] := by
  rw [F86.run, c124 zs hI hk hz]
  rfl
end Go.Proofs.YtkkaikcjcjkpbaaGreat.Q

/-! VIb -/
namespace Go.Proofs.YtkkaikcjcjkpbaaGreat.Q
open Go Ovi
variable {k : Nat}
/-! ### the order of facts -/
def cmpI : List Int → List Int → Int
  | [], [] => 0
  | [], _ :: _ => -1
  | _ :: _, [] => 1
  | x :: xs, y :: ys => if x < y then -1 else if x > y then 1 else cmpI xs ys
def io (n : Int) : Option Res := some [(false, [.d (.int .i64 n)])]
theorem iB' (n : Int) (f : Int → Option Res) : (bindR (io n) fun r => bindI (resI .i64 1 false 1 r 0 0) f) = f n := rfl
/-- cmp.Compare -/
def cmp1 (x y : Int) : Int := if x < y then -1 else if x > y then 1 else 0
theorem c122 (x y : Int) : C (k + 2) 122 [.d (.int .i64 x), .d (.int .i64 y)] = io (cmp1 x y) := by
  rw [F122.run, F146.run, F146.run]
  simp only [bne_self_eq_false, bindR_s, resB_s, bindB_s]
  rw [ite'_f rfl, ite'_f rfl]
  unfold cmp1
  by_cases h : x < y
  · rw [ite'_t (by simpa using h), if_pos h]; rfl
  · rw [ite'_f (by simpa using h), if_neg h]
    by_cases h' : x > y
    · rw [ite'_t (by simpa using h'), if_pos h']; rfl
    · rw [ite'_f (by simpa using h'), if_neg h']; rfl
theorem cmpI_drop {a b : List Int} {i : Nat} (ha : i < a.length) (hb : i < b.length) : cmpI (a.drop i) (b.drop i) = if a[i] < b[i] then -1 else if a[i] > b[i] then 1 else cmpI (a.drop (i + 1)) (b.drop (i + 1)) := by
  rw [List.drop_eq_getElem_cons ha, List.drop_eq_getElem_cons hb]
  rfl
/-- slices.Compare on integers -/
theorem c123 (a b : List Int) (hk : a.length < k) (ha : a.length ≤ maxLen) : C (k + 3) 123 [.d (.list 1 (I1 a)), .d (.list 1 (I1 b))] = io (cmpI a b) := by
  rw [F123.run, I1_len]
  have main : ∀ (m i n : Nat), i + m = a.length → m < n → i ≤ b.length → F123.L2 (k + 2) (C (k + 2)) n (I1 a) (I1 b) (I1 a) (a.length : Int) (i : Int) = io (cmpI (a.drop i) (b.drop i)) := by
    intro m
    induction m with
    | zero =>
      intro i n hm hn hb
      obtain ⟨n, rfl⟩ : ∃ j, n = j + 1 := ⟨n - 1, by omega⟩
      obtain rfl : i = a.length := by omega
      rw [F123.L2.succ, ite'_f (lt_f (by omega)), I1_len, I1_len, List.drop_eq_nil_of_le (Nat.le_refl _)]
      by_cases h : a.length < b.length
      · rw [ite'_t (lt_t h), List.drop_eq_getElem_cons h]; rfl
      · rw [ite'_f (lt_f h), List.drop_eq_nil_of_le (by omega)]; rfl
    | succ m ih =>
      intro i n hm hn hb
      obtain ⟨n, rfl⟩ : ∃ j, n = j + 1 := ⟨n - 1, by omega⟩
      have hi : i < a.length := by omega
      have hx := List.getElem?_eq_getElem hi
      rw [F123.L2.succ, ite'_t (lt_t hi), I1_len, ite'_t (inR_t hi)]
      simp only [Int.toNat_natCast, cellI_at (I1_get' hx), List.getElem?_cons_zero, Option.bind_some, asI_s, bindI_s]
      rw [I1_len]
      by_cases h : i < b.length
      · have hy := List.getElem?_eq_getElem h
        rw [ite'_f (b := decide ((i : Int) ≥ (b.length : Int))) (by simp; omega), ite'_t (inR_t h)]
        simp only [cellI_at (I1_get' hy), List.getElem?_cons_zero, Option.bind_some, asI_s, bindI_s]
        rw [c122, iB', cmpI_drop hi h, next_i hi ha, ih (i + 1) n (by omega) (by omega) (by omega)]
        unfold cmp1
        by_cases h1 : a[i] < b[i]
        · rw [if_pos h1, if_pos h1]; rfl
        · rw [if_neg h1, if_neg h1]
          by_cases h2 : a[i] > b[i]
          · rw [if_pos h2, if_pos h2]; rfl
          · rw [if_neg h2, if_neg h2]; rfl
      · rw [ite'_t (b := decide ((i : Int) ≥ (b.length : Int))) (by simp; omega), List.drop_eq_getElem_cons hi, show b.drop i = [] from List.drop_eq_nil_of_le (by omega)]
        rfl
  exact main a.length 0 (k + 2) (by omega) (by omega) (by omega)
/-- spec.l4Ints -/
theorem c79 (a b : List Int) (hk : a.length < k) (ha : a.length ≤ maxLen) : C (k + 1) 79 [.d (.list 1 (I1 a)), .d (.list 1 (I1 b))] = io (cmpI a b) := by
  rw [F79.run]
  have fin : ∀ (i n : Nat), i ≤ a.length → i ≤ b.length → (¬ i < a.length ∨ ¬ i < b.length) → F79.L2 k (C k) (n + 1) (I1 a) (I1 b) (i : Int) = io (cmpI (a.drop i) (b.drop i)) := by
    intro i n h1 h2 h3
    have e : F79.L2 k (C k) (n + 1) (I1 a) (I1 b) (i : Int) = ite' (decide ((a.length : Int) < (b.length : Int))) (io (-1)) (ite' (decide ((a.length : Int) > (b.length : Int))) (io 1) (io 0)) := by
      rw [F79.L2.succ, I1_len, I1_len]
      by_cases hi : i < a.length
      · rw [ite'_t (lt_t hi), ite'_f (lt_f (by omega))]; rfl
      · rw [ite'_f (lt_f hi)]; rfl
    rw [e]
    rcases Nat.lt_trichotomy a.length b.length with h | h | h
    · obtain rfl : i = a.length := by omega
      rw [ite'_t (by simp; omega), List.drop_eq_nil_of_le (Nat.le_refl _), List.drop_eq_getElem_cons h]
      rfl
    · rw [ite'_f (by simp; omega), ite'_f (by simp; omega), List.drop_eq_nil_of_le (by omega), List.drop_eq_nil_of_le (by omega)]
      rfl
    · obtain rfl : i = b.length := by omega
      rw [ite'_f (by simp; omega), ite'_t (by simp; omega), List.drop_eq_nil_of_le (Nat.le_refl _), List.drop_eq_getElem_cons h]
      rfl
  have main : ∀ (m i n : Nat), i + m = a.length → m < n → i ≤ b.length → F79.L2 k (C k) n (I1 a) (I1 b) (i : Int) = io (cmpI (a.drop i) (b.drop i)) := by
    intro m
    induction m with
    | zero =>
      intro i n hm hn hb
      obtain ⟨n, rfl⟩ : ∃ j, n = j + 1 := ⟨n - 1, by omega⟩
      exact fin i n (by omega) hb (by omega)
    | succ m ih =>
      intro i n hm hn hb
      obtain ⟨n, rfl⟩ : ∃ j, n = j + 1 := ⟨n - 1, by omega⟩
      by_cases h : i < b.length
      · have hi : i < a.length := by omega
        have hx := List.getElem?_eq_getElem hi
        have hy := List.getElem?_eq_getElem h
        rw [F79.L2.succ, I1_len, I1_len, ite'_t (lt_t hi), ite'_t (lt_t h), ite'_t (inR_t hi)]
        simp only [Int.toNat_natCast, cellI_at (I1_get' hx), cellI_at (I1_get' hy), List.getElem?_cons_zero, Option.bind_some, asI_s, bindI_s]
        rw [ite'_t (inR_t h), ite'_t (inR_t hi), ite'_t (inR_t h), next_i hi ha, ih (i + 1) n (by omega) (by omega) (by omega), cmpI_drop hi h]
        by_cases h1 : a[i] < b[i]
        · rw [ite'_t (by simpa using h1), if_pos h1]; rfl
        · rw [ite'_f (by simpa using h1), if_neg h1]
          by_cases h2 : a[i] > b[i]
          · rw [ite'_t (by simpa using h2), if_pos h2]; rfl
          · rw [ite'_f (by simpa using h2), if_neg h2]
      · exact fin i n (by omega) hb (by omega)
  exact main a.length 0 k (by omega) hk (by omega)
def cmpF (x y : Atom) : Int := if x.1 < y.1 then -1 else if x.1 > y.1 then 1 else cmpI x.2 y.2
/-- spec.CompareFacts -/
theorem c44 (x y : Atom) (hk : x.2.length < k) (ha : x.2.length ≤ maxLen) : C (k + 2) 44 [.agg [.d (.int .i64 x.1), .d (.list 1 (I1 x.2))], .agg [.d (.int .i64 y.1), .d (.list 1 (I1 y.2))]] = io (cmpF x y) := by
  rw [F44.run, c79 x.2 y.2 hk ha, iB']
  unfold cmpF
  by_cases h1 : x.1 < y.1
  · rw [ite'_t (by simpa using h1), if_pos h1]; rfl
  · rw [ite'_f (by simpa using h1), if_neg h1]
    by_cases h2 : x.1 > y.1
    · rw [ite'_t (by simpa using h2), if_pos h2]; rfl
    · rw [ite'_f (by simpa using h2), if_neg h2]; rfl
/-- cmp.Or of two -/
theorem c121 (x y : Int) : C (k + 4) 121 [.d (.list 1 [[.int .i64 x], [.int .i64 y]])] = io (if x = 0 then y else x) := by
  rw [F121.run]
  have s0 : ∀ n, F121.L3 (k + 3) (C (k + 3)) (n + 1) 0 [[.int .i64 x], [.int .i64 y]] 2 0 = ite' (x != 0) (io x) (F121.L3 (k + 3) (C (k + 3)) n 0 [[.int .i64 x], [.int .i64 y]] 2 1) := fun n => by rw [F121.L3.succ]; rfl
  have s1 : ∀ n, F121.L3 (k + 3) (C (k + 3)) (n + 1) 0 [[.int .i64 x], [.int .i64 y]] 2 1 = ite' (y != 0) (io y) (F121.L3 (k + 3) (C (k + 3)) n 0 [[.int .i64 x], [.int .i64 y]] 2 2) := fun n => by rw [F121.L3.succ]; rfl
  have s2 : ∀ n, F121.L3 (k + 3) (C (k + 3)) (n + 1) 0 [[.int .i64 x], [.int .i64 y]] 2 2 = io 0 := fun n => by rw [F121.L3.succ]; rfl
  show F121.L3 (k + 3) (C (k + 3)) (k + 2 + 1) 0 [[.int .i64 x], [.int .i64 y]] 2 0 = _
  rw [s0, s1, s2]
  by_cases h : x = 0
  · rw [if_pos h, ite'_f (by simpa using h)]
    by_cases h' : y = 0
    · rw [ite'_f (by simpa using h'), h']
    · rw [ite'_t (by simpa using h')]
  · rw [if_neg h, ite'_t (by simpa using h)]
/-- impl.CompareFacts -/
theorem c85 (x y : Atom) (hk : x.2.length < k) (ha : x.2.length ≤ maxLen) : C (k + 5) 85 [.agg [.d (.int .i64 x.1), .d (.list 1 (I1 x.2))], .agg [.d (.int .i64 y.1), .d (.list 1 (I1 y.2))]] = io (cmpF x y) := by
  rw [F85.run, c122, iB', c123 (k := k + 1) x.2 y.2 (by omega) ha, iB', c121, iB']
  unfold cmpF cmp1
  by_cases h1 : x.1 < y.1
  · rw [if_pos h1, if_pos h1]; rfl
  · rw [if_neg h1, if_neg h1]
    by_cases h2 : x.1 > y.1
    · rw [if_pos h2, if_pos h2]; rfl
    · rw [if_neg h2, if_neg h2]; rfl
/-! ### valid facts -/
def FactB (a : Ovi.Rows) (x : Atom) (b : Bool) : Prop := (b = true → (0 ≤ x.1 ∧ x.1 < (a.length : Int)) ∧ (x.2.length : Int) = ar a x.1) ∧ ∀ k, a.length < k → x.2.length < k → C (k + 6) 84 [.d (.list 3 a), .agg [.d (.int .i64 x.1), .d (.list 1 (I1 x.2))]] = bo b ∧ C (k + 6) 65 [.d (.list 3 a), .agg [.d (.int .i64 x.1), .d (.list 1 (I1 x.2))]] = bo b
theorem factB {a : Ovi.Rows} (ha : Fit Rl (.list 3 a)) (x : Atom) (hI : ∀ z ∈ x.2, inI z) (hx2 : x.2.length ≤ maxLen) : ∃ b, FactB a x b := by
  have hlen := ha.len
  unfold maxLen at hlen
  obtain ⟨b, hb⟩ := rels ha
  have e : ∀ k, a.length < k → C (k + 5) 83 [.d (.list 3 a)] = bo b ∧ C (k + 5) 67 [.d (.list 3 a)] = bo b := fun k hk => hb (k + 2) (by omega)
  cases b with
  | false =>
    refine ⟨false, fun h => (by cases h), fun k hk hx => ?_⟩
    rw [F84.run, F65.run, (e k hk).1, (e k hk).2, bB, bB]
    exact ⟨rfl, rfl⟩
  | true =>
    by_cases hr : 0 ≤ x.1 ∧ x.1 ≤ (a.length : Int) - 1
    · obtain ⟨i, hi⟩ : ∃ i : Nat, x.1 = i := ⟨x.1.toNat, by omega⟩
      have hia : i < a.length := by omega
      obtain ⟨row, hrow, hfr, _⟩ := ha.row hia
      obtain ⟨d0, r0, rfl, f0, h1⟩ := Fits.cons hfr
      obtain ⟨d1, r1, rfl, f1, h1⟩ := Fits.cons h1
      obtain ⟨n, rfl, _⟩ := f1.int
      have hcn : cellI .i64 a ((i : Int)).toNat 1 = some n := by rw [Int.toNat_natCast, cellI_at hrow]; simp [asI_s]
      by_cases hn : ((I1 x.2).length : Int) = n
      · refine ⟨!(x.2.any fun t => !okV t), fun _ => ⟨by omega, by unfold ar; rw [hi, hcn]; rw [I1_len] at hn; exact hn⟩, fun k hk hx => ?_⟩
        rw [F84.run, F65.run, (e k hk).1, (e k hk).2, bB, bB, ite'_nt, ite'_nt, c53, c40, bB, bB, wrap_id (by omega) (by omega), decide_eq_true hr, ite'_nt, ite'_nt, hi, ite'_t (inR_t hia), ite'_t (inR_t hia), hcn]
        simp only [bindI_s]
        rw [ite'_f (by simpa using hn), ite'_f (b := ((I1 x.2).length : Int) != n) (by simpa using hn)]
        have e69 := c118 (k := k + 3) x.2 119 [] (fun t => !okV t) (by omega) hx2 (fun z _ => by
          rw [List.map_nil, F119.run, c120, bB]; rfl)
        rw [e69, bB]
        refine ⟨rfl, ?_⟩
        have := loop_any (xs := x.2) (L := fun m j => F65.L4 (k + 5) (C (k + 5)) m j (i : Int) (I1 x.2)) (stop := fun t => !okV t) (hit := bo false) (fin := bo true)
          (fun m j t ht => by
            have hj := (List.getElem?_eq_some_iff.1 ht).1
            rw [F65.L4.succ, I1_len, ite'_t (lt_t hj), ite'_t (inR_t hj)]
            simp only [Int.toNat_natCast, cellI_at (I1_get' ht), List.getElem?_cons_zero, Option.bind_some, asI_s, bindI_s]
            rw [c103 (hI t (List.mem_of_getElem? ht)), bB, next_i hj hx2]; rfl)
          (fun m => by rw [F65.L4.succ, I1_len, ite'_f (lt_f (by omega))]; rfl) (k + 5) (by omega)
        rw [show F65.L4 (k + 5) (C (k + 5)) (k + 5) 0 (i : Int) (I1 x.2) = _ from this]
        cases x.2.any (fun t => !okV t) <;> rfl
      · refine ⟨false, fun h => (by cases h), fun k hk hx => ?_⟩
        rw [F84.run, F65.run, (e k hk).1, (e k hk).2, bB, bB, ite'_nt, ite'_nt, c53, c40, bB, bB, wrap_id (by omega) (by omega), decide_eq_true hr, ite'_nt, ite'_nt, hi, ite'_t (inR_t hia), ite'_t (inR_t hia), hcn]
        simp only [bindI_s]
        rw [ite'_t (by simpa using hn), ite'_t (b := ((I1 x.2).length : Int) != n) (by simpa using hn)]
        exact ⟨rfl, rfl⟩
    · refine ⟨false, fun h => (by cases h), fun k hk hx => ?_⟩
      rw [F84.run, F65.run, (e k hk).1, (e k hk).2, bB, bB, ite'_nt, ite'_nt, c53, c40, bB, bB, wrap_id (by omega) (by omega), decide_eq_false hr]
      exact ⟨rfl, rfl⟩
def src (a : Ovi.Rows) (x : Atom) : Bool := match a[x.1.toNat]? with
  | some [_, _, .bool b] => b
  | _ => false
theorem src_cell {a : Ovi.Rows} (ha : Fit Rl (.list 3 a)) {x : Atom} (h : 0 ≤ x.1 ∧ x.1 < (a.length : Int)) : inR x.1 a.length = true ∧ cellB a x.1.toNat 2 = some (src a x) := by
  obtain ⟨i, hi⟩ : ∃ i : Nat, x.1 = i := ⟨x.1.toNat, by omega⟩
  have hia : i < a.length := by omega
  obtain ⟨row, hrow, hfr, _⟩ := ha.row hia
  obtain ⟨d0, r0, rfl, f0, h1⟩ := Fits.cons hfr
  obtain ⟨d1, r1, rfl, f1, h1⟩ := Fits.cons h1
  obtain ⟨d2, r2, rfl, f2, h1⟩ := Fits.cons h1
  obtain rfl := Fits.nil h1
  obtain ⟨b, rfl⟩ := f2.bool
  rw [hi]
  refine ⟨inR_t hia, ?_⟩
  rw [Int.toNat_natCast, cellB_at hrow]
  unfold src
  rw [hi, Int.toNat_natCast, hrow]
  rfl
/-- both IsValidInstance answer alike -/
theorem instB3 {a : Ovi.Rows} (ha : Fit Rl (.list 3 a)) (xs : List Atom) (hI : ∀ x ∈ xs, ∀ z ∈ x.2, inI z) (hs : terms xs + xs.length ≤ 1048576) (hal : a.length ≤ 1048576) : ∃ b, (b = true → (xs.length ≤ 30 ∧ ∀ x ∈ xs, (0 ≤ x.1 ∧ x.1 < (a.length : Int)) ∧ (x.2.length : Int) = ar a x.1) ∧ (∀ x ∈ xs, x.2.length ≤ 3) ∧ (∀ (i : Nat) x y, xs[i]? = some x → xs[i + 1]? = some y → cmpF x y < 0) ∧ ∀ r : Int, 0 ≤ r → r < (a.length : Int) → ar a r ≤ 3) ∧ ∀ k, 2000000 ≤ k → C (k + 8) 50 [.agg [.d (.list 3 a), .d (.list 2 (A1 xs))]] = bo b ∧ C (k + 8) 37 [.agg [.d (.list 3 a), .d (.list 2 (A1 xs))]] = bo b := by
  have hmax : (1048576 : Nat) ≤ maxLen := by decide
  have hl : ∀ x ∈ xs, x.2.length ≤ 1048576 := fun x hx => by have := len_terms hx; omega
  obtain ⟨vf, hvf⟩ : ∃ vf : Atom → Bool, ∀ x ∈ xs, FactB a x (vf x) := by
    have : ∀ x : Atom, ∃ b, x ∈ xs → FactB a x b := by
      intro x
      by_cases h : x ∈ xs
      · obtain ⟨b, hb⟩ := factB ha x (hI x h) (by have := hl x h; omega)
        exact ⟨b, fun _ => hb⟩
      · exact ⟨false, fun h' => absurd h' h⟩
    obtain ⟨vf, hv⟩ := Classical.axiomOfChoice this
    exact ⟨vf, fun x hx => hv x hx⟩
  obtain ⟨rb, hr3, hrb⟩ := rels3 ha
  let bad : Nat → Atom → Bool := fun i x => !vf x || ((decide (i > 0) && decide (cmpF (xs.getD (i - 1) x) x ≥ 0)) || (src a x && decide ((nulls x.2).length > 0)))
  have key : ∃ st : Bool, (st = false → (∀ x ∈ xs, vf x = true) ∧ ∀ (i : Nat) x y, xs[i]? = some x → xs[i + 1]? = some y → cmpF x y < 0) ∧ ∀ k, 2000000 ≤ k → F50.L4 (k + 7) (C (k + 7)) (k + 7) (A1 xs) (xs.length : Int) 0 a (A1 xs) = bo (!st) ∧ F37.L2 (k + 7) (C (k + 7)) (k + 7) 0 a (A1 xs) = cond st (bo false) (bo (rb && decide ((xs.length : Int) ≤ 30))) := by
    have s78 : ∀ k, 2000000 ≤ k → ∀ (n i : Nat) x, xs[i]? = some x → F50.L4 (k + 7) (C (k + 7)) (n + 1) (A1 xs) (xs.length : Int) (i : Int) a (A1 xs) = cond (bad i x) (bo false) (F50.L4 (k + 7) (C (k + 7)) n (A1 xs) (xs.length : Int) ((i + 1 : Nat) : Int) a (A1 xs)) ∧
        F37.L2 (k + 7) (C (k + 7)) (n + 1) (i : Int) a (A1 xs) = cond (bad i x) (bo false) (F37.L2 (k + 7) (C (k + 7)) n ((i + 1 : Nat) : Int) a (A1 xs)) := by
      intro k hk n i x hx
      have hi := (List.getElem?_eq_some_iff.1 hx).1
      have hxm := List.mem_of_getElem? hx
      have hxl := hl x hxm
      obtain ⟨hv1, hv2⟩ := hvf x hxm
      obtain ⟨e1, e2⟩ := hv2 (k + 1) (by omega) (by omega)
      have hc0 : cellI .i64 (A1 xs) (i : Int).toNat 0 = some x.1 := by rw [Int.toNat_natCast, cellI_at (A1_get hx)]; simp [asI_s]
      have hc1 : cellL 1 (A1 xs) (i : Int).toNat 1 = some (I1 x.2) := by rw [Int.toNat_natCast, cellL_at (A1_get hx)]; simp [asL_s]
      rw [F50.L4.succ, F37.L2.succ, A1_len, ite'_t (lt_t hi), ite'_t (inR_t hi), ite'_t (lt_t hi), ite'_t (inR_t hi), hc0, hc1]
      simp only [bindI_s, bindL_s]
      rw [e1, e2, bB, bB, next_i hi (m := xs.length) (by omega)]
      cases hvx : vf x with
      | false =>
        have hb : bad i x = true := by simp [bad, hvx]
        rw [hb]
        exact ⟨rfl, rfl⟩
      | true =>
        obtain ⟨g1, g2⟩ := src_cell ha (hv1 hvx).1
        have tail : ∀ (X Y : Option Res) (nu : Bool), nu = decide ((nulls x.2).length > 0) → True := fun _ _ _ _ => trivial
        have n126 := c86 (k := k + 3) x.1 x.2 (hI x hxm) (by omega) hxl
        have n75 := c66 (k := k + 4) x.1 x.2 (hI x hxm) (by omega) hxl
        rw [ite'_nt, ite'_nt, g1, g2, n126, n75]
        simp only [bindB_s, bindR_s, resO_s, resL_d, bindL_s, I1_len]
        have hnu : decide (((nulls x.2).length : Int) > 0) = decide ((nulls x.2).length > 0) := by
          rw [Bool.eq_iff_iff]; simp only [decide_eq_true_eq]; omega
        rw [hnu]
        by_cases h0 : i = 0
        · subst h0
          have hb : bad 0 x = (src a x && decide ((nulls x.2).length > 0)) := by simp [bad, hvx]
          rw [hb]
          cases src a x <;> cases decide ((nulls x.2).length > 0) <;> exact ⟨rfl, rfl⟩
        · have hw : IntKind.i64.wrap ((i : Int) - 1) = ((i - 1 : Nat) : Int) := by rw [wrap_id (by omega) (by omega)]; omega
          have hy : xs[i - 1]? = some xs[i - 1] := List.getElem?_eq_getElem (by omega)
          have hyl := hl _ (List.mem_of_getElem? hy)
          have hd0 : cellI .i64 (A1 xs) ((i - 1 : Nat) : Int).toNat 0 = some (xs[i - 1]).1 := by rw [Int.toNat_natCast, cellI_at (A1_get hy)]; simp [asI_s]
          have hd1 : cellL 1 (A1 xs) ((i - 1 : Nat) : Int).toNat 1 = some (I1 (xs[i - 1]).2) := by rw [Int.toNat_natCast, cellL_at (A1_get hy)]; simp [asL_s]
          have hgt : decide ((i : Int) > 0) = true := by simp; omega
          rw [hgt, hw, hd0, hd1]
          simp only [bindI_s, bindL_s]
          rw [c85 (k := k + 2) xs[i - 1] x (by omega) (by omega), c44 (k := k + 5) xs[i - 1] x (by omega) (by omega), iB', iB', inR_t (i := i - 1) (by omega)]
          have hb : bad i x = (decide (cmpF xs[i - 1] x ≥ 0) || (src a x && decide ((nulls x.2).length > 0))) := by
            simp [bad, hvx, List.getD_eq_getElem?_getD, hy, show i > 0 by omega]
          rw [hb]
          cases decide (cmpF xs[i - 1] x ≥ 0) <;> cases src a x <;> cases decide ((nulls x.2).length > 0) <;> exact ⟨rfl, rfl⟩
    have d78 : ∀ k n, F50.L4 (k + 7) (C (k + 7)) (n + 1) (A1 xs) (xs.length : Int) (xs.length : Int) a (A1 xs) = bo true := fun k n => by rw [F50.L4.succ, ite'_f (lt_f (by omega))]; rfl
    have d74 : ∀ k, 2000000 ≤ k → ∀ n, F37.L2 (k + 7) (C (k + 7)) (n + 1) (xs.length : Int) a (A1 xs) = bo (rb && decide ((xs.length : Int) ≤ 30)) := fun k hk n => by
      rw [F37.L2.succ, A1_len, ite'_f (lt_f (by omega)), (hrb (k + 4) (by omega)).2, bB]
      cases rb <;> rfl
    by_cases hall : ∀ (i : Nat) x, xs[i]? = some x → bad i x = false
    · refine ⟨false, fun _ => ⟨fun x hx => ?_, fun i x y hx hy => ?_⟩, fun k hk => ?_⟩
      · obtain ⟨i, hi⟩ := List.mem_iff_getElem?.1 hx
        have := hall i x hi
        simp only [bad, Bool.or_eq_false_iff, Bool.not_eq_false'] at this
        exact this.1
      · have := hall (i + 1) y hy
        simp only [bad, Bool.or_eq_false_iff, Bool.and_eq_false_iff, decide_eq_false_iff_not] at this
        have h2 := this.2.1
        rw [Nat.add_sub_cancel, List.getD_eq_getElem?_getD, hx] at h2
        simp only [Option.getD_some] at h2
        omega
      · constructor
        · rcases loop_find (L := fun n i => F50.L4 (k + 7) (C (k + 7)) n (A1 xs) (xs.length : Int) i a (A1 xs)) (stop := bad) (hit := fun _ => bo false) (fin := bo true) (fun n i x hx => (s78 k hk n i x hx).1) (d78 k) (k + 7) (by omega) with ⟨i, x, hx, hst, _⟩ | ⟨_, h⟩
          · rw [hall i x hx] at hst; cases hst
          · exact h
        · rcases loop_find (L := fun n i => F37.L2 (k + 7) (C (k + 7)) n i a (A1 xs)) (stop := bad) (hit := fun _ => bo false) (fun n i x hx => (s78 k hk n i x hx).2) (d74 k hk) (k + 7) (by omega) with ⟨i, x, hx, hst, _⟩ | ⟨_, h⟩
          · rw [hall i x hx] at hst; cases hst
          · exact h
    · refine ⟨true, ⟨fun h => (by cases h), fun k hk => ?_⟩⟩
      constructor
      · rcases loop_find (L := fun n i => F50.L4 (k + 7) (C (k + 7)) n (A1 xs) (xs.length : Int) i a (A1 xs)) (stop := bad) (hit := fun _ => bo false) (fin := bo true) (fun n i x hx => (s78 k hk n i x hx).1) (d78 k) (k + 7) (by omega) with ⟨i, x, hx, hst, h⟩ | ⟨h, _⟩
        · exact h
        · exact absurd h hall
      · rcases loop_find (L := fun n i => F37.L2 (k + 7) (C (k + 7)) n i a (A1 xs)) (stop := bad) (hit := fun _ => bo false) (fun n i x hx => (s78 k hk n i x hx).2) (d74 k hk) (k + 7) (by omega) with ⟨i, x, hx, hst, h⟩ | ⟨h, _⟩
        · exact h
        · exact absurd h hall
  obtain ⟨st, hst, hk2⟩ := key
  refine ⟨rb && (decide ((xs.length : Int) ≤ 30) && !st), fun h => ?_, fun k hk => ?_⟩
  · simp only [Bool.and_eq_true, decide_eq_true_eq, Bool.not_eq_true'] at h
    refine ⟨⟨by omega, fun x hx => (hvf x hx).1 ((hst h.2.2).1 x hx)⟩, fun x hx => ?_, (hst h.2.2).2, hr3 h.1⟩
    obtain ⟨g1, g2⟩ := (hvf x hx).1 ((hst h.2.2).1 x hx)
    have := hr3 h.1 x.1 g1.1 g1.2
    omega
  · obtain ⟨e1, e2⟩ := hk2 k hk
    constructor
    · rw [F50.run, (hrb (k + 4) (by omega)).1, bB, A1_len, e1]
      cases rb with
      | false => rfl
      | true =>
        rw [ite'_nt]
        by_cases h30 : (xs.length : Int) ≤ 30
        · rw [ite'_f (by simp; omega), decide_eq_true h30]; rfl
        · rw [ite'_t (by simp; omega), decide_eq_false h30]; rfl
    · rw [F37.run, e2]
      cases st <;> cases rb <;> cases decide ((xs.length : Int) ≤ 30) <;> rfl
theorem instB {a : Ovi.Rows} (ha : Fit Rl (.list 3 a)) (xs : List Atom) (hI : ∀ x ∈ xs, ∀ z ∈ x.2, inI z) (hs : terms xs + xs.length ≤ 1048576) (hal : a.length ≤ 1048576) : ∃ b, (b = true → xs.length ≤ 30 ∧ ∀ x ∈ xs, (0 ≤ x.1 ∧ x.1 < (a.length : Int)) ∧ (x.2.length : Int) = ar a x.1) ∧ ∀ k, 2000000 ≤ k → C (k + 8) 50 [.agg [.d (.list 3 a), .d (.list 2 (A1 xs))]] = bo b ∧ C (k + 8) 37 [.agg [.d (.list 3 a), .d (.list 2 (A1 xs))]] = bo b := by
  obtain ⟨b, h1, h2⟩ := instB3 ha xs hI hs hal
  exact ⟨b, fun h => (h1 h).1, h2⟩
/-! ### the nulls of an instance -/
def vals (xs : List Atom) : List Int := xs.flatMap fun x => x.2
theorem vals_len (xs : List Atom) : (vals xs).length = terms xs := by simp [vals, terms, List.length_flatMap]
theorem vals_I {xs : List Atom} (hI : ∀ x ∈ xs, ∀ z ∈ x.2, inI z) : ∀ z ∈ vals xs, inI z := by
  intro z hz
  obtain ⟨x, hx, h⟩ := List.mem_flatMap.1 hz
  exact hI x hx z h
end Go.Proofs.YtkkaikcjcjkpbaaGreat.Q

/-! VLa -/
namespace Go.Proofs.YtkkaikcjcjkpbaaGreat.Q
open Go Ovi
variable {k : Nat}
/-! ### matches -/
theorem I1_c {zs : List Int} {i : Nat} {z : Int} (h : zs[i]? = some z) : cellI .i64 (I1 zs) (i : Int).toNat 0 = some z := by rw [Int.toNat_natCast, cellI_at (I1_get' h)]; simp [asI_s]
theorem rowsSet_I1 {M : List Int} {i : Nat} (z : Int) (h : i < M.length) : rowsSet (I1 M) i 0 [.int .i64 z] = I1 (M.set i z) := by
  have : (I1 M).getD i [] = [.int .i64 M[i]] := by simp [I1, List.getD, h]
  unfold rowsSet
  rw [this]
  simp [I1, List.map_set]
theorem LL_get' {l : BL} {i : Nat} {zs : List Int} (h : l[i]? = some zs) : (LL l)[i]? = some [.list 1 (I1 zs)] := by simp [LL, h]
theorem LL_c {l : BL} {i : Nat} {zs : List Int} (h : l[i]? = some zs) : cellL 1 (LL l) (i : Int).toNat 0 = some (I1 zs) := by rw [Int.toNat_natCast, cellL_at (LL_get' h)]; simp [asL_s]
theorem LL_snoc (l : BL) (b : List Int) : LL l ++ [[D.list 1 (I1 b)]] = LL (l ++ [b]) := by simp [LL]
theorem LL_app (l l' : BL) : LL l ++ LL l' = LL (l ++ l') := by simp [LL]
theorem I1_snoc (l : List Int) (z : Int) : I1 l ++ [[D.int .i64 z]] = I1 (l ++ [z]) := by simp [I1]
theorem A1_c0 {xs : List Atom} {i : Nat} {x : Atom} (h : xs[i]? = some x) : cellI .i64 (A1 xs) (i : Int).toNat 0 = some x.1 := by rw [Int.toNat_natCast, cellI_at (A1_get h)]; simp [asI_s]
theorem A1_c1 {xs : List Atom} {i : Nat} {x : Atom} (h : xs[i]? = some x) : cellL 1 (A1 xs) (i : Int).toNat 1 = some (I1 x.2) := by rw [Int.toNat_natCast, cellL_at (A1_get h)]; simp [asL_s]
theorem fitS_nil (vs b : List Int) : fitS [] vs b = some b := by simp [fitS]
/-- terms as they have to be -/
def okT (ts : List Int) : Prop := ∀ t ∈ ts, -10 ≤ t ∧ t ≤ 4
def fitR : Option (List Int) → Option Res
  | some b => some [(false, [.row 3 1 (I1 b)]), (false, [.d (.bool true)])]
  | none => some [(false, [.nil]), (false, [.d (.bool false)])]
theorem fitR_s {b : List Int} {f : Ovi.Rows → Bool → Option Res} : (bindR (fitR (some b)) fun r => bindL (resO 3 1 2 false 1 r 0 0) fun l => bindB (resB 2 false 1 r 1 0) fun c => f l c) = f (I1 b) true := rfl
theorem l166 (ts vs : List Int) (r : Int) (hT : okT ts) (hl : vs.length = ts.length) (h5 : ts.length ≤ 1048576) (K : Nat) : ∀ (m i n : Nat) (b : List Int), i + m = ts.length → m < n → b.length = 5 →
    F166.L5 K (C K) n (I1 ts) (ts.length : Int) (i : Int) r (I1 vs) (I1 b) = fitR (fitS (ts.drop i) (vs.drop i) b) := by
  have hmax : (1048576 : Nat) ≤ maxLen := by decide
  intro m
  induction m with
  | zero =>
    intro i n b hm hn hb
    obtain ⟨n, rfl⟩ : ∃ j, n = j + 1 := ⟨n - 1, by omega⟩
    obtain rfl : i = ts.length := by omega
    rw [F166.L5.succ, ite'_f (lt_f (by omega)), List.drop_length, fitS_nil]
    rfl
  | succ m ih =>
    intro i n b hm hn hb
    obtain ⟨n, rfl⟩ : ∃ j, n = j + 1 := ⟨n - 1, by omega⟩
    have hi : i < ts.length := by omega
    have hiv : i < vs.length := by omega
    have hx := List.getElem?_eq_getElem hi
    have hy := List.getElem?_eq_getElem hiv
    obtain ⟨h1, h2⟩ := hT _ (List.getElem_mem hi)
    rw [F166.L5.succ, ite'_t (lt_t hi), I1_len, ite'_t (inR_t hi), I1_c hx, bindI_s, I1_len, ite'_t (inR_t hiv), I1_c hy, bindI_s, next_i hi (m := ts.length) (by omega), List.drop_eq_getElem_cons hi, List.drop_eq_getElem_cons hiv, fitS, wrap_id (by omega) (by omega)]
    by_cases hneg : ts[i] < 0
    · rw [ite'_t (by simpa using hneg), if_pos hneg]
      by_cases he : vs[i] = -1 - ts[i]
      · rw [ite'_f (by simpa using he), if_pos he]
        exact ih (i + 1) n b (by omega) (by omega) hb
      · rw [ite'_t (by simpa using he), if_neg he]; rfl
    · obtain ⟨q, hq⟩ : ∃ q : Nat, ts[i] = (q : Int) := ⟨ts[i].toNat, by omega⟩
      have hq5 : q < b.length := by omega
      have hbq : b[q]? = some (b.getD q 0) := by rw [List.getD_eq_getElem?_getD, List.getElem?_eq_getElem hq5]; rfl
      rw [ite'_f (by simpa using hneg), if_neg hneg, hq, I1_len, ite'_t (inR_t hq5), I1_c hbq, bindI_s, Int.toNat_natCast]
      by_cases h10 : b.getD q 0 = 10
      · rw [ite'_t (by simpa using h10), ite'_t (inR_t hq5), if_pos h10, rowsSet_I1 _ hq5]
        exact ih (i + 1) n _ (by omega) (by omega) (by simpa using hb)
      · rw [ite'_f (by simpa using h10), ite'_t (inR_t hq5), if_neg h10]
        rw [bindI_s]
        by_cases he : b.getD q 0 = vs[i]
        · rw [ite'_f (by simpa using he), if_pos he]
          exact ih (i + 1) n b (by omega) (by omega) hb
        · rw [ite'_t (by simpa using he), if_neg he]; rfl
/-- impl.bind -/
theorem c166 (x f : Atom) (b : List Int) (hT : okT x.2) (hl : x.1 = f.1 → f.2.length = x.2.length) (h5 : x.2.length ≤ 1048576) (hb : b.length = 5) (hk : x.2.length < k) :
    C (k + 2) 166 [.d (.list 1 (I1 b)), .agg [.d (.int .i64 x.1), .d (.list 1 (I1 x.2))], .agg [.d (.int .i64 f.1), .d (.list 1 (I1 f.2))]] = fitR (fitA x f b) := by
  rw [F166.run]
  unfold fitA
  by_cases h : x.1 = f.1
  · rw [ite'_f (by simpa using h), if_pos h]
    have e : C (k + 1) 94 [.d (.list 1 (I1 b))] = some [(false, [.row 3 1 (I1 b)])] := by
      have : C (k + 1) 94 [.d (.list 1 (I1 b))] = cloneP 3 [.d (.list 1 (I1 b))] := by kernel_rfl
      rw [this]
      simp only [cloneP, ints_I1]
      rw [show Nat.ble b.length 1099511627776 = true from Nat.ble_eq_true_of_le (by omega)]
      rfl
    rw [e]
    simp only [bindR_s, resO_s, bindL_s]
    have := l166 x.2 f.2 f.1 hT (hl h) h5 (k + 1) x.2.length 0 (k + 1) b (by omega) (by omega) hb
    rw [List.drop_zero, List.drop_zero] at this
    rw [I1_len]
    exact this
  · rw [ite'_t (by simpa using h), if_neg h]; rfl
theorem ten (k : Nat) : C (k + 1) 109 [] = io 10 := by rw [F109.run]; rfl
/-- what spec.l11Fit answers -/
def FitT (o : Option (List Int)) (r : Option Res) : Prop := ∃ y, r = some [(false, [.row 3 1 (I1 y)]), (false, [.d (.bool o.isSome)])] ∧ ∀ b, o = some b → y = b
theorem l142 (ts vs : List Int) (r r' : Int) (hT : okT ts) (hl : vs.length = ts.length) (h5 : ts.length ≤ 1048576) (K : Nat) : ∀ (m i n : Nat) (b : List Int), i + m = ts.length → m < n → b.length = 5 →
    FitT (fitS (ts.drop i) (vs.drop i) b) (F142.L5 (K + 1) (C (K + 1)) n (i : Int) r (I1 ts) r' (I1 vs) (I1 b)) := by
  have hmax : (1048576 : Nat) ≤ maxLen := by decide
  intro m
  induction m with
  | zero =>
    intro i n b hm hn hb
    obtain ⟨n, rfl⟩ : ∃ j, n = j + 1 := ⟨n - 1, by omega⟩
    obtain rfl : i = ts.length := by omega
    rw [F142.L5.succ, I1_len, ite'_f (lt_f (by omega)), List.drop_length, fitS_nil]
    exact ⟨b, rfl, fun c h => by cases h; rfl⟩
  | succ m ih =>
    intro i n b hm hn hb
    obtain ⟨n, rfl⟩ : ∃ j, n = j + 1 := ⟨n - 1, by omega⟩
    have hi : i < ts.length := by omega
    have hiv : i < vs.length := by omega
    have hx := List.getElem?_eq_getElem hi
    have hy := List.getElem?_eq_getElem hiv
    obtain ⟨h1, h2⟩ := hT _ (List.getElem_mem hi)
    rw [F142.L5.succ, I1_len, ite'_t (lt_t hi), ite'_t (inR_t hi), I1_c hx, bindI_s, next_i hi (m := ts.length) (by omega), List.drop_eq_getElem_cons hi, List.drop_eq_getElem_cons hiv, fitS, wrap_id (by omega) (by omega)]
    by_cases hneg : ts[i] < 0
    · rw [ite'_t (by simpa using hneg), if_pos hneg, I1_len, ite'_t (inR_t hiv), I1_c hy, bindI_s]
      by_cases he : vs[i] = -1 - ts[i]
      · rw [ite'_f (by simpa using he.symm), if_pos he]
        exact ih (i + 1) n b (by omega) (by omega) hb
      · rw [ite'_t (by simpa using fun h => he h.symm), if_neg he]
        exact ⟨b, rfl, fun c h => by cases h⟩
    · obtain ⟨q, hq⟩ : ∃ q : Nat, ts[i] = (q : Int) := ⟨ts[i].toNat, by omega⟩
      have hq5 : q < b.length := by omega
      have hbq : b[q]? = some (b.getD q 0) := by rw [List.getD_eq_getElem?_getD, List.getElem?_eq_getElem hq5]; rfl
      rw [ite'_f (by simpa using hneg), if_neg hneg, hq, I1_len, ite'_t (inR_t hq5), I1_c hbq, bindI_s, ten, iB', Int.toNat_natCast, I1_len]
      have hset : ∀ b', b' = b.set q vs[i] → FitT (fitS (ts.drop (i + 1)) (vs.drop (i + 1)) b') (ite' (inR (i : Int) vs.length) (bindI (cellI .i64 (I1 vs) (i : Int).toNat 0) fun n20 => ite' (inR (q : Int) b.length) (F142.L5 (K + 1) (C (K + 1)) n ((i + 1 : Nat) : Int) r (I1 ts) r' (I1 vs) (rowsSet (I1 b) q 0 [.int .i64 n20])) none) none) := by
        intro b' hb'
        rw [ite'_t (inR_t hiv), I1_c hy, bindI_s, ite'_t (inR_t hq5), rowsSet_I1 _ hq5, ← hb']
        exact ih (i + 1) n b' (by omega) (by omega) (by rw [hb']; simpa using hb)
      by_cases h10 : b.getD q 0 = 10
      · rw [ite'_f (by simpa using h10), if_pos h10]
        exact hset _ rfl
      · rw [ite'_t (by simpa using h10), if_neg h10, ite'_t (inR_t hq5), bindI_s, ite'_t (inR_t hiv), I1_c hy, bindI_s]
        by_cases he : b.getD q 0 = vs[i]
        · rw [ite'_f (by simpa using he), if_pos he]
          have := hset b (by
            rw [← he]
            apply List.ext_getElem?
            intro j
            rw [List.getElem?_set]
            by_cases hj : q = j
            · subst hj; rw [if_pos rfl, if_pos hq5, hbq]
            · rw [if_neg hj])
          rw [ite'_t (inR_t hiv), I1_c hy, bindI_s] at this
          rw [ite'_t (inR_t hiv), bindI_s]
          exact this
        · rw [ite'_t (by simpa using he), if_neg he]
          exact ⟨b, rfl, fun c h => by cases h⟩
/-- spec.l11Fit -/
theorem c142 (x f : Atom) (b : List Int) (hT : okT x.2) (hl : x.1 = f.1 → f.2.length = x.2.length) (h5 : x.2.length ≤ 1048576) (hb : b.length = 5) (hk : x.2.length < k) :
    FitT (fitA x f b) (C (k + 2) 142 [.agg [.d (.int .i64 x.1), .d (.list 1 (I1 x.2))], .agg [.d (.int .i64 f.1), .d (.list 1 (I1 f.2))], .d (.list 1 (I1 b))]) := by
  rw [F142.run, I1_len, ite'_t (fits_t (by omega))]
  unfold fitA
  by_cases h : x.1 = f.1
  · rw [ite'_f (by simpa using h), if_pos h, I1_len, I1_len, hl h, ite'_f (by simp)]
    have := l142 x.2 f.2 x.1 f.1 hT (hl h) h5 k x.2.length 0 (k + 1) b (by omega) (by omega) hb
    rw [List.drop_zero, List.drop_zero] at this
    exact this
  · rw [ite'_t (by simpa using h), if_neg h]
    exact ⟨b, rfl, fun c h => by cases h⟩
/-- facts and atoms as they are where matches are looked for -/
structure Mok (fs xs : List Atom) : Prop where
  f30 : fs.length ≤ 30
  x3 : xs.length ≤ 3
  ts : ∀ x ∈ xs, okT x.2 ∧ x.2.length ≤ 1048576
  len : ∀ x ∈ xs, ∀ f ∈ fs, x.1 = f.1 → f.2.length = x.2.length
theorem pow_le {a n : Nat} (ha : a ≤ 30) (hn : n ≤ 3) : a ^ n ≤ 27000 := by
  have h1 : a ^ n ≤ 30 ^ n := Nat.pow_le_pow_left ha n
  have h2 : 30 ^ n ≤ 30 ^ 3 := Nat.pow_le_pow_right (by omega) hn
  omega
theorem Mok.lens {fs xs : List Atom} (h : Mok fs xs) (b : List Int) : (mats fs xs b).length ≤ 27000 := Nat.le_trans (mats_len fs xs b) (pow_le h.f30 h.x3)
theorem Mok.tail {fs : List Atom} {x : Atom} {xs : List Atom} (h : Mok fs (x :: xs)) : Mok fs xs :=
  ⟨h.f30, by have := h.x3; simp only [List.length_cons] at this; omega, fun y hy => h.ts y (List.mem_cons_of_mem _ hy), fun y hy => h.len y (List.mem_cons_of_mem _ hy)⟩
def sub (fs xs : List Atom) (x : Atom) (b : List Int) (f : Atom) : BL := ((fitA x f b).map (mats fs xs)).getD []
theorem sub_len {fs xs : List Atom} (h : Mok fs xs) (x : Atom) (b : List Int) (f : Atom) : (sub fs xs x b f).length ≤ 27000 := by
  unfold sub
  cases fitA x f b with
  | none => simp
  | some b' => exact h.lens b'
/-- impl.matches -/
theorem c155 {fs : List Atom} (hk : 2000000 ≤ k) : ∀ (xs : List Atom), Mok fs xs → ∀ b : List Int, b.length = 5 → C (k + xs.length + 3) 155 [.d (.list 2 (A1 fs)), .d (.list 2 (A1 xs)), .d (.list 1 (I1 b))] = some [(false, [.row 74 1 (LL (mats fs xs b))])]
  | [], h, b, hb => by rw [F155.run, ite'_t (by rfl)]; rfl
  | x :: xs, h, b, hb => by
    have hmax : (1048576 : Nat) ≤ maxLen := by decide
    have hx0 := h.ts x List.mem_cons_self
    have hf30 := h.f30
    have main : ∀ (m i n : Nat) (acc : BL), i + m = fs.length → m < n → acc.length ≤ 27000 * i →
        F155.L5 (k + xs.length + 3) (C (k + xs.length + 3)) n (A1 fs) (A1 (x :: xs)) (I1 b) (A1 fs) (fs.length : Int) (i : Int) (LL acc) = some [(false, [.row 74 1 (LL (acc ++ (fs.drop i).flatMap (sub fs xs x b)))])] := by
      intro m
      induction m with
      | zero =>
        intro i n acc hm hn ha
        obtain ⟨n, rfl⟩ : ∃ j, n = j + 1 := ⟨n - 1, by omega⟩
        obtain rfl : i = fs.length := by omega
        rw [F155.L5.succ, ite'_f (lt_f (by omega)), List.drop_length]
        simp
      | succ m ih =>
        intro i n acc hm hn ha
        obtain ⟨n, rfl⟩ : ∃ j, n = j + 1 := ⟨n - 1, by omega⟩
        have hi : i < fs.length := by omega
        have hf := List.getElem?_eq_getElem hi
        have hfm := List.getElem_mem hi
        have hsl := sub_len h.tail x b fs[i]
        have e0 : cellI .i64 (A1 (x :: xs)) 0 0 = some x.1 := A1_c0 (xs := x :: xs) (i := 0) rfl
        have e1 : cellL 1 (A1 (x :: xs)) 0 1 = some (I1 x.2) := A1_c1 (xs := x :: xs) (i := 0) rfl
        have hin : inR (0 : Int) (A1 (x :: xs)).length = true := inR_t (i := 0) (by rw [A1_len]; simp)
        have hk1 : k + xs.length + 3 = (k + xs.length + 1) + 2 := rfl
        rw [F155.L5.succ, ite'_t (lt_t hi), A1_len, ite'_t (inR_t hi), A1_c0 hf, bindI_s, A1_c1 hf, bindL_s, hin, ite'_t rfl, e0, bindI_s, e1, bindL_s]
        have e123 : C (k + xs.length + 3) 166 [.d (.list 1 (I1 b)), .agg [.d (.int .i64 x.1), .d (.list 1 (I1 x.2))], .agg [.d (.int .i64 (fs[i]).1), .d (.list 1 (I1 (fs[i]).2))]] = fitR (fitA x fs[i] b) :=
          c166 (k := k + xs.length + 1) x fs[i] b hx0.1 (h.len x List.mem_cons_self _ hfm) hx0.2 hb (by omega)
        rw [e123, next_i hi (m := fs.length) (by omega), List.drop_eq_getElem_cons hi, List.flatMap_cons]
        cases hfa : fitA x fs[i] b with
        | none =>
          have hs : sub fs xs x b fs[i] = [] := by unfold sub; rw [hfa]; rfl
          rw [hs, List.nil_append]
          show F155.L5 (k + xs.length + 3) (C (k + xs.length + 3)) n (A1 fs) (A1 (x :: xs)) (I1 b) (A1 fs) (fs.length : Int) ((i + 1 : Nat) : Int) (LL acc) = _
          exact ih (i + 1) n acc (by omega) (by omega) (by omega)
        | some b' =>
          have hs : sub fs xs x b fs[i] = mats fs xs b' := by unfold sub; rw [hfa]; rfl
          have hb' : b'.length = 5 := by rw [fitA_len hfa]; exact hb
          rw [hs] at hsl ⊢
          have hins : inS (1 : Int) ((A1 (x :: xs)).length : Int) (A1 (x :: xs)).length = true := by
            simp only [inS, decide_eq_true_eq, A1_len, List.length_cons]; omega
          have hrec : C (k + xs.length + 3) 155 [.d (.list 2 (A1 fs)), .d (.list 2 (A1 xs)), .d (.list 1 (I1 b'))] = some [(false, [.row 74 1 (LL (mats fs xs b'))])] := c155 hk xs h.tail b' hb'
          rw [fitR_s, ite'_t rfl, hins, ite'_t rfl]
          show (bindR (C (k + xs.length + 3) 155 [.d (.list 2 (A1 fs)), .d (.list 2 (A1 xs)), .d (.list 1 (I1 b'))]) fun r20 => bindL (resO 74 1 1 false 1 r20 0 0) fun l63 => ite' (fits ((LL acc).length + l63.length)) (F155.L5 (k + xs.length + 3) (C (k + xs.length + 3)) n (A1 fs) (A1 (x :: xs)) (I1 b) (A1 fs) (fs.length : Int) ((i + 1 : Nat) : Int) (LL acc ++ l63)) none) = _
          rw [hrec]
          simp only [bindR_s, resO_s, bindL_s]
          rw [ite'_t (fits_t (by rw [LL_len, LL_len]; omega)), LL_app, ← List.append_assoc]
          exact ih (i + 1) n _ (by omega) (by omega) (by rw [List.length_append]; omega)
    have := main fs.length 0 (k + xs.length + 3) [] (by omega) (by omega) (by simp)
    rw [List.drop_zero, List.nil_append] at this
    rw [show k + (x :: xs).length + 3 = (k + xs.length + 3) + 1 by simp only [List.length_cons]; omega, F155.run, ite'_f (by rw [A1_len]; simp; omega), A1_len]
    exact this
end Go.Proofs.YtkkaikcjcjkpbaaGreat.Q

/-! VLb -/
namespace Go.Proofs.YtkkaikcjcjkpbaaGreat.Q
open Go Ovi
variable {k : Nat}
theorem cmpI_zero : ∀ (a b : List Int), cmpI a b = 0 ↔ a = b
  | [], [] => by simp [cmpI]
  | [], _ :: _ => by simp [cmpI]
  | _ :: _, [] => by simp [cmpI]
  | x :: xs, y :: ys => by
    unfold cmpI
    by_cases h1 : x < y
    · rw [if_pos h1]
      constructor
      · intro h; omega
      · intro h; cases h; omega
    · rw [if_neg h1]
      by_cases h2 : x > y
      · rw [if_pos h2]
        constructor
        · intro h; omega
        · intro h; cases h; omega
      · rw [if_neg h2, cmpI_zero xs ys]
        have : x = y := by omega
        subst this
        simp
theorem c181 (a b : List Int) (hk : a.length < k) (ha : a.length ≤ maxLen) : C (k + 1) 181 [.d (.list 1 (I1 a)), .d (.list 1 (I1 b))] = bo (decide (a = b)) := by
  rw [F181.run, I1_len, I1_len]
  by_cases hl : a.length = b.length
  · rw [ite'_f (by simp [hl])]
    have := loop_find (xs := a) (L := fun n i => F181.L4 k (C k) n (I1 a) (I1 b) (a.length : Int) i) (stop := fun i x => x != b.getD i 0) (hit := fun _ => bo false) (fin := bo true)
      (fun n i x hx => by
        have hi := (List.getElem?_eq_some_iff.1 hx).1
        have hy : b[i]? = some (b.getD i 0) := by rw [List.getD_eq_getElem?_getD, List.getElem?_eq_getElem (by omega)]; rfl
        rw [F181.L4.succ, I1_len, I1_len, ite'_t (lt_t hi), ite'_t (inR_t hi), I1_c hx, bindI_s, ite'_t (inR_t (by omega)), I1_c hy, bindI_s, next_i hi ha]; rfl)
      (fun n => by rw [F181.L4.succ, ite'_f (lt_f (by omega))]; rfl) k hk
    rcases this with ⟨i, x, hx, hst, e⟩ | ⟨hst, e⟩
    · rw [show F181.L4 k (C k) k (I1 a) (I1 b) (a.length : Int) 0 = _ from e]
      refine bo_eq (decide_eq_false (fun h => ?_)).symm
      subst h
      rw [List.getD_eq_getElem?_getD, hx] at hst
      simp at hst
    · rw [show F181.L4 k (C k) k (I1 a) (I1 b) (a.length : Int) 0 = _ from e]
      refine bo_eq (decide_eq_true ?_).symm
      apply List.ext_getElem?
      intro i
      by_cases hi : i < a.length
      · have := hst i a[i] (List.getElem?_eq_getElem hi)
        rw [List.getD_eq_getElem?_getD, List.getElem?_eq_getElem (by omega)] at this
        rw [List.getElem?_eq_getElem hi, List.getElem?_eq_getElem (by omega)]
        simpa using this
      · rw [List.getElem?_eq_none (by omega), List.getElem?_eq_none (by omega)]
  · rw [ite'_t (by simp; omega)]
    exact bo_eq (decide_eq_false (fun h => hl (by rw [h]))).symm
theorem fitT_s {b : List Int} {c : Bool} {f : Ovi.Rows → Bool → Option Res} : (bindR (some [(false, [.row 3 1 (I1 b)]), (false, [.d (.bool c)])]) fun r => bindL (resO 3 1 2 false 1 r 0 0) fun l => bindB (resB 2 false 1 r 1 0) fun d => f l d) = f (I1 b) c := rfl
/-- spec.l11Walk -/
theorem c112 {a : Ovi.Rows} {fs xs : List Atom} (hM : Mok fs xs) (hk : 2000000 ≤ k) : ∀ (m n : Nat), n + m = xs.length → ∀ b : List Int, b.length = 5 → C (k + m + 3) 112 [.agg [.d (.list 3 a), .d (.list 2 (A1 fs))], .d (.list 2 (A1 xs)), .d (.int .i64 (n : Int)), .d (.list 1 (I1 b))] = some [(false, [.row 74 1 (LL (mats fs (xs.drop n) b))])] := by
  have hmax : (1048576 : Nat) ≤ maxLen := by decide
  intro m
  induction m with
  | zero =>
    intro n hn b hb
    obtain rfl : n = xs.length := by omega
    rw [F112.run, A1_len, ite'_t (by simp), I1_len, ite'_t (fits_t (by omega)), List.drop_length]
    rfl
  | succ m ih =>
    intro n hn b hb
    have hnl : n < xs.length := by omega
    have hx := List.getElem?_eq_getElem hnl
    have hxm := List.getElem_mem hnl
    have hx0 := hM.ts _ hxm
    have hf30 := hM.f30
    have hx3 := hM.x3
    have hsub : ∀ f, (sub fs (xs.drop (n + 1)) xs[n] b f).length ≤ 27000 := fun f => by
      unfold sub
      cases fitA xs[n] f b with
      | none => simp
      | some b' => exact Nat.le_trans (mats_len fs _ b') (pow_le hf30 (by rw [List.length_drop]; omega))
    have main : ∀ (p i j : Nat) (acc : BL), i + p = fs.length → p < j → acc.length ≤ 27000 * i →
        F112.L5 (k + m + 3) (C (k + m + 3)) j (A1 xs) (n : Int) (I1 b) (i : Int) a (A1 fs) (LL acc) = some [(false, [.row 74 1 (LL (acc ++ (fs.drop i).flatMap (sub fs (xs.drop (n + 1)) xs[n] b)))])] := by
      intro p
      induction p with
      | zero =>
        intro i j acc hm hj ha
        obtain ⟨j, rfl⟩ : ∃ q, j = q + 1 := ⟨j - 1, by omega⟩
        obtain rfl : i = fs.length := by omega
        rw [F112.L5.succ, A1_len, ite'_f (lt_f (by omega)), List.drop_length]
        simp
      | succ p ihp =>
        intro i j acc hm hj ha
        obtain ⟨j, rfl⟩ : ∃ q, j = q + 1 := ⟨j - 1, by omega⟩
        have hi : i < fs.length := by omega
        have hf := List.getElem?_eq_getElem hi
        have hfm := List.getElem_mem hi
        have hsl := hsub fs[i]
        rw [F112.L5.succ, A1_len, ite'_t (lt_t hi), A1_len, ite'_t (inR_t hnl), A1_c0 hx, bindI_s, A1_c1 hx, bindL_s, ite'_t (inR_t hi), A1_c0 hf, bindI_s, A1_c1 hf, bindL_s]
        obtain ⟨y, e102, hy⟩ : FitT (fitA xs[n] fs[i] b) (C (k + m + 3) 142 [.agg [.d (.int .i64 (xs[n]).1), .d (.list 1 (I1 (xs[n]).2))], .agg [.d (.int .i64 (fs[i]).1), .d (.list 1 (I1 (fs[i]).2))], .d (.list 1 (I1 b))]) := c142 (k := k + m + 1) xs[n] fs[i] b hx0.1 (hM.len _ hxm _ hfm) hx0.2 hb (by omega)
        rw [e102, fitT_s, next_i hi (m := fs.length) (by omega), List.drop_eq_getElem_cons hi, List.flatMap_cons]
        cases hfa : fitA xs[n] fs[i] b with
        | none =>
          have hs : sub fs (xs.drop (n + 1)) xs[n] b fs[i] = [] := by unfold sub; rw [hfa]; rfl
          rw [hs, List.nil_append, show (none : Option (List Int)).isSome = false from rfl, ite'_f rfl]
          exact ihp (i + 1) j acc (by omega) (by omega) (by omega)
        | some b' =>
          have hs : sub fs (xs.drop (n + 1)) xs[n] b fs[i] = mats fs (xs.drop (n + 1)) b' := by unfold sub; rw [hfa]; rfl
          obtain rfl := hy b' hfa
          have hb' : y.length = 5 := by rw [fitA_len hfa]; exact hb
          rw [hs] at hsl ⊢
          have hw : IntKind.i64.wrap ((n : Int) + 1) = ((n + 1 : Nat) : Int) := next_i hnl (m := xs.length) (by omega)
          rw [show (some y).isSome = true from rfl, ite'_t rfl]
          rw [hw, ih (n + 1) (by omega) y hb']
          simp only [bindR_s, resO_s, bindL_s]
          rw [ite'_t (fits_t (by rw [LL_len, LL_len]; omega)), LL_app, ← List.append_assoc]
          exact ihp (i + 1) j _ (by omega) (by omega) (by rw [List.length_append]; omega)
    have := main fs.length 0 (k + m + 3) [] (by omega) (by omega) (by simp)
    rw [List.drop_zero, List.nil_append] at this
    rw [show k + (m + 1) + 3 = (k + m + 3) + 1 by omega, F112.run, A1_len, ite'_f (by simp; omega), List.drop_eq_getElem_cons hnl]
    exact this
def tens : List Int := [10, 10, 10, 10, 10]
theorem c160 : C (k + 2) 160 [] = some [(false, [.row 3 1 (I1 tens)])] := by
  have : C (k + 1) 178 [.d (.list 1 [[.int .i64 10]]), .d (.int .i64 5)] = rep5P 3 [.d (.list 1 [[.int .i64 10]]), .d (.int .i64 5)] := by kernel_rfl
  rw [F160.run, this]
  rfl
theorem c144 (hk : 100 ≤ k) : C (k + 2) 144 [] = some [(false, [.row 3 1 (I1 tens)])] := by
  have step : ∀ (n : Nat) (l : List Int), l.length < 5 → F144.L2 (k + 1) (C (k + 1)) (n + 1) (I1 l) = F144.L2 (k + 1) (C (k + 1)) n (I1 (l ++ [10])) := by
    intro n l hl
    have h5 : decide (((l.length : Nat) : Int) < 5) = true := by rw [decide_eq_true_eq]; omega
    have hf : fits (l.length + [[D.int IntKind.i64 10]].length) = true := fits_t (by simp only [List.length_cons, List.length_nil]; omega)
    rw [F144.L2.succ, I1_len, ite'_t h5, ten, iB', ite'_t hf, I1_snoc]
  obtain ⟨j, rfl⟩ : ∃ j, k = j + 5 := ⟨k - 5, by omega⟩
  have e : F144.L2 (j + 5 + 1) (C (j + 5 + 1)) (j + 5 + 1) (I1 []) = F144.L2 (j + 5 + 1) (C (j + 5 + 1)) (j + 1) (I1 [10, 10, 10, 10, 10]) :=
    (step (j + 5) [] (by simp)).trans ((step (j + 4) [10] (by simp)).trans ((step (j + 3) [10, 10] (by simp)).trans ((step (j + 2) [10, 10, 10] (by simp)).trans (step (j + 1) [10, 10, 10, 10] (by simp)))))
  have e2 : F144.L2 (j + 5 + 1) (C (j + 5 + 1)) (j + 1) (I1 [10, 10, 10, 10, 10]) = some [(false, [.row 3 1 (I1 tens)])] := by
    rw [F144.L2.succ, I1_len, ite'_f (by simp)]
    rfl
  rw [F144.run]
  exact e.trans e2
/-- slices.ContainsFunc on rows of lists -/
theorem c179 (L : BL) (f : FuncId) (caps : Ovi.Rows) (p : List Int → Bool) (hk : L.length < k) (hz : L.length ≤ maxLen) (hp : ∀ x ∈ L, C k f (.d (.list 1 (I1 x)) :: caps.map fun c => .cap c 0) = bo (p x)) : C (k + 2) 179 [.d (.list 1 (LL L)), .d (.fn f caps)] = bo (L.any p) := by
  rw [F179.run, F198.run, LL_len]
  have := loop_find (xs := L) (L := fun n i => F198.L2 k (C k) n (LL L) f caps (L.length : Int) i) (stop := fun _ x => p x) (hit := fun i => some [(false, [.d (.int .i64 (i : Int))])]) (fin := some [(false, [.d (.int .i64 (-1))])])
    (fun n i x hx => by
      have hi := (List.getElem?_eq_some_iff.1 hx).1
      rw [F198.L2.succ, LL_len, ite'_t (lt_t hi), ite'_t (inR_t hi), LL_c hx, bindL_s, next_i hi hz]
      have := hp x (List.mem_of_getElem? hx)
      simp only [List.append_eq, List.nil_append] at this ⊢
      rw [this, bB]; rfl)
    (fun n => by rw [F198.L2.succ, ite'_f (lt_f (by omega))]) k hk
  rcases this with ⟨i, x, hx, hst, e⟩ | ⟨hst, e⟩
  · rw [show F198.L2 k (C k) k (LL L) f caps (L.length : Int) 0 = _ from e]
    simp only [bindR_s, resI_s, bindI_s]
    refine bo_eq ?_
    rw [List.any_eq_true.2 ⟨x, List.mem_of_getElem? hx, hst⟩]
    simp
  · rw [show F198.L2 k (C k) k (LL L) f caps (L.length : Int) 0 = _ from e]
    simp only [bindR_s, resI_s, bindI_s]
    refine bo_eq ?_
    have : L.any p = false := by
      rw [List.any_eq_false]
      intro x hx
      obtain ⟨i, hi⟩ := List.mem_iff_getElem?.1 hx
      simpa using hst i x hi
    rw [this]; rfl
/-- impl.hasBinding -/
theorem c161 (L : BL) (z : List Int) (hk : L.length < k) (hz : L.length ≤ 1048576) (hx : ∀ x ∈ L, x.length ≤ 1048576) (hk2 : 2000000 ≤ k) : C (k + 5) 161 [.d (.list 1 (LL L)), .d (.list 1 (I1 z))] = bo (decide (z ∈ L)) := by
  have hmax : (1048576 : Nat) ≤ maxLen := by decide
  rw [F161.run, c179 (k := k + 2) L 180 [[.list 1 (I1 z)]] (fun x => decide (x = z)) (by omega) (by omega) (fun x hxm => by
    have := hx x hxm
    rw [List.map_cons, List.map_nil, F180.run, c181 (k := k) x z (by omega) (by omega), bB]; rfl), bB]
  refine bo_eq ?_
  rw [Bool.eq_iff_iff]
  simp
/-- impl.FindMatches, the loop -/
theorem l141 (all : BL) (hall : all.length ≤ 27000) (hl : ∀ x ∈ all, x.length = 5) (hk : 2000000 ≤ k) : F141.L5 (k + 5) (C (k + 5)) (k + 5) (all.length : Int) 0 [] (LL all) = some [(false, [.row 74 1 (LL (ded [] all))])] := by
  have hmax : (1048576 : Nat) ≤ maxLen := by decide
  have main : ∀ (m i n : Nat) (out : BL), i + m = all.length → m < n → out.length ≤ i → (∀ x ∈ out, x.length = 5) → F141.L5 (k + 5) (C (k + 5)) n (all.length : Int) (i : Int) (LL out) (LL all) = some [(false, [.row 74 1 (LL (ded out (all.drop i)))])] := by
    intro m
    induction m with
    | zero =>
      intro i n out hm hn ho hx
      obtain ⟨n, rfl⟩ : ∃ j, n = j + 1 := ⟨n - 1, by omega⟩
      obtain rfl : i = all.length := by omega
      rw [F141.L5.succ, ite'_f (lt_f (by omega)), List.drop_length, ded]
    | succ m ih =>
      intro i n out hm hn ho hx
      obtain ⟨n, rfl⟩ : ∃ j, n = j + 1 := ⟨n - 1, by omega⟩
      have hi : i < all.length := by omega
      have hg := List.getElem?_eq_getElem hi
      have h5 := hl _ (List.getElem_mem hi)
      rw [F141.L5.succ, ite'_t (lt_t hi), LL_len, ite'_t (inR_t hi), LL_c hg, bindL_s, c161 (k := k) out all[i] (by omega) (by omega) (fun x h => by rw [hx x h]; omega) hk, bB, next_i hi (m := all.length) (by omega), List.drop_eq_getElem_cons hi, ded]
      by_cases hmem : all[i] ∈ out
      · rw [decide_eq_true hmem, ite'_nt, if_pos hmem]
        exact ih (i + 1) n out (by omega) (by omega) (by omega) hx
      · rw [decide_eq_false hmem, ite'_nf, if_neg hmem, ite'_t (fits_t (by rw [LL_len]; simp; omega)), LL_snoc]
        refine ih (i + 1) n _ (by omega) (by omega) (by rw [List.length_append, List.length_singleton]; omega) (fun x h => ?_)
        rcases List.mem_append.1 h with h | h
        · exact hx x h
        · rw [List.mem_singleton.1 h]; exact h5
  exact main all.length 0 (k + 5) [] (by omega) (by omega) (Nat.zero_le _) (by simp)
/-- spec.FindMatches, the loop -/
theorem l116 (all : BL) (hall : all.length ≤ 27000) (hl : ∀ x ∈ all, x.length = 5) (hk : 2000000 ≤ k) : F116.L6 (k + 1) (C (k + 1)) (k + 1) 0 [] (LL all) = some [(false, [.row 74 1 (LL (ded [] all))])] := by
  have hmax : (1048576 : Nat) ≤ maxLen := by decide
  have inner : ∀ (out : BL) (i : Nat) (hi : i < all.length), out.length ≤ i → (∀ x ∈ out, x.length = 5) → ∀ (m j n k6 : Nat) (met : Bool), j + m = out.length → m < n →
      F116.L10 (k + 1) (C (k + 1)) k6 n (i : Int) met (j : Int) (LL out) (LL all) = F116.L6 (k + 1) (C (k + 1)) k6 ((i + 1 : Nat) : Int) (LL (if met = true ∨ all[i] ∈ out.drop j then out else out ++ [all[i]])) (LL all) := by
    intro out i hi ho hx m
    induction m with
    | zero =>
      intro j n k6 met hm hn
      obtain ⟨n, rfl⟩ : ∃ q, n = q + 1 := ⟨n - 1, by omega⟩
      obtain rfl : j = out.length := by omega
      rw [F116.L10.succ, LL_len, ite'_f (lt_f (by omega)), List.drop_length, next_i hi (m := all.length) (by omega), LL_len, LL_c (List.getElem?_eq_getElem hi)]
      cases met with
      | true => rw [ite'_nt, if_pos (.inl rfl)]
      | false => rw [ite'_nf, ite'_t (inR_t hi), bindL_s, ite'_t (fits_t (by simp; omega)), if_neg (by simp), LL_snoc]
    | succ m ih =>
      intro j n k6 met hm hn
      obtain ⟨n, rfl⟩ : ∃ q, n = q + 1 := ⟨n - 1, by omega⟩
      have hj : j < out.length := by omega
      have hg := List.getElem?_eq_getElem hj
      have h5 := hx _ (List.getElem_mem hj)
      rw [F116.L10.succ, LL_len, ite'_t (lt_t hj), next_i hj (m := out.length) (by omega), List.drop_eq_getElem_cons hj]
      cases met with
      | true =>
        rw [ite'_t rfl, ih (j + 1) n k6 true (by omega) (by omega), if_pos (.inl rfl), if_pos (.inl rfl)]
      | false =>
        rw [ite'_f rfl, ite'_t (inR_t hj), LL_c hg, bindL_s, LL_len, ite'_t (inR_t hi), LL_c (List.getElem?_eq_getElem hi), bindL_s, c79 (k := k) out[j] all[i] (by omega) (by omega), iB', ih (j + 1) n k6 _ (by omega) (by omega)]
        congr 2
        by_cases he : out[j] = all[i]
        · rw [if_pos (.inl (by rw [(cmpI_zero _ _).2 he]; rfl)), if_pos (.inr (by rw [he]; exact List.mem_cons_self))]
        · have h0 : (cmpI out[j] all[i] == 0) = false := by
            rw [beq_eq_false_iff_ne]
            exact fun h => he ((cmpI_zero _ _).1 h)
          rw [h0]
          by_cases hmem : all[i] ∈ out.drop (j + 1)
          · rw [if_pos (.inr hmem), if_pos (.inr (List.mem_cons_of_mem _ hmem))]
          · rw [if_neg (by simp [hmem]), if_neg (by
              rintro (h | h)
              · cases h
              · rcases List.mem_cons.1 h with h | h
                · exact he h.symm
                · exact hmem h)]
  have main : ∀ (m i n : Nat) (out : BL), i + m = all.length → m < n → out.length ≤ i → (∀ x ∈ out, x.length = 5) → F116.L6 (k + 1) (C (k + 1)) n (i : Int) (LL out) (LL all) = some [(false, [.row 74 1 (LL (ded out (all.drop i)))])] := by
    intro m
    induction m with
    | zero =>
      intro i n out hm hn ho hx
      obtain ⟨n, rfl⟩ : ∃ j, n = j + 1 := ⟨n - 1, by omega⟩
      obtain rfl : i = all.length := by omega
      rw [F116.L6.succ, LL_len, ite'_f (lt_f (by omega)), List.drop_length, ded]
    | succ m ih =>
      intro i n out hm hn ho hx
      obtain ⟨n, rfl⟩ : ∃ j, n = j + 1 := ⟨n - 1, by omega⟩
      have hi : i < all.length := by omega
      have h5 := hl _ (List.getElem_mem hi)
      rw [F116.L6.succ, LL_len, ite'_t (lt_t hi)]
      have := inner out i hi ho hx out.length 0 (k + 1) n false (by omega) (by omega)
      rw [show ((0 : Nat) : Int) = 0 from rfl, List.drop_zero] at this
      rw [this, List.drop_eq_getElem_cons hi, ded]
      by_cases hmem : all[i] ∈ out
      · rw [if_pos (.inr hmem), if_pos hmem]
        exact ih (i + 1) n out (by omega) (by omega) (by omega) hx
      · rw [if_neg (by simp [hmem]), if_neg hmem]
        refine ih (i + 1) n _ (by omega) (by omega) (by rw [List.length_append, List.length_singleton]; omega) (fun x h => ?_)
        rcases List.mem_append.1 h with h | h
        · exact hx x h
        · rw [List.mem_singleton.1 h]; exact h5
  exact main all.length 0 (k + 1) [] (by omega) (by omega) (Nat.zero_le _) (by simp)
end Go.Proofs.YtkkaikcjcjkpbaaGreat.Q

/-! VMa -/
namespace Go.Proofs.YtkkaikcjcjkpbaaGreat.Q
open Go Ovi
variable {k : Nat}
/-! ### canonical instances -/
def neg (t : Int) : Int := -1 - t
def inst (x : Atom) : Atom := (x.1, x.2.map neg)
def nv : List Int := [-1, -2, -3, -4, -5]
theorem neg_w {t : Int} (h : -10 ≤ t ∧ t ≤ 4) : IntKind.i64.wrap (-1 - t) = neg t := wrap_id (by omega) (by omega)
theorem neg_ok {t : Int} (h : -10 ≤ t ∧ t ≤ 4) : okV (neg t) = true := by unfold okV neg; rw [decide_eq_true_eq]; omega
theorem neg_in {t : Int} (h : -10 ≤ t ∧ t ≤ 4) : inI (neg t) := by unfold inI neg; omega
theorem nv_at {q : Nat} (h : q < 5) : nv[q]? = some (neg (q : Int)) := by
  match q, h with
  | 0, _ => rfl
  | 1, _ => rfl
  | 2, _ => rfl
  | 3, _ => rfl
  | 4, _ => rfl
def okI (r : Int) (vs : List Int) : Option Res := some [(true, [.d (.int .i64 r), .row 3 1 (I1 vs)]), (false, [.d (.bool true)])]
theorem okI_s {r : Int} {vs : List Int} {f : Int → Ovi.Rows → Bool → Option Res} : (bindR (okI r vs) fun r16 => bindI (resI .i64 2 true 2 r16 0 0) fun n17 => bindL (resO 3 1 2 true 2 r16 0 1) fun l18 => bindB (resB 2 false 1 r16 1 0) fun b19 => f n17 l18 b19) = f r (I1 vs) true := rfl
theorem l98 (ts : List Int) (r : Int) (hT : okT ts) (hz : ts.length ≤ 1048576) : ∀ (m i n : Nat) (acc : List Int), i + m = ts.length → m < n → acc.length ≤ i → F98.L3 (k + 2) (C (k + 2)) n (I1 nv) (I1 ts) (ts.length : Int) (i : Int) 0 [] r (I1 acc) = okI r (acc ++ (ts.drop i).map neg) := by
  have hmax : (1048576 : Nat) ≤ maxLen := by decide
  intro m
  induction m with
  | zero =>
    intro i n acc hm hn ha
    obtain ⟨n, rfl⟩ : ∃ j, n = j + 1 := ⟨n - 1, by omega⟩
    obtain rfl : i = ts.length := by omega
    rw [F98.L3.succ, ite'_f (lt_f (by omega)), List.drop_length, List.map_nil, List.append_nil]
    rfl
  | succ m ih =>
    intro i n acc hm hn ha
    obtain ⟨n, rfl⟩ : ∃ j, n = j + 1 := ⟨n - 1, by omega⟩
    have hi : i < ts.length := by omega
    have hg := List.getElem?_eq_getElem hi
    have ht := hT _ (List.getElem_mem hi)
    have hnx := ih (i + 1) n (acc ++ [neg ts[i]]) (by omega) (by omega) (by rw [List.length_append, List.length_singleton]; omega)
    rw [List.append_assoc, List.singleton_append] at hnx
    rw [F98.L3.succ, ite'_t (lt_t hi), I1_len, ite'_t (inR_t hi), I1_c hg, bindI_s, List.drop_eq_getElem_cons hi, List.map_cons, next_i hi (m := ts.length) (by omega), I1_len]
    have hf : fits (acc.length + [[D.int IntKind.i64 (neg ts[i])]].length) = true := fits_t (by simp only [List.length_cons, List.length_nil]; omega)
    by_cases h0 : ts[i] ≥ 0
    · obtain ⟨q, hq⟩ : ∃ q : Nat, ts[i] = (q : Int) := ⟨ts[i].toNat, by omega⟩
      have hq5 : q < nv.length := by show q < 5; omega
      rw [ite'_t (by simpa using h0), hq, I1_len, ite'_f (decide_eq_false (by omega)), ite'_t (inR_t hq5), I1_c (nv_at hq5), bindI_s, c120 (k := k) (neg q), bB, neg_ok (by omega), ite'_nt]
      rw [hq] at hf hnx
      rw [ite'_t hf, I1_snoc]
      exact hnx
    · rw [ite'_f (by simpa using h0), neg_w ht, c120 (k := k), bB, neg_ok ht, ite'_nt, I1_len, ite'_t hf, I1_snoc]
      exact hnx
/-- impl.Instantiate -/
theorem c98 (x : Atom) (hT : okT x.2) (hz : x.2.length ≤ 1048576) (hk : 2000000 ≤ k) : C (k + 3) 98 [.agg [.d (.int .i64 x.1), .d (.list 1 (I1 x.2))], .d (.list 1 (I1 nv))] = okI x.1 (inst x).2 := by
  rw [F98.run, I1_len]
  exact l98 x.2 x.1 hT hz x.2.length 0 (k + 2) [] (by omega) (by omega) (Nat.le_refl _)
theorem l77 (ts : List Int) (r : Int) (hT : okT ts) (hz : ts.length ≤ 1048576) : ∀ (m i n : Nat) (acc : List Int), i + m = ts.length → m < n → acc.length ≤ i → F77.L3 (k + 3) (C (k + 3)) n (I1 nv) (i : Int) r (I1 ts) 0 [] r (I1 acc) = okI r (acc ++ (ts.drop i).map neg) := by
  have hmax : (1048576 : Nat) ≤ maxLen := by decide
  intro m
  induction m with
  | zero =>
    intro i n acc hm hn ha
    obtain ⟨n, rfl⟩ : ∃ j, n = j + 1 := ⟨n - 1, by omega⟩
    obtain rfl : i = ts.length := by omega
    rw [F77.L3.succ, I1_len, ite'_f (lt_f (by omega)), List.drop_length, List.map_nil, List.append_nil]
    rfl
  | succ m ih =>
    intro i n acc hm hn ha
    obtain ⟨n, rfl⟩ : ∃ j, n = j + 1 := ⟨n - 1, by omega⟩
    have hi : i < ts.length := by omega
    have hg := List.getElem?_eq_getElem hi
    have ht := hT _ (List.getElem_mem hi)
    have hnx := ih (i + 1) n (acc ++ [neg ts[i]]) (by omega) (by omega) (by rw [List.length_append, List.length_singleton]; omega)
    rw [List.append_assoc, List.singleton_append] at hnx
    rw [F77.L3.succ, I1_len, ite'_t (lt_t hi), ite'_t (inR_t hi), I1_c hg, bindI_s, ite'_t (inR_t hi), bindI_s, List.drop_eq_getElem_cons hi, List.map_cons, next_i hi (m := ts.length) (by omega)]
    have hf : fits (acc.length + [[D.int IntKind.i64 (neg ts[i])]].length) = true := fits_t (by simp only [List.length_cons, List.length_nil]; omega)
    by_cases h0 : ts[i] ≥ 0
    · obtain ⟨q, hq⟩ : ∃ q : Nat, ts[i] = (q : Int) := ⟨ts[i].toNat, by omega⟩
      have hq5 : q < nv.length := by show q < 5; omega
      rw [ite'_t (by simpa using h0), ite'_t (inR_t hi), bindI_s, hq, I1_len, ite'_f (decide_eq_false (by omega)), ite'_t (inR_t hi), bindI_s, ite'_t (inR_t hq5), I1_c (nv_at hq5), bindI_s, c103 (k := k) (neg_in (by omega)), bB, neg_ok (by omega), ite'_nt, ite'_t (inR_t hi), bindI_s, ite'_f (decide_eq_false (by omega))]
      rw [hq] at hf hnx
      rw [I1_len, ite'_t hf, I1_snoc]
      exact hnx
    · rw [ite'_f (by simpa using h0), neg_w ht, c103 (k := k) (neg_in ht), bB, neg_ok ht, ite'_nt, ite'_t (inR_t hi), bindI_s, ite'_t (decide_eq_true (by omega)), ite'_f (decide_eq_false (by unfold neg; omega)), I1_len, ite'_t hf, I1_snoc]
      exact hnx
/-- spec.Instantiate -/
theorem c77 (x : Atom) (hT : okT x.2) (hz : x.2.length ≤ 1048576) (hk : 2000000 ≤ k) : C (k + 4) 77 [.agg [.d (.int .i64 x.1), .d (.list 1 (I1 x.2))], .d (.list 1 (I1 nv))] = okI x.1 (inst x).2 := by
  rw [F77.run]
  exact l77 x.2 x.1 hT hz x.2.length 0 (k + 3) [] (by omega) (by omega) (Nat.le_refl _)
/-! ### facts: copied, sorted, put in their place -/
theorem c131 (x : Atom) (hz : x.2.length ≤ 1048576) : C (k + 2) 131 [.agg [.d (.int .i64 x.1), .d (.list 1 (I1 x.2))]] = some [(true, [.d (.int .i64 x.1), .row 3 1 (I1 x.2)])] := by
  have e : C (k + 1) 94 [.d (.list 1 (I1 x.2))] = some [(false, [.row 3 1 (I1 x.2)])] := by
    have : C (k + 1) 94 [.d (.list 1 (I1 x.2))] = cloneP 3 [.d (.list 1 (I1 x.2))] := by kernel_rfl
    rw [this]
    simp only [cloneP, ints_I1]
    rw [show Nat.ble x.2.length 1099511627776 = true from Nat.ble_eq_true_of_le (by omega)]
    rfl
  rw [F131.run, e]
  rfl
theorem A1_snoc (l : List Atom) (x : Atom) : A1 l ++ [[D.int .i64 x.1, D.list 1 (I1 x.2)]] = A1 (l ++ [x]) := by simp [A1]
theorem A1_app (l l' : List Atom) : A1 l ++ A1 l' = A1 (l ++ l') := by simp [A1]
theorem A1_take (l : List Atom) (i : Nat) : (A1 l).take i = A1 (l.take i) := by simp [A1]
theorem A1_drop (l : List Atom) (i : Nat) : (A1 l).drop i = A1 (l.drop i) := by simp [A1]
/-- impl.factsCopy -/
theorem c91 (xs : List Atom) (hx : ∀ x ∈ xs, x.2.length ≤ 1048576) (hl : xs.length ≤ 1048576) (hk : 2000000 ≤ k) : C (k + 3) 91 [.d (.list 2 (A1 xs))] = some [(false, [.row 90 2 (A1 xs)])] := by
  have hmax : (1048576 : Nat) ≤ maxLen := by decide
  rw [F91.run, A1_len]
  have main : ∀ (m i n : Nat), i + m = xs.length → m < n → F91.L3 (k + 2) (C (k + 2)) n (A1 xs) (xs.length : Int) (i : Int) (A1 (xs.take i)) = some [(false, [.row 90 2 (A1 xs)])] := by
    intro m
    induction m with
    | zero =>
      intro i n hm hn
      obtain ⟨n, rfl⟩ : ∃ j, n = j + 1 := ⟨n - 1, by omega⟩
      obtain rfl : i = xs.length := by omega
      rw [F91.L3.succ, ite'_f (lt_f (by omega)), List.take_length]
    | succ m ih =>
      intro i n hm hn
      obtain ⟨n, rfl⟩ : ∃ j, n = j + 1 := ⟨n - 1, by omega⟩
      have hi : i < xs.length := by omega
      have hg := List.getElem?_eq_getElem hi
      have := ih (i + 1) n (by omega) (by omega)
      rw [List.take_succ_eq_append_getElem hi] at this
      rw [F91.L3.succ, ite'_t (lt_t hi), A1_len, ite'_t (inR_t hi), A1_c0 hg, bindI_s, A1_c1 hg, bindL_s, c131 (k := k) xs[i] (hx _ (List.getElem_mem hi))]
      show ite' (fits ((A1 (xs.take i)).length + [[D.int IntKind.i64 (xs[i]).1, D.list 1 (I1 (xs[i]).2)]].length)) (F91.L3 (k + 2) (C (k + 2)) n (A1 xs) (xs.length : Int) (IntKind.i64.wrap ((i : Int) + 1)) (A1 (xs.take i) ++ [[D.int IntKind.i64 (xs[i]).1, D.list 1 (I1 (xs[i]).2)]])) none = _
      rw [ite'_t (fits_t (by rw [A1_len, List.length_take]; simp only [List.length_cons, List.length_nil]; omega)), next_i hi (m := xs.length) (by omega), A1_snoc]
      exact this
  exact main xs.length 0 (k + 2) (by omega) (by omega)
/-- facts, each once, in order -/
def can (xs : List Atom) : List Atom := Lib.compact (sortAtoms xs)
theorem can_len (xs : List Atom) : (can xs).length ≤ xs.length := by
  have := compactA_len (sortAtoms xs)
  rw [sortAtoms_len] at this
  exact this
theorem mem_can (xs : List Atom) (z : Atom) : z ∈ can xs ↔ z ∈ xs := by unfold can; rw [mem_compactA, mem_sortAtoms]
theorem atoms_small {l : List Atom} (hl : l.length ≤ 1048576) (hx : ∀ x ∈ l, x.2.length ≤ 1048576) : (Nat.ble l.length 1099511627776 && l.all fun z => Nat.ble z.2.length 1099511627776) = true := by
  rw [Bool.and_eq_true, List.all_eq_true]
  exact ⟨Nat.ble_eq_true_of_le (by omega), fun z hz => Nat.ble_eq_true_of_le (by have := hx z hz; omega)⟩
/-- impl.factsSet -/
theorem c99 (xs : List Atom) (hx : ∀ x ∈ xs, x.2.length ≤ 1048576) (hl : xs.length ≤ 1048576) (hk : 2000000 ≤ k) : C (k + 4) 99 [.d (.list 2 (A1 xs))] = some [(false, [.row 90 2 (A1 (can xs))])] := by
  have e1 : C (k + 3) 139 [.var 0 0, .d (.int .i64 90), .d (.list 2 (A1 xs)), .d (.fn 85 [])] = some [(false, [.row 90 2 (A1 (sortAtoms xs))])] := by
    have : C (k + 3) 139 [.var 0 0, .d (.int .i64 90), .d (.list 2 (A1 xs)), .d (.fn 85 [])] = sortAP 85 [.var 0 0, .d (.int .i64 90), .d (.list 2 (A1 xs)), .d (.fn 85 [])] := by kernel_rfl
    rw [this]
    unfold sortAP atomArg
    simp only [atomsOf_A1, Option.bind_some]
    rw [atoms_small hl hx]
    rfl
  have e2 : C (k + 3) 140 [.var 0 0, .d (.int .i64 90), .d (.list 2 (A1 (sortAtoms xs))), .d (.fn 57 [])] = some [(false, [.row 90 2 (A1 (can xs))]), (true, [])] := by
    have : C (k + 3) 140 [.var 0 0, .d (.int .i64 90), .d (.list 2 (A1 (sortAtoms xs))), .d (.fn 57 [])] = compAP 57 [.var 0 0, .d (.int .i64 90), .d (.list 2 (A1 (sortAtoms xs))), .d (.fn 57 [])] := by kernel_rfl
    rw [this]
    unfold compAP atomArg
    simp only [atomsOf_A1, Option.bind_some]
    rw [atoms_small (by rw [sortAtoms_len]; exact hl) (fun x h => hx x ((mem_sortAtoms _ _).1 h))]
    rfl
  rw [F99.run, c91 xs hx hl hk]
  simp only [bindR_s, resO_s, bindL_s]
  rw [e1]
  simp only [bindR_s, resO_s, bindL_s]
  rw [e2]
  rfl
theorem F62x {a : Ovi.Rows} {b : Ovi.Rows} {f : Ovi.Rows → Ovi.Rows → Option Res} : (bindR (some [(true, [.row 93 3 a, .row 90 2 b])]) fun r16 => bindL (resO 93 3 1 true 2 r16 0 0) fun l22 => bindL (resO 90 2 1 true 2 r16 0 1) fun l18 => f l22 l18) = f a b := rfl
/-- impl.instanceCopy -/
theorem c52 {a : Ovi.Rows} (ha2 : a.length ≤ 1048576) (xs : List Atom) (hx : ∀ x ∈ xs, x.2.length ≤ 1048576) (hl : xs.length ≤ 1048576) (hk : 2000000 ≤ k) : C (k + 4) 52 [.agg [.d (.list 3 a), .d (.list 2 (A1 xs))]] = some [(true, [.row 93 3 a, .row 90 2 (A1 xs)])] := by
  have e : C (k + 3) 90 [.d (.list 3 a)] = some [(false, [.row 93 3 a])] := by
    have : C (k + 3) 90 [.d (.list 3 a)] = cloneZP 93 3 [.d (.list 3 a)] := by kernel_rfl
    have e2 : cloneZP 93 3 [.d (.list 3 a)] = cond (Nat.beq 3 3 && Nat.ble a.length 1099511627776) (some [(false, [.row 93 3 a])]) none := rfl
    rw [this, e2]
    rw [show (Nat.beq 3 3 && Nat.ble a.length 1099511627776) = true by
      rw [show Nat.ble a.length 1099511627776 = true from Nat.ble_eq_true_of_le (by omega)]; rfl]
    rfl
  rw [F52.run, e]
  simp only [bindR_s, resO_s, bindL_s]
  rw [c91 xs hx hl hk]
  rfl
theorem c69 (x : Atom) (hz : x.2.length ≤ 1048576) : C (k + 1) 69 [.agg [.d (.int .i64 x.1), .d (.list 1 (I1 x.2))]] = some [(true, [.d (.int .i64 x.1), .row 3 1 (I1 x.2)])] := by
  have hmax : (1048576 : Nat) ≤ maxLen := by decide
  rw [F69.run, I1_len, ite'_t (fits_t (by omega))]
/-- spec.l5Copy -/
theorem c39 {a : Ovi.Rows} (ha2 : a.length ≤ 1048576) (xs : List Atom) (hx : ∀ x ∈ xs, x.2.length ≤ 1048576) (hl : xs.length ≤ 1048576) (hk : 2000000 ≤ k) : C (k + 3) 39 [.agg [.d (.list 3 a), .d (.list 2 (A1 xs))]] = some [(true, [.row 93 3 a, .row 90 2 (A1 xs)])] := by
  have hmax : (1048576 : Nat) ≤ maxLen := by decide
  rw [F39.run, ite'_t (fits_t (by omega))]
  have main : ∀ (m i n : Nat), i + m = xs.length → m < n → F39.L3 (k + 2) (C (k + 2)) n (i : Int) a (A1 xs) [] [] a (A1 (xs.take i)) = some [(true, [.row 93 3 a, .row 90 2 (A1 xs)])] := by
    intro m
    induction m with
    | zero =>
      intro i n hm hn
      obtain ⟨n, rfl⟩ : ∃ j, n = j + 1 := ⟨n - 1, by omega⟩
      obtain rfl : i = xs.length := by omega
      rw [F39.L3.succ, A1_len, ite'_f (lt_f (by omega)), List.take_length]
    | succ m ih =>
      intro i n hm hn
      obtain ⟨n, rfl⟩ : ∃ j, n = j + 1 := ⟨n - 1, by omega⟩
      have hi : i < xs.length := by omega
      have hg := List.getElem?_eq_getElem hi
      have := ih (i + 1) n (by omega) (by omega)
      rw [List.take_succ_eq_append_getElem hi] at this
      rw [F39.L3.succ, A1_len, ite'_t (lt_t hi), ite'_t (inR_t hi), A1_c0 hg, bindI_s, A1_c1 hg, bindL_s, c69 (k := k + 1) xs[i] (hx _ (List.getElem_mem hi))]
      show ite' (fits ((A1 (xs.take i)).length + [[D.int IntKind.i64 (xs[i]).1, D.list 1 (I1 (xs[i]).2)]].length)) (F39.L3 (k + 2) (C (k + 2)) n (IntKind.i64.wrap ((i : Int) + 1)) a (A1 xs) [] [] a (A1 (xs.take i) ++ [[D.int IntKind.i64 (xs[i]).1, D.list 1 (I1 (xs[i]).2)]])) none = _
      rw [ite'_t (fits_t (by rw [A1_len, List.length_take]; simp only [List.length_cons, List.length_nil]; omega)), next_i hi (m := xs.length) (by omega), A1_snoc]
      exact this
  exact main xs.length 0 (k + 2) (by omega) (by omega)
theorem cmpI_L : ∀ (a b : List Int), cmpI a b = cmpL a b
  | [], [] => rfl
  | [], _ :: _ => rfl
  | _ :: _, [] => rfl
  | x :: xs, y :: ys => by
    unfold cmpI cmpL
    rw [cmpI_L xs ys]
theorem cmpF_A (x y : Atom) : cmpF x y = cmpA x y := by unfold cmpF cmpA; rw [cmpI_L]
theorem cmpF_zero (x y : Atom) : cmpF x y = 0 ↔ x = y := by
  unfold cmpF
  constructor
  · intro h
    by_cases h1 : x.1 < y.1
    · rw [if_pos h1] at h; omega
    · rw [if_neg h1] at h
      by_cases h2 : x.1 > y.1
      · rw [if_pos h2] at h; omega
      · rw [if_neg h2] at h
        exact Prod.ext (by omega) ((cmpI_zero _ _).1 h)
  · rintro rfl
    rw [if_neg (by omega), if_neg (by omega)]
    exact (cmpI_zero _ _).2 rfl
/-- spec.l5Place -/
theorem c110 {a : Ovi.Rows} (xs : List Atom) (f : Atom) (hx : ∀ x ∈ xs, x.2.length ≤ 1048576) (hl : xs.length ≤ 1048576) (hk : 2000000 ≤ k) : ∃ n, C (k + 4) 110 [.agg [.d (.list 3 a), .d (.list 2 (A1 xs))], .agg [.d (.int .i64 f.1), .d (.list 1 (I1 f.2))]] = io n ∧ (n ≥ 0 ↔ f ∈ xs) := by
  have hmax : (1048576 : Nat) ≤ maxLen := by decide
  rw [F110.run]
  have := loop_find (xs := xs) (L := fun n i => F110.L2 (k + 3) (C (k + 3)) n i a (A1 xs) f.1 (I1 f.2)) (stop := fun _ x => decide (x = f)) (hit := fun i => io (i : Int)) (fin := io (-1))
    (fun n i x hxi => by
      have hi := (List.getElem?_eq_some_iff.1 hxi).1
      have hxl := hx x (List.mem_of_getElem? hxi)
      rw [F110.L2.succ, A1_len, ite'_t (lt_t hi), ite'_t (inR_t hi), A1_c0 hxi, bindI_s, A1_c1 hxi, bindL_s, c44 (k := k + 1) x f (by omega) (by omega), iB', next_i hi (m := xs.length) (by omega)]
      have : (cmpF x f == 0) = decide (x = f) := by
        rw [Bool.eq_iff_iff, beq_iff_eq, decide_eq_true_eq]
        exact cmpF_zero x f
      rw [this]; rfl)
    (fun n => by rw [F110.L2.succ, A1_len, ite'_f (lt_f (by omega))]; rfl) (k + 3) (by omega)
  rcases this with ⟨i, x, hxi, hst, e⟩ | ⟨hst, e⟩
  · refine ⟨(i : Int), e, ?_⟩
    simp only [decide_eq_true_eq] at hst
    subst hst
    exact ⟨fun _ => List.mem_of_getElem? hxi, fun _ => by omega⟩
  · refine ⟨-1, e, ?_⟩
    constructor
    · intro h; omega
    · intro h
      obtain ⟨i, hi⟩ := List.mem_iff_getElem?.1 h
      have := hst i f hi
      simp at this
/-- spec.l5Put -/
theorem c78 {a : Ovi.Rows} (xs : List Atom) (f : Atom) (hS : SSA xs) (hx : ∀ x ∈ xs, x.2.length ≤ 1048576) (hf : f.2.length ≤ 1048576) (hl : xs.length ≤ 1000000) (hk : 2000000 ≤ k) :
    ∃ r ws, C (k + 5) 78 [.agg [.d (.list 3 a), .d (.list 2 (A1 xs))], .agg [.d (.int .i64 f.1), .d (.list 1 (I1 f.2))]] = some r ∧ resL 3 1 true 2 r 0 0 = some a ∧ resL 2 1 true 2 r 0 1 = some (A1 ws) ∧ SSA ws ∧ (∀ z, z ∈ ws ↔ z ∈ xs ∨ z = f) ∧ ws.length ≤ xs.length + 1 := by
  have hmax : (1048576 : Nat) ≤ maxLen := by decide
  obtain ⟨n, e77, hn⟩ := c110 (k := k) (a := a) xs f hx (by omega) hk
  rw [F78.run, e77, iB']
  by_cases h0 : n ≥ 0
  · rw [ite'_t (by simpa using h0)]
    have hm := hn.1 h0
    refine ⟨_, xs, rfl, rfl, rfl, hS, fun z => ?_, by omega⟩
    constructor
    · exact fun h => .inl h
    · rintro (h | rfl)
      · exact h
      · exact hm
  · rw [ite'_f (by simpa using h0)]
    have hm : f ∉ xs := fun h => h0 (hn.2 h)
    have ins : ∀ i : Nat, i ≤ xs.length → (∀ j y, j < i → xs[j]? = some y → ltA y f = true) → (∀ y, xs[i]? = some y → ltA y f = false) →
        ∃ r ws, (ite' (inS (i : Int) ((A1 xs).length : Int) (A1 xs).length) (ite' (fits ([[D.int IntKind.i64 f.1, D.list 1 (I1 f.2)]].length + (List.drop (i : Int).toNat (A1 xs)).length)) (ite' (inS (0 : Int) (i : Int) (A1 xs).length) (ite' (fits (List.take (i : Int).toNat (A1 xs)).length) (ite' (fits ((List.take (i : Int).toNat (A1 xs)).length + List.length ([[D.int IntKind.i64 f.1, D.list 1 (I1 f.2)]] ++ List.drop (i : Int).toNat (A1 xs)))) (some ([(true, [RL.d (D.list 3 a), RL.row 90 2 (List.take (i : Int).toNat (A1 xs) ++ ([[D.int IntKind.i64 f.1, D.list 1 (I1 f.2)]] ++ List.drop (i : Int).toNat (A1 xs)))])])) (none)) (none)) (none)) (none)) (none)) = some r ∧ resL 3 1 true 2 r 0 0 = some a ∧ resL 2 1 true 2 r 0 1 = some (A1 ws) ∧ SSA ws ∧ (∀ z, z ∈ ws ↔ z ∈ xs ∨ z = f) ∧ ws.length ≤ xs.length + 1 := by
      intro i hi hlt hge
      rw [Int.toNat_natCast, A1_len, A1_take, A1_drop, ite'_t (by simp only [inS, decide_eq_true_eq]; omega), ite'_t (fits_t (by rw [A1_len, List.length_drop]; simp; omega)), ite'_t (by simp only [inS, decide_eq_true_eq]; omega), ite'_t (fits_t (by rw [A1_len, List.length_take]; omega)), ite'_t (fits_t (by rw [A1_len, List.length_take, List.length_append, A1_len, List.length_drop]; simp; omega))]
      have e : A1 (xs.take i) ++ ([[D.int IntKind.i64 f.1, D.list 1 (I1 f.2)]] ++ A1 (xs.drop i)) = A1 (xs.take i ++ f :: xs.drop i) := by simp [A1]
      rw [e]
      refine ⟨_, xs.take i ++ f :: xs.drop i, rfl, rfl, rfl, ssA_ins hS hm hlt hge, fun z => mem_ins i, ?_⟩
      simp only [List.length_append, List.length_cons, List.length_take, List.length_drop]; omega
    have main : ∀ (m i n : Nat), i + m = xs.length → m < n → (∀ j y, j < i → xs[j]? = some y → ltA y f = true) → ∃ r ws, F78.L4 (k + 4) (C (k + 4)) n (i : Int) a (A1 xs) f.1 (I1 f.2) [] [] = some r ∧ resL 3 1 true 2 r 0 0 = some a ∧ resL 2 1 true 2 r 0 1 = some (A1 ws) ∧ SSA ws ∧ (∀ z, z ∈ ws ↔ z ∈ xs ∨ z = f) ∧ ws.length ≤ xs.length + 1 := by
      intro m
      induction m with
      | zero =>
        intro i n hm' hn' hlt
        obtain ⟨n, rfl⟩ : ∃ j, n = j + 1 := ⟨n - 1, by omega⟩
        obtain rfl : i = xs.length := by omega
        have h0 : decide (((xs.length : Nat) : Int) < ((A1 xs).length : Int)) = false := by rw [A1_len]; exact lt_f (by omega)
        rw [F78.L4.succ, h0, ite'_f rfl, c69 (k := k + 3) f hf]
        exact ins xs.length (Nat.le_refl _) hlt (fun y hy => by rw [List.getElem?_eq_none (Nat.le_refl _)] at hy; cases hy)
      | succ m ih =>
        intro i n hm' hn' hlt
        obtain ⟨n, rfl⟩ : ∃ j, n = j + 1 := ⟨n - 1, by omega⟩
        have hi : i < xs.length := by omega
        have hg := List.getElem?_eq_getElem hi
        have hxl := hx _ (List.getElem_mem hi)
        have h0 : decide ((i : Int) < ((A1 xs).length : Int)) = true := by rw [A1_len]; exact lt_t hi
        have h1 : inR (i : Int) (A1 xs).length = true := by rw [A1_len]; exact inR_t hi
        rw [F78.L4.succ, h0, ite'_t rfl, h1, ite'_t rfl, A1_c0 hg, bindI_s, A1_c1 hg, bindL_s, c44 (k := k + 2) xs[i] f (by omega) (by omega), iB']
        by_cases hc : cmpF xs[i] f < 0
        · rw [ite'_t (by simpa using hc), next_i hi (m := xs.length) (by omega)]
          refine ih (i + 1) n (by omega) (by omega) fun j y hj hy => ?_
          by_cases hji : j = i
          · subst hji
            rw [hg] at hy; cases hy
            unfold ltA
            rw [← cmpF_A, decide_eq_true_eq]; exact hc
          · exact hlt j y (by omega) hy
        · rw [ite'_f (by simpa using hc), c69 (k := k + 3) f hf]
          refine ins i (by omega) hlt fun y hy => ?_
          rw [hg] at hy; cases hy
          unfold ltA
          rw [← cmpF_A, decide_eq_false_iff_not]; exact hc
    exact main xs.length 0 (k + 4) (by omega) (by omega) (fun j y hj => by omega)
end Go.Proofs.YtkkaikcjcjkpbaaGreat.Q

/-! VLd -/
namespace Go.Proofs.YtkkaikcjcjkpbaaGreat.Q
open Go Ovi
variable {k : Nat}
/-- impl.IsValidQuery's first part -/
theorem c126 {a : Ovi.Rows} {xs : List Atom} {valid : Atom → Bool} (hv : Valid a xs valid) (hk : 2000000 ≤ k) (ha : a.length ≤ 1048576) (hs : terms xs + xs.length ≤ 1048576) :
    C (k + 9) 126 [.d (.list 3 a), .d (.list 2 (A1 xs)), .d (.int .i64 3)] = bo (decide ((1 : Int) ≤ (xs.length : Int) ∧ (xs.length : Int) ≤ 3) && xs.all valid) := by
  have hmax : (1048576 : Nat) ≤ maxLen := by decide
  rw [F126.run, c53, bB, A1_len]
  cases decide ((1 : Int) ≤ (xs.length : Int) ∧ (xs.length : Int) ≤ 3) with
  | false => rfl
  | true =>
    rw [ite'_t rfl, c129 (k := k + 6) xs 149 [[.list 3 a]] (fun x => !valid x) (by omega) (by omega) (fun x hx => by
      have := len_terms hx
      rw [List.map_cons, List.map_nil, F149.run, (hv x hx k (by omega) (by omega)).1, bB]; rfl), bB]
    exact bo_eq (any_not xs valid)
/-- a query that is valid, and what the instance answers -/
structure Qok (a : Ovi.Rows) (fs xs : List Atom) (valid : Atom → Bool) (ib : Bool) : Prop where
  ha : a.length ≤ 1048576
  hs : terms xs + xs.length ≤ 1048576
  hv : Valid a xs valid
  h1 : 1 ≤ xs.length
  h3 : xs.length ≤ 3
  all : ∀ x ∈ xs, valid x = true
  inst : ∀ k, 2000000 ≤ k → C (k + 8) 50 [.agg [.d (.list 3 a), .d (.list 2 (A1 fs))]] = bo ib ∧ C (k + 8) 37 [.agg [.d (.list 3 a), .d (.list 2 (A1 fs))]] = bo ib
  mok : ib = true → Mok fs xs
variable {a : Ovi.Rows} {fs xs : List Atom} {valid : Atom → Bool} {ib : Bool}
theorem c154 (h : Qok a fs xs valid ib) (hk : 2000000 ≤ k) : C (k + 15) 154 [.agg [.d (.list 3 a), .d (.list 2 (A1 fs))], .d (.list 2 (A1 xs))] = bo ib := by
  rw [F154.run, (h.inst (k + 6) (by omega)).1, bB]
  cases ib with
  | false => rfl
  | true =>
    have := h.h1
    have h13 : decide ((1 : Int) ≤ (xs.length : Int) ∧ (xs.length : Int) ≤ 3) = true := decide_eq_true (by have := h.h3; omega)
    rw [ite'_t rfl, A1_len, ite'_f (beq_eq_false_iff_ne.2 (by omega)), c126 (k := k + 5) h.hv (by omega) h.ha h.hs, bB, h13, List.all_eq_true.2 h.all]
    rfl
theorem c111 (h : Qok a fs xs valid ib) (hk : 2000000 ≤ k) : C (k + 16) 111 [.agg [.d (.list 3 a), .d (.list 2 (A1 fs))], .d (.list 2 (A1 xs))] = bo ib := by
  have hmax : (1048576 : Nat) ≤ maxLen := by decide
  have h3 := h.h3
  rw [F111.run]
  have := loop_any (xs := xs) (L := fun n i => F111.L2 (k + 15) (C (k + 15)) n (A1 xs) i a (A1 fs)) (stop := fun x => !valid x) (hit := bo false) (fin := bo ib)
    (fun n i x hx => by
      have hi := (List.getElem?_eq_some_iff.1 hx).1
      have hxm := List.mem_of_getElem? hx
      have hl := len_terms hxm
      have hs := h.hs
      have ha := h.ha
      rw [F111.L2.succ, A1_len, ite'_t (lt_t hi), ite'_t (inR_t hi), A1_c0 hx, bindI_s, A1_c1 hx, bindL_s, (h.hv x hxm (k + 10) (by omega) (by omega)).2, bB, next_i hi (m := xs.length) (by omega)]; rfl)
    (fun n => by
      rw [F111.L2.succ, A1_len, ite'_f (lt_f (by omega)), (h.inst (k + 7) (by omega)).2, bB]
      cases ib with
      | false => rfl
      | true => rw [ite'_t rfl, decide_eq_true (by omega)]; rfl) (k + 15) (by omega)
  rw [show F111.L2 (k + 15) (C (k + 15)) (k + 15) (A1 xs) 0 a (A1 fs) = _ from this]
  have hf : (xs.any fun x => !valid x) = false := by
    rw [List.any_eq_false]
    intro x hx
    rw [h.all x hx]; decide
  rw [hf]; rfl
/-- every match found, each once -/
def mt (fs xs : List Atom) : BL := ded [] (mats fs xs tens)
theorem mats_short (h : Mok fs xs) : (mats fs xs tens).length ≤ 27000 ∧ ∀ x ∈ mats fs xs tens, x.length = 5 := ⟨h.lens tens, fun x hx => by rw [mats_mem fs xs tens x hx]; rfl⟩
theorem mt_short (h : Mok fs xs) : (mt fs xs).length ≤ 27000 ∧ ∀ x ∈ mt fs xs, x.length = 5 := by
  obtain ⟨h1, h2⟩ := mats_short h
  unfold mt
  refine ⟨?_, fun x hx => ?_⟩
  · have := ded_len (mats fs xs tens) []
    simp only [List.length_nil] at this
    omega
  · rcases (ded_mem _ _ _).1 hx with h | h
    · cases h
    · exact h2 x h
def mtr (ib : Bool) (fs xs : List Atom) : Option Res := cond ib (some [(false, [.row 74 1 (LL (mt fs xs))])]) (some [(false, [.nil])])
/-- impl.FindMatches -/
theorem c141 (h : Qok a fs xs valid ib) (hk : 2000000 ≤ k) : C (k + 16) 141 [.agg [.d (.list 3 a), .d (.list 2 (A1 fs))], .d (.list 2 (A1 xs))] = mtr ib fs xs := by
  rw [F141.run, c154 h hk, bB]
  cases ib with
  | false => rfl
  | true =>
    have hm := h.mok rfl
    have h3 := h.h3
    obtain ⟨h1, h2⟩ := mats_short hm
    obtain ⟨j, hj, hj2⟩ : ∃ j, k + 15 = j + xs.length + 3 ∧ 2000000 ≤ j := ⟨k + 12 - xs.length, by omega, by omega⟩
    have e105 : C (k + 15) 155 [.d (.list 2 (A1 fs)), .d (.list 2 (A1 xs)), .d (.list 1 (I1 tens))] = some [(false, [.row 74 1 (LL (mats fs xs tens))])] := by
      rw [hj]; exact c155 hj2 xs hm tens rfl
    rw [ite'_nt, c160 (k := k + 13)]
    simp only [bindR_s, resO_s, bindL_s]
    rw [e105]
    simp only [bindR_s, resO_s, bindL_s]
    rw [LL_len]
    exact l141 (k := k + 10) _ h1 h2 (by omega)
/-- spec.FindMatches -/
theorem c116 (h : Qok a fs xs valid ib) (hk : 2000000 ≤ k) : C (k + 17) 116 [.agg [.d (.list 3 a), .d (.list 2 (A1 fs))], .d (.list 2 (A1 xs))] = mtr ib fs xs := by
  rw [F116.run, c111 h hk, bB]
  cases ib with
  | false => rfl
  | true =>
    have hm := h.mok rfl
    have h3 := h.h3
    obtain ⟨h1, h2⟩ := mats_short hm
    have e71 : C (k + 16) 112 [.agg [.d (.list 3 a), .d (.list 2 (A1 fs))], .d (.list 2 (A1 xs)), .d (.int .i64 0), .d (.list 1 (I1 tens))] = some [(false, [.row 74 1 (LL (mats fs xs tens))])] := by
      have := c112 (a := a) hm (k := k + 13 - xs.length) (by omega) xs.length 0 (by omega) tens rfl
      rw [show k + 13 - xs.length + xs.length + 3 = k + 16 by omega] at this
      exact this
    rw [ite'_nt, c144 (k := k + 14) (by omega)]
    simp only [bindR_s, resO_s, bindL_s]
    rw [e71]
    simp only [bindR_s, resO_s, bindL_s]
    exact l116 (k := k + 15) _ h1 h2 (by omega)
end Go.Proofs.YtkkaikcjcjkpbaaGreat.Q

/-! VMb -/
namespace Go.Proofs.YtkkaikcjcjkpbaaGreat.Q
open Go Ovi
variable {k : Nat}
theorem terms_app (l l' : List Atom) : terms (l ++ l') = terms l + terms l' := by simp [terms]
theorem terms_compact (d : List Atom) : terms (Lib.compact d) ≤ terms d := by
  have key : ∀ m, m ≤ d.length → terms (Lib.compactUpTo d.toArray m) ≤ terms (d.take m) := by
    intro m
    induction m with
    | zero => intro _; simp [Lib.compactUpTo, terms]
    | succ m ih =>
      intro hm
      have h1 := ih (by omega)
      rw [Lib.compactUpTo_succ, terms_app, List.take_succ_eq_append_getElem (show m < d.length by omega), terms_app]
      have e : d.toArray[m]! = d[m] := by rw [getElem!_pos _ m (by simp; omega)]; simp
      by_cases hk : Lib.keeps d.toArray m = true
      · rw [if_pos hk, e]; omega
      · rw [if_neg hk]
        have : terms ([] : List Atom) = 0 := rfl
        omega
  have := key d.length (Nat.le_refl _)
  rw [List.take_length] at this
  exact this
theorem terms_can (l : List Atom) : terms (can l) ≤ terms l := by
  have h1 := terms_compact (sortAtoms l)
  have h2 : terms (sortAtoms l) = terms l := by
    unfold terms
    exact ((List.mergeSort_perm _ _).map _).sum_nat
  unfold can
  omega
theorem terms_inst (xs : List Atom) : terms (xs.map inst) = terms xs := by
  unfold terms
  rw [List.map_map]
  congr 1
  apply List.map_congr_left
  intro x _
  simp [inst]
variable {a : Ovi.Rows} {xs : List Atom} {ib : Bool}
theorem F54x {r : Res} {a : Ovi.Rows} {b : Ovi.Rows} {f : Ovi.Rows → Ovi.Rows → Option Res} (h1 : resL 3 1 true 2 r 0 0 = some a) (h2 : resL 2 1 true 2 r 0 1 = some b) : (bindR (some r) fun r20 => bindL (resL 3 1 true 2 r20 0 0) fun l63 => bindL (resL 2 1 true 2 r20 0 1) fun l35 => f l63 l35) = f a b := by
  rw [bindR_s, h1, bindL_s, h2, bindL_s]
end Go.Proofs.YtkkaikcjcjkpbaaGreat.Q

/-
IsContained: validity, matches, projections, canonical instances, on plain lists; the law. No condition.
-/
import Derived.Test.YtielkoncnddfdaaGreatRb
import Derived.Test.YtielkoncnddfdaaGreatOb
set_option linter.unusedVariables false
set_option linter.unusedSimpArgs false
/-! KGa -/

namespace Go.Proofs.YtielkoncnddfdaaGreat.Q
open Go Ovi
/-- laws.toIntS -/
theorem l10 {k : Nat} (hk : 2000000 ≤ k) {a : Ovi.Rows} (ha : Fit (.list [.int .i64]) (.list 1 a)) (hs : szR a ≤ 1048576) : ∀ (m i n : Nat) (v : Ovi.Rows), Filled a v i 1 → i + m = a.length → m < n → F10.L3 k (C k) n a (i : Int) v = some [(false, [.row 3 1 a])] := by
  have hlen := ha.len
  intro m; induction m with
  | zero =>
    intro i n v hv hm hn
    obtain ⟨n, rfl⟩ : ∃ j, n = j + 1 := ⟨n - 1, by omega⟩
    obtain rfl : i = a.length := by omega
    rw [F10.L3.succ, ite'_f (lt_f (by omega)), hv.done]
  | succ m ih =>
    intro i n v hv hm hn
    obtain ⟨n, rfl⟩ : ∃ j, n = j + 1 := ⟨n - 1, by omega⟩
    obtain ⟨row, hr, hfr, hdr⟩ := ha.row (i := i) (by omega)
    obtain ⟨d0, rr0, rfl, hd0, hfr0⟩ := Fits.cons hfr
    obtain ⟨x0, rfl, wx0⟩ := hd0.int
    obtain rfl := Fits.nil hfr0
    have hst := hv.step hr rfl
    have hvl := hv.1
    have hszr := szR_at hr
    rw [F10.L3.succ, ite'_t (lt_t (by omega)), ite'_t (inR_t (by omega))]
    simp only [Int.toNat_natCast, cellI_at hr, cellB_at hr, cellS_at hr, cellL_at hr]
    simp only [List.getElem?_cons_zero, List.getElem?_cons_succ, Option.bind_some, asI_s, asB_s, asS_s, asL_s, bindI_s, bindB_s, bindS_s, bindL_s, bindR_s, resI_s, resB_s, resS_s, resO_s, bne_self_eq_false, beq_self_eq_true, Bool.not_true]
    rw [ite'_t (inR_t (by omega)), wrap_succ (m := a.length) (by omega) (by omega) hlen]
    rw [show ((i : Int) + 1) = ((i + 1 : Nat) : Int) by omega]
    exact ih (i + 1) n _ hst (by omega) (by omega)
theorem c10 {k : Nat} (hk : 2000001 ≤ k) {a : Ovi.Rows} (ha : Fit (.list [.int .i64]) (.list 1 a)) (hs : szD (.list 1 a) ≤ 1048576) : C k 10 [.d (.list 1 a)] = some [(false, [.row 3 1 a])] := by
  obtain ⟨k, rfl⟩ : ∃ j, k = j + 1 := ⟨k - 1, by omega⟩
  simp only [szD] at hs
  rw [F10.run, ite'_t (beq_t _), ite'_t (inM_t (by omega))]
  exact l10 (k := k) (by omega) ha (by omega) a.length 0 k _ (Filled.start a _) (by omega) (by omega)
/-- laws.eqIntS -/
theorem l14 {k : Nat} (hk : 2000000 ≤ k) {a : Ovi.Rows} (ha : Fit (.list [.int .i64]) (.list 1 a)) (hs : szR a ≤ 1048576) : ∀ (m i n : Nat), i + m = a.length → m < n → F14.L4 k (C k) n a a (i : Int) = some [(false, [.d (.bool true)])] := by
  have hlen := ha.len
  intro m; induction m with
  | zero =>
    intro i n hm hn
    obtain ⟨n, rfl⟩ : ∃ j, n = j + 1 := ⟨n - 1, by omega⟩
    rw [F14.L4.succ, ite'_f (lt_f (by omega))]
  | succ m ih =>
    intro i n hm hn
    obtain ⟨n, rfl⟩ : ∃ j, n = j + 1 := ⟨n - 1, by omega⟩
    obtain ⟨row, hr, hfr, hdr⟩ := ha.row (i := i) (by omega)
    obtain ⟨d0, rr0, rfl, hd0, hfr0⟩ := Fits.cons hfr
    obtain ⟨x0, rfl, wx0⟩ := hd0.int
    obtain rfl := Fits.nil hfr0
    have hszr := szR_at hr
    rw [F14.L4.succ, ite'_t (lt_t (by omega)), ite'_t (inR_t (by omega))]
    simp only [Int.toNat_natCast, cellI_at hr, cellB_at hr, cellS_at hr, cellL_at hr]
    simp only [List.getElem?_cons_zero, List.getElem?_cons_succ, Option.bind_some, asI_s, asB_s, asS_s, asL_s, bindI_s, bindB_s, bindS_s, bindL_s, bindR_s, resI_s, resB_s, resS_s, resO_s, bne_self_eq_false, beq_self_eq_true, Bool.not_true]
    rw [ite'_t (inR_t (by omega))]
    rw [ite'_f rfl, wrap_succ (m := a.length) (by omega) (by omega) hlen]
    rw [show ((i : Int) + 1) = ((i + 1 : Nat) : Int) by omega]
    exact ih (i + 1) n (by omega) (by omega)
theorem c14 {k : Nat} (hk : 2000001 ≤ k) {a : Ovi.Rows} (ha : Fit (.list [.int .i64]) (.list 1 a)) (hs : szD (.list 1 a) ≤ 1048576) : C k 14 [.d (.list 1 a), .d (.list 1 a)] = some [(false, [.d (.bool true)])] := by
  obtain ⟨k, rfl⟩ : ∃ j, k = j + 1 := ⟨k - 1, by omega⟩
  simp only [szD] at hs
  rw [F14.run, ite'_f (bne_f _)]
  exact l14 (k := k) (by omega) ha (by omega) a.length 0 k (by omega) (by omega)
/-- laws.szIntS -/
theorem c21 {k : Nat} (hk : 2000001 ≤ k) {a : Ovi.Rows} (ha : Fit (.list [.int .i64]) (.list 1 a)) {left : Int} (h0 : 0 ≤ left) (h1 : left ≤ 1048576) : C k 21 [.d (.list 1 a), .d (.int .i64 left)] = some [(false, [.d (.int .i64 (szT left (szD (.list 1 a))))])] := by
  obtain ⟨k, rfl⟩ : ∃ j, k = j + 1 := ⟨k - 1, by omega⟩
  have hlen := ha.len; unfold maxLen at hlen
  have hz : szR a = 0 := by
    clear hlen h0 h1
    induction a with
    | nil => rfl
    | cons r rs ih =>
      simp only [Fit, List.length_cons, List.mem_cons, forall_eq_or_imp] at ha
      obtain ⟨q1, q2, hfr, q4⟩ := ha
      obtain ⟨d0, rr0, rfl, hd0, hfr0⟩ := Fits.cons hfr
      obtain ⟨x0, rfl, wx0⟩ := hd0.int
      obtain rfl := Fits.nil hfr0
      simp only [szR, szC, szD]
      rw [ih (by simp only [Fit]; exact ⟨q1, by omega, q4⟩)]
  rw [F21.run, wrap_id (by omega) (by omega)]
  simp only [szD, hz, Nat.add_zero]
  rcases szT_cases left a.length with ⟨q, e⟩ | ⟨q, e⟩ <;> rw [e]
  · rw [ite'_f (neg_f (by omega))]
  · rw [ite'_t (by simp only [decide_eq_true_eq]; omega)]
/-- laws.szRelation -/
theorem c31 {k : Nat} (hk : 2000001 ≤ k) {a0 : List UInt8} (ha0 : a0.length ≤ maxLen) {a1 : Int} {a2 : Bool} {left : Int} (h0 : 0 ≤ left) (h1 : left ≤ 1048576) : C k 31 [.agg [.d (.str a0), .d (.int .i64 a1), .d (.bool a2)], .d (.int .i64 left)] = some [(false, [.d (.int .i64 (szT left (szC [.str a0, .int .i64 a1, .bool a2])))])] := by
  obtain ⟨k, rfl⟩ : ∃ j, k = j + 1 := ⟨k - 1, by omega⟩
  have eT : szC [.str a0, .int .i64 a1, .bool a2] = ((a0.length : Nat)) := by simp only [szC, szD] <;> omega
  rw [eT, F31.run]
  unfold maxLen at ha0
  rw [wrap_id (n := left - (a0.length : Int)) (by omega) (by omega)]
  rcases szT_cases (left) ((a0.length : Nat)) with ⟨q0, e0⟩ | ⟨q0, e0⟩
  rotate_left
  · rw [ite'_t (by simp only [decide_eq_true_eq]; omega)] <;> first | rfl | rw [szT_neg (by omega)]
  rw [ite'_f (neg_f (by omega))] <;> first | rfl | (rw [szT_pos (by omega)] <;> (congr 6 <;> omega))
/-- laws.toRelation -/
theorem F35x0 {a0 : List UInt8} {a1 : Int} {a2 : Bool} : resS 1 true 3 [(true, [.d (.str a0), .d (.int .i64 a1), .d (.bool a2)])] 0 0 = some a0 := rfl
theorem F35x1 {a0 : List UInt8} {a1 : Int} {a2 : Bool} : resI .i64 1 true 3 [(true, [.d (.str a0), .d (.int .i64 a1), .d (.bool a2)])] 0 1 = some a1 := rfl
theorem F35x2 {a0 : List UInt8} {a1 : Int} {a2 : Bool} : resB 1 true 3 [(true, [.d (.str a0), .d (.int .i64 a1), .d (.bool a2)])] 0 2 = some a2 := rfl
theorem c35 {k : Nat} (hk : 2000001 ≤ k) {a0 : List UInt8} (ha0 : a0.length ≤ maxLen) {a1 : Int} {a2 : Bool}  : C k 35 [.agg [.d (.str a0), .d (.int .i64 a1), .d (.bool a2)]] = some [(true, [.d (.str a0), .d (.int .i64 a1), .d (.bool a2)])] := by
  obtain ⟨k, rfl⟩ : ∃ j, k = j + 1 := ⟨k - 1, by omega⟩
  rw [F35.run]
/-- laws.eqRelation -/
theorem c39 {k : Nat} (hk : 2000001 ≤ k) {a0 : List UInt8} (ha0 : a0.length ≤ maxLen) {a1 : Int} {a2 : Bool}  : C k 39 [.agg [.d (.str a0), .d (.int .i64 a1), .d (.bool a2)], .agg [.d (.str a0), .d (.int .i64 a1), .d (.bool a2)]] = some [(false, [.d (.bool true)])] := by
  obtain ⟨k, rfl⟩ : ∃ j, k = j + 1 := ⟨k - 1, by omega⟩
  rw [F39.run]
  simp only [List.getElem?_cons_zero, List.getElem?_cons_succ, Option.bind_some, asI_s, asB_s, asS_s, asL_s, bindI_s, bindB_s, bindS_s, bindL_s, bindR_s, resI_s, resB_s, resS_s, resO_s, bne_self_eq_false, beq_self_eq_true, Bool.not_true]
  rfl
/-- laws.szRelationS -/
theorem l15 {k : Nat} (hk : 2000001 ≤ k) {a : Ovi.Rows} (ha : Fit (.list [.str, .int .i64, .bool]) (.list 3 a)) : ∀ (m i n : Nat) (left : Int), 0 ≤ left → left ≤ 1048576 → i + m = a.length → m < n → F15.L5 k (C k) n a left (i : Int) = some [(false, [.d (.int .i64 (szT left (szR (a.drop i))))])] := by
  have hlen := ha.len
  intro m; induction m with
  | zero =>
    intro i n left h0 h1 hm hn
    obtain ⟨n, rfl⟩ : ∃ j, n = j + 1 := ⟨n - 1, by omega⟩
    rw [F15.L5.succ, ite'_f (lt_f (by omega)), List.drop_eq_nil_of_le (by omega)]
    simp only [szR, szT_pos (left := left) (s := 0) (by omega)]
    simp
  | succ m ih =>
    intro i n left h0 h1 hm hn
    obtain ⟨n, rfl⟩ : ∃ j, n = j + 1 := ⟨n - 1, by omega⟩
    obtain ⟨row, hr, hfr, hdr⟩ := ha.row (i := i) (by omega)
    obtain ⟨d0, rr0, rfl, hd0, hfr0⟩ := Fits.cons hfr
    obtain ⟨x0, rfl, hx0⟩ := hd0.str
    obtain ⟨d1, rr1, rfl, hd1, hfr1⟩ := Fits.cons hfr0
    obtain ⟨x1, rfl, wx1⟩ := hd1.int
    obtain ⟨d2, rr2, rfl, hd2, hfr2⟩ := Fits.cons hfr1
    obtain ⟨x2, rfl⟩ := hd2.bool
    obtain rfl := Fits.nil hfr2
    have eR : szR (a.drop i) = szC [.str x0, .int .i64 x1, .bool x2] + szR (a.drop (i + 1)) := by rw [hdr]; rfl
    rw [F15.L5.succ, ite'_t (lt_t (by omega)), ite'_t (inR_t (by omega)), eR]
    simp only [Int.toNat_natCast, cellI_at hr, cellB_at hr, cellS_at hr, cellL_at hr]
    simp only [List.getElem?_cons_zero, List.getElem?_cons_succ, Option.bind_some, asI_s, asB_s, asS_s, asL_s, bindI_s, bindB_s, bindS_s, bindL_s, bindR_s, resI_s, resB_s, resS_s, resO_s, bne_self_eq_false, beq_self_eq_true, Bool.not_true]
    have cc := c31 (k := k) (by omega) (a1 := x1) (a2 := x2) hx0 h0 h1
    rw [cc]
    simp only [List.getElem?_cons_zero, List.getElem?_cons_succ, Option.bind_some, asI_s, asB_s, asS_s, asL_s, bindI_s, bindB_s, bindS_s, bindL_s, bindR_s, resI_s, resB_s, resS_s, resO_s, bne_self_eq_false, beq_self_eq_true, Bool.not_true]
    rcases szT_cases left (szC [.str x0, .int .i64 x1, .bool x2]) with ⟨q, e⟩ | ⟨q, e⟩ <;> rw [e]
    · rw [ite'_f (neg_f (by omega)), wrap_succ (m := a.length) (by omega) (by omega) hlen]
      have := ih (i + 1) n (left - ((szC [.str x0, .int .i64 x1, .bool x2] : Nat) : Int)) (by omega) (by omega) (by omega) (by omega)
      rw [show ((i : Int) + 1) = ((i + 1 : Nat) : Int) by omega, this]
      rcases szT_cases (left - ((szC [.str x0, .int .i64 x1, .bool x2] : Nat) : Int)) (szR (a.drop (i + 1))) with ⟨q2, e2⟩ | ⟨q2, e2⟩ <;> rw [e2]
      · rw [szT_pos (by omega)] <;> (congr 6 <;> omega)
      · rw [szT_neg (by omega)]
    · rw [ite'_t neg_t, szT_neg (by omega)]
theorem c15 {k : Nat} (hk : 2000002 ≤ k) {a : Ovi.Rows} (ha : Fit (.list [.str, .int .i64, .bool]) (.list 3 a)) {left : Int} (h0 : 0 ≤ left) (h1 : left ≤ 1048576) : C k 15 [.d (.list 3 a), .d (.int .i64 left)] = some [(false, [.d (.int .i64 (szT left (szD (.list 3 a))))])] := by
  obtain ⟨k, rfl⟩ : ∃ j, k = j + 1 := ⟨k - 1, by omega⟩
  have hlen := ha.len; unfold maxLen at hlen
  rw [F15.run, wrap_id (by omega) (by omega)]
  have eD : szD (.list 3 a) = a.length + szR a := by simp only [szD]
  rw [eD]
  rcases szT_cases left a.length with ⟨q, e⟩ | ⟨q, e⟩
  · rw [ite'_f (neg_f (by omega))]
    have := l15 (k := k) (by omega) ha a.length 0 k (left - (a.length : Int)) (by omega) (by omega) (by omega) (by omega)
    rw [List.drop_zero] at this
    rw [show ((0 : Int)) = ((0 : Nat) : Int) by rfl, this]
    rcases szT_cases (left - (a.length : Int)) (szR a) with ⟨q2, e2⟩ | ⟨q2, e2⟩ <;> rw [e2]
    · rw [szT_pos (by omega)] <;> (congr 6 <;> omega)
    · rw [szT_neg (by omega)]
  · rw [ite'_t (by simp only [decide_eq_true_eq]; omega), szT_neg (by omega)]
/-- laws.toRelationS -/
theorem l17 {k : Nat} (hk : 2000001 ≤ k) {a : Ovi.Rows} (ha : Fit (.list [.str, .int .i64, .bool]) (.list 3 a)) (hs : szR a ≤ 1048576) : ∀ (m i n : Nat) (v : Ovi.Rows), Filled a v i 3 → i + m = a.length → m < n → F17.L3 k (C k) n a (i : Int) v = some [(false, [.row 70 3 a])] := by
  have hlen := ha.len
  intro m; induction m with
  | zero =>
    intro i n v hv hm hn
    obtain ⟨n, rfl⟩ : ∃ j, n = j + 1 := ⟨n - 1, by omega⟩
    obtain rfl : i = a.length := by omega
    rw [F17.L3.succ, ite'_f (lt_f (by omega)), hv.done]
  | succ m ih =>
    intro i n v hv hm hn
    obtain ⟨n, rfl⟩ : ∃ j, n = j + 1 := ⟨n - 1, by omega⟩
    obtain ⟨row, hr, hfr, hdr⟩ := ha.row (i := i) (by omega)
    obtain ⟨d0, rr0, rfl, hd0, hfr0⟩ := Fits.cons hfr
    obtain ⟨x0, rfl, hx0⟩ := hd0.str
    obtain ⟨d1, rr1, rfl, hd1, hfr1⟩ := Fits.cons hfr0
    obtain ⟨x1, rfl, wx1⟩ := hd1.int
    obtain ⟨d2, rr2, rfl, hd2, hfr2⟩ := Fits.cons hfr1
    obtain ⟨x2, rfl⟩ := hd2.bool
    obtain rfl := Fits.nil hfr2
    have hst := hv.step hr rfl
    have hvl := hv.1
    have hszr := szR_at hr
    rw [F17.L3.succ, ite'_t (lt_t (by omega)), ite'_t (inR_t (by omega))]
    simp only [Int.toNat_natCast, cellI_at hr, cellB_at hr, cellS_at hr, cellL_at hr]
    simp only [List.getElem?_cons_zero, List.getElem?_cons_succ, Option.bind_some, asI_s, asB_s, asS_s, asL_s, bindI_s, bindB_s, bindS_s, bindL_s, bindR_s, resI_s, resB_s, resS_s, resO_s, bne_self_eq_false, beq_self_eq_true, Bool.not_true]
    rw [c35 (k := k) (by omega) (a1 := x1) (a2 := x2) hx0 ]
    simp only [List.getElem?_cons_zero, List.getElem?_cons_succ, Option.bind_some, asI_s, asB_s, asS_s, asL_s, bindI_s, bindB_s, bindS_s, bindL_s, bindR_s, resI_s, resB_s, resS_s, resO_s, bne_self_eq_false, beq_self_eq_true, Bool.not_true]
    simp only [F35x0, F35x1, F35x2]
    simp only [List.getElem?_cons_zero, List.getElem?_cons_succ, Option.bind_some, asI_s, asB_s, asS_s, asL_s, bindI_s, bindB_s, bindS_s, bindL_s, bindR_s, resI_s, resB_s, resS_s, resO_s, bne_self_eq_false, beq_self_eq_true, Bool.not_true]
    rw [ite'_t (inR_t (by omega)), wrap_succ (m := a.length) (by omega) (by omega) hlen]
    rw [show ((i : Int) + 1) = ((i + 1 : Nat) : Int) by omega]
    exact ih (i + 1) n _ hst (by omega) (by omega)
theorem c17 {k : Nat} (hk : 2000002 ≤ k) {a : Ovi.Rows} (ha : Fit (.list [.str, .int .i64, .bool]) (.list 3 a)) (hs : szD (.list 3 a) ≤ 1048576) : C k 17 [.d (.list 3 a)] = some [(false, [.row 70 3 a])] := by
  obtain ⟨k, rfl⟩ : ∃ j, k = j + 1 := ⟨k - 1, by omega⟩
  simp only [szD] at hs
  rw [F17.run, ite'_t (beq_t _), ite'_t (inM_t (by omega))]
  exact l17 (k := k) (by omega) ha (by omega) a.length 0 k _ (Filled.start a _) (by omega) (by omega)
/-- laws.eqRelationS -/
theorem l19 {k : Nat} (hk : 2000001 ≤ k) {a : Ovi.Rows} (ha : Fit (.list [.str, .int .i64, .bool]) (.list 3 a)) (hs : szR a ≤ 1048576) : ∀ (m i n : Nat), i + m = a.length → m < n → F19.L4 k (C k) n a a (i : Int) = some [(false, [.d (.bool true)])] := by
  have hlen := ha.len
  intro m; induction m with
  | zero =>
    intro i n hm hn
    obtain ⟨n, rfl⟩ : ∃ j, n = j + 1 := ⟨n - 1, by omega⟩
    rw [F19.L4.succ, ite'_f (lt_f (by omega))]
  | succ m ih =>
    intro i n hm hn
    obtain ⟨n, rfl⟩ : ∃ j, n = j + 1 := ⟨n - 1, by omega⟩
    obtain ⟨row, hr, hfr, hdr⟩ := ha.row (i := i) (by omega)
    obtain ⟨d0, rr0, rfl, hd0, hfr0⟩ := Fits.cons hfr
    obtain ⟨x0, rfl, hx0⟩ := hd0.str
    obtain ⟨d1, rr1, rfl, hd1, hfr1⟩ := Fits.cons hfr0
    obtain ⟨x1, rfl, wx1⟩ := hd1.int
    obtain ⟨d2, rr2, rfl, hd2, hfr2⟩ := Fits.cons hfr1
    obtain ⟨x2, rfl⟩ := hd2.bool
    obtain rfl := Fits.nil hfr2
    have hszr := szR_at hr
    rw [F19.L4.succ, ite'_t (lt_t (by omega)), ite'_t (inR_t (by omega))]
    simp only [Int.toNat_natCast, cellI_at hr, cellB_at hr, cellS_at hr, cellL_at hr]
    simp only [List.getElem?_cons_zero, List.getElem?_cons_succ, Option.bind_some, asI_s, asB_s, asS_s, asL_s, bindI_s, bindB_s, bindS_s, bindL_s, bindR_s, resI_s, resB_s, resS_s, resO_s, bne_self_eq_false, beq_self_eq_true, Bool.not_true]
    rw [ite'_t (inR_t (by omega))]
    rw [c39 (k := k) (by omega) (a1 := x1) (a2 := x2) hx0 ]
    simp only [List.getElem?_cons_zero, List.getElem?_cons_succ, Option.bind_some, asI_s, asB_s, asS_s, asL_s, bindI_s, bindB_s, bindS_s, bindL_s, bindR_s, resI_s, resB_s, resS_s, resO_s, bne_self_eq_false, beq_self_eq_true, Bool.not_true]
    rw [ite'_f rfl, wrap_succ (m := a.length) (by omega) (by omega) hlen]
    rw [show ((i : Int) + 1) = ((i + 1 : Nat) : Int) by omega]
    exact ih (i + 1) n (by omega) (by omega)
theorem c19 {k : Nat} (hk : 2000002 ≤ k) {a : Ovi.Rows} (ha : Fit (.list [.str, .int .i64, .bool]) (.list 3 a)) (hs : szD (.list 3 a) ≤ 1048576) : C k 19 [.d (.list 3 a), .d (.list 3 a)] = some [(false, [.d (.bool true)])] := by
  obtain ⟨k, rfl⟩ : ∃ j, k = j + 1 := ⟨k - 1, by omega⟩
  simp only [szD] at hs
  rw [F19.run, ite'_f (bne_f _)]
  exact l19 (k := k) (by omega) ha (by omega) a.length 0 k (by omega) (by omega)
/-- laws.szFact -/
theorem c40 {k : Nat} (hk : 2000002 ≤ k) {a0 : Int} {a1 : Ovi.Rows} (ha1 : Fit (.list [.int .i64]) (.list 1 a1)) {left : Int} (h0 : 0 ≤ left) (h1 : left ≤ 1048576) : C k 40 [.agg [.d (.int .i64 a0), .d (.list 1 a1)], .d (.int .i64 left)] = some [(false, [.d (.int .i64 (szT left (szC [.int .i64 a0, .list 1 a1])))])] := by
  obtain ⟨k, rfl⟩ : ∃ j, k = j + 1 := ⟨k - 1, by omega⟩
  have eT : szC [.int .i64 a0, .list 1 a1] = (szD (.list 1 a1)) := by simp only [szC, szD] <;> omega
  rw [eT, F40.run]
  rw [c21 (k := k) (by omega)  ha1 (left := left) (by omega) (by omega)]
  simp only [List.getElem?_cons_zero, List.getElem?_cons_succ, Option.bind_some, asI_s, asB_s, asS_s, asL_s, bindI_s, bindB_s, bindS_s, bindL_s, bindR_s, resI_s, resB_s, resS_s, resO_s, bne_self_eq_false, beq_self_eq_true, Bool.not_true]
  rcases szT_cases (left) (szD (.list 1 a1)) with ⟨q0, e0⟩ | ⟨q0, e0⟩ <;> rw [e0]
  rotate_left
  · rw [ite'_t (by simp only [decide_eq_true_eq]; omega)] <;> first | rfl | rw [szT_neg (by omega)]
  rw [ite'_f (neg_f (by omega))] <;> first | rfl | (rw [szT_pos (by omega)] <;> (congr 6 <;> omega))
/-- laws.szAtom -/
theorem c41 {k : Nat} (hk : 2000002 ≤ k) {a0 : Int} {a1 : Ovi.Rows} (ha1 : Fit (.list [.int .i64]) (.list 1 a1)) {left : Int} (h0 : 0 ≤ left) (h1 : left ≤ 1048576) : C k 41 [.agg [.d (.int .i64 a0), .d (.list 1 a1)], .d (.int .i64 left)] = some [(false, [.d (.int .i64 (szT left (szC [.int .i64 a0, .list 1 a1])))])] := by
  obtain ⟨k, rfl⟩ : ∃ j, k = j + 1 := ⟨k - 1, by omega⟩
  have eT : szC [.int .i64 a0, .list 1 a1] = (szD (.list 1 a1)) := by simp only [szC, szD] <;> omega
  rw [eT, F41.run]
  rw [c21 (k := k) (by omega)  ha1 (left := left) (by omega) (by omega)]
  simp only [List.getElem?_cons_zero, List.getElem?_cons_succ, Option.bind_some, asI_s, asB_s, asS_s, asL_s, bindI_s, bindB_s, bindS_s, bindL_s, bindR_s, resI_s, resB_s, resS_s, resO_s, bne_self_eq_false, beq_self_eq_true, Bool.not_true]
  rcases szT_cases (left) (szD (.list 1 a1)) with ⟨q0, e0⟩ | ⟨q0, e0⟩ <;> rw [e0]
  rotate_left
  · rw [ite'_t (by simp only [decide_eq_true_eq]; omega)] <;> first | rfl | rw [szT_neg (by omega)]
  rw [ite'_f (neg_f (by omega))] <;> first | rfl | (rw [szT_pos (by omega)] <;> (congr 6 <;> omega))
/-- laws.toFact -/
theorem F44x0 {a0 : Int} {a1 : Ovi.Rows} : resI .i64 1 true 2 [(true, [.d (.int .i64 a0), .row 3 1 a1])] 0 0 = some a0 := rfl
theorem F44x1 {a0 : Int} {a1 : Ovi.Rows} : resO 3 1 1 true 2 [(true, [.d (.int .i64 a0), .row 3 1 a1])] 0 1 = some a1 := rfl
theorem c44 {k : Nat} (hk : 2000002 ≤ k) {a0 : Int} {a1 : Ovi.Rows} (ha1 : Fit (.list [.int .i64]) (.list 1 a1)) (s1 : szD (.list 1 a1) ≤ 1048576) : C k 44 [.agg [.d (.int .i64 a0), .d (.list 1 a1)]] = some [(true, [.d (.int .i64 a0), .row 3 1 a1])] := by
  obtain ⟨k, rfl⟩ : ∃ j, k = j + 1 := ⟨k - 1, by omega⟩
  rw [F44.run]
  rw [c10 (k := k) (by omega)  ha1 s1]
  simp only [List.getElem?_cons_zero, List.getElem?_cons_succ, Option.bind_some, asI_s, asB_s, asS_s, asL_s, bindI_s, bindB_s, bindS_s, bindL_s, bindR_s, resI_s, resB_s, resS_s, resO_s, bne_self_eq_false, beq_self_eq_true, Bool.not_true]
/-- laws.toAtom -/
theorem F45x0 {a0 : Int} {a1 : Ovi.Rows} : resI .i64 1 true 2 [(true, [.d (.int .i64 a0), .row 3 1 a1])] 0 0 = some a0 := rfl
theorem F45x1 {a0 : Int} {a1 : Ovi.Rows} : resO 3 1 1 true 2 [(true, [.d (.int .i64 a0), .row 3 1 a1])] 0 1 = some a1 := rfl
theorem c45 {k : Nat} (hk : 2000002 ≤ k) {a0 : Int} {a1 : Ovi.Rows} (ha1 : Fit (.list [.int .i64]) (.list 1 a1)) (s1 : szD (.list 1 a1) ≤ 1048576) : C k 45 [.agg [.d (.int .i64 a0), .d (.list 1 a1)]] = some [(true, [.d (.int .i64 a0), .row 3 1 a1])] := by
  obtain ⟨k, rfl⟩ : ∃ j, k = j + 1 := ⟨k - 1, by omega⟩
  rw [F45.run]
  rw [c10 (k := k) (by omega)  ha1 s1]
  simp only [List.getElem?_cons_zero, List.getElem?_cons_succ, Option.bind_some, asI_s, asB_s, asS_s, asL_s, bindI_s, bindB_s, bindS_s, bindL_s, bindR_s, resI_s, resB_s, resS_s, resO_s, bne_self_eq_false, beq_self_eq_true, Bool.not_true]
/-- laws.eqFact -/
theorem c51 {k : Nat} (hk : 2000002 ≤ k) {a0 : Int} {a1 : Ovi.Rows} (ha1 : Fit (.list [.int .i64]) (.list 1 a1)) (s1 : szD (.list 1 a1) ≤ 1048576) : C k 51 [.agg [.d (.int .i64 a0), .d (.list 1 a1)], .agg [.d (.int .i64 a0), .d (.list 1 a1)]] = some [(false, [.d (.bool true)])] := by
  obtain ⟨k, rfl⟩ : ∃ j, k = j + 1 := ⟨k - 1, by omega⟩
  rw [F51.run]
  rw [c14 (k := k) (by omega)  ha1 s1]
  simp only [List.getElem?_cons_zero, List.getElem?_cons_succ, Option.bind_some, asI_s, asB_s, asS_s, asL_s, bindI_s, bindB_s, bindS_s, bindL_s, bindR_s, resI_s, resB_s, resS_s, resO_s, bne_self_eq_false, beq_self_eq_true, Bool.not_true]
  rfl
/-- laws.eqAtom -/
theorem c52 {k : Nat} (hk : 2000002 ≤ k) {a0 : Int} {a1 : Ovi.Rows} (ha1 : Fit (.list [.int .i64]) (.list 1 a1)) (s1 : szD (.list 1 a1) ≤ 1048576) : C k 52 [.agg [.d (.int .i64 a0), .d (.list 1 a1)], .agg [.d (.int .i64 a0), .d (.list 1 a1)]] = some [(false, [.d (.bool true)])] := by
  obtain ⟨k, rfl⟩ : ∃ j, k = j + 1 := ⟨k - 1, by omega⟩
  rw [F52.run]
  rw [c14 (k := k) (by omega)  ha1 s1]
  simp only [List.getElem?_cons_zero, List.getElem?_cons_succ, Option.bind_some, asI_s, asB_s, asS_s, asL_s, bindI_s, bindB_s, bindS_s, bindL_s, bindR_s, resI_s, resB_s, resS_s, resO_s, bne_self_eq_false, beq_self_eq_true, Bool.not_true]
  rfl
/-- laws.szFactS -/
theorem l20 {k : Nat} (hk : 2000002 ≤ k) {a : Ovi.Rows} (ha : Fit (.list [.int .i64, .list [.int .i64]]) (.list 2 a)) : ∀ (m i n : Nat) (left : Int), 0 ≤ left → left ≤ 1048576 → i + m = a.length → m < n → F20.L5 k (C k) n a left (i : Int) = some [(false, [.d (.int .i64 (szT left (szR (a.drop i))))])] := by
  have hlen := ha.len
  intro m; induction m with
  | zero =>
    intro i n left h0 h1 hm hn
    obtain ⟨n, rfl⟩ : ∃ j, n = j + 1 := ⟨n - 1, by omega⟩
    rw [F20.L5.succ, ite'_f (lt_f (by omega)), List.drop_eq_nil_of_le (by omega)]
    simp only [szR, szT_pos (left := left) (s := 0) (by omega)]
    simp
  | succ m ih =>
    intro i n left h0 h1 hm hn
    obtain ⟨n, rfl⟩ : ∃ j, n = j + 1 := ⟨n - 1, by omega⟩
    obtain ⟨row, hr, hfr, hdr⟩ := ha.row (i := i) (by omega)
    obtain ⟨d0, rr0, rfl, hd0, hfr0⟩ := Fits.cons hfr
    obtain ⟨x0, rfl, wx0⟩ := hd0.int
    obtain ⟨d1, rr1, rfl, hd1, hfr1⟩ := Fits.cons hfr0
    obtain ⟨x1, rfl, hx1⟩ := hd1.list (n := 1) rfl
    obtain rfl := Fits.nil hfr1
    have eR : szR (a.drop i) = szC [.int .i64 x0, .list 1 x1] + szR (a.drop (i + 1)) := by rw [hdr]; rfl
    rw [F20.L5.succ, ite'_t (lt_t (by omega)), ite'_t (inR_t (by omega)), eR]
    simp only [Int.toNat_natCast, cellI_at hr, cellB_at hr, cellS_at hr, cellL_at hr]
    simp only [List.getElem?_cons_zero, List.getElem?_cons_succ, Option.bind_some, asI_s, asB_s, asS_s, asL_s, bindI_s, bindB_s, bindS_s, bindL_s, bindR_s, resI_s, resB_s, resS_s, resO_s, bne_self_eq_false, beq_self_eq_true, Bool.not_true]
    have cc := c40 (k := k) (by omega) (a0 := x0) hx1 h0 h1
    rw [cc]
    simp only [List.getElem?_cons_zero, List.getElem?_cons_succ, Option.bind_some, asI_s, asB_s, asS_s, asL_s, bindI_s, bindB_s, bindS_s, bindL_s, bindR_s, resI_s, resB_s, resS_s, resO_s, bne_self_eq_false, beq_self_eq_true, Bool.not_true]
    rcases szT_cases left (szC [.int .i64 x0, .list 1 x1]) with ⟨q, e⟩ | ⟨q, e⟩ <;> rw [e]
    · rw [ite'_f (neg_f (by omega)), wrap_succ (m := a.length) (by omega) (by omega) hlen]
      have := ih (i + 1) n (left - ((szC [.int .i64 x0, .list 1 x1] : Nat) : Int)) (by omega) (by omega) (by omega) (by omega)
      rw [show ((i : Int) + 1) = ((i + 1 : Nat) : Int) by omega, this]
      rcases szT_cases (left - ((szC [.int .i64 x0, .list 1 x1] : Nat) : Int)) (szR (a.drop (i + 1))) with ⟨q2, e2⟩ | ⟨q2, e2⟩ <;> rw [e2]
      · rw [szT_pos (by omega)] <;> (congr 6 <;> omega)
      · rw [szT_neg (by omega)]
    · rw [ite'_t neg_t, szT_neg (by omega)]
theorem c20 {k : Nat} (hk : 2000003 ≤ k) {a : Ovi.Rows} (ha : Fit (.list [.int .i64, .list [.int .i64]]) (.list 2 a)) {left : Int} (h0 : 0 ≤ left) (h1 : left ≤ 1048576) : C k 20 [.d (.list 2 a), .d (.int .i64 left)] = some [(false, [.d (.int .i64 (szT left (szD (.list 2 a))))])] := by
  obtain ⟨k, rfl⟩ : ∃ j, k = j + 1 := ⟨k - 1, by omega⟩
  have hlen := ha.len; unfold maxLen at hlen
  rw [F20.run, wrap_id (by omega) (by omega)]
  have eD : szD (.list 2 a) = a.length + szR a := by simp only [szD]
  rw [eD]
  rcases szT_cases left a.length with ⟨q, e⟩ | ⟨q, e⟩
  · rw [ite'_f (neg_f (by omega))]
    have := l20 (k := k) (by omega) ha a.length 0 k (left - (a.length : Int)) (by omega) (by omega) (by omega) (by omega)
    rw [List.drop_zero] at this
    rw [show ((0 : Int)) = ((0 : Nat) : Int) by rfl, this]
    rcases szT_cases (left - (a.length : Int)) (szR a) with ⟨q2, e2⟩ | ⟨q2, e2⟩ <;> rw [e2]
    · rw [szT_pos (by omega)] <;> (congr 6 <;> omega)
    · rw [szT_neg (by omega)]
  · rw [ite'_t (by simp only [decide_eq_true_eq]; omega), szT_neg (by omega)]
/-- laws.szAtomS -/
theorem l22 {k : Nat} (hk : 2000002 ≤ k) {a : Ovi.Rows} (ha : Fit (.list [.int .i64, .list [.int .i64]]) (.list 2 a)) : ∀ (m i n : Nat) (left : Int), 0 ≤ left → left ≤ 1048576 → i + m = a.length → m < n → F22.L5 k (C k) n a left (i : Int) = some [(false, [.d (.int .i64 (szT left (szR (a.drop i))))])] := by
  have hlen := ha.len
  intro m; induction m with
  | zero =>
    intro i n left h0 h1 hm hn
    obtain ⟨n, rfl⟩ : ∃ j, n = j + 1 := ⟨n - 1, by omega⟩
    rw [F22.L5.succ, ite'_f (lt_f (by omega)), List.drop_eq_nil_of_le (by omega)]
    simp only [szR, szT_pos (left := left) (s := 0) (by omega)]
    simp
  | succ m ih =>
    intro i n left h0 h1 hm hn
    obtain ⟨n, rfl⟩ : ∃ j, n = j + 1 := ⟨n - 1, by omega⟩
    obtain ⟨row, hr, hfr, hdr⟩ := ha.row (i := i) (by omega)
    obtain ⟨d0, rr0, rfl, hd0, hfr0⟩ := Fits.cons hfr
    obtain ⟨x0, rfl, wx0⟩ := hd0.int
    obtain ⟨d1, rr1, rfl, hd1, hfr1⟩ := Fits.cons hfr0
    obtain ⟨x1, rfl, hx1⟩ := hd1.list (n := 1) rfl
    obtain rfl := Fits.nil hfr1
    have eR : szR (a.drop i) = szC [.int .i64 x0, .list 1 x1] + szR (a.drop (i + 1)) := by rw [hdr]; rfl
    rw [F22.L5.succ, ite'_t (lt_t (by omega)), ite'_t (inR_t (by omega)), eR]
    simp only [Int.toNat_natCast, cellI_at hr, cellB_at hr, cellS_at hr, cellL_at hr]
    simp only [List.getElem?_cons_zero, List.getElem?_cons_succ, Option.bind_some, asI_s, asB_s, asS_s, asL_s, bindI_s, bindB_s, bindS_s, bindL_s, bindR_s, resI_s, resB_s, resS_s, resO_s, bne_self_eq_false, beq_self_eq_true, Bool.not_true]
    have cc := c41 (k := k) (by omega) (a0 := x0) hx1 h0 h1
    rw [cc]
    simp only [List.getElem?_cons_zero, List.getElem?_cons_succ, Option.bind_some, asI_s, asB_s, asS_s, asL_s, bindI_s, bindB_s, bindS_s, bindL_s, bindR_s, resI_s, resB_s, resS_s, resO_s, bne_self_eq_false, beq_self_eq_true, Bool.not_true]
    rcases szT_cases left (szC [.int .i64 x0, .list 1 x1]) with ⟨q, e⟩ | ⟨q, e⟩ <;> rw [e]
    · rw [ite'_f (neg_f (by omega)), wrap_succ (m := a.length) (by omega) (by omega) hlen]
      have := ih (i + 1) n (left - ((szC [.int .i64 x0, .list 1 x1] : Nat) : Int)) (by omega) (by omega) (by omega) (by omega)
      rw [show ((i : Int) + 1) = ((i + 1 : Nat) : Int) by omega, this]
      rcases szT_cases (left - ((szC [.int .i64 x0, .list 1 x1] : Nat) : Int)) (szR (a.drop (i + 1))) with ⟨q2, e2⟩ | ⟨q2, e2⟩ <;> rw [e2]
      · rw [szT_pos (by omega)] <;> (congr 6 <;> omega)
      · rw [szT_neg (by omega)]
    · rw [ite'_t neg_t, szT_neg (by omega)]
theorem c22 {k : Nat} (hk : 2000003 ≤ k) {a : Ovi.Rows} (ha : Fit (.list [.int .i64, .list [.int .i64]]) (.list 2 a)) {left : Int} (h0 : 0 ≤ left) (h1 : left ≤ 1048576) : C k 22 [.d (.list 2 a), .d (.int .i64 left)] = some [(false, [.d (.int .i64 (szT left (szD (.list 2 a))))])] := by
  obtain ⟨k, rfl⟩ : ∃ j, k = j + 1 := ⟨k - 1, by omega⟩
  have hlen := ha.len; unfold maxLen at hlen
  rw [F22.run, wrap_id (by omega) (by omega)]
  have eD : szD (.list 2 a) = a.length + szR a := by simp only [szD]
  rw [eD]
  rcases szT_cases left a.length with ⟨q, e⟩ | ⟨q, e⟩
  · rw [ite'_f (neg_f (by omega))]
    have := l22 (k := k) (by omega) ha a.length 0 k (left - (a.length : Int)) (by omega) (by omega) (by omega) (by omega)
    rw [List.drop_zero] at this
    rw [show ((0 : Int)) = ((0 : Nat) : Int) by rfl, this]
    rcases szT_cases (left - (a.length : Int)) (szR a) with ⟨q2, e2⟩ | ⟨q2, e2⟩ <;> rw [e2]
    · rw [szT_pos (by omega)] <;> (congr 6 <;> omega)
    · rw [szT_neg (by omega)]
  · rw [ite'_t (by simp only [decide_eq_true_eq]; omega), szT_neg (by omega)]
/-- laws.toFactS -/
theorem l25 {k : Nat} (hk : 2000002 ≤ k) {a : Ovi.Rows} (ha : Fit (.list [.int .i64, .list [.int .i64]]) (.list 2 a)) (hs : szR a ≤ 1048576) : ∀ (m i n : Nat) (v : Ovi.Rows), Filled a v i 2 → i + m = a.length → m < n → F25.L3 k (C k) n a (i : Int) v = some [(false, [.row 81 2 a])] := by
  have hlen := ha.len
  intro m; induction m with
  | zero =>
    intro i n v hv hm hn
    obtain ⟨n, rfl⟩ : ∃ j, n = j + 1 := ⟨n - 1, by omega⟩
    obtain rfl : i = a.length := by omega
    rw [F25.L3.succ, ite'_f (lt_f (by omega)), hv.done]
  | succ m ih =>
    intro i n v hv hm hn
    obtain ⟨n, rfl⟩ : ∃ j, n = j + 1 := ⟨n - 1, by omega⟩
    obtain ⟨row, hr, hfr, hdr⟩ := ha.row (i := i) (by omega)
    obtain ⟨d0, rr0, rfl, hd0, hfr0⟩ := Fits.cons hfr
    obtain ⟨x0, rfl, wx0⟩ := hd0.int
    obtain ⟨d1, rr1, rfl, hd1, hfr1⟩ := Fits.cons hfr0
    obtain ⟨x1, rfl, hx1⟩ := hd1.list (n := 1) rfl
    obtain rfl := Fits.nil hfr1
    have hst := hv.step hr rfl
    have hvl := hv.1
    have hszr := szR_at hr
    rw [F25.L3.succ, ite'_t (lt_t (by omega)), ite'_t (inR_t (by omega))]
    simp only [Int.toNat_natCast, cellI_at hr, cellB_at hr, cellS_at hr, cellL_at hr]
    simp only [List.getElem?_cons_zero, List.getElem?_cons_succ, Option.bind_some, asI_s, asB_s, asS_s, asL_s, bindI_s, bindB_s, bindS_s, bindL_s, bindR_s, resI_s, resB_s, resS_s, resO_s, bne_self_eq_false, beq_self_eq_true, Bool.not_true]
    rw [c44 (k := k) (by omega) (a0 := x0) hx1 (by simp only [szC, szD] at hszr ⊢; omega)]
    simp only [List.getElem?_cons_zero, List.getElem?_cons_succ, Option.bind_some, asI_s, asB_s, asS_s, asL_s, bindI_s, bindB_s, bindS_s, bindL_s, bindR_s, resI_s, resB_s, resS_s, resO_s, bne_self_eq_false, beq_self_eq_true, Bool.not_true]
    simp only [F44x0, F44x1]
    simp only [List.getElem?_cons_zero, List.getElem?_cons_succ, Option.bind_some, asI_s, asB_s, asS_s, asL_s, bindI_s, bindB_s, bindS_s, bindL_s, bindR_s, resI_s, resB_s, resS_s, resO_s, bne_self_eq_false, beq_self_eq_true, Bool.not_true]
    rw [ite'_t (inR_t (by omega)), wrap_succ (m := a.length) (by omega) (by omega) hlen]
    rw [show ((i : Int) + 1) = ((i + 1 : Nat) : Int) by omega]
    exact ih (i + 1) n _ hst (by omega) (by omega)
theorem c25 {k : Nat} (hk : 2000003 ≤ k) {a : Ovi.Rows} (ha : Fit (.list [.int .i64, .list [.int .i64]]) (.list 2 a)) (hs : szD (.list 2 a) ≤ 1048576) : C k 25 [.d (.list 2 a)] = some [(false, [.row 81 2 a])] := by
  obtain ⟨k, rfl⟩ : ∃ j, k = j + 1 := ⟨k - 1, by omega⟩
  simp only [szD] at hs
  rw [F25.run, ite'_t (beq_t _), ite'_t (inM_t (by omega))]
  exact l25 (k := k) (by omega) ha (by omega) a.length 0 k _ (Filled.start a _) (by omega) (by omega)
/-- laws.toAtomS -/
theorem l26 {k : Nat} (hk : 2000002 ≤ k) {a : Ovi.Rows} (ha : Fit (.list [.int .i64, .list [.int .i64]]) (.list 2 a)) (hs : szR a ≤ 1048576) : ∀ (m i n : Nat) (v : Ovi.Rows), Filled a v i 2 → i + m = a.length → m < n → F26.L3 k (C k) n a (i : Int) v = some [(false, [.row 83 2 a])] := by
  have hlen := ha.len
  intro m; induction m with
  | zero =>
    intro i n v hv hm hn
    obtain ⟨n, rfl⟩ : ∃ j, n = j + 1 := ⟨n - 1, by omega⟩
    obtain rfl : i = a.length := by omega
    rw [F26.L3.succ, ite'_f (lt_f (by omega)), hv.done]
  | succ m ih =>
    intro i n v hv hm hn
    obtain ⟨n, rfl⟩ : ∃ j, n = j + 1 := ⟨n - 1, by omega⟩
    obtain ⟨row, hr, hfr, hdr⟩ := ha.row (i := i) (by omega)
    obtain ⟨d0, rr0, rfl, hd0, hfr0⟩ := Fits.cons hfr
    obtain ⟨x0, rfl, wx0⟩ := hd0.int
    obtain ⟨d1, rr1, rfl, hd1, hfr1⟩ := Fits.cons hfr0
    obtain ⟨x1, rfl, hx1⟩ := hd1.list (n := 1) rfl
    obtain rfl := Fits.nil hfr1
    have hst := hv.step hr rfl
    have hvl := hv.1
    have hszr := szR_at hr
    rw [F26.L3.succ, ite'_t (lt_t (by omega)), ite'_t (inR_t (by omega))]
    simp only [Int.toNat_natCast, cellI_at hr, cellB_at hr, cellS_at hr, cellL_at hr]
    simp only [List.getElem?_cons_zero, List.getElem?_cons_succ, Option.bind_some, asI_s, asB_s, asS_s, asL_s, bindI_s, bindB_s, bindS_s, bindL_s, bindR_s, resI_s, resB_s, resS_s, resO_s, bne_self_eq_false, beq_self_eq_true, Bool.not_true]
    rw [c45 (k := k) (by omega) (a0 := x0) hx1 (by simp only [szC, szD] at hszr ⊢; omega)]
    simp only [List.getElem?_cons_zero, List.getElem?_cons_succ, Option.bind_some, asI_s, asB_s, asS_s, asL_s, bindI_s, bindB_s, bindS_s, bindL_s, bindR_s, resI_s, resB_s, resS_s, resO_s, bne_self_eq_false, beq_self_eq_true, Bool.not_true]
    simp only [F45x0, F45x1]
    simp only [List.getElem?_cons_zero, List.getElem?_cons_succ, Option.bind_some, asI_s, asB_s, asS_s, asL_s, bindI_s, bindB_s, bindS_s, bindL_s, bindR_s, resI_s, resB_s, resS_s, resO_s, bne_self_eq_false, beq_self_eq_true, Bool.not_true]
    rw [ite'_t (inR_t (by omega)), wrap_succ (m := a.length) (by omega) (by omega) hlen]
    rw [show ((i : Int) + 1) = ((i + 1 : Nat) : Int) by omega]
    exact ih (i + 1) n _ hst (by omega) (by omega)
theorem c26 {k : Nat} (hk : 2000003 ≤ k) {a : Ovi.Rows} (ha : Fit (.list [.int .i64, .list [.int .i64]]) (.list 2 a)) (hs : szD (.list 2 a) ≤ 1048576) : C k 26 [.d (.list 2 a)] = some [(false, [.row 83 2 a])] := by
  obtain ⟨k, rfl⟩ : ∃ j, k = j + 1 := ⟨k - 1, by omega⟩
  simp only [szD] at hs
  rw [F26.run, ite'_t (beq_t _), ite'_t (inM_t (by omega))]
  exact l26 (k := k) (by omega) ha (by omega) a.length 0 k _ (Filled.start a _) (by omega) (by omega)
/-- laws.eqFactS -/
theorem l29 {k : Nat} (hk : 2000002 ≤ k) {a : Ovi.Rows} (ha : Fit (.list [.int .i64, .list [.int .i64]]) (.list 2 a)) (hs : szR a ≤ 1048576) : ∀ (m i n : Nat), i + m = a.length → m < n → F29.L4 k (C k) n a a (i : Int) = some [(false, [.d (.bool true)])] := by
  have hlen := ha.len
  intro m; induction m with
  | zero =>
    intro i n hm hn
    obtain ⟨n, rfl⟩ : ∃ j, n = j + 1 := ⟨n - 1, by omega⟩
    rw [F29.L4.succ, ite'_f (lt_f (by omega))]
  | succ m ih =>
    intro i n hm hn
    obtain ⟨n, rfl⟩ : ∃ j, n = j + 1 := ⟨n - 1, by omega⟩
    obtain ⟨row, hr, hfr, hdr⟩ := ha.row (i := i) (by omega)
    obtain ⟨d0, rr0, rfl, hd0, hfr0⟩ := Fits.cons hfr
    obtain ⟨x0, rfl, wx0⟩ := hd0.int
    obtain ⟨d1, rr1, rfl, hd1, hfr1⟩ := Fits.cons hfr0
    obtain ⟨x1, rfl, hx1⟩ := hd1.list (n := 1) rfl
    obtain rfl := Fits.nil hfr1
    have hszr := szR_at hr
    rw [F29.L4.succ, ite'_t (lt_t (by omega)), ite'_t (inR_t (by omega))]
    simp only [Int.toNat_natCast, cellI_at hr, cellB_at hr, cellS_at hr, cellL_at hr]
    simp only [List.getElem?_cons_zero, List.getElem?_cons_succ, Option.bind_some, asI_s, asB_s, asS_s, asL_s, bindI_s, bindB_s, bindS_s, bindL_s, bindR_s, resI_s, resB_s, resS_s, resO_s, bne_self_eq_false, beq_self_eq_true, Bool.not_true]
    rw [ite'_t (inR_t (by omega))]
    rw [c51 (k := k) (by omega) (a0 := x0) hx1 (by simp only [szC, szD] at hszr ⊢; omega)]
    simp only [List.getElem?_cons_zero, List.getElem?_cons_succ, Option.bind_some, asI_s, asB_s, asS_s, asL_s, bindI_s, bindB_s, bindS_s, bindL_s, bindR_s, resI_s, resB_s, resS_s, resO_s, bne_self_eq_false, beq_self_eq_true, Bool.not_true]
    rw [ite'_f rfl, wrap_succ (m := a.length) (by omega) (by omega) hlen]
    rw [show ((i : Int) + 1) = ((i + 1 : Nat) : Int) by omega]
    exact ih (i + 1) n (by omega) (by omega)
theorem c29 {k : Nat} (hk : 2000003 ≤ k) {a : Ovi.Rows} (ha : Fit (.list [.int .i64, .list [.int .i64]]) (.list 2 a)) (hs : szD (.list 2 a) ≤ 1048576) : C k 29 [.d (.list 2 a), .d (.list 2 a)] = some [(false, [.d (.bool true)])] := by
  obtain ⟨k, rfl⟩ : ∃ j, k = j + 1 := ⟨k - 1, by omega⟩
  simp only [szD] at hs
  rw [F29.run, ite'_f (bne_f _)]
  exact l29 (k := k) (by omega) ha (by omega) a.length 0 k (by omega) (by omega)
/-- laws.eqAtomS -/
theorem l30 {k : Nat} (hk : 2000002 ≤ k) {a : Ovi.Rows} (ha : Fit (.list [.int .i64, .list [.int .i64]]) (.list 2 a)) (hs : szR a ≤ 1048576) : ∀ (m i n : Nat), i + m = a.length → m < n → F30.L4 k (C k) n a a (i : Int) = some [(false, [.d (.bool true)])] := by
  have hlen := ha.len
  intro m; induction m with
  | zero =>
    intro i n hm hn
    obtain ⟨n, rfl⟩ : ∃ j, n = j + 1 := ⟨n - 1, by omega⟩
    rw [F30.L4.succ, ite'_f (lt_f (by omega))]
  | succ m ih =>
    intro i n hm hn
    obtain ⟨n, rfl⟩ : ∃ j, n = j + 1 := ⟨n - 1, by omega⟩
    obtain ⟨row, hr, hfr, hdr⟩ := ha.row (i := i) (by omega)
    obtain ⟨d0, rr0, rfl, hd0, hfr0⟩ := Fits.cons hfr
    obtain ⟨x0, rfl, wx0⟩ := hd0.int
    obtain ⟨d1, rr1, rfl, hd1, hfr1⟩ := Fits.cons hfr0
    obtain ⟨x1, rfl, hx1⟩ := hd1.list (n := 1) rfl
    obtain rfl := Fits.nil hfr1
    have hszr := szR_at hr
    rw [F30.L4.succ, ite'_t (lt_t (by omega)), ite'_t (inR_t (by omega))]
    simp only [Int.toNat_natCast, cellI_at hr, cellB_at hr, cellS_at hr, cellL_at hr]
    simp only [List.getElem?_cons_zero, List.getElem?_cons_succ, Option.bind_some, asI_s, asB_s, asS_s, asL_s, bindI_s, bindB_s, bindS_s, bindL_s, bindR_s, resI_s, resB_s, resS_s, resO_s, bne_self_eq_false, beq_self_eq_true, Bool.not_true]
    rw [ite'_t (inR_t (by omega))]
    rw [c52 (k := k) (by omega) (a0 := x0) hx1 (by simp only [szC, szD] at hszr ⊢; omega)]
    simp only [List.getElem?_cons_zero, List.getElem?_cons_succ, Option.bind_some, asI_s, asB_s, asS_s, asL_s, bindI_s, bindB_s, bindS_s, bindL_s, bindR_s, resI_s, resB_s, resS_s, resO_s, bne_self_eq_false, beq_self_eq_true, Bool.not_true]
    rw [ite'_f rfl, wrap_succ (m := a.length) (by omega) (by omega) hlen]
    rw [show ((i : Int) + 1) = ((i + 1 : Nat) : Int) by omega]
    exact ih (i + 1) n (by omega) (by omega)
theorem c30 {k : Nat} (hk : 2000003 ≤ k) {a : Ovi.Rows} (ha : Fit (.list [.int .i64, .list [.int .i64]]) (.list 2 a)) (hs : szD (.list 2 a) ≤ 1048576) : C k 30 [.d (.list 2 a), .d (.list 2 a)] = some [(false, [.d (.bool true)])] := by
  obtain ⟨k, rfl⟩ : ∃ j, k = j + 1 := ⟨k - 1, by omega⟩
  simp only [szD] at hs
  rw [F30.run, ite'_f (bne_f _)]
  exact l30 (k := k) (by omega) ha (by omega) a.length 0 k (by omega) (by omega)
/-- laws.szInstance -/
theorem c5 {k : Nat} (hk : 2000004 ≤ k) {a0 : Ovi.Rows} (ha0 : Fit (.list [.str, .int .i64, .bool]) (.list 3 a0)) {a1 : Ovi.Rows} (ha1 : Fit (.list [.int .i64, .list [.int .i64]]) (.list 2 a1)) {left : Int} (h0 : 0 ≤ left) (h1 : left ≤ 1048576) : C k 5 [.agg [.d (.list 3 a0), .d (.list 2 a1)], .d (.int .i64 left)] = some [(false, [.d (.int .i64 (szT left (szC [.list 3 a0, .list 2 a1])))])] := by
  obtain ⟨k, rfl⟩ : ∃ j, k = j + 1 := ⟨k - 1, by omega⟩
  have eT : szC [.list 3 a0, .list 2 a1] = (szD (.list 3 a0)) + (szD (.list 2 a1)) := by simp only [szC, szD] <;> omega
  rw [eT, F5.run]
  rw [c15 (k := k) (by omega)  ha0 (left := left) (by omega) (by omega)]
  simp only [List.getElem?_cons_zero, List.getElem?_cons_succ, Option.bind_some, asI_s, asB_s, asS_s, asL_s, bindI_s, bindB_s, bindS_s, bindL_s, bindR_s, resI_s, resB_s, resS_s, resO_s, bne_self_eq_false, beq_self_eq_true, Bool.not_true]
  rcases szT_cases (left) (szD (.list 3 a0)) with ⟨q0, e0⟩ | ⟨q0, e0⟩ <;> rw [e0]
  rotate_left
  · rw [ite'_t (by simp only [decide_eq_true_eq]; omega)] <;> first | rfl | rw [szT_neg (by omega)]
  rw [ite'_f (neg_f (by omega))]
  rw [c20 (k := k) (by omega)  ha1 (left := left - ((szD (.list 3 a0) : Nat) : Int)) (by omega) (by omega)]
  simp only [List.getElem?_cons_zero, List.getElem?_cons_succ, Option.bind_some, asI_s, asB_s, asS_s, asL_s, bindI_s, bindB_s, bindS_s, bindL_s, bindR_s, resI_s, resB_s, resS_s, resO_s, bne_self_eq_false, beq_self_eq_true, Bool.not_true]
  rcases szT_cases (left - ((szD (.list 3 a0) : Nat) : Int)) (szD (.list 2 a1)) with ⟨q1, e1⟩ | ⟨q1, e1⟩ <;> rw [e1]
  rotate_left
  · rw [ite'_t (by simp only [decide_eq_true_eq]; omega)] <;> first | rfl | rw [szT_neg (by omega)]
  rw [ite'_f (neg_f (by omega))] <;> first | rfl | (rw [szT_pos (by omega)] <;> (congr 6 <;> omega))
/-- laws.szQuery -/
theorem c6 {k : Nat} (hk : 2000004 ≤ k) {a0 : Ovi.Rows} (ha0 : Fit (.list [.int .i64]) (.list 1 a0)) {a1 : Ovi.Rows} (ha1 : Fit (.list [.int .i64, .list [.int .i64]]) (.list 2 a1)) {left : Int} (h0 : 0 ≤ left) (h1 : left ≤ 1048576) : C k 6 [.agg [.d (.list 1 a0), .d (.list 2 a1)], .d (.int .i64 left)] = some [(false, [.d (.int .i64 (szT left (szC [.list 1 a0, .list 2 a1])))])] := by
  obtain ⟨k, rfl⟩ : ∃ j, k = j + 1 := ⟨k - 1, by omega⟩
  have eT : szC [.list 1 a0, .list 2 a1] = (szD (.list 1 a0)) + (szD (.list 2 a1)) := by simp only [szC, szD] <;> omega
  rw [eT, F6.run]
  rw [c21 (k := k) (by omega)  ha0 (left := left) (by omega) (by omega)]
  simp only [List.getElem?_cons_zero, List.getElem?_cons_succ, Option.bind_some, asI_s, asB_s, asS_s, asL_s, bindI_s, bindB_s, bindS_s, bindL_s, bindR_s, resI_s, resB_s, resS_s, resO_s, bne_self_eq_false, beq_self_eq_true, Bool.not_true]
  rcases szT_cases (left) (szD (.list 1 a0)) with ⟨q0, e0⟩ | ⟨q0, e0⟩ <;> rw [e0]
  rotate_left
  · rw [ite'_t (by simp only [decide_eq_true_eq]; omega)] <;> first | rfl | rw [szT_neg (by omega)]
  rw [ite'_f (neg_f (by omega))]
  rw [c22 (k := k) (by omega)  ha1 (left := left - ((szD (.list 1 a0) : Nat) : Int)) (by omega) (by omega)]
  simp only [List.getElem?_cons_zero, List.getElem?_cons_succ, Option.bind_some, asI_s, asB_s, asS_s, asL_s, bindI_s, bindB_s, bindS_s, bindL_s, bindR_s, resI_s, resB_s, resS_s, resO_s, bne_self_eq_false, beq_self_eq_true, Bool.not_true]
  rcases szT_cases (left - ((szD (.list 1 a0) : Nat) : Int)) (szD (.list 2 a1)) with ⟨q1, e1⟩ | ⟨q1, e1⟩ <;> rw [e1]
  rotate_left
  · rw [ite'_t (by simp only [decide_eq_true_eq]; omega)] <;> first | rfl | rw [szT_neg (by omega)]
  rw [ite'_f (neg_f (by omega))] <;> first | rfl | (rw [szT_pos (by omega)] <;> (congr 6 <;> omega))
/-- laws.toInstance -/
theorem F8x0 {a0 : Ovi.Rows} {a1 : Ovi.Rows} : resO 70 3 1 true 2 [(true, [.row 70 3 a0, .row 81 2 a1])] 0 0 = some a0 := rfl
theorem F8x1 {a0 : Ovi.Rows} {a1 : Ovi.Rows} : resO 81 2 1 true 2 [(true, [.row 70 3 a0, .row 81 2 a1])] 0 1 = some a1 := rfl
theorem c8 {k : Nat} (hk : 2000004 ≤ k) {a0 : Ovi.Rows} (ha0 : Fit (.list [.str, .int .i64, .bool]) (.list 3 a0)) {a1 : Ovi.Rows} (ha1 : Fit (.list [.int .i64, .list [.int .i64]]) (.list 2 a1)) (s0 : szD (.list 3 a0) ≤ 1048576) (s1 : szD (.list 2 a1) ≤ 1048576) : C k 8 [.agg [.d (.list 3 a0), .d (.list 2 a1)]] = some [(true, [.row 70 3 a0, .row 81 2 a1])] := by
  obtain ⟨k, rfl⟩ : ∃ j, k = j + 1 := ⟨k - 1, by omega⟩
  rw [F8.run]
  rw [c17 (k := k) (by omega)  ha0 s0]
  simp only [List.getElem?_cons_zero, List.getElem?_cons_succ, Option.bind_some, asI_s, asB_s, asS_s, asL_s, bindI_s, bindB_s, bindS_s, bindL_s, bindR_s, resI_s, resB_s, resS_s, resO_s, bne_self_eq_false, beq_self_eq_true, Bool.not_true]
  rw [c25 (k := k) (by omega)  ha1 s1]
  simp only [List.getElem?_cons_zero, List.getElem?_cons_succ, Option.bind_some, asI_s, asB_s, asS_s, asL_s, bindI_s, bindB_s, bindS_s, bindL_s, bindR_s, resI_s, resB_s, resS_s, resO_s, bne_self_eq_false, beq_self_eq_true, Bool.not_true]
/-- laws.toQuery -/
theorem F9x0 {a0 : Ovi.Rows} {a1 : Ovi.Rows} : resO 3 1 1 true 2 [(true, [.row 3 1 a0, .row 83 2 a1])] 0 0 = some a0 := rfl
theorem F9x1 {a0 : Ovi.Rows} {a1 : Ovi.Rows} : resO 83 2 1 true 2 [(true, [.row 3 1 a0, .row 83 2 a1])] 0 1 = some a1 := rfl
theorem c9 {k : Nat} (hk : 2000004 ≤ k) {a0 : Ovi.Rows} (ha0 : Fit (.list [.int .i64]) (.list 1 a0)) {a1 : Ovi.Rows} (ha1 : Fit (.list [.int .i64, .list [.int .i64]]) (.list 2 a1)) (s0 : szD (.list 1 a0) ≤ 1048576) (s1 : szD (.list 2 a1) ≤ 1048576) : C k 9 [.agg [.d (.list 1 a0), .d (.list 2 a1)]] = some [(true, [.row 3 1 a0, .row 83 2 a1])] := by
  obtain ⟨k, rfl⟩ : ∃ j, k = j + 1 := ⟨k - 1, by omega⟩
  rw [F9.run]
  rw [c10 (k := k) (by omega)  ha0 s0]
  simp only [List.getElem?_cons_zero, List.getElem?_cons_succ, Option.bind_some, asI_s, asB_s, asS_s, asL_s, bindI_s, bindB_s, bindS_s, bindL_s, bindR_s, resI_s, resB_s, resS_s, resO_s, bne_self_eq_false, beq_self_eq_true, Bool.not_true]
  rw [c26 (k := k) (by omega)  ha1 s1]
  simp only [List.getElem?_cons_zero, List.getElem?_cons_succ, Option.bind_some, asI_s, asB_s, asS_s, asL_s, bindI_s, bindB_s, bindS_s, bindL_s, bindR_s, resI_s, resB_s, resS_s, resO_s, bne_self_eq_false, beq_self_eq_true, Bool.not_true]
/-- laws.eqInstance -/
theorem c12 {k : Nat} (hk : 2000004 ≤ k) {a0 : Ovi.Rows} (ha0 : Fit (.list [.str, .int .i64, .bool]) (.list 3 a0)) {a1 : Ovi.Rows} (ha1 : Fit (.list [.int .i64, .list [.int .i64]]) (.list 2 a1)) (s0 : szD (.list 3 a0) ≤ 1048576) (s1 : szD (.list 2 a1) ≤ 1048576) : C k 12 [.agg [.d (.list 3 a0), .d (.list 2 a1)], .agg [.d (.list 3 a0), .d (.list 2 a1)]] = some [(false, [.d (.bool true)])] := by
  obtain ⟨k, rfl⟩ : ∃ j, k = j + 1 := ⟨k - 1, by omega⟩
  rw [F12.run]
  rw [c19 (k := k) (by omega)  ha0 s0]
  rw [c29 (k := k) (by omega)  ha1 s1]
  simp only [List.getElem?_cons_zero, List.getElem?_cons_succ, Option.bind_some, asI_s, asB_s, asS_s, asL_s, bindI_s, bindB_s, bindS_s, bindL_s, bindR_s, resI_s, resB_s, resS_s, resO_s, bne_self_eq_false, beq_self_eq_true, Bool.not_true]
  rfl
/-- laws.eqQuery -/
theorem c13 {k : Nat} (hk : 2000004 ≤ k) {a0 : Ovi.Rows} (ha0 : Fit (.list [.int .i64]) (.list 1 a0)) {a1 : Ovi.Rows} (ha1 : Fit (.list [.int .i64, .list [.int .i64]]) (.list 2 a1)) (s0 : szD (.list 1 a0) ≤ 1048576) (s1 : szD (.list 2 a1) ≤ 1048576) : C k 13 [.agg [.d (.list 1 a0), .d (.list 2 a1)], .agg [.d (.list 1 a0), .d (.list 2 a1)]] = some [(false, [.d (.bool true)])] := by
  obtain ⟨k, rfl⟩ : ∃ j, k = j + 1 := ⟨k - 1, by omega⟩
  rw [F13.run]
  rw [c14 (k := k) (by omega)  ha0 s0]
  rw [c30 (k := k) (by omega)  ha1 s1]
  simp only [List.getElem?_cons_zero, List.getElem?_cons_succ, Option.bind_some, asI_s, asB_s, asS_s, asL_s, bindI_s, bindB_s, bindS_s, bindL_s, bindR_s, resI_s, resB_s, resS_s, resO_s, bne_self_eq_false, beq_self_eq_true, Bool.not_true]
  rfl
end Go.Proofs.YtielkoncnddfdaaGreat.Q

/-! KHa -/
namespace Go.Proofs.YtielkoncnddfdaaGreat.Q
open Go Ovi

def bo (b : Bool) : Option Res := some [(false, [.d (.bool b)])]
theorem bo_eq {b c : Bool} (h : b = c) : bo b = bo c := by rw [h]
/-- spec.l1In -/
theorem c60 (k : Nat) (a l h : Int) : C (k + 1) 60 [.d (.int .i64 a), .d (.int .i64 l), .d (.int .i64 h)] = bo (decide (l ≤ a ∧ a ≤ h)) := by
  rw [F60.run]
  by_cases h1 : l ≤ a
  · rw [ite'_t (by simpa using h1)]; exact bo_eq (by simp [h1])
  · rw [ite'_f (by simpa using h1)]; exact bo_eq (by simp [h1])
/-- impl.within -/
theorem c96 (k : Nat) (a l h : Int) : C (k + 1) 96 [.d (.int .i64 a), .d (.int .i64 l), .d (.int .i64 h)] = bo (decide (l ≤ a ∧ a ≤ h)) := by
  rw [F96.run]
  by_cases h1 : l ≤ a
  · rw [ite'_t (by simpa using h1)]; exact bo_eq (by simp [h1])
  · rw [ite'_f (by simpa using h1)]; exact bo_eq (by simp [h1])
theorem bB (b : Bool) (k : Bool → Option Res) : (bindR (bo b) fun r => bindB (resB 1 false 1 r 0 0) k) = k b := rfl
theorem iB {x y : Option Res} (b : Bool) : ite' b x y = cond b x y := rfl
variable {k : Nat}
/-- spec.l4Has -/
theorem c59 (zs : List Int) (v : Int) (hk : zs.length < k) (hz : zs.length ≤ maxLen) : C (k + 1) 59 [.d (.list 1 (I1 zs)), .d (.int .i64 v)] = bo (decide (v ∈ zs)) := by
  rw [F59.run]
  have := loop_any (xs := zs) (L := fun n i => F59.L2 k (C k) n (I1 zs) v i) (stop := fun x => x == v) (hit := bo true) (fin := bo false)
    (fun n i x hx => by
      have hi := (List.getElem?_eq_some_iff.1 hx).1
      rw [F59.L2.succ, I1_len, ite'_t (lt_t hi), ite'_t (inR_t hi)]
      simp only [Int.toNat_natCast, cellI_at (I1_get' hx), List.getElem?_cons_zero, Option.bind_some, asI_s, bindI_s]
      rw [next_i hi hz]; rfl)
    (fun n => by rw [F59.L2.succ, I1_len, ite'_f (lt_f (by omega))]; rfl) k hk
  rw [show F59.L2 k (C k) k (I1 zs) v 0 = _ from this]
  by_cases h : v ∈ zs
  · rw [List.any_eq_true.2 ⟨v, h, by simp⟩]; exact bo_eq (by simp [h])
  · rw [show zs.any (fun x => x == v) = false by rw [List.any_eq_false]; intro x hx; simp; intro e; exact h (e ▸ hx)]; exact bo_eq (by simp [h])
/-- slices.Contains on integers -/
theorem c69 (zs : List Int) (v : Int) (hk : zs.length < k) (hz : zs.length ≤ maxLen) : C (k + 2) 69 [.d (.list 1 (I1 zs)), .d (.int .i64 v)] = bo (decide (v ∈ zs)) := by
  rw [F69.run, F101.run, I1_len]
  have := loop_find (xs := zs) (L := fun n i => F101.L2 k (C k) n (I1 zs) v (zs.length : Int) i) (stop := fun _ x => v == x) (hit := fun i => some [(false, [.d (.int .i64 (i : Int))])]) (fin := some [(false, [.d (.int .i64 (-1))])])
    (fun n i x hx => by
      have hi := (List.getElem?_eq_some_iff.1 hx).1
      rw [F101.L2.succ, I1_len, ite'_t (lt_t hi), ite'_t (inR_t hi)]
      simp only [Int.toNat_natCast, cellI_at (I1_get' hx), List.getElem?_cons_zero, Option.bind_some, asI_s, bindI_s]
      rw [next_i hi hz]; rfl)
    (fun n => by rw [F101.L2.succ, ite'_f (lt_f (by omega))]) k hk
  rcases this with ⟨i, x, hx, hst, e⟩ | ⟨hst, e⟩
  · rw [show F101.L2 k (C k) k (I1 zs) v (zs.length : Int) 0 = _ from e]
    simp only [bindR_s, resI_s, bindI_s]
    have : v = x := by simpa using hst
    subst this
    exact bo_eq (by rw [decide_eq_true (List.mem_of_getElem? hx)]; simp)
  · rw [show F101.L2 k (C k) k (I1 zs) v (zs.length : Int) 0 = _ from e]
    simp only [bindR_s, resI_s, bindI_s]
    refine bo_eq ?_
    rw [decide_eq_false (p := v ∈ zs) (fun h => ?_)]
    · rfl
    · obtain ⟨i, hi⟩ := List.mem_iff_getElem?.1 h
      have := hst i v hi
      simp at this
/-- slices.ContainsFunc on integers -/
theorem c67 (zs : List Int) (f : FuncId) (caps : Ovi.Rows) (p : Int → Bool) (hk : zs.length < k) (hz : zs.length ≤ maxLen) (hp : ∀ z ∈ zs, C k f (.d (.int .i64 z) :: caps.map fun c => .cap c 0) = bo (p z)) : C (k + 2) 67 [.d (.list 1 (I1 zs)), .d (.fn f caps)] = bo (zs.any p) := by
  rw [F67.run, F100.run, I1_len]
  have := loop_find (xs := zs) (L := fun n i => F100.L2 k (C k) n (I1 zs) f caps (zs.length : Int) i) (stop := fun _ x => p x) (hit := fun i => some [(false, [.d (.int .i64 (i : Int))])]) (fin := some [(false, [.d (.int .i64 (-1))])])
    (fun n i x hx => by
      have hi := (List.getElem?_eq_some_iff.1 hx).1
      rw [F100.L2.succ, I1_len, ite'_t (lt_t hi), ite'_t (inR_t hi)]
      simp only [Int.toNat_natCast, cellI_at (I1_get' hx), List.getElem?_cons_zero, Option.bind_some, asI_s, bindI_s]
      rw [next_i hi hz]
      have := hp x (List.mem_of_getElem? hx)
      simp only [List.append_eq, List.nil_append] at this ⊢
      rw [this, bB]; rfl)
    (fun n => by rw [F100.L2.succ, ite'_f (lt_f (by omega))]) k hk
  rcases this with ⟨i, x, hx, hst, e⟩ | ⟨hst, e⟩
  · rw [show F100.L2 k (C k) k (I1 zs) f caps (zs.length : Int) 0 = _ from e]
    simp only [bindR_s, resI_s, bindI_s]
    exact bo_eq (by rw [List.any_eq_true.2 ⟨x, List.mem_of_getElem? hx, hst⟩]; simp)
  · rw [show F100.L2 k (C k) k (I1 zs) f caps (zs.length : Int) 0 = _ from e]
    simp only [bindR_s, resI_s, bindI_s]
    refine bo_eq ?_
    rw [List.any_eq_false.2 (fun x hx => ?_)]
    · rfl
    · obtain ⟨i, hi⟩ := List.mem_iff_getElem?.1 hx
      simpa using hst i x hi
/-- slices.ContainsFunc on atoms -/
theorem c97 (xs : List Atom) (f : FuncId) (caps : Ovi.Rows) (p : Atom → Bool) (hk : xs.length < k) (hz : xs.length ≤ maxLen) (hp : ∀ x ∈ xs, C k f (.agg [.d (.int .i64 x.1), .d (.list 1 (I1 x.2))] :: caps.map fun c => .cap c 0) = bo (p x)) : C (k + 2) 97 [.d (.list 2 (A1 xs)), .d (.fn f caps)] = bo (xs.any p) := by
  rw [F97.run, F121.run, A1_len]
  have := loop_find (xs := xs) (L := fun n i => F121.L2 k (C k) n (A1 xs) f caps (xs.length : Int) i) (stop := fun _ x => p x) (hit := fun i => some [(false, [.d (.int .i64 (i : Int))])]) (fin := some [(false, [.d (.int .i64 (-1))])])
    (fun n i x hx => by
      have hi := (List.getElem?_eq_some_iff.1 hx).1
      rw [F121.L2.succ, A1_len, ite'_t (lt_t hi), ite'_t (inR_t hi)]
      simp only [Int.toNat_natCast, cellI_at (A1_get hx), cellL_at (A1_get hx), List.getElem?_cons_zero, List.getElem?_cons_succ, Option.bind_some, asI_s, asL_s, bindI_s, bindL_s]
      rw [next_i hi hz]
      have := hp x (List.mem_of_getElem? hx)
      simp only [List.append_eq, List.nil_append] at this ⊢
      rw [this, bB]; rfl)
    (fun n => by rw [F121.L2.succ, ite'_f (lt_f (by omega))]) k hk
  rcases this with ⟨i, x, hx, hst, e⟩ | ⟨hst, e⟩
  · rw [show F121.L2 k (C k) k (A1 xs) f caps (xs.length : Int) 0 = _ from e]
    simp only [bindR_s, resI_s, bindI_s]
    exact bo_eq (by rw [List.any_eq_true.2 ⟨x, List.mem_of_getElem? hx, hst⟩]; simp)
  · rw [show F121.L2 k (C k) k (A1 xs) f caps (xs.length : Int) 0 = _ from e]
    simp only [bindR_s, resI_s, bindI_s]
    refine bo_eq ?_
    rw [List.any_eq_false.2 (fun x hx => ?_)]
    · rfl
    · obtain ⟨i, hi⟩ := List.mem_iff_getElem?.1 hx
      simpa using hst i x hi

/-! ### relations -/
def Rl : Ty := .list [.str, .int .i64, .bool]
/-- both IsValidRelation -/
def relOk (s : List UInt8) (n : Int) : Bool := decide (s.length = 1) && (decide (byteAt s 0 ≥ 97) && (decide (byteAt s 0 ≤ 122) && decide (1 ≤ n ∧ n ≤ 3)))
theorem c117 (s : List UInt8) (n : Int) (b : Bool) : C (k + 2) 117 [.agg [.d (.str s), .d (.int .i64 n), .d (.bool b)]] = bo (relOk s n) := by
  rw [F117.run]
  by_cases h : s.length = 1
  · obtain ⟨h1, h2⟩ := letter s h
    rw [ite'_t (by simp; omega), h1, h2, c96, bB]
    unfold relOk
    rw [decide_eq_true h]
    cases decide (byteAt s 0 ≥ 97) <;> cases decide (byteAt s 0 ≤ 122) <;> rfl
  · rw [ite'_f (by simp; omega)]
    unfold relOk
    rw [decide_eq_false h]
    rfl
theorem c111 (s : List UInt8) (n : Int) (b : Bool) : C (k + 2) 111 [.agg [.d (.str s), .d (.int .i64 n), .d (.bool b)]] = bo (relOk s n) := by
  rw [F111.run]
  by_cases h : s.length = 1
  · rw [ite'_t (by simp; omega), ite'_t (by simp [inR]; omega), ite'_t (b := inR 0 s.length) (by simp [inR]; omega), c60, bB]
    unfold relOk
    rw [decide_eq_true h]
    cases decide (byteAt s 0 ≥ 97) <;> cases decide (byteAt s 0 ≤ 122) <;> rfl
  · rw [ite'_f (by simp; omega)]
    unfold relOk
    rw [decide_eq_false h]
    rfl
/-- both AreValidRelations answer alike -/
theorem rels {a : Ovi.Rows} (ha : Fit Rl (.list 3 a)) : ∃ b, ∀ k, a.length < k → C (k + 3) 91 [.d (.list 3 a)] = bo b ∧ C (k + 3) 82 [.d (.list 3 a)] = bo b := by
  have hlen := ha.len
  have key : ∀ (m i : Nat), i + m = a.length → ∃ b, ∀ k n, m < n → F91.L2 (k + 2) (C (k + 2)) n a a (a.length : Int) (i : Int) = bo b ∧ F82.L2 (k + 2) (C (k + 2)) n a (i : Int) = bo b := by
    intro m
    induction m with
    | zero =>
      intro i hm
      refine ⟨decide ((a.length : Int) ≤ 6), fun k n hn => ?_⟩
      obtain ⟨n, rfl⟩ : ∃ j, n = j + 1 := ⟨n - 1, by omega⟩
      constructor
      · rw [F91.L2.succ, ite'_f (lt_f (by omega))]; rfl
      · rw [F82.L2.succ, ite'_f (lt_f (by omega))]; rfl
    | succ m ih =>
      intro i hm
      have hi : i < a.length := by omega
      obtain ⟨row, hr, hfr, _⟩ := ha.row hi
      obtain ⟨d0, r0, rfl, f0, h1⟩ := Fits.cons hfr
      obtain ⟨d1, r1, rfl, f1, h1⟩ := Fits.cons h1
      obtain ⟨d2, r2, rfl, f2, h1⟩ := Fits.cons h1
      obtain rfl := Fits.nil h1
      obtain ⟨s, rfl, hs⟩ := f0.str
      obtain ⟨x, rfl, _⟩ := f1.int
      obtain ⟨b, rfl⟩ := f2.bool
      obtain ⟨bb, ih⟩ := ih (i + 1) (by omega)
      have step : ∀ k n, F91.L2 (k + 2) (C (k + 2)) (n + 1) a a (a.length : Int) (i : Int) = ite' (!relOk s x) (bo false) (ite' (decide ((i : Int) > 0)) (ite' (inR (IntKind.i64.wrap ((i : Int) - 1)) a.length) (bindS (cellS a (IntKind.i64.wrap ((i : Int) - 1)).toNat 0) fun s13 => ite' (sLess s s13 || s == s13) (bo false) (F91.L2 (k + 2) (C (k + 2)) n a a (a.length : Int) ((i + 1 : Nat) : Int))) none) (F91.L2 (k + 2) (C (k + 2)) n a a (a.length : Int) ((i + 1 : Nat) : Int))) ∧
          F82.L2 (k + 2) (C (k + 2)) (n + 1) a (i : Int) = ite' (!relOk s x) (bo false) (ite' (decide ((i : Int) > 0)) (ite' (inR (IntKind.i64.wrap ((i : Int) - 1)) a.length) (bindS (cellS a (IntKind.i64.wrap ((i : Int) - 1)).toNat 0) fun s11 => ite' (!sLess s11 s) (bo false) (F82.L2 (k + 2) (C (k + 2)) n a ((i + 1 : Nat) : Int))) none) (F82.L2 (k + 2) (C (k + 2)) n a ((i + 1 : Nat) : Int))) := by
        intro k n
        rw [F91.L2.succ, F82.L2.succ, ite'_t (lt_t hi), ite'_t (inR_t hi), ite'_t (lt_t hi), ite'_t (inR_t hi)]
        simp only [Int.toNat_natCast, cellI_at hr, cellS_at hr, cellB_at hr, List.getElem?_cons_zero, List.getElem?_cons_succ, Option.bind_some, asI_s, asS_s, asB_s, bindI_s, bindS_s, bindB_s]
        rw [c117, c111, next_i hi hlen, bB, bB]
        refine ⟨rfl, ?_⟩
        simp only [show ∀ x y : Option Res, ite' (inR (i : Int) a.length) x y = x from fun x y => ite'_t (inR_t hi)]
        rfl
      cases hv : relOk s x with
      | false =>
        refine ⟨false, fun k n hn => ?_⟩
        obtain ⟨n, rfl⟩ : ∃ j, n = j + 1 := ⟨n - 1, by omega⟩
        obtain ⟨e1, e2⟩ := step k n
        rw [e1, e2, hv]
        exact ⟨rfl, rfl⟩
      | true =>
        by_cases h0 : i = 0
        · subst h0
          refine ⟨bb, fun k n hn => ?_⟩
          obtain ⟨n, rfl⟩ : ∃ j, n = j + 1 := ⟨n - 1, by omega⟩
          obtain ⟨e1, e2⟩ := step k n
          rw [e1, e2, hv]
          exact ih k n (by omega)
        · have hw : IntKind.i64.wrap ((i : Int) - 1) = ((i - 1 : Nat) : Int) := by
            unfold maxLen at hlen
            rw [wrap_id (by omega) (by omega)]; omega
          obtain ⟨row', hr', hfr', _⟩ := ha.row (i := i - 1) (by omega)
          obtain ⟨d0', r0', rfl, f0', h1'⟩ := Fits.cons hfr'
          obtain ⟨s', rfl, hs'⟩ := f0'.str
          have hcs : cellS a ((i - 1 : Nat) : Int).toNat 0 = some s' := by rw [Int.toNat_natCast, cellS_at hr']; rfl
          have hgt : decide ((i : Int) > 0) = true := by simp; omega
          have hin : inR ((i - 1 : Nat) : Int) a.length = true := inR_t (by omega)
          cases hl : sLess s' s with
          | true =>
            refine ⟨bb, fun k n hn => ?_⟩
            obtain ⟨n, rfl⟩ : ∃ j, n = j + 1 := ⟨n - 1, by omega⟩
            obtain ⟨e1, e2⟩ := step k n
            rw [e1, e2, hv, hw, hgt, hin, hcs]
            simp only [bindS_s]
            rw [sLess_total, hl]
            exact ih k n (by omega)
          | false =>
            refine ⟨false, fun k n hn => ?_⟩
            obtain ⟨n, rfl⟩ : ∃ j, n = j + 1 := ⟨n - 1, by omega⟩
            obtain ⟨e1, e2⟩ := step k n
            rw [e1, e2, hv, hw, hgt, hin, hcs]
            simp only [bindS_s]
            rw [sLess_total, hl]
            exact ⟨rfl, rfl⟩
  obtain ⟨b, hb⟩ := key a.length 0 (by omega)
  refine ⟨b, fun k hk => ?_⟩
  rw [F91.run, F82.run]
  exact hb k (k + 2) (by omega)
/-- the arity that a relation has -/
def ar (a : Ovi.Rows) (r : Int) : Int := (cellI .i64 a r.toNat 1).getD (-1)
/-- both IsValidAtom answer alike -/
theorem atoms {a : Ovi.Rows} (ha : Fit Rl (.list 3 a)) (x : Atom) (hx2 : x.2.length ≤ maxLen) : ∃ b, (b = true → (0 ≤ x.1 ∧ x.1 < (a.length : Int)) ∧ (x.2.length : Int) = ar a x.1 ∧ ∀ t ∈ x.2, -10 ≤ t ∧ t ≤ 4) ∧ ∀ k, a.length < k → x.2.length < k → C (k + 5) 99 [.d (.list 3 a), .agg [.d (.int .i64 x.1), .d (.list 1 (I1 x.2))]] = bo b ∧ C (k + 5) 58 [.d (.list 3 a), .agg [.d (.int .i64 x.1), .d (.list 1 (I1 x.2))]] = bo b := by
  have hlen := ha.len
  unfold maxLen at hlen
  obtain ⟨b, hb⟩ := rels ha
  have e : ∀ k, a.length < k → C (k + 4) 91 [.d (.list 3 a)] = bo b ∧ C (k + 4) 82 [.d (.list 3 a)] = bo b := fun k hk => hb (k + 1) (by omega)
  cases b with
  | false =>
    refine ⟨false, fun h => (by cases h), fun k hk hx => ?_⟩
    rw [F99.run, F58.run, (e k hk).1, (e k hk).2, bB, bB]
    exact ⟨rfl, rfl⟩
  | true =>
    by_cases hr : 0 ≤ x.1 ∧ x.1 ≤ (a.length : Int) - 1
    · obtain ⟨i, hi⟩ : ∃ i : Nat, x.1 = i := ⟨x.1.toNat, by omega⟩
      have hia : i < a.length := by omega
      obtain ⟨row, hrow, hfr, _⟩ := ha.row hia
      obtain ⟨d0, r0, rfl, f0, h1⟩ := Fits.cons hfr
      obtain ⟨d1, r1, rfl, f1, h1⟩ := Fits.cons h1
      obtain ⟨n, rfl, _⟩ := f1.int
      have hcn : cellI .i64 a ((i : Int)).toNat 1 = some n := by rw [Int.toNat_natCast, cellI_at hrow]; simp [asI_s]
      by_cases hn : ((I1 x.2).length : Int) = n
      · refine ⟨!(x.2.any fun t => !decide (-10 ≤ t ∧ t ≤ 4)), fun h => ⟨by omega, by unfold ar; rw [hi, hcn]; rw [I1_len] at hn; exact hn, fun t ht => by
          simp only [Bool.not_eq_true', List.any_eq_false, Bool.not_eq_true, decide_eq_false_iff_not, Decidable.not_not] at h
          exact h t ht⟩, fun k hk hx => ?_⟩
        rw [F99.run, F58.run, (e k hk).1, (e k hk).2, bB, bB, ite'_nt, ite'_nt, c96, c60, bB, bB, wrap_id (by omega) (by omega), decide_eq_true hr, ite'_nt, ite'_nt, hi, ite'_t (inR_t hia), ite'_t (inR_t hia), hcn]
        simp only [bindI_s]
        rw [ite'_f (by simpa using hn), ite'_f (b := ((I1 x.2).length : Int) != n) (by simpa using hn)]
        have e69 := c67 (k := k + 2) x.2 122 [] (fun t => !decide (-10 ≤ t ∧ t ≤ 4)) (by omega) hx2 (fun z _ => by
          rw [List.map_nil, F122.run, c96 k, bB]; rfl)
        rw [e69, bB]
        refine ⟨rfl, ?_⟩
        have := loop_any (xs := x.2) (L := fun m j => F58.L4 (k + 4) (C (k + 4)) m j (i : Int) (I1 x.2)) (stop := fun t => !decide (-10 ≤ t ∧ t ≤ 4)) (hit := bo false) (fin := bo true)
          (fun m j t ht => by
            have hj := (List.getElem?_eq_some_iff.1 ht).1
            rw [F58.L4.succ, I1_len, ite'_t (lt_t hj), ite'_t (inR_t hj)]
            simp only [Int.toNat_natCast, cellI_at (I1_get' ht), List.getElem?_cons_zero, Option.bind_some, asI_s, bindI_s]
            rw [c60, bB, next_i hj hx2]; rfl)
          (fun m => by rw [F58.L4.succ, I1_len, ite'_f (lt_f (by omega))]; rfl) (k + 4) (by omega)
        rw [show F58.L4 (k + 4) (C (k + 4)) (k + 4) 0 (i : Int) (I1 x.2) = _ from this]
        cases x.2.any (fun t => !decide (-10 ≤ t ∧ t ≤ 4)) <;> rfl
      · refine ⟨false, fun h => (by cases h), fun k hk hx => ?_⟩
        rw [F99.run, F58.run, (e k hk).1, (e k hk).2, bB, bB, ite'_nt, ite'_nt, c96, c60, bB, bB, wrap_id (by omega) (by omega), decide_eq_true hr, ite'_nt, ite'_nt, hi, ite'_t (inR_t hia), ite'_t (inR_t hia), hcn]
        simp only [bindI_s]
        rw [ite'_t (by simpa using hn), ite'_t (b := ((I1 x.2).length : Int) != n) (by simpa using hn)]
        exact ⟨rfl, rfl⟩
    · refine ⟨false, fun h => (by cases h), fun k hk hx => ?_⟩
      rw [F99.run, F58.run, (e k hk).1, (e k hk).2, bB, bB, ite'_nt, ite'_nt, c96, c60, bB, bB, wrap_id (by omega) (by omega), decide_eq_false hr]
      exact ⟨rfl, rfl⟩
end Go.Proofs.YtielkoncnddfdaaGreat.Q

/-! KIa -/
namespace Go.Proofs.YtielkoncnddfdaaGreat.Q
open Go Ovi
variable {k : Nat}
/-- what the atoms hold: z is a variable of theirs -/
def isVar (xs : List Atom) (z : Int) : Prop := 0 ≤ z ∧ ∃ x ∈ xs, z ∈ x.2
def terms (xs : List Atom) : Nat := (xs.map fun x => x.2.length).sum
theorem terms_at {xs : List Atom} {i : Nat} {x : Atom} (h : xs[i]? = some x) : terms (xs.take i) + x.2.length = terms (xs.take (i + 1)) := by
  obtain ⟨hi, e⟩ := List.getElem?_eq_some_iff.1 h
  unfold terms
  rw [List.take_succ_eq_append_getElem hi, e]
  simp
theorem terms_le (xs : List Atom) (i : Nat) : terms (xs.take i) ≤ terms xs := by
  have : terms xs = terms (xs.take i) + terms (xs.drop i) := by
    unfold terms
    rw [← List.sum_append, ← List.map_append, List.take_append_drop]
  omega
theorem isVar_take {xs : List Atom} {i : Nat} {x : Atom} (h : xs[i]? = some x) (z : Int) : isVar (xs.take (i + 1)) z ↔ isVar (xs.take i) z ∨ (0 ≤ z ∧ z ∈ x.2) := by
  obtain ⟨hi, e⟩ := List.getElem?_eq_some_iff.1 h
  unfold isVar
  rw [List.take_succ_eq_append_getElem hi, e]
  simp only [List.mem_append, List.mem_singleton]
  constructor
  · rintro ⟨h0, y, hy | rfl, hz⟩
    · exact .inl ⟨h0, y, hy, hz⟩
    · exact .inr ⟨h0, hz⟩
  · rintro (⟨h0, y, hy, hz⟩ | ⟨h0, hz⟩)
    · exact ⟨h0, y, .inl hy, hz⟩
    · exact ⟨h0, x, .inr rfl, hz⟩
/-- impl.Variables -/
theorem c65 (xs : List Atom) (hk : terms xs + xs.length < k) (hs : terms xs + xs.length ≤ 1048576) : ∃ vs, C (k + 1) 65 [.d (.list 2 (A1 xs))] = some [(false, [.row 3 1 (I1 vs)])] ∧ (∀ z, z ∈ vs ↔ isVar xs z) ∧ vs.length ≤ terms xs := by
  rw [F65.run, A1_len]
  have hmax : (1048576 : Nat) ≤ maxLen := by decide
  -- the inner loop
  have inner : ∀ (i : Nat) (x : Atom), xs[i]? = some x → ∀ (m j n k3 : Nat) (acc : List Int), j + m = x.2.length → m < n → acc.length ≤ terms (xs.take i) + j → (∀ z, z ∈ acc ↔ isVar (xs.take i) z ∨ (0 ≤ z ∧ z ∈ x.2.take j)) →
      ∃ acc', F65.L6 k (C k) k3 n (A1 xs) (xs.length : Int) (i : Int) (I1 x.2) (x.2.length : Int) (j : Int) (I1 acc) = F65.L3 k (C k) k3 (A1 xs) (xs.length : Int) ((i + 1 : Nat) : Int) (I1 acc') ∧ acc'.length ≤ terms (xs.take (i + 1)) ∧ ∀ z, z ∈ acc' ↔ isVar (xs.take (i + 1)) z := by
    intro i x hx m
    have hi := (List.getElem?_eq_some_iff.1 hx).1
    have hta := terms_at hx
    have htl := terms_le xs (i + 1)
    induction m with
    | zero =>
      intro j n k3 acc hm hn ha hmem
      obtain ⟨n, rfl⟩ : ∃ j, n = j + 1 := ⟨n - 1, by omega⟩
      obtain rfl : j = x.2.length := by omega
      refine ⟨acc, ?_, by omega, fun z => ?_⟩
      · rw [F65.L6.succ, ite'_f (lt_f (by omega)), next_i hi (m := xs.length) (by omega)]
      · rw [hmem z, isVar_take hx, List.take_length]
    | succ m ih =>
      intro j n k3 acc hm hn ha hmem
      obtain ⟨n, rfl⟩ : ∃ j, n = j + 1 := ⟨n - 1, by omega⟩
      have hj : j < x.2.length := by omega
      have hz := List.getElem?_eq_getElem hj
      rw [F65.L6.succ, ite'_t (lt_t hj), I1_len, ite'_t (inR_t hj)]
      simp only [Int.toNat_natCast, cellI_at (I1_get' hz), List.getElem?_cons_zero, Option.bind_some, asI_s, bindI_s]
      rw [next_i hj (m := x.2.length) (by omega)]
      have htk : ∀ z, z ∈ x.2.take (j + 1) ↔ z ∈ x.2.take j ∨ z = x.2[j] := by
        intro z
        rw [List.take_succ_eq_append_getElem hj]
        simp only [List.mem_append, List.mem_singleton]
      by_cases h0 : 0 ≤ x.2[j]
      · rw [ite'_t (by simpa using h0), ite'_t (fits_t (by simp [I1_len]; omega))]
        have e : I1 acc ++ [[.int .i64 x.2[j]]] = I1 (acc ++ [x.2[j]]) := by simp [I1]
        rw [e]
        refine ih (j + 1) n k3 _ (by omega) (by omega) (by simp; omega) (fun z => ?_)
        rw [List.mem_append, List.mem_singleton, hmem z, htk z]
        constructor
        · rintro ((h | h) | h)
          · exact .inl h
          · exact .inr ⟨h.1, .inl h.2⟩
          · exact .inr ⟨h ▸ h0, .inr h⟩
        · rintro (h | ⟨h1, h | h⟩)
          · exact .inl (.inl h)
          · exact .inl (.inr ⟨h1, h⟩)
          · exact .inr h
      · rw [ite'_f (by simpa using h0)]
        refine ih (j + 1) n k3 _ (by omega) (by omega) (by omega) (fun z => ?_)
        rw [hmem z, htk z]
        constructor
        · rintro (h | h)
          · exact .inl h
          · exact .inr ⟨h.1, .inl h.2⟩
        · rintro (h | ⟨h1, h | h⟩)
          · exact .inl h
          · exact .inr ⟨h1, h⟩
          · exact absurd (h ▸ h1) h0
  have outer : ∀ (m i n : Nat) (acc : List Int), i + m = xs.length → m < n → acc.length ≤ terms (xs.take i) → (∀ z, z ∈ acc ↔ isVar (xs.take i) z) →
      ∃ vs, F65.L3 k (C k) n (A1 xs) (xs.length : Int) (i : Int) (I1 acc) = some [(false, [.row 3 1 (I1 vs)])] ∧ (∀ z, z ∈ vs ↔ isVar xs z) ∧ vs.length ≤ terms xs := by
    intro m
    induction m with
    | zero =>
      intro i n acc hm hn ha hmem
      obtain ⟨n, rfl⟩ : ∃ j, n = j + 1 := ⟨n - 1, by omega⟩
      obtain rfl : i = xs.length := by omega
      rw [List.take_length] at ha hmem
      obtain ⟨k, rfl⟩ : ∃ j, k = j + 1 := ⟨k - 1, by omega⟩
      have e1 : C (k + 1) 94 [.var 0 0, .d (.int .i64 3), .d (.list 1 (I1 acc))] = some [(false, [.row 3 1 (I1 (sortInts acc))])] := by
        show sortP _ = _
        unfold sortP rawArg
        simp only [ints_I1]
        rw [show Nat.ble acc.length 1099511627776 = true from Nat.ble_eq_true_of_le (by omega)]
        rfl
      have hsl : (sortInts acc).length = acc.length := by simp [sortInts]
      have e2 : C (k + 1) 95 [.var 0 0, .d (.int .i64 3), .d (.list 1 (I1 (sortInts acc)))] = some [(false, [.row 3 1 (I1 (Lib.compact (sortInts acc)))]), (true, [])] := by
        show compactP _ = _
        unfold compactP rawArg
        simp only [ints_I1]
        rw [show Nat.ble (sortInts acc).length 1099511627776 = true from Nat.ble_eq_true_of_le (by omega)]
        rfl
      refine ⟨Lib.compact (sortInts acc), ?_, fun z => ?_, ?_⟩
      · rw [F65.L3.succ, ite'_f (lt_f (by omega)), e1]
        simp only [bindR_s, resO_s, bindL_s]
        rw [e2]
        rfl
      · rw [mem_compact, mem_sortInts, hmem z]
      · have := compact_len (sortInts acc)
        omega
    | succ m ih =>
      intro i n acc hm hn ha hmem
      obtain ⟨n, rfl⟩ : ∃ j, n = j + 1 := ⟨n - 1, by omega⟩
      have hi : i < xs.length := by omega
      have hx := List.getElem?_eq_getElem hi
      rw [F65.L3.succ, A1_len, ite'_t (lt_t hi), ite'_t (inR_t hi)]
      simp only [Int.toNat_natCast, cellI_at (A1_get hx), cellL_at (A1_get hx), List.getElem?_cons_zero, List.getElem?_cons_succ, Option.bind_some, asI_s, asL_s, bindI_s, bindL_s]
      have hta := terms_at hx
      have htl := terms_le xs (i + 1)
      rw [I1_len]
      obtain ⟨acc', e, h1, h2⟩ := inner i _ hx (xs[i]).2.length 0 k n acc (by omega) (by omega) (by omega) (fun z => by simp [hmem z])
      rw [show ((0 : Nat) : Int) = 0 from rfl] at e
      rw [e]
      exact ih (i + 1) n acc' (by omega) (by omega) h1 h2
  have := outer xs.length 0 k [] (by omega) (by omega) (by simp) (fun z => by simp [isVar])
  exact this
theorem sortP_show : True := trivial
/-- spec.l4Put -/
theorem c83 (zs : List Int) (v : Int) (hk : zs.length < k) (hz : zs.length ≤ 1048576) : ∃ r ws, C (k + 1) 83 [.d (.list 1 (I1 zs)), .d (.int .i64 v)] = some r ∧ resL 1 1 false 1 r 0 0 = some (I1 ws) ∧ (∀ z, z ∈ ws ↔ z ∈ zs ∨ z = v) ∧ ws.length ≤ zs.length + 1 := by
  rw [F83.run]
  have hmax : (1048576 : Nat) ≤ maxLen := by decide
  have ins : ∀ i : Nat, i ≤ zs.length → ∃ r ws, (ite' (inS (i : Int) ((I1 zs).length : Int) (I1 zs).length) (ite' (fits (([[D.int .i64 v]] : Ovi.Rows).length + ((I1 zs).drop (i : Int).toNat).length)) (ite' (inS (0 : Int) (i : Int) (I1 zs).length) (ite' (fits ((I1 zs).take (i : Int).toNat).length) (ite' (fits (((I1 zs).take (i : Int).toNat).length + List.length ([[D.int .i64 v]] ++ (I1 zs).drop (i : Int).toNat))) (some ([(false, [RL.row 3 1 ((I1 zs).take (i : Int).toNat ++ ([[D.int .i64 v]] ++ (I1 zs).drop (i : Int).toNat))])] : Res)) none) none) none) none) none) = some r ∧ resL 1 1 false 1 r 0 0 = some (I1 ws) ∧ (∀ z, z ∈ ws ↔ z ∈ zs ∨ z = v) ∧ ws.length ≤ zs.length + 1 := by
    intro i hi
    rw [I1_len, ite'_t (by simp [inS]; omega), ite'_t (fits_t (by simp [I1_len]; omega)), ite'_t (by simp [inS]; omega), ite'_t (fits_t (by simp [I1_len]; omega)), ite'_t (fits_t (by simp [I1_len]; omega))]
    refine ⟨_, zs.take i ++ v :: zs.drop i, rfl, ?_, fun z => ?_, by simp; omega⟩
    · rw [resL_s]
      simp [I1]
    · have : z ∈ zs ↔ z ∈ zs.take i ∨ z ∈ zs.drop i := by rw [← List.mem_append, List.take_append_drop]
      rw [this, List.mem_append, List.mem_cons]
      constructor
      · rintro (h | h | h)
        · exact .inl (.inl h)
        · exact .inr h
        · exact .inl (.inr h)
      · rintro ((h | h) | h)
        · exact .inl h
        · exact .inr (.inr h)
        · exact .inr (.inl h)
  have main : ∀ (m i n : Nat), i + m = zs.length → m < n → ∃ r ws, F83.L2 k (C k) n (I1 zs) v (i : Int) = some r ∧ resL 1 1 false 1 r 0 0 = some (I1 ws) ∧ (∀ z, z ∈ ws ↔ z ∈ zs ∨ z = v) ∧ ws.length ≤ zs.length + 1 := by
    intro m
    induction m with
    | zero =>
      intro i n hm hn
      obtain ⟨n, rfl⟩ : ∃ j, n = j + 1 := ⟨n - 1, by omega⟩
      obtain ⟨r, ws, h1, h2⟩ := ins i (by omega)
      refine ⟨r, ws, ?_, h2⟩
      rw [F83.L2.succ]
      rw [ite'_f (b := decide ((i : Int) < ((I1 zs).length : Int))) (by rw [I1_len]; exact lt_f (by omega))]
      rw [ite'_f (b := decide ((i : Int) < ((I1 zs).length : Int))) (by rw [I1_len]; exact lt_f (by omega))]
      exact h1
    | succ m ih =>
      intro i n hm hn
      obtain ⟨n, rfl⟩ : ∃ j, n = j + 1 := ⟨n - 1, by omega⟩
      have hi : i < zs.length := by omega
      have hx := List.getElem?_eq_getElem hi
      obtain ⟨r, ws, h1, h2⟩ := ins i (by omega)
      rw [F83.L2.succ]
      rw [ite'_t (b := decide ((i : Int) < ((I1 zs).length : Int))) (by rw [I1_len]; exact lt_t hi)]
      rw [ite'_t (b := inR (i : Int) (I1 zs).length) (by rw [I1_len]; exact inR_t hi)]
      rw [show cellI .i64 (I1 zs) (i : Int).toNat 0 = some zs[i] by rw [Int.toNat_natCast, cellI_at (I1_get' hx)]; rfl]
      simp only [bindI_s]
      by_cases hlt : zs[i] < v
      · rw [ite'_t (by simpa using hlt), next_i hi (m := zs.length) (by omega)]
        exact ih (i + 1) n (by omega) (by omega)
      · rw [ite'_f (b := decide (zs[i] < v)) (by simpa using hlt)]
        rw [ite'_t (b := decide ((i : Int) < ((I1 zs).length : Int))) (by rw [I1_len]; exact lt_t hi)]
        rw [ite'_t (b := inR (i : Int) (I1 zs).length) (by rw [I1_len]; exact inR_t hi)]
        by_cases heq : zs[i] = v
        · rw [ite'_t (b := zs[i] == v) (by simpa using heq)]
          refine ⟨_, zs, rfl, resL_d _ _, fun z => ⟨.inl, ?_⟩, by omega⟩
          rintro (h | h)
          · exact h
          · rw [h, ← heq]; exact List.getElem_mem hi
        · rw [ite'_f (b := zs[i] == v) (by simpa using heq)]
          exact ⟨r, ws, h1, h2⟩
  have := main zs.length 0 k (by omega) (by omega)
  exact this
/-- spec.Variables -/
theorem c57 (xs : List Atom) (hk : terms xs + xs.length < k) (hs : terms xs + xs.length ≤ 1048576) : ∃ vs, C (k + 2) 57 [.d (.list 2 (A1 xs))] = some [(false, [.d (.list 1 (I1 vs))])] ∧ (∀ z, z ∈ vs ↔ isVar xs z) ∧ vs.length ≤ terms xs := by
  rw [F57.run]
  have hmax : (1048576 : Nat) ≤ maxLen := by decide
  have inner : ∀ (i : Nat) (x : Atom), xs[i]? = some x → ∀ (m j n k3 : Nat) (acc : List Int), j + m = x.2.length → m < n → acc.length ≤ terms (xs.take i) + j → (∀ z, z ∈ acc ↔ isVar (xs.take i) z ∨ (0 ≤ z ∧ z ∈ x.2.take j)) →
      ∃ acc', F57.L6 (k + 1) (C (k + 1)) k3 n (A1 xs) (I1 acc) (i : Int) (j : Int) = F57.L3 (k + 1) (C (k + 1)) k3 (A1 xs) (I1 acc') ((i + 1 : Nat) : Int) ∧ acc'.length ≤ terms (xs.take (i + 1)) ∧ ∀ z, z ∈ acc' ↔ isVar (xs.take (i + 1)) z := by
    intro i x hx m
    have hi := (List.getElem?_eq_some_iff.1 hx).1
    have hta := terms_at hx
    have htl := terms_le xs (i + 1)
    have hcell : cellL 1 (A1 xs) ((i : Int)).toNat 1 = some (I1 x.2) := by rw [Int.toNat_natCast, cellL_at (A1_get hx)]; rfl
    have hin : inR (i : Int) (A1 xs).length = true := by rw [A1_len]; exact inR_t hi
    induction m with
    | zero =>
      intro j n k3 acc hm hn ha hmem
      obtain ⟨n, rfl⟩ : ∃ j, n = j + 1 := ⟨n - 1, by omega⟩
      obtain rfl : j = x.2.length := by omega
      refine ⟨acc, ?_, by omega, fun z => ?_⟩
      · rw [F57.L6.succ, ite'_t hin, hcell, bindL_s, I1_len, ite'_f (lt_f (by omega)), next_i hi (m := xs.length) (by omega)]
      · rw [hmem z, isVar_take hx, List.take_length]
    | succ m ih =>
      intro j n k3 acc hm hn ha hmem
      obtain ⟨n, rfl⟩ : ∃ j, n = j + 1 := ⟨n - 1, by omega⟩
      have hj : j < x.2.length := by omega
      have hz := List.getElem?_eq_getElem hj
      have hcz : cellI .i64 (I1 x.2) ((j : Int)).toNat 0 = some x.2[j] := by rw [Int.toNat_natCast, cellI_at (I1_get' hz)]; rfl
      have hinj : inR (j : Int) (I1 x.2).length = true := by rw [I1_len]; exact inR_t hj
      rw [F57.L6.succ, ite'_t hin, hcell, bindL_s, ite'_t (b := decide ((j : Int) < ((I1 x.2).length : Int))) (by rw [I1_len]; exact lt_t hj), ite'_t hin]
      simp only [bindL_s]
      rw [ite'_t hinj, hcz]
      simp only [bindI_s]
      rw [next_i hj (m := x.2.length) (by omega)]
      have htk : ∀ z, z ∈ x.2.take (j + 1) ↔ z ∈ x.2.take j ∨ z = x.2[j] := by
        intro z
        rw [List.take_succ_eq_append_getElem hj]
        simp only [List.mem_append, List.mem_singleton]
      by_cases h0 : 0 ≤ x.2[j]
      · obtain ⟨r, ws, e1, e2, e3, e4⟩ := c83 (k := k) acc x.2[j] (by omega) (by omega)
        rw [ite'_t (by simpa using h0), ite'_t hin, ite'_t hinj, e1]
        simp only [bindR_s]
        rw [e2, bindL_s]
        refine ih (j + 1) n k3 _ (by omega) (by omega) (by omega) (fun z => ?_)
        rw [e3 z, hmem z, htk z]
        constructor
        · rintro ((h | h) | h)
          · exact .inl h
          · exact .inr ⟨h.1, .inl h.2⟩
          · exact .inr ⟨h ▸ h0, .inr h⟩
        · rintro (h | ⟨h1, h | h⟩)
          · exact .inl (.inl h)
          · exact .inl (.inr ⟨h1, h⟩)
          · exact .inr h
      · rw [ite'_f (by simpa using h0)]
        refine ih (j + 1) n k3 _ (by omega) (by omega) (by omega) (fun z => ?_)
        rw [hmem z, htk z]
        constructor
        · rintro (h | h)
          · exact .inl h
          · exact .inr ⟨h.1, .inl h.2⟩
        · rintro (h | ⟨h1, h | h⟩)
          · exact .inl h
          · exact .inr ⟨h1, h⟩
          · exact absurd (h ▸ h1) h0
  have outer : ∀ (m i n : Nat) (acc : List Int), i + m = xs.length → m < n → acc.length ≤ terms (xs.take i) → (∀ z, z ∈ acc ↔ isVar (xs.take i) z) →
      ∃ vs, F57.L3 (k + 1) (C (k + 1)) n (A1 xs) (I1 acc) (i : Int) = some [(false, [.d (.list 1 (I1 vs))])] ∧ (∀ z, z ∈ vs ↔ isVar xs z) ∧ vs.length ≤ terms xs := by
    intro m
    induction m with
    | zero =>
      intro i n acc hm hn ha hmem
      obtain ⟨n, rfl⟩ : ∃ j, n = j + 1 := ⟨n - 1, by omega⟩
      obtain rfl : i = xs.length := by omega
      rw [List.take_length] at ha hmem
      exact ⟨acc, by rw [F57.L3.succ, A1_len, ite'_f (lt_f (by omega))], hmem, ha⟩
    | succ m ih =>
      intro i n acc hm hn ha hmem
      obtain ⟨n, rfl⟩ : ∃ j, n = j + 1 := ⟨n - 1, by omega⟩
      have hi : i < xs.length := by omega
      have hx := List.getElem?_eq_getElem hi
      have hta := terms_at hx
      have htl := terms_le xs (i + 1)
      rw [F57.L3.succ, A1_len, ite'_t (lt_t hi)]
      obtain ⟨acc', e, h1, h2⟩ := inner i _ hx (xs[i]).2.length 0 (k + 1) n acc (by omega) (by omega) (by omega) (fun z => by simp [hmem z])
      rw [show ((0 : Nat) : Int) = 0 from rfl] at e
      rw [e]
      exact ih (i + 1) n acc' (by omega) (by omega) h1 h2
  have := outer xs.length 0 (k + 1) [] (by omega) (by omega) (by simp) (fun z => by simp [isVar])
  exact this
end Go.Proofs.YtielkoncnddfdaaGreat.Q

/-! KJa -/
namespace Go.Proofs.YtielkoncnddfdaaGreat.Q
open Go Ovi
variable {k : Nat}
noncomputable def vB (xs : List Atom) (z : Int) : Bool := @decide (isVar xs z) (Classical.propDecidable _)
theorem vB_mem {xs : List Atom} {vs : List Int} (h : ∀ z, z ∈ vs ↔ isVar xs z) (z : Int) : decide (z ∈ vs) = vB xs z := by
  unfold vB
  rw [Bool.eq_iff_iff]
  simp [h z]
/-- what both IsValidAtom say -/
def Valid (a : Ovi.Rows) (xs : List Atom) (valid : Atom → Bool) : Prop := ∀ x ∈ xs, ∀ k, a.length < k → x.2.length < k → C (k + 5) 99 [.d (.list 3 a), .agg [.d (.int .i64 x.1), .d (.list 1 (I1 x.2))]] = bo (valid x) ∧ C (k + 5) 58 [.d (.list 3 a), .agg [.d (.int .i64 x.1), .d (.list 1 (I1 x.2))]] = bo (valid x)
theorem valid_ex {a : Ovi.Rows} (ha : Fit Rl (.list 3 a)) (xs : List Atom) (hx : ∀ x ∈ xs, x.2.length ≤ maxLen) : ∃ valid : Atom → Bool, (∀ x ∈ xs, valid x = true → (0 ≤ x.1 ∧ x.1 < (a.length : Int)) ∧ (x.2.length : Int) = ar a x.1 ∧ ∀ t ∈ x.2, -10 ≤ t ∧ t ≤ 4) ∧ Valid a xs valid := by
  have : ∀ x : Atom, ∃ b, x ∈ xs → (b = true → (0 ≤ x.1 ∧ x.1 < (a.length : Int)) ∧ (x.2.length : Int) = ar a x.1 ∧ ∀ t ∈ x.2, -10 ≤ t ∧ t ≤ 4) ∧ ∀ k, a.length < k → x.2.length < k → C (k + 5) 99 [.d (.list 3 a), .agg [.d (.int .i64 x.1), .d (.list 1 (I1 x.2))]] = bo b ∧ C (k + 5) 58 [.d (.list 3 a), .agg [.d (.int .i64 x.1), .d (.list 1 (I1 x.2))]] = bo b := by
    intro x
    by_cases h : x ∈ xs
    · obtain ⟨b, hb⟩ := atoms ha x (hx x h)
      exact ⟨b, fun _ => hb⟩
    · exact ⟨false, fun h' => absurd h' h⟩
  obtain ⟨valid, hv⟩ := Classical.axiomOfChoice this
  exact ⟨valid, fun x hx => (hv x hx).1, fun x hx => (hv x hx).2⟩
noncomputable def qOk (valid : Atom → Bool) (xs : List Atom) (out : List Int) : Bool := (decide ((1 : Int) ≤ (xs.length : Int) ∧ (xs.length : Int) ≤ 3) && xs.all valid) && (decide ((out.length : Int) ≤ 3) && out.all (vB xs))
theorem len_terms {xs : List Atom} {x : Atom} (h : x ∈ xs) : x.2.length ≤ terms xs := by
  induction xs with
  | nil => cases h
  | cons y ys ih =>
    have e : terms (y :: ys) = y.2.length + terms ys := by simp [terms]
    rw [e]
    rcases List.mem_cons.1 h with rfl | h
    · omega
    · have := ih h; omega
theorem any_not {α : Type} (l : List α) (p : α → Bool) : (!(l.any fun x => !p x)) = l.all p := by
  induction l with
  | nil => rfl
  | cons x l ih => rw [List.any_cons, List.all_cons, ← ih]; cases p x <;> simp
/-- impl.IsValidQuery -/
theorem c37 {a : Ovi.Rows} {xs : List Atom} {out : List Int} {valid : Atom → Bool} (hv : Valid a xs valid) (hk : 2000000 ≤ k) (ha : a.length ≤ 1048576) (hs : terms xs + xs.length ≤ 1048576) (ho : out.length ≤ 1048576) :
    C (k + 10) 37 [.d (.list 3 a), .agg [.d (.list 1 (I1 out)), .d (.list 2 (A1 xs))]] = bo (qOk valid xs out) := by
  have hmax : (1048576 : Nat) ≤ maxLen := by decide
  obtain ⟨vs, e, hm, hl⟩ := c65 (k := k + 8) xs (by omega) hs
  rw [F37.run, e]
  simp only [bindR_s, resO_s, bindL_s]
  have e68 : C (k + 9) 66 [.d (.list 3 a), .d (.list 2 (A1 xs)), .d (.int .i64 3)] = bo (decide ((1 : Int) ≤ (xs.length : Int) ∧ (xs.length : Int) ≤ 3) && xs.all valid) := by
    rw [F66.run, c96, bB, A1_len]
    cases decide ((1 : Int) ≤ (xs.length : Int) ∧ (xs.length : Int) ≤ 3) with
    | false => rfl
    | true =>
      rw [ite'_t rfl, c97 (k := k + 6) xs 98 [[.list 3 a]] (fun x => !valid x) (by omega) (by omega) (fun x hx => by
        have := len_terms hx
        rw [List.map_cons, List.map_nil, F98.run, (hv x hx k (by omega) (by omega)).1, bB]; rfl), bB]
      exact bo_eq (any_not xs valid)
  rw [e68, bB, I1_len]
  unfold qOk
  cases (decide ((1 : Int) ≤ (xs.length : Int) ∧ (xs.length : Int) ≤ 3) && xs.all valid) with
  | false => rfl
  | true =>
    rw [ite'_t rfl]
    by_cases h3 : (out.length : Int) ≤ 3
    · rw [ite'_t (by simpa using h3), c67 (k := k + 7) out 68 [[.list 1 (I1 vs)]] (fun z => !vB xs z) (by omega) (by omega) (fun z hz => by
        rw [List.map_cons, List.map_nil, F68.run, c69 (k := k + 4) vs z (by omega) (by omega), bB, vB_mem hm]; rfl), bB, decide_eq_true h3]
      exact bo_eq (any_not out (vB xs))
    · rw [ite'_f (by simpa using h3), decide_eq_false h3]
      rfl
/-- spec.IsValidQuery -/
theorem c33 {a : Ovi.Rows} {xs : List Atom} {out : List Int} {valid : Atom → Bool} (hv : Valid a xs valid) (hk : 2000000 ≤ k) (ha : a.length ≤ 1048576) (hs : terms xs + xs.length ≤ 1048576) (ho : out.length ≤ 1048576) :
    C (k + 10) 33 [.d (.list 3 a), .agg [.d (.list 1 (I1 out)), .d (.list 2 (A1 xs))]] = bo (qOk valid xs out) := by
  have hmax : (1048576 : Nat) ≤ maxLen := by decide
  obtain ⟨vs, e, hm, hl⟩ := c57 (k := k + 7) xs (by omega) hs
  rw [F33.run, e]
  simp only [bindR_s, resL_d, bindL_s]
  have l8 : F33.L8 (k + 9) (C (k + 9)) (k + 9) (I1 vs) 0 (I1 out) (A1 xs) = cond (out.any fun z => !vB xs z) (bo false) (bo (decide ((1 : Int) ≤ (xs.length : Int) ∧ (xs.length : Int) ≤ 3) && decide ((out.length : Int) ≤ 3))) :=
    loop_any (xs := out) (L := fun n i => F33.L8 (k + 9) (C (k + 9)) n (I1 vs) i (I1 out) (A1 xs)) (stop := fun z => !vB xs z)
      (fun n i z hz => by
        have hi := (List.getElem?_eq_some_iff.1 hz).1
        rw [F33.L8.succ, I1_len, ite'_t (lt_t hi), ite'_t (inR_t hi)]
        simp only [Int.toNat_natCast, cellI_at (I1_get' hz), List.getElem?_cons_zero, Option.bind_some, asI_s, bindI_s]
        rw [c59 (k := k + 8) vs z (by omega) (by omega), bB, vB_mem hm, next_i hi (m := out.length) (by omega)]; rfl)
      (fun n => by
        rw [F33.L8.succ, I1_len, ite'_f (lt_f (by omega)), c60, bB, A1_len]
        cases decide ((1 : Int) ≤ (xs.length : Int) ∧ (xs.length : Int) ≤ 3) <;> rfl) (k + 9) (by omega)
  have l3 : F33.L3 (k + 9) (C (k + 9)) (k + 9) a (I1 vs) 0 (I1 out) (A1 xs) = cond (xs.any fun x => !valid x) (bo false) (F33.L8 (k + 9) (C (k + 9)) (k + 9) (I1 vs) 0 (I1 out) (A1 xs)) :=
    loop_any (xs := xs) (L := fun n i => F33.L3 (k + 9) (C (k + 9)) n a (I1 vs) i (I1 out) (A1 xs)) (stop := fun x => !valid x)
      (fun n i x hx => by
        have hi := (List.getElem?_eq_some_iff.1 hx).1
        have := len_terms (List.mem_of_getElem? hx)
        rw [F33.L3.succ, A1_len, ite'_t (lt_t hi), ite'_t (inR_t hi)]
        simp only [Int.toNat_natCast, cellI_at (A1_get hx), cellL_at (A1_get hx), List.getElem?_cons_zero, List.getElem?_cons_succ, Option.bind_some, asI_s, asL_s, bindI_s, bindL_s]
        rw [(hv x (List.mem_of_getElem? hx) (k + 4) (by omega) (by omega)).2, bB, next_i hi (m := xs.length) (by omega)]; rfl)
      (fun n => by rw [F33.L3.succ, A1_len, ite'_f (lt_f (by omega))]) (k + 9) (by omega)
  rw [l3, l8]
  unfold qOk
  rw [← any_not xs valid, ← any_not out (vB xs)]
  cases (xs.any fun x => !valid x) <;> cases (out.any fun z => !vB xs z) <;> cases decide ((1 : Int) ≤ (xs.length : Int) ∧ (xs.length : Int) ≤ 3) <;> cases decide ((out.length : Int) ≤ 3) <;> rfl
def In1 : Ty := .list [.int .i64]
def At : Ty := .list [.int .i64, .list [.int .i64]]
theorem sz_atoms {xs : List Atom} : szD (.list 2 (A1 xs)) = xs.length + terms xs := by
  simp only [szD, A1_len, szR_A1]
  rfl
theorem sz_ints {zs : List Int} : szD (.list 1 (I1 zs)) = zs.length := by simp only [szD, I1_len, szR_I1, Nat.add_zero]
theorem sz_rels {a : Ovi.Rows} : a.length ≤ szD (.list 3 a) := by simp only [szD]; omega
end Go.Proofs.YtielkoncnddfdaaGreat.Q

/-! KHb -/
namespace Go.Proofs.YtielkoncnddfdaaGreat.Q
open Go Ovi
variable {k : Nat}
/-! ### values -/
def isN (v : Int) : Bool := decide (-40 ≤ v ∧ v ≤ -1)
def okV (v : Int) : Bool := decide (-40 ≤ v ∧ v ≤ 9)
def nn (v : Int) : Option Res := some [(false, [.d (.int .i64 (if isN v then -1 - v else 0))]), (false, [.d (.bool (isN v))])]
theorem nnB (v : Int) (f : Int → Bool → Option Res) : (bindR (nn v) fun r => bindI (resI .i64 2 false 1 r 0 0) fun n => bindB (resB 2 false 1 r 1 0) fun b => f n b) = f (if isN v then -1 - v else 0) (isN v) := rfl
theorem isN_t {v : Int} (h : isN v = true) : -40 ≤ v ∧ v ≤ -1 := of_decide_eq_true h
theorem isN_f {v : Int} (h : isN v = false) : ¬ (-40 ≤ v ∧ v ≤ -1) := of_decide_eq_false h
theorem wrapN {v : Int} (h : inI v) : IntKind.i64.wrap (-1 - v) = -1 - v := by unfold inI at h; exact wrap_id (by omega) (by omega)
/-- spec.NullNumber -/
theorem c110 {v : Int} (h : inI v) : C (k + 2) 110 [.d (.int .i64 v)] = nn v := by
  rw [F110.run]
  by_cases h0 : v ≥ 0
  · rw [ite'_t (by simpa using h0)]
    have : isN v = false := decide_eq_false (by omega)
    simp [nn, this]
  · rw [ite'_f (by simpa using h0), wrapN h, c60, bB]
    by_cases h1 : isN v = true
    · have := isN_t h1
      rw [decide_eq_true (by omega), ite'_nt]
      simp [nn, h1]
    · have h1 : isN v = false := by simpa using h1
      have := isN_f h1
      rw [decide_eq_false (by omega), ite'_nf]
      simp [nn, h1]
/-- impl.NullNumber -/
theorem c138 {v : Int} (h : inI v) : C (k + 2) 138 [.d (.int .i64 v)] = nn v := by
  rw [F138.run, wrapN h, c96, bB]
  by_cases h1 : isN v = true
  · have := isN_t h1
    rw [decide_eq_true (by omega), ite'_nt]
    simp [nn, h1]
  · have h1 : isN v = false := by simpa using h1
    have := isN_f h1
    rw [decide_eq_false (by omega), ite'_nf]
    simp [nn, h1]
/-- spec.IsValidValue -/
theorem c76 {v : Int} (h : inI v) : C (k + 3) 76 [.d (.int .i64 v)] = bo (okV v) := by
  rw [F76.run, c110 h, nnB]
  by_cases h1 : isN v = true
  · have := isN_t h1
    rw [ite'_t h1]
    exact bo_eq (b := true) (by rw [okV, decide_eq_true (by omega)])
  · have h1 : isN v = false := by simpa using h1
    have := isN_f h1
    rw [ite'_f h1, c60, bB]
    refine bo_eq ?_
    unfold okV
    rw [Bool.eq_iff_iff]
    simp only [decide_eq_true_eq]
    omega
/-- impl.IsValidValue -/
theorem c84 (v : Int) : C (k + 2) 84 [.d (.int .i64 v)] = bo (okV v) := by
  rw [F84.run, c96, bB]; rfl
/-- the numbers of the nulls among values -/
def nulls (zs : List Int) : List Int := Lib.compact (sortInts ((zs.filter isN).map fun v => -1 - v))
theorem nulls_ss (zs : List Int) : SS (nulls zs) := ss_compact _
theorem mem_nulls (zs : List Int) (n : Int) : n ∈ nulls zs ↔ ∃ v ∈ zs, isN v = true ∧ n = -1 - v := by
  unfold nulls
  rw [mem_compact, mem_sortInts]
  simp only [List.mem_map, List.mem_filter]
  constructor
  · rintro ⟨v, ⟨h1, h2⟩, rfl⟩; exact ⟨v, h1, h2, rfl⟩
  · rintro ⟨v, h1, h2, rfl⟩; exact ⟨v, ⟨h1, h2⟩, rfl⟩
theorem nulls_len (zs : List Int) : (nulls zs).length ≤ zs.length := by
  unfold nulls
  have h1 := compact_len (sortInts ((zs.filter isN).map fun v => -1 - v))
  have h2 : (sortInts ((zs.filter isN).map fun v => -1 - v)).length = (zs.filter isN).length := by simp [sortInts]
  have h3 := List.length_filter_le isN zs
  omega
/-- impl.nullsOf -/
theorem c119 (zs : List Int) (hI : ∀ z ∈ zs, inI z) (hk : zs.length < k) (hz : zs.length ≤ 1048576) : C (k + 3) 119 [.d (.list 1 (I1 zs))] = some [(false, [.row 3 1 (I1 (nulls zs))])] := by
  rw [F119.run, I1_len]
  have hmax : (1048576 : Nat) ≤ maxLen := by decide
  have main : ∀ (m i n : Nat), i + m = zs.length → m < n → F119.L3 (k + 2) (C (k + 2)) n (I1 zs) (zs.length : Int) (i : Int) (I1 (((zs.take i).filter isN).map fun v => -1 - v)) = some [(false, [.row 3 1 (I1 (nulls zs))])] := by
    intro m
    induction m with
    | zero =>
      intro i n hm hn
      obtain ⟨n, rfl⟩ : ∃ j, n = j + 1 := ⟨n - 1, by omega⟩
      obtain rfl : i = zs.length := by omega
      rw [List.take_length]
      have hf := List.length_filter_le isN zs
      generalize hacc : (zs.filter isN).map (fun v => -1 - v) = acc
      have hal : acc.length ≤ zs.length := by rw [← hacc]; simpa using hf
      have e1 : C (k + 2) 94 [.var 0 0, .d (.int .i64 3), .d (.list 1 (I1 acc))] = some [(false, [.row 3 1 (I1 (sortInts acc))])] := by
        show sortP _ = _
        unfold sortP rawArg
        simp only [ints_I1]
        rw [show Nat.ble acc.length 1099511627776 = true from Nat.ble_eq_true_of_le (by omega)]
        rfl
      have hsl : (sortInts acc).length = acc.length := by simp [sortInts]
      have e2 : C (k + 2) 95 [.var 0 0, .d (.int .i64 3), .d (.list 1 (I1 (sortInts acc)))] = some [(false, [.row 3 1 (I1 (Lib.compact (sortInts acc)))]), (true, [])] := by
        show compactP _ = _
        unfold compactP rawArg
        simp only [ints_I1]
        rw [show Nat.ble (sortInts acc).length 1099511627776 = true from Nat.ble_eq_true_of_le (by omega)]
        rfl
      rw [F119.L3.succ, ite'_f (lt_f (by omega)), e1]
      simp only [bindR_s, resO_s, bindL_s]
      rw [e2]
      unfold nulls
      rw [hacc]
      rfl
    | succ m ih =>
      intro i n hm hn
      obtain ⟨n, rfl⟩ : ∃ j, n = j + 1 := ⟨n - 1, by omega⟩
      have hi : i < zs.length := by omega
      have hx := List.getElem?_eq_getElem hi
      have hft := List.length_filter_le isN (zs.take i)
      rw [F119.L3.succ, I1_len, ite'_t (lt_t hi), ite'_t (inR_t hi)]
      simp only [Int.toNat_natCast, cellI_at (I1_get' hx), List.getElem?_cons_zero, Option.bind_some, asI_s, bindI_s]
      rw [c138 (hI _ (List.getElem_mem hi)), nnB, next_i hi (m := zs.length) (by omega)]
      have hstep : (zs.take (i + 1)).filter isN = (zs.take i).filter isN ++ (if isN zs[i] then [zs[i]] else []) := by
        rw [List.take_succ_eq_append_getElem hi, List.filter_append]
        cases h : isN zs[i] <;> simp [h]
      have := ih (i + 1) n (by omega) (by omega)
      rw [hstep] at this
      cases h : isN zs[i] with
      | true =>
        rw [ite'_t rfl, ite'_t (fits_t (by simp [I1_len] at hft ⊢; omega))]
        rw [h] at this
        simp only [if_true, List.map_append, List.map_cons, List.map_nil] at this ⊢
        rw [← this]
        simp [I1]
      | false =>
        rw [ite'_f rfl]
        rw [h] at this
        simpa using this
  exact main zs.length 0 (k + 2) (by omega) (by omega)
/-- spec.l4Put keeps the order -/
theorem c83s (zs : List Int) (v : Int) (hS : SS zs) (hk : zs.length < k) (hz : zs.length ≤ 1048576) : ∃ r ws, C (k + 1) 83 [.d (.list 1 (I1 zs)), .d (.int .i64 v)] = some r ∧ resL 1 1 false 1 r 0 0 = some (I1 ws) ∧ (∀ z, z ∈ ws ↔ z ∈ zs ∨ z = v) ∧ ws.length ≤ zs.length + 1 ∧ SS ws := by
  rw [F83.run]
  have hmax : (1048576 : Nat) ≤ maxLen := by decide
  have ins : ∀ i : Nat, i ≤ zs.length → (∀ (j : Nat) y, j < i → zs[j]? = some y → y < v) → (∀ y, zs[i]? = some y → v < y) → ∃ r ws, (ite' (inS (i : Int) ((I1 zs).length : Int) (I1 zs).length) (ite' (fits (([[D.int .i64 v]] : Ovi.Rows).length + ((I1 zs).drop (i : Int).toNat).length)) (ite' (inS (0 : Int) (i : Int) (I1 zs).length) (ite' (fits ((I1 zs).take (i : Int).toNat).length) (ite' (fits (((I1 zs).take (i : Int).toNat).length + List.length ([[D.int .i64 v]] ++ (I1 zs).drop (i : Int).toNat))) (some ([(false, [RL.row 3 1 ((I1 zs).take (i : Int).toNat ++ ([[D.int .i64 v]] ++ (I1 zs).drop (i : Int).toNat))])] : Res)) none) none) none) none) none) = some r ∧ resL 1 1 false 1 r 0 0 = some (I1 ws) ∧ (∀ z, z ∈ ws ↔ z ∈ zs ∨ z = v) ∧ ws.length ≤ zs.length + 1 ∧ SS ws := by
    intro i hi hlt hgt
    rw [I1_len, ite'_t (by simp [inS]; omega), ite'_t (fits_t (by simp [I1_len]; omega)), ite'_t (by simp [inS]; omega), ite'_t (fits_t (by simp [I1_len]; omega)), ite'_t (fits_t (by simp [I1_len]; omega))]
    refine ⟨_, zs.take i ++ v :: zs.drop i, rfl, ?_, fun z => ?_, by simp; omega, ?_⟩
    · rw [resL_s]
      simp [I1]
    · have : z ∈ zs ↔ z ∈ zs.take i ∨ z ∈ zs.drop i := by rw [← List.mem_append, List.take_append_drop]
      rw [this, List.mem_append, List.mem_cons]
      constructor
      · rintro (h | h | h)
        · exact .inl (.inl h)
        · exact .inr h
        · exact .inl (.inr h)
      · rintro ((h | h) | h)
        · exact .inl h
        · exact .inr (.inr h)
        · exact .inr (.inl h)
    · have hd : ∀ y ∈ zs.drop i, v < y := by
        intro y hy
        obtain ⟨j, hj⟩ := List.mem_iff_getElem?.1 hy
        rw [List.getElem?_drop] at hj
        have hil : i < zs.length := by have := (List.getElem?_eq_some_iff.1 hj).1; omega
        have h0 := hgt zs[i] (List.getElem?_eq_getElem hil)
        rcases Nat.eq_zero_or_pos j with rfl | hjp
        · rw [Nat.add_zero, List.getElem?_eq_getElem hil] at hj; cases hj; exact h0
        · obtain ⟨hjl, e⟩ := List.getElem?_eq_some_iff.1 hj
          have := List.pairwise_iff_getElem.1 hS i (i + j) hil hjl (by omega)
          omega
      have ht : ∀ y ∈ zs.take i, y < v := by
        intro y hy
        obtain ⟨j, hj⟩ := List.mem_iff_getElem?.1 hy
        obtain ⟨hjl, e⟩ := List.getElem?_eq_some_iff.1 hj
        simp only [List.length_take] at hjl
        rw [List.getElem?_take_of_lt (by omega)] at hj
        exact hlt j y (by omega) hj
      refine List.pairwise_append.2 ⟨hS.sublist (List.take_sublist _ _), List.pairwise_cons.2 ⟨hd, hS.sublist (List.drop_sublist _ _)⟩, fun x hx y hy => ?_⟩
      have := ht x hx
      rcases List.mem_cons.1 hy with rfl | hy
      · exact this
      · have := hd y hy; omega
  have main : ∀ (m i n : Nat), i + m = zs.length → m < n → (∀ (j : Nat) y, j < i → zs[j]? = some y → y < v) → ∃ r ws, F83.L2 k (C k) n (I1 zs) v (i : Int) = some r ∧ resL 1 1 false 1 r 0 0 = some (I1 ws) ∧ (∀ z, z ∈ ws ↔ z ∈ zs ∨ z = v) ∧ ws.length ≤ zs.length + 1 ∧ SS ws := by
    intro m
    induction m with
    | zero =>
      intro i n hm hn hlt
      obtain ⟨n, rfl⟩ : ∃ j, n = j + 1 := ⟨n - 1, by omega⟩
      obtain ⟨r, ws, h1, h2⟩ := ins i (by omega) hlt (fun y hy => by have := (List.getElem?_eq_some_iff.1 hy).1; omega)
      refine ⟨r, ws, ?_, h2⟩
      rw [F83.L2.succ]
      rw [ite'_f (b := decide ((i : Int) < ((I1 zs).length : Int))) (by rw [I1_len]; exact lt_f (by omega))]
      rw [ite'_f (b := decide ((i : Int) < ((I1 zs).length : Int))) (by rw [I1_len]; exact lt_f (by omega))]
      exact h1
    | succ m ih =>
      intro i n hm hn hlt0
      obtain ⟨n, rfl⟩ : ∃ j, n = j + 1 := ⟨n - 1, by omega⟩
      have hi : i < zs.length := by omega
      have hx := List.getElem?_eq_getElem hi
      rw [F83.L2.succ]
      rw [ite'_t (b := decide ((i : Int) < ((I1 zs).length : Int))) (by rw [I1_len]; exact lt_t hi)]
      rw [ite'_t (b := inR (i : Int) (I1 zs).length) (by rw [I1_len]; exact inR_t hi)]
      rw [show cellI .i64 (I1 zs) (i : Int).toNat 0 = some zs[i] by rw [Int.toNat_natCast, cellI_at (I1_get' hx)]; rfl]
      simp only [bindI_s]
      by_cases hlt : zs[i] < v
      · rw [ite'_t (by simpa using hlt), next_i hi (m := zs.length) (by omega)]
        refine ih (i + 1) n (by omega) (by omega) (fun j y hj hy => ?_)
        by_cases hji : j = i
        · subst hji; rw [hx] at hy; cases hy; exact hlt
        · exact hlt0 j y (by omega) hy
      · rw [ite'_f (b := decide (zs[i] < v)) (by simpa using hlt)]
        rw [ite'_t (b := decide ((i : Int) < ((I1 zs).length : Int))) (by rw [I1_len]; exact lt_t hi)]
        rw [ite'_t (b := inR (i : Int) (I1 zs).length) (by rw [I1_len]; exact inR_t hi)]
        by_cases heq : zs[i] = v
        · rw [ite'_t (b := zs[i] == v) (by simpa using heq)]
          refine ⟨_, zs, rfl, resL_d _ _, fun z => ⟨.inl, ?_⟩, by omega, hS⟩
          rintro (h | h)
          · exact h
          · rw [h, ← heq]; exact List.getElem_mem hi
        · rw [ite'_f (b := zs[i] == v) (by simpa using heq)]
          obtain ⟨r, ws, h1, h2⟩ := ins i (by omega) hlt0 (fun y hy => by rw [hx] at hy; cases hy; omega)
          exact ⟨r, ws, h1, h2⟩
  have := main zs.length 0 k (by omega) (by omega) (fun j y hj => by omega)
  exact this
/-- spec.NullsOfFact -/
theorem c81 (r : Int) (zs : List Int) (hI : ∀ z ∈ zs, inI z) (hk : zs.length < k) (hz : zs.length ≤ 1048576) : C (k + 3) 81 [.agg [.d (.int .i64 r), .d (.list 1 (I1 zs))]] = some [(false, [.d (.list 1 (I1 (nulls zs)))])] := by
  rw [F81.run]
  have hmax : (1048576 : Nat) ≤ maxLen := by decide
  have main : ∀ (m i n : Nat) (acc : List Int), i + m = zs.length → m < n → SS acc → acc.length ≤ i → (∀ z, z ∈ acc ↔ ∃ v ∈ zs.take i, isN v = true ∧ z = -1 - v) → F81.L3 (k + 2) (C (k + 2)) n (I1 acc) (i : Int) r (I1 zs) = some [(false, [.d (.list 1 (I1 (nulls zs)))])] := by
    intro m
    induction m with
    | zero =>
      intro i n acc hm hn hS hl hmem
      obtain ⟨n, rfl⟩ : ∃ j, n = j + 1 := ⟨n - 1, by omega⟩
      obtain rfl : i = zs.length := by omega
      rw [List.take_length] at hmem
      rw [F81.L3.succ, I1_len, ite'_f (lt_f (by omega)), ss_eq hS (nulls_ss zs) (fun z => by rw [hmem z, mem_nulls])]
    | succ m ih =>
      intro i n acc hm hn hS hl hmem
      obtain ⟨n, rfl⟩ : ∃ j, n = j + 1 := ⟨n - 1, by omega⟩
      have hi : i < zs.length := by omega
      have hx := List.getElem?_eq_getElem hi
      have htk : ∀ z, z ∈ zs.take (i + 1) ↔ z ∈ zs.take i ∨ z = zs[i] := by
        intro z
        rw [List.take_succ_eq_append_getElem hi]
        simp only [List.mem_append, List.mem_singleton]
      rw [F81.L3.succ, I1_len, ite'_t (lt_t hi), ite'_t (inR_t hi)]
      simp only [Int.toNat_natCast, cellI_at (I1_get' hx), List.getElem?_cons_zero, Option.bind_some, asI_s, bindI_s]
      rw [c110 (hI _ (List.getElem_mem hi)), nnB, next_i hi (m := zs.length) (by omega)]
      cases h : isN zs[i] with
      | true =>
        obtain ⟨r', ws, e1, e2, e3, e4, e5⟩ := c83s (k := k + 1) acc (-1 - zs[i]) hS (by omega) (by omega)
        rw [ite'_t rfl]
        simp only [if_true]
        rw [e1]
        simp only [bindR_s]
        rw [e2, bindL_s]
        refine ih (i + 1) n ws (by omega) (by omega) e5 (by omega) (fun z => ?_)
        rw [e3 z, hmem z]
        constructor
        · rintro (⟨v, h1, h2⟩ | h1)
          · exact ⟨v, (htk v).2 (.inl h1), h2⟩
          · exact ⟨zs[i], (htk _).2 (.inr rfl), h, h1⟩
        · rintro ⟨v, h1, h2⟩
          rcases (htk v).1 h1 with h1 | rfl
          · exact .inl ⟨v, h1, h2⟩
          · exact .inr h2.2
      | false =>
        rw [ite'_f rfl]
        refine ih (i + 1) n acc (by omega) (by omega) hS (by omega) (fun z => ?_)
        rw [hmem z]
        constructor
        · rintro ⟨v, h1, h2⟩
          exact ⟨v, (htk v).2 (.inl h1), h2⟩
        · rintro ⟨v, h1, h2⟩
          rcases (htk v).1 h1 with h1 | rfl
          · exact ⟨v, h1, h2⟩
          · rw [h] at h2; cases h2.1
  exact main zs.length 0 (k + 2) [] (by omega) (by omega) (by simp [SS]) (by simp) (fun z => by simp)
/-- impl.NullsOfFact -/
theorem c93 (r : Int) (zs : List Int) (hI : ∀ z ∈ zs, inI z) (hk : zs.length < k) (hz : zs.length ≤ 1048576) : C (k + 4) 93 [.agg [.d (.int .i64 r), .d (.list 1 (I1 zs))]] = some [(false, [.row 3 1 (I1 (nulls zs))])] := by
  rw [F93.run, c119 zs hI hk hz]
  rfl
end Go.Proofs.YtielkoncnddfdaaGreat.Q

/-! KIb -/
namespace Go.Proofs.YtielkoncnddfdaaGreat.Q
open Go Ovi
variable {k : Nat}
/-! ### the order of facts -/
def cmpI : List Int → List Int → Int
  | [], [] => 0
  | [], _ :: _ => -1
  | _ :: _, [] => 1
  | x :: xs, y :: ys => if x < y then -1 else if x > y then 1 else cmpI xs ys
def io (n : Int) : Option Res := some [(false, [.d (.int .i64 n)])]
theorem iB' (n : Int) (f : Int → Option Res) : (bindR (io n) fun r => bindI (resI .i64 1 false 1 r 0 0) f) = f n := rfl
/-- cmp.Compare -/
def cmp1 (x y : Int) : Int := if x < y then -1 else if x > y then 1 else 0
theorem c116 (x y : Int) : C (k + 2) 116 [.d (.int .i64 x), .d (.int .i64 y)] = io (cmp1 x y) := by
  rw [F116.run, F137.run, F137.run]
  simp only [bne_self_eq_false, bindR_s, resB_s, bindB_s]
  rw [ite'_f rfl, ite'_f rfl]
  unfold cmp1
  by_cases h : x < y
  · rw [ite'_t (by simpa using h), if_pos h]; rfl
  · rw [ite'_f (by simpa using h), if_neg h]
    by_cases h' : x > y
    · rw [ite'_t (by simpa using h'), if_pos h']; rfl
    · rw [ite'_f (by simpa using h'), if_neg h']; rfl
theorem cmpI_drop {a b : List Int} {i : Nat} (ha : i < a.length) (hb : i < b.length) : cmpI (a.drop i) (b.drop i) = if a[i] < b[i] then -1 else if a[i] > b[i] then 1 else cmpI (a.drop (i + 1)) (b.drop (i + 1)) := by
  rw [List.drop_eq_getElem_cons ha, List.drop_eq_getElem_cons hb]
  rfl
/-- slices.Compare on integers -/
theorem c108 (a b : List Int) (hk : a.length < k) (ha : a.length ≤ maxLen) : C (k + 3) 108 [.d (.list 1 (I1 a)), .d (.list 1 (I1 b))] = io (cmpI a b) := by
  rw [F108.run, I1_len]
  have main : ∀ (m i n : Nat), i + m = a.length → m < n → i ≤ b.length → F108.L2 (k + 2) (C (k + 2)) n (I1 a) (I1 b) (I1 a) (a.length : Int) (i : Int) = io (cmpI (a.drop i) (b.drop i)) := by
    intro m
    induction m with
    | zero =>
      intro i n hm hn hb
      obtain ⟨n, rfl⟩ : ∃ j, n = j + 1 := ⟨n - 1, by omega⟩
      obtain rfl : i = a.length := by omega
      rw [F108.L2.succ, ite'_f (lt_f (by omega)), I1_len, I1_len, List.drop_eq_nil_of_le (Nat.le_refl _)]
      by_cases h : a.length < b.length
      · rw [ite'_t (lt_t h), List.drop_eq_getElem_cons h]; rfl
      · rw [ite'_f (lt_f h), List.drop_eq_nil_of_le (by omega)]; rfl
    | succ m ih =>
      intro i n hm hn hb
      obtain ⟨n, rfl⟩ : ∃ j, n = j + 1 := ⟨n - 1, by omega⟩
      have hi : i < a.length := by omega
      have hx := List.getElem?_eq_getElem hi
      rw [F108.L2.succ, ite'_t (lt_t hi), I1_len, ite'_t (inR_t hi)]
      simp only [Int.toNat_natCast, cellI_at (I1_get' hx), List.getElem?_cons_zero, Option.bind_some, asI_s, bindI_s]
      rw [I1_len]
      by_cases h : i < b.length
      · have hy := List.getElem?_eq_getElem h
        rw [ite'_f (b := decide ((i : Int) ≥ (b.length : Int))) (by simp; omega), ite'_t (inR_t h)]
        simp only [cellI_at (I1_get' hy), List.getElem?_cons_zero, Option.bind_some, asI_s, bindI_s]
        rw [c116, iB', cmpI_drop hi h, next_i hi ha, ih (i + 1) n (by omega) (by omega) (by omega)]
        unfold cmp1
        by_cases h1 : a[i] < b[i]
        · rw [if_pos h1, if_pos h1]; rfl
        · rw [if_neg h1, if_neg h1]
          by_cases h2 : a[i] > b[i]
          · rw [if_pos h2, if_pos h2]; rfl
          · rw [if_neg h2, if_neg h2]; rfl
      · rw [ite'_t (b := decide ((i : Int) ≥ (b.length : Int))) (by simp; omega), List.drop_eq_getElem_cons hi, show b.drop i = [] from List.drop_eq_nil_of_le (by omega)]
        rfl
  exact main a.length 0 (k + 2) (by omega) (by omega) (by omega)
/-- spec.l4Ints -/
theorem c24 (a b : List Int) (hk : a.length < k) (ha : a.length ≤ maxLen) : C (k + 1) 24 [.d (.list 1 (I1 a)), .d (.list 1 (I1 b))] = io (cmpI a b) := by
  rw [F24.run]
  have fin : ∀ (i n : Nat), i ≤ a.length → i ≤ b.length → (¬ i < a.length ∨ ¬ i < b.length) → F24.L2 k (C k) (n + 1) (I1 a) (I1 b) (i : Int) = io (cmpI (a.drop i) (b.drop i)) := by
    intro i n h1 h2 h3
    have e : F24.L2 k (C k) (n + 1) (I1 a) (I1 b) (i : Int) = ite' (decide ((a.length : Int) < (b.length : Int))) (io (-1)) (ite' (decide ((a.length : Int) > (b.length : Int))) (io 1) (io 0)) := by
      rw [F24.L2.succ, I1_len, I1_len]
      by_cases hi : i < a.length
      · rw [ite'_t (lt_t hi), ite'_f (lt_f (by omega))]; rfl
      · rw [ite'_f (lt_f hi)]; rfl
    rw [e]
    rcases Nat.lt_trichotomy a.length b.length with h | h | h
    · obtain rfl : i = a.length := by omega
      rw [ite'_t (by simp; omega), List.drop_eq_nil_of_le (Nat.le_refl _), List.drop_eq_getElem_cons h]
      rfl
    · rw [ite'_f (by simp; omega), ite'_f (by simp; omega), List.drop_eq_nil_of_le (by omega), List.drop_eq_nil_of_le (by omega)]
      rfl
    · obtain rfl : i = b.length := by omega
      rw [ite'_f (by simp; omega), ite'_t (by simp; omega), List.drop_eq_nil_of_le (Nat.le_refl _), List.drop_eq_getElem_cons h]
      rfl
  have main : ∀ (m i n : Nat), i + m = a.length → m < n → i ≤ b.length → F24.L2 k (C k) n (I1 a) (I1 b) (i : Int) = io (cmpI (a.drop i) (b.drop i)) := by
    intro m
    induction m with
    | zero =>
      intro i n hm hn hb
      obtain ⟨n, rfl⟩ : ∃ j, n = j + 1 := ⟨n - 1, by omega⟩
      exact fin i n (by omega) hb (by omega)
    | succ m ih =>
      intro i n hm hn hb
      obtain ⟨n, rfl⟩ : ∃ j, n = j + 1 := ⟨n - 1, by omega⟩
      by_cases h : i < b.length
      · have hi : i < a.length := by omega
        have hx := List.getElem?_eq_getElem hi
        have hy := List.getElem?_eq_getElem h
        rw [F24.L2.succ, I1_len, I1_len, ite'_t (lt_t hi), ite'_t (lt_t h), ite'_t (inR_t hi)]
        simp only [Int.toNat_natCast, cellI_at (I1_get' hx), cellI_at (I1_get' hy), List.getElem?_cons_zero, Option.bind_some, asI_s, bindI_s]
        rw [ite'_t (inR_t h), ite'_t (inR_t hi), ite'_t (inR_t h), next_i hi ha, ih (i + 1) n (by omega) (by omega) (by omega), cmpI_drop hi h]
        by_cases h1 : a[i] < b[i]
        · rw [ite'_t (by simpa using h1), if_pos h1]; rfl
        · rw [ite'_f (by simpa using h1), if_neg h1]
          by_cases h2 : a[i] > b[i]
          · rw [ite'_t (by simpa using h2), if_pos h2]; rfl
          · rw [ite'_f (by simpa using h2), if_neg h2]
      · exact fin i n (by omega) hb (by omega)
  exact main a.length 0 k (by omega) hk (by omega)
def cmpF (x y : Atom) : Int := if x.1 < y.1 then -1 else if x.1 > y.1 then 1 else cmpI x.2 y.2
/-- spec.CompareFacts -/
theorem c78 (x y : Atom) (hk : x.2.length < k) (ha : x.2.length ≤ maxLen) : C (k + 2) 78 [.agg [.d (.int .i64 x.1), .d (.list 1 (I1 x.2))], .agg [.d (.int .i64 y.1), .d (.list 1 (I1 y.2))]] = io (cmpF x y) := by
  rw [F78.run, c24 x.2 y.2 hk ha, iB']
  unfold cmpF
  by_cases h1 : x.1 < y.1
  · rw [ite'_t (by simpa using h1), if_pos h1]; rfl
  · rw [ite'_f (by simpa using h1), if_neg h1]
    by_cases h2 : x.1 > y.1
    · rw [ite'_t (by simpa using h2), if_pos h2]; rfl
    · rw [ite'_f (by simpa using h2), if_neg h2]; rfl
/-- cmp.Or of two -/
theorem c115 (x y : Int) : C (k + 4) 115 [.d (.list 1 [[.int .i64 x], [.int .i64 y]])] = io (if x = 0 then y else x) := by
  rw [F115.run]
  have s0 : ∀ n, F115.L3 (k + 3) (C (k + 3)) (n + 1) 0 [[.int .i64 x], [.int .i64 y]] 2 0 = ite' (x != 0) (io x) (F115.L3 (k + 3) (C (k + 3)) n 0 [[.int .i64 x], [.int .i64 y]] 2 1) := fun n => by rw [F115.L3.succ]; rfl
  have s1 : ∀ n, F115.L3 (k + 3) (C (k + 3)) (n + 1) 0 [[.int .i64 x], [.int .i64 y]] 2 1 = ite' (y != 0) (io y) (F115.L3 (k + 3) (C (k + 3)) n 0 [[.int .i64 x], [.int .i64 y]] 2 2) := fun n => by rw [F115.L3.succ]; rfl
  have s2 : ∀ n, F115.L3 (k + 3) (C (k + 3)) (n + 1) 0 [[.int .i64 x], [.int .i64 y]] 2 2 = io 0 := fun n => by rw [F115.L3.succ]; rfl
  show F115.L3 (k + 3) (C (k + 3)) (k + 2 + 1) 0 [[.int .i64 x], [.int .i64 y]] 2 0 = _
  rw [s0, s1, s2]
  by_cases h : x = 0
  · rw [if_pos h, ite'_f (by simpa using h)]
    by_cases h' : y = 0
    · rw [ite'_f (by simpa using h'), h']
    · rw [ite'_t (by simpa using h')]
  · rw [if_neg h, ite'_t (by simpa using h)]
/-- impl.CompareFacts -/
theorem c88 (x y : Atom) (hk : x.2.length < k) (ha : x.2.length ≤ maxLen) : C (k + 5) 88 [.agg [.d (.int .i64 x.1), .d (.list 1 (I1 x.2))], .agg [.d (.int .i64 y.1), .d (.list 1 (I1 y.2))]] = io (cmpF x y) := by
  rw [F88.run, c116, iB', c108 (k := k + 1) x.2 y.2 (by omega) ha, iB', c115, iB']
  unfold cmpF cmp1
  by_cases h1 : x.1 < y.1
  · rw [if_pos h1, if_pos h1]; rfl
  · rw [if_neg h1, if_neg h1]
    by_cases h2 : x.1 > y.1
    · rw [if_pos h2, if_pos h2]; rfl
    · rw [if_neg h2, if_neg h2]; rfl
/-! ### valid facts -/
def FactB (a : Ovi.Rows) (x : Atom) (b : Bool) : Prop := (b = true → (0 ≤ x.1 ∧ x.1 < (a.length : Int)) ∧ (x.2.length : Int) = ar a x.1) ∧ ∀ k, a.length < k → x.2.length < k → C (k + 6) 92 [.d (.list 3 a), .agg [.d (.int .i64 x.1), .d (.list 1 (I1 x.2))]] = bo b ∧ C (k + 6) 80 [.d (.list 3 a), .agg [.d (.int .i64 x.1), .d (.list 1 (I1 x.2))]] = bo b
theorem factB {a : Ovi.Rows} (ha : Fit Rl (.list 3 a)) (x : Atom) (hI : ∀ z ∈ x.2, inI z) (hx2 : x.2.length ≤ maxLen) : ∃ b, FactB a x b := by
  have hlen := ha.len
  unfold maxLen at hlen
  obtain ⟨b, hb⟩ := rels ha
  have e : ∀ k, a.length < k → C (k + 5) 91 [.d (.list 3 a)] = bo b ∧ C (k + 5) 82 [.d (.list 3 a)] = bo b := fun k hk => hb (k + 2) (by omega)
  cases b with
  | false =>
    refine ⟨false, fun h => (by cases h), fun k hk hx => ?_⟩
    rw [F92.run, F80.run, (e k hk).1, (e k hk).2, bB, bB]
    exact ⟨rfl, rfl⟩
  | true =>
    by_cases hr : 0 ≤ x.1 ∧ x.1 ≤ (a.length : Int) - 1
    · obtain ⟨i, hi⟩ : ∃ i : Nat, x.1 = i := ⟨x.1.toNat, by omega⟩
      have hia : i < a.length := by omega
      obtain ⟨row, hrow, hfr, _⟩ := ha.row hia
      obtain ⟨d0, r0, rfl, f0, h1⟩ := Fits.cons hfr
      obtain ⟨d1, r1, rfl, f1, h1⟩ := Fits.cons h1
      obtain ⟨n, rfl, _⟩ := f1.int
      have hcn : cellI .i64 a ((i : Int)).toNat 1 = some n := by rw [Int.toNat_natCast, cellI_at hrow]; simp [asI_s]
      by_cases hn : ((I1 x.2).length : Int) = n
      · refine ⟨!(x.2.any fun t => !okV t), fun _ => ⟨by omega, by unfold ar; rw [hi, hcn]; rw [I1_len] at hn; exact hn⟩, fun k hk hx => ?_⟩
        rw [F92.run, F80.run, (e k hk).1, (e k hk).2, bB, bB, ite'_nt, ite'_nt, c96, c60, bB, bB, wrap_id (by omega) (by omega), decide_eq_true hr, ite'_nt, ite'_nt, hi, ite'_t (inR_t hia), ite'_t (inR_t hia), hcn]
        simp only [bindI_s]
        rw [ite'_f (by simpa using hn), ite'_f (b := ((I1 x.2).length : Int) != n) (by simpa using hn)]
        have e69 := c67 (k := k + 3) x.2 118 [] (fun t => !okV t) (by omega) hx2 (fun z _ => by
          rw [List.map_nil, F118.run, c84, bB]; rfl)
        rw [e69, bB]
        refine ⟨rfl, ?_⟩
        have := loop_any (xs := x.2) (L := fun m j => F80.L4 (k + 5) (C (k + 5)) m j (i : Int) (I1 x.2)) (stop := fun t => !okV t) (hit := bo false) (fin := bo true)
          (fun m j t ht => by
            have hj := (List.getElem?_eq_some_iff.1 ht).1
            rw [F80.L4.succ, I1_len, ite'_t (lt_t hj), ite'_t (inR_t hj)]
            simp only [Int.toNat_natCast, cellI_at (I1_get' ht), List.getElem?_cons_zero, Option.bind_some, asI_s, bindI_s]
            rw [c76 (hI t (List.mem_of_getElem? ht)), bB, next_i hj hx2]; rfl)
          (fun m => by rw [F80.L4.succ, I1_len, ite'_f (lt_f (by omega))]; rfl) (k + 5) (by omega)
        rw [show F80.L4 (k + 5) (C (k + 5)) (k + 5) 0 (i : Int) (I1 x.2) = _ from this]
        cases x.2.any (fun t => !okV t) <;> rfl
      · refine ⟨false, fun h => (by cases h), fun k hk hx => ?_⟩
        rw [F92.run, F80.run, (e k hk).1, (e k hk).2, bB, bB, ite'_nt, ite'_nt, c96, c60, bB, bB, wrap_id (by omega) (by omega), decide_eq_true hr, ite'_nt, ite'_nt, hi, ite'_t (inR_t hia), ite'_t (inR_t hia), hcn]
        simp only [bindI_s]
        rw [ite'_t (by simpa using hn), ite'_t (b := ((I1 x.2).length : Int) != n) (by simpa using hn)]
        exact ⟨rfl, rfl⟩
    · refine ⟨false, fun h => (by cases h), fun k hk hx => ?_⟩
      rw [F92.run, F80.run, (e k hk).1, (e k hk).2, bB, bB, ite'_nt, ite'_nt, c96, c60, bB, bB, wrap_id (by omega) (by omega), decide_eq_false hr]
      exact ⟨rfl, rfl⟩
def src (a : Ovi.Rows) (x : Atom) : Bool := match a[x.1.toNat]? with
  | some [_, _, .bool b] => b
  | _ => false
theorem src_cell {a : Ovi.Rows} (ha : Fit Rl (.list 3 a)) {x : Atom} (h : 0 ≤ x.1 ∧ x.1 < (a.length : Int)) : inR x.1 a.length = true ∧ cellB a x.1.toNat 2 = some (src a x) := by
  obtain ⟨i, hi⟩ : ∃ i : Nat, x.1 = i := ⟨x.1.toNat, by omega⟩
  have hia : i < a.length := by omega
  obtain ⟨row, hrow, hfr, _⟩ := ha.row hia
  obtain ⟨d0, r0, rfl, f0, h1⟩ := Fits.cons hfr
  obtain ⟨d1, r1, rfl, f1, h1⟩ := Fits.cons h1
  obtain ⟨d2, r2, rfl, f2, h1⟩ := Fits.cons h1
  obtain rfl := Fits.nil h1
  obtain ⟨b, rfl⟩ := f2.bool
  rw [hi]
  refine ⟨inR_t hia, ?_⟩
  rw [Int.toNat_natCast, cellB_at hrow]
  unfold src
  rw [hi, Int.toNat_natCast, hrow]
  rfl
/-- both IsValidInstance answer alike -/
theorem instB {a : Ovi.Rows} (ha : Fit Rl (.list 3 a)) (xs : List Atom) (hI : ∀ x ∈ xs, ∀ z ∈ x.2, inI z) (hs : terms xs + xs.length ≤ 1048576) (hal : a.length ≤ 1048576) : ∃ b, (b = true → xs.length ≤ 30 ∧ ∀ x ∈ xs, (0 ≤ x.1 ∧ x.1 < (a.length : Int)) ∧ (x.2.length : Int) = ar a x.1) ∧ ∀ k, 2000000 ≤ k → C (k + 8) 64 [.agg [.d (.list 3 a), .d (.list 2 (A1 xs))]] = bo b ∧ C (k + 8) 55 [.agg [.d (.list 3 a), .d (.list 2 (A1 xs))]] = bo b := by
  have hmax : (1048576 : Nat) ≤ maxLen := by decide
  have hl : ∀ x ∈ xs, x.2.length ≤ 1048576 := fun x hx => by have := len_terms hx; omega
  obtain ⟨vf, hvf⟩ : ∃ vf : Atom → Bool, ∀ x ∈ xs, FactB a x (vf x) := by
    have : ∀ x : Atom, ∃ b, x ∈ xs → FactB a x b := by
      intro x
      by_cases h : x ∈ xs
      · obtain ⟨b, hb⟩ := factB ha x (hI x h) (by have := hl x h; omega)
        exact ⟨b, fun _ => hb⟩
      · exact ⟨false, fun h' => absurd h' h⟩
    obtain ⟨vf, hv⟩ := Classical.axiomOfChoice this
    exact ⟨vf, fun x hx => hv x hx⟩
  obtain ⟨rb, hrb⟩ := rels ha
  let bad : Nat → Atom → Bool := fun i x => !vf x || ((decide (i > 0) && decide (cmpF (xs.getD (i - 1) x) x ≥ 0)) || (src a x && decide ((nulls x.2).length > 0)))
  have key : ∃ st : Bool, (st = false → ∀ x ∈ xs, vf x = true) ∧ ∀ k, 2000000 ≤ k → F64.L4 (k + 7) (C (k + 7)) (k + 7) (A1 xs) (xs.length : Int) 0 a (A1 xs) = bo (!st) ∧ F55.L2 (k + 7) (C (k + 7)) (k + 7) 0 a (A1 xs) = cond st (bo false) (bo (rb && decide ((xs.length : Int) ≤ 30))) := by
    have s78 : ∀ k, 2000000 ≤ k → ∀ (n i : Nat) x, xs[i]? = some x → F64.L4 (k + 7) (C (k + 7)) (n + 1) (A1 xs) (xs.length : Int) (i : Int) a (A1 xs) = cond (bad i x) (bo false) (F64.L4 (k + 7) (C (k + 7)) n (A1 xs) (xs.length : Int) ((i + 1 : Nat) : Int) a (A1 xs)) ∧
        F55.L2 (k + 7) (C (k + 7)) (n + 1) (i : Int) a (A1 xs) = cond (bad i x) (bo false) (F55.L2 (k + 7) (C (k + 7)) n ((i + 1 : Nat) : Int) a (A1 xs)) := by
      intro k hk n i x hx
      have hi := (List.getElem?_eq_some_iff.1 hx).1
      have hxm := List.mem_of_getElem? hx
      have hxl := hl x hxm
      obtain ⟨hv1, hv2⟩ := hvf x hxm
      obtain ⟨e1, e2⟩ := hv2 (k + 1) (by omega) (by omega)
      have hc0 : cellI .i64 (A1 xs) (i : Int).toNat 0 = some x.1 := by rw [Int.toNat_natCast, cellI_at (A1_get hx)]; simp [asI_s]
      have hc1 : cellL 1 (A1 xs) (i : Int).toNat 1 = some (I1 x.2) := by rw [Int.toNat_natCast, cellL_at (A1_get hx)]; simp [asL_s]
      rw [F64.L4.succ, F55.L2.succ, A1_len, ite'_t (lt_t hi), ite'_t (inR_t hi), ite'_t (lt_t hi), ite'_t (inR_t hi), hc0, hc1]
      simp only [bindI_s, bindL_s]
      rw [e1, e2, bB, bB, next_i hi (m := xs.length) (by omega)]
      cases hvx : vf x with
      | false =>
        have hb : bad i x = true := by simp [bad, hvx]
        rw [hb]
        exact ⟨rfl, rfl⟩
      | true =>
        obtain ⟨g1, g2⟩ := src_cell ha (hv1 hvx).1
        have tail : ∀ (X Y : Option Res) (nu : Bool), nu = decide ((nulls x.2).length > 0) → True := fun _ _ _ _ => trivial
        have n126 := c93 (k := k + 3) x.1 x.2 (hI x hxm) (by omega) hxl
        have n75 := c81 (k := k + 4) x.1 x.2 (hI x hxm) (by omega) hxl
        rw [ite'_nt, ite'_nt, g1, g2, n126, n75]
        simp only [bindB_s, bindR_s, resO_s, resL_d, bindL_s, I1_len]
        have hnu : decide (((nulls x.2).length : Int) > 0) = decide ((nulls x.2).length > 0) := by
          rw [Bool.eq_iff_iff]; simp only [decide_eq_true_eq]; omega
        rw [hnu]
        by_cases h0 : i = 0
        · subst h0
          have hb : bad 0 x = (src a x && decide ((nulls x.2).length > 0)) := by simp [bad, hvx]
          rw [hb]
          cases src a x <;> cases decide ((nulls x.2).length > 0) <;> exact ⟨rfl, rfl⟩
        · have hw : IntKind.i64.wrap ((i : Int) - 1) = ((i - 1 : Nat) : Int) := by rw [wrap_id (by omega) (by omega)]; omega
          have hy : xs[i - 1]? = some xs[i - 1] := List.getElem?_eq_getElem (by omega)
          have hyl := hl _ (List.mem_of_getElem? hy)
          have hd0 : cellI .i64 (A1 xs) ((i - 1 : Nat) : Int).toNat 0 = some (xs[i - 1]).1 := by rw [Int.toNat_natCast, cellI_at (A1_get hy)]; simp [asI_s]
          have hd1 : cellL 1 (A1 xs) ((i - 1 : Nat) : Int).toNat 1 = some (I1 (xs[i - 1]).2) := by rw [Int.toNat_natCast, cellL_at (A1_get hy)]; simp [asL_s]
          have hgt : decide ((i : Int) > 0) = true := by simp; omega
          rw [hgt, hw, hd0, hd1]
          simp only [bindI_s, bindL_s]
          rw [c88 (k := k + 2) xs[i - 1] x (by omega) (by omega), c78 (k := k + 5) xs[i - 1] x (by omega) (by omega), iB', iB', inR_t (i := i - 1) (by omega)]
          have hb : bad i x = (decide (cmpF xs[i - 1] x ≥ 0) || (src a x && decide ((nulls x.2).length > 0))) := by
            simp [bad, hvx, List.getD_eq_getElem?_getD, hy, show i > 0 by omega]
          rw [hb]
          cases decide (cmpF xs[i - 1] x ≥ 0) <;> cases src a x <;> cases decide ((nulls x.2).length > 0) <;> exact ⟨rfl, rfl⟩
    have d78 : ∀ k n, F64.L4 (k + 7) (C (k + 7)) (n + 1) (A1 xs) (xs.length : Int) (xs.length : Int) a (A1 xs) = bo true := fun k n => by rw [F64.L4.succ, ite'_f (lt_f (by omega))]; rfl
    have d74 : ∀ k, 2000000 ≤ k → ∀ n, F55.L2 (k + 7) (C (k + 7)) (n + 1) (xs.length : Int) a (A1 xs) = bo (rb && decide ((xs.length : Int) ≤ 30)) := fun k hk n => by
      rw [F55.L2.succ, A1_len, ite'_f (lt_f (by omega)), (hrb (k + 4) (by omega)).2, bB]
      cases rb <;> rfl
    by_cases hall : ∀ (i : Nat) x, xs[i]? = some x → bad i x = false
    · refine ⟨false, fun _ x hx => ?_, fun k hk => ?_⟩
      · obtain ⟨i, hi⟩ := List.mem_iff_getElem?.1 hx
        have := hall i x hi
        simp only [bad, Bool.or_eq_false_iff, Bool.not_eq_false'] at this
        exact this.1
      · constructor
        · rcases loop_find (L := fun n i => F64.L4 (k + 7) (C (k + 7)) n (A1 xs) (xs.length : Int) i a (A1 xs)) (stop := bad) (hit := fun _ => bo false) (fin := bo true) (fun n i x hx => (s78 k hk n i x hx).1) (d78 k) (k + 7) (by omega) with ⟨i, x, hx, hst, _⟩ | ⟨_, h⟩
          · rw [hall i x hx] at hst; cases hst
          · exact h
        · rcases loop_find (L := fun n i => F55.L2 (k + 7) (C (k + 7)) n i a (A1 xs)) (stop := bad) (hit := fun _ => bo false) (fun n i x hx => (s78 k hk n i x hx).2) (d74 k hk) (k + 7) (by omega) with ⟨i, x, hx, hst, _⟩ | ⟨_, h⟩
          · rw [hall i x hx] at hst; cases hst
          · exact h
    · refine ⟨true, ⟨fun h => (by cases h), fun k hk => ?_⟩⟩
      constructor
      · rcases loop_find (L := fun n i => F64.L4 (k + 7) (C (k + 7)) n (A1 xs) (xs.length : Int) i a (A1 xs)) (stop := bad) (hit := fun _ => bo false) (fin := bo true) (fun n i x hx => (s78 k hk n i x hx).1) (d78 k) (k + 7) (by omega) with ⟨i, x, hx, hst, h⟩ | ⟨h, _⟩
        · exact h
        · exact absurd h hall
      · rcases loop_find (L := fun n i => F55.L2 (k + 7) (C (k + 7)) n i a (A1 xs)) (stop := bad) (hit := fun _ => bo false) (fun n i x hx => (s78 k hk n i x hx).2) (d74 k hk) (k + 7) (by omega) with ⟨i, x, hx, hst, h⟩ | ⟨h, _⟩
        · exact h
        · exact absurd h hall
  obtain ⟨st, hst, hk2⟩ := key
  refine ⟨rb && (decide ((xs.length : Int) ≤ 30) && !st), fun h => ?_, fun k hk => ?_⟩
  · simp only [Bool.and_eq_true, decide_eq_true_eq, Bool.not_eq_true'] at h
    exact ⟨by omega, fun x hx => (hvf x hx).1 (hst h.2.2 x hx)⟩
  · obtain ⟨e1, e2⟩ := hk2 k hk
    constructor
    · rw [F64.run, (hrb (k + 4) (by omega)).1, bB, A1_len, e1]
      cases rb with
      | false => rfl
      | true =>
        rw [ite'_nt]
        by_cases h30 : (xs.length : Int) ≤ 30
        · rw [ite'_f (by simp; omega), decide_eq_true h30]; rfl
        · rw [ite'_t (by simp; omega), decide_eq_false h30]; rfl
    · rw [F55.run, e2]
      cases st <;> cases rb <;> cases decide ((xs.length : Int) ≤ 30) <;> rfl
/-! ### the nulls of an instance -/
def vals (xs : List Atom) : List Int := xs.flatMap fun x => x.2
theorem vals_len (xs : List Atom) : (vals xs).length = terms xs := by simp [vals, terms, List.length_flatMap]
theorem vals_I {xs : List Atom} (hI : ∀ x ∈ xs, ∀ z ∈ x.2, inI z) : ∀ z ∈ vals xs, inI z := by
  intro z hz
  obtain ⟨x, hx, h⟩ := List.mem_flatMap.1 hz
  exact hI x hx z h
end Go.Proofs.YtielkoncnddfdaaGreat.Q

/-! KLa -/
namespace Go.Proofs.YtielkoncnddfdaaGreat.Q
open Go Ovi
variable {k : Nat}
/-! ### matches -/
theorem I1_c {zs : List Int} {i : Nat} {z : Int} (h : zs[i]? = some z) : cellI .i64 (I1 zs) (i : Int).toNat 0 = some z := by rw [Int.toNat_natCast, cellI_at (I1_get' h)]; simp [asI_s]
theorem rowsSet_I1 {M : List Int} {i : Nat} (z : Int) (h : i < M.length) : rowsSet (I1 M) i 0 [.int .i64 z] = I1 (M.set i z) := by
  have : (I1 M).getD i [] = [.int .i64 M[i]] := by simp [I1, List.getD, h]
  unfold rowsSet
  rw [this]
  simp [I1, List.map_set]
theorem LL_get' {l : BL} {i : Nat} {zs : List Int} (h : l[i]? = some zs) : (LL l)[i]? = some [.list 1 (I1 zs)] := by simp [LL, h]
theorem LL_c {l : BL} {i : Nat} {zs : List Int} (h : l[i]? = some zs) : cellL 1 (LL l) (i : Int).toNat 0 = some (I1 zs) := by rw [Int.toNat_natCast, cellL_at (LL_get' h)]; simp [asL_s]
theorem LL_snoc (l : BL) (b : List Int) : LL l ++ [[D.list 1 (I1 b)]] = LL (l ++ [b]) := by simp [LL]
theorem LL_app (l l' : BL) : LL l ++ LL l' = LL (l ++ l') := by simp [LL]
theorem I1_snoc (l : List Int) (z : Int) : I1 l ++ [[D.int .i64 z]] = I1 (l ++ [z]) := by simp [I1]
theorem A1_c0 {xs : List Atom} {i : Nat} {x : Atom} (h : xs[i]? = some x) : cellI .i64 (A1 xs) (i : Int).toNat 0 = some x.1 := by rw [Int.toNat_natCast, cellI_at (A1_get h)]; simp [asI_s]
theorem A1_c1 {xs : List Atom} {i : Nat} {x : Atom} (h : xs[i]? = some x) : cellL 1 (A1 xs) (i : Int).toNat 1 = some (I1 x.2) := by rw [Int.toNat_natCast, cellL_at (A1_get h)]; simp [asL_s]
theorem fitS_nil (vs b : List Int) : fitS [] vs b = some b := by simp [fitS]
/-- terms as they have to be -/
def okT (ts : List Int) : Prop := ∀ t ∈ ts, -10 ≤ t ∧ t ≤ 4
def fitR : Option (List Int) → Option Res
  | some b => some [(false, [.row 3 1 (I1 b)]), (false, [.d (.bool true)])]
  | none => some [(false, [.nil]), (false, [.d (.bool false)])]
theorem fitR_s {b : List Int} {f : Ovi.Rows → Bool → Option Res} : (bindR (fitR (some b)) fun r => bindL (resO 3 1 2 false 1 r 0 0) fun l => bindB (resB 2 false 1 r 1 0) fun c => f l c) = f (I1 b) true := rfl
theorem l123 (ts vs : List Int) (r : Int) (hT : okT ts) (hl : vs.length = ts.length) (h5 : ts.length ≤ 1048576) (K : Nat) : ∀ (m i n : Nat) (b : List Int), i + m = ts.length → m < n → b.length = 5 →
    F123.L5 K (C K) n (I1 ts) (ts.length : Int) (i : Int) r (I1 vs) (I1 b) = fitR (fitS (ts.drop i) (vs.drop i) b) := by
  have hmax : (1048576 : Nat) ≤ maxLen := by decide
  intro m
  induction m with
  | zero =>
    intro i n b hm hn hb
    obtain ⟨n, rfl⟩ : ∃ j, n = j + 1 := ⟨n - 1, by omega⟩
    obtain rfl : i = ts.length := by omega
    rw [F123.L5.succ, ite'_f (lt_f (by omega)), List.drop_length, fitS_nil]
    rfl
  | succ m ih =>
    intro i n b hm hn hb
    obtain ⟨n, rfl⟩ : ∃ j, n = j + 1 := ⟨n - 1, by omega⟩
    have hi : i < ts.length := by omega
    have hiv : i < vs.length := by omega
    have hx := List.getElem?_eq_getElem hi
    have hy := List.getElem?_eq_getElem hiv
    obtain ⟨h1, h2⟩ := hT _ (List.getElem_mem hi)
    rw [F123.L5.succ, ite'_t (lt_t hi), I1_len, ite'_t (inR_t hi), I1_c hx, bindI_s, I1_len, ite'_t (inR_t hiv), I1_c hy, bindI_s, next_i hi (m := ts.length) (by omega), List.drop_eq_getElem_cons hi, List.drop_eq_getElem_cons hiv, fitS, wrap_id (by omega) (by omega)]
    by_cases hneg : ts[i] < 0
    · rw [ite'_t (by simpa using hneg), if_pos hneg]
      by_cases he : vs[i] = -1 - ts[i]
      · rw [ite'_f (by simpa using he), if_pos he]
        exact ih (i + 1) n b (by omega) (by omega) hb
      · rw [ite'_t (by simpa using he), if_neg he]; rfl
    · obtain ⟨q, hq⟩ : ∃ q : Nat, ts[i] = (q : Int) := ⟨ts[i].toNat, by omega⟩
      have hq5 : q < b.length := by omega
      have hbq : b[q]? = some (b.getD q 0) := by rw [List.getD_eq_getElem?_getD, List.getElem?_eq_getElem hq5]; rfl
      rw [ite'_f (by simpa using hneg), if_neg hneg, hq, I1_len, ite'_t (inR_t hq5), I1_c hbq, bindI_s, Int.toNat_natCast]
      by_cases h10 : b.getD q 0 = 10
      · rw [ite'_t (by simpa using h10), ite'_t (inR_t hq5), if_pos h10, rowsSet_I1 _ hq5]
        exact ih (i + 1) n _ (by omega) (by omega) (by simpa using hb)
      · rw [ite'_f (by simpa using h10), ite'_t (inR_t hq5), if_neg h10]
        rw [bindI_s]
        by_cases he : b.getD q 0 = vs[i]
        · rw [ite'_f (by simpa using he), if_pos he]
          exact ih (i + 1) n b (by omega) (by omega) hb
        · rw [ite'_t (by simpa using he), if_neg he]; rfl
/-- impl.bind -/
theorem c123 (x f : Atom) (b : List Int) (hT : okT x.2) (hl : x.1 = f.1 → f.2.length = x.2.length) (h5 : x.2.length ≤ 1048576) (hb : b.length = 5) (hk : x.2.length < k) :
    C (k + 2) 123 [.d (.list 1 (I1 b)), .agg [.d (.int .i64 x.1), .d (.list 1 (I1 x.2))], .agg [.d (.int .i64 f.1), .d (.list 1 (I1 f.2))]] = fitR (fitA x f b) := by
  rw [F123.run]
  unfold fitA
  by_cases h : x.1 = f.1
  · rw [ite'_f (by simpa using h), if_pos h]
    have e : C (k + 1) 126 [.d (.list 1 (I1 b))] = some [(false, [.row 3 1 (I1 b)])] := by
      have : C (k + 1) 126 [.d (.list 1 (I1 b))] = cloneP 3 [.d (.list 1 (I1 b))] := by kernel_rfl
      rw [this]
      simp only [cloneP, ints_I1]
      rw [show Nat.ble b.length 1099511627776 = true from Nat.ble_eq_true_of_le (by omega)]
      rfl
    rw [e]
    simp only [bindR_s, resO_s, bindL_s]
    have := l123 x.2 f.2 f.1 hT (hl h) h5 (k + 1) x.2.length 0 (k + 1) b (by omega) (by omega) hb
    rw [List.drop_zero, List.drop_zero] at this
    rw [I1_len]
    exact this
  · rw [ite'_t (by simpa using h), if_neg h]; rfl
theorem ten (k : Nat) : C (k + 1) 103 [] = io 10 := by rw [F103.run]; rfl
/-- what spec.l11Fit answers -/
def FitT (o : Option (List Int)) (r : Option Res) : Prop := ∃ y, r = some [(false, [.row 3 1 (I1 y)]), (false, [.d (.bool o.isSome)])] ∧ ∀ b, o = some b → y = b
theorem l102 (ts vs : List Int) (r r' : Int) (hT : okT ts) (hl : vs.length = ts.length) (h5 : ts.length ≤ 1048576) (K : Nat) : ∀ (m i n : Nat) (b : List Int), i + m = ts.length → m < n → b.length = 5 →
    FitT (fitS (ts.drop i) (vs.drop i) b) (F102.L5 (K + 1) (C (K + 1)) n (i : Int) r (I1 ts) r' (I1 vs) (I1 b)) := by
  have hmax : (1048576 : Nat) ≤ maxLen := by decide
  intro m
  induction m with
  | zero =>
    intro i n b hm hn hb
    obtain ⟨n, rfl⟩ : ∃ j, n = j + 1 := ⟨n - 1, by omega⟩
    obtain rfl : i = ts.length := by omega
    rw [F102.L5.succ, I1_len, ite'_f (lt_f (by omega)), List.drop_length, fitS_nil]
    exact ⟨b, rfl, fun c h => by cases h; rfl⟩
  | succ m ih =>
    intro i n b hm hn hb
    obtain ⟨n, rfl⟩ : ∃ j, n = j + 1 := ⟨n - 1, by omega⟩
    have hi : i < ts.length := by omega
    have hiv : i < vs.length := by omega
    have hx := List.getElem?_eq_getElem hi
    have hy := List.getElem?_eq_getElem hiv
    obtain ⟨h1, h2⟩ := hT _ (List.getElem_mem hi)
    rw [F102.L5.succ, I1_len, ite'_t (lt_t hi), ite'_t (inR_t hi), I1_c hx, bindI_s, next_i hi (m := ts.length) (by omega), List.drop_eq_getElem_cons hi, List.drop_eq_getElem_cons hiv, fitS, wrap_id (by omega) (by omega)]
    by_cases hneg : ts[i] < 0
    · rw [ite'_t (by simpa using hneg), if_pos hneg, I1_len, ite'_t (inR_t hiv), I1_c hy, bindI_s]
      by_cases he : vs[i] = -1 - ts[i]
      · rw [ite'_f (by simpa using he.symm), if_pos he]
        exact ih (i + 1) n b (by omega) (by omega) hb
      · rw [ite'_t (by simpa using fun h => he h.symm), if_neg he]
        exact ⟨b, rfl, fun c h => by cases h⟩
    · obtain ⟨q, hq⟩ : ∃ q : Nat, ts[i] = (q : Int) := ⟨ts[i].toNat, by omega⟩
      have hq5 : q < b.length := by omega
      have hbq : b[q]? = some (b.getD q 0) := by rw [List.getD_eq_getElem?_getD, List.getElem?_eq_getElem hq5]; rfl
      rw [ite'_f (by simpa using hneg), if_neg hneg, hq, I1_len, ite'_t (inR_t hq5), I1_c hbq, bindI_s, ten, iB', Int.toNat_natCast, I1_len]
      have hset : ∀ b', b' = b.set q vs[i] → FitT (fitS (ts.drop (i + 1)) (vs.drop (i + 1)) b') (ite' (inR (i : Int) vs.length) (bindI (cellI .i64 (I1 vs) (i : Int).toNat 0) fun n20 => ite' (inR (q : Int) b.length) (F102.L5 (K + 1) (C (K + 1)) n ((i + 1 : Nat) : Int) r (I1 ts) r' (I1 vs) (rowsSet (I1 b) q 0 [.int .i64 n20])) none) none) := by
        intro b' hb'
        rw [ite'_t (inR_t hiv), I1_c hy, bindI_s, ite'_t (inR_t hq5), rowsSet_I1 _ hq5, ← hb']
        exact ih (i + 1) n b' (by omega) (by omega) (by rw [hb']; simpa using hb)
      by_cases h10 : b.getD q 0 = 10
      · rw [ite'_f (by simpa using h10), if_pos h10]
        exact hset _ rfl
      · rw [ite'_t (by simpa using h10), if_neg h10, ite'_t (inR_t hq5), bindI_s, ite'_t (inR_t hiv), I1_c hy, bindI_s]
        by_cases he : b.getD q 0 = vs[i]
        · rw [ite'_f (by simpa using he), if_pos he]
          have := hset b (by
            rw [← he]
            apply List.ext_getElem?
            intro j
            rw [List.getElem?_set]
            by_cases hj : q = j
            · subst hj; rw [if_pos rfl, if_pos hq5, hbq]
            · rw [if_neg hj])
          rw [ite'_t (inR_t hiv), I1_c hy, bindI_s] at this
          rw [ite'_t (inR_t hiv), bindI_s]
          exact this
        · rw [ite'_t (by simpa using he), if_neg he]
          exact ⟨b, rfl, fun c h => by cases h⟩
/-- spec.l11Fit -/
theorem c102 (x f : Atom) (b : List Int) (hT : okT x.2) (hl : x.1 = f.1 → f.2.length = x.2.length) (h5 : x.2.length ≤ 1048576) (hb : b.length = 5) (hk : x.2.length < k) :
    FitT (fitA x f b) (C (k + 2) 102 [.agg [.d (.int .i64 x.1), .d (.list 1 (I1 x.2))], .agg [.d (.int .i64 f.1), .d (.list 1 (I1 f.2))], .d (.list 1 (I1 b))]) := by
  rw [F102.run, I1_len, ite'_t (fits_t (by omega))]
  unfold fitA
  by_cases h : x.1 = f.1
  · rw [ite'_f (by simpa using h), if_pos h, I1_len, I1_len, hl h, ite'_f (by simp)]
    have := l102 x.2 f.2 x.1 f.1 hT (hl h) h5 k x.2.length 0 (k + 1) b (by omega) (by omega) hb
    rw [List.drop_zero, List.drop_zero] at this
    exact this
  · rw [ite'_t (by simpa using h), if_neg h]
    exact ⟨b, rfl, fun c h => by cases h⟩
/-- facts and atoms as they are where matches are looked for -/
structure Mok (fs xs : List Atom) : Prop where
  f30 : fs.length ≤ 30
  x3 : xs.length ≤ 3
  ts : ∀ x ∈ xs, okT x.2 ∧ x.2.length ≤ 1048576
  len : ∀ x ∈ xs, ∀ f ∈ fs, x.1 = f.1 → f.2.length = x.2.length
theorem pow_le {a n : Nat} (ha : a ≤ 30) (hn : n ≤ 3) : a ^ n ≤ 27000 := by
  have h1 : a ^ n ≤ 30 ^ n := Nat.pow_le_pow_left ha n
  have h2 : 30 ^ n ≤ 30 ^ 3 := Nat.pow_le_pow_right (by omega) hn
  omega
theorem Mok.lens {fs xs : List Atom} (h : Mok fs xs) (b : List Int) : (mats fs xs b).length ≤ 27000 := Nat.le_trans (mats_len fs xs b) (pow_le h.f30 h.x3)
theorem Mok.tail {fs : List Atom} {x : Atom} {xs : List Atom} (h : Mok fs (x :: xs)) : Mok fs xs :=
  ⟨h.f30, by have := h.x3; simp only [List.length_cons] at this; omega, fun y hy => h.ts y (List.mem_cons_of_mem _ hy), fun y hy => h.len y (List.mem_cons_of_mem _ hy)⟩
def sub (fs xs : List Atom) (x : Atom) (b : List Int) (f : Atom) : BL := ((fitA x f b).map (mats fs xs)).getD []
theorem sub_len {fs xs : List Atom} (h : Mok fs xs) (x : Atom) (b : List Int) (f : Atom) : (sub fs xs x b f).length ≤ 27000 := by
  unfold sub
  cases fitA x f b with
  | none => simp
  | some b' => exact h.lens b'
/-- impl.matches -/
theorem c105 {fs : List Atom} (hk : 2000000 ≤ k) : ∀ (xs : List Atom), Mok fs xs → ∀ b : List Int, b.length = 5 → C (k + xs.length + 3) 105 [.d (.list 2 (A1 fs)), .d (.list 2 (A1 xs)), .d (.list 1 (I1 b))] = some [(false, [.row 26 1 (LL (mats fs xs b))])]
  | [], h, b, hb => by rw [F105.run, ite'_t (by rfl)]; rfl
  | x :: xs, h, b, hb => by
    have hmax : (1048576 : Nat) ≤ maxLen := by decide
    have hx0 := h.ts x List.mem_cons_self
    have hf30 := h.f30
    have main : ∀ (m i n : Nat) (acc : BL), i + m = fs.length → m < n → acc.length ≤ 27000 * i →
        F105.L5 (k + xs.length + 3) (C (k + xs.length + 3)) n (A1 fs) (A1 (x :: xs)) (I1 b) (A1 fs) (fs.length : Int) (i : Int) (LL acc) = some [(false, [.row 26 1 (LL (acc ++ (fs.drop i).flatMap (sub fs xs x b)))])] := by
      intro m
      induction m with
      | zero =>
        intro i n acc hm hn ha
        obtain ⟨n, rfl⟩ : ∃ j, n = j + 1 := ⟨n - 1, by omega⟩
        obtain rfl : i = fs.length := by omega
        rw [F105.L5.succ, ite'_f (lt_f (by omega)), List.drop_length]
        simp
      | succ m ih =>
        intro i n acc hm hn ha
        obtain ⟨n, rfl⟩ : ∃ j, n = j + 1 := ⟨n - 1, by omega⟩
        have hi : i < fs.length := by omega
        have hf := List.getElem?_eq_getElem hi
        have hfm := List.getElem_mem hi
        have hsl := sub_len h.tail x b fs[i]
        have e0 : cellI .i64 (A1 (x :: xs)) 0 0 = some x.1 := A1_c0 (xs := x :: xs) (i := 0) rfl
        have e1 : cellL 1 (A1 (x :: xs)) 0 1 = some (I1 x.2) := A1_c1 (xs := x :: xs) (i := 0) rfl
        have hin : inR (0 : Int) (A1 (x :: xs)).length = true := inR_t (i := 0) (by rw [A1_len]; simp)
        have hk1 : k + xs.length + 3 = (k + xs.length + 1) + 2 := rfl
        rw [F105.L5.succ, ite'_t (lt_t hi), A1_len, ite'_t (inR_t hi), A1_c0 hf, bindI_s, A1_c1 hf, bindL_s, hin, ite'_t rfl, e0, bindI_s, e1, bindL_s]
        have e123 : C (k + xs.length + 3) 123 [.d (.list 1 (I1 b)), .agg [.d (.int .i64 x.1), .d (.list 1 (I1 x.2))], .agg [.d (.int .i64 (fs[i]).1), .d (.list 1 (I1 (fs[i]).2))]] = fitR (fitA x fs[i] b) :=
          c123 (k := k + xs.length + 1) x fs[i] b hx0.1 (h.len x List.mem_cons_self _ hfm) hx0.2 hb (by omega)
        rw [e123, next_i hi (m := fs.length) (by omega), List.drop_eq_getElem_cons hi, List.flatMap_cons]
        cases hfa : fitA x fs[i] b with
        | none =>
          have hs : sub fs xs x b fs[i] = [] := by unfold sub; rw [hfa]; rfl
          rw [hs, List.nil_append]
          show F105.L5 (k + xs.length + 3) (C (k + xs.length + 3)) n (A1 fs) (A1 (x :: xs)) (I1 b) (A1 fs) (fs.length : Int) ((i + 1 : Nat) : Int) (LL acc) = _
          exact ih (i + 1) n acc (by omega) (by omega) (by omega)
        | some b' =>
          have hs : sub fs xs x b fs[i] = mats fs xs b' := by unfold sub; rw [hfa]; rfl
          have hb' : b'.length = 5 := by rw [fitA_len hfa]; exact hb
          rw [hs] at hsl ⊢
          have hins : inS (1 : Int) ((A1 (x :: xs)).length : Int) (A1 (x :: xs)).length = true := by
            simp only [inS, decide_eq_true_eq, A1_len, List.length_cons]; omega
          have hrec : C (k + xs.length + 3) 105 [.d (.list 2 (A1 fs)), .d (.list 2 (A1 xs)), .d (.list 1 (I1 b'))] = some [(false, [.row 26 1 (LL (mats fs xs b'))])] := c105 hk xs h.tail b' hb'
          rw [fitR_s, ite'_t rfl, hins, ite'_t rfl]
          show (bindR (C (k + xs.length + 3) 105 [.d (.list 2 (A1 fs)), .d (.list 2 (A1 xs)), .d (.list 1 (I1 b'))]) fun r20 => bindL (resO 26 1 1 false 1 r20 0 0) fun l21 => ite' (fits ((LL acc).length + l21.length)) (F105.L5 (k + xs.length + 3) (C (k + xs.length + 3)) n (A1 fs) (A1 (x :: xs)) (I1 b) (A1 fs) (fs.length : Int) ((i + 1 : Nat) : Int) (LL acc ++ l21)) none) = _
          rw [hrec]
          simp only [bindR_s, resO_s, bindL_s]
          rw [ite'_t (fits_t (by rw [LL_len, LL_len]; omega)), LL_app, ← List.append_assoc]
          exact ih (i + 1) n _ (by omega) (by omega) (by rw [List.length_append]; omega)
    have := main fs.length 0 (k + xs.length + 3) [] (by omega) (by omega) (by simp)
    rw [List.drop_zero, List.nil_append] at this
    rw [show k + (x :: xs).length + 3 = (k + xs.length + 3) + 1 by simp only [List.length_cons]; omega, F105.run, ite'_f (by rw [A1_len]; simp; omega), A1_len]
    exact this
end Go.Proofs.YtielkoncnddfdaaGreat.Q

/-! KLb -/
namespace Go.Proofs.YtielkoncnddfdaaGreat.Q
open Go Ovi
variable {k : Nat}
theorem cmpI_zero : ∀ (a b : List Int), cmpI a b = 0 ↔ a = b
  | [], [] => by simp [cmpI]
  | [], _ :: _ => by simp [cmpI]
  | _ :: _, [] => by simp [cmpI]
  | x :: xs, y :: ys => by
    unfold cmpI
    by_cases h1 : x < y
    · rw [if_pos h1]
      constructor
      · intro h; omega
      · intro h; cases h; omega
    · rw [if_neg h1]
      by_cases h2 : x > y
      · rw [if_pos h2]
        constructor
        · intro h; omega
        · intro h; cases h; omega
      · rw [if_neg h2, cmpI_zero xs ys]
        have : x = y := by omega
        subst this
        simp
theorem c48 (a b : List Int) (hk : a.length < k) (ha : a.length ≤ maxLen) : C (k + 1) 48 [.d (.list 1 (I1 a)), .d (.list 1 (I1 b))] = bo (decide (a = b)) := by
  rw [F48.run, I1_len, I1_len]
  by_cases hl : a.length = b.length
  · rw [ite'_f (by simp [hl])]
    have := loop_find (xs := a) (L := fun n i => F48.L4 k (C k) n (I1 a) (I1 b) (a.length : Int) i) (stop := fun i x => x != b.getD i 0) (hit := fun _ => bo false) (fin := bo true)
      (fun n i x hx => by
        have hi := (List.getElem?_eq_some_iff.1 hx).1
        have hy : b[i]? = some (b.getD i 0) := by rw [List.getD_eq_getElem?_getD, List.getElem?_eq_getElem (by omega)]; rfl
        rw [F48.L4.succ, I1_len, I1_len, ite'_t (lt_t hi), ite'_t (inR_t hi), I1_c hx, bindI_s, ite'_t (inR_t (by omega)), I1_c hy, bindI_s, next_i hi ha]; rfl)
      (fun n => by rw [F48.L4.succ, ite'_f (lt_f (by omega))]; rfl) k hk
    rcases this with ⟨i, x, hx, hst, e⟩ | ⟨hst, e⟩
    · rw [show F48.L4 k (C k) k (I1 a) (I1 b) (a.length : Int) 0 = _ from e]
      refine bo_eq (decide_eq_false (fun h => ?_)).symm
      subst h
      rw [List.getD_eq_getElem?_getD, hx] at hst
      simp at hst
    · rw [show F48.L4 k (C k) k (I1 a) (I1 b) (a.length : Int) 0 = _ from e]
      refine bo_eq (decide_eq_true ?_).symm
      apply List.ext_getElem?
      intro i
      by_cases hi : i < a.length
      · have := hst i a[i] (List.getElem?_eq_getElem hi)
        rw [List.getD_eq_getElem?_getD, List.getElem?_eq_getElem (by omega)] at this
        rw [List.getElem?_eq_getElem hi, List.getElem?_eq_getElem (by omega)]
        simpa using this
      · rw [List.getElem?_eq_none (by omega), List.getElem?_eq_none (by omega)]
  · rw [ite'_t (by simp; omega)]
    exact bo_eq (decide_eq_false (fun h => hl (by rw [h]))).symm
theorem fitT_s {b : List Int} {c : Bool} {f : Ovi.Rows → Bool → Option Res} : (bindR (some [(false, [.row 3 1 (I1 b)]), (false, [.d (.bool c)])]) fun r => bindL (resO 3 1 2 false 1 r 0 0) fun l => bindB (resB 2 false 1 r 1 0) fun d => f l d) = f (I1 b) c := rfl
/-- spec.l11Walk -/
theorem c71 {a : Ovi.Rows} {fs xs : List Atom} (hM : Mok fs xs) (hk : 2000000 ≤ k) : ∀ (m n : Nat), n + m = xs.length → ∀ b : List Int, b.length = 5 → C (k + m + 3) 71 [.agg [.d (.list 3 a), .d (.list 2 (A1 fs))], .d (.list 2 (A1 xs)), .d (.int .i64 (n : Int)), .d (.list 1 (I1 b))] = some [(false, [.row 26 1 (LL (mats fs (xs.drop n) b))])] := by
  have hmax : (1048576 : Nat) ≤ maxLen := by decide
  intro m
  induction m with
  | zero =>
    intro n hn b hb
    obtain rfl : n = xs.length := by omega
    rw [F71.run, A1_len, ite'_t (by simp), I1_len, ite'_t (fits_t (by omega)), List.drop_length]
    rfl
  | succ m ih =>
    intro n hn b hb
    have hnl : n < xs.length := by omega
    have hx := List.getElem?_eq_getElem hnl
    have hxm := List.getElem_mem hnl
    have hx0 := hM.ts _ hxm
    have hf30 := hM.f30
    have hx3 := hM.x3
    have hsub : ∀ f, (sub fs (xs.drop (n + 1)) xs[n] b f).length ≤ 27000 := fun f => by
      unfold sub
      cases fitA xs[n] f b with
      | none => simp
      | some b' => exact Nat.le_trans (mats_len fs _ b') (pow_le hf30 (by rw [List.length_drop]; omega))
    have main : ∀ (p i j : Nat) (acc : BL), i + p = fs.length → p < j → acc.length ≤ 27000 * i →
        F71.L5 (k + m + 3) (C (k + m + 3)) j (A1 xs) (n : Int) (I1 b) (i : Int) a (A1 fs) (LL acc) = some [(false, [.row 26 1 (LL (acc ++ (fs.drop i).flatMap (sub fs (xs.drop (n + 1)) xs[n] b)))])] := by
      intro p
      induction p with
      | zero =>
        intro i j acc hm hj ha
        obtain ⟨j, rfl⟩ : ∃ q, j = q + 1 := ⟨j - 1, by omega⟩
        obtain rfl : i = fs.length := by omega
        rw [F71.L5.succ, A1_len, ite'_f (lt_f (by omega)), List.drop_length]
        simp
      | succ p ihp =>
        intro i j acc hm hj ha
        obtain ⟨j, rfl⟩ : ∃ q, j = q + 1 := ⟨j - 1, by omega⟩
        have hi : i < fs.length := by omega
        have hf := List.getElem?_eq_getElem hi
        have hfm := List.getElem_mem hi
        have hsl := hsub fs[i]
        rw [F71.L5.succ, A1_len, ite'_t (lt_t hi), A1_len, ite'_t (inR_t hnl), A1_c0 hx, bindI_s, A1_c1 hx, bindL_s, ite'_t (inR_t hi), A1_c0 hf, bindI_s, A1_c1 hf, bindL_s]
        obtain ⟨y, e102, hy⟩ : FitT (fitA xs[n] fs[i] b) (C (k + m + 3) 102 [.agg [.d (.int .i64 (xs[n]).1), .d (.list 1 (I1 (xs[n]).2))], .agg [.d (.int .i64 (fs[i]).1), .d (.list 1 (I1 (fs[i]).2))], .d (.list 1 (I1 b))]) := c102 (k := k + m + 1) xs[n] fs[i] b hx0.1 (hM.len _ hxm _ hfm) hx0.2 hb (by omega)
        rw [e102, fitT_s, next_i hi (m := fs.length) (by omega), List.drop_eq_getElem_cons hi, List.flatMap_cons]
        cases hfa : fitA xs[n] fs[i] b with
        | none =>
          have hs : sub fs (xs.drop (n + 1)) xs[n] b fs[i] = [] := by unfold sub; rw [hfa]; rfl
          rw [hs, List.nil_append, show (none : Option (List Int)).isSome = false from rfl, ite'_f rfl]
          exact ihp (i + 1) j acc (by omega) (by omega) (by omega)
        | some b' =>
          have hs : sub fs (xs.drop (n + 1)) xs[n] b fs[i] = mats fs (xs.drop (n + 1)) b' := by unfold sub; rw [hfa]; rfl
          obtain rfl := hy b' hfa
          have hb' : y.length = 5 := by rw [fitA_len hfa]; exact hb
          rw [hs] at hsl ⊢
          have hw : IntKind.i64.wrap ((n : Int) + 1) = ((n + 1 : Nat) : Int) := next_i hnl (m := xs.length) (by omega)
          rw [show (some y).isSome = true from rfl, ite'_t rfl]
          rw [hw, ih (n + 1) (by omega) y hb']
          simp only [bindR_s, resO_s, bindL_s]
          rw [ite'_t (fits_t (by rw [LL_len, LL_len]; omega)), LL_app, ← List.append_assoc]
          exact ihp (i + 1) j _ (by omega) (by omega) (by rw [List.length_append]; omega)
    have := main fs.length 0 (k + m + 3) [] (by omega) (by omega) (by simp)
    rw [List.drop_zero, List.nil_append] at this
    rw [show k + (m + 1) + 3 = (k + m + 3) + 1 by omega, F71.run, A1_len, ite'_f (by simp; omega), List.drop_eq_getElem_cons hnl]
    exact this
def tens : List Int := [10, 10, 10, 10, 10]
theorem c106 : C (k + 2) 106 [] = some [(false, [.row 3 1 (I1 tens)])] := by
  have : C (k + 1) 124 [.d (.list 1 [[.int .i64 10]]), .d (.int .i64 5)] = rep5P 3 [.d (.list 1 [[.int .i64 10]]), .d (.int .i64 5)] := by kernel_rfl
  rw [F106.run, this]
  rfl
theorem c72 (hk : 100 ≤ k) : C (k + 2) 72 [] = some [(false, [.row 3 1 (I1 tens)])] := by
  have step : ∀ (n : Nat) (l : List Int), l.length < 5 → F72.L2 (k + 1) (C (k + 1)) (n + 1) (I1 l) = F72.L2 (k + 1) (C (k + 1)) n (I1 (l ++ [10])) := by
    intro n l hl
    have h5 : decide (((l.length : Nat) : Int) < 5) = true := by rw [decide_eq_true_eq]; omega
    have hf : fits (l.length + [[D.int IntKind.i64 10]].length) = true := fits_t (by simp only [List.length_cons, List.length_nil]; omega)
    rw [F72.L2.succ, I1_len, ite'_t h5, ten, iB', ite'_t hf, I1_snoc]
  obtain ⟨j, rfl⟩ : ∃ j, k = j + 5 := ⟨k - 5, by omega⟩
  have e : F72.L2 (j + 5 + 1) (C (j + 5 + 1)) (j + 5 + 1) (I1 []) = F72.L2 (j + 5 + 1) (C (j + 5 + 1)) (j + 1) (I1 [10, 10, 10, 10, 10]) :=
    (step (j + 5) [] (by simp)).trans ((step (j + 4) [10] (by simp)).trans ((step (j + 3) [10, 10] (by simp)).trans ((step (j + 2) [10, 10, 10] (by simp)).trans (step (j + 1) [10, 10, 10, 10] (by simp)))))
  have e2 : F72.L2 (j + 5 + 1) (C (j + 5 + 1)) (j + 1) (I1 [10, 10, 10, 10, 10]) = some [(false, [.row 3 1 (I1 tens)])] := by
    rw [F72.L2.succ, I1_len, ite'_f (by simp)]
    rfl
  rw [F72.run]
  exact e.trans e2
/-- slices.ContainsFunc on rows of lists -/
theorem c46 (L : BL) (f : FuncId) (caps : Ovi.Rows) (p : List Int → Bool) (hk : L.length < k) (hz : L.length ≤ maxLen) (hp : ∀ x ∈ L, C k f (.d (.list 1 (I1 x)) :: caps.map fun c => .cap c 0) = bo (p x)) : C (k + 2) 46 [.d (.list 1 (LL L)), .d (.fn f caps)] = bo (L.any p) := by
  rw [F46.run, F73.run, LL_len]
  have := loop_find (xs := L) (L := fun n i => F73.L2 k (C k) n (LL L) f caps (L.length : Int) i) (stop := fun _ x => p x) (hit := fun i => some [(false, [.d (.int .i64 (i : Int))])]) (fin := some [(false, [.d (.int .i64 (-1))])])
    (fun n i x hx => by
      have hi := (List.getElem?_eq_some_iff.1 hx).1
      rw [F73.L2.succ, LL_len, ite'_t (lt_t hi), ite'_t (inR_t hi), LL_c hx, bindL_s, next_i hi hz]
      have := hp x (List.mem_of_getElem? hx)
      simp only [List.append_eq, List.nil_append] at this ⊢
      rw [this, bB]; rfl)
    (fun n => by rw [F73.L2.succ, ite'_f (lt_f (by omega))]) k hk
  rcases this with ⟨i, x, hx, hst, e⟩ | ⟨hst, e⟩
  · rw [show F73.L2 k (C k) k (LL L) f caps (L.length : Int) 0 = _ from e]
    simp only [bindR_s, resI_s, bindI_s]
    refine bo_eq ?_
    rw [List.any_eq_true.2 ⟨x, List.mem_of_getElem? hx, hst⟩]
    simp
  · rw [show F73.L2 k (C k) k (LL L) f caps (L.length : Int) 0 = _ from e]
    simp only [bindR_s, resI_s, bindI_s]
    refine bo_eq ?_
    have : L.any p = false := by
      rw [List.any_eq_false]
      intro x hx
      obtain ⟨i, hi⟩ := List.mem_iff_getElem?.1 hx
      simpa using hst i x hi
    rw [this]; rfl
/-- impl.hasBinding -/
theorem c27 (L : BL) (z : List Int) (hk : L.length < k) (hz : L.length ≤ 1048576) (hx : ∀ x ∈ L, x.length ≤ 1048576) (hk2 : 2000000 ≤ k) : C (k + 5) 27 [.d (.list 1 (LL L)), .d (.list 1 (I1 z))] = bo (decide (z ∈ L)) := by
  have hmax : (1048576 : Nat) ≤ maxLen := by decide
  rw [F27.run, c46 (k := k + 2) L 47 [[.list 1 (I1 z)]] (fun x => decide (x = z)) (by omega) (by omega) (fun x hxm => by
    have := hx x hxm
    rw [List.map_cons, List.map_nil, F47.run, c48 (k := k) x z (by omega) (by omega), bB]; rfl), bB]
  refine bo_eq ?_
  rw [Bool.eq_iff_iff]
  simp
/-- impl.FindMatches, the loop -/
theorem l74 (all : BL) (hall : all.length ≤ 27000) (hl : ∀ x ∈ all, x.length = 5) (hk : 2000000 ≤ k) : F74.L5 (k + 5) (C (k + 5)) (k + 5) (all.length : Int) 0 [] (LL all) = some [(false, [.row 26 1 (LL (ded [] all))])] := by
  have hmax : (1048576 : Nat) ≤ maxLen := by decide
  have main : ∀ (m i n : Nat) (out : BL), i + m = all.length → m < n → out.length ≤ i → (∀ x ∈ out, x.length = 5) → F74.L5 (k + 5) (C (k + 5)) n (all.length : Int) (i : Int) (LL out) (LL all) = some [(false, [.row 26 1 (LL (ded out (all.drop i)))])] := by
    intro m
    induction m with
    | zero =>
      intro i n out hm hn ho hx
      obtain ⟨n, rfl⟩ : ∃ j, n = j + 1 := ⟨n - 1, by omega⟩
      obtain rfl : i = all.length := by omega
      rw [F74.L5.succ, ite'_f (lt_f (by omega)), List.drop_length, ded]
    | succ m ih =>
      intro i n out hm hn ho hx
      obtain ⟨n, rfl⟩ : ∃ j, n = j + 1 := ⟨n - 1, by omega⟩
      have hi : i < all.length := by omega
      have hg := List.getElem?_eq_getElem hi
      have h5 := hl _ (List.getElem_mem hi)
      rw [F74.L5.succ, ite'_t (lt_t hi), LL_len, ite'_t (inR_t hi), LL_c hg, bindL_s, c27 (k := k) out all[i] (by omega) (by omega) (fun x h => by rw [hx x h]; omega) hk, bB, next_i hi (m := all.length) (by omega), List.drop_eq_getElem_cons hi, ded]
      by_cases hmem : all[i] ∈ out
      · rw [decide_eq_true hmem, ite'_nt, if_pos hmem]
        exact ih (i + 1) n out (by omega) (by omega) (by omega) hx
      · rw [decide_eq_false hmem, ite'_nf, if_neg hmem, ite'_t (fits_t (by rw [LL_len]; simp; omega)), LL_snoc]
        refine ih (i + 1) n _ (by omega) (by omega) (by rw [List.length_append, List.length_singleton]; omega) (fun x h => ?_)
        rcases List.mem_append.1 h with h | h
        · exact hx x h
        · rw [List.mem_singleton.1 h]; exact h5
  exact main all.length 0 (k + 5) [] (by omega) (by omega) (Nat.zero_le _) (by simp)
/-- spec.FindMatches, the loop -/
theorem l42 (all : BL) (hall : all.length ≤ 27000) (hl : ∀ x ∈ all, x.length = 5) (hk : 2000000 ≤ k) : F42.L6 (k + 1) (C (k + 1)) (k + 1) 0 [] (LL all) = some [(false, [.row 26 1 (LL (ded [] all))])] := by
  have hmax : (1048576 : Nat) ≤ maxLen := by decide
  have inner : ∀ (out : BL) (i : Nat) (hi : i < all.length), out.length ≤ i → (∀ x ∈ out, x.length = 5) → ∀ (m j n k6 : Nat) (met : Bool), j + m = out.length → m < n →
      F42.L10 (k + 1) (C (k + 1)) k6 n (i : Int) met (j : Int) (LL out) (LL all) = F42.L6 (k + 1) (C (k + 1)) k6 ((i + 1 : Nat) : Int) (LL (if met = true ∨ all[i] ∈ out.drop j then out else out ++ [all[i]])) (LL all) := by
    intro out i hi ho hx m
    induction m with
    | zero =>
      intro j n k6 met hm hn
      obtain ⟨n, rfl⟩ : ∃ q, n = q + 1 := ⟨n - 1, by omega⟩
      obtain rfl : j = out.length := by omega
      rw [F42.L10.succ, LL_len, ite'_f (lt_f (by omega)), List.drop_length, next_i hi (m := all.length) (by omega), LL_len, LL_c (List.getElem?_eq_getElem hi)]
      cases met with
      | true => rw [ite'_nt, if_pos (.inl rfl)]
      | false => rw [ite'_nf, ite'_t (inR_t hi), bindL_s, ite'_t (fits_t (by simp; omega)), if_neg (by simp), LL_snoc]
    | succ m ih =>
      intro j n k6 met hm hn
      obtain ⟨n, rfl⟩ : ∃ q, n = q + 1 := ⟨n - 1, by omega⟩
      have hj : j < out.length := by omega
      have hg := List.getElem?_eq_getElem hj
      have h5 := hx _ (List.getElem_mem hj)
      rw [F42.L10.succ, LL_len, ite'_t (lt_t hj), next_i hj (m := out.length) (by omega), List.drop_eq_getElem_cons hj]
      cases met with
      | true =>
        rw [ite'_t rfl, ih (j + 1) n k6 true (by omega) (by omega), if_pos (.inl rfl), if_pos (.inl rfl)]
      | false =>
        rw [ite'_f rfl, ite'_t (inR_t hj), LL_c hg, bindL_s, LL_len, ite'_t (inR_t hi), LL_c (List.getElem?_eq_getElem hi), bindL_s, c24 (k := k) out[j] all[i] (by omega) (by omega), iB', ih (j + 1) n k6 _ (by omega) (by omega)]
        congr 2
        by_cases he : out[j] = all[i]
        · rw [if_pos (.inl (by rw [(cmpI_zero _ _).2 he]; rfl)), if_pos (.inr (by rw [he]; exact List.mem_cons_self))]
        · have h0 : (cmpI out[j] all[i] == 0) = false := by
            rw [beq_eq_false_iff_ne]
            exact fun h => he ((cmpI_zero _ _).1 h)
          rw [h0]
          by_cases hmem : all[i] ∈ out.drop (j + 1)
          · rw [if_pos (.inr hmem), if_pos (.inr (List.mem_cons_of_mem _ hmem))]
          · rw [if_neg (by simp [hmem]), if_neg (by
              rintro (h | h)
              · cases h
              · rcases List.mem_cons.1 h with h | h
                · exact he h.symm
                · exact hmem h)]
  have main : ∀ (m i n : Nat) (out : BL), i + m = all.length → m < n → out.length ≤ i → (∀ x ∈ out, x.length = 5) → F42.L6 (k + 1) (C (k + 1)) n (i : Int) (LL out) (LL all) = some [(false, [.row 26 1 (LL (ded out (all.drop i)))])] := by
    intro m
    induction m with
    | zero =>
      intro i n out hm hn ho hx
      obtain ⟨n, rfl⟩ : ∃ j, n = j + 1 := ⟨n - 1, by omega⟩
      obtain rfl : i = all.length := by omega
      rw [F42.L6.succ, LL_len, ite'_f (lt_f (by omega)), List.drop_length, ded]
    | succ m ih =>
      intro i n out hm hn ho hx
      obtain ⟨n, rfl⟩ : ∃ j, n = j + 1 := ⟨n - 1, by omega⟩
      have hi : i < all.length := by omega
      have h5 := hl _ (List.getElem_mem hi)
      rw [F42.L6.succ, LL_len, ite'_t (lt_t hi)]
      have := inner out i hi ho hx out.length 0 (k + 1) n false (by omega) (by omega)
      rw [show ((0 : Nat) : Int) = 0 from rfl, List.drop_zero] at this
      rw [this, List.drop_eq_getElem_cons hi, ded]
      by_cases hmem : all[i] ∈ out
      · rw [if_pos (.inr hmem), if_pos hmem]
        exact ih (i + 1) n out (by omega) (by omega) (by omega) hx
      · rw [if_neg (by simp [hmem]), if_neg hmem]
        refine ih (i + 1) n _ (by omega) (by omega) (by rw [List.length_append, List.length_singleton]; omega) (fun x h => ?_)
        rcases List.mem_append.1 h with h | h
        · exact hx x h
        · rw [List.mem_singleton.1 h]; exact h5
  exact main all.length 0 (k + 1) [] (by omega) (by omega) (Nat.zero_le _) (by simp)
end Go.Proofs.YtielkoncnddfdaaGreat.Q

/-! KLc -/
namespace Go.Proofs.YtielkoncnddfdaaGreat.Q
open Go Ovi
variable {k : Nat}
/-- impl.rowsOf -/
theorem l49 (all : BL) (q : List Int) (X : Ovi.Rows) (hall : all.length ≤ 27000) (hl : ∀ x ∈ all, x.length = 5) (hq : ∀ v ∈ q, 0 ≤ v ∧ v < 5) (hq3 : q.length ≤ 3) (hk : 2000000 ≤ k) :
    F49.L3 (k + 1) (C (k + 1)) (k + 1) 50 [] (all.length : Int) 0 (I1 q) X [] (LL all) = some [(false, [.row 26 1 (LL (Lib.compact (sortLists (all.map (proj q)))))])] := by
  have hmax : (1048576 : Nat) ≤ maxLen := by decide
  have inner : ∀ (out : BL) (i : Nat) (b : List Int), b.length = 5 → i < all.length → out.length ≤ i → ∀ (m j n k3 : Nat), j + m = q.length → m < n →
      F49.L8 (k + 1) (C (k + 1)) k3 n 50 [] (I1 b) (all.length : Int) (i : Int) (I1 q) (q.length : Int) (j : Int) (I1 q) X (LL out) (I1 ((q.take j).map fun v => b.getD v.toNat 0)) (LL all) =
      F49.L3 (k + 1) (C (k + 1)) k3 50 [] (all.length : Int) ((i + 1 : Nat) : Int) (I1 q) X (LL (out ++ [proj q b])) (LL all) := by
    intro out i b hb hi ho m
    induction m with
    | zero =>
      intro j n k3 hm hn
      obtain ⟨n, rfl⟩ : ∃ p, n = p + 1 := ⟨n - 1, by omega⟩
      obtain rfl : j = q.length := by omega
      rw [F49.L8.succ, ite'_f (lt_f (by omega)), List.take_length, ite'_t (fits_t (by rw [LL_len]; simp; omega)), next_i hi (m := all.length) (by omega), LL_snoc]
      rfl
    | succ m ih =>
      intro j n k3 hm hn
      obtain ⟨n, rfl⟩ : ∃ p, n = p + 1 := ⟨n - 1, by omega⟩
      have hj : j < q.length := by omega
      have hg := List.getElem?_eq_getElem hj
      obtain ⟨h1, h2⟩ := hq _ (List.getElem_mem hj)
      obtain ⟨p, hp⟩ : ∃ p : Nat, q[j] = (p : Int) := ⟨q[j].toNat, by omega⟩
      have hp5 : p < b.length := by omega
      have hbp : b[p]? = some (b.getD p 0) := by rw [List.getD_eq_getElem?_getD, List.getElem?_eq_getElem hp5]; rfl
      have := ih (j + 1) n k3 (by omega) (by omega)
      rw [List.take_succ_eq_append_getElem hj, List.map_append] at this
      rw [F49.L8.succ, ite'_t (lt_t hj), I1_len, ite'_t (inR_t hj), I1_c hg, bindI_s, hp, I1_len, ite'_t (inR_t hp5), I1_c hbp, bindI_s, I1_len, ite'_t (fits_t (by simp only [List.length_map, List.length_take, List.length_cons, List.length_nil]; omega)), next_i hj (m := q.length) (by omega), I1_snoc, ← this]
      rw [List.map_cons, List.map_nil, hp, Int.toNat_natCast]
  have main : ∀ (m i n : Nat), i + m = all.length → m < n → F49.L3 (k + 1) (C (k + 1)) n 50 [] (all.length : Int) (i : Int) (I1 q) X (LL ((all.take i).map (proj q))) (LL all) = some [(false, [.row 26 1 (LL (Lib.compact (sortLists (all.map (proj q)))))])] := by
    intro m
    induction m with
    | zero =>
      intro i n hm hn
      obtain ⟨n, rfl⟩ : ∃ j, n = j + 1 := ⟨n - 1, by omega⟩
      obtain rfl : i = all.length := by omega
      rw [List.take_length]
      have e75 : C (k + 1) 75 [.var 0 0, .d (.int .i64 26), .d (.list 1 (LL (all.map (proj q))))] = some [(false, [.row 26 1 (LL (Lib.compact (sortLists (all.map (proj q)))))]), (true, [])] := by
        have : C (k + 1) 75 [.var 0 0, .d (.int .i64 26), .d (.list 1 (LL (all.map (proj q))))] = rowsSetP [.var 0 0, .d (.int .i64 26), .d (.list 1 (LL (all.map (proj q))))] := by kernel_rfl
        rw [this]
        unfold rowsSetP rowsArg
        simp only [lists_LL, Option.bind_some]
        rw [show (Nat.ble (all.map (proj q)).length 1099511627776 && (all.map (proj q)).all fun z => Nat.ble z.length 1099511627776) = true by
          rw [Bool.and_eq_true, List.all_eq_true]
          refine ⟨Nat.ble_eq_true_of_le (by rw [List.length_map]; omega), fun z hz => Nat.ble_eq_true_of_le ?_⟩
          obtain ⟨x, _, rfl⟩ := List.mem_map.1 hz
          simp only [proj, List.length_map]; omega]
        rfl
      rw [F49.L3.succ, ite'_f (lt_f (by omega)), e75]
      rfl
    | succ m ih =>
      intro i n hm hn
      obtain ⟨n, rfl⟩ : ∃ j, n = j + 1 := ⟨n - 1, by omega⟩
      have hi : i < all.length := by omega
      have hg := List.getElem?_eq_getElem hi
      have h5 := hl _ (List.getElem_mem hi)
      have e50 : C (k + 1) 50 (.d (.list 1 (I1 all[i])) :: [].append (List.map (fun c : List D => AV.cap c 0) [])) = bo true := by
        show C (k + 1) 50 [.d (.list 1 (I1 all[i]))] = _
        rw [F50.run]; rfl
      rw [F49.L3.succ, ite'_t (lt_t hi), LL_len, ite'_t (inR_t hi), LL_c hg, bindL_s, e50, bB, ite'_nt, I1_len]
      have := inner ((all.take i).map (proj q)) i all[i] h5 hi (by rw [List.length_map, List.length_take]; omega) q.length 0 (k + 1) n (by omega) (by omega)
      rw [List.take_zero, List.map_nil, show ((0 : Nat) : Int) = 0 from rfl] at this
      rw [show F49.L8 (k + 1) (C (k + 1)) n (k + 1) 50 [] (I1 all[i]) (all.length : Int) (i : Int) (I1 q) (q.length : Int) 0 (I1 q) X (LL ((all.take i).map (proj q))) [] (LL all) = _ from this]
      have hnx := ih (i + 1) n (by omega) (by omega)
      rw [List.take_succ_eq_append_getElem hi, List.map_append] at hnx
      exact hnx
  exact main all.length 0 (k + 1) (by omega) (by omega)
/-- spec.l20PutRow -/
theorem c43 (l : BL) (row : List Int) (hl : l.length ≤ 27000) (hx : ∀ x ∈ l, x.length ≤ 3) (hk : 2000000 ≤ k) :
    ∃ r ws, C (k + 2) 43 [.d (.list 1 (LL l)), .d (.list 1 (I1 row))] = some r ∧ resL 1 1 false 1 r 0 0 = some (LL ws) ∧ (∀ z, z ∈ ws ↔ z ∈ l ∨ z = row) ∧ ws.length ≤ l.length + 1 := by
  have hmax : (1048576 : Nat) ≤ maxLen := by decide
  rw [F43.run]
  have ins : ∀ i : Nat, i ≤ l.length → ∃ r ws, (ite' (inS (i : Int) ((LL l).length : Int) (LL l).length) (ite' (fits ([[D.list 1 (I1 row)]].length + (List.drop (i : Int).toNat (LL l)).length)) (ite' (inS (0 : Int) (i : Int) (LL l).length) (ite' (fits (List.take (i : Int).toNat (LL l)).length) (ite' (fits ((List.take (i : Int).toNat (LL l)).length + List.length ([[D.list 1 (I1 row)]] ++ List.drop (i : Int).toNat (LL l)))) (some ([(false, [RL.row 26 1 (List.take (i : Int).toNat (LL l) ++ ([[D.list 1 (I1 row)]] ++ List.drop (i : Int).toNat (LL l)))])])) (none)) (none)) (none)) (none)) (none)) = some r ∧ resL 1 1 false 1 r 0 0 = some (LL ws) ∧ (∀ z, z ∈ ws ↔ z ∈ l ∨ z = row) ∧ ws.length ≤ l.length + 1 := by
    intro i hi
    rw [Int.toNat_natCast, LL_len, ite'_t (by simp only [inS, decide_eq_true_eq]; omega), ite'_t (fits_t (by rw [List.length_drop, LL_len]; simp; omega)), ite'_t (by simp only [inS, decide_eq_true_eq]; omega), ite'_t (fits_t (by rw [List.length_take, LL_len]; omega)), ite'_t (fits_t (by rw [List.length_take, List.length_append, List.length_drop, LL_len]; simp; omega))]
    refine ⟨_, l.take i ++ (row :: l.drop i), rfl, ?_, fun z => ?_, ?_⟩
    · rw [resL_s]
      simp [LL]
    · rw [List.mem_append, List.mem_cons]
      have : z ∈ l ↔ z ∈ l.take i ∨ z ∈ l.drop i := by rw [← List.mem_append, List.take_append_drop]
      rw [this]
      constructor
      · rintro (h | h | h)
        · exact .inl (.inl h)
        · exact .inr h
        · exact .inl (.inr h)
      · rintro ((h | h) | h)
        · exact .inl h
        · exact .inr (.inr h)
        · exact .inr (.inl h)
    · simp only [List.length_append, List.length_cons, List.length_take, List.length_drop]; omega
  have main : ∀ (m i n : Nat), i + m = l.length → m < n → ∃ r ws, F43.L2 (k + 1) (C (k + 1)) n (LL l) (I1 row) (i : Int) = some r ∧ resL 1 1 false 1 r 0 0 = some (LL ws) ∧ (∀ z, z ∈ ws ↔ z ∈ l ∨ z = row) ∧ ws.length ≤ l.length + 1 := by
    intro m
    induction m with
    | zero =>
      intro i n hm hn
      obtain ⟨n, rfl⟩ : ∃ j, n = j + 1 := ⟨n - 1, by omega⟩
      obtain rfl : i = l.length := by omega
      have h0 : decide (((l.length : Nat) : Int) < ((LL l).length : Int)) = false := by rw [LL_len]; exact lt_f (by omega)
      rw [F43.L2.succ, h0, ite'_f rfl, ite'_f rfl]
      exact ins l.length (Nat.le_refl _)
    | succ m ih =>
      intro i n hm hn
      obtain ⟨n, rfl⟩ : ∃ j, n = j + 1 := ⟨n - 1, by omega⟩
      have hi : i < l.length := by omega
      have hg := List.getElem?_eq_getElem hi
      have hxl := hx _ (List.getElem_mem hi)
      have h0 : decide ((i : Int) < ((LL l).length : Int)) = true := by rw [LL_len]; exact lt_t hi
      have h1 : inR (i : Int) (LL l).length = true := by rw [LL_len]; exact inR_t hi
      rw [F43.L2.succ, h0, ite'_t rfl, h1, ite'_t rfl, LL_c hg, bindL_s, c24 (k := k) l[i] row (by omega) (by omega), iB']
      by_cases hc : cmpI l[i] row < 0
      · rw [ite'_t (by simpa using hc), next_i hi (m := l.length) (by omega)]
        exact ih (i + 1) n (by omega) (by omega)
      · rw [ite'_f (by simpa using hc), ite'_t rfl, ite'_t rfl, bindL_s, c24 (k := k) l[i] row (by omega) (by omega), iB']
        by_cases he : cmpI l[i] row = 0
        · rw [ite'_t (by simpa using he)]
          refine ⟨_, l, rfl, resL_d _ _, fun z => ?_, by omega⟩
          constructor
          · exact fun h => .inl h
          · rintro (h | rfl)
            · exact h
            · rw [← (cmpI_zero _ _).1 he]; exact List.getElem_mem hi
        · rw [ite'_f (by simpa using he)]
          exact ins i (by omega)
  exact main l.length 0 (k + 1) (by omega) (by omega)
/-- spec.Evaluate, the loop -/
theorem l23 (all : BL) (q : List Int) (X : Ovi.Rows) (hall : all.length ≤ 27000) (hl : ∀ x ∈ all, x.length = 5) (hq : ∀ v ∈ q, 0 ≤ v ∧ v < 5) (hq3 : q.length ≤ 3) (hk : 2000000 ≤ k) :
    ∃ ws, F23.L6 (k + 2) (C (k + 2)) (k + 2) [] 0 (I1 q) X (LL all) = some [(false, [.d (.list 1 (LL ws))])] ∧ (∀ z, z ∈ ws ↔ z ∈ all.map (proj q)) ∧ ws.length ≤ 27000 := by
  have hmax : (1048576 : Nat) ≤ maxLen := by decide
  have inner : ∀ (out : BL) (i : Nat) (hi : i < all.length), ∀ (m j n k6 : Nat), j + m = q.length → m < n →
      F23.L10 (k + 2) (C (k + 2)) k6 n (LL out) (i : Int) (j : Int) (I1 q) X (LL all) (I1 ((q.take j).map fun v => (all[i]).getD v.toNat 0)) =
      bindR (C (k + 2) 43 [.d (.list 1 (LL out)), .d (.list 1 (I1 (proj q all[i])))]) fun r15 => bindL (resL 1 1 false 1 r15 0 0) fun l16 => F23.L6 (k + 2) (C (k + 2)) k6 l16 ((i + 1 : Nat) : Int) (I1 q) X (LL all) := by
    intro out i hi m
    induction m with
    | zero =>
      intro j n k6 hm hn
      obtain ⟨n, rfl⟩ : ∃ p, n = p + 1 := ⟨n - 1, by omega⟩
      obtain rfl : j = q.length := by omega
      rw [F23.L10.succ, I1_len, ite'_f (lt_f (by omega)), List.take_length, next_i hi (m := all.length) (by omega)]
      rfl
    | succ m ih =>
      intro j n k6 hm hn
      obtain ⟨n, rfl⟩ : ∃ p, n = p + 1 := ⟨n - 1, by omega⟩
      have hj : j < q.length := by omega
      have hg := List.getElem?_eq_getElem hj
      have hb := hl _ (List.getElem_mem hi)
      obtain ⟨h1, h2⟩ := hq _ (List.getElem_mem hj)
      obtain ⟨p, hp⟩ : ∃ p : Nat, q[j] = (p : Int) := ⟨q[j].toNat, by omega⟩
      have hp5 : p < (all[i]).length := by omega
      have hbp : (all[i])[p]? = some ((all[i]).getD p 0) := by rw [List.getD_eq_getElem?_getD, List.getElem?_eq_getElem hp5]; rfl
      have := ih (j + 1) n k6 (by omega) (by omega)
      rw [List.take_succ_eq_append_getElem hj, List.map_append] at this
      rw [F23.L10.succ, I1_len, ite'_t (lt_t hj), LL_len, ite'_t (inR_t hi), LL_c (List.getElem?_eq_getElem hi), bindL_s, ite'_t (inR_t hj), I1_c hg, bindI_s, hp, I1_len, ite'_t (inR_t hp5), I1_c hbp, bindI_s, I1_len, ite'_t (fits_t (by simp only [List.length_map, List.length_take, List.length_cons, List.length_nil]; omega)), next_i hj (m := q.length) (by omega), I1_snoc, ← this]
      rw [List.map_cons, List.map_nil, hp, Int.toNat_natCast]
  have main : ∀ (m i n : Nat) (acc : BL), i + m = all.length → m < n → acc.length ≤ i → (∀ x ∈ acc, x.length ≤ 3) → ∃ ws, F23.L6 (k + 2) (C (k + 2)) n (LL acc) (i : Int) (I1 q) X (LL all) = some [(false, [.d (.list 1 (LL ws))])] ∧ (∀ z, z ∈ ws ↔ z ∈ acc ∨ z ∈ (all.drop i).map (proj q)) ∧ ws.length ≤ 27000 := by
    intro m
    induction m with
    | zero =>
      intro i n acc hm hn ha hx
      obtain ⟨n, rfl⟩ : ∃ j, n = j + 1 := ⟨n - 1, by omega⟩
      obtain rfl : i = all.length := by omega
      rw [F23.L6.succ, LL_len, ite'_f (lt_f (by omega)), List.drop_length]
      exact ⟨acc, rfl, by simp, by omega⟩
    | succ m ih =>
      intro i n acc hm hn ha hx
      obtain ⟨n, rfl⟩ : ∃ j, n = j + 1 := ⟨n - 1, by omega⟩
      have hi : i < all.length := by omega
      obtain ⟨r, ws, e1, e2, e3, e4⟩ := c43 (k := k) acc (proj q all[i]) (by omega) hx hk
      have := inner acc i hi q.length 0 (k + 2) n (by omega) (by omega)
      rw [List.take_zero, List.map_nil, show ((0 : Nat) : Int) = 0 from rfl, e1, bindR_s, e2, bindL_s] at this
      rw [F23.L6.succ, LL_len, ite'_t (lt_t hi), show F23.L10 (k + 2) (C (k + 2)) n (k + 2) (LL acc) (i : Int) 0 (I1 q) X (LL all) [] = _ from this]
      obtain ⟨ws2, g1, g2, g3⟩ := ih (i + 1) n ws (by omega) (by omega) (by omega) (fun x h => by
        rcases (e3 x).1 h with h | rfl
        · exact hx x h
        · simp only [proj, List.length_map]; omega)
      refine ⟨ws2, g1, fun z => ?_, g3⟩
      rw [g2, e3, List.drop_eq_getElem_cons hi, List.map_cons, List.mem_cons]
      constructor
      · rintro ((h | h) | h)
        · exact .inl h
        · exact .inr (.inl h)
        · exact .inr (.inr h)
      · rintro (h | h | h)
        · exact .inl (.inl h)
        · exact .inl (.inr h)
        · exact .inr h
  obtain ⟨ws, g1, g2, g3⟩ := main all.length 0 (k + 2) [] (by omega) (by omega) (Nat.zero_le _) (by simp)
  exact ⟨ws, g1, fun z => by rw [g2]; simp, g3⟩
/-- spec.IsAnswer, the loop -/
theorem l7 (ws : BL) (row : List Int) (hw : ws.length ≤ 27000) (hx : ∀ x ∈ ws, x.length ≤ 1048576) (hk : 2000000 ≤ k) : F7.L3 (k + 1) (C (k + 1)) (k + 1) (I1 row) (LL ws) 0 = bo (decide (row ∈ ws)) := by
  have hmax : (1048576 : Nat) ≤ maxLen := by decide
  have := loop_any (xs := ws) (L := fun n i => F7.L3 (k + 1) (C (k + 1)) n (I1 row) (LL ws) i) (stop := fun x => decide (x = row)) (hit := bo true) (fin := bo false)
    (fun n i x hxi => by
      have hi := (List.getElem?_eq_some_iff.1 hxi).1
      have := hx x (List.mem_of_getElem? hxi)
      rw [F7.L3.succ, LL_len, ite'_t (lt_t hi), ite'_t (inR_t hi), LL_c hxi, bindL_s, c24 (k := k) x row (by omega) (by omega), iB', next_i hi (m := ws.length) (by omega)]
      have : (cmpI x row == 0) = decide (x = row) := by
        rw [Bool.eq_iff_iff, beq_iff_eq, decide_eq_true_eq]
        exact cmpI_zero x row
      rw [this]; rfl)
    (fun n => by rw [F7.L3.succ, LL_len, ite'_f (lt_f (by omega))]; rfl) (k + 1) (by omega)
  rw [show F7.L3 (k + 1) (C (k + 1)) (k + 1) (I1 row) (LL ws) 0 = _ from this]
  have e : (ws.any fun x => decide (x = row)) = decide (row ∈ ws) := by
    rw [Bool.eq_iff_iff]; simp
  rw [e]
  cases decide (row ∈ ws) <;> rfl
end Go.Proofs.YtielkoncnddfdaaGreat.Q

/-! KLd -/
namespace Go.Proofs.YtielkoncnddfdaaGreat.Q
open Go Ovi
variable {k : Nat}
/-- impl.IsValidQuery's first part -/
theorem c66 {a : Ovi.Rows} {xs : List Atom} {valid : Atom → Bool} (hv : Valid a xs valid) (hk : 2000000 ≤ k) (ha : a.length ≤ 1048576) (hs : terms xs + xs.length ≤ 1048576) :
    C (k + 9) 66 [.d (.list 3 a), .d (.list 2 (A1 xs)), .d (.int .i64 3)] = bo (decide ((1 : Int) ≤ (xs.length : Int) ∧ (xs.length : Int) ≤ 3) && xs.all valid) := by
  have hmax : (1048576 : Nat) ≤ maxLen := by decide
  rw [F66.run, c96, bB, A1_len]
  cases decide ((1 : Int) ≤ (xs.length : Int) ∧ (xs.length : Int) ≤ 3) with
  | false => rfl
  | true =>
    rw [ite'_t rfl, c97 (k := k + 6) xs 98 [[.list 3 a]] (fun x => !valid x) (by omega) (by omega) (fun x hx => by
      have := len_terms hx
      rw [List.map_cons, List.map_nil, F98.run, (hv x hx k (by omega) (by omega)).1, bB]; rfl), bB]
    exact bo_eq (any_not xs valid)
/-- a query that is valid, and what the instance answers -/
structure Qok (a : Ovi.Rows) (fs xs : List Atom) (valid : Atom → Bool) (ib : Bool) : Prop where
  ha : a.length ≤ 1048576
  hs : terms xs + xs.length ≤ 1048576
  hv : Valid a xs valid
  h1 : 1 ≤ xs.length
  h3 : xs.length ≤ 3
  all : ∀ x ∈ xs, valid x = true
  inst : ∀ k, 2000000 ≤ k → C (k + 8) 64 [.agg [.d (.list 3 a), .d (.list 2 (A1 fs))]] = bo ib ∧ C (k + 8) 55 [.agg [.d (.list 3 a), .d (.list 2 (A1 fs))]] = bo ib
  mok : ib = true → Mok fs xs
variable {a : Ovi.Rows} {fs xs : List Atom} {valid : Atom → Bool} {ib : Bool}
theorem c104 (h : Qok a fs xs valid ib) (hk : 2000000 ≤ k) : C (k + 15) 104 [.agg [.d (.list 3 a), .d (.list 2 (A1 fs))], .d (.list 2 (A1 xs))] = bo ib := by
  rw [F104.run, (h.inst (k + 6) (by omega)).1, bB]
  cases ib with
  | false => rfl
  | true =>
    have := h.h1
    have h13 : decide ((1 : Int) ≤ (xs.length : Int) ∧ (xs.length : Int) ≤ 3) = true := decide_eq_true (by have := h.h3; omega)
    rw [ite'_t rfl, A1_len, ite'_f (beq_eq_false_iff_ne.2 (by omega)), c66 (k := k + 5) h.hv (by omega) h.ha h.hs, bB, h13, List.all_eq_true.2 h.all]
    rfl
theorem c70 (h : Qok a fs xs valid ib) (hk : 2000000 ≤ k) : C (k + 16) 70 [.agg [.d (.list 3 a), .d (.list 2 (A1 fs))], .d (.list 2 (A1 xs))] = bo ib := by
  have hmax : (1048576 : Nat) ≤ maxLen := by decide
  have h3 := h.h3
  rw [F70.run]
  have := loop_any (xs := xs) (L := fun n i => F70.L2 (k + 15) (C (k + 15)) n (A1 xs) i a (A1 fs)) (stop := fun x => !valid x) (hit := bo false) (fin := bo ib)
    (fun n i x hx => by
      have hi := (List.getElem?_eq_some_iff.1 hx).1
      have hxm := List.mem_of_getElem? hx
      have hl := len_terms hxm
      have hs := h.hs
      have ha := h.ha
      rw [F70.L2.succ, A1_len, ite'_t (lt_t hi), ite'_t (inR_t hi), A1_c0 hx, bindI_s, A1_c1 hx, bindL_s, (h.hv x hxm (k + 10) (by omega) (by omega)).2, bB, next_i hi (m := xs.length) (by omega)]; rfl)
    (fun n => by
      rw [F70.L2.succ, A1_len, ite'_f (lt_f (by omega)), (h.inst (k + 7) (by omega)).2, bB]
      cases ib with
      | false => rfl
      | true => rw [ite'_t rfl, decide_eq_true (by omega)]; rfl) (k + 15) (by omega)
  rw [show F70.L2 (k + 15) (C (k + 15)) (k + 15) (A1 xs) 0 a (A1 fs) = _ from this]
  have hf : (xs.any fun x => !valid x) = false := by
    rw [List.any_eq_false]
    intro x hx
    rw [h.all x hx]; decide
  rw [hf]; rfl
/-- every match found, each once -/
def mt (fs xs : List Atom) : BL := ded [] (mats fs xs tens)
theorem mats_short (h : Mok fs xs) : (mats fs xs tens).length ≤ 27000 ∧ ∀ x ∈ mats fs xs tens, x.length = 5 := ⟨h.lens tens, fun x hx => by rw [mats_mem fs xs tens x hx]; rfl⟩
theorem mt_short (h : Mok fs xs) : (mt fs xs).length ≤ 27000 ∧ ∀ x ∈ mt fs xs, x.length = 5 := by
  obtain ⟨h1, h2⟩ := mats_short h
  unfold mt
  refine ⟨?_, fun x hx => ?_⟩
  · have := ded_len (mats fs xs tens) []
    simp only [List.length_nil] at this
    omega
  · rcases (ded_mem _ _ _).1 hx with h | h
    · cases h
    · exact h2 x h
def mtr (ib : Bool) (fs xs : List Atom) : Option Res := cond ib (some [(false, [.row 26 1 (LL (mt fs xs))])]) (some [(false, [.nil])])
/-- impl.FindMatches -/
theorem c74 (h : Qok a fs xs valid ib) (hk : 2000000 ≤ k) : C (k + 16) 74 [.agg [.d (.list 3 a), .d (.list 2 (A1 fs))], .d (.list 2 (A1 xs))] = mtr ib fs xs := by
  rw [F74.run, c104 h hk, bB]
  cases ib with
  | false => rfl
  | true =>
    have hm := h.mok rfl
    have h3 := h.h3
    obtain ⟨h1, h2⟩ := mats_short hm
    obtain ⟨j, hj, hj2⟩ : ∃ j, k + 15 = j + xs.length + 3 ∧ 2000000 ≤ j := ⟨k + 12 - xs.length, by omega, by omega⟩
    have e105 : C (k + 15) 105 [.d (.list 2 (A1 fs)), .d (.list 2 (A1 xs)), .d (.list 1 (I1 tens))] = some [(false, [.row 26 1 (LL (mats fs xs tens))])] := by
      rw [hj]; exact c105 hj2 xs hm tens rfl
    rw [ite'_nt, c106 (k := k + 13)]
    simp only [bindR_s, resO_s, bindL_s]
    rw [e105]
    simp only [bindR_s, resO_s, bindL_s]
    rw [LL_len]
    exact l74 (k := k + 10) _ h1 h2 (by omega)
/-- spec.FindMatches -/
theorem c42 (h : Qok a fs xs valid ib) (hk : 2000000 ≤ k) : C (k + 17) 42 [.agg [.d (.list 3 a), .d (.list 2 (A1 fs))], .d (.list 2 (A1 xs))] = mtr ib fs xs := by
  rw [F42.run, c70 h hk, bB]
  cases ib with
  | false => rfl
  | true =>
    have hm := h.mok rfl
    have h3 := h.h3
    obtain ⟨h1, h2⟩ := mats_short hm
    have e71 : C (k + 16) 71 [.agg [.d (.list 3 a), .d (.list 2 (A1 fs))], .d (.list 2 (A1 xs)), .d (.int .i64 0), .d (.list 1 (I1 tens))] = some [(false, [.row 26 1 (LL (mats fs xs tens))])] := by
      have := c71 (a := a) hm (k := k + 13 - xs.length) (by omega) xs.length 0 (by omega) tens rfl
      rw [show k + 13 - xs.length + xs.length + 3 = k + 16 by omega] at this
      exact this
    rw [ite'_nt, c72 (k := k + 14) (by omega)]
    simp only [bindR_s, resO_s, bindL_s]
    rw [e71]
    simp only [bindR_s, resO_s, bindL_s]
    exact l42 (k := k + 15) _ h1 h2 (by omega)
/-- the answers -/
def ans (ib : Bool) (fs xs : List Atom) (q : List Int) : BL := cond ib ((mt fs xs).map (proj q)) []
theorem resO_nil26 : resO 26 1 1 false 1 [(false, [RL.nil])] 0 0 = some [] := rfl
theorem resL_nil11 : resL 1 1 false 1 [(false, [RL.nil])] 0 0 = some [] := rfl
theorem c49 (h : Qok a fs xs valid ib) (q : List Int) (hq : ∀ v ∈ q, 0 ≤ v ∧ v < 5) (hq3 : q.length ≤ 3) (hk : 2000000 ≤ k) : C (k + 17) 49 [.agg [.d (.list 3 a), .d (.list 2 (A1 fs))], .agg [.d (.list 1 (I1 q)), .d (.list 2 (A1 xs))], .d (.fn 50 [])] = some [(false, [.row 26 1 (LL (Lib.compact (sortLists (ans ib fs xs q))))])] := by
  rw [F49.run, c74 h hk]
  unfold mtr ans
  cases ib with
  | false =>
    simp only [cond_false, bindR_s, resO_nil26, bindL_s]
    exact l49 (k := k + 15) [] q (A1 xs) (by simp) (by simp) hq hq3 (by omega)
  | true =>
    obtain ⟨h1, h2⟩ := mt_short (h.mok rfl)
    simp only [cond_true, bindR_s, resO_s, bindL_s]
    rw [LL_len]
    exact l49 (k := k + 15) (mt fs xs) q (A1 xs) h1 h2 hq hq3 (by omega)
theorem l23' (h : Qok a fs xs valid ib) (q : List Int) (hq : ∀ v ∈ q, 0 ≤ v ∧ v < 5) (hq3 : q.length ≤ 3) (hk : 2000000 ≤ k) : ∃ ws, (bindR (C (k + 17) 42 [.agg [.d (.list 3 a), .d (.list 2 (A1 fs))], .d (.list 2 (A1 xs))]) fun r8 => bindL (resO 26 1 1 false 1 r8 0 0) fun l9 => F23.L6 (k + 17) (C (k + 17)) (k + 17) [] 0 (I1 q) (A1 xs) l9) = some [(false, [.d (.list 1 (LL ws))])] ∧ (∀ z, z ∈ ws ↔ z ∈ ans ib fs xs q) ∧ ws.length ≤ 27000 := by
  rw [c42 h hk]
  unfold mtr ans
  cases ib with
  | false =>
    simp only [cond_false, bindR_s, resO_nil26, bindL_s]
    exact l23 (k := k + 15) [] q (A1 xs) (by simp) (by simp) hq hq3 (by omega)
  | true =>
    obtain ⟨h1, h2⟩ := mt_short (h.mok rfl)
    simp only [cond_true, bindR_s, resO_s, bindL_s]
    exact l23 (k := k + 15) (mt fs xs) q (A1 xs) h1 h2 hq hq3 (by omega)
theorem ans_len (hm : ib = true → Mok fs xs) (q : List Int) : (ans ib fs xs q).length ≤ 27000 ∧ ∀ x ∈ ans ib fs xs q, x.length = q.length := by
  unfold ans
  cases ib with
  | false => simp
  | true =>
    obtain ⟨h1, h2⟩ := mt_short (hm rfl)
    refine ⟨by rw [cond_true, List.length_map]; exact h1, fun x hx => ?_⟩
    obtain ⟨b, _, rfl⟩ := List.mem_map.1 hx
    simp [proj]
/-- both IsAnswer answer alike -/
theorem isAns {a : Ovi.Rows} (ha : Fit Rl (.list 3 a)) (fs xs : List Atom) (q row : List Int) (hI : ∀ x ∈ fs, ∀ z ∈ x.2, inI z) (hk : 2000000 ≤ k) (hal : a.length ≤ 1048576) (hfs : terms fs + fs.length ≤ 1048576) (hs : terms xs + xs.length ≤ 1048576) (hq : q.length ≤ 1048576) :
    ∃ b, C (k + 20) 7 [.agg [.d (.list 3 a), .d (.list 2 (A1 fs))], .agg [.d (.list 1 (I1 q)), .d (.list 2 (A1 xs))], .d (.list 1 (I1 row))] = bo b ∧ C (k + 20) 11 [.agg [.d (.list 3 a), .d (.list 2 (A1 fs))], .agg [.d (.list 1 (I1 q)), .d (.list 2 (A1 xs))], .d (.list 1 (I1 row))] = bo b := by
  have hmax : (1048576 : Nat) ≤ maxLen := by decide
  obtain ⟨valid, hval, hv⟩ := valid_ex ha xs (fun x hx => by have := len_terms hx; omega)
  obtain ⟨ib, hib, hinst⟩ := instB ha fs hI hfs hal
  have e28 := c37 (k := k + 8) (out := q) hv (by omega) hal hs hq
  have e23 := c33 (k := k + 8) (out := q) hv (by omega) hal hs hq
  rw [F7.run, F11.run, F23.run, F28.run, e28, e23, bB, bB]
  have hok : qOk valid xs q = true → Qok a fs xs valid ib ∧ (∀ v ∈ q, 0 ≤ v ∧ v < 5) ∧ q.length ≤ 3 := by
    intro h
    unfold qOk at h
    simp only [Bool.and_eq_true, decide_eq_true_eq, List.all_eq_true] at h
    obtain ⟨⟨⟨h1, h2⟩, h3⟩, h4, h5⟩ := h
    have hvar : ∀ v ∈ q, isVar xs v := fun v hvm => by
      have := h5 v hvm
      unfold vB at this
      exact @of_decide_eq_true _ (Classical.propDecidable _) this
    refine ⟨⟨hal, hs, hv, by omega, by omega, h3, hinst, fun hb => ?_⟩, fun v hvm => ?_, by omega⟩
    · obtain ⟨g1, g2⟩ := hib hb
      refine ⟨g1, by omega, fun x hx => ⟨(hval x hx (h3 x hx)).2.2, by have := len_terms hx; omega⟩, fun x hx f hf hxf => ?_⟩
      have p1 := (hval x hx (h3 x hx)).2.1
      have p2 := (g2 f hf).2
      rw [← hxf] at p2
      omega
    · obtain ⟨g1, x, hx, hz⟩ := hvar v hvm
      have := (hval x hx (h3 x hx)).2.2 v hz
      omega
  cases hqo : qOk valid xs q with
  | false =>
    refine ⟨false, ?_, ?_⟩
    · rw [ite'_nf]
      simp only [bindR_s, resL_nil11, bindL_s]
      exact l7 (k := k + 18) [] row (by simp) (by simp) (by omega)
    · rw [ite'_nf]
      simp only [bindR_s, resO_nil26, bindL_s]
      have := c27 (k := k + 14) [] row (by simp) (by simp) (by simp) (by omega)
      rw [show (C (k + 19) 27 [.d (.list 1 []), .d (.list 1 (I1 row))]) = bo (decide (row ∈ ([] : BL))) from this]
      simp [bB, bo]
      rfl
  | true =>
    obtain ⟨hQ, hq5, hq3⟩ := hok hqo
    obtain ⟨ws, g1, g2, g3⟩ := l23' (k := k + 1) hQ q hq5 hq3 (by omega)
    obtain ⟨k1, k2⟩ := ans_len hQ.mok q
    refine ⟨decide (row ∈ ans ib fs xs q), ?_, ?_⟩
    · rw [ite'_nt, g1]
      simp only [bindR_s, resL_d, bindL_s]
      rw [l7 (k := k + 18) ws row g3 (fun x hx => by rw [k2 x ((g2 x).1 hx)]; omega) (by omega)]
      exact bo_eq (by rw [Bool.eq_iff_iff, decide_eq_true_eq, decide_eq_true_eq]; exact g2 row)
    · have hml : ∀ x, x ∈ Lib.compact (sortLists (ans ib fs xs q)) ↔ x ∈ ans ib fs xs q := fun x => by rw [mem_compactL, mem_sortLists]
      have hcl := compactL_len (sortLists (ans ib fs xs q))
      rw [sortLists_len] at hcl
      rw [ite'_nt, c49 (k := k + 1) hQ q hq5 hq3 (by omega)]
      simp only [bindR_s, resO_s, bindL_s]
      rw [c27 (k := k + 14) _ row (by omega) (by omega) (fun x hx => by rw [k2 x ((hml x).1 hx)]; omega) (by omega), bB]
      exact bo_eq (by rw [Bool.eq_iff_iff, decide_eq_true_eq, decide_eq_true_eq]; exact hml row)
theorem law3 (hk : 3000000 ≤ k) {a b c d e : Ovi.Rows} (h1 : Fit Rl (.list 3 a)) (h2 : Fit At (.list 2 b)) (h3 : Fit In1 (.list 1 c)) (h4 : Fit At (.list 2 d)) (h5 : Fit In1 (.list 1 e)) : C k 3 [.agg [.d (.list 3 a), .d (.list 2 b)], .agg [.d (.list 1 c), .d (.list 2 d)], .d (.list 1 e)] = bo true := by
  obtain ⟨k, rfl⟩ : ∃ j, k = j + 21 := ⟨k - 21, by omega⟩
  obtain ⟨es, rfl⟩ := h5.ints
  rw [F3.run, I1_len]
  by_cases hr : (es.length : Int) > 1048576
  · rw [ite'_t (by simpa using hr)]; rfl
  rw [ite'_f (by simpa using hr), c5 (k := k + 20) (by omega) h1 h2 (by omega) (by omega)]
  simp only [bindR_s, resI_s, bindI_s]
  rcases szT_cases 1048576 (szC [.list 3 a, .list 2 b]) with ⟨q1, e1⟩ | ⟨q1, e1⟩ <;> rw [e1]
  rotate_left
  · rw [ite'_t neg_t]; rfl
  have p1 := q1
  simp only [szC] at p1
  have z1 : szD (.list 3 a) ≤ 1048576 := by omega
  have z2 : szD (.list 2 b) ≤ 1048576 := by omega
  rw [ite'_f (neg_f (by omega)), c6 (k := k + 20) (by omega) h3 h4 (by omega) (by omega)]
  simp only [bindR_s, resI_s, bindI_s]
  rcases szT_cases (1048576 - ((szC [.list 3 a, .list 2 b] : Nat) : Int)) (szC [.list 1 c, .list 2 d]) with ⟨q2, e2⟩ | ⟨q2, e2⟩ <;> rw [e2]
  rotate_left
  · rw [ite'_t neg_t]; rfl
  have p2 := q2
  simp only [szC] at p2
  have z3 : szD (.list 1 c) ≤ 1048576 := by omega
  have z4 : szD (.list 2 d) ≤ 1048576 := by omega
  have z5 : szD (.list 1 (I1 es)) ≤ 1048576 := by rw [sz_ints]; omega
  rw [ite'_f (neg_f (by omega)), c8 (k := k + 20) (by omega) h1 h2 z1 z2]
  simp only [bindR_s, F8x0, F8x1, bindL_s]
  rw [c9 (k := k + 20) (by omega) h3 h4 z3 z4]
  simp only [bindR_s, F9x0, F9x1, bindL_s]
  rw [c10 (k := k + 20) (by omega) h5 z5]
  simp only [bindR_s, resO_s, bindL_s]
  obtain ⟨fs, rfl, hF⟩ := h2.atoms'
  obtain ⟨xs, rfl, hX⟩ := h4.atoms'
  obtain ⟨q, rfl⟩ := h3.ints
  have y2 := z2
  have y4 := z4
  have y3 := z3
  rw [sz_atoms] at y2 y4
  rw [sz_ints] at y3
  obtain ⟨n, g1, g2⟩ := isAns (k := k) h1 fs xs q es (fun x hx => (hF x hx).2) (by omega) (Nat.le_trans sz_rels z1) (by omega) (by omega) y3
  rw [g1, bB, g2, bB, ite'_f (by cases n <;> rfl), c12 (k := k + 20) (by omega) h1 h2 z1 z2]
  simp only [bindR_s, resB_s, bindB_s]
  rw [ite'_nt, c13 (k := k + 20) (by omega) h3 h4 z3 z4]
  simp only [bindR_s, resB_s, bindB_s]
  rw [ite'_nt, c14 (k := k + 20) (by omega) h5 z5]
  rfl
end Go.Proofs.YtielkoncnddfdaaGreat.Q

/-! KMa -/
namespace Go.Proofs.YtielkoncnddfdaaGreat.Q
open Go Ovi
variable {k : Nat}
/-! ### canonical instances -/
def neg (t : Int) : Int := -1 - t
def inst (x : Atom) : Atom := (x.1, x.2.map neg)
def nv : List Int := [-1, -2, -3, -4, -5]
theorem neg_w {t : Int} (h : -10 ≤ t ∧ t ≤ 4) : IntKind.i64.wrap (-1 - t) = neg t := wrap_id (by omega) (by omega)
theorem neg_ok {t : Int} (h : -10 ≤ t ∧ t ≤ 4) : okV (neg t) = true := by unfold okV neg; rw [decide_eq_true_eq]; omega
theorem neg_in {t : Int} (h : -10 ≤ t ∧ t ≤ 4) : inI (neg t) := by unfold inI neg; omega
theorem nv_at {q : Nat} (h : q < 5) : nv[q]? = some (neg (q : Int)) := by
  match q, h with
  | 0, _ => rfl
  | 1, _ => rfl
  | 2, _ => rfl
  | 3, _ => rfl
  | 4, _ => rfl
def okI (r : Int) (vs : List Int) : Option Res := some [(true, [.d (.int .i64 r), .row 3 1 (I1 vs)]), (false, [.d (.bool true)])]
theorem okI_s {r : Int} {vs : List Int} {f : Int → Ovi.Rows → Bool → Option Res} : (bindR (okI r vs) fun r16 => bindI (resI .i64 2 true 2 r16 0 0) fun n17 => bindL (resO 3 1 2 true 2 r16 0 1) fun l18 => bindB (resB 2 false 1 r16 1 0) fun b19 => f n17 l18 b19) = f r (I1 vs) true := rfl
theorem l61 (ts : List Int) (r : Int) (hT : okT ts) (hz : ts.length ≤ 1048576) : ∀ (m i n : Nat) (acc : List Int), i + m = ts.length → m < n → acc.length ≤ i → F61.L3 (k + 2) (C (k + 2)) n (I1 nv) (I1 ts) (ts.length : Int) (i : Int) 0 [] r (I1 acc) = okI r (acc ++ (ts.drop i).map neg) := by
  have hmax : (1048576 : Nat) ≤ maxLen := by decide
  intro m
  induction m with
  | zero =>
    intro i n acc hm hn ha
    obtain ⟨n, rfl⟩ : ∃ j, n = j + 1 := ⟨n - 1, by omega⟩
    obtain rfl : i = ts.length := by omega
    rw [F61.L3.succ, ite'_f (lt_f (by omega)), List.drop_length, List.map_nil, List.append_nil]
    rfl
  | succ m ih =>
    intro i n acc hm hn ha
    obtain ⟨n, rfl⟩ : ∃ j, n = j + 1 := ⟨n - 1, by omega⟩
    have hi : i < ts.length := by omega
    have hg := List.getElem?_eq_getElem hi
    have ht := hT _ (List.getElem_mem hi)
    have hnx := ih (i + 1) n (acc ++ [neg ts[i]]) (by omega) (by omega) (by rw [List.length_append, List.length_singleton]; omega)
    rw [List.append_assoc, List.singleton_append] at hnx
    rw [F61.L3.succ, ite'_t (lt_t hi), I1_len, ite'_t (inR_t hi), I1_c hg, bindI_s, List.drop_eq_getElem_cons hi, List.map_cons, next_i hi (m := ts.length) (by omega), I1_len]
    have hf : fits (acc.length + [[D.int IntKind.i64 (neg ts[i])]].length) = true := fits_t (by simp only [List.length_cons, List.length_nil]; omega)
    by_cases h0 : ts[i] ≥ 0
    · obtain ⟨q, hq⟩ : ∃ q : Nat, ts[i] = (q : Int) := ⟨ts[i].toNat, by omega⟩
      have hq5 : q < nv.length := by show q < 5; omega
      rw [ite'_t (by simpa using h0), hq, I1_len, ite'_f (decide_eq_false (by omega)), ite'_t (inR_t hq5), I1_c (nv_at hq5), bindI_s, c84 (k := k) (neg q), bB, neg_ok (by omega), ite'_nt]
      rw [hq] at hf hnx
      rw [ite'_t hf, I1_snoc]
      exact hnx
    · rw [ite'_f (by simpa using h0), neg_w ht, c84 (k := k), bB, neg_ok ht, ite'_nt, I1_len, ite'_t hf, I1_snoc]
      exact hnx
/-- impl.Instantiate -/
theorem c61 (x : Atom) (hT : okT x.2) (hz : x.2.length ≤ 1048576) (hk : 2000000 ≤ k) : C (k + 3) 61 [.agg [.d (.int .i64 x.1), .d (.list 1 (I1 x.2))], .d (.list 1 (I1 nv))] = okI x.1 (inst x).2 := by
  rw [F61.run, I1_len]
  exact l61 x.2 x.1 hT hz x.2.length 0 (k + 2) [] (by omega) (by omega) (Nat.le_refl _)
theorem l53 (ts : List Int) (r : Int) (hT : okT ts) (hz : ts.length ≤ 1048576) : ∀ (m i n : Nat) (acc : List Int), i + m = ts.length → m < n → acc.length ≤ i → F53.L3 (k + 3) (C (k + 3)) n (I1 nv) (i : Int) r (I1 ts) 0 [] r (I1 acc) = okI r (acc ++ (ts.drop i).map neg) := by
  have hmax : (1048576 : Nat) ≤ maxLen := by decide
  intro m
  induction m with
  | zero =>
    intro i n acc hm hn ha
    obtain ⟨n, rfl⟩ : ∃ j, n = j + 1 := ⟨n - 1, by omega⟩
    obtain rfl : i = ts.length := by omega
    rw [F53.L3.succ, I1_len, ite'_f (lt_f (by omega)), List.drop_length, List.map_nil, List.append_nil]
    rfl
  | succ m ih =>
    intro i n acc hm hn ha
    obtain ⟨n, rfl⟩ : ∃ j, n = j + 1 := ⟨n - 1, by omega⟩
    have hi : i < ts.length := by omega
    have hg := List.getElem?_eq_getElem hi
    have ht := hT _ (List.getElem_mem hi)
    have hnx := ih (i + 1) n (acc ++ [neg ts[i]]) (by omega) (by omega) (by rw [List.length_append, List.length_singleton]; omega)
    rw [List.append_assoc, List.singleton_append] at hnx
    rw [F53.L3.succ, I1_len, ite'_t (lt_t hi), ite'_t (inR_t hi), I1_c hg, bindI_s, ite'_t (inR_t hi), bindI_s, List.drop_eq_getElem_cons hi, List.map_cons, next_i hi (m := ts.length) (by omega)]
    have hf : fits (acc.length + [[D.int IntKind.i64 (neg ts[i])]].length) = true := fits_t (by simp only [List.length_cons, List.length_nil]; omega)
    by_cases h0 : ts[i] ≥ 0
    · obtain ⟨q, hq⟩ : ∃ q : Nat, ts[i] = (q : Int) := ⟨ts[i].toNat, by omega⟩
      have hq5 : q < nv.length := by show q < 5; omega
      rw [ite'_t (by simpa using h0), ite'_t (inR_t hi), bindI_s, hq, I1_len, ite'_f (decide_eq_false (by omega)), ite'_t (inR_t hi), bindI_s, ite'_t (inR_t hq5), I1_c (nv_at hq5), bindI_s, c76 (k := k) (neg_in (by omega)), bB, neg_ok (by omega), ite'_nt, ite'_t (inR_t hi), bindI_s, ite'_f (decide_eq_false (by omega))]
      rw [hq] at hf hnx
      rw [I1_len, ite'_t hf, I1_snoc]
      exact hnx
    · rw [ite'_f (by simpa using h0), neg_w ht, c76 (k := k) (neg_in ht), bB, neg_ok ht, ite'_nt, ite'_t (inR_t hi), bindI_s, ite'_t (decide_eq_true (by omega)), ite'_f (decide_eq_false (by unfold neg; omega)), I1_len, ite'_t hf, I1_snoc]
      exact hnx
/-- spec.Instantiate -/
theorem c53 (x : Atom) (hT : okT x.2) (hz : x.2.length ≤ 1048576) (hk : 2000000 ≤ k) : C (k + 4) 53 [.agg [.d (.int .i64 x.1), .d (.list 1 (I1 x.2))], .d (.list 1 (I1 nv))] = okI x.1 (inst x).2 := by
  rw [F53.run]
  exact l53 x.2 x.1 hT hz x.2.length 0 (k + 3) [] (by omega) (by omega) (Nat.le_refl _)
/-! ### facts: copied, sorted, put in their place -/
theorem c112 (x : Atom) (hz : x.2.length ≤ 1048576) : C (k + 2) 112 [.agg [.d (.int .i64 x.1), .d (.list 1 (I1 x.2))]] = some [(true, [.d (.int .i64 x.1), .row 3 1 (I1 x.2)])] := by
  have e : C (k + 1) 126 [.d (.list 1 (I1 x.2))] = some [(false, [.row 3 1 (I1 x.2)])] := by
    have : C (k + 1) 126 [.d (.list 1 (I1 x.2))] = cloneP 3 [.d (.list 1 (I1 x.2))] := by kernel_rfl
    rw [this]
    simp only [cloneP, ints_I1]
    rw [show Nat.ble x.2.length 1099511627776 = true from Nat.ble_eq_true_of_le (by omega)]
    rfl
  rw [F112.run, e]
  rfl
theorem A1_snoc (l : List Atom) (x : Atom) : A1 l ++ [[D.int .i64 x.1, D.list 1 (I1 x.2)]] = A1 (l ++ [x]) := by simp [A1]
theorem A1_app (l l' : List Atom) : A1 l ++ A1 l' = A1 (l ++ l') := by simp [A1]
theorem A1_take (l : List Atom) (i : Nat) : (A1 l).take i = A1 (l.take i) := by simp [A1]
theorem A1_drop (l : List Atom) (i : Nat) : (A1 l).drop i = A1 (l.drop i) := by simp [A1]
/-- impl.factsCopy -/
theorem c86 (xs : List Atom) (hx : ∀ x ∈ xs, x.2.length ≤ 1048576) (hl : xs.length ≤ 1048576) (hk : 2000000 ≤ k) : C (k + 3) 86 [.d (.list 2 (A1 xs))] = some [(false, [.row 81 2 (A1 xs)])] := by
  have hmax : (1048576 : Nat) ≤ maxLen := by decide
  rw [F86.run, A1_len]
  have main : ∀ (m i n : Nat), i + m = xs.length → m < n → F86.L3 (k + 2) (C (k + 2)) n (A1 xs) (xs.length : Int) (i : Int) (A1 (xs.take i)) = some [(false, [.row 81 2 (A1 xs)])] := by
    intro m
    induction m with
    | zero =>
      intro i n hm hn
      obtain ⟨n, rfl⟩ : ∃ j, n = j + 1 := ⟨n - 1, by omega⟩
      obtain rfl : i = xs.length := by omega
      rw [F86.L3.succ, ite'_f (lt_f (by omega)), List.take_length]
    | succ m ih =>
      intro i n hm hn
      obtain ⟨n, rfl⟩ : ∃ j, n = j + 1 := ⟨n - 1, by omega⟩
      have hi : i < xs.length := by omega
      have hg := List.getElem?_eq_getElem hi
      have := ih (i + 1) n (by omega) (by omega)
      rw [List.take_succ_eq_append_getElem hi] at this
      rw [F86.L3.succ, ite'_t (lt_t hi), A1_len, ite'_t (inR_t hi), A1_c0 hg, bindI_s, A1_c1 hg, bindL_s, c112 (k := k) xs[i] (hx _ (List.getElem_mem hi))]
      show ite' (fits ((A1 (xs.take i)).length + [[D.int IntKind.i64 (xs[i]).1, D.list 1 (I1 (xs[i]).2)]].length)) (F86.L3 (k + 2) (C (k + 2)) n (A1 xs) (xs.length : Int) (IntKind.i64.wrap ((i : Int) + 1)) (A1 (xs.take i) ++ [[D.int IntKind.i64 (xs[i]).1, D.list 1 (I1 (xs[i]).2)]])) none = _
      rw [ite'_t (fits_t (by rw [A1_len, List.length_take]; simp only [List.length_cons, List.length_nil]; omega)), next_i hi (m := xs.length) (by omega), A1_snoc]
      exact this
  exact main xs.length 0 (k + 2) (by omega) (by omega)
/-- facts, each once, in order -/
def can (xs : List Atom) : List Atom := Lib.compact (sortAtoms xs)
theorem can_len (xs : List Atom) : (can xs).length ≤ xs.length := by
  have := compactA_len (sortAtoms xs)
  rw [sortAtoms_len] at this
  exact this
theorem mem_can (xs : List Atom) (z : Atom) : z ∈ can xs ↔ z ∈ xs := by unfold can; rw [mem_compactA, mem_sortAtoms]
theorem atoms_small {l : List Atom} (hl : l.length ≤ 1048576) (hx : ∀ x ∈ l, x.2.length ≤ 1048576) : (Nat.ble l.length 1099511627776 && l.all fun z => Nat.ble z.2.length 1099511627776) = true := by
  rw [Bool.and_eq_true, List.all_eq_true]
  exact ⟨Nat.ble_eq_true_of_le (by omega), fun z hz => Nat.ble_eq_true_of_le (by have := hx z hz; omega)⟩
/-- impl.factsSet -/
theorem c63 (xs : List Atom) (hx : ∀ x ∈ xs, x.2.length ≤ 1048576) (hl : xs.length ≤ 1048576) (hk : 2000000 ≤ k) : C (k + 4) 63 [.d (.list 2 (A1 xs))] = some [(false, [.row 81 2 (A1 (can xs))])] := by
  have e1 : C (k + 3) 87 [.var 0 0, .d (.int .i64 81), .d (.list 2 (A1 xs)), .d (.fn 88 [])] = some [(false, [.row 81 2 (A1 (sortAtoms xs))])] := by
    have : C (k + 3) 87 [.var 0 0, .d (.int .i64 81), .d (.list 2 (A1 xs)), .d (.fn 88 [])] = sortAP 88 [.var 0 0, .d (.int .i64 81), .d (.list 2 (A1 xs)), .d (.fn 88 [])] := by kernel_rfl
    rw [this]
    unfold sortAP atomArg
    simp only [atomsOf_A1, Option.bind_some]
    rw [atoms_small hl hx]
    rfl
  have e2 : C (k + 3) 89 [.var 0 0, .d (.int .i64 81), .d (.list 2 (A1 (sortAtoms xs))), .d (.fn 90 [])] = some [(false, [.row 81 2 (A1 (can xs))]), (true, [])] := by
    have : C (k + 3) 89 [.var 0 0, .d (.int .i64 81), .d (.list 2 (A1 (sortAtoms xs))), .d (.fn 90 [])] = compAP 90 [.var 0 0, .d (.int .i64 81), .d (.list 2 (A1 (sortAtoms xs))), .d (.fn 90 [])] := by kernel_rfl
    rw [this]
    unfold compAP atomArg
    simp only [atomsOf_A1, Option.bind_some]
    rw [atoms_small (by rw [sortAtoms_len]; exact hl) (fun x h => hx x ((mem_sortAtoms _ _).1 h))]
    rfl
  rw [F63.run, c86 xs hx hl hk]
  simp only [bindR_s, resO_s, bindL_s]
  rw [e1]
  simp only [bindR_s, resO_s, bindL_s]
  rw [e2]
  rfl
theorem F62x {a : Ovi.Rows} {b : Ovi.Rows} {f : Ovi.Rows → Ovi.Rows → Option Res} : (bindR (some [(true, [.row 70 3 a, .row 81 2 b])]) fun r16 => bindL (resO 70 3 1 true 2 r16 0 0) fun l17 => bindL (resO 81 2 1 true 2 r16 0 1) fun l18 => f l17 l18) = f a b := rfl
/-- impl.instanceCopy, where there are relations -/
theorem c62 {a : Ovi.Rows} (ha : 1 ≤ a.length) (ha2 : a.length ≤ 1048576) (xs : List Atom) (hx : ∀ x ∈ xs, x.2.length ≤ 1048576) (hl : xs.length ≤ 1048576) (hk : 2000000 ≤ k) : C (k + 4) 62 [.agg [.d (.list 3 a), .d (.list 2 (A1 xs))]] = some [(true, [.row 70 3 a, .row 81 2 (A1 xs)])] := by
  have e : C (k + 3) 85 [.d (.list 3 a)] = some [(false, [.row 70 3 a])] := by
    have : C (k + 3) 85 [.d (.list 3 a)] = cloneKP 70 3 [.d (.list 3 a)] := by kernel_rfl
    have e2 : cloneKP 70 3 [.d (.list 3 a)] = cond (Nat.beq 3 3 && (Nat.ble 1 a.length && Nat.ble a.length 1099511627776)) (some [(false, [.row 70 3 a])]) none := rfl
    rw [this, e2]
    rw [show (Nat.beq 3 3 && (Nat.ble 1 a.length && Nat.ble a.length 1099511627776)) = true by
      rw [show Nat.ble 1 a.length = true from Nat.ble_eq_true_of_le ha, show Nat.ble a.length 1099511627776 = true from Nat.ble_eq_true_of_le (by omega)]; rfl]
    rfl
  rw [F62.run, e]
  simp only [bindR_s, resO_s, bindL_s]
  rw [c86 xs hx hl hk]
  rfl
theorem c79 (x : Atom) (hz : x.2.length ≤ 1048576) : C (k + 1) 79 [.agg [.d (.int .i64 x.1), .d (.list 1 (I1 x.2))]] = some [(true, [.d (.int .i64 x.1), .row 3 1 (I1 x.2)])] := by
  have hmax : (1048576 : Nat) ≤ maxLen := by decide
  rw [F79.run, I1_len, ite'_t (fits_t (by omega))]
/-- spec.l5Copy -/
theorem c56 {a : Ovi.Rows} (ha2 : a.length ≤ 1048576) (xs : List Atom) (hx : ∀ x ∈ xs, x.2.length ≤ 1048576) (hl : xs.length ≤ 1048576) (hk : 2000000 ≤ k) : C (k + 3) 56 [.agg [.d (.list 3 a), .d (.list 2 (A1 xs))]] = some [(true, [.row 70 3 a, .row 81 2 (A1 xs)])] := by
  have hmax : (1048576 : Nat) ≤ maxLen := by decide
  rw [F56.run, ite'_t (fits_t (by omega))]
  have main : ∀ (m i n : Nat), i + m = xs.length → m < n → F56.L3 (k + 2) (C (k + 2)) n (i : Int) a (A1 xs) [] [] a (A1 (xs.take i)) = some [(true, [.row 70 3 a, .row 81 2 (A1 xs)])] := by
    intro m
    induction m with
    | zero =>
      intro i n hm hn
      obtain ⟨n, rfl⟩ : ∃ j, n = j + 1 := ⟨n - 1, by omega⟩
      obtain rfl : i = xs.length := by omega
      rw [F56.L3.succ, A1_len, ite'_f (lt_f (by omega)), List.take_length]
    | succ m ih =>
      intro i n hm hn
      obtain ⟨n, rfl⟩ : ∃ j, n = j + 1 := ⟨n - 1, by omega⟩
      have hi : i < xs.length := by omega
      have hg := List.getElem?_eq_getElem hi
      have := ih (i + 1) n (by omega) (by omega)
      rw [List.take_succ_eq_append_getElem hi] at this
      rw [F56.L3.succ, A1_len, ite'_t (lt_t hi), ite'_t (inR_t hi), A1_c0 hg, bindI_s, A1_c1 hg, bindL_s, c79 (k := k + 1) xs[i] (hx _ (List.getElem_mem hi))]
      show ite' (fits ((A1 (xs.take i)).length + [[D.int IntKind.i64 (xs[i]).1, D.list 1 (I1 (xs[i]).2)]].length)) (F56.L3 (k + 2) (C (k + 2)) n (IntKind.i64.wrap ((i : Int) + 1)) a (A1 xs) [] [] a (A1 (xs.take i) ++ [[D.int IntKind.i64 (xs[i]).1, D.list 1 (I1 (xs[i]).2)]])) none = _
      rw [ite'_t (fits_t (by rw [A1_len, List.length_take]; simp only [List.length_cons, List.length_nil]; omega)), next_i hi (m := xs.length) (by omega), A1_snoc]
      exact this
  exact main xs.length 0 (k + 2) (by omega) (by omega)
theorem cmpI_L : ∀ (a b : List Int), cmpI a b = cmpL a b
  | [], [] => rfl
  | [], _ :: _ => rfl
  | _ :: _, [] => rfl
  | x :: xs, y :: ys => by
    unfold cmpI cmpL
    rw [cmpI_L xs ys]
theorem cmpF_A (x y : Atom) : cmpF x y = cmpA x y := by unfold cmpF cmpA; rw [cmpI_L]
theorem cmpF_zero (x y : Atom) : cmpF x y = 0 ↔ x = y := by
  unfold cmpF
  constructor
  · intro h
    by_cases h1 : x.1 < y.1
    · rw [if_pos h1] at h; omega
    · rw [if_neg h1] at h
      by_cases h2 : x.1 > y.1
      · rw [if_pos h2] at h; omega
      · rw [if_neg h2] at h
        exact Prod.ext (by omega) ((cmpI_zero _ _).1 h)
  · rintro rfl
    rw [if_neg (by omega), if_neg (by omega)]
    exact (cmpI_zero _ _).2 rfl
/-- spec.l5Place -/
theorem c77 {a : Ovi.Rows} (xs : List Atom) (f : Atom) (hx : ∀ x ∈ xs, x.2.length ≤ 1048576) (hl : xs.length ≤ 1048576) (hk : 2000000 ≤ k) : ∃ n, C (k + 4) 77 [.agg [.d (.list 3 a), .d (.list 2 (A1 xs))], .agg [.d (.int .i64 f.1), .d (.list 1 (I1 f.2))]] = io n ∧ (n ≥ 0 ↔ f ∈ xs) := by
  have hmax : (1048576 : Nat) ≤ maxLen := by decide
  rw [F77.run]
  have := loop_find (xs := xs) (L := fun n i => F77.L2 (k + 3) (C (k + 3)) n i a (A1 xs) f.1 (I1 f.2)) (stop := fun _ x => decide (x = f)) (hit := fun i => io (i : Int)) (fin := io (-1))
    (fun n i x hxi => by
      have hi := (List.getElem?_eq_some_iff.1 hxi).1
      have hxl := hx x (List.mem_of_getElem? hxi)
      rw [F77.L2.succ, A1_len, ite'_t (lt_t hi), ite'_t (inR_t hi), A1_c0 hxi, bindI_s, A1_c1 hxi, bindL_s, c78 (k := k + 1) x f (by omega) (by omega), iB', next_i hi (m := xs.length) (by omega)]
      have : (cmpF x f == 0) = decide (x = f) := by
        rw [Bool.eq_iff_iff, beq_iff_eq, decide_eq_true_eq]
        exact cmpF_zero x f
      rw [this]; rfl)
    (fun n => by rw [F77.L2.succ, A1_len, ite'_f (lt_f (by omega))]; rfl) (k + 3) (by omega)
  rcases this with ⟨i, x, hxi, hst, e⟩ | ⟨hst, e⟩
  · refine ⟨(i : Int), e, ?_⟩
    simp only [decide_eq_true_eq] at hst
    subst hst
    exact ⟨fun _ => List.mem_of_getElem? hxi, fun _ => by omega⟩
  · refine ⟨-1, e, ?_⟩
    constructor
    · intro h; omega
    · intro h
      obtain ⟨i, hi⟩ := List.mem_iff_getElem?.1 h
      have := hst i f hi
      simp at this
/-- spec.l5Put -/
theorem c54 {a : Ovi.Rows} (xs : List Atom) (f : Atom) (hS : SSA xs) (hx : ∀ x ∈ xs, x.2.length ≤ 1048576) (hf : f.2.length ≤ 1048576) (hl : xs.length ≤ 1000000) (hk : 2000000 ≤ k) :
    ∃ r ws, C (k + 5) 54 [.agg [.d (.list 3 a), .d (.list 2 (A1 xs))], .agg [.d (.int .i64 f.1), .d (.list 1 (I1 f.2))]] = some r ∧ resL 3 1 true 2 r 0 0 = some a ∧ resL 2 1 true 2 r 0 1 = some (A1 ws) ∧ SSA ws ∧ (∀ z, z ∈ ws ↔ z ∈ xs ∨ z = f) ∧ ws.length ≤ xs.length + 1 := by
  have hmax : (1048576 : Nat) ≤ maxLen := by decide
  obtain ⟨n, e77, hn⟩ := c77 (k := k) (a := a) xs f hx (by omega) hk
  rw [F54.run, e77, iB']
  by_cases h0 : n ≥ 0
  · rw [ite'_t (by simpa using h0)]
    have hm := hn.1 h0
    refine ⟨_, xs, rfl, rfl, rfl, hS, fun z => ?_, by omega⟩
    constructor
    · exact fun h => .inl h
    · rintro (h | rfl)
      · exact h
      · exact hm
  · rw [ite'_f (by simpa using h0)]
    have hm : f ∉ xs := fun h => h0 (hn.2 h)
    have ins : ∀ i : Nat, i ≤ xs.length → (∀ j y, j < i → xs[j]? = some y → ltA y f = true) → (∀ y, xs[i]? = some y → ltA y f = false) →
        ∃ r ws, (ite' (inS (i : Int) ((A1 xs).length : Int) (A1 xs).length) (ite' (fits ([[D.int IntKind.i64 f.1, D.list 1 (I1 f.2)]].length + (List.drop (i : Int).toNat (A1 xs)).length)) (ite' (inS (0 : Int) (i : Int) (A1 xs).length) (ite' (fits (List.take (i : Int).toNat (A1 xs)).length) (ite' (fits ((List.take (i : Int).toNat (A1 xs)).length + List.length ([[D.int IntKind.i64 f.1, D.list 1 (I1 f.2)]] ++ List.drop (i : Int).toNat (A1 xs)))) (some ([(true, [RL.d (D.list 3 a), RL.row 81 2 (List.take (i : Int).toNat (A1 xs) ++ ([[D.int IntKind.i64 f.1, D.list 1 (I1 f.2)]] ++ List.drop (i : Int).toNat (A1 xs)))])])) (none)) (none)) (none)) (none)) (none)) = some r ∧ resL 3 1 true 2 r 0 0 = some a ∧ resL 2 1 true 2 r 0 1 = some (A1 ws) ∧ SSA ws ∧ (∀ z, z ∈ ws ↔ z ∈ xs ∨ z = f) ∧ ws.length ≤ xs.length + 1 := by
      intro i hi hlt hge
      rw [Int.toNat_natCast, A1_len, A1_take, A1_drop, ite'_t (by simp only [inS, decide_eq_true_eq]; omega), ite'_t (fits_t (by rw [A1_len, List.length_drop]; simp; omega)), ite'_t (by simp only [inS, decide_eq_true_eq]; omega), ite'_t (fits_t (by rw [A1_len, List.length_take]; omega)), ite'_t (fits_t (by rw [A1_len, List.length_take, List.length_append, A1_len, List.length_drop]; simp; omega))]
      have e : A1 (xs.take i) ++ ([[D.int IntKind.i64 f.1, D.list 1 (I1 f.2)]] ++ A1 (xs.drop i)) = A1 (xs.take i ++ f :: xs.drop i) := by simp [A1]
      rw [e]
      refine ⟨_, xs.take i ++ f :: xs.drop i, rfl, rfl, rfl, ssA_ins hS hm hlt hge, fun z => mem_ins i, ?_⟩
      simp only [List.length_append, List.length_cons, List.length_take, List.length_drop]; omega
    have main : ∀ (m i n : Nat), i + m = xs.length → m < n → (∀ j y, j < i → xs[j]? = some y → ltA y f = true) → ∃ r ws, F54.L4 (k + 4) (C (k + 4)) n (i : Int) a (A1 xs) f.1 (I1 f.2) [] [] = some r ∧ resL 3 1 true 2 r 0 0 = some a ∧ resL 2 1 true 2 r 0 1 = some (A1 ws) ∧ SSA ws ∧ (∀ z, z ∈ ws ↔ z ∈ xs ∨ z = f) ∧ ws.length ≤ xs.length + 1 := by
      intro m
      induction m with
      | zero =>
        intro i n hm' hn' hlt
        obtain ⟨n, rfl⟩ : ∃ j, n = j + 1 := ⟨n - 1, by omega⟩
        obtain rfl : i = xs.length := by omega
        have h0 : decide (((xs.length : Nat) : Int) < ((A1 xs).length : Int)) = false := by rw [A1_len]; exact lt_f (by omega)
        rw [F54.L4.succ, h0, ite'_f rfl, c79 (k := k + 3) f hf]
        exact ins xs.length (Nat.le_refl _) hlt (fun y hy => by rw [List.getElem?_eq_none (Nat.le_refl _)] at hy; cases hy)
      | succ m ih =>
        intro i n hm' hn' hlt
        obtain ⟨n, rfl⟩ : ∃ j, n = j + 1 := ⟨n - 1, by omega⟩
        have hi : i < xs.length := by omega
        have hg := List.getElem?_eq_getElem hi
        have hxl := hx _ (List.getElem_mem hi)
        have h0 : decide ((i : Int) < ((A1 xs).length : Int)) = true := by rw [A1_len]; exact lt_t hi
        have h1 : inR (i : Int) (A1 xs).length = true := by rw [A1_len]; exact inR_t hi
        rw [F54.L4.succ, h0, ite'_t rfl, h1, ite'_t rfl, A1_c0 hg, bindI_s, A1_c1 hg, bindL_s, c78 (k := k + 2) xs[i] f (by omega) (by omega), iB']
        by_cases hc : cmpF xs[i] f < 0
        · rw [ite'_t (by simpa using hc), next_i hi (m := xs.length) (by omega)]
          refine ih (i + 1) n (by omega) (by omega) fun j y hj hy => ?_
          by_cases hji : j = i
          · subst hji
            rw [hg] at hy; cases hy
            unfold ltA
            rw [← cmpF_A, decide_eq_true_eq]; exact hc
          · exact hlt j y (by omega) hy
        · rw [ite'_f (by simpa using hc), c79 (k := k + 3) f hf]
          refine ins i (by omega) hlt fun y hy => ?_
          rw [hg] at hy; cases hy
          unfold ltA
          rw [← cmpF_A, decide_eq_false_iff_not]; exact hc
    exact main xs.length 0 (k + 4) (by omega) (by omega) (fun j y hj => by omega)
end Go.Proofs.YtielkoncnddfdaaGreat.Q

/-! KMb -/
namespace Go.Proofs.YtielkoncnddfdaaGreat.Q
open Go Ovi
variable {k : Nat}
theorem terms_app (l l' : List Atom) : terms (l ++ l') = terms l + terms l' := by simp [terms]
theorem terms_compact (d : List Atom) : terms (Lib.compact d) ≤ terms d := by
  have key : ∀ m, m ≤ d.length → terms (Lib.compactUpTo d.toArray m) ≤ terms (d.take m) := by
    intro m
    induction m with
    | zero => intro _; simp [Lib.compactUpTo, terms]
    | succ m ih =>
      intro hm
      have h1 := ih (by omega)
      rw [Lib.compactUpTo_succ, terms_app, List.take_succ_eq_append_getElem (show m < d.length by omega), terms_app]
      have e : d.toArray[m]! = d[m] := by rw [getElem!_pos _ m (by simp; omega)]; simp
      by_cases hk : Lib.keeps d.toArray m = true
      · rw [if_pos hk, e]; omega
      · rw [if_neg hk]
        have : terms ([] : List Atom) = 0 := rfl
        omega
  have := key d.length (Nat.le_refl _)
  rw [List.take_length] at this
  exact this
theorem terms_can (l : List Atom) : terms (can l) ≤ terms l := by
  have h1 := terms_compact (sortAtoms l)
  have h2 : terms (sortAtoms l) = terms l := by
    unfold terms
    exact ((List.mergeSort_perm _ _).map _).sum_nat
  unfold can
  omega
theorem terms_inst (xs : List Atom) : terms (xs.map inst) = terms xs := by
  unfold terms
  rw [List.map_map]
  congr 1
  apply List.map_congr_left
  intro x _
  simp [inst]
/-- what both canonical instances are made of -/
def cn (xs : List Atom) : List Atom := can (xs.map inst)
theorem cn_mem {xs : List Atom} {z : Atom} : z ∈ cn xs ↔ z ∈ xs.map inst := mem_can _ _
theorem cn_len (xs : List Atom) : (cn xs).length ≤ xs.length := by have := can_len (xs.map inst); rw [List.length_map] at this; exact this
theorem cn_short {xs : List Atom} (hx : ∀ x ∈ xs, x.2.length ≤ 1048576) : ∀ z ∈ cn xs, z.2.length ≤ 1048576 := by
  intro z hz
  obtain ⟨x, hx', rfl⟩ := List.mem_map.1 (cn_mem.1 hz)
  have := hx x hx'
  simpa [inst] using this
theorem cn_in {xs : List Atom} (hT : ∀ x ∈ xs, okT x.2) : ∀ z ∈ cn xs, ∀ t ∈ z.2, inI t := by
  intro z hz t ht
  obtain ⟨x, hx', rfl⟩ := List.mem_map.1 (cn_mem.1 hz)
  obtain ⟨u, hu, rfl⟩ := List.mem_map.1 ht
  exact neg_in (hT x hx' u hu)
/-- an instance, or none -/
def cr (ib : Bool) (a : Ovi.Rows) (fs : List Atom) : Option Res := cond ib (some [(true, [.row 70 3 a, .row 81 2 (A1 fs)]), (false, [.d (.bool true)])]) (some [(true, [.nil, .nil]), (false, [.d (.bool false)])])
section
variable {a : Ovi.Rows} {xs : List Atom} {ib : Bool}
/-- impl.CanonicalInstance, the second loop -/
theorem l36 (ha : 1 ≤ a.length) (ha2 : a.length ≤ 1048576) (hT : ∀ x ∈ xs, okT x.2) (hx : ∀ x ∈ xs, x.2.length ≤ 1048576) (hl : xs.length ≤ 3) (h64 : ∀ k, 2000000 ≤ k → C (k + 8) 64 [.agg [.d (.list 3 a), .d (.list 2 (A1 (cn xs)))]] = bo ib) (hk : 2000000 ≤ k) :
    F36.L10 (k + 8) (C (k + 8)) (k + 8) a (I1 nv) (A1 xs) (xs.length : Int) 0 [] [] [] = cr ib a (cn xs) := by
  have hmax : (1048576 : Nat) ≤ maxLen := by decide
  have main : ∀ (m i n : Nat), i + m = xs.length → m < n → F36.L10 (k + 8) (C (k + 8)) n a (I1 nv) (A1 xs) (xs.length : Int) (i : Int) [] [] (A1 ((xs.take i).map inst)) = cr ib a (cn xs) := by
    intro m
    induction m with
    | zero =>
      intro i n hm hn
      obtain ⟨n, rfl⟩ : ∃ j, n = j + 1 := ⟨n - 1, by omega⟩
      obtain rfl : i = xs.length := by omega
      have hxi : ∀ x ∈ xs.map inst, x.2.length ≤ 1048576 := fun z hz => cn_short hx z (cn_mem.2 hz)
      have hcl := cn_len xs
      rw [F36.L10.succ, ite'_f (lt_f (by omega)), List.take_length, c63 (k := k + 4) (xs.map inst) hxi (by rw [List.length_map]; omega) (by omega)]
      simp only [bindR_s, resO_s, bindL_s]
      have e62 : C (k + 8) 62 [.agg [.d (.list 3 a), .d (.list 2 (A1 (can (xs.map inst))))]] = some [(true, [.row 70 3 a, .row 81 2 (A1 (can (xs.map inst)))])] := c62 (k := k + 4) ha ha2 (cn xs) (cn_short hx) (by omega) (by omega)
      rw [e62, F62x]
      have e64 := h64 k hk
      rw [show (C (k + 8) 64 [.agg [.d (.list 3 a), .d (.list 2 (A1 (can (xs.map inst))))]]) = bo ib from e64, bB]
      cases ib <;> rfl
    | succ m ih =>
      intro i n hm hn
      obtain ⟨n, rfl⟩ : ∃ j, n = j + 1 := ⟨n - 1, by omega⟩
      have hi : i < xs.length := by omega
      have hg := List.getElem?_eq_getElem hi
      have hmem := List.getElem_mem hi
      have := ih (i + 1) n (by omega) (by omega)
      rw [List.take_succ_eq_append_getElem hi, List.map_append, List.map_singleton] at this
      rw [F36.L10.succ, ite'_t (lt_t hi), A1_len, ite'_t (inR_t hi), A1_c0 hg, bindI_s, A1_c1 hg, bindL_s, c61 (k := k + 5) xs[i] (hT _ hmem) (hx _ hmem) (by omega), okI_s, ite'_t (fits_t (by rw [A1_len, List.length_map, List.length_take]; simp only [List.length_cons, List.length_nil]; omega)), next_i hi (m := xs.length) (by omega)]
      rw [← this]
      congr 1
      exact A1_snoc _ (inst xs[i])
  exact main xs.length 0 (k + 8) (by omega) (by omega)
theorem c38 (k : Nat) (v : Int) (h : -10 ≤ v ∧ v ≤ 4) : C (k + 1) 38 [.d (.int .i64 v)] = io (neg v) := by rw [F38.run, neg_w h]; rfl
theorem c34 (k : Nat) (v : Int) (h : -10 ≤ v ∧ v ≤ 4) : C (k + 1) 34 [.d (.int .i64 v)] = io (neg v) := by rw [F34.run, neg_w h]; rfl
theorem nv_take {i : Nat} (h : i < 5) : nv.take (i + 1) = nv.take i ++ [neg (i : Int)] := by
  match i, h with
  | 0, _ => rfl
  | 1, _ => rfl
  | 2, _ => rfl
  | 3, _ => rfl
  | 4, _ => rfl
/-- impl.CanonicalInstance, the first loop -/
theorem l36a (b : Ovi.Rows) (q : Ovi.Rows) (hk : 2000000 ≤ k) : F36.L5 (k + 8) (C (k + 8)) (k + 8) a 0 q b [] [] [] [] = F36.L10 (k + 8) (C (k + 8)) (k + 8) a (I1 nv) b (b.length : Int) 0 [] [] [] := by
  have hmax : (1048576 : Nat) ≤ maxLen := by decide
  have main : ∀ (m i n : Nat), i + m = 5 → m < n → F36.L5 (k + 8) (C (k + 8)) n a (i : Int) q b [] [] (I1 (nv.take i)) [] = F36.L10 (k + 8) (C (k + 8)) (k + 8) a (I1 nv) b (b.length : Int) 0 [] [] [] := by
    intro m
    induction m with
    | zero =>
      intro i n hm hn
      obtain ⟨n, rfl⟩ : ∃ j, n = j + 1 := ⟨n - 1, by omega⟩
      obtain rfl : i = 5 := by omega
      rw [F36.L5.succ, ite'_f (by decide)]
      rfl
    | succ m ih =>
      intro i n hm hn
      obtain ⟨n, rfl⟩ : ∃ j, n = j + 1 := ⟨n - 1, by omega⟩
      have hi : i < 5 := by omega
      have := ih (i + 1) n (by omega) (by omega)
      rw [nv_take hi] at this
      rw [F36.L5.succ, ite'_t (decide_eq_true (by omega)), c38 (k + 7) _ (by omega), iB', ite'_t (fits_t (by rw [I1_len, List.length_take]; simp only [List.length_cons, List.length_nil]; omega)), next_i hi (m := 5) (by omega), I1_snoc]
      exact this
  exact main 5 0 (k + 8) (by omega) (by omega)
theorem F54x {r : Res} {a : Ovi.Rows} {b : Ovi.Rows} {f : Ovi.Rows → Ovi.Rows → Option Res} (h1 : resL 3 1 true 2 r 0 0 = some a) (h2 : resL 2 1 true 2 r 0 1 = some b) : (bindR (some r) fun r20 => bindL (resL 3 1 true 2 r20 0 0) fun l21 => bindL (resL 2 1 true 2 r20 0 1) fun l22 => f l21 l22) = f a b := by
  rw [bindR_s, h1, bindL_s, h2, bindL_s]
/-- spec.CanonicalInstance, the second loop -/
theorem l32 (ha2 : a.length ≤ 1048576) (hT : ∀ x ∈ xs, okT x.2) (hx : ∀ x ∈ xs, x.2.length ≤ 1048576) (hl : xs.length ≤ 3) (h55 : ∀ k, 2000000 ≤ k → C (k + 8) 55 [.agg [.d (.list 3 a), .d (.list 2 (A1 (cn xs)))]] = bo ib) (q : Ovi.Rows) (hk : 2000000 ≤ k) :
    F32.L10 (k + 8) (C (k + 8)) (k + 8) (I1 nv) 0 q (A1 xs) [] [] a [] = cr ib a (cn xs) := by
  have hmax : (1048576 : Nat) ≤ maxLen := by decide
  have main : ∀ (m i n : Nat) (fs : List Atom), i + m = xs.length → m < n → SSA fs → (∀ z, z ∈ fs ↔ z ∈ (xs.take i).map inst) → fs.length ≤ i → F32.L10 (k + 8) (C (k + 8)) n (I1 nv) (i : Int) q (A1 xs) [] [] a (A1 fs) = cr ib a (cn xs) := by
    intro m
    induction m with
    | zero =>
      intro i n fs hm hn hS hmem hfl
      obtain ⟨n, rfl⟩ : ∃ j, n = j + 1 := ⟨n - 1, by omega⟩
      obtain rfl : i = xs.length := by omega
      have e : fs = cn xs := by
        refine ssA_eq hS (ssA_compact _) fun z => ?_
        rw [hmem z, List.take_length]
        exact cn_mem.symm
      subst e
      rw [F32.L10.succ, A1_len, ite'_f (lt_f (by omega)), h55 k hk, bB]
      cases ib with
      | false => rfl
      | true =>
        have hcl := cn_len xs
        rw [ite'_nt, c56 (k := k + 5) ha2 (cn xs) (cn_short hx) (by omega) (by omega), F62x]
        rfl
    | succ m ih =>
      intro i n fs hm hn hS hmem hfl
      obtain ⟨n, rfl⟩ : ∃ j, n = j + 1 := ⟨n - 1, by omega⟩
      have hi : i < xs.length := by omega
      have hg := List.getElem?_eq_getElem hi
      have hgm := List.getElem_mem hi
      have hfx : ∀ x ∈ fs, x.2.length ≤ 1048576 := by
        intro z hz
        obtain ⟨x, hx', rfl⟩ := List.mem_map.1 ((hmem z).1 hz)
        have := hx x (List.mem_of_mem_take hx')
        simpa [inst] using this
      obtain ⟨r, ws, e1, e2, e3, e4, e5, e6⟩ := c54 (k := k + 3) (a := a) fs (inst xs[i]) hS hfx (by have := hx _ hgm; simpa [inst] using this) (by omega) (by omega)
      rw [F32.L10.succ, A1_len, ite'_t (lt_t hi), ite'_t (inR_t hi), A1_c0 hg, bindI_s, A1_c1 hg, bindL_s, c53 (k := k + 4) xs[i] (hT _ hgm) (hx _ hgm) (by omega), okI_s]
      rw [show (C (k + 8) 54 [.agg [.d (.list 3 a), .d (.list 2 (A1 fs))], .agg [.d (.int .i64 (xs[i]).1), .d (.list 1 (I1 (inst xs[i]).2))]]) = some r from e1, F54x e2 e3, next_i hi (m := xs.length) (by omega)]
      refine ih (i + 1) n ws (by omega) (by omega) e4 (fun z => ?_) (by omega)
      rw [e5, hmem, List.take_succ_eq_append_getElem hi, List.map_append, List.mem_append, List.map_singleton, List.mem_singleton]
  exact main xs.length 0 (k + 8) [] (by omega) (by omega) (by simp [SSA]) (by simp) (Nat.zero_le _)
theorem l32a (b : Ovi.Rows) (q : Ovi.Rows) (hk : 2000000 ≤ k) : F32.L6 (k + 8) (C (k + 8)) (k + 8) 0 q b [] [] a [] [] = F32.L10 (k + 8) (C (k + 8)) (k + 8) (I1 nv) 0 q b [] [] a [] := by
  have hmax : (1048576 : Nat) ≤ maxLen := by decide
  have main : ∀ (m i n : Nat), i + m = 5 → m < n → F32.L6 (k + 8) (C (k + 8)) n (i : Int) q b [] [] a [] (I1 (nv.take i)) = F32.L10 (k + 8) (C (k + 8)) (k + 8) (I1 nv) 0 q b [] [] a [] := by
    intro m
    induction m with
    | zero =>
      intro i n hm hn
      obtain ⟨n, rfl⟩ : ∃ j, n = j + 1 := ⟨n - 1, by omega⟩
      obtain rfl : i = 5 := by omega
      rw [F32.L6.succ, ite'_f (by decide)]
      rfl
    | succ m ih =>
      intro i n hm hn
      obtain ⟨n, rfl⟩ : ∃ j, n = j + 1 := ⟨n - 1, by omega⟩
      have hi : i < 5 := by omega
      have := ih (i + 1) n (by omega) (by omega)
      rw [nv_take hi] at this
      rw [F32.L6.succ, ite'_t (decide_eq_true (by omega)), c34 (k + 7) _ (by omega), iB', ite'_t (fits_t (by rw [I1_len, List.length_take]; simp only [List.length_cons, List.length_nil]; omega)), next_i hi (m := 5) (by omega), I1_snoc]
      exact this
  exact main 5 0 (k + 8) (by omega) (by omega)
end
end Go.Proofs.YtielkoncnddfdaaGreat.Q

/-! KMc -/
namespace Go.Proofs.YtielkoncnddfdaaGreat.Q
open Go Ovi
variable {k : Nat}
theorem crx {a b : Ovi.Rows} {f : Ovi.Rows → Ovi.Rows → Bool → Option Res} : (bindR (some [(true, [.row 70 3 a, .row 81 2 b]), (false, [.d (.bool true)])]) fun r7 => bindL (resO 70 3 2 true 2 r7 0 0) fun l8 => bindL (resO 81 2 2 true 2 r7 0 1) fun l9 => bindB (resB 2 false 1 r7 1 0) fun b10 => f l8 l9 b10) = f a b true := rfl
theorem crx0 {f : Ovi.Rows → Ovi.Rows → Bool → Option Res} : (bindR (some [(true, [.nil, .nil]), (false, [.d (.bool false)])]) fun r7 => bindL (resO 70 3 2 true 2 r7 0 0) fun l8 => bindL (resO 81 2 2 true 2 r7 0 1) fun l9 => bindB (resB 2 false 1 r7 1 0) fun b10 => f l8 l9 b10) = f [] [] false := rfl
theorem qOk_of {a : Ovi.Rows} {xs : List Atom} {valid : Atom → Bool} {q : List Int} (hval : ∀ x ∈ xs, valid x = true → (0 ≤ x.1 ∧ x.1 < (a.length : Int)) ∧ (x.2.length : Int) = ar a x.1 ∧ ∀ t ∈ x.2, -10 ≤ t ∧ t ≤ 4) (h : qOk valid xs q = true) :
    (∀ x ∈ xs, okT x.2) ∧ 1 ≤ a.length ∧ xs.length ≤ 3 ∧ (∀ v ∈ q, 0 ≤ v ∧ v ≤ 4) ∧ q.length ≤ 3 := by
  unfold qOk at h
  simp only [Bool.and_eq_true, decide_eq_true_eq, List.all_eq_true] at h
  obtain ⟨⟨⟨h1, h2⟩, h3⟩, h4, h5⟩ := h
  have hvar : ∀ v ∈ q, isVar xs v := fun v hvm => by
    have := h5 v hvm
    unfold vB at this
    exact @of_decide_eq_true _ (Classical.propDecidable _) this
  refine ⟨fun x hx => (hval x hx (h3 x hx)).2.2, ?_, by omega, fun v hvm => ?_, by omega⟩
  · have hl : 0 < xs.length := by omega
    have := (hval _ (List.getElem_mem hl) (h3 _ (List.getElem_mem hl))).1
    omega
  · obtain ⟨g1, x, hx, hz⟩ := hvar v hvm
    have := (hval x hx (h3 x hx)).2.2 v hz
    omega
/-- impl.IsContained, the loop -/
theorem l18 {a : Ovi.Rows} {fs xs : List Atom} (q q2 : List Int) {b : Bool} (hq : ∀ v ∈ q, 0 ≤ v ∧ v ≤ 4) (hq3 : q.length ≤ 3) (hk : 2000000 ≤ k)
    (h11 : C (k + 20) 11 [.agg [.d (.list 3 a), .d (.list 2 (A1 fs))], .agg [.d (.list 1 (I1 q2)), .d (.list 2 (A1 xs))], .d (.list 1 (I1 (q.map neg)))] = bo b) :
    F18.L6 (k + 20) (C (k + 20)) (k + 20) (I1 q) (q.length : Int) 0 (I1 q2) (A1 xs) a (A1 fs) [] = bo b := by
  have hmax : (1048576 : Nat) ≤ maxLen := by decide
  have main : ∀ (m i n : Nat), i + m = q.length → m < n → F18.L6 (k + 20) (C (k + 20)) n (I1 q) (q.length : Int) (i : Int) (I1 q2) (A1 xs) a (A1 fs) (I1 ((q.take i).map neg)) = bo b := by
    intro m
    induction m with
    | zero =>
      intro i n hm hn
      obtain ⟨n, rfl⟩ : ∃ j, n = j + 1 := ⟨n - 1, by omega⟩
      obtain rfl : i = q.length := by omega
      rw [F18.L6.succ, ite'_f (lt_f (by omega)), List.take_length, h11, bB]
      rfl
    | succ m ih =>
      intro i n hm hn
      obtain ⟨n, rfl⟩ : ∃ j, n = j + 1 := ⟨n - 1, by omega⟩
      have hi : i < q.length := by omega
      have hg := List.getElem?_eq_getElem hi
      have hv := hq _ (List.getElem_mem hi)
      have := ih (i + 1) n (by omega) (by omega)
      rw [List.take_succ_eq_append_getElem hi, List.map_append, List.map_singleton] at this
      rw [F18.L6.succ, ite'_t (lt_t hi), I1_len, ite'_t (inR_t hi), I1_c hg, bindI_s, c38 (k + 19) _ (by omega), iB', ite'_t (fits_t (by rw [I1_len, List.length_map, List.length_take]; simp only [List.length_cons, List.length_nil]; omega)), next_i hi (m := q.length) (by omega), I1_snoc]
      exact this
  exact main q.length 0 (k + 20) (by omega) (by omega)
/-- spec.IsContained, the loop -/
theorem l16 {a : Ovi.Rows} {fs xs : List Atom} (q q2 : List Int) (X : Ovi.Rows) {b : Bool} (hq : ∀ v ∈ q, 0 ≤ v ∧ v ≤ 4) (hq3 : q.length ≤ 3) (hk : 2000000 ≤ k)
    (h7 : C (k + 20) 7 [.agg [.d (.list 3 a), .d (.list 2 (A1 fs))], .agg [.d (.list 1 (I1 q2)), .d (.list 2 (A1 xs))], .d (.list 1 (I1 (q.map neg)))] = bo b) :
    F16.L6 (k + 20) (C (k + 20)) (k + 20) 0 (I1 q) X (I1 q2) (A1 xs) a (A1 fs) [] = bo b := by
  have hmax : (1048576 : Nat) ≤ maxLen := by decide
  have main : ∀ (m i n : Nat), i + m = q.length → m < n → F16.L6 (k + 20) (C (k + 20)) n (i : Int) (I1 q) X (I1 q2) (A1 xs) a (A1 fs) (I1 ((q.take i).map neg)) = bo b := by
    intro m
    induction m with
    | zero =>
      intro i n hm hn
      obtain ⟨n, rfl⟩ : ∃ j, n = j + 1 := ⟨n - 1, by omega⟩
      obtain rfl : i = q.length := by omega
      rw [F16.L6.succ, I1_len, ite'_f (lt_f (by omega)), List.take_length, h7, bB]
      rfl
    | succ m ih =>
      intro i n hm hn
      obtain ⟨n, rfl⟩ : ∃ j, n = j + 1 := ⟨n - 1, by omega⟩
      have hi : i < q.length := by omega
      have hg := List.getElem?_eq_getElem hi
      have hv := hq _ (List.getElem_mem hi)
      have := ih (i + 1) n (by omega) (by omega)
      rw [List.take_succ_eq_append_getElem hi, List.map_append, List.map_singleton] at this
      rw [F16.L6.succ, I1_len, ite'_t (lt_t hi), ite'_t (inR_t hi), I1_c hg, bindI_s, c34 (k + 19) _ (by omega), iB', ite'_t (fits_t (by rw [I1_len, List.length_map, List.length_take]; simp only [List.length_cons, List.length_nil]; omega)), next_i hi (m := q.length) (by omega), I1_snoc]
      exact this
  exact main q.length 0 (k + 20) (by omega) (by omega)
/-- both CanonicalInstance answer alike -/
theorem canon {a : Ovi.Rows} (ha : Fit Rl (.list 3 a)) (hal : a.length ≤ 1048576) (xs : List Atom) (q : List Int) (hs : terms xs + xs.length ≤ 1048576) (hq : q.length ≤ 1048576) :
    ∃ ib, (ib = true → (∀ x ∈ xs, okT x.2) ∧ xs.length ≤ 3 ∧ (∀ v ∈ q, 0 ≤ v ∧ v ≤ 4) ∧ q.length ≤ 3) ∧ ∀ k, 2000000 ≤ k → C (k + 20) 32 [.d (.list 3 a), .agg [.d (.list 1 (I1 q)), .d (.list 2 (A1 xs))]] = cr ib a (cn xs) ∧ C (k + 20) 36 [.d (.list 3 a), .agg [.d (.list 1 (I1 q)), .d (.list 2 (A1 xs))]] = cr ib a (cn xs) := by
  have hmax : (1048576 : Nat) ≤ maxLen := by decide
  obtain ⟨valid, hval, hv⟩ := valid_ex ha xs (fun x hx => by have := len_terms hx; omega)
  cases hqo : qOk valid xs q with
  | false =>
    refine ⟨false, fun h => (by cases h), fun k hk => ?_⟩
    have e37 := c37 (k := k + 9) (out := q) hv (by omega) hal hs hq
    have e33 := c33 (k := k + 9) (out := q) hv (by omega) hal hs hq
    rw [F32.run, F36.run, e37, e33, bB, bB, hqo, ite'_nf, ite'_nf]
    exact ⟨rfl, rfl⟩
  | true =>
    obtain ⟨g1, g2, g3, g4, g5⟩ := qOk_of hval hqo
    have hx : ∀ x ∈ xs, x.2.length ≤ 1048576 := fun x hx => by have := len_terms hx; omega
    have ht := terms_can (xs.map inst)
    rw [terms_inst] at ht
    have hcl := cn_len xs
    obtain ⟨ib, _, hinst⟩ := instB ha (cn xs) (cn_in g1) (by unfold cn at hcl ⊢; omega) hal
    refine ⟨ib, fun _ => ⟨g1, g3, g4, g5⟩, fun k hk => ?_⟩
    have e37 := c37 (k := k + 9) (out := q) hv (by omega) hal hs hq
    have e33 := c33 (k := k + 9) (out := q) hv (by omega) hal hs hq
    rw [F32.run, F36.run, e37, e33, bB, bB, hqo, ite'_nt, ite'_nt, ite'_t (fits_t (by omega))]
    constructor
    · have h1 := l32a (k := k + 11) (a := a) (A1 xs) (I1 q) (by omega)
      have h2 := l32 (k := k + 11) hal g1 hx g3 (fun k hk => (hinst k hk).2) (I1 q) (by omega)
      exact h1.trans h2
    · have h1 := l36a (k := k + 11) (a := a) (A1 xs) (I1 q) (by omega)
      rw [A1_len] at h1
      have h2 := l36 (k := k + 11) g2 hal g1 hx g3 (fun k hk => (hinst k hk).1) (by omega)
      exact h1.trans h2
/-- both IsContained answer alike -/
theorem isCon {a : Ovi.Rows} (ha : Fit Rl (.list 3 a)) (hal : a.length ≤ 1048576) (xs ys : List Atom) (q p : List Int) (hk : 2000000 ≤ k) (hs : terms xs + xs.length ≤ 1048576) (hq : q.length ≤ 1048576) (hs2 : terms ys + ys.length ≤ 1048576) (hp : p.length ≤ 1048576) :
    ∃ b, C (k + 21) 16 [.d (.list 3 a), .agg [.d (.list 1 (I1 q)), .d (.list 2 (A1 xs))], .agg [.d (.list 1 (I1 p)), .d (.list 2 (A1 ys))]] = bo b ∧ C (k + 21) 18 [.d (.list 3 a), .agg [.d (.list 1 (I1 q)), .d (.list 2 (A1 xs))], .agg [.d (.list 1 (I1 p)), .d (.list 2 (A1 ys))]] = bo b := by
  have hmax : (1048576 : Nat) ≤ maxLen := by decide
  obtain ⟨ib, hib, hc⟩ := canon ha hal xs q hs hq
  obtain ⟨e32, e36⟩ := hc k hk
  rw [F16.run, F18.run, e32, e36]
  cases ib with
  | false =>
    refine ⟨false, ?_, ?_⟩
    · unfold cr
      rw [cond_false, crx0, ite'_nf]; rfl
    · unfold cr
      rw [cond_false, crx0, ite'_nf]; rfl
  | true =>
    obtain ⟨g1, g3, g4, g5⟩ := hib rfl
    obtain ⟨valid, hval, hv⟩ := valid_ex ha ys (fun x hx => by have := len_terms hx; omega)
    have e37 := c37 (k := k + 10) (out := p) hv (by omega) hal hs2 hp
    have e33 := c33 (k := k + 10) (out := p) hv (by omega) hal hs2 hp
    unfold cr
    rw [cond_true, crx, crx, ite'_nt, ite'_nt, e37, e33, bB, bB, I1_len, I1_len]
    cases hqo : qOk valid ys p with
    | false => exact ⟨false, by rw [ite'_nf]; rfl, by rw [ite'_nf]; rfl⟩
    | true =>
      rw [ite'_nt, ite'_nt]
      by_cases hl : q.length = p.length
      · rw [ite'_f (by simp [hl]), ite'_f (by simp [hl])]
        have ht := terms_can (xs.map inst)
        rw [terms_inst] at ht
        have hcl := cn_len xs
        obtain ⟨b, h7, h11⟩ := isAns (k := k) ha (cn xs) ys p (q.map neg) (cn_in g1) hk hal (by unfold cn at hcl ⊢; omega) hs2 hp
        exact ⟨b, l16 q p (A1 xs) g4 g5 hk h7, l18 q p g4 g5 hk h11⟩
      · exact ⟨false, by rw [ite'_t (by simp; omega)]; rfl, by rw [ite'_t (by simp; omega)]; rfl⟩
theorem law4 (hk : 3000000 ≤ k) {a b c d e : Ovi.Rows} (h1 : Fit Rl (.list 3 a)) (h2 : Fit In1 (.list 1 b)) (h3 : Fit At (.list 2 c)) (h4 : Fit In1 (.list 1 d)) (h5 : Fit At (.list 2 e)) : C k 4 [.d (.list 3 a), .agg [.d (.list 1 b), .d (.list 2 c)], .agg [.d (.list 1 d), .d (.list 2 e)]] = bo true := by
  obtain ⟨k, rfl⟩ : ∃ j, k = j + 22 := ⟨k - 22, by omega⟩
  rw [F4.run, c15 (k := k + 21) (by omega) h1 (by omega) (by omega)]
  simp only [bindR_s, resI_s, bindI_s]
  rcases szT_cases 1048576 (szD (.list 3 a)) with ⟨q1, e1⟩ | ⟨q1, e1⟩ <;> rw [e1]
  rotate_left
  · rw [ite'_t neg_t]; rfl
  have z1 : szD (.list 3 a) ≤ 1048576 := by omega
  rw [ite'_f (neg_f (by omega)), c6 (k := k + 21) (by omega) h2 h3 (by omega) (by omega)]
  simp only [bindR_s, resI_s, bindI_s]
  rcases szT_cases (1048576 - ((szD (.list 3 a) : Nat) : Int)) (szC [.list 1 b, .list 2 c]) with ⟨q2, e2⟩ | ⟨q2, e2⟩ <;> rw [e2]
  rotate_left
  · rw [ite'_t neg_t]; rfl
  have p2 := q2
  simp only [szC] at p2
  have z2 : szD (.list 1 b) ≤ 1048576 := by omega
  have z3 : szD (.list 2 c) ≤ 1048576 := by omega
  rw [ite'_f (neg_f (by omega)), c6 (k := k + 21) (by omega) h4 h5 (by omega) (by omega)]
  simp only [bindR_s, resI_s, bindI_s]
  rcases szT_cases (1048576 - ((szD (.list 3 a) : Nat) : Int) - ((szC [.list 1 b, .list 2 c] : Nat) : Int)) (szC [.list 1 d, .list 2 e]) with ⟨q3, e3⟩ | ⟨q3, e3⟩ <;> rw [e3]
  rotate_left
  · rw [ite'_t neg_t]; rfl
  have p3 := q3
  simp only [szC] at p3
  have z4 : szD (.list 1 d) ≤ 1048576 := by omega
  have z5 : szD (.list 2 e) ≤ 1048576 := by omega
  rw [ite'_f (neg_f (by omega)), c17 (k := k + 21) (by omega) h1 z1]
  simp only [bindR_s, resO_s, bindL_s]
  rw [c9 (k := k + 21) (by omega) h2 h3 z2 z3, c9 (k := k + 21) (by omega) h4 h5 z4 z5]
  simp only [bindR_s, F9x0, F9x1, bindL_s]
  obtain ⟨xs, rfl, hX⟩ := h3.atoms'
  obtain ⟨ys, rfl, hY⟩ := h5.atoms'
  obtain ⟨q, rfl⟩ := h2.ints
  obtain ⟨p, rfl⟩ := h4.ints
  have y2 := z2
  have y3 := z3
  have y4 := z4
  have y5 := z5
  rw [sz_atoms] at y3 y5
  rw [sz_ints] at y2 y4
  obtain ⟨n, g1, g2⟩ := isCon (k := k) h1 (Nat.le_trans sz_rels z1) xs ys q p (by omega) (by omega) y2 (by omega) y4
  rw [g1, bB, g2, bB, ite'_f (by cases n <;> rfl), c19 (k := k + 21) (by omega) h1 z1]
  simp only [bindR_s, resB_s, bindB_s]
  rw [ite'_nt, c13 (k := k + 21) (by omega) h2 h3 z2 z3]
  simp only [bindR_s, resB_s, bindB_s]
  rw [ite'_nt, c13 (k := k + 21) (by omega) h4 h5 z4 z5]
  rfl
end Go.Proofs.YtielkoncnddfdaaGreat.Q

/-
What the functions compute: copies, sizes, comparisons, instances, Skolem states and their values as texts; both programs answer alike. No condition.
-/
import Derived.Test.YtjfdcddjheandaaGreatDoorQa
import Derived.Test.YtjfdcddjheandaaGreatDoorOb
import Derived.Lib.ItoaLen
set_option linter.unusedVariables false
set_option linter.unusedSimpArgs false
/-! ZGa -/

namespace Go.Proofs.YtjfdcddjheandaaGreatDoor.Q
open Go Ovi
/-- laws.szRelation -/
theorem c55 {k : Nat} (hk : 2000001 ≤ k) {a0 : List UInt8} (ha0 : a0.length ≤ maxLen) {a1 : Int} {a2 : Bool} {left : Int} (h0 : 0 ≤ left) (h1 : left ≤ 1048576) : C k 55 [.agg [.d (.str a0), .d (.int .i64 a1), .d (.bool a2)], .d (.int .i64 left)] = some [(false, [.d (.int .i64 (szT left (szC [.str a0, .int .i64 a1, .bool a2])))])] := by
  obtain ⟨k, rfl⟩ : ∃ j, k = j + 1 := ⟨k - 1, by omega⟩
  have eT : szC [.str a0, .int .i64 a1, .bool a2] = ((a0.length : Nat)) := by simp only [szC, szD] <;> omega
  rw [eT, F55.run]
  unfold maxLen at ha0
  rw [wrap_id (n := left - (a0.length : Int)) (by omega) (by omega)]
  rcases szT_cases (left) ((a0.length : Nat)) with ⟨q0, e0⟩ | ⟨q0, e0⟩
  rotate_left
  · rw [ite'_t (by simp only [decide_eq_true_eq]; omega)] <;> first | rfl | rw [szT_neg (by omega)]
  rw [ite'_f (neg_f (by omega))] <;> first | rfl | (rw [szT_pos (by omega)] <;> (congr 6 <;> omega))
/-- laws.szIntS -/
theorem c57 {k : Nat} (hk : 2000001 ≤ k) {a : Ovi.Rows} (ha : Fit (.list [.int .i64]) (.list 1 a)) {left : Int} (h0 : 0 ≤ left) (h1 : left ≤ 1048576) : C k 57 [.d (.list 1 a), .d (.int .i64 left)] = some [(false, [.d (.int .i64 (szT left (szD (.list 1 a))))])] := by
  obtain ⟨k, rfl⟩ : ∃ j, k = j + 1 := ⟨k - 1, by omega⟩
  have hlen := ha.len; unfold maxLen at hlen
  have hz : szR a = 0 := by
    clear hlen h0 h1
    induction a with
    | nil => rfl
    | cons r rs ih =>
      simp only [Fit, List.length_cons, List.mem_cons, forall_eq_or_imp] at ha
      obtain ⟨q1, q2, hfr, q4⟩ := ha
      obtain ⟨d0, rr0, rfl, hd0, hfr0⟩ := Fits.cons hfr
      obtain ⟨x0, rfl, wx0⟩ := hd0.int
      obtain rfl := Fits.nil hfr0
      simp only [szR, szC, szD]
      rw [ih (by simp only [Fit]; exact ⟨q1, by omega, q4⟩)]
  rw [F57.run, wrap_id (by omega) (by omega)]
  simp only [szD, hz, Nat.add_zero]
  rcases szT_cases left a.length with ⟨q, e⟩ | ⟨q, e⟩ <;> rw [e]
  · rw [ite'_f (neg_f (by omega))]
  · rw [ite'_t (by simp only [decide_eq_true_eq]; omega)]
/-- laws.toRelation -/
theorem F64x0 {a0 : List UInt8} {a1 : Int} {a2 : Bool} : resS 1 true 3 [(true, [.d (.str a0), .d (.int .i64 a1), .d (.bool a2)])] 0 0 = some a0 := rfl
theorem F64x1 {a0 : List UInt8} {a1 : Int} {a2 : Bool} : resI .i64 1 true 3 [(true, [.d (.str a0), .d (.int .i64 a1), .d (.bool a2)])] 0 1 = some a1 := rfl
theorem F64x2 {a0 : List UInt8} {a1 : Int} {a2 : Bool} : resB 1 true 3 [(true, [.d (.str a0), .d (.int .i64 a1), .d (.bool a2)])] 0 2 = some a2 := rfl
theorem c64 {k : Nat} (hk : 2000001 ≤ k) {a0 : List UInt8} (ha0 : a0.length ≤ maxLen) {a1 : Int} {a2 : Bool}  : C k 64 [.agg [.d (.str a0), .d (.int .i64 a1), .d (.bool a2)]] = some [(true, [.d (.str a0), .d (.int .i64 a1), .d (.bool a2)])] := by
  obtain ⟨k, rfl⟩ : ∃ j, k = j + 1 := ⟨k - 1, by omega⟩
  rw [F64.run]
/-- laws.toIntS -/
theorem l66 {k : Nat} (hk : 2000000 ≤ k) {a : Ovi.Rows} (ha : Fit (.list [.int .i64]) (.list 1 a)) (hs : szR a ≤ 1048576) : ∀ (m i n : Nat) (v : Ovi.Rows), Filled a v i 1 → i + m = a.length → m < n → F66.L3 k (C k) n a (i : Int) v = some [(false, [.row 3 1 a])] := by
  have hlen := ha.len
  intro m; induction m with
  | zero =>
    intro i n v hv hm hn
    obtain ⟨n, rfl⟩ : ∃ j, n = j + 1 := ⟨n - 1, by omega⟩
    obtain rfl : i = a.length := by omega
    rw [F66.L3.succ, ite'_f (lt_f (by omega)), hv.done]
  | succ m ih =>
    intro i n v hv hm hn
    obtain ⟨n, rfl⟩ : ∃ j, n = j + 1 := ⟨n - 1, by omega⟩
    obtain ⟨row, hr, hfr, hdr⟩ := ha.row (i := i) (by omega)
    obtain ⟨d0, rr0, rfl, hd0, hfr0⟩ := Fits.cons hfr
    obtain ⟨x0, rfl, wx0⟩ := hd0.int
    obtain rfl := Fits.nil hfr0
    have hst := hv.step hr rfl
    have hvl := hv.1
    have hszr := szR_at hr
    rw [F66.L3.succ, ite'_t (lt_t (by omega)), ite'_t (inR_t (by omega))]
    simp only [Int.toNat_natCast, cellI_at hr, cellB_at hr, cellS_at hr, cellL_at hr]
    simp only [List.getElem?_cons_zero, List.getElem?_cons_succ, Option.bind_some, asI_s, asB_s, asS_s, asL_s, bindI_s, bindB_s, bindS_s, bindL_s, bindR_s, resI_s, resB_s, resS_s, resO_s, bne_self_eq_false, beq_self_eq_true, Bool.not_true]
    rw [ite'_t (inR_t (by omega)), wrap_succ (m := a.length) (by omega) (by omega) hlen]
    rw [show ((i : Int) + 1) = ((i + 1 : Nat) : Int) by omega]
    exact ih (i + 1) n _ hst (by omega) (by omega)
theorem c66 {k : Nat} (hk : 2000001 ≤ k) {a : Ovi.Rows} (ha : Fit (.list [.int .i64]) (.list 1 a)) (hs : szD (.list 1 a) ≤ 1048576) : C k 66 [.d (.list 1 a)] = some [(false, [.row 3 1 a])] := by
  obtain ⟨k, rfl⟩ : ∃ j, k = j + 1 := ⟨k - 1, by omega⟩
  simp only [szD] at hs
  rw [F66.run, ite'_t (beq_t _), ite'_t (inM_t (by omega))]
  exact l66 (k := k) (by omega) ha (by omega) a.length 0 k _ (Filled.start a _) (by omega) (by omega)
/-- laws.eqRelation -/
theorem c83 {k : Nat} (hk : 2000001 ≤ k) {a0 : List UInt8} (ha0 : a0.length ≤ maxLen) {a1 : Int} {a2 : Bool}  : C k 83 [.agg [.d (.str a0), .d (.int .i64 a1), .d (.bool a2)], .agg [.d (.str a0), .d (.int .i64 a1), .d (.bool a2)]] = some [(false, [.d (.bool true)])] := by
  obtain ⟨k, rfl⟩ : ∃ j, k = j + 1 := ⟨k - 1, by omega⟩
  rw [F83.run]
  simp only [List.getElem?_cons_zero, List.getElem?_cons_succ, Option.bind_some, asI_s, asB_s, asS_s, asL_s, bindI_s, bindB_s, bindS_s, bindL_s, bindR_s, resI_s, resB_s, resS_s, resO_s, bne_self_eq_false, beq_self_eq_true, Bool.not_true]
  rfl
/-- laws.eqIntS -/
theorem l85 {k : Nat} (hk : 2000000 ≤ k) {a : Ovi.Rows} (ha : Fit (.list [.int .i64]) (.list 1 a)) (hs : szR a ≤ 1048576) : ∀ (m i n : Nat), i + m = a.length → m < n → F85.L4 k (C k) n a a (i : Int) = some [(false, [.d (.bool true)])] := by
  have hlen := ha.len
  intro m; induction m with
  | zero =>
    intro i n hm hn
    obtain ⟨n, rfl⟩ : ∃ j, n = j + 1 := ⟨n - 1, by omega⟩
    rw [F85.L4.succ, ite'_f (lt_f (by omega))]
  | succ m ih =>
    intro i n hm hn
    obtain ⟨n, rfl⟩ : ∃ j, n = j + 1 := ⟨n - 1, by omega⟩
    obtain ⟨row, hr, hfr, hdr⟩ := ha.row (i := i) (by omega)
    obtain ⟨d0, rr0, rfl, hd0, hfr0⟩ := Fits.cons hfr
    obtain ⟨x0, rfl, wx0⟩ := hd0.int
    obtain rfl := Fits.nil hfr0
    have hszr := szR_at hr
    rw [F85.L4.succ, ite'_t (lt_t (by omega)), ite'_t (inR_t (by omega))]
    simp only [Int.toNat_natCast, cellI_at hr, cellB_at hr, cellS_at hr, cellL_at hr]
    simp only [List.getElem?_cons_zero, List.getElem?_cons_succ, Option.bind_some, asI_s, asB_s, asS_s, asL_s, bindI_s, bindB_s, bindS_s, bindL_s, bindR_s, resI_s, resB_s, resS_s, resO_s, bne_self_eq_false, beq_self_eq_true, Bool.not_true]
    rw [ite'_t (inR_t (by omega))]
    rw [ite'_f rfl, wrap_succ (m := a.length) (by omega) (by omega) hlen]
    rw [show ((i : Int) + 1) = ((i + 1 : Nat) : Int) by omega]
    exact ih (i + 1) n (by omega) (by omega)
theorem c85 {k : Nat} (hk : 2000001 ≤ k) {a : Ovi.Rows} (ha : Fit (.list [.int .i64]) (.list 1 a)) (hs : szD (.list 1 a) ≤ 1048576) : C k 85 [.d (.list 1 a), .d (.list 1 a)] = some [(false, [.d (.bool true)])] := by
  obtain ⟨k, rfl⟩ : ∃ j, k = j + 1 := ⟨k - 1, by omega⟩
  simp only [szD] at hs
  rw [F85.run, ite'_f (bne_f _)]
  exact l85 (k := k) (by omega) ha (by omega) a.length 0 k (by omega) (by omega)
/-- laws.szRelationS -/
theorem l29 {k : Nat} (hk : 2000001 ≤ k) {a : Ovi.Rows} (ha : Fit (.list [.str, .int .i64, .bool]) (.list 3 a)) : ∀ (m i n : Nat) (left : Int), 0 ≤ left → left ≤ 1048576 → i + m = a.length → m < n → F29.L5 k (C k) n a left (i : Int) = some [(false, [.d (.int .i64 (szT left (szR (a.drop i))))])] := by
  have hlen := ha.len
  intro m; induction m with
  | zero =>
    intro i n left h0 h1 hm hn
    obtain ⟨n, rfl⟩ : ∃ j, n = j + 1 := ⟨n - 1, by omega⟩
    rw [F29.L5.succ, ite'_f (lt_f (by omega)), List.drop_eq_nil_of_le (by omega)]
    simp only [szR, szT_pos (left := left) (s := 0) (by omega)]
    simp
  | succ m ih =>
    intro i n left h0 h1 hm hn
    obtain ⟨n, rfl⟩ : ∃ j, n = j + 1 := ⟨n - 1, by omega⟩
    obtain ⟨row, hr, hfr, hdr⟩ := ha.row (i := i) (by omega)
    obtain ⟨d0, rr0, rfl, hd0, hfr0⟩ := Fits.cons hfr
    obtain ⟨x0, rfl, hx0⟩ := hd0.str
    obtain ⟨d1, rr1, rfl, hd1, hfr1⟩ := Fits.cons hfr0
    obtain ⟨x1, rfl, wx1⟩ := hd1.int
    obtain ⟨d2, rr2, rfl, hd2, hfr2⟩ := Fits.cons hfr1
    obtain ⟨x2, rfl⟩ := hd2.bool
    obtain rfl := Fits.nil hfr2
    have eR : szR (a.drop i) = szC [.str x0, .int .i64 x1, .bool x2] + szR (a.drop (i + 1)) := by rw [hdr]; rfl
    rw [F29.L5.succ, ite'_t (lt_t (by omega)), ite'_t (inR_t (by omega)), eR]
    simp only [Int.toNat_natCast, cellI_at hr, cellB_at hr, cellS_at hr, cellL_at hr]
    simp only [List.getElem?_cons_zero, List.getElem?_cons_succ, Option.bind_some, asI_s, asB_s, asS_s, asL_s, bindI_s, bindB_s, bindS_s, bindL_s, bindR_s, resI_s, resB_s, resS_s, resO_s, bne_self_eq_false, beq_self_eq_true, Bool.not_true]
    have cc := c55 (k := k) (by omega) (a1 := x1) (a2 := x2) hx0 h0 h1
    rw [cc]
    simp only [List.getElem?_cons_zero, List.getElem?_cons_succ, Option.bind_some, asI_s, asB_s, asS_s, asL_s, bindI_s, bindB_s, bindS_s, bindL_s, bindR_s, resI_s, resB_s, resS_s, resO_s, bne_self_eq_false, beq_self_eq_true, Bool.not_true]
    rcases szT_cases left (szC [.str x0, .int .i64 x1, .bool x2]) with ⟨q, e⟩ | ⟨q, e⟩ <;> rw [e]
    · rw [ite'_f (neg_f (by omega)), wrap_succ (m := a.length) (by omega) (by omega) hlen]
      have := ih (i + 1) n (left - ((szC [.str x0, .int .i64 x1, .bool x2] : Nat) : Int)) (by omega) (by omega) (by omega) (by omega)
      rw [show ((i : Int) + 1) = ((i + 1 : Nat) : Int) by omega, this]
      rcases szT_cases (left - ((szC [.str x0, .int .i64 x1, .bool x2] : Nat) : Int)) (szR (a.drop (i + 1))) with ⟨q2, e2⟩ | ⟨q2, e2⟩ <;> rw [e2]
      · rw [szT_pos (by omega)] <;> (congr 6 <;> omega)
      · rw [szT_neg (by omega)]
    · rw [ite'_t neg_t, szT_neg (by omega)]
theorem c29 {k : Nat} (hk : 2000002 ≤ k) {a : Ovi.Rows} (ha : Fit (.list [.str, .int .i64, .bool]) (.list 3 a)) {left : Int} (h0 : 0 ≤ left) (h1 : left ≤ 1048576) : C k 29 [.d (.list 3 a), .d (.int .i64 left)] = some [(false, [.d (.int .i64 (szT left (szD (.list 3 a))))])] := by
  obtain ⟨k, rfl⟩ : ∃ j, k = j + 1 := ⟨k - 1, by omega⟩
  have hlen := ha.len; unfold maxLen at hlen
  rw [F29.run, wrap_id (by omega) (by omega)]
  have eD : szD (.list 3 a) = a.length + szR a := by simp only [szD]
  rw [eD]
  rcases szT_cases left a.length with ⟨q, e⟩ | ⟨q, e⟩
  · rw [ite'_f (neg_f (by omega))]
    have := l29 (k := k) (by omega) ha a.length 0 k (left - (a.length : Int)) (by omega) (by omega) (by omega) (by omega)
    rw [List.drop_zero] at this
    rw [show ((0 : Int)) = ((0 : Nat) : Int) by rfl, this]
    rcases szT_cases (left - (a.length : Int)) (szR a) with ⟨q2, e2⟩ | ⟨q2, e2⟩ <;> rw [e2]
    · rw [szT_pos (by omega)] <;> (congr 6 <;> omega)
    · rw [szT_neg (by omega)]
  · rw [ite'_t (by simp only [decide_eq_true_eq]; omega), szT_neg (by omega)]
/-- laws.szSkolemTerm -/
theorem c31 {k : Nat} (hk : 2000002 ≤ k) {a0 : Int} {a1 : Int} {a2 : Ovi.Rows} (ha2 : Fit (.list [.int .i64]) (.list 1 a2)) {left : Int} (h0 : 0 ≤ left) (h1 : left ≤ 1048576) : C k 31 [.agg [.d (.int .i64 a0), .d (.int .i64 a1), .d (.list 1 a2)], .d (.int .i64 left)] = some [(false, [.d (.int .i64 (szT left (szC [.int .i64 a0, .int .i64 a1, .list 1 a2])))])] := by
  obtain ⟨k, rfl⟩ : ∃ j, k = j + 1 := ⟨k - 1, by omega⟩
  have eT : szC [.int .i64 a0, .int .i64 a1, .list 1 a2] = (szD (.list 1 a2)) := by simp only [szC, szD] <;> omega
  rw [eT, F31.run]
  rw [c57 (k := k) (by omega)  ha2 (left := left) (by omega) (by omega)]
  simp only [List.getElem?_cons_zero, List.getElem?_cons_succ, Option.bind_some, asI_s, asB_s, asS_s, asL_s, bindI_s, bindB_s, bindS_s, bindL_s, bindR_s, resI_s, resB_s, resS_s, resO_s, bne_self_eq_false, beq_self_eq_true, Bool.not_true]
  rcases szT_cases (left) (szD (.list 1 a2)) with ⟨q0, e0⟩ | ⟨q0, e0⟩ <;> rw [e0]
  rotate_left
  · rw [ite'_t (by simp only [decide_eq_true_eq]; omega)] <;> first | rfl | rw [szT_neg (by omega)]
  rw [ite'_f (neg_f (by omega))] <;> first | rfl | (rw [szT_pos (by omega)] <;> (congr 6 <;> omega))
/-- laws.toRelationS -/
theorem l38 {k : Nat} (hk : 2000001 ≤ k) {a : Ovi.Rows} (ha : Fit (.list [.str, .int .i64, .bool]) (.list 3 a)) (hs : szR a ≤ 1048576) : ∀ (m i n : Nat) (v : Ovi.Rows), Filled a v i 3 → i + m = a.length → m < n → F38.L3 k (C k) n a (i : Int) v = some [(false, [.row 107 3 a])] := by
  have hlen := ha.len
  intro m; induction m with
  | zero =>
    intro i n v hv hm hn
    obtain ⟨n, rfl⟩ : ∃ j, n = j + 1 := ⟨n - 1, by omega⟩
    obtain rfl : i = a.length := by omega
    rw [F38.L3.succ, ite'_f (lt_f (by omega)), hv.done]
  | succ m ih =>
    intro i n v hv hm hn
    obtain ⟨n, rfl⟩ : ∃ j, n = j + 1 := ⟨n - 1, by omega⟩
    obtain ⟨row, hr, hfr, hdr⟩ := ha.row (i := i) (by omega)
    obtain ⟨d0, rr0, rfl, hd0, hfr0⟩ := Fits.cons hfr
    obtain ⟨x0, rfl, hx0⟩ := hd0.str
    obtain ⟨d1, rr1, rfl, hd1, hfr1⟩ := Fits.cons hfr0
    obtain ⟨x1, rfl, wx1⟩ := hd1.int
    obtain ⟨d2, rr2, rfl, hd2, hfr2⟩ := Fits.cons hfr1
    obtain ⟨x2, rfl⟩ := hd2.bool
    obtain rfl := Fits.nil hfr2
    have hst := hv.step hr rfl
    have hvl := hv.1
    have hszr := szR_at hr
    rw [F38.L3.succ, ite'_t (lt_t (by omega)), ite'_t (inR_t (by omega))]
    simp only [Int.toNat_natCast, cellI_at hr, cellB_at hr, cellS_at hr, cellL_at hr]
    simp only [List.getElem?_cons_zero, List.getElem?_cons_succ, Option.bind_some, asI_s, asB_s, asS_s, asL_s, bindI_s, bindB_s, bindS_s, bindL_s, bindR_s, resI_s, resB_s, resS_s, resO_s, bne_self_eq_false, beq_self_eq_true, Bool.not_true]
    rw [c64 (k := k) (by omega) (a1 := x1) (a2 := x2) hx0 ]
    simp only [List.getElem?_cons_zero, List.getElem?_cons_succ, Option.bind_some, asI_s, asB_s, asS_s, asL_s, bindI_s, bindB_s, bindS_s, bindL_s, bindR_s, resI_s, resB_s, resS_s, resO_s, bne_self_eq_false, beq_self_eq_true, Bool.not_true]
    simp only [F64x0, F64x1, F64x2]
    simp only [List.getElem?_cons_zero, List.getElem?_cons_succ, Option.bind_some, asI_s, asB_s, asS_s, asL_s, bindI_s, bindB_s, bindS_s, bindL_s, bindR_s, resI_s, resB_s, resS_s, resO_s, bne_self_eq_false, beq_self_eq_true, Bool.not_true]
    rw [ite'_t (inR_t (by omega)), wrap_succ (m := a.length) (by omega) (by omega) hlen]
    rw [show ((i : Int) + 1) = ((i + 1 : Nat) : Int) by omega]
    exact ih (i + 1) n _ hst (by omega) (by omega)
theorem c38 {k : Nat} (hk : 2000002 ≤ k) {a : Ovi.Rows} (ha : Fit (.list [.str, .int .i64, .bool]) (.list 3 a)) (hs : szD (.list 3 a) ≤ 1048576) : C k 38 [.d (.list 3 a)] = some [(false, [.row 107 3 a])] := by
  obtain ⟨k, rfl⟩ : ∃ j, k = j + 1 := ⟨k - 1, by omega⟩
  simp only [szD] at hs
  rw [F38.run, ite'_t (beq_t _), ite'_t (inM_t (by omega))]
  exact l38 (k := k) (by omega) ha (by omega) a.length 0 k _ (Filled.start a _) (by omega) (by omega)
/-- laws.toSkolemTerm -/
theorem F40x0 {a0 : Int} {a1 : Int} {a2 : Ovi.Rows} : resI .i64 1 true 3 [(true, [.d (.int .i64 a0), .d (.int .i64 a1), .row 3 1 a2])] 0 0 = some a0 := rfl
theorem F40x1 {a0 : Int} {a1 : Int} {a2 : Ovi.Rows} : resI .i64 1 true 3 [(true, [.d (.int .i64 a0), .d (.int .i64 a1), .row 3 1 a2])] 0 1 = some a1 := rfl
theorem F40x2 {a0 : Int} {a1 : Int} {a2 : Ovi.Rows} : resO 3 1 1 true 3 [(true, [.d (.int .i64 a0), .d (.int .i64 a1), .row 3 1 a2])] 0 2 = some a2 := rfl
theorem c40 {k : Nat} (hk : 2000002 ≤ k) {a0 : Int} {a1 : Int} {a2 : Ovi.Rows} (ha2 : Fit (.list [.int .i64]) (.list 1 a2)) (s2 : szD (.list 1 a2) ≤ 1048576) : C k 40 [.agg [.d (.int .i64 a0), .d (.int .i64 a1), .d (.list 1 a2)]] = some [(true, [.d (.int .i64 a0), .d (.int .i64 a1), .row 3 1 a2])] := by
  obtain ⟨k, rfl⟩ : ∃ j, k = j + 1 := ⟨k - 1, by omega⟩
  rw [F40.run]
  rw [c66 (k := k) (by omega)  ha2 s2]
  simp only [List.getElem?_cons_zero, List.getElem?_cons_succ, Option.bind_some, asI_s, asB_s, asS_s, asL_s, bindI_s, bindB_s, bindS_s, bindL_s, bindR_s, resI_s, resB_s, resS_s, resO_s, bne_self_eq_false, beq_self_eq_true, Bool.not_true]
/-- laws.eqRelationS -/
theorem l51 {k : Nat} (hk : 2000001 ≤ k) {a : Ovi.Rows} (ha : Fit (.list [.str, .int .i64, .bool]) (.list 3 a)) (hs : szR a ≤ 1048576) : ∀ (m i n : Nat), i + m = a.length → m < n → F51.L4 k (C k) n a a (i : Int) = some [(false, [.d (.bool true)])] := by
  have hlen := ha.len
  intro m; induction m with
  | zero =>
    intro i n hm hn
    obtain ⟨n, rfl⟩ : ∃ j, n = j + 1 := ⟨n - 1, by omega⟩
    rw [F51.L4.succ, ite'_f (lt_f (by omega))]
  | succ m ih =>
    intro i n hm hn
    obtain ⟨n, rfl⟩ : ∃ j, n = j + 1 := ⟨n - 1, by omega⟩
    obtain ⟨row, hr, hfr, hdr⟩ := ha.row (i := i) (by omega)
    obtain ⟨d0, rr0, rfl, hd0, hfr0⟩ := Fits.cons hfr
    obtain ⟨x0, rfl, hx0⟩ := hd0.str
    obtain ⟨d1, rr1, rfl, hd1, hfr1⟩ := Fits.cons hfr0
    obtain ⟨x1, rfl, wx1⟩ := hd1.int
    obtain ⟨d2, rr2, rfl, hd2, hfr2⟩ := Fits.cons hfr1
    obtain ⟨x2, rfl⟩ := hd2.bool
    obtain rfl := Fits.nil hfr2
    have hszr := szR_at hr
    rw [F51.L4.succ, ite'_t (lt_t (by omega)), ite'_t (inR_t (by omega))]
    simp only [Int.toNat_natCast, cellI_at hr, cellB_at hr, cellS_at hr, cellL_at hr]
    simp only [List.getElem?_cons_zero, List.getElem?_cons_succ, Option.bind_some, asI_s, asB_s, asS_s, asL_s, bindI_s, bindB_s, bindS_s, bindL_s, bindR_s, resI_s, resB_s, resS_s, resO_s, bne_self_eq_false, beq_self_eq_true, Bool.not_true]
    rw [ite'_t (inR_t (by omega))]
    rw [c83 (k := k) (by omega) (a1 := x1) (a2 := x2) hx0 ]
    simp only [List.getElem?_cons_zero, List.getElem?_cons_succ, Option.bind_some, asI_s, asB_s, asS_s, asL_s, bindI_s, bindB_s, bindS_s, bindL_s, bindR_s, resI_s, resB_s, resS_s, resO_s, bne_self_eq_false, beq_self_eq_true, Bool.not_true]
    rw [ite'_f rfl, wrap_succ (m := a.length) (by omega) (by omega) hlen]
    rw [show ((i : Int) + 1) = ((i + 1 : Nat) : Int) by omega]
    exact ih (i + 1) n (by omega) (by omega)
theorem c51 {k : Nat} (hk : 2000002 ≤ k) {a : Ovi.Rows} (ha : Fit (.list [.str, .int .i64, .bool]) (.list 3 a)) (hs : szD (.list 3 a) ≤ 1048576) : C k 51 [.d (.list 3 a), .d (.list 3 a)] = some [(false, [.d (.bool true)])] := by
  obtain ⟨k, rfl⟩ : ∃ j, k = j + 1 := ⟨k - 1, by omega⟩
  simp only [szD] at hs
  rw [F51.run, ite'_f (bne_f _)]
  exact l51 (k := k) (by omega) ha (by omega) a.length 0 k (by omega) (by omega)
/-- laws.eqSkolemTerm -/
theorem c53 {k : Nat} (hk : 2000002 ≤ k) {a0 : Int} {a1 : Int} {a2 : Ovi.Rows} (ha2 : Fit (.list [.int .i64]) (.list 1 a2)) (s2 : szD (.list 1 a2) ≤ 1048576) : C k 53 [.agg [.d (.int .i64 a0), .d (.int .i64 a1), .d (.list 1 a2)], .agg [.d (.int .i64 a0), .d (.int .i64 a1), .d (.list 1 a2)]] = some [(false, [.d (.bool true)])] := by
  obtain ⟨k, rfl⟩ : ∃ j, k = j + 1 := ⟨k - 1, by omega⟩
  rw [F53.run]
  rw [c85 (k := k) (by omega)  ha2 s2]
  simp only [List.getElem?_cons_zero, List.getElem?_cons_succ, Option.bind_some, asI_s, asB_s, asS_s, asL_s, bindI_s, bindB_s, bindS_s, bindL_s, bindR_s, resI_s, resB_s, resS_s, resO_s, bne_self_eq_false, beq_self_eq_true, Bool.not_true]
  rfl
/-- laws.szFact -/
theorem c56 {k : Nat} (hk : 2000002 ≤ k) {a0 : Int} {a1 : Ovi.Rows} (ha1 : Fit (.list [.int .i64]) (.list 1 a1)) {left : Int} (h0 : 0 ≤ left) (h1 : left ≤ 1048576) : C k 56 [.agg [.d (.int .i64 a0), .d (.list 1 a1)], .d (.int .i64 left)] = some [(false, [.d (.int .i64 (szT left (szC [.int .i64 a0, .list 1 a1])))])] := by
  obtain ⟨k, rfl⟩ : ∃ j, k = j + 1 := ⟨k - 1, by omega⟩
  have eT : szC [.int .i64 a0, .list 1 a1] = (szD (.list 1 a1)) := by simp only [szC, szD] <;> omega
  rw [eT, F56.run]
  rw [c57 (k := k) (by omega)  ha1 (left := left) (by omega) (by omega)]
  simp only [List.getElem?_cons_zero, List.getElem?_cons_succ, Option.bind_some, asI_s, asB_s, asS_s, asL_s, bindI_s, bindB_s, bindS_s, bindL_s, bindR_s, resI_s, resB_s, resS_s, resO_s, bne_self_eq_false, beq_self_eq_true, Bool.not_true]
  rcases szT_cases (left) (szD (.list 1 a1)) with ⟨q0, e0⟩ | ⟨q0, e0⟩ <;> rw [e0]
  rotate_left
  · rw [ite'_t (by simp only [decide_eq_true_eq]; omega)] <;> first | rfl | rw [szT_neg (by omega)]
  rw [ite'_f (neg_f (by omega))] <;> first | rfl | (rw [szT_pos (by omega)] <;> (congr 6 <;> omega))
/-- laws.szAtom -/
theorem c58 {k : Nat} (hk : 2000002 ≤ k) {a0 : Int} {a1 : Ovi.Rows} (ha1 : Fit (.list [.int .i64]) (.list 1 a1)) {left : Int} (h0 : 0 ≤ left) (h1 : left ≤ 1048576) : C k 58 [.agg [.d (.int .i64 a0), .d (.list 1 a1)], .d (.int .i64 left)] = some [(false, [.d (.int .i64 (szT left (szC [.int .i64 a0, .list 1 a1])))])] := by
  obtain ⟨k, rfl⟩ : ∃ j, k = j + 1 := ⟨k - 1, by omega⟩
  have eT : szC [.int .i64 a0, .list 1 a1] = (szD (.list 1 a1)) := by simp only [szC, szD] <;> omega
  rw [eT, F58.run]
  rw [c57 (k := k) (by omega)  ha1 (left := left) (by omega) (by omega)]
  simp only [List.getElem?_cons_zero, List.getElem?_cons_succ, Option.bind_some, asI_s, asB_s, asS_s, asL_s, bindI_s, bindB_s, bindS_s, bindL_s, bindR_s, resI_s, resB_s, resS_s, resO_s, bne_self_eq_false, beq_self_eq_true, Bool.not_true]
  rcases szT_cases (left) (szD (.list 1 a1)) with ⟨q0, e0⟩ | ⟨q0, e0⟩ <;> rw [e0]
  rotate_left
  · rw [ite'_t (by simp only [decide_eq_true_eq]; omega)] <;> first | rfl | rw [szT_neg (by omega)]
  rw [ite'_f (neg_f (by omega))] <;> first | rfl | (rw [szT_pos (by omega)] <;> (congr 6 <;> omega))
/-- laws.toFact -/
theorem F65x0 {a0 : Int} {a1 : Ovi.Rows} : resI .i64 1 true 2 [(true, [.d (.int .i64 a0), .row 3 1 a1])] 0 0 = some a0 := rfl
theorem F65x1 {a0 : Int} {a1 : Ovi.Rows} : resO 3 1 1 true 2 [(true, [.d (.int .i64 a0), .row 3 1 a1])] 0 1 = some a1 := rfl
theorem c65 {k : Nat} (hk : 2000002 ≤ k) {a0 : Int} {a1 : Ovi.Rows} (ha1 : Fit (.list [.int .i64]) (.list 1 a1)) (s1 : szD (.list 1 a1) ≤ 1048576) : C k 65 [.agg [.d (.int .i64 a0), .d (.list 1 a1)]] = some [(true, [.d (.int .i64 a0), .row 3 1 a1])] := by
  obtain ⟨k, rfl⟩ : ∃ j, k = j + 1 := ⟨k - 1, by omega⟩
  rw [F65.run]
  rw [c66 (k := k) (by omega)  ha1 s1]
  simp only [List.getElem?_cons_zero, List.getElem?_cons_succ, Option.bind_some, asI_s, asB_s, asS_s, asL_s, bindI_s, bindB_s, bindS_s, bindL_s, bindR_s, resI_s, resB_s, resS_s, resO_s, bne_self_eq_false, beq_self_eq_true, Bool.not_true]
/-- laws.toAtom -/
theorem F67x0 {a0 : Int} {a1 : Ovi.Rows} : resI .i64 1 true 2 [(true, [.d (.int .i64 a0), .row 3 1 a1])] 0 0 = some a0 := rfl
theorem F67x1 {a0 : Int} {a1 : Ovi.Rows} : resO 3 1 1 true 2 [(true, [.d (.int .i64 a0), .row 3 1 a1])] 0 1 = some a1 := rfl
theorem c67 {k : Nat} (hk : 2000002 ≤ k) {a0 : Int} {a1 : Ovi.Rows} (ha1 : Fit (.list [.int .i64]) (.list 1 a1)) (s1 : szD (.list 1 a1) ≤ 1048576) : C k 67 [.agg [.d (.int .i64 a0), .d (.list 1 a1)]] = some [(true, [.d (.int .i64 a0), .row 3 1 a1])] := by
  obtain ⟨k, rfl⟩ : ∃ j, k = j + 1 := ⟨k - 1, by omega⟩
  rw [F67.run]
  rw [c66 (k := k) (by omega)  ha1 s1]
  simp only [List.getElem?_cons_zero, List.getElem?_cons_succ, Option.bind_some, asI_s, asB_s, asS_s, asL_s, bindI_s, bindB_s, bindS_s, bindL_s, bindR_s, resI_s, resB_s, resS_s, resO_s, bne_self_eq_false, beq_self_eq_true, Bool.not_true]
/-- laws.eqFact -/
theorem c84 {k : Nat} (hk : 2000002 ≤ k) {a0 : Int} {a1 : Ovi.Rows} (ha1 : Fit (.list [.int .i64]) (.list 1 a1)) (s1 : szD (.list 1 a1) ≤ 1048576) : C k 84 [.agg [.d (.int .i64 a0), .d (.list 1 a1)], .agg [.d (.int .i64 a0), .d (.list 1 a1)]] = some [(false, [.d (.bool true)])] := by
  obtain ⟨k, rfl⟩ : ∃ j, k = j + 1 := ⟨k - 1, by omega⟩
  rw [F84.run]
  rw [c85 (k := k) (by omega)  ha1 s1]
  simp only [List.getElem?_cons_zero, List.getElem?_cons_succ, Option.bind_some, asI_s, asB_s, asS_s, asL_s, bindI_s, bindB_s, bindS_s, bindL_s, bindR_s, resI_s, resB_s, resS_s, resO_s, bne_self_eq_false, beq_self_eq_true, Bool.not_true]
  rfl
/-- laws.eqAtom -/
theorem c86 {k : Nat} (hk : 2000002 ≤ k) {a0 : Int} {a1 : Ovi.Rows} (ha1 : Fit (.list [.int .i64]) (.list 1 a1)) (s1 : szD (.list 1 a1) ≤ 1048576) : C k 86 [.agg [.d (.int .i64 a0), .d (.list 1 a1)], .agg [.d (.int .i64 a0), .d (.list 1 a1)]] = some [(false, [.d (.bool true)])] := by
  obtain ⟨k, rfl⟩ : ∃ j, k = j + 1 := ⟨k - 1, by omega⟩
  rw [F86.run]
  rw [c85 (k := k) (by omega)  ha1 s1]
  simp only [List.getElem?_cons_zero, List.getElem?_cons_succ, Option.bind_some, asI_s, asB_s, asS_s, asL_s, bindI_s, bindB_s, bindS_s, bindL_s, bindR_s, resI_s, resB_s, resS_s, resO_s, bne_self_eq_false, beq_self_eq_true, Bool.not_true]
  rfl
/-- laws.szSkolemTermS -/
theorem l13 {k : Nat} (hk : 2000002 ≤ k) {a : Ovi.Rows} (ha : Fit (.list [.int .i64, .int .i64, .list [.int .i64]]) (.list 3 a)) : ∀ (m i n : Nat) (left : Int), 0 ≤ left → left ≤ 1048576 → i + m = a.length → m < n → F13.L5 k (C k) n a left (i : Int) = some [(false, [.d (.int .i64 (szT left (szR (a.drop i))))])] := by
  have hlen := ha.len
  intro m; induction m with
  | zero =>
    intro i n left h0 h1 hm hn
    obtain ⟨n, rfl⟩ : ∃ j, n = j + 1 := ⟨n - 1, by omega⟩
    rw [F13.L5.succ, ite'_f (lt_f (by omega)), List.drop_eq_nil_of_le (by omega)]
    simp only [szR, szT_pos (left := left) (s := 0) (by omega)]
    simp
  | succ m ih =>
    intro i n left h0 h1 hm hn
    obtain ⟨n, rfl⟩ : ∃ j, n = j + 1 := ⟨n - 1, by omega⟩
    obtain ⟨row, hr, hfr, hdr⟩ := ha.row (i := i) (by omega)
    obtain ⟨d0, rr0, rfl, hd0, hfr0⟩ := Fits.cons hfr
    obtain ⟨x0, rfl, wx0⟩ := hd0.int
    obtain ⟨d1, rr1, rfl, hd1, hfr1⟩ := Fits.cons hfr0
    obtain ⟨x1, rfl, wx1⟩ := hd1.int
    obtain ⟨d2, rr2, rfl, hd2, hfr2⟩ := Fits.cons hfr1
    obtain ⟨x2, rfl, hx2⟩ := hd2.list (n := 1) rfl
    obtain rfl := Fits.nil hfr2
    have eR : szR (a.drop i) = szC [.int .i64 x0, .int .i64 x1, .list 1 x2] + szR (a.drop (i + 1)) := by rw [hdr]; rfl
    rw [F13.L5.succ, ite'_t (lt_t (by omega)), ite'_t (inR_t (by omega)), eR]
    simp only [Int.toNat_natCast, cellI_at hr, cellB_at hr, cellS_at hr, cellL_at hr]
    simp only [List.getElem?_cons_zero, List.getElem?_cons_succ, Option.bind_some, asI_s, asB_s, asS_s, asL_s, bindI_s, bindB_s, bindS_s, bindL_s, bindR_s, resI_s, resB_s, resS_s, resO_s, bne_self_eq_false, beq_self_eq_true, Bool.not_true]
    have cc := c31 (k := k) (by omega) (a0 := x0) (a1 := x1) hx2 h0 h1
    rw [cc]
    simp only [List.getElem?_cons_zero, List.getElem?_cons_succ, Option.bind_some, asI_s, asB_s, asS_s, asL_s, bindI_s, bindB_s, bindS_s, bindL_s, bindR_s, resI_s, resB_s, resS_s, resO_s, bne_self_eq_false, beq_self_eq_true, Bool.not_true]
    rcases szT_cases left (szC [.int .i64 x0, .int .i64 x1, .list 1 x2]) with ⟨q, e⟩ | ⟨q, e⟩ <;> rw [e]
    · rw [ite'_f (neg_f (by omega)), wrap_succ (m := a.length) (by omega) (by omega) hlen]
      have := ih (i + 1) n (left - ((szC [.int .i64 x0, .int .i64 x1, .list 1 x2] : Nat) : Int)) (by omega) (by omega) (by omega) (by omega)
      rw [show ((i : Int) + 1) = ((i + 1 : Nat) : Int) by omega, this]
      rcases szT_cases (left - ((szC [.int .i64 x0, .int .i64 x1, .list 1 x2] : Nat) : Int)) (szR (a.drop (i + 1))) with ⟨q2, e2⟩ | ⟨q2, e2⟩ <;> rw [e2]
      · rw [szT_pos (by omega)] <;> (congr 6 <;> omega)
      · rw [szT_neg (by omega)]
    · rw [ite'_t neg_t, szT_neg (by omega)]
theorem c13 {k : Nat} (hk : 2000003 ≤ k) {a : Ovi.Rows} (ha : Fit (.list [.int .i64, .int .i64, .list [.int .i64]]) (.list 3 a)) {left : Int} (h0 : 0 ≤ left) (h1 : left ≤ 1048576) : C k 13 [.d (.list 3 a), .d (.int .i64 left)] = some [(false, [.d (.int .i64 (szT left (szD (.list 3 a))))])] := by
  obtain ⟨k, rfl⟩ : ∃ j, k = j + 1 := ⟨k - 1, by omega⟩
  have hlen := ha.len; unfold maxLen at hlen
  rw [F13.run, wrap_id (by omega) (by omega)]
  have eD : szD (.list 3 a) = a.length + szR a := by simp only [szD]
  rw [eD]
  rcases szT_cases left a.length with ⟨q, e⟩ | ⟨q, e⟩
  · rw [ite'_f (neg_f (by omega))]
    have := l13 (k := k) (by omega) ha a.length 0 k (left - (a.length : Int)) (by omega) (by omega) (by omega) (by omega)
    rw [List.drop_zero] at this
    rw [show ((0 : Int)) = ((0 : Nat) : Int) by rfl, this]
    rcases szT_cases (left - (a.length : Int)) (szR a) with ⟨q2, e2⟩ | ⟨q2, e2⟩ <;> rw [e2]
    · rw [szT_pos (by omega)] <;> (congr 6 <;> omega)
    · rw [szT_neg (by omega)]
  · rw [ite'_t (by simp only [decide_eq_true_eq]; omega), szT_neg (by omega)]
/-- laws.toSkolemTermS -/
theorem l21 {k : Nat} (hk : 2000002 ≤ k) {a : Ovi.Rows} (ha : Fit (.list [.int .i64, .int .i64, .list [.int .i64]]) (.list 3 a)) (hs : szR a ≤ 1048576) : ∀ (m i n : Nat) (v : Ovi.Rows), Filled a v i 3 → i + m = a.length → m < n → F21.L3 k (C k) n a (i : Int) v = some [(false, [.row 58 3 a])] := by
  have hlen := ha.len
  intro m; induction m with
  | zero =>
    intro i n v hv hm hn
    obtain ⟨n, rfl⟩ : ∃ j, n = j + 1 := ⟨n - 1, by omega⟩
    obtain rfl : i = a.length := by omega
    rw [F21.L3.succ, ite'_f (lt_f (by omega)), hv.done]
  | succ m ih =>
    intro i n v hv hm hn
    obtain ⟨n, rfl⟩ : ∃ j, n = j + 1 := ⟨n - 1, by omega⟩
    obtain ⟨row, hr, hfr, hdr⟩ := ha.row (i := i) (by omega)
    obtain ⟨d0, rr0, rfl, hd0, hfr0⟩ := Fits.cons hfr
    obtain ⟨x0, rfl, wx0⟩ := hd0.int
    obtain ⟨d1, rr1, rfl, hd1, hfr1⟩ := Fits.cons hfr0
    obtain ⟨x1, rfl, wx1⟩ := hd1.int
    obtain ⟨d2, rr2, rfl, hd2, hfr2⟩ := Fits.cons hfr1
    obtain ⟨x2, rfl, hx2⟩ := hd2.list (n := 1) rfl
    obtain rfl := Fits.nil hfr2
    have hst := hv.step hr rfl
    have hvl := hv.1
    have hszr := szR_at hr
    rw [F21.L3.succ, ite'_t (lt_t (by omega)), ite'_t (inR_t (by omega))]
    simp only [Int.toNat_natCast, cellI_at hr, cellB_at hr, cellS_at hr, cellL_at hr]
    simp only [List.getElem?_cons_zero, List.getElem?_cons_succ, Option.bind_some, asI_s, asB_s, asS_s, asL_s, bindI_s, bindB_s, bindS_s, bindL_s, bindR_s, resI_s, resB_s, resS_s, resO_s, bne_self_eq_false, beq_self_eq_true, Bool.not_true]
    rw [c40 (k := k) (by omega) (a0 := x0) (a1 := x1) hx2 (by simp only [szC, szD] at hszr ⊢; omega)]
    simp only [List.getElem?_cons_zero, List.getElem?_cons_succ, Option.bind_some, asI_s, asB_s, asS_s, asL_s, bindI_s, bindB_s, bindS_s, bindL_s, bindR_s, resI_s, resB_s, resS_s, resO_s, bne_self_eq_false, beq_self_eq_true, Bool.not_true]
    simp only [F40x0, F40x1, F40x2]
    simp only [List.getElem?_cons_zero, List.getElem?_cons_succ, Option.bind_some, asI_s, asB_s, asS_s, asL_s, bindI_s, bindB_s, bindS_s, bindL_s, bindR_s, resI_s, resB_s, resS_s, resO_s, bne_self_eq_false, beq_self_eq_true, Bool.not_true]
    rw [ite'_t (inR_t (by omega)), wrap_succ (m := a.length) (by omega) (by omega) hlen]
    rw [show ((i : Int) + 1) = ((i + 1 : Nat) : Int) by omega]
    exact ih (i + 1) n _ hst (by omega) (by omega)
theorem c21 {k : Nat} (hk : 2000003 ≤ k) {a : Ovi.Rows} (ha : Fit (.list [.int .i64, .int .i64, .list [.int .i64]]) (.list 3 a)) (hs : szD (.list 3 a) ≤ 1048576) : C k 21 [.d (.list 3 a)] = some [(false, [.row 58 3 a])] := by
  obtain ⟨k, rfl⟩ : ∃ j, k = j + 1 := ⟨k - 1, by omega⟩
  simp only [szD] at hs
  rw [F21.run, ite'_t (beq_t _), ite'_t (inM_t (by omega))]
  exact l21 (k := k) (by omega) ha (by omega) a.length 0 k _ (Filled.start a _) (by omega) (by omega)
/-- laws.eqSkolemTermS -/
theorem l27 {k : Nat} (hk : 2000002 ≤ k) {a : Ovi.Rows} (ha : Fit (.list [.int .i64, .int .i64, .list [.int .i64]]) (.list 3 a)) (hs : szR a ≤ 1048576) : ∀ (m i n : Nat), i + m = a.length → m < n → F27.L4 k (C k) n a a (i : Int) = some [(false, [.d (.bool true)])] := by
  have hlen := ha.len
  intro m; induction m with
  | zero =>
    intro i n hm hn
    obtain ⟨n, rfl⟩ : ∃ j, n = j + 1 := ⟨n - 1, by omega⟩
    rw [F27.L4.succ, ite'_f (lt_f (by omega))]
  | succ m ih =>
    intro i n hm hn
    obtain ⟨n, rfl⟩ : ∃ j, n = j + 1 := ⟨n - 1, by omega⟩
    obtain ⟨row, hr, hfr, hdr⟩ := ha.row (i := i) (by omega)
    obtain ⟨d0, rr0, rfl, hd0, hfr0⟩ := Fits.cons hfr
    obtain ⟨x0, rfl, wx0⟩ := hd0.int
    obtain ⟨d1, rr1, rfl, hd1, hfr1⟩ := Fits.cons hfr0
    obtain ⟨x1, rfl, wx1⟩ := hd1.int
    obtain ⟨d2, rr2, rfl, hd2, hfr2⟩ := Fits.cons hfr1
    obtain ⟨x2, rfl, hx2⟩ := hd2.list (n := 1) rfl
    obtain rfl := Fits.nil hfr2
    have hszr := szR_at hr
    rw [F27.L4.succ, ite'_t (lt_t (by omega)), ite'_t (inR_t (by omega))]
    simp only [Int.toNat_natCast, cellI_at hr, cellB_at hr, cellS_at hr, cellL_at hr]
    simp only [List.getElem?_cons_zero, List.getElem?_cons_succ, Option.bind_some, asI_s, asB_s, asS_s, asL_s, bindI_s, bindB_s, bindS_s, bindL_s, bindR_s, resI_s, resB_s, resS_s, resO_s, bne_self_eq_false, beq_self_eq_true, Bool.not_true]
    rw [ite'_t (inR_t (by omega))]
    rw [c53 (k := k) (by omega) (a0 := x0) (a1 := x1) hx2 (by simp only [szC, szD] at hszr ⊢; omega)]
    simp only [List.getElem?_cons_zero, List.getElem?_cons_succ, Option.bind_some, asI_s, asB_s, asS_s, asL_s, bindI_s, bindB_s, bindS_s, bindL_s, bindR_s, resI_s, resB_s, resS_s, resO_s, bne_self_eq_false, beq_self_eq_true, Bool.not_true]
    rw [ite'_f rfl, wrap_succ (m := a.length) (by omega) (by omega) hlen]
    rw [show ((i : Int) + 1) = ((i + 1 : Nat) : Int) by omega]
    exact ih (i + 1) n (by omega) (by omega)
theorem c27 {k : Nat} (hk : 2000003 ≤ k) {a : Ovi.Rows} (ha : Fit (.list [.int .i64, .int .i64, .list [.int .i64]]) (.list 3 a)) (hs : szD (.list 3 a) ≤ 1048576) : C k 27 [.d (.list 3 a), .d (.list 3 a)] = some [(false, [.d (.bool true)])] := by
  obtain ⟨k, rfl⟩ : ∃ j, k = j + 1 := ⟨k - 1, by omega⟩
  simp only [szD] at hs
  rw [F27.run, ite'_f (bne_f _)]
  exact l27 (k := k) (by omega) ha (by omega) a.length 0 k (by omega) (by omega)
/-- laws.szFactS -/
theorem l30 {k : Nat} (hk : 2000002 ≤ k) {a : Ovi.Rows} (ha : Fit (.list [.int .i64, .list [.int .i64]]) (.list 2 a)) : ∀ (m i n : Nat) (left : Int), 0 ≤ left → left ≤ 1048576 → i + m = a.length → m < n → F30.L5 k (C k) n a left (i : Int) = some [(false, [.d (.int .i64 (szT left (szR (a.drop i))))])] := by
  have hlen := ha.len
  intro m; induction m with
  | zero =>
    intro i n left h0 h1 hm hn
    obtain ⟨n, rfl⟩ : ∃ j, n = j + 1 := ⟨n - 1, by omega⟩
    rw [F30.L5.succ, ite'_f (lt_f (by omega)), List.drop_eq_nil_of_le (by omega)]
    simp only [szR, szT_pos (left := left) (s := 0) (by omega)]
    simp
  | succ m ih =>
    intro i n left h0 h1 hm hn
    obtain ⟨n, rfl⟩ : ∃ j, n = j + 1 := ⟨n - 1, by omega⟩
    obtain ⟨row, hr, hfr, hdr⟩ := ha.row (i := i) (by omega)
    obtain ⟨d0, rr0, rfl, hd0, hfr0⟩ := Fits.cons hfr
    obtain ⟨x0, rfl, wx0⟩ := hd0.int
    obtain ⟨d1, rr1, rfl, hd1, hfr1⟩ := Fits.cons hfr0
    obtain ⟨x1, rfl, hx1⟩ := hd1.list (n := 1) rfl
    obtain rfl := Fits.nil hfr1
    have eR : szR (a.drop i) = szC [.int .i64 x0, .list 1 x1] + szR (a.drop (i + 1)) := by rw [hdr]; rfl
    rw [F30.L5.succ, ite'_t (lt_t (by omega)), ite'_t (inR_t (by omega)), eR]
    simp only [Int.toNat_natCast, cellI_at hr, cellB_at hr, cellS_at hr, cellL_at hr]
    simp only [List.getElem?_cons_zero, List.getElem?_cons_succ, Option.bind_some, asI_s, asB_s, asS_s, asL_s, bindI_s, bindB_s, bindS_s, bindL_s, bindR_s, resI_s, resB_s, resS_s, resO_s, bne_self_eq_false, beq_self_eq_true, Bool.not_true]
    have cc := c56 (k := k) (by omega) (a0 := x0) hx1 h0 h1
    rw [cc]
    simp only [List.getElem?_cons_zero, List.getElem?_cons_succ, Option.bind_some, asI_s, asB_s, asS_s, asL_s, bindI_s, bindB_s, bindS_s, bindL_s, bindR_s, resI_s, resB_s, resS_s, resO_s, bne_self_eq_false, beq_self_eq_true, Bool.not_true]
    rcases szT_cases left (szC [.int .i64 x0, .list 1 x1]) with ⟨q, e⟩ | ⟨q, e⟩ <;> rw [e]
    · rw [ite'_f (neg_f (by omega)), wrap_succ (m := a.length) (by omega) (by omega) hlen]
      have := ih (i + 1) n (left - ((szC [.int .i64 x0, .list 1 x1] : Nat) : Int)) (by omega) (by omega) (by omega) (by omega)
      rw [show ((i : Int) + 1) = ((i + 1 : Nat) : Int) by omega, this]
      rcases szT_cases (left - ((szC [.int .i64 x0, .list 1 x1] : Nat) : Int)) (szR (a.drop (i + 1))) with ⟨q2, e2⟩ | ⟨q2, e2⟩ <;> rw [e2]
      · rw [szT_pos (by omega)] <;> (congr 6 <;> omega)
      · rw [szT_neg (by omega)]
    · rw [ite'_t neg_t, szT_neg (by omega)]
theorem c30 {k : Nat} (hk : 2000003 ≤ k) {a : Ovi.Rows} (ha : Fit (.list [.int .i64, .list [.int .i64]]) (.list 2 a)) {left : Int} (h0 : 0 ≤ left) (h1 : left ≤ 1048576) : C k 30 [.d (.list 2 a), .d (.int .i64 left)] = some [(false, [.d (.int .i64 (szT left (szD (.list 2 a))))])] := by
  obtain ⟨k, rfl⟩ : ∃ j, k = j + 1 := ⟨k - 1, by omega⟩
  have hlen := ha.len; unfold maxLen at hlen
  rw [F30.run, wrap_id (by omega) (by omega)]
  have eD : szD (.list 2 a) = a.length + szR a := by simp only [szD]
  rw [eD]
  rcases szT_cases left a.length with ⟨q, e⟩ | ⟨q, e⟩
  · rw [ite'_f (neg_f (by omega))]
    have := l30 (k := k) (by omega) ha a.length 0 k (left - (a.length : Int)) (by omega) (by omega) (by omega) (by omega)
    rw [List.drop_zero] at this
    rw [show ((0 : Int)) = ((0 : Nat) : Int) by rfl, this]
    rcases szT_cases (left - (a.length : Int)) (szR a) with ⟨q2, e2⟩ | ⟨q2, e2⟩ <;> rw [e2]
    · rw [szT_pos (by omega)] <;> (congr 6 <;> omega)
    · rw [szT_neg (by omega)]
  · rw [ite'_t (by simp only [decide_eq_true_eq]; omega), szT_neg (by omega)]
/-- laws.szAtomS -/
theorem l32 {k : Nat} (hk : 2000002 ≤ k) {a : Ovi.Rows} (ha : Fit (.list [.int .i64, .list [.int .i64]]) (.list 2 a)) : ∀ (m i n : Nat) (left : Int), 0 ≤ left → left ≤ 1048576 → i + m = a.length → m < n → F32.L5 k (C k) n a left (i : Int) = some [(false, [.d (.int .i64 (szT left (szR (a.drop i))))])] := by
  have hlen := ha.len
  intro m; induction m with
  | zero =>
    intro i n left h0 h1 hm hn
    obtain ⟨n, rfl⟩ : ∃ j, n = j + 1 := ⟨n - 1, by omega⟩
    rw [F32.L5.succ, ite'_f (lt_f (by omega)), List.drop_eq_nil_of_le (by omega)]
    simp only [szR, szT_pos (left := left) (s := 0) (by omega)]
    simp
  | succ m ih =>
    intro i n left h0 h1 hm hn
    obtain ⟨n, rfl⟩ : ∃ j, n = j + 1 := ⟨n - 1, by omega⟩
    obtain ⟨row, hr, hfr, hdr⟩ := ha.row (i := i) (by omega)
    obtain ⟨d0, rr0, rfl, hd0, hfr0⟩ := Fits.cons hfr
    obtain ⟨x0, rfl, wx0⟩ := hd0.int
    obtain ⟨d1, rr1, rfl, hd1, hfr1⟩ := Fits.cons hfr0
    obtain ⟨x1, rfl, hx1⟩ := hd1.list (n := 1) rfl
    obtain rfl := Fits.nil hfr1
    have eR : szR (a.drop i) = szC [.int .i64 x0, .list 1 x1] + szR (a.drop (i + 1)) := by rw [hdr]; rfl
    rw [F32.L5.succ, ite'_t (lt_t (by omega)), ite'_t (inR_t (by omega)), eR]
    simp only [Int.toNat_natCast, cellI_at hr, cellB_at hr, cellS_at hr, cellL_at hr]
    simp only [List.getElem?_cons_zero, List.getElem?_cons_succ, Option.bind_some, asI_s, asB_s, asS_s, asL_s, bindI_s, bindB_s, bindS_s, bindL_s, bindR_s, resI_s, resB_s, resS_s, resO_s, bne_self_eq_false, beq_self_eq_true, Bool.not_true]
    have cc := c58 (k := k) (by omega) (a0 := x0) hx1 h0 h1
    rw [cc]
    simp only [List.getElem?_cons_zero, List.getElem?_cons_succ, Option.bind_some, asI_s, asB_s, asS_s, asL_s, bindI_s, bindB_s, bindS_s, bindL_s, bindR_s, resI_s, resB_s, resS_s, resO_s, bne_self_eq_false, beq_self_eq_true, Bool.not_true]
    rcases szT_cases left (szC [.int .i64 x0, .list 1 x1]) with ⟨q, e⟩ | ⟨q, e⟩ <;> rw [e]
    · rw [ite'_f (neg_f (by omega)), wrap_succ (m := a.length) (by omega) (by omega) hlen]
      have := ih (i + 1) n (left - ((szC [.int .i64 x0, .list 1 x1] : Nat) : Int)) (by omega) (by omega) (by omega) (by omega)
      rw [show ((i : Int) + 1) = ((i + 1 : Nat) : Int) by omega, this]
      rcases szT_cases (left - ((szC [.int .i64 x0, .list 1 x1] : Nat) : Int)) (szR (a.drop (i + 1))) with ⟨q2, e2⟩ | ⟨q2, e2⟩ <;> rw [e2]
      · rw [szT_pos (by omega)] <;> (congr 6 <;> omega)
      · rw [szT_neg (by omega)]
    · rw [ite'_t neg_t, szT_neg (by omega)]
theorem c32 {k : Nat} (hk : 2000003 ≤ k) {a : Ovi.Rows} (ha : Fit (.list [.int .i64, .list [.int .i64]]) (.list 2 a)) {left : Int} (h0 : 0 ≤ left) (h1 : left ≤ 1048576) : C k 32 [.d (.list 2 a), .d (.int .i64 left)] = some [(false, [.d (.int .i64 (szT left (szD (.list 2 a))))])] := by
  obtain ⟨k, rfl⟩ : ∃ j, k = j + 1 := ⟨k - 1, by omega⟩
  have hlen := ha.len; unfold maxLen at hlen
  rw [F32.run, wrap_id (by omega) (by omega)]
  have eD : szD (.list 2 a) = a.length + szR a := by simp only [szD]
  rw [eD]
  rcases szT_cases left a.length with ⟨q, e⟩ | ⟨q, e⟩
  · rw [ite'_f (neg_f (by omega))]
    have := l32 (k := k) (by omega) ha a.length 0 k (left - (a.length : Int)) (by omega) (by omega) (by omega) (by omega)
    rw [List.drop_zero] at this
    rw [show ((0 : Int)) = ((0 : Nat) : Int) by rfl, this]
    rcases szT_cases (left - (a.length : Int)) (szR a) with ⟨q2, e2⟩ | ⟨q2, e2⟩ <;> rw [e2]
    · rw [szT_pos (by omega)] <;> (congr 6 <;> omega)
    · rw [szT_neg (by omega)]
  · rw [ite'_t (by simp only [decide_eq_true_eq]; omega), szT_neg (by omega)]
/-- laws.toFactS -/
theorem l39 {k : Nat} (hk : 2000002 ≤ k) {a : Ovi.Rows} (ha : Fit (.list [.int .i64, .list [.int .i64]]) (.list 2 a)) (hs : szR a ≤ 1048576) : ∀ (m i n : Nat) (v : Ovi.Rows), Filled a v i 2 → i + m = a.length → m < n → F39.L3 k (C k) n a (i : Int) v = some [(false, [.row 103 2 a])] := by
  have hlen := ha.len
  intro m; induction m with
  | zero =>
    intro i n v hv hm hn
    obtain ⟨n, rfl⟩ : ∃ j, n = j + 1 := ⟨n - 1, by omega⟩
    obtain rfl : i = a.length := by omega
    rw [F39.L3.succ, ite'_f (lt_f (by omega)), hv.done]
  | succ m ih =>
    intro i n v hv hm hn
    obtain ⟨n, rfl⟩ : ∃ j, n = j + 1 := ⟨n - 1, by omega⟩
    obtain ⟨row, hr, hfr, hdr⟩ := ha.row (i := i) (by omega)
    obtain ⟨d0, rr0, rfl, hd0, hfr0⟩ := Fits.cons hfr
    obtain ⟨x0, rfl, wx0⟩ := hd0.int
    obtain ⟨d1, rr1, rfl, hd1, hfr1⟩ := Fits.cons hfr0
    obtain ⟨x1, rfl, hx1⟩ := hd1.list (n := 1) rfl
    obtain rfl := Fits.nil hfr1
    have hst := hv.step hr rfl
    have hvl := hv.1
    have hszr := szR_at hr
    rw [F39.L3.succ, ite'_t (lt_t (by omega)), ite'_t (inR_t (by omega))]
    simp only [Int.toNat_natCast, cellI_at hr, cellB_at hr, cellS_at hr, cellL_at hr]
    simp only [List.getElem?_cons_zero, List.getElem?_cons_succ, Option.bind_some, asI_s, asB_s, asS_s, asL_s, bindI_s, bindB_s, bindS_s, bindL_s, bindR_s, resI_s, resB_s, resS_s, resO_s, bne_self_eq_false, beq_self_eq_true, Bool.not_true]
    rw [c65 (k := k) (by omega) (a0 := x0) hx1 (by simp only [szC, szD] at hszr ⊢; omega)]
    simp only [List.getElem?_cons_zero, List.getElem?_cons_succ, Option.bind_some, asI_s, asB_s, asS_s, asL_s, bindI_s, bindB_s, bindS_s, bindL_s, bindR_s, resI_s, resB_s, resS_s, resO_s, bne_self_eq_false, beq_self_eq_true, Bool.not_true]
    simp only [F65x0, F65x1]
    simp only [List.getElem?_cons_zero, List.getElem?_cons_succ, Option.bind_some, asI_s, asB_s, asS_s, asL_s, bindI_s, bindB_s, bindS_s, bindL_s, bindR_s, resI_s, resB_s, resS_s, resO_s, bne_self_eq_false, beq_self_eq_true, Bool.not_true]
    rw [ite'_t (inR_t (by omega)), wrap_succ (m := a.length) (by omega) (by omega) hlen]
    rw [show ((i : Int) + 1) = ((i + 1 : Nat) : Int) by omega]
    exact ih (i + 1) n _ hst (by omega) (by omega)
theorem c39 {k : Nat} (hk : 2000003 ≤ k) {a : Ovi.Rows} (ha : Fit (.list [.int .i64, .list [.int .i64]]) (.list 2 a)) (hs : szD (.list 2 a) ≤ 1048576) : C k 39 [.d (.list 2 a)] = some [(false, [.row 103 2 a])] := by
  obtain ⟨k, rfl⟩ : ∃ j, k = j + 1 := ⟨k - 1, by omega⟩
  simp only [szD] at hs
  rw [F39.run, ite'_t (beq_t _), ite'_t (inM_t (by omega))]
  exact l39 (k := k) (by omega) ha (by omega) a.length 0 k _ (Filled.start a _) (by omega) (by omega)
/-- laws.toAtomS -/
theorem l41 {k : Nat} (hk : 2000002 ≤ k) {a : Ovi.Rows} (ha : Fit (.list [.int .i64, .list [.int .i64]]) (.list 2 a)) (hs : szR a ≤ 1048576) : ∀ (m i n : Nat) (v : Ovi.Rows), Filled a v i 2 → i + m = a.length → m < n → F41.L3 k (C k) n a (i : Int) v = some [(false, [.row 112 2 a])] := by
  have hlen := ha.len
  intro m; induction m with
  | zero =>
    intro i n v hv hm hn
    obtain ⟨n, rfl⟩ : ∃ j, n = j + 1 := ⟨n - 1, by omega⟩
    obtain rfl : i = a.length := by omega
    rw [F41.L3.succ, ite'_f (lt_f (by omega)), hv.done]
  | succ m ih =>
    intro i n v hv hm hn
    obtain ⟨n, rfl⟩ : ∃ j, n = j + 1 := ⟨n - 1, by omega⟩
    obtain ⟨row, hr, hfr, hdr⟩ := ha.row (i := i) (by omega)
    obtain ⟨d0, rr0, rfl, hd0, hfr0⟩ := Fits.cons hfr
    obtain ⟨x0, rfl, wx0⟩ := hd0.int
    obtain ⟨d1, rr1, rfl, hd1, hfr1⟩ := Fits.cons hfr0
    obtain ⟨x1, rfl, hx1⟩ := hd1.list (n := 1) rfl
    obtain rfl := Fits.nil hfr1
    have hst := hv.step hr rfl
    have hvl := hv.1
    have hszr := szR_at hr
    rw [F41.L3.succ, ite'_t (lt_t (by omega)), ite'_t (inR_t (by omega))]
    simp only [Int.toNat_natCast, cellI_at hr, cellB_at hr, cellS_at hr, cellL_at hr]
    simp only [List.getElem?_cons_zero, List.getElem?_cons_succ, Option.bind_some, asI_s, asB_s, asS_s, asL_s, bindI_s, bindB_s, bindS_s, bindL_s, bindR_s, resI_s, resB_s, resS_s, resO_s, bne_self_eq_false, beq_self_eq_true, Bool.not_true]
    rw [c67 (k := k) (by omega) (a0 := x0) hx1 (by simp only [szC, szD] at hszr ⊢; omega)]
    simp only [List.getElem?_cons_zero, List.getElem?_cons_succ, Option.bind_some, asI_s, asB_s, asS_s, asL_s, bindI_s, bindB_s, bindS_s, bindL_s, bindR_s, resI_s, resB_s, resS_s, resO_s, bne_self_eq_false, beq_self_eq_true, Bool.not_true]
    simp only [F67x0, F67x1]
    simp only [List.getElem?_cons_zero, List.getElem?_cons_succ, Option.bind_some, asI_s, asB_s, asS_s, asL_s, bindI_s, bindB_s, bindS_s, bindL_s, bindR_s, resI_s, resB_s, resS_s, resO_s, bne_self_eq_false, beq_self_eq_true, Bool.not_true]
    rw [ite'_t (inR_t (by omega)), wrap_succ (m := a.length) (by omega) (by omega) hlen]
    rw [show ((i : Int) + 1) = ((i + 1 : Nat) : Int) by omega]
    exact ih (i + 1) n _ hst (by omega) (by omega)
theorem c41 {k : Nat} (hk : 2000003 ≤ k) {a : Ovi.Rows} (ha : Fit (.list [.int .i64, .list [.int .i64]]) (.list 2 a)) (hs : szD (.list 2 a) ≤ 1048576) : C k 41 [.d (.list 2 a)] = some [(false, [.row 112 2 a])] := by
  obtain ⟨k, rfl⟩ : ∃ j, k = j + 1 := ⟨k - 1, by omega⟩
  simp only [szD] at hs
  rw [F41.run, ite'_t (beq_t _), ite'_t (inM_t (by omega))]
  exact l41 (k := k) (by omega) ha (by omega) a.length 0 k _ (Filled.start a _) (by omega) (by omega)
/-- laws.eqFactS -/
theorem l52 {k : Nat} (hk : 2000002 ≤ k) {a : Ovi.Rows} (ha : Fit (.list [.int .i64, .list [.int .i64]]) (.list 2 a)) (hs : szR a ≤ 1048576) : ∀ (m i n : Nat), i + m = a.length → m < n → F52.L4 k (C k) n a a (i : Int) = some [(false, [.d (.bool true)])] := by
  have hlen := ha.len
  intro m; induction m with
  | zero =>
    intro i n hm hn
    obtain ⟨n, rfl⟩ : ∃ j, n = j + 1 := ⟨n - 1, by omega⟩
    rw [F52.L4.succ, ite'_f (lt_f (by omega))]
  | succ m ih =>
    intro i n hm hn
    obtain ⟨n, rfl⟩ : ∃ j, n = j + 1 := ⟨n - 1, by omega⟩
    obtain ⟨row, hr, hfr, hdr⟩ := ha.row (i := i) (by omega)
    obtain ⟨d0, rr0, rfl, hd0, hfr0⟩ := Fits.cons hfr
    obtain ⟨x0, rfl, wx0⟩ := hd0.int
    obtain ⟨d1, rr1, rfl, hd1, hfr1⟩ := Fits.cons hfr0
    obtain ⟨x1, rfl, hx1⟩ := hd1.list (n := 1) rfl
    obtain rfl := Fits.nil hfr1
    have hszr := szR_at hr
    rw [F52.L4.succ, ite'_t (lt_t (by omega)), ite'_t (inR_t (by omega))]
    simp only [Int.toNat_natCast, cellI_at hr, cellB_at hr, cellS_at hr, cellL_at hr]
    simp only [List.getElem?_cons_zero, List.getElem?_cons_succ, Option.bind_some, asI_s, asB_s, asS_s, asL_s, bindI_s, bindB_s, bindS_s, bindL_s, bindR_s, resI_s, resB_s, resS_s, resO_s, bne_self_eq_false, beq_self_eq_true, Bool.not_true]
    rw [ite'_t (inR_t (by omega))]
    rw [c84 (k := k) (by omega) (a0 := x0) hx1 (by simp only [szC, szD] at hszr ⊢; omega)]
    simp only [List.getElem?_cons_zero, List.getElem?_cons_succ, Option.bind_some, asI_s, asB_s, asS_s, asL_s, bindI_s, bindB_s, bindS_s, bindL_s, bindR_s, resI_s, resB_s, resS_s, resO_s, bne_self_eq_false, beq_self_eq_true, Bool.not_true]
    rw [ite'_f rfl, wrap_succ (m := a.length) (by omega) (by omega) hlen]
    rw [show ((i : Int) + 1) = ((i + 1 : Nat) : Int) by omega]
    exact ih (i + 1) n (by omega) (by omega)
theorem c52 {k : Nat} (hk : 2000003 ≤ k) {a : Ovi.Rows} (ha : Fit (.list [.int .i64, .list [.int .i64]]) (.list 2 a)) (hs : szD (.list 2 a) ≤ 1048576) : C k 52 [.d (.list 2 a), .d (.list 2 a)] = some [(false, [.d (.bool true)])] := by
  obtain ⟨k, rfl⟩ : ∃ j, k = j + 1 := ⟨k - 1, by omega⟩
  simp only [szD] at hs
  rw [F52.run, ite'_f (bne_f _)]
  exact l52 (k := k) (by omega) ha (by omega) a.length 0 k (by omega) (by omega)
/-- laws.eqAtomS -/
theorem l54 {k : Nat} (hk : 2000002 ≤ k) {a : Ovi.Rows} (ha : Fit (.list [.int .i64, .list [.int .i64]]) (.list 2 a)) (hs : szR a ≤ 1048576) : ∀ (m i n : Nat), i + m = a.length → m < n → F54.L4 k (C k) n a a (i : Int) = some [(false, [.d (.bool true)])] := by
  have hlen := ha.len
  intro m; induction m with
  | zero =>
    intro i n hm hn
    obtain ⟨n, rfl⟩ : ∃ j, n = j + 1 := ⟨n - 1, by omega⟩
    rw [F54.L4.succ, ite'_f (lt_f (by omega))]
  | succ m ih =>
    intro i n hm hn
    obtain ⟨n, rfl⟩ : ∃ j, n = j + 1 := ⟨n - 1, by omega⟩
    obtain ⟨row, hr, hfr, hdr⟩ := ha.row (i := i) (by omega)
    obtain ⟨d0, rr0, rfl, hd0, hfr0⟩ := Fits.cons hfr
    obtain ⟨x0, rfl, wx0⟩ := hd0.int
    obtain ⟨d1, rr1, rfl, hd1, hfr1⟩ := Fits.cons hfr0
    obtain ⟨x1, rfl, hx1⟩ := hd1.list (n := 1) rfl
    obtain rfl := Fits.nil hfr1
    have hszr := szR_at hr
    rw [F54.L4.succ, ite'_t (lt_t (by omega)), ite'_t (inR_t (by omega))]
    simp only [Int.toNat_natCast, cellI_at hr, cellB_at hr, cellS_at hr, cellL_at hr]
    simp only [List.getElem?_cons_zero, List.getElem?_cons_succ, Option.bind_some, asI_s, asB_s, asS_s, asL_s, bindI_s, bindB_s, bindS_s, bindL_s, bindR_s, resI_s, resB_s, resS_s, resO_s, bne_self_eq_false, beq_self_eq_true, Bool.not_true]
    rw [ite'_t (inR_t (by omega))]
    rw [c86 (k := k) (by omega) (a0 := x0) hx1 (by simp only [szC, szD] at hszr ⊢; omega)]
    simp only [List.getElem?_cons_zero, List.getElem?_cons_succ, Option.bind_some, asI_s, asB_s, asS_s, asL_s, bindI_s, bindB_s, bindS_s, bindL_s, bindR_s, resI_s, resB_s, resS_s, resO_s, bne_self_eq_false, beq_self_eq_true, Bool.not_true]
    rw [ite'_f rfl, wrap_succ (m := a.length) (by omega) (by omega) hlen]
    rw [show ((i : Int) + 1) = ((i + 1 : Nat) : Int) by omega]
    exact ih (i + 1) n (by omega) (by omega)
theorem c54 {k : Nat} (hk : 2000003 ≤ k) {a : Ovi.Rows} (ha : Fit (.list [.int .i64, .list [.int .i64]]) (.list 2 a)) (hs : szD (.list 2 a) ≤ 1048576) : C k 54 [.d (.list 2 a), .d (.list 2 a)] = some [(false, [.d (.bool true)])] := by
  obtain ⟨k, rfl⟩ : ∃ j, k = j + 1 := ⟨k - 1, by omega⟩
  simp only [szD] at hs
  rw [F54.run, ite'_f (bne_f _)]
  exact l54 (k := k) (by omega) ha (by omega) a.length 0 k (by omega) (by omega)
/-- laws.szInstance -/
theorem c12 {k : Nat} (hk : 2000004 ≤ k) {a0 : Ovi.Rows} (ha0 : Fit (.list [.str, .int .i64, .bool]) (.list 3 a0)) {a1 : Ovi.Rows} (ha1 : Fit (.list [.int .i64, .list [.int .i64]]) (.list 2 a1)) {left : Int} (h0 : 0 ≤ left) (h1 : left ≤ 1048576) : C k 12 [.agg [.d (.list 3 a0), .d (.list 2 a1)], .d (.int .i64 left)] = some [(false, [.d (.int .i64 (szT left (szC [.list 3 a0, .list 2 a1])))])] := by
  obtain ⟨k, rfl⟩ : ∃ j, k = j + 1 := ⟨k - 1, by omega⟩
  have eT : szC [.list 3 a0, .list 2 a1] = (szD (.list 3 a0)) + (szD (.list 2 a1)) := by simp only [szC, szD] <;> omega
  rw [eT, F12.run]
  rw [c29 (k := k) (by omega)  ha0 (left := left) (by omega) (by omega)]
  simp only [List.getElem?_cons_zero, List.getElem?_cons_succ, Option.bind_some, asI_s, asB_s, asS_s, asL_s, bindI_s, bindB_s, bindS_s, bindL_s, bindR_s, resI_s, resB_s, resS_s, resO_s, bne_self_eq_false, beq_self_eq_true, Bool.not_true]
  rcases szT_cases (left) (szD (.list 3 a0)) with ⟨q0, e0⟩ | ⟨q0, e0⟩ <;> rw [e0]
  rotate_left
  · rw [ite'_t (by simp only [decide_eq_true_eq]; omega)] <;> first | rfl | rw [szT_neg (by omega)]
  rw [ite'_f (neg_f (by omega))]
  rw [c30 (k := k) (by omega)  ha1 (left := left - ((szD (.list 3 a0) : Nat) : Int)) (by omega) (by omega)]
  simp only [List.getElem?_cons_zero, List.getElem?_cons_succ, Option.bind_some, asI_s, asB_s, asS_s, asL_s, bindI_s, bindB_s, bindS_s, bindL_s, bindR_s, resI_s, resB_s, resS_s, resO_s, bne_self_eq_false, beq_self_eq_true, Bool.not_true]
  rcases szT_cases (left - ((szD (.list 3 a0) : Nat) : Int)) (szD (.list 2 a1)) with ⟨q1, e1⟩ | ⟨q1, e1⟩ <;> rw [e1]
  rotate_left
  · rw [ite'_t (by simp only [decide_eq_true_eq]; omega)] <;> first | rfl | rw [szT_neg (by omega)]
  rw [ite'_f (neg_f (by omega))] <;> first | rfl | (rw [szT_pos (by omega)] <;> (congr 6 <;> omega))
/-- laws.szDependency -/
theorem c14 {k : Nat} (hk : 2000004 ≤ k) {a0 : Ovi.Rows} (ha0 : Fit (.list [.int .i64, .list [.int .i64]]) (.list 2 a0)) {a1 : Ovi.Rows} (ha1 : Fit (.list [.int .i64, .list [.int .i64]]) (.list 2 a1)) {a2 : Bool} {a3 : Int} {a4 : Int} {left : Int} (h0 : 0 ≤ left) (h1 : left ≤ 1048576) : C k 14 [.agg [.d (.list 2 a0), .d (.list 2 a1), .d (.bool a2), .d (.int .i64 a3), .d (.int .i64 a4)], .d (.int .i64 left)] = some [(false, [.d (.int .i64 (szT left (szC [.list 2 a0, .list 2 a1, .bool a2, .int .i64 a3, .int .i64 a4])))])] := by
  obtain ⟨k, rfl⟩ : ∃ j, k = j + 1 := ⟨k - 1, by omega⟩
  have eT : szC [.list 2 a0, .list 2 a1, .bool a2, .int .i64 a3, .int .i64 a4] = (szD (.list 2 a0)) + (szD (.list 2 a1)) := by simp only [szC, szD] <;> omega
  rw [eT, F14.run]
  rw [c32 (k := k) (by omega)  ha0 (left := left) (by omega) (by omega)]
  simp only [List.getElem?_cons_zero, List.getElem?_cons_succ, Option.bind_some, asI_s, asB_s, asS_s, asL_s, bindI_s, bindB_s, bindS_s, bindL_s, bindR_s, resI_s, resB_s, resS_s, resO_s, bne_self_eq_false, beq_self_eq_true, Bool.not_true]
  rcases szT_cases (left) (szD (.list 2 a0)) with ⟨q0, e0⟩ | ⟨q0, e0⟩ <;> rw [e0]
  rotate_left
  · rw [ite'_t (by simp only [decide_eq_true_eq]; omega)] <;> first | rfl | rw [szT_neg (by omega)]
  rw [ite'_f (neg_f (by omega))]
  rw [c32 (k := k) (by omega)  ha1 (left := left - ((szD (.list 2 a0) : Nat) : Int)) (by omega) (by omega)]
  simp only [List.getElem?_cons_zero, List.getElem?_cons_succ, Option.bind_some, asI_s, asB_s, asS_s, asL_s, bindI_s, bindB_s, bindS_s, bindL_s, bindR_s, resI_s, resB_s, resS_s, resO_s, bne_self_eq_false, beq_self_eq_true, Bool.not_true]
  rcases szT_cases (left - ((szD (.list 2 a0) : Nat) : Int)) (szD (.list 2 a1)) with ⟨q1, e1⟩ | ⟨q1, e1⟩ <;> rw [e1]
  rotate_left
  · rw [ite'_t (by simp only [decide_eq_true_eq]; omega)] <;> first | rfl | rw [szT_neg (by omega)]
  rw [ite'_f (neg_f (by omega))] <;> first | rfl | (rw [szT_pos (by omega)] <;> (congr 6 <;> omega))
/-- laws.toInstance -/
theorem F20x0 {a0 : Ovi.Rows} {a1 : Ovi.Rows} : resO 107 3 1 true 2 [(true, [.row 107 3 a0, .row 103 2 a1])] 0 0 = some a0 := rfl
theorem F20x1 {a0 : Ovi.Rows} {a1 : Ovi.Rows} : resO 103 2 1 true 2 [(true, [.row 107 3 a0, .row 103 2 a1])] 0 1 = some a1 := rfl
theorem c20 {k : Nat} (hk : 2000004 ≤ k) {a0 : Ovi.Rows} (ha0 : Fit (.list [.str, .int .i64, .bool]) (.list 3 a0)) {a1 : Ovi.Rows} (ha1 : Fit (.list [.int .i64, .list [.int .i64]]) (.list 2 a1)) (s0 : szD (.list 3 a0) ≤ 1048576) (s1 : szD (.list 2 a1) ≤ 1048576) : C k 20 [.agg [.d (.list 3 a0), .d (.list 2 a1)]] = some [(true, [.row 107 3 a0, .row 103 2 a1])] := by
  obtain ⟨k, rfl⟩ : ∃ j, k = j + 1 := ⟨k - 1, by omega⟩
  rw [F20.run]
  rw [c38 (k := k) (by omega)  ha0 s0]
  simp only [List.getElem?_cons_zero, List.getElem?_cons_succ, Option.bind_some, asI_s, asB_s, asS_s, asL_s, bindI_s, bindB_s, bindS_s, bindL_s, bindR_s, resI_s, resB_s, resS_s, resO_s, bne_self_eq_false, beq_self_eq_true, Bool.not_true]
  rw [c39 (k := k) (by omega)  ha1 s1]
  simp only [List.getElem?_cons_zero, List.getElem?_cons_succ, Option.bind_some, asI_s, asB_s, asS_s, asL_s, bindI_s, bindB_s, bindS_s, bindL_s, bindR_s, resI_s, resB_s, resS_s, resO_s, bne_self_eq_false, beq_self_eq_true, Bool.not_true]
/-- laws.toDependency -/
theorem F22x0 {a0 : Ovi.Rows} {a1 : Ovi.Rows} {a2 : Bool} {a3 : Int} {a4 : Int} : resO 112 2 1 true 5 [(true, [.row 112 2 a0, .row 112 2 a1, .d (.bool a2), .d (.int .i64 a3), .d (.int .i64 a4)])] 0 0 = some a0 := rfl
theorem F22x1 {a0 : Ovi.Rows} {a1 : Ovi.Rows} {a2 : Bool} {a3 : Int} {a4 : Int} : resO 112 2 1 true 5 [(true, [.row 112 2 a0, .row 112 2 a1, .d (.bool a2), .d (.int .i64 a3), .d (.int .i64 a4)])] 0 1 = some a1 := rfl
theorem F22x2 {a0 : Ovi.Rows} {a1 : Ovi.Rows} {a2 : Bool} {a3 : Int} {a4 : Int} : resB 1 true 5 [(true, [.row 112 2 a0, .row 112 2 a1, .d (.bool a2), .d (.int .i64 a3), .d (.int .i64 a4)])] 0 2 = some a2 := rfl
theorem F22x3 {a0 : Ovi.Rows} {a1 : Ovi.Rows} {a2 : Bool} {a3 : Int} {a4 : Int} : resI .i64 1 true 5 [(true, [.row 112 2 a0, .row 112 2 a1, .d (.bool a2), .d (.int .i64 a3), .d (.int .i64 a4)])] 0 3 = some a3 := rfl
theorem F22x4 {a0 : Ovi.Rows} {a1 : Ovi.Rows} {a2 : Bool} {a3 : Int} {a4 : Int} : resI .i64 1 true 5 [(true, [.row 112 2 a0, .row 112 2 a1, .d (.bool a2), .d (.int .i64 a3), .d (.int .i64 a4)])] 0 4 = some a4 := rfl
theorem c22 {k : Nat} (hk : 2000004 ≤ k) {a0 : Ovi.Rows} (ha0 : Fit (.list [.int .i64, .list [.int .i64]]) (.list 2 a0)) {a1 : Ovi.Rows} (ha1 : Fit (.list [.int .i64, .list [.int .i64]]) (.list 2 a1)) {a2 : Bool} {a3 : Int} {a4 : Int} (s0 : szD (.list 2 a0) ≤ 1048576) (s1 : szD (.list 2 a1) ≤ 1048576) : C k 22 [.agg [.d (.list 2 a0), .d (.list 2 a1), .d (.bool a2), .d (.int .i64 a3), .d (.int .i64 a4)]] = some [(true, [.row 112 2 a0, .row 112 2 a1, .d (.bool a2), .d (.int .i64 a3), .d (.int .i64 a4)])] := by
  obtain ⟨k, rfl⟩ : ∃ j, k = j + 1 := ⟨k - 1, by omega⟩
  rw [F22.run]
  rw [c41 (k := k) (by omega)  ha0 s0]
  simp only [List.getElem?_cons_zero, List.getElem?_cons_succ, Option.bind_some, asI_s, asB_s, asS_s, asL_s, bindI_s, bindB_s, bindS_s, bindL_s, bindR_s, resI_s, resB_s, resS_s, resO_s, bne_self_eq_false, beq_self_eq_true, Bool.not_true]
  rw [c41 (k := k) (by omega)  ha1 s1]
  simp only [List.getElem?_cons_zero, List.getElem?_cons_succ, Option.bind_some, asI_s, asB_s, asS_s, asL_s, bindI_s, bindB_s, bindS_s, bindL_s, bindR_s, resI_s, resB_s, resS_s, resO_s, bne_self_eq_false, beq_self_eq_true, Bool.not_true]
/-- laws.eqInstance -/
theorem c26 {k : Nat} (hk : 2000004 ≤ k) {a0 : Ovi.Rows} (ha0 : Fit (.list [.str, .int .i64, .bool]) (.list 3 a0)) {a1 : Ovi.Rows} (ha1 : Fit (.list [.int .i64, .list [.int .i64]]) (.list 2 a1)) (s0 : szD (.list 3 a0) ≤ 1048576) (s1 : szD (.list 2 a1) ≤ 1048576) : C k 26 [.agg [.d (.list 3 a0), .d (.list 2 a1)], .agg [.d (.list 3 a0), .d (.list 2 a1)]] = some [(false, [.d (.bool true)])] := by
  obtain ⟨k, rfl⟩ : ∃ j, k = j + 1 := ⟨k - 1, by omega⟩
  rw [F26.run]
  rw [c51 (k := k) (by omega)  ha0 s0]
  rw [c52 (k := k) (by omega)  ha1 s1]
  simp only [List.getElem?_cons_zero, List.getElem?_cons_succ, Option.bind_some, asI_s, asB_s, asS_s, asL_s, bindI_s, bindB_s, bindS_s, bindL_s, bindR_s, resI_s, resB_s, resS_s, resO_s, bne_self_eq_false, beq_self_eq_true, Bool.not_true]
  rfl
/-- laws.eqDependency -/
theorem c28 {k : Nat} (hk : 2000004 ≤ k) {a0 : Ovi.Rows} (ha0 : Fit (.list [.int .i64, .list [.int .i64]]) (.list 2 a0)) {a1 : Ovi.Rows} (ha1 : Fit (.list [.int .i64, .list [.int .i64]]) (.list 2 a1)) {a2 : Bool} {a3 : Int} {a4 : Int} (s0 : szD (.list 2 a0) ≤ 1048576) (s1 : szD (.list 2 a1) ≤ 1048576) : C k 28 [.agg [.d (.list 2 a0), .d (.list 2 a1), .d (.bool a2), .d (.int .i64 a3), .d (.int .i64 a4)], .agg [.d (.list 2 a0), .d (.list 2 a1), .d (.bool a2), .d (.int .i64 a3), .d (.int .i64 a4)]] = some [(false, [.d (.bool true)])] := by
  obtain ⟨k, rfl⟩ : ∃ j, k = j + 1 := ⟨k - 1, by omega⟩
  rw [F28.run]
  rw [c54 (k := k) (by omega)  ha0 s0]
  rw [c54 (k := k) (by omega)  ha1 s1]
  simp only [List.getElem?_cons_zero, List.getElem?_cons_succ, Option.bind_some, asI_s, asB_s, asS_s, asL_s, bindI_s, bindB_s, bindS_s, bindL_s, bindR_s, resI_s, resB_s, resS_s, resO_s, bne_self_eq_false, beq_self_eq_true, Bool.not_true]
  rfl
/-- laws.szSkolemState -/
theorem c4 {k : Nat} (hk : 2000005 ≤ k) {a0 : Ovi.Rows} (ha0 : Fit (.list [.str, .int .i64, .bool]) (.list 3 a0)) {a1 : Ovi.Rows} (ha1 : Fit (.list [.int .i64, .list [.int .i64]]) (.list 2 a1)) {a2 : Ovi.Rows} (ha2 : Fit (.list [.int .i64, .int .i64, .list [.int .i64]]) (.list 3 a2)) {left : Int} (h0 : 0 ≤ left) (h1 : left ≤ 1048576) : C k 4 [.agg [.d (.list 3 a0), .d (.list 2 a1), .d (.list 3 a2)], .d (.int .i64 left)] = some [(false, [.d (.int .i64 (szT left (szC [.list 3 a0, .list 2 a1, .list 3 a2])))])] := by
  obtain ⟨k, rfl⟩ : ∃ j, k = j + 1 := ⟨k - 1, by omega⟩
  have eT : szC [.list 3 a0, .list 2 a1, .list 3 a2] = (szC [.list 3 a0, .list 2 a1]) + (szD (.list 3 a2)) := by simp only [szC, szD] <;> omega
  rw [eT, F4.run]
  rw [c12 (k := k) (by omega)  ha0 ha1 (left := left) (by omega) (by omega)]
  simp only [List.getElem?_cons_zero, List.getElem?_cons_succ, Option.bind_some, asI_s, asB_s, asS_s, asL_s, bindI_s, bindB_s, bindS_s, bindL_s, bindR_s, resI_s, resB_s, resS_s, resO_s, bne_self_eq_false, beq_self_eq_true, Bool.not_true]
  rcases szT_cases (left) (szC [.list 3 a0, .list 2 a1]) with ⟨q0, e0⟩ | ⟨q0, e0⟩ <;> rw [e0]
  rotate_left
  · rw [ite'_t (by simp only [decide_eq_true_eq]; omega)] <;> first | rfl | rw [szT_neg (by omega)]
  rw [ite'_f (neg_f (by omega))]
  rw [c13 (k := k) (by omega)  ha2 (left := left - ((szC [.list 3 a0, .list 2 a1] : Nat) : Int)) (by omega) (by omega)]
  simp only [List.getElem?_cons_zero, List.getElem?_cons_succ, Option.bind_some, asI_s, asB_s, asS_s, asL_s, bindI_s, bindB_s, bindS_s, bindL_s, bindR_s, resI_s, resB_s, resS_s, resO_s, bne_self_eq_false, beq_self_eq_true, Bool.not_true]
  rcases szT_cases (left - ((szC [.list 3 a0, .list 2 a1] : Nat) : Int)) (szD (.list 3 a2)) with ⟨q1, e1⟩ | ⟨q1, e1⟩ <;> rw [e1]
  rotate_left
  · rw [ite'_t (by simp only [decide_eq_true_eq]; omega)] <;> first | rfl | rw [szT_neg (by omega)]
  rw [ite'_f (neg_f (by omega))] <;> first | rfl | (rw [szT_pos (by omega)] <;> (congr 6 <;> omega))
/-- laws.szDependencyS -/
theorem l5 {k : Nat} (hk : 2000004 ≤ k) {a : Ovi.Rows} (ha : Fit (.list [.list [.int .i64, .list [.int .i64]], .list [.int .i64, .list [.int .i64]], .bool, .int .i64, .int .i64]) (.list 5 a)) : ∀ (m i n : Nat) (left : Int), 0 ≤ left → left ≤ 1048576 → i + m = a.length → m < n → F5.L5 k (C k) n a left (i : Int) = some [(false, [.d (.int .i64 (szT left (szR (a.drop i))))])] := by
  have hlen := ha.len
  intro m; induction m with
  | zero =>
    intro i n left h0 h1 hm hn
    obtain ⟨n, rfl⟩ : ∃ j, n = j + 1 := ⟨n - 1, by omega⟩
    rw [F5.L5.succ, ite'_f (lt_f (by omega)), List.drop_eq_nil_of_le (by omega)]
    simp only [szR, szT_pos (left := left) (s := 0) (by omega)]
    simp
  | succ m ih =>
    intro i n left h0 h1 hm hn
    obtain ⟨n, rfl⟩ : ∃ j, n = j + 1 := ⟨n - 1, by omega⟩
    obtain ⟨row, hr, hfr, hdr⟩ := ha.row (i := i) (by omega)
    obtain ⟨d0, rr0, rfl, hd0, hfr0⟩ := Fits.cons hfr
    obtain ⟨x0, rfl, hx0⟩ := hd0.list (n := 2) rfl
    obtain ⟨d1, rr1, rfl, hd1, hfr1⟩ := Fits.cons hfr0
    obtain ⟨x1, rfl, hx1⟩ := hd1.list (n := 2) rfl
    obtain ⟨d2, rr2, rfl, hd2, hfr2⟩ := Fits.cons hfr1
    obtain ⟨x2, rfl⟩ := hd2.bool
    obtain ⟨d3, rr3, rfl, hd3, hfr3⟩ := Fits.cons hfr2
    obtain ⟨x3, rfl, wx3⟩ := hd3.int
    obtain ⟨d4, rr4, rfl, hd4, hfr4⟩ := Fits.cons hfr3
    obtain ⟨x4, rfl, wx4⟩ := hd4.int
    obtain rfl := Fits.nil hfr4
    have eR : szR (a.drop i) = szC [.list 2 x0, .list 2 x1, .bool x2, .int .i64 x3, .int .i64 x4] + szR (a.drop (i + 1)) := by rw [hdr]; rfl
    rw [F5.L5.succ, ite'_t (lt_t (by omega)), ite'_t (inR_t (by omega)), eR]
    simp only [Int.toNat_natCast, cellI_at hr, cellB_at hr, cellS_at hr, cellL_at hr]
    simp only [List.getElem?_cons_zero, List.getElem?_cons_succ, Option.bind_some, asI_s, asB_s, asS_s, asL_s, bindI_s, bindB_s, bindS_s, bindL_s, bindR_s, resI_s, resB_s, resS_s, resO_s, bne_self_eq_false, beq_self_eq_true, Bool.not_true]
    have cc := c14 (k := k) (by omega) (a2 := x2) (a3 := x3) (a4 := x4) hx0 hx1 h0 h1
    rw [cc]
    simp only [List.getElem?_cons_zero, List.getElem?_cons_succ, Option.bind_some, asI_s, asB_s, asS_s, asL_s, bindI_s, bindB_s, bindS_s, bindL_s, bindR_s, resI_s, resB_s, resS_s, resO_s, bne_self_eq_false, beq_self_eq_true, Bool.not_true]
    rcases szT_cases left (szC [.list 2 x0, .list 2 x1, .bool x2, .int .i64 x3, .int .i64 x4]) with ⟨q, e⟩ | ⟨q, e⟩ <;> rw [e]
    · rw [ite'_f (neg_f (by omega)), wrap_succ (m := a.length) (by omega) (by omega) hlen]
      have := ih (i + 1) n (left - ((szC [.list 2 x0, .list 2 x1, .bool x2, .int .i64 x3, .int .i64 x4] : Nat) : Int)) (by omega) (by omega) (by omega) (by omega)
      rw [show ((i : Int) + 1) = ((i + 1 : Nat) : Int) by omega, this]
      rcases szT_cases (left - ((szC [.list 2 x0, .list 2 x1, .bool x2, .int .i64 x3, .int .i64 x4] : Nat) : Int)) (szR (a.drop (i + 1))) with ⟨q2, e2⟩ | ⟨q2, e2⟩ <;> rw [e2]
      · rw [szT_pos (by omega)] <;> (congr 6 <;> omega)
      · rw [szT_neg (by omega)]
    · rw [ite'_t neg_t, szT_neg (by omega)]
theorem c5 {k : Nat} (hk : 2000005 ≤ k) {a : Ovi.Rows} (ha : Fit (.list [.list [.int .i64, .list [.int .i64]], .list [.int .i64, .list [.int .i64]], .bool, .int .i64, .int .i64]) (.list 5 a)) {left : Int} (h0 : 0 ≤ left) (h1 : left ≤ 1048576) : C k 5 [.d (.list 5 a), .d (.int .i64 left)] = some [(false, [.d (.int .i64 (szT left (szD (.list 5 a))))])] := by
  obtain ⟨k, rfl⟩ : ∃ j, k = j + 1 := ⟨k - 1, by omega⟩
  have hlen := ha.len; unfold maxLen at hlen
  rw [F5.run, wrap_id (by omega) (by omega)]
  have eD : szD (.list 5 a) = a.length + szR a := by simp only [szD]
  rw [eD]
  rcases szT_cases left a.length with ⟨q, e⟩ | ⟨q, e⟩
  · rw [ite'_f (neg_f (by omega))]
    have := l5 (k := k) (by omega) ha a.length 0 k (left - (a.length : Int)) (by omega) (by omega) (by omega) (by omega)
    rw [List.drop_zero] at this
    rw [show ((0 : Int)) = ((0 : Nat) : Int) by rfl, this]
    rcases szT_cases (left - (a.length : Int)) (szR a) with ⟨q2, e2⟩ | ⟨q2, e2⟩ <;> rw [e2]
    · rw [szT_pos (by omega)] <;> (congr 6 <;> omega)
    · rw [szT_neg (by omega)]
  · rw [ite'_t (by simp only [decide_eq_true_eq]; omega), szT_neg (by omega)]
/-- laws.toSkolemState -/
theorem F7x0 {a0 : Ovi.Rows} {a1 : Ovi.Rows} {a2 : Ovi.Rows} : resO 107 3 1 true 3 [(true, [.row 107 3 a0, .row 103 2 a1, .row 58 3 a2])] 0 0 = some a0 := rfl
theorem F7x1 {a0 : Ovi.Rows} {a1 : Ovi.Rows} {a2 : Ovi.Rows} : resO 103 2 1 true 3 [(true, [.row 107 3 a0, .row 103 2 a1, .row 58 3 a2])] 0 1 = some a1 := rfl
theorem F7x2 {a0 : Ovi.Rows} {a1 : Ovi.Rows} {a2 : Ovi.Rows} : resO 58 3 1 true 3 [(true, [.row 107 3 a0, .row 103 2 a1, .row 58 3 a2])] 0 2 = some a2 := rfl
theorem c7 {k : Nat} (hk : 2000005 ≤ k) {a0 : Ovi.Rows} (ha0 : Fit (.list [.str, .int .i64, .bool]) (.list 3 a0)) {a1 : Ovi.Rows} (ha1 : Fit (.list [.int .i64, .list [.int .i64]]) (.list 2 a1)) {a2 : Ovi.Rows} (ha2 : Fit (.list [.int .i64, .int .i64, .list [.int .i64]]) (.list 3 a2)) (s0 : szD (.list 3 a0) ≤ 1048576) (s1 : szD (.list 2 a1) ≤ 1048576) (s2 : szD (.list 3 a2) ≤ 1048576) : C k 7 [.agg [.d (.list 3 a0), .d (.list 2 a1), .d (.list 3 a2)]] = some [(true, [.row 107 3 a0, .row 103 2 a1, .row 58 3 a2])] := by
  obtain ⟨k, rfl⟩ : ∃ j, k = j + 1 := ⟨k - 1, by omega⟩
  rw [F7.run]
  rw [c20 (k := k) (by omega)  ha0 ha1 s0 s1]
  simp only [List.getElem?_cons_zero, List.getElem?_cons_succ, Option.bind_some, asI_s, asB_s, asS_s, asL_s, bindI_s, bindB_s, bindS_s, bindL_s, bindR_s, resI_s, resB_s, resS_s, resO_s, bne_self_eq_false, beq_self_eq_true, Bool.not_true]
  simp only [F20x0, F20x1]
  simp only [List.getElem?_cons_zero, List.getElem?_cons_succ, Option.bind_some, asI_s, asB_s, asS_s, asL_s, bindI_s, bindB_s, bindS_s, bindL_s, bindR_s, resI_s, resB_s, resS_s, resO_s, bne_self_eq_false, beq_self_eq_true, Bool.not_true]
  rw [c21 (k := k) (by omega)  ha2 s2]
  simp only [List.getElem?_cons_zero, List.getElem?_cons_succ, Option.bind_some, asI_s, asB_s, asS_s, asL_s, bindI_s, bindB_s, bindS_s, bindL_s, bindR_s, resI_s, resB_s, resS_s, resO_s, bne_self_eq_false, beq_self_eq_true, Bool.not_true]
/-- laws.toDependencyS -/
theorem l8 {k : Nat} (hk : 2000004 ≤ k) {a : Ovi.Rows} (ha : Fit (.list [.list [.int .i64, .list [.int .i64]], .list [.int .i64, .list [.int .i64]], .bool, .int .i64, .int .i64]) (.list 5 a)) (hs : szR a ≤ 1048576) : ∀ (m i n : Nat) (v : Ovi.Rows), Filled a v i 5 → i + m = a.length → m < n → F8.L3 k (C k) n a (i : Int) v = some [(false, [.row 63 5 a])] := by
  have hlen := ha.len
  intro m; induction m with
  | zero =>
    intro i n v hv hm hn
    obtain ⟨n, rfl⟩ : ∃ j, n = j + 1 := ⟨n - 1, by omega⟩
    obtain rfl : i = a.length := by omega
    rw [F8.L3.succ, ite'_f (lt_f (by omega)), hv.done]
  | succ m ih =>
    intro i n v hv hm hn
    obtain ⟨n, rfl⟩ : ∃ j, n = j + 1 := ⟨n - 1, by omega⟩
    obtain ⟨row, hr, hfr, hdr⟩ := ha.row (i := i) (by omega)
    obtain ⟨d0, rr0, rfl, hd0, hfr0⟩ := Fits.cons hfr
    obtain ⟨x0, rfl, hx0⟩ := hd0.list (n := 2) rfl
    obtain ⟨d1, rr1, rfl, hd1, hfr1⟩ := Fits.cons hfr0
    obtain ⟨x1, rfl, hx1⟩ := hd1.list (n := 2) rfl
    obtain ⟨d2, rr2, rfl, hd2, hfr2⟩ := Fits.cons hfr1
    obtain ⟨x2, rfl⟩ := hd2.bool
    obtain ⟨d3, rr3, rfl, hd3, hfr3⟩ := Fits.cons hfr2
    obtain ⟨x3, rfl, wx3⟩ := hd3.int
    obtain ⟨d4, rr4, rfl, hd4, hfr4⟩ := Fits.cons hfr3
    obtain ⟨x4, rfl, wx4⟩ := hd4.int
    obtain rfl := Fits.nil hfr4
    have hst := hv.step hr rfl
    have hvl := hv.1
    have hszr := szR_at hr
    rw [F8.L3.succ, ite'_t (lt_t (by omega)), ite'_t (inR_t (by omega))]
    simp only [Int.toNat_natCast, cellI_at hr, cellB_at hr, cellS_at hr, cellL_at hr]
    simp only [List.getElem?_cons_zero, List.getElem?_cons_succ, Option.bind_some, asI_s, asB_s, asS_s, asL_s, bindI_s, bindB_s, bindS_s, bindL_s, bindR_s, resI_s, resB_s, resS_s, resO_s, bne_self_eq_false, beq_self_eq_true, Bool.not_true]
    rw [c22 (k := k) (by omega) (a2 := x2) (a3 := x3) (a4 := x4) hx0 hx1 (by simp only [szC, szD] at hszr ⊢; omega) (by simp only [szC, szD] at hszr ⊢; omega)]
    simp only [List.getElem?_cons_zero, List.getElem?_cons_succ, Option.bind_some, asI_s, asB_s, asS_s, asL_s, bindI_s, bindB_s, bindS_s, bindL_s, bindR_s, resI_s, resB_s, resS_s, resO_s, bne_self_eq_false, beq_self_eq_true, Bool.not_true]
    simp only [F22x0, F22x1, F22x2, F22x3, F22x4]
    simp only [List.getElem?_cons_zero, List.getElem?_cons_succ, Option.bind_some, asI_s, asB_s, asS_s, asL_s, bindI_s, bindB_s, bindS_s, bindL_s, bindR_s, resI_s, resB_s, resS_s, resO_s, bne_self_eq_false, beq_self_eq_true, Bool.not_true]
    rw [ite'_t (inR_t (by omega)), wrap_succ (m := a.length) (by omega) (by omega) hlen]
    rw [show ((i : Int) + 1) = ((i + 1 : Nat) : Int) by omega]
    exact ih (i + 1) n _ hst (by omega) (by omega)
theorem c8 {k : Nat} (hk : 2000005 ≤ k) {a : Ovi.Rows} (ha : Fit (.list [.list [.int .i64, .list [.int .i64]], .list [.int .i64, .list [.int .i64]], .bool, .int .i64, .int .i64]) (.list 5 a)) (hs : szD (.list 5 a) ≤ 1048576) : C k 8 [.d (.list 5 a)] = some [(false, [.row 63 5 a])] := by
  obtain ⟨k, rfl⟩ : ∃ j, k = j + 1 := ⟨k - 1, by omega⟩
  simp only [szD] at hs
  rw [F8.run, ite'_t (beq_t _), ite'_t (inM_t (by omega))]
  exact l8 (k := k) (by omega) ha (by omega) a.length 0 k _ (Filled.start a _) (by omega) (by omega)
/-- laws.eqSkolemState -/
theorem c10 {k : Nat} (hk : 2000005 ≤ k) {a0 : Ovi.Rows} (ha0 : Fit (.list [.str, .int .i64, .bool]) (.list 3 a0)) {a1 : Ovi.Rows} (ha1 : Fit (.list [.int .i64, .list [.int .i64]]) (.list 2 a1)) {a2 : Ovi.Rows} (ha2 : Fit (.list [.int .i64, .int .i64, .list [.int .i64]]) (.list 3 a2)) (s0 : szD (.list 3 a0) ≤ 1048576) (s1 : szD (.list 2 a1) ≤ 1048576) (s2 : szD (.list 3 a2) ≤ 1048576) : C k 10 [.agg [.d (.list 3 a0), .d (.list 2 a1), .d (.list 3 a2)], .agg [.d (.list 3 a0), .d (.list 2 a1), .d (.list 3 a2)]] = some [(false, [.d (.bool true)])] := by
  obtain ⟨k, rfl⟩ : ∃ j, k = j + 1 := ⟨k - 1, by omega⟩
  rw [F10.run]
  rw [c26 (k := k) (by omega)  ha0 ha1 s0 s1]
  rw [c27 (k := k) (by omega)  ha2 s2]
  simp only [List.getElem?_cons_zero, List.getElem?_cons_succ, Option.bind_some, asI_s, asB_s, asS_s, asL_s, bindI_s, bindB_s, bindS_s, bindL_s, bindR_s, resI_s, resB_s, resS_s, resO_s, bne_self_eq_false, beq_self_eq_true, Bool.not_true]
  rfl
/-- laws.eqDependencyS -/
theorem l11 {k : Nat} (hk : 2000004 ≤ k) {a : Ovi.Rows} (ha : Fit (.list [.list [.int .i64, .list [.int .i64]], .list [.int .i64, .list [.int .i64]], .bool, .int .i64, .int .i64]) (.list 5 a)) (hs : szR a ≤ 1048576) : ∀ (m i n : Nat), i + m = a.length → m < n → F11.L4 k (C k) n a a (i : Int) = some [(false, [.d (.bool true)])] := by
  have hlen := ha.len
  intro m; induction m with
  | zero =>
    intro i n hm hn
    obtain ⟨n, rfl⟩ : ∃ j, n = j + 1 := ⟨n - 1, by omega⟩
    rw [F11.L4.succ, ite'_f (lt_f (by omega))]
  | succ m ih =>
    intro i n hm hn
    obtain ⟨n, rfl⟩ : ∃ j, n = j + 1 := ⟨n - 1, by omega⟩
    obtain ⟨row, hr, hfr, hdr⟩ := ha.row (i := i) (by omega)
    obtain ⟨d0, rr0, rfl, hd0, hfr0⟩ := Fits.cons hfr
    obtain ⟨x0, rfl, hx0⟩ := hd0.list (n := 2) rfl
    obtain ⟨d1, rr1, rfl, hd1, hfr1⟩ := Fits.cons hfr0
    obtain ⟨x1, rfl, hx1⟩ := hd1.list (n := 2) rfl
    obtain ⟨d2, rr2, rfl, hd2, hfr2⟩ := Fits.cons hfr1
    obtain ⟨x2, rfl⟩ := hd2.bool
    obtain ⟨d3, rr3, rfl, hd3, hfr3⟩ := Fits.cons hfr2
    obtain ⟨x3, rfl, wx3⟩ := hd3.int
    obtain ⟨d4, rr4, rfl, hd4, hfr4⟩ := Fits.cons hfr3
    obtain ⟨x4, rfl, wx4⟩ := hd4.int
    obtain rfl := Fits.nil hfr4
    have hszr := szR_at hr
    rw [F11.L4.succ, ite'_t (lt_t (by omega)), ite'_t (inR_t (by omega))]
    simp only [Int.toNat_natCast, cellI_at hr, cellB_at hr, cellS_at hr, cellL_at hr]
    simp only [List.getElem?_cons_zero, List.getElem?_cons_succ, Option.bind_some, asI_s, asB_s, asS_s, asL_s, bindI_s, bindB_s, bindS_s, bindL_s, bindR_s, resI_s, resB_s, resS_s, resO_s, bne_self_eq_false, beq_self_eq_true, Bool.not_true]
    rw [ite'_t (inR_t (by omega))]
    rw [c28 (k := k) (by omega) (a2 := x2) (a3 := x3) (a4 := x4) hx0 hx1 (by simp only [szC, szD] at hszr ⊢; omega) (by simp only [szC, szD] at hszr ⊢; omega)]
    simp only [List.getElem?_cons_zero, List.getElem?_cons_succ, Option.bind_some, asI_s, asB_s, asS_s, asL_s, bindI_s, bindB_s, bindS_s, bindL_s, bindR_s, resI_s, resB_s, resS_s, resO_s, bne_self_eq_false, beq_self_eq_true, Bool.not_true]
    rw [ite'_f rfl, wrap_succ (m := a.length) (by omega) (by omega) hlen]
    rw [show ((i : Int) + 1) = ((i + 1 : Nat) : Int) by omega]
    exact ih (i + 1) n (by omega) (by omega)
theorem c11 {k : Nat} (hk : 2000005 ≤ k) {a : Ovi.Rows} (ha : Fit (.list [.list [.int .i64, .list [.int .i64]], .list [.int .i64, .list [.int .i64]], .bool, .int .i64, .int .i64]) (.list 5 a)) (hs : szD (.list 5 a) ≤ 1048576) : C k 11 [.d (.list 5 a), .d (.list 5 a)] = some [(false, [.d (.bool true)])] := by
  obtain ⟨k, rfl⟩ : ∃ j, k = j + 1 := ⟨k - 1, by omega⟩
  simp only [szD] at hs
  rw [F11.run, ite'_f (bne_f _)]
  exact l11 (k := k) (by omega) ha (by omega) a.length 0 k (by omega) (by omega)
end Go.Proofs.YtjfdcddjheandaaGreatDoor.Q

/-! ZHa -/
namespace Go.Proofs.YtjfdcddjheandaaGreatDoor.Q
open Go Ovi

def bo (b : Bool) : Option Res := some [(false, [.d (.bool b)])]
theorem bo_eq {b c : Bool} (h : b = c) : bo b = bo c := by rw [h]
/-- spec.l1In -/
theorem c33 (k : Nat) (a l h : Int) : C (k + 1) 33 [.d (.int .i64 a), .d (.int .i64 l), .d (.int .i64 h)] = bo (decide (l ≤ a ∧ a ≤ h)) := by
  rw [F33.run]
  by_cases h1 : l ≤ a
  · rw [ite'_t (by simpa using h1)]; exact bo_eq (by simp [h1])
  · rw [ite'_f (by simpa using h1)]; exact bo_eq (by simp [h1])
/-- impl.within -/
theorem c78 (k : Nat) (a l h : Int) : C (k + 1) 78 [.d (.int .i64 a), .d (.int .i64 l), .d (.int .i64 h)] = bo (decide (l ≤ a ∧ a ≤ h)) := by
  rw [F78.run]
  by_cases h1 : l ≤ a
  · rw [ite'_t (by simpa using h1)]; exact bo_eq (by simp [h1])
  · rw [ite'_f (by simpa using h1)]; exact bo_eq (by simp [h1])
theorem bB (b : Bool) (k : Bool → Option Res) : (bindR (bo b) fun r => bindB (resB 1 false 1 r 0 0) k) = k b := rfl
theorem iB {x y : Option Res} (b : Bool) : ite' b x y = cond b x y := rfl
variable {k : Nat}
/-- slices.ContainsFunc on integers -/
theorem c75 (zs : List Int) (f : FuncId) (caps : Ovi.Rows) (p : Int → Bool) (hk : zs.length < k) (hz : zs.length ≤ maxLen) (hp : ∀ z ∈ zs, C k f (.d (.int .i64 z) :: caps.map fun c => .cap c 0) = bo (p z)) : C (k + 2) 75 [.d (.list 1 (I1 zs)), .d (.fn f caps)] = bo (zs.any p) := by
  rw [F75.run, F98.run, I1_len]
  have := loop_find (xs := zs) (L := fun n i => F98.L2 k (C k) n (I1 zs) f caps (zs.length : Int) i) (stop := fun _ x => p x) (hit := fun i => some [(false, [.d (.int .i64 (i : Int))])]) (fin := some [(false, [.d (.int .i64 (-1))])])
    (fun n i x hx => by
      have hi := (List.getElem?_eq_some_iff.1 hx).1
      rw [F98.L2.succ, I1_len, ite'_t (lt_t hi), ite'_t (inR_t hi)]
      simp only [Int.toNat_natCast, cellI_at (I1_get' hx), List.getElem?_cons_zero, Option.bind_some, asI_s, bindI_s]
      rw [next_i hi hz]
      have := hp x (List.mem_of_getElem? hx)
      simp only [List.append_eq, List.nil_append] at this ⊢
      rw [this, bB]; rfl)
    (fun n => by rw [F98.L2.succ, ite'_f (lt_f (by omega))]) k hk
  rcases this with ⟨i, x, hx, hst, e⟩ | ⟨hst, e⟩
  · rw [show F98.L2 k (C k) k (I1 zs) f caps (zs.length : Int) 0 = _ from e]
    simp only [bindR_s, resI_s, bindI_s]
    exact bo_eq (by rw [List.any_eq_true.2 ⟨x, List.mem_of_getElem? hx, hst⟩]; simp)
  · rw [show F98.L2 k (C k) k (I1 zs) f caps (zs.length : Int) 0 = _ from e]
    simp only [bindR_s, resI_s, bindI_s]
    refine bo_eq ?_
    rw [List.any_eq_false.2 (fun x hx => ?_)]
    · rfl
    · obtain ⟨i, hi⟩ := List.mem_iff_getElem?.1 hx
      simpa using hst i x hi
/-! ### relations -/
def Rl : Ty := .list [.str, .int .i64, .bool]
/-- both IsValidRelation -/
def relOk (s : List UInt8) (n : Int) : Bool := decide (s.length = 1) && (decide (byteAt s 0 ≥ 97) && (decide (byteAt s 0 ≤ 122) && decide (1 ≤ n ∧ n ≤ 3)))
theorem c88 (s : List UInt8) (n : Int) (b : Bool) : C (k + 2) 88 [.agg [.d (.str s), .d (.int .i64 n), .d (.bool b)]] = bo (relOk s n) := by
  rw [F88.run]
  by_cases h : s.length = 1
  · obtain ⟨h1, h2⟩ := letter s h
    rw [ite'_t (by simp; omega), h1, h2, c78, bB]
    unfold relOk
    rw [decide_eq_true h]
    cases decide (byteAt s 0 ≥ 97) <;> cases decide (byteAt s 0 ≤ 122) <;> rfl
  · rw [ite'_f (by simp; omega)]
    unfold relOk
    rw [decide_eq_false h]
    rfl
theorem c87 (s : List UInt8) (n : Int) (b : Bool) : C (k + 2) 87 [.agg [.d (.str s), .d (.int .i64 n), .d (.bool b)]] = bo (relOk s n) := by
  rw [F87.run]
  by_cases h : s.length = 1
  · rw [ite'_t (by simp; omega), ite'_t (by simp [inR]; omega), ite'_t (b := inR 0 s.length) (by simp [inR]; omega), c33, bB]
    unfold relOk
    rw [decide_eq_true h]
    cases decide (byteAt s 0 ≥ 97) <;> cases decide (byteAt s 0 ≤ 122) <;> rfl
  · rw [ite'_f (by simp; omega)]
    unfold relOk
    rw [decide_eq_false h]
    rfl
/-- both AreValidRelations answer alike -/
theorem rels {a : Ovi.Rows} (ha : Fit Rl (.list 3 a)) : ∃ b, ∀ k, a.length < k → C (k + 3) 68 [.d (.list 3 a)] = bo b ∧ C (k + 3) 63 [.d (.list 3 a)] = bo b := by
  have hlen := ha.len
  have key : ∀ (m i : Nat), i + m = a.length → ∃ b, ∀ k n, m < n → F68.L2 (k + 2) (C (k + 2)) n a a (a.length : Int) (i : Int) = bo b ∧ F63.L2 (k + 2) (C (k + 2)) n a (i : Int) = bo b := by
    intro m
    induction m with
    | zero =>
      intro i hm
      refine ⟨decide ((a.length : Int) ≤ 6), fun k n hn => ?_⟩
      obtain ⟨n, rfl⟩ : ∃ j, n = j + 1 := ⟨n - 1, by omega⟩
      constructor
      · rw [F68.L2.succ, ite'_f (lt_f (by omega))]; rfl
      · rw [F63.L2.succ, ite'_f (lt_f (by omega))]; rfl
    | succ m ih =>
      intro i hm
      have hi : i < a.length := by omega
      obtain ⟨row, hr, hfr, _⟩ := ha.row hi
      obtain ⟨d0, r0, rfl, f0, h1⟩ := Fits.cons hfr
      obtain ⟨d1, r1, rfl, f1, h1⟩ := Fits.cons h1
      obtain ⟨d2, r2, rfl, f2, h1⟩ := Fits.cons h1
      obtain rfl := Fits.nil h1
      obtain ⟨s, rfl, hs⟩ := f0.str
      obtain ⟨x, rfl, _⟩ := f1.int
      obtain ⟨b, rfl⟩ := f2.bool
      obtain ⟨bb, ih⟩ := ih (i + 1) (by omega)
      have step : ∀ k n, F68.L2 (k + 2) (C (k + 2)) (n + 1) a a (a.length : Int) (i : Int) = ite' (!relOk s x) (bo false) (ite' (decide ((i : Int) > 0)) (ite' (inR (IntKind.i64.wrap ((i : Int) - 1)) a.length) (bindS (cellS a (IntKind.i64.wrap ((i : Int) - 1)).toNat 0) fun s13 => ite' (sLess s s13 || s == s13) (bo false) (F68.L2 (k + 2) (C (k + 2)) n a a (a.length : Int) ((i + 1 : Nat) : Int))) none) (F68.L2 (k + 2) (C (k + 2)) n a a (a.length : Int) ((i + 1 : Nat) : Int))) ∧
          F63.L2 (k + 2) (C (k + 2)) (n + 1) a (i : Int) = ite' (!relOk s x) (bo false) (ite' (decide ((i : Int) > 0)) (ite' (inR (IntKind.i64.wrap ((i : Int) - 1)) a.length) (bindS (cellS a (IntKind.i64.wrap ((i : Int) - 1)).toNat 0) fun s11 => ite' (!sLess s11 s) (bo false) (F63.L2 (k + 2) (C (k + 2)) n a ((i + 1 : Nat) : Int))) none) (F63.L2 (k + 2) (C (k + 2)) n a ((i + 1 : Nat) : Int))) := by
        intro k n
        rw [F68.L2.succ, F63.L2.succ, ite'_t (lt_t hi), ite'_t (inR_t hi), ite'_t (lt_t hi), ite'_t (inR_t hi)]
        simp only [Int.toNat_natCast, cellI_at hr, cellS_at hr, cellB_at hr, List.getElem?_cons_zero, List.getElem?_cons_succ, Option.bind_some, asI_s, asS_s, asB_s, bindI_s, bindS_s, bindB_s]
        rw [c88, c87, next_i hi hlen, bB, bB]
        refine ⟨rfl, ?_⟩
        simp only [show ∀ x y : Option Res, ite' (inR (i : Int) a.length) x y = x from fun x y => ite'_t (inR_t hi)]
        rfl
      cases hv : relOk s x with
      | false =>
        refine ⟨false, fun k n hn => ?_⟩
        obtain ⟨n, rfl⟩ : ∃ j, n = j + 1 := ⟨n - 1, by omega⟩
        obtain ⟨e1, e2⟩ := step k n
        rw [e1, e2, hv]
        exact ⟨rfl, rfl⟩
      | true =>
        by_cases h0 : i = 0
        · subst h0
          refine ⟨bb, fun k n hn => ?_⟩
          obtain ⟨n, rfl⟩ : ∃ j, n = j + 1 := ⟨n - 1, by omega⟩
          obtain ⟨e1, e2⟩ := step k n
          rw [e1, e2, hv]
          exact ih k n (by omega)
        · have hw : IntKind.i64.wrap ((i : Int) - 1) = ((i - 1 : Nat) : Int) := by
            unfold maxLen at hlen
            rw [wrap_id (by omega) (by omega)]; omega
          obtain ⟨row', hr', hfr', _⟩ := ha.row (i := i - 1) (by omega)
          obtain ⟨d0', r0', rfl, f0', h1'⟩ := Fits.cons hfr'
          obtain ⟨s', rfl, hs'⟩ := f0'.str
          have hcs : cellS a ((i - 1 : Nat) : Int).toNat 0 = some s' := by rw [Int.toNat_natCast, cellS_at hr']; rfl
          have hgt : decide ((i : Int) > 0) = true := by simp; omega
          have hin : inR ((i - 1 : Nat) : Int) a.length = true := inR_t (by omega)
          cases hl : sLess s' s with
          | true =>
            refine ⟨bb, fun k n hn => ?_⟩
            obtain ⟨n, rfl⟩ : ∃ j, n = j + 1 := ⟨n - 1, by omega⟩
            obtain ⟨e1, e2⟩ := step k n
            rw [e1, e2, hv, hw, hgt, hin, hcs]
            simp only [bindS_s]
            rw [sLess_total, hl]
            exact ih k n (by omega)
          | false =>
            refine ⟨false, fun k n hn => ?_⟩
            obtain ⟨n, rfl⟩ : ∃ j, n = j + 1 := ⟨n - 1, by omega⟩
            obtain ⟨e1, e2⟩ := step k n
            rw [e1, e2, hv, hw, hgt, hin, hcs]
            simp only [bindS_s]
            rw [sLess_total, hl]
            exact ⟨rfl, rfl⟩
  obtain ⟨b, hb⟩ := key a.length 0 (by omega)
  refine ⟨b, fun k hk => ?_⟩
  rw [F68.run, F63.run]
  exact hb k (k + 2) (by omega)
end Go.Proofs.YtjfdcddjheandaaGreatDoor.Q

/-! ZIa -/
namespace Go.Proofs.YtjfdcddjheandaaGreatDoor.Q
open Go Ovi
variable {k : Nat}
/-- what the atoms hold: z is a variable of theirs -/
def isVar (xs : List Atom) (z : Int) : Prop := 0 ≤ z ∧ ∃ x ∈ xs, z ∈ x.2
def terms (xs : List Atom) : Nat := (xs.map fun x => x.2.length).sum
theorem terms_at {xs : List Atom} {i : Nat} {x : Atom} (h : xs[i]? = some x) : terms (xs.take i) + x.2.length = terms (xs.take (i + 1)) := by
  obtain ⟨hi, e⟩ := List.getElem?_eq_some_iff.1 h
  unfold terms
  rw [List.take_succ_eq_append_getElem hi, e]
  simp
theorem terms_le (xs : List Atom) (i : Nat) : terms (xs.take i) ≤ terms xs := by
  have : terms xs = terms (xs.take i) + terms (xs.drop i) := by
    unfold terms
    rw [← List.sum_append, ← List.map_append, List.take_append_drop]
  omega
theorem isVar_take {xs : List Atom} {i : Nat} {x : Atom} (h : xs[i]? = some x) (z : Int) : isVar (xs.take (i + 1)) z ↔ isVar (xs.take i) z ∨ (0 ≤ z ∧ z ∈ x.2) := by
  obtain ⟨hi, e⟩ := List.getElem?_eq_some_iff.1 h
  unfold isVar
  rw [List.take_succ_eq_append_getElem hi, e]
  simp only [List.mem_append, List.mem_singleton]
  constructor
  · rintro ⟨h0, y, hy | rfl, hz⟩
    · exact .inl ⟨h0, y, hy, hz⟩
    · exact .inr ⟨h0, hz⟩
  · rintro (⟨h0, y, hy, hz⟩ | ⟨h0, hz⟩)
    · exact ⟨h0, y, .inl hy, hz⟩
    · exact ⟨h0, x, .inr rfl, hz⟩
end Go.Proofs.YtjfdcddjheandaaGreatDoor.Q

/-! ZHb -/
namespace Go.Proofs.YtjfdcddjheandaaGreatDoor.Q
open Go Ovi
variable {k : Nat}
/-! ### values -/
def isN (v : Int) : Bool := decide (-40 ≤ v ∧ v ≤ -1)
def okV (v : Int) : Bool := decide (-40 ≤ v ∧ v ≤ 9)
def nn (v : Int) : Option Res := some [(false, [.d (.int .i64 (if isN v then -1 - v else 0))]), (false, [.d (.bool (isN v))])]
theorem nnB (v : Int) (f : Int → Bool → Option Res) : (bindR (nn v) fun r => bindI (resI .i64 2 false 1 r 0 0) fun n => bindB (resB 2 false 1 r 1 0) fun b => f n b) = f (if isN v then -1 - v else 0) (isN v) := rfl
theorem isN_t {v : Int} (h : isN v = true) : -40 ≤ v ∧ v ≤ -1 := of_decide_eq_true h
theorem isN_f {v : Int} (h : isN v = false) : ¬ (-40 ≤ v ∧ v ≤ -1) := of_decide_eq_false h
theorem wrapN {v : Int} (h : inI v) : IntKind.i64.wrap (-1 - v) = -1 - v := by unfold inI at h; exact wrap_id (by omega) (by omega)
/-- spec.NullNumber -/
theorem c15 {v : Int} (h : inI v) : C (k + 2) 15 [.d (.int .i64 v)] = nn v := by
  rw [F15.run]
  by_cases h0 : v ≥ 0
  · rw [ite'_t (by simpa using h0)]
    have : isN v = false := decide_eq_false (by omega)
    simp [nn, this]
  · rw [ite'_f (by simpa using h0), wrapN h, c33, bB]
    by_cases h1 : isN v = true
    · have := isN_t h1
      rw [decide_eq_true (by omega), ite'_nt]
      simp [nn, h1]
    · have h1 : isN v = false := by simpa using h1
      have := isN_f h1
      rw [decide_eq_false (by omega), ite'_nf]
      simp [nn, h1]
/-- impl.NullNumber -/
theorem c48 {v : Int} (h : inI v) : C (k + 2) 48 [.d (.int .i64 v)] = nn v := by
  rw [F48.run, wrapN h, c78, bB]
  by_cases h1 : isN v = true
  · have := isN_t h1
    rw [decide_eq_true (by omega), ite'_nt]
    simp [nn, h1]
  · have h1 : isN v = false := by simpa using h1
    have := isN_f h1
    rw [decide_eq_false (by omega), ite'_nf]
    simp [nn, h1]
/-- spec.IsValidValue -/
theorem c34 {v : Int} (h : inI v) : C (k + 3) 34 [.d (.int .i64 v)] = bo (okV v) := by
  rw [F34.run, c15 h, nnB]
  by_cases h1 : isN v = true
  · have := isN_t h1
    rw [ite'_t h1]
    exact bo_eq (b := true) (by rw [okV, decide_eq_true (by omega)])
  · have h1 : isN v = false := by simpa using h1
    have := isN_f h1
    rw [ite'_f h1, c33, bB]
    refine bo_eq ?_
    unfold okV
    rw [Bool.eq_iff_iff]
    simp only [decide_eq_true_eq]
    omega
/-- impl.IsValidValue -/
theorem c45 (v : Int) : C (k + 2) 45 [.d (.int .i64 v)] = bo (okV v) := by
  rw [F45.run, c78, bB]; rfl
/-- the numbers of the nulls among values -/
def nulls (zs : List Int) : List Int := Lib.compact (sortInts ((zs.filter isN).map fun v => -1 - v))
theorem nulls_ss (zs : List Int) : SS (nulls zs) := ss_compact _
theorem mem_nulls (zs : List Int) (n : Int) : n ∈ nulls zs ↔ ∃ v ∈ zs, isN v = true ∧ n = -1 - v := by
  unfold nulls
  rw [mem_compact, mem_sortInts]
  simp only [List.mem_map, List.mem_filter]
  constructor
  · rintro ⟨v, ⟨h1, h2⟩, rfl⟩; exact ⟨v, h1, h2, rfl⟩
  · rintro ⟨v, h1, h2, rfl⟩; exact ⟨v, ⟨h1, h2⟩, rfl⟩
theorem nulls_len (zs : List Int) : (nulls zs).length ≤ zs.length := by
  unfold nulls
  have h1 := compact_len (sortInts ((zs.filter isN).map fun v => -1 - v))
  have h2 : (sortInts ((zs.filter isN).map fun v => -1 - v)).length = (zs.filter isN).length := by simp [sortInts]
  have h3 := List.length_filter_le isN zs
  omega
/-- impl.nullsOf -/
theorem c93 (zs : List Int) (hI : ∀ z ∈ zs, inI z) (hk : zs.length < k) (hz : zs.length ≤ 1048576) : C (k + 3) 93 [.d (.list 1 (I1 zs))] = some [(false, [.row 3 1 (I1 (nulls zs))])] := by
  rw [F93.run, I1_len]
  have hmax : (1048576 : Nat) ≤ maxLen := by decide
  have main : ∀ (m i n : Nat), i + m = zs.length → m < n → F93.L3 (k + 2) (C (k + 2)) n (I1 zs) (zs.length : Int) (i : Int) (I1 (((zs.take i).filter isN).map fun v => -1 - v)) = some [(false, [.row 3 1 (I1 (nulls zs))])] := by
    intro m
    induction m with
    | zero =>
      intro i n hm hn
      obtain ⟨n, rfl⟩ : ∃ j, n = j + 1 := ⟨n - 1, by omega⟩
      obtain rfl : i = zs.length := by omega
      rw [List.take_length]
      have hf := List.length_filter_le isN zs
      generalize hacc : (zs.filter isN).map (fun v => -1 - v) = acc
      have hal : acc.length ≤ zs.length := by rw [← hacc]; simpa using hf
      have e1 : C (k + 2) 103 [.var 0 0, .d (.int .i64 3), .d (.list 1 (I1 acc))] = some [(false, [.row 3 1 (I1 (sortInts acc))])] := by
        show sortP _ = _
        unfold sortP rawArg
        simp only [ints_I1]
        rw [show Nat.ble acc.length 1099511627776 = true from Nat.ble_eq_true_of_le (by omega)]
        rfl
      have hsl : (sortInts acc).length = acc.length := by simp [sortInts]
      have e2 : C (k + 2) 104 [.var 0 0, .d (.int .i64 3), .d (.list 1 (I1 (sortInts acc)))] = some [(false, [.row 3 1 (I1 (Lib.compact (sortInts acc)))]), (true, [])] := by
        show compactP _ = _
        unfold compactP rawArg
        simp only [ints_I1]
        rw [show Nat.ble (sortInts acc).length 1099511627776 = true from Nat.ble_eq_true_of_le (by omega)]
        rfl
      rw [F93.L3.succ, ite'_f (lt_f (by omega)), e1]
      simp only [bindR_s, resO_s, bindL_s]
      rw [e2]
      unfold nulls
      rw [hacc]
      rfl
    | succ m ih =>
      intro i n hm hn
      obtain ⟨n, rfl⟩ : ∃ j, n = j + 1 := ⟨n - 1, by omega⟩
      have hi : i < zs.length := by omega
      have hx := List.getElem?_eq_getElem hi
      have hft := List.length_filter_le isN (zs.take i)
      rw [F93.L3.succ, I1_len, ite'_t (lt_t hi), ite'_t (inR_t hi)]
      simp only [Int.toNat_natCast, cellI_at (I1_get' hx), List.getElem?_cons_zero, Option.bind_some, asI_s, bindI_s]
      rw [c48 (hI _ (List.getElem_mem hi)), nnB, next_i hi (m := zs.length) (by omega)]
      have hstep : (zs.take (i + 1)).filter isN = (zs.take i).filter isN ++ (if isN zs[i] then [zs[i]] else []) := by
        rw [List.take_succ_eq_append_getElem hi, List.filter_append]
        cases h : isN zs[i] <;> simp [h]
      have := ih (i + 1) n (by omega) (by omega)
      rw [hstep] at this
      cases h : isN zs[i] with
      | true =>
        rw [ite'_t rfl, ite'_t (fits_t (by simp [I1_len] at hft ⊢; omega))]
        rw [h] at this
        simp only [if_true, List.map_append, List.map_cons, List.map_nil] at this ⊢
        rw [← this]
        simp [I1]
      | false =>
        rw [ite'_f rfl]
        rw [h] at this
        simpa using this
  exact main zs.length 0 (k + 2) (by omega) (by omega)
/-- spec.l4Put keeps the order -/
theorem c60s (zs : List Int) (v : Int) (hS : SS zs) (hk : zs.length < k) (hz : zs.length ≤ 1048576) : ∃ r ws, C (k + 1) 60 [.d (.list 1 (I1 zs)), .d (.int .i64 v)] = some r ∧ resL 1 1 false 1 r 0 0 = some (I1 ws) ∧ (∀ z, z ∈ ws ↔ z ∈ zs ∨ z = v) ∧ ws.length ≤ zs.length + 1 ∧ SS ws := by
  rw [F60.run]
  have hmax : (1048576 : Nat) ≤ maxLen := by decide
  have ins : ∀ i : Nat, i ≤ zs.length → (∀ (j : Nat) y, j < i → zs[j]? = some y → y < v) → (∀ y, zs[i]? = some y → v < y) → ∃ r ws, (ite' (inS (i : Int) ((I1 zs).length : Int) (I1 zs).length) (ite' (fits (([[D.int .i64 v]] : Ovi.Rows).length + ((I1 zs).drop (i : Int).toNat).length)) (ite' (inS (0 : Int) (i : Int) (I1 zs).length) (ite' (fits ((I1 zs).take (i : Int).toNat).length) (ite' (fits (((I1 zs).take (i : Int).toNat).length + List.length ([[D.int .i64 v]] ++ (I1 zs).drop (i : Int).toNat))) (some ([(false, [RL.row 3 1 ((I1 zs).take (i : Int).toNat ++ ([[D.int .i64 v]] ++ (I1 zs).drop (i : Int).toNat))])] : Res)) none) none) none) none) none) = some r ∧ resL 1 1 false 1 r 0 0 = some (I1 ws) ∧ (∀ z, z ∈ ws ↔ z ∈ zs ∨ z = v) ∧ ws.length ≤ zs.length + 1 ∧ SS ws := by
    intro i hi hlt hgt
    rw [I1_len, ite'_t (by simp [inS]; omega), ite'_t (fits_t (by simp [I1_len]; omega)), ite'_t (by simp [inS]; omega), ite'_t (fits_t (by simp [I1_len]; omega)), ite'_t (fits_t (by simp [I1_len]; omega))]
    refine ⟨_, zs.take i ++ v :: zs.drop i, rfl, ?_, fun z => ?_, by simp; omega, ?_⟩
    · rw [resL_s]
      simp [I1]
    · have : z ∈ zs ↔ z ∈ zs.take i ∨ z ∈ zs.drop i := by rw [← List.mem_append, List.take_append_drop]
      rw [this, List.mem_append, List.mem_cons]
      constructor
      · rintro (h | h | h)
        · exact .inl (.inl h)
        · exact .inr h
        · exact .inl (.inr h)
      · rintro ((h | h) | h)
        · exact .inl h
        · exact .inr (.inr h)
        · exact .inr (.inl h)
    · have hd : ∀ y ∈ zs.drop i, v < y := by
        intro y hy
        obtain ⟨j, hj⟩ := List.mem_iff_getElem?.1 hy
        rw [List.getElem?_drop] at hj
        have hil : i < zs.length := by have := (List.getElem?_eq_some_iff.1 hj).1; omega
        have h0 := hgt zs[i] (List.getElem?_eq_getElem hil)
        rcases Nat.eq_zero_or_pos j with rfl | hjp
        · rw [Nat.add_zero, List.getElem?_eq_getElem hil] at hj; cases hj; exact h0
        · obtain ⟨hjl, e⟩ := List.getElem?_eq_some_iff.1 hj
          have := List.pairwise_iff_getElem.1 hS i (i + j) hil hjl (by omega)
          omega
      have ht : ∀ y ∈ zs.take i, y < v := by
        intro y hy
        obtain ⟨j, hj⟩ := List.mem_iff_getElem?.1 hy
        obtain ⟨hjl, e⟩ := List.getElem?_eq_some_iff.1 hj
        simp only [List.length_take] at hjl
        rw [List.getElem?_take_of_lt (by omega)] at hj
        exact hlt j y (by omega) hj
      refine List.pairwise_append.2 ⟨hS.sublist (List.take_sublist _ _), List.pairwise_cons.2 ⟨hd, hS.sublist (List.drop_sublist _ _)⟩, fun x hx y hy => ?_⟩
      have := ht x hx
      rcases List.mem_cons.1 hy with rfl | hy
      · exact this
      · have := hd y hy; omega
  have main : ∀ (m i n : Nat), i + m = zs.length → m < n → (∀ (j : Nat) y, j < i → zs[j]? = some y → y < v) → ∃ r ws, F60.L2 k (C k) n (I1 zs) v (i : Int) = some r ∧ resL 1 1 false 1 r 0 0 = some (I1 ws) ∧ (∀ z, z ∈ ws ↔ z ∈ zs ∨ z = v) ∧ ws.length ≤ zs.length + 1 ∧ SS ws := by
    intro m
    induction m with
    | zero =>
      intro i n hm hn hlt
      obtain ⟨n, rfl⟩ : ∃ j, n = j + 1 := ⟨n - 1, by omega⟩
      obtain ⟨r, ws, h1, h2⟩ := ins i (by omega) hlt (fun y hy => by have := (List.getElem?_eq_some_iff.1 hy).1; omega)
      refine ⟨r, ws, ?_, h2⟩
      rw [F60.L2.succ]
      rw [ite'_f (b := decide ((i : Int) < ((I1 zs).length : Int))) (by rw [I1_len]; exact lt_f (by omega))]
      rw [ite'_f (b := decide ((i : Int) < ((I1 zs).length : Int))) (by rw [I1_len]; exact lt_f (by omega))]
      exact h1
    | succ m ih =>
      intro i n hm hn hlt0
      obtain ⟨n, rfl⟩ : ∃ j, n = j + 1 := ⟨n - 1, by omega⟩
      have hi : i < zs.length := by omega
      have hx := List.getElem?_eq_getElem hi
      rw [F60.L2.succ]
      rw [ite'_t (b := decide ((i : Int) < ((I1 zs).length : Int))) (by rw [I1_len]; exact lt_t hi)]
      rw [ite'_t (b := inR (i : Int) (I1 zs).length) (by rw [I1_len]; exact inR_t hi)]
      rw [show cellI .i64 (I1 zs) (i : Int).toNat 0 = some zs[i] by rw [Int.toNat_natCast, cellI_at (I1_get' hx)]; rfl]
      simp only [bindI_s]
      by_cases hlt : zs[i] < v
      · rw [ite'_t (by simpa using hlt), next_i hi (m := zs.length) (by omega)]
        refine ih (i + 1) n (by omega) (by omega) (fun j y hj hy => ?_)
        by_cases hji : j = i
        · subst hji; rw [hx] at hy; cases hy; exact hlt
        · exact hlt0 j y (by omega) hy
      · rw [ite'_f (b := decide (zs[i] < v)) (by simpa using hlt)]
        rw [ite'_t (b := decide ((i : Int) < ((I1 zs).length : Int))) (by rw [I1_len]; exact lt_t hi)]
        rw [ite'_t (b := inR (i : Int) (I1 zs).length) (by rw [I1_len]; exact inR_t hi)]
        by_cases heq : zs[i] = v
        · rw [ite'_t (b := zs[i] == v) (by simpa using heq)]
          refine ⟨_, zs, rfl, resL_d _ _, fun z => ⟨.inl, ?_⟩, by omega, hS⟩
          rintro (h | h)
          · exact h
          · rw [h, ← heq]; exact List.getElem_mem hi
        · rw [ite'_f (b := zs[i] == v) (by simpa using heq)]
          obtain ⟨r, ws, h1, h2⟩ := ins i (by omega) hlt0 (fun y hy => by rw [hx] at hy; cases hy; omega)
          exact ⟨r, ws, h1, h2⟩
  have := main zs.length 0 k (by omega) (by omega) (fun j y hj => by omega)
  exact this
/-- spec.NullsOfFact -/
theorem c59 (r : Int) (zs : List Int) (hI : ∀ z ∈ zs, inI z) (hk : zs.length < k) (hz : zs.length ≤ 1048576) : C (k + 3) 59 [.agg [.d (.int .i64 r), .d (.list 1 (I1 zs))]] = some [(false, [.d (.list 1 (I1 (nulls zs)))])] := by
  rw [F59.run]
  have hmax : (1048576 : Nat) ≤ maxLen := by decide
  have main : ∀ (m i n : Nat) (acc : List Int), i + m = zs.length → m < n → SS acc → acc.length ≤ i → (∀ z, z ∈ acc ↔ ∃ v ∈ zs.take i, isN v = true ∧ z = -1 - v) → F59.L3 (k + 2) (C (k + 2)) n (I1 acc) (i : Int) r (I1 zs) = some [(false, [.d (.list 1 (I1 (nulls zs)))])] := by
    intro m
    induction m with
    | zero =>
      intro i n acc hm hn hS hl hmem
      obtain ⟨n, rfl⟩ : ∃ j, n = j + 1 := ⟨n - 1, by omega⟩
      obtain rfl : i = zs.length := by omega
      rw [List.take_length] at hmem
      rw [F59.L3.succ, I1_len, ite'_f (lt_f (by omega)), ss_eq hS (nulls_ss zs) (fun z => by rw [hmem z, mem_nulls])]
    | succ m ih =>
      intro i n acc hm hn hS hl hmem
      obtain ⟨n, rfl⟩ : ∃ j, n = j + 1 := ⟨n - 1, by omega⟩
      have hi : i < zs.length := by omega
      have hx := List.getElem?_eq_getElem hi
      have htk : ∀ z, z ∈ zs.take (i + 1) ↔ z ∈ zs.take i ∨ z = zs[i] := by
        intro z
        rw [List.take_succ_eq_append_getElem hi]
        simp only [List.mem_append, List.mem_singleton]
      rw [F59.L3.succ, I1_len, ite'_t (lt_t hi), ite'_t (inR_t hi)]
      simp only [Int.toNat_natCast, cellI_at (I1_get' hx), List.getElem?_cons_zero, Option.bind_some, asI_s, bindI_s]
      rw [c15 (hI _ (List.getElem_mem hi)), nnB, next_i hi (m := zs.length) (by omega)]
      cases h : isN zs[i] with
      | true =>
        obtain ⟨r', ws, e1, e2, e3, e4, e5⟩ := c60s (k := k + 1) acc (-1 - zs[i]) hS (by omega) (by omega)
        rw [ite'_t rfl]
        simp only [if_true]
        rw [e1]
        simp only [bindR_s]
        rw [e2, bindL_s]
        refine ih (i + 1) n ws (by omega) (by omega) e5 (by omega) (fun z => ?_)
        rw [e3 z, hmem z]
        constructor
        · rintro (⟨v, h1, h2⟩ | h1)
          · exact ⟨v, (htk v).2 (.inl h1), h2⟩
          · exact ⟨zs[i], (htk _).2 (.inr rfl), h, h1⟩
        · rintro ⟨v, h1, h2⟩
          rcases (htk v).1 h1 with h1 | rfl
          · exact .inl ⟨v, h1, h2⟩
          · exact .inr h2.2
      | false =>
        rw [ite'_f rfl]
        refine ih (i + 1) n acc (by omega) (by omega) hS (by omega) (fun z => ?_)
        rw [hmem z]
        constructor
        · rintro ⟨v, h1, h2⟩
          exact ⟨v, (htk v).2 (.inl h1), h2⟩
        · rintro ⟨v, h1, h2⟩
          rcases (htk v).1 h1 with h1 | rfl
          · exact ⟨v, h1, h2⟩
          · rw [h] at h2; cases h2.1
  exact main zs.length 0 (k + 2) [] (by omega) (by omega) (by simp [SS]) (by simp) (fun z => by simp)
/-- impl.NullsOfFact -/
theorem c71 (r : Int) (zs : List Int) (hI : ∀ z ∈ zs, inI z) (hk : zs.length < k) (hz : zs.length ≤ 1048576) : C (k + 4) 71 [.agg [.d (.int .i64 r), .d (.list 1 (I1 zs))]] = some [(false, [.row 3 1 (I1 (nulls zs))])] := by
  rw [F71.run, c93 zs hI hk hz]
  rfl
end Go.Proofs.YtjfdcddjheandaaGreatDoor.Q

/-! ZIb -/
namespace Go.Proofs.YtjfdcddjheandaaGreatDoor.Q
open Go Ovi
variable {k : Nat}
/-! ### the order of facts -/
def cmpI : List Int → List Int → Int
  | [], [] => 0
  | [], _ :: _ => -1
  | _ :: _, [] => 1
  | x :: xs, y :: ys => if x < y then -1 else if x > y then 1 else cmpI xs ys
def io (n : Int) : Option Res := some [(false, [.d (.int .i64 n)])]
theorem iB' (n : Int) (f : Int → Option Res) : (bindR (io n) fun r => bindI (resI .i64 1 false 1 r 0 0) f) = f n := rfl
/-- cmp.Compare -/
def cmp1 (x y : Int) : Int := if x < y then -1 else if x > y then 1 else 0
theorem c91 (x y : Int) : C (k + 2) 91 [.d (.int .i64 x), .d (.int .i64 y)] = io (cmp1 x y) := by
  rw [F91.run, F102.run, F102.run]
  simp only [bne_self_eq_false, bindR_s, resB_s, bindB_s]
  rw [ite'_f rfl, ite'_f rfl]
  unfold cmp1
  by_cases h : x < y
  · rw [ite'_t (by simpa using h), if_pos h]; rfl
  · rw [ite'_f (by simpa using h), if_neg h]
    by_cases h' : x > y
    · rw [ite'_t (by simpa using h'), if_pos h']; rfl
    · rw [ite'_f (by simpa using h'), if_neg h']; rfl
theorem cmpI_drop {a b : List Int} {i : Nat} (ha : i < a.length) (hb : i < b.length) : cmpI (a.drop i) (b.drop i) = if a[i] < b[i] then -1 else if a[i] > b[i] then 1 else cmpI (a.drop (i + 1)) (b.drop (i + 1)) := by
  rw [List.drop_eq_getElem_cons ha, List.drop_eq_getElem_cons hb]
  rfl
/-- slices.Compare on integers -/
theorem c92 (a b : List Int) (hk : a.length < k) (ha : a.length ≤ maxLen) : C (k + 3) 92 [.d (.list 1 (I1 a)), .d (.list 1 (I1 b))] = io (cmpI a b) := by
  rw [F92.run, I1_len]
  have main : ∀ (m i n : Nat), i + m = a.length → m < n → i ≤ b.length → F92.L2 (k + 2) (C (k + 2)) n (I1 a) (I1 b) (I1 a) (a.length : Int) (i : Int) = io (cmpI (a.drop i) (b.drop i)) := by
    intro m
    induction m with
    | zero =>
      intro i n hm hn hb
      obtain ⟨n, rfl⟩ : ∃ j, n = j + 1 := ⟨n - 1, by omega⟩
      obtain rfl : i = a.length := by omega
      rw [F92.L2.succ, ite'_f (lt_f (by omega)), I1_len, I1_len, List.drop_eq_nil_of_le (Nat.le_refl _)]
      by_cases h : a.length < b.length
      · rw [ite'_t (lt_t h), List.drop_eq_getElem_cons h]; rfl
      · rw [ite'_f (lt_f h), List.drop_eq_nil_of_le (by omega)]; rfl
    | succ m ih =>
      intro i n hm hn hb
      obtain ⟨n, rfl⟩ : ∃ j, n = j + 1 := ⟨n - 1, by omega⟩
      have hi : i < a.length := by omega
      have hx := List.getElem?_eq_getElem hi
      rw [F92.L2.succ, ite'_t (lt_t hi), I1_len, ite'_t (inR_t hi)]
      simp only [Int.toNat_natCast, cellI_at (I1_get' hx), List.getElem?_cons_zero, Option.bind_some, asI_s, bindI_s]
      rw [I1_len]
      by_cases h : i < b.length
      · have hy := List.getElem?_eq_getElem h
        rw [ite'_f (b := decide ((i : Int) ≥ (b.length : Int))) (by simp; omega), ite'_t (inR_t h)]
        simp only [cellI_at (I1_get' hy), List.getElem?_cons_zero, Option.bind_some, asI_s, bindI_s]
        rw [c91, iB', cmpI_drop hi h, next_i hi ha, ih (i + 1) n (by omega) (by omega) (by omega)]
        unfold cmp1
        by_cases h1 : a[i] < b[i]
        · rw [if_pos h1, if_pos h1]; rfl
        · rw [if_neg h1, if_neg h1]
          by_cases h2 : a[i] > b[i]
          · rw [if_pos h2, if_pos h2]; rfl
          · rw [if_neg h2, if_neg h2]; rfl
      · rw [ite'_t (b := decide ((i : Int) ≥ (b.length : Int))) (by simp; omega), List.drop_eq_getElem_cons hi, show b.drop i = [] from List.drop_eq_nil_of_le (by omega)]
        rfl
  exact main a.length 0 (k + 2) (by omega) (by omega) (by omega)
/-- spec.l4Ints -/
theorem c35 (a b : List Int) (hk : a.length < k) (ha : a.length ≤ maxLen) : C (k + 1) 35 [.d (.list 1 (I1 a)), .d (.list 1 (I1 b))] = io (cmpI a b) := by
  rw [F35.run]
  have fin : ∀ (i n : Nat), i ≤ a.length → i ≤ b.length → (¬ i < a.length ∨ ¬ i < b.length) → F35.L2 k (C k) (n + 1) (I1 a) (I1 b) (i : Int) = io (cmpI (a.drop i) (b.drop i)) := by
    intro i n h1 h2 h3
    have e : F35.L2 k (C k) (n + 1) (I1 a) (I1 b) (i : Int) = ite' (decide ((a.length : Int) < (b.length : Int))) (io (-1)) (ite' (decide ((a.length : Int) > (b.length : Int))) (io 1) (io 0)) := by
      rw [F35.L2.succ, I1_len, I1_len]
      by_cases hi : i < a.length
      · rw [ite'_t (lt_t hi), ite'_f (lt_f (by omega))]; rfl
      · rw [ite'_f (lt_f hi)]; rfl
    rw [e]
    rcases Nat.lt_trichotomy a.length b.length with h | h | h
    · obtain rfl : i = a.length := by omega
      rw [ite'_t (by simp; omega), List.drop_eq_nil_of_le (Nat.le_refl _), List.drop_eq_getElem_cons h]
      rfl
    · rw [ite'_f (by simp; omega), ite'_f (by simp; omega), List.drop_eq_nil_of_le (by omega), List.drop_eq_nil_of_le (by omega)]
      rfl
    · obtain rfl : i = b.length := by omega
      rw [ite'_f (by simp; omega), ite'_t (by simp; omega), List.drop_eq_nil_of_le (Nat.le_refl _), List.drop_eq_getElem_cons h]
      rfl
  have main : ∀ (m i n : Nat), i + m = a.length → m < n → i ≤ b.length → F35.L2 k (C k) n (I1 a) (I1 b) (i : Int) = io (cmpI (a.drop i) (b.drop i)) := by
    intro m
    induction m with
    | zero =>
      intro i n hm hn hb
      obtain ⟨n, rfl⟩ : ∃ j, n = j + 1 := ⟨n - 1, by omega⟩
      exact fin i n (by omega) hb (by omega)
    | succ m ih =>
      intro i n hm hn hb
      obtain ⟨n, rfl⟩ : ∃ j, n = j + 1 := ⟨n - 1, by omega⟩
      by_cases h : i < b.length
      · have hi : i < a.length := by omega
        have hx := List.getElem?_eq_getElem hi
        have hy := List.getElem?_eq_getElem h
        rw [F35.L2.succ, I1_len, I1_len, ite'_t (lt_t hi), ite'_t (lt_t h), ite'_t (inR_t hi)]
        simp only [Int.toNat_natCast, cellI_at (I1_get' hx), cellI_at (I1_get' hy), List.getElem?_cons_zero, Option.bind_some, asI_s, bindI_s]
        rw [ite'_t (inR_t h), ite'_t (inR_t hi), ite'_t (inR_t h), next_i hi ha, ih (i + 1) n (by omega) (by omega) (by omega), cmpI_drop hi h]
        by_cases h1 : a[i] < b[i]
        · rw [ite'_t (by simpa using h1), if_pos h1]; rfl
        · rw [ite'_f (by simpa using h1), if_neg h1]
          by_cases h2 : a[i] > b[i]
          · rw [ite'_t (by simpa using h2), if_pos h2]; rfl
          · rw [ite'_f (by simpa using h2), if_neg h2]
      · exact fin i n (by omega) hb (by omega)
  exact main a.length 0 k (by omega) hk (by omega)
def cmpF (x y : Atom) : Int := if x.1 < y.1 then -1 else if x.1 > y.1 then 1 else cmpI x.2 y.2
/-- spec.CompareFacts -/
theorem c62 (x y : Atom) (hk : x.2.length < k) (ha : x.2.length ≤ maxLen) : C (k + 2) 62 [.agg [.d (.int .i64 x.1), .d (.list 1 (I1 x.2))], .agg [.d (.int .i64 y.1), .d (.list 1 (I1 y.2))]] = io (cmpF x y) := by
  rw [F62.run, c35 x.2 y.2 hk ha, iB']
  unfold cmpF
  by_cases h1 : x.1 < y.1
  · rw [ite'_t (by simpa using h1), if_pos h1]; rfl
  · rw [ite'_f (by simpa using h1), if_neg h1]
    by_cases h2 : x.1 > y.1
    · rw [ite'_t (by simpa using h2), if_pos h2]; rfl
    · rw [ite'_f (by simpa using h2), if_neg h2]; rfl
/-- cmp.Or of two -/
theorem c90 (x y : Int) : C (k + 4) 90 [.d (.list 1 [[.int .i64 x], [.int .i64 y]])] = io (if x = 0 then y else x) := by
  rw [F90.run]
  have s0 : ∀ n, F90.L3 (k + 3) (C (k + 3)) (n + 1) 0 [[.int .i64 x], [.int .i64 y]] 2 0 = ite' (x != 0) (io x) (F90.L3 (k + 3) (C (k + 3)) n 0 [[.int .i64 x], [.int .i64 y]] 2 1) := fun n => by rw [F90.L3.succ]; rfl
  have s1 : ∀ n, F90.L3 (k + 3) (C (k + 3)) (n + 1) 0 [[.int .i64 x], [.int .i64 y]] 2 1 = ite' (y != 0) (io y) (F90.L3 (k + 3) (C (k + 3)) n 0 [[.int .i64 x], [.int .i64 y]] 2 2) := fun n => by rw [F90.L3.succ]; rfl
  have s2 : ∀ n, F90.L3 (k + 3) (C (k + 3)) (n + 1) 0 [[.int .i64 x], [.int .i64 y]] 2 2 = io 0 := fun n => by rw [F90.L3.succ]; rfl
  show F90.L3 (k + 3) (C (k + 3)) (k + 2 + 1) 0 [[.int .i64 x], [.int .i64 y]] 2 0 = _
  rw [s0, s1, s2]
  by_cases h : x = 0
  · rw [if_pos h, ite'_f (by simpa using h)]
    by_cases h' : y = 0
    · rw [ite'_f (by simpa using h'), h']
    · rw [ite'_t (by simpa using h')]
  · rw [if_neg h, ite'_t (by simpa using h)]
/-- impl.CompareFacts -/
theorem c70 (x y : Atom) (hk : x.2.length < k) (ha : x.2.length ≤ maxLen) : C (k + 5) 70 [.agg [.d (.int .i64 x.1), .d (.list 1 (I1 x.2))], .agg [.d (.int .i64 y.1), .d (.list 1 (I1 y.2))]] = io (cmpF x y) := by
  rw [F70.run, c91, iB', c92 (k := k + 1) x.2 y.2 (by omega) ha, iB', c90, iB']
  unfold cmpF cmp1
  by_cases h1 : x.1 < y.1
  · rw [if_pos h1, if_pos h1]; rfl
  · rw [if_neg h1, if_neg h1]
    by_cases h2 : x.1 > y.1
    · rw [if_pos h2, if_pos h2]; rfl
    · rw [if_neg h2, if_neg h2]; rfl
/-! ### valid facts -/
def FactB (a : Ovi.Rows) (x : Atom) (b : Bool) : Prop := (b = true → 0 ≤ x.1 ∧ x.1 < (a.length : Int)) ∧ ∀ k, a.length < k → x.2.length < k → C (k + 6) 69 [.d (.list 3 a), .agg [.d (.int .i64 x.1), .d (.list 1 (I1 x.2))]] = bo b ∧ C (k + 6) 61 [.d (.list 3 a), .agg [.d (.int .i64 x.1), .d (.list 1 (I1 x.2))]] = bo b
theorem factB {a : Ovi.Rows} (ha : Fit Rl (.list 3 a)) (x : Atom) (hI : ∀ z ∈ x.2, inI z) (hx2 : x.2.length ≤ maxLen) : ∃ b, FactB a x b := by
  have hlen := ha.len
  unfold maxLen at hlen
  obtain ⟨b, hb⟩ := rels ha
  have e : ∀ k, a.length < k → C (k + 5) 68 [.d (.list 3 a)] = bo b ∧ C (k + 5) 63 [.d (.list 3 a)] = bo b := fun k hk => hb (k + 2) (by omega)
  cases b with
  | false =>
    refine ⟨false, fun h => (by cases h), fun k hk hx => ?_⟩
    rw [F69.run, F61.run, (e k hk).1, (e k hk).2, bB, bB]
    exact ⟨rfl, rfl⟩
  | true =>
    by_cases hr : 0 ≤ x.1 ∧ x.1 ≤ (a.length : Int) - 1
    · obtain ⟨i, hi⟩ : ∃ i : Nat, x.1 = i := ⟨x.1.toNat, by omega⟩
      have hia : i < a.length := by omega
      obtain ⟨row, hrow, hfr, _⟩ := ha.row hia
      obtain ⟨d0, r0, rfl, f0, h1⟩ := Fits.cons hfr
      obtain ⟨d1, r1, rfl, f1, h1⟩ := Fits.cons h1
      obtain ⟨n, rfl, _⟩ := f1.int
      have hcn : cellI .i64 a ((i : Int)).toNat 1 = some n := by rw [Int.toNat_natCast, cellI_at hrow]; simp [asI_s]
      by_cases hn : ((I1 x.2).length : Int) = n
      · refine ⟨!(x.2.any fun t => !okV t), fun _ => by omega, fun k hk hx => ?_⟩
        rw [F69.run, F61.run, (e k hk).1, (e k hk).2, bB, bB, ite'_nt, ite'_nt, c78, c33, bB, bB, wrap_id (by omega) (by omega), decide_eq_true hr, ite'_nt, ite'_nt, hi, ite'_t (inR_t hia), ite'_t (inR_t hia), hcn]
        simp only [bindI_s]
        rw [ite'_f (by simpa using hn), ite'_f (b := ((I1 x.2).length : Int) != n) (by simpa using hn)]
        have e69 := c75 (k := k + 3) x.2 89 [] (fun t => !okV t) (by omega) hx2 (fun z _ => by
          rw [List.map_nil, F89.run, c45, bB]; rfl)
        rw [e69, bB]
        refine ⟨rfl, ?_⟩
        have := loop_any (xs := x.2) (L := fun m j => F61.L4 (k + 5) (C (k + 5)) m j (i : Int) (I1 x.2)) (stop := fun t => !okV t) (hit := bo false) (fin := bo true)
          (fun m j t ht => by
            have hj := (List.getElem?_eq_some_iff.1 ht).1
            rw [F61.L4.succ, I1_len, ite'_t (lt_t hj), ite'_t (inR_t hj)]
            simp only [Int.toNat_natCast, cellI_at (I1_get' ht), List.getElem?_cons_zero, Option.bind_some, asI_s, bindI_s]
            rw [c34 (hI t (List.mem_of_getElem? ht)), bB, next_i hj hx2]; rfl)
          (fun m => by rw [F61.L4.succ, I1_len, ite'_f (lt_f (by omega))]; rfl) (k + 5) (by omega)
        rw [show F61.L4 (k + 5) (C (k + 5)) (k + 5) 0 (i : Int) (I1 x.2) = _ from this]
        cases x.2.any (fun t => !okV t) <;> rfl
      · refine ⟨false, fun h => (by cases h), fun k hk hx => ?_⟩
        rw [F69.run, F61.run, (e k hk).1, (e k hk).2, bB, bB, ite'_nt, ite'_nt, c78, c33, bB, bB, wrap_id (by omega) (by omega), decide_eq_true hr, ite'_nt, ite'_nt, hi, ite'_t (inR_t hia), ite'_t (inR_t hia), hcn]
        simp only [bindI_s]
        rw [ite'_t (by simpa using hn), ite'_t (b := ((I1 x.2).length : Int) != n) (by simpa using hn)]
        exact ⟨rfl, rfl⟩
    · refine ⟨false, fun h => (by cases h), fun k hk hx => ?_⟩
      rw [F69.run, F61.run, (e k hk).1, (e k hk).2, bB, bB, ite'_nt, ite'_nt, c78, c33, bB, bB, wrap_id (by omega) (by omega), decide_eq_false hr]
      exact ⟨rfl, rfl⟩
def src (a : Ovi.Rows) (x : Atom) : Bool := match a[x.1.toNat]? with
  | some [_, _, .bool b] => b
  | _ => false
theorem src_cell {a : Ovi.Rows} (ha : Fit Rl (.list 3 a)) {x : Atom} (h : 0 ≤ x.1 ∧ x.1 < (a.length : Int)) : inR x.1 a.length = true ∧ cellB a x.1.toNat 2 = some (src a x) := by
  obtain ⟨i, hi⟩ : ∃ i : Nat, x.1 = i := ⟨x.1.toNat, by omega⟩
  have hia : i < a.length := by omega
  obtain ⟨row, hrow, hfr, _⟩ := ha.row hia
  obtain ⟨d0, r0, rfl, f0, h1⟩ := Fits.cons hfr
  obtain ⟨d1, r1, rfl, f1, h1⟩ := Fits.cons h1
  obtain ⟨d2, r2, rfl, f2, h1⟩ := Fits.cons h1
  obtain rfl := Fits.nil h1
  obtain ⟨b, rfl⟩ := f2.bool
  rw [hi]
  refine ⟨inR_t hia, ?_⟩
  rw [Int.toNat_natCast, cellB_at hrow]
  unfold src
  rw [hi, Int.toNat_natCast, hrow]
  rfl
theorem len_terms {xs : List Atom} {x : Atom} (h : x ∈ xs) : x.2.length ≤ terms xs := by
  induction xs with
  | nil => cases h
  | cons y ys ih =>
    have e : terms (y :: ys) = y.2.length + terms ys := by simp [terms]
    rw [e]
    rcases List.mem_cons.1 h with rfl | h
    · omega
    · have := ih h; omega
/-- both IsValidInstance answer alike -/
theorem instB {a : Ovi.Rows} (ha : Fit Rl (.list 3 a)) (xs : List Atom) (hI : ∀ x ∈ xs, ∀ z ∈ x.2, inI z) (hs : terms xs + xs.length ≤ 1048576) (hal : a.length ≤ 1048576) : ∃ b, (b = true → xs.length ≤ 30 ∧ ∀ x ∈ xs, 0 ≤ x.1 ∧ x.1 < (a.length : Int)) ∧ ∀ k, 2000000 ≤ k → C (k + 8) 42 [.agg [.d (.list 3 a), .d (.list 2 (A1 xs))]] = bo b ∧ C (k + 8) 37 [.agg [.d (.list 3 a), .d (.list 2 (A1 xs))]] = bo b := by
  have hmax : (1048576 : Nat) ≤ maxLen := by decide
  have hl : ∀ x ∈ xs, x.2.length ≤ 1048576 := fun x hx => by have := len_terms hx; omega
  obtain ⟨vf, hvf⟩ : ∃ vf : Atom → Bool, ∀ x ∈ xs, FactB a x (vf x) := by
    have : ∀ x : Atom, ∃ b, x ∈ xs → FactB a x b := by
      intro x
      by_cases h : x ∈ xs
      · obtain ⟨b, hb⟩ := factB ha x (hI x h) (by have := hl x h; omega)
        exact ⟨b, fun _ => hb⟩
      · exact ⟨false, fun h' => absurd h' h⟩
    obtain ⟨vf, hv⟩ := Classical.axiomOfChoice this
    exact ⟨vf, fun x hx => hv x hx⟩
  obtain ⟨rb, hrb⟩ := rels ha
  let bad : Nat → Atom → Bool := fun i x => !vf x || ((decide (i > 0) && decide (cmpF (xs.getD (i - 1) x) x ≥ 0)) || (src a x && decide ((nulls x.2).length > 0)))
  have key : ∃ st : Bool, (st = false → ∀ x ∈ xs, vf x = true) ∧ ∀ k, 2000000 ≤ k → F42.L4 (k + 7) (C (k + 7)) (k + 7) (A1 xs) (xs.length : Int) 0 a (A1 xs) = bo (!st) ∧ F37.L2 (k + 7) (C (k + 7)) (k + 7) 0 a (A1 xs) = cond st (bo false) (bo (rb && decide ((xs.length : Int) ≤ 30))) := by
    have s78 : ∀ k, 2000000 ≤ k → ∀ (n i : Nat) x, xs[i]? = some x → F42.L4 (k + 7) (C (k + 7)) (n + 1) (A1 xs) (xs.length : Int) (i : Int) a (A1 xs) = cond (bad i x) (bo false) (F42.L4 (k + 7) (C (k + 7)) n (A1 xs) (xs.length : Int) ((i + 1 : Nat) : Int) a (A1 xs)) ∧
        F37.L2 (k + 7) (C (k + 7)) (n + 1) (i : Int) a (A1 xs) = cond (bad i x) (bo false) (F37.L2 (k + 7) (C (k + 7)) n ((i + 1 : Nat) : Int) a (A1 xs)) := by
      intro k hk n i x hx
      have hi := (List.getElem?_eq_some_iff.1 hx).1
      have hxm := List.mem_of_getElem? hx
      have hxl := hl x hxm
      obtain ⟨hv1, hv2⟩ := hvf x hxm
      obtain ⟨e1, e2⟩ := hv2 (k + 1) (by omega) (by omega)
      have hc0 : cellI .i64 (A1 xs) (i : Int).toNat 0 = some x.1 := by rw [Int.toNat_natCast, cellI_at (A1_get hx)]; simp [asI_s]
      have hc1 : cellL 1 (A1 xs) (i : Int).toNat 1 = some (I1 x.2) := by rw [Int.toNat_natCast, cellL_at (A1_get hx)]; simp [asL_s]
      rw [F42.L4.succ, F37.L2.succ, A1_len, ite'_t (lt_t hi), ite'_t (inR_t hi), ite'_t (lt_t hi), ite'_t (inR_t hi), hc0, hc1]
      simp only [bindI_s, bindL_s]
      rw [e1, e2, bB, bB, next_i hi (m := xs.length) (by omega)]
      cases hvx : vf x with
      | false =>
        have hb : bad i x = true := by simp [bad, hvx]
        rw [hb]
        exact ⟨rfl, rfl⟩
      | true =>
        obtain ⟨g1, g2⟩ := src_cell ha (hv1 hvx)
        have tail : ∀ (X Y : Option Res) (nu : Bool), nu = decide ((nulls x.2).length > 0) → True := fun _ _ _ _ => trivial
        have n126 := c71 (k := k + 3) x.1 x.2 (hI x hxm) (by omega) hxl
        have n75 := c59 (k := k + 4) x.1 x.2 (hI x hxm) (by omega) hxl
        rw [ite'_nt, ite'_nt, g1, g2, n126, n75]
        simp only [bindB_s, bindR_s, resO_s, resL_d, bindL_s, I1_len]
        have hnu : decide (((nulls x.2).length : Int) > 0) = decide ((nulls x.2).length > 0) := by
          rw [Bool.eq_iff_iff]; simp only [decide_eq_true_eq]; omega
        rw [hnu]
        by_cases h0 : i = 0
        · subst h0
          have hb : bad 0 x = (src a x && decide ((nulls x.2).length > 0)) := by simp [bad, hvx]
          rw [hb]
          cases src a x <;> cases decide ((nulls x.2).length > 0) <;> exact ⟨rfl, rfl⟩
        · have hw : IntKind.i64.wrap ((i : Int) - 1) = ((i - 1 : Nat) : Int) := by rw [wrap_id (by omega) (by omega)]; omega
          have hy : xs[i - 1]? = some xs[i - 1] := List.getElem?_eq_getElem (by omega)
          have hyl := hl _ (List.mem_of_getElem? hy)
          have hd0 : cellI .i64 (A1 xs) ((i - 1 : Nat) : Int).toNat 0 = some (xs[i - 1]).1 := by rw [Int.toNat_natCast, cellI_at (A1_get hy)]; simp [asI_s]
          have hd1 : cellL 1 (A1 xs) ((i - 1 : Nat) : Int).toNat 1 = some (I1 (xs[i - 1]).2) := by rw [Int.toNat_natCast, cellL_at (A1_get hy)]; simp [asL_s]
          have hgt : decide ((i : Int) > 0) = true := by simp; omega
          rw [hgt, hw, hd0, hd1]
          simp only [bindI_s, bindL_s]
          rw [c70 (k := k + 2) xs[i - 1] x (by omega) (by omega), c62 (k := k + 5) xs[i - 1] x (by omega) (by omega), iB', iB', inR_t (i := i - 1) (by omega)]
          have hb : bad i x = (decide (cmpF xs[i - 1] x ≥ 0) || (src a x && decide ((nulls x.2).length > 0))) := by
            simp [bad, hvx, List.getD_eq_getElem?_getD, hy, show i > 0 by omega]
          rw [hb]
          cases decide (cmpF xs[i - 1] x ≥ 0) <;> cases src a x <;> cases decide ((nulls x.2).length > 0) <;> exact ⟨rfl, rfl⟩
    have d78 : ∀ k n, F42.L4 (k + 7) (C (k + 7)) (n + 1) (A1 xs) (xs.length : Int) (xs.length : Int) a (A1 xs) = bo true := fun k n => by rw [F42.L4.succ, ite'_f (lt_f (by omega))]; rfl
    have d74 : ∀ k, 2000000 ≤ k → ∀ n, F37.L2 (k + 7) (C (k + 7)) (n + 1) (xs.length : Int) a (A1 xs) = bo (rb && decide ((xs.length : Int) ≤ 30)) := fun k hk n => by
      rw [F37.L2.succ, A1_len, ite'_f (lt_f (by omega)), (hrb (k + 4) (by omega)).2, bB]
      cases rb <;> rfl
    by_cases hall : ∀ (i : Nat) x, xs[i]? = some x → bad i x = false
    · refine ⟨false, fun _ x hx => ?_, fun k hk => ?_⟩
      · obtain ⟨i, hi⟩ := List.mem_iff_getElem?.1 hx
        have := hall i x hi
        simp only [bad, Bool.or_eq_false_iff, Bool.not_eq_false'] at this
        exact this.1
      · constructor
        · rcases loop_find (L := fun n i => F42.L4 (k + 7) (C (k + 7)) n (A1 xs) (xs.length : Int) i a (A1 xs)) (stop := bad) (hit := fun _ => bo false) (fin := bo true) (fun n i x hx => (s78 k hk n i x hx).1) (d78 k) (k + 7) (by omega) with ⟨i, x, hx, hst, _⟩ | ⟨_, h⟩
          · rw [hall i x hx] at hst; cases hst
          · exact h
        · rcases loop_find (L := fun n i => F37.L2 (k + 7) (C (k + 7)) n i a (A1 xs)) (stop := bad) (hit := fun _ => bo false) (fun n i x hx => (s78 k hk n i x hx).2) (d74 k hk) (k + 7) (by omega) with ⟨i, x, hx, hst, _⟩ | ⟨_, h⟩
          · rw [hall i x hx] at hst; cases hst
          · exact h
    · refine ⟨true, ⟨fun h => (by cases h), fun k hk => ?_⟩⟩
      constructor
      · rcases loop_find (L := fun n i => F42.L4 (k + 7) (C (k + 7)) n (A1 xs) (xs.length : Int) i a (A1 xs)) (stop := bad) (hit := fun _ => bo false) (fin := bo true) (fun n i x hx => (s78 k hk n i x hx).1) (d78 k) (k + 7) (by omega) with ⟨i, x, hx, hst, h⟩ | ⟨h, _⟩
        · exact h
        · exact absurd h hall
      · rcases loop_find (L := fun n i => F37.L2 (k + 7) (C (k + 7)) n i a (A1 xs)) (stop := bad) (hit := fun _ => bo false) (fun n i x hx => (s78 k hk n i x hx).2) (d74 k hk) (k + 7) (by omega) with ⟨i, x, hx, hst, h⟩ | ⟨h, _⟩
        · exact h
        · exact absurd h hall
  obtain ⟨st, hst, hk2⟩ := key
  refine ⟨rb && (decide ((xs.length : Int) ≤ 30) && !st), fun h => ?_, fun k hk => ?_⟩
  · simp only [Bool.and_eq_true, decide_eq_true_eq, Bool.not_eq_true'] at h
    exact ⟨by omega, fun x hx => (hvf x hx).1 (hst h.2.2 x hx)⟩
  · obtain ⟨e1, e2⟩ := hk2 k hk
    constructor
    · rw [F42.run, (hrb (k + 4) (by omega)).1, bB, A1_len, e1]
      cases rb with
      | false => rfl
      | true =>
        rw [ite'_nt]
        by_cases h30 : (xs.length : Int) ≤ 30
        · rw [ite'_f (by simp; omega), decide_eq_true h30]; rfl
        · rw [ite'_t (by simp; omega), decide_eq_false h30]; rfl
    · rw [F37.run, e2]
      cases st <;> cases rb <;> cases decide ((xs.length : Int) ≤ 30) <;> rfl
/-! ### the nulls of an instance -/
def vals (xs : List Atom) : List Int := xs.flatMap fun x => x.2
theorem vals_len (xs : List Atom) : (vals xs).length = terms xs := by simp [vals, terms, List.length_flatMap]
theorem vals_I {xs : List Atom} (hI : ∀ x ∈ xs, ∀ z ∈ x.2, inI z) : ∀ z ∈ vals xs, inI z := by
  intro z hz
  obtain ⟨x, hx, h⟩ := List.mem_flatMap.1 hz
  exact hI x hx z h
/-- impl.NullsOfInstance -/
theorem c72 (a : Ovi.Rows) (xs : List Atom) (hI : ∀ x ∈ xs, ∀ z ∈ x.2, inI z) (hk : 2000000 ≤ k) (hs : terms xs + xs.length ≤ 1048576) : C (k + 4) 72 [.agg [.d (.list 3 a), .d (.list 2 (A1 xs))]] = some [(false, [.row 3 1 (I1 (nulls (vals xs)))])] := by
  have hmax : (1048576 : Nat) ≤ maxLen := by decide
  rw [F72.run, A1_len]
  have main : ∀ (m i n : Nat), i + m = xs.length → m < n → F72.L3 (k + 3) (C (k + 3)) n (A1 xs) (xs.length : Int) (i : Int) (I1 (vals (xs.take i))) = some [(false, [.row 3 1 (I1 (nulls (vals xs)))])] := by
    intro m
    induction m with
    | zero =>
      intro i n hm hn
      obtain ⟨n, rfl⟩ : ∃ j, n = j + 1 := ⟨n - 1, by omega⟩
      obtain rfl : i = xs.length := by omega
      rw [List.take_length, F72.L3.succ, ite'_f (lt_f (by omega)), c93 (k := k) (vals xs) (vals_I hI) (by rw [vals_len]; omega) (by rw [vals_len]; omega)]
      rfl
    | succ m ih =>
      intro i n hm hn
      obtain ⟨n, rfl⟩ : ∃ j, n = j + 1 := ⟨n - 1, by omega⟩
      have hi : i < xs.length := by omega
      have hx := List.getElem?_eq_getElem hi
      have hta := terms_at hx
      have htl := terms_le xs (i + 1)
      rw [F72.L3.succ, A1_len, ite'_t (lt_t hi), ite'_t (inR_t hi)]
      simp only [Int.toNat_natCast, cellI_at (A1_get hx), cellL_at (A1_get hx), List.getElem?_cons_zero, List.getElem?_cons_succ, Option.bind_some, asI_s, asL_s, bindI_s, bindL_s]
      have hv : I1 (vals (xs.take i)) ++ I1 (xs[i]).2 = I1 (vals (xs.take (i + 1))) := by
        rw [List.take_succ_eq_append_getElem hi]
        simp only [I1, vals, List.flatMap_append, List.flatMap_cons, List.flatMap_nil, List.append_nil, List.map_append]
      rw [ite'_t (fits_t (by rw [I1_len, I1_len, vals_len]; omega)), hv, next_i hi (m := xs.length) (by omega)]
      exact ih (i + 1) n (by omega) (by omega)
  exact main xs.length 0 (k + 3) (by omega) (by omega)
/-- spec.NullsOfInstance -/
theorem c36 (a : Ovi.Rows) (xs : List Atom) (hI : ∀ x ∈ xs, ∀ z ∈ x.2, inI z) (hk : 2000000 ≤ k) (hs : terms xs + xs.length ≤ 1048576) : C (k + 4) 36 [.agg [.d (.list 3 a), .d (.list 2 (A1 xs))]] = some [(false, [.d (.list 1 (I1 (nulls (vals xs))))])] := by
  have hmax : (1048576 : Nat) ≤ maxLen := by decide
  rw [F36.run]
  have inner : ∀ (ls : List Int) (i : Nat), ls.length ≤ 1048576 → i < xs.length → ∀ (m j n k3 : Nat) (acc : List Int), j + m = ls.length → m < n → SS acc → acc.length + m ≤ 1048576 → 
      ∃ acc', F36.L7 (k + 3) (C (k + 3)) k3 n (I1 acc) (i : Int) (I1 ls) (j : Int) a (A1 xs) = F36.L3 (k + 3) (C (k + 3)) k3 (I1 acc') ((i + 1 : Nat) : Int) a (A1 xs) ∧ SS acc' ∧ acc'.length ≤ acc.length + m ∧ ∀ z, z ∈ acc' ↔ z ∈ acc ∨ z ∈ ls.drop j := by
    intro ls i hls hi m
    induction m with
    | zero =>
      intro j n k3 acc hm hn hS hl
      obtain ⟨n, rfl⟩ : ∃ j, n = j + 1 := ⟨n - 1, by omega⟩
      refine ⟨acc, ?_, hS, by omega, fun z => by rw [List.drop_eq_nil_of_le (by omega)]; simp⟩
      rw [F36.L7.succ, I1_len, ite'_f (lt_f (by omega)), next_i hi (m := xs.length) (by omega)]
    | succ m ih =>
      intro j n k3 acc hm hn hS hl
      obtain ⟨n, rfl⟩ : ∃ j, n = j + 1 := ⟨n - 1, by omega⟩
      have hj : j < ls.length := by omega
      have hz := List.getElem?_eq_getElem hj
      obtain ⟨r', ws, e1, e2, e3, e4, e5⟩ := c60s (k := k + 2) acc ls[j] hS (by omega) (by omega)
      rw [F36.L7.succ, I1_len, ite'_t (lt_t hj), ite'_t (inR_t hj)]
      simp only [Int.toNat_natCast, cellI_at (I1_get' hz), List.getElem?_cons_zero, Option.bind_some, asI_s, bindI_s]
      rw [e1]
      simp only [bindR_s]
      rw [e2, bindL_s, next_i hj (m := ls.length) (by omega)]
      obtain ⟨acc', g1, g2, g3, g4⟩ := ih (j + 1) n k3 ws (by omega) (by omega) e5 (by omega)
      refine ⟨acc', g1, g2, by omega, fun z => ?_⟩
      rw [g4 z, e3 z, List.drop_eq_getElem_cons hj, List.mem_cons, or_assoc]
  have outer : ∀ (m i n : Nat) (acc : List Int), i + m = xs.length → m < n → SS acc → acc.length ≤ terms (xs.take i) → (∀ z, z ∈ acc ↔ z ∈ nulls (vals (xs.take i))) →
      F36.L3 (k + 3) (C (k + 3)) n (I1 acc) (i : Int) a (A1 xs) = some [(false, [.d (.list 1 (I1 (nulls (vals xs))))])] := by
    intro m
    induction m with
    | zero =>
      intro i n acc hm hn hS ha hmem
      obtain ⟨n, rfl⟩ : ∃ j, n = j + 1 := ⟨n - 1, by omega⟩
      obtain rfl : i = xs.length := by omega
      rw [List.take_length] at hmem
      rw [F36.L3.succ, A1_len, ite'_f (lt_f (by omega)), ss_eq hS (nulls_ss _) hmem]
    | succ m ih =>
      intro i n acc hm hn hS ha hmem
      obtain ⟨n, rfl⟩ : ∃ j, n = j + 1 := ⟨n - 1, by omega⟩
      have hi : i < xs.length := by omega
      have hx := List.getElem?_eq_getElem hi
      have hxm := List.mem_of_getElem? hx
      have hta := terms_at hx
      have htl := terms_le xs (i + 1)
      have hnl := nulls_len (xs[i]).2
      rw [F36.L3.succ, A1_len, ite'_t (lt_t hi), ite'_t (inR_t hi)]
      simp only [Int.toNat_natCast, cellI_at (A1_get hx), cellL_at (A1_get hx), List.getElem?_cons_zero, List.getElem?_cons_succ, Option.bind_some, asI_s, asL_s, bindI_s, bindL_s]
      rw [c59 (k := k) (xs[i]).1 (xs[i]).2 (hI _ hxm) (by omega) (by omega)]
      simp only [bindR_s, resL_d, bindL_s]
      obtain ⟨acc', g1, g2, g3, g4⟩ := inner (nulls (xs[i]).2) i (by omega) hi (nulls (xs[i]).2).length 0 (k + 3) n acc (by omega) (by omega) hS (by omega)
      rw [show ((0 : Nat) : Int) = 0 from rfl] at g1
      rw [g1]
      refine ih (i + 1) n acc' (by omega) (by omega) g2 (by omega) (fun z => ?_)
      rw [g4 z, List.drop_zero, hmem z, mem_nulls, mem_nulls, mem_nulls, List.take_succ_eq_append_getElem hi]
      unfold vals
      rw [List.flatMap_append]
      simp only [List.mem_append, List.flatMap_cons, List.flatMap_nil, List.append_nil]
      constructor
      · rintro (⟨v, h1, h2⟩ | ⟨v, h1, h2⟩)
        · exact ⟨v, .inl h1, h2⟩
        · exact ⟨v, .inr h1, h2⟩
      · rintro ⟨v, h1 | h1, h2⟩
        · exact .inl ⟨v, h1, h2⟩
        · exact .inr ⟨v, h1, h2⟩
  exact outer xs.length 0 (k + 3) [] (by omega) (by omega) (by simp [SS]) (by simp) (fun z => by simp [mem_nulls, vals])
end Go.Proofs.YtjfdcddjheandaaGreatDoor.Q

/-! ZJb -/
namespace Go.Proofs.YtjfdcddjheandaaGreatDoor.Q
open Go Ovi
variable {k : Nat}
abbrev Term := Int × Int × List Int
def T1 (ts : List Term) : Ovi.Rows := ts.map fun t => [.int .i64 t.1, .int .i64 t.2.1, .list 1 (I1 t.2.2)]
theorem T1_len (ts : List Term) : (T1 ts).length = ts.length := by simp [T1]
theorem T1_get {ts : List Term} {i : Nat} {t : Term} (h : ts[i]? = some t) : (T1 ts)[i]? = some [.int .i64 t.1, .int .i64 t.2.1, .list 1 (I1 t.2.2)] := by simp [T1, h]
theorem T1_0 {ts : List Term} {i : Nat} {t : Term} (h : ts[i]? = some t) : cellI .i64 (T1 ts) (i : Int).toNat 0 = some t.1 := by rw [Int.toNat_natCast, cellI_at (T1_get h)]; simp [asI_s]
theorem T1_1 {ts : List Term} {i : Nat} {t : Term} (h : ts[i]? = some t) : cellI .i64 (T1 ts) (i : Int).toNat 1 = some t.2.1 := by rw [Int.toNat_natCast, cellI_at (T1_get h)]; simp [asI_s]
theorem T1_2 {ts : List Term} {i : Nat} {t : Term} (h : ts[i]? = some t) : cellL 1 (T1 ts) (i : Int).toNat 2 = some (I1 t.2.2) := by rw [Int.toNat_natCast, cellL_at (T1_get h)]; simp [asL_s]
theorem I1_c {zs : List Int} {i : Nat} {z : Int} (h : zs[i]? = some z) : cellI .i64 (I1 zs) (i : Int).toNat 0 = some z := by rw [Int.toNat_natCast, cellI_at (I1_get' h)]; simp [asI_s]
theorem terms' {a : Ovi.Rows} (h : Fit (.list [.int .i64, .int .i64, .list [.int .i64]]) (.list 3 a)) : ∃ ts : List Term, a = T1 ts ∧ ∀ t ∈ ts, ∀ z ∈ t.2.2, inI z := by
  simp only [Fit] at h
  replace h := h.2.2
  induction a with
  | nil => exact ⟨[], rfl, by simp⟩
  | cons r rs ih =>
    obtain ⟨d, r', rfl, hd, hr⟩ := Fits.cons (h r List.mem_cons_self)
    obtain ⟨d1, r1, rfl, hd1, hr1⟩ := Fits.cons hr
    obtain ⟨d2, r2, rfl, hd2, hr2⟩ := Fits.cons hr1
    obtain rfl := Fits.nil hr2
    obtain ⟨z, rfl, hz⟩ := hd.int
    obtain ⟨z1, rfl, hz1⟩ := hd1.int
    obtain ⟨l, rfl, hl⟩ := hd2.list (n := 1) rfl
    obtain ⟨zs, rfl, hzs⟩ := hl.ints'
    obtain ⟨xs, e, hxs⟩ := ih (fun x hx => h x (List.mem_cons_of_mem _ hx))
    exact ⟨(z, z1, zs) :: xs, by rw [e]; rfl, fun x hx => by
      rcases List.mem_cons.1 hx with rfl | hx
      · exact hzs
      · exact hxs x hx⟩
theorem szR_T1 (ts : List Term) : szR (T1 ts) = (ts.map fun t => t.2.2.length).sum := by
  induction ts with
  | nil => rfl
  | cons t ts ih =>
    show szC [.int .i64 t.1, .int .i64 t.2.1, .list 1 (I1 t.2.2)] + szR (T1 ts) = _
    rw [ih]
    simp [szC, szD, szR_I1, I1_len]
theorem arg_len {ts : List Term} {t : Term} (h : t ∈ ts) : t.2.2.length ≤ szR (T1 ts) := by
  rw [szR_T1]
  induction ts with
  | nil => cases h
  | cons y ys ih =>
    simp only [List.map_cons, List.sum_cons]
    rcases List.mem_cons.1 h with rfl | h
    · omega
    · have := ih h; omega
/-- slices.Equal on integers -/
theorem c97 (a b : List Int) (hk : a.length < k) (ha : a.length ≤ maxLen) : C (k + 1) 97 [.d (.list 1 (I1 a)), .d (.list 1 (I1 b))] = bo (decide (a = b)) := by
  rw [F97.run, I1_len, I1_len]
  by_cases hl : a.length = b.length
  · rw [ite'_f (by simp [hl])]
    have := loop_find (xs := a) (L := fun n i => F97.L4 k (C k) n (I1 a) (I1 b) (a.length : Int) i) (stop := fun i x => x != b.getD i 0) (hit := fun _ => bo false) (fin := bo true)
      (fun n i x hx => by
        have hi := (List.getElem?_eq_some_iff.1 hx).1
        have hy : b[i]? = some (b.getD i 0) := by rw [List.getD_eq_getElem?_getD, List.getElem?_eq_getElem (by omega)]; rfl
        rw [F97.L4.succ, I1_len, I1_len, ite'_t (lt_t hi), ite'_t (inR_t hi), I1_c hx, bindI_s, ite'_t (inR_t (by omega)), I1_c hy, bindI_s, next_i hi ha]; rfl)
      (fun n => by rw [F97.L4.succ, ite'_f (lt_f (by omega))]; rfl) k hk
    rcases this with ⟨i, x, hx, hst, e⟩ | ⟨hst, e⟩
    · rw [show F97.L4 k (C k) k (I1 a) (I1 b) (a.length : Int) 0 = _ from e]
      refine bo_eq (decide_eq_false (fun h => ?_)).symm
      subst h
      rw [List.getD_eq_getElem?_getD, hx] at hst
      simp at hst
    · rw [show F97.L4 k (C k) k (I1 a) (I1 b) (a.length : Int) 0 = _ from e]
      refine bo_eq (decide_eq_true ?_).symm
      apply List.ext_getElem?
      intro i
      by_cases hi : i < a.length
      · have := hst i a[i] (List.getElem?_eq_getElem hi)
        rw [List.getD_eq_getElem?_getD, List.getElem?_eq_getElem (by omega)] at this
        rw [List.getElem?_eq_getElem hi, List.getElem?_eq_getElem (by omega)]
        simpa using this
      · rw [List.getElem?_eq_none (by omega), List.getElem?_eq_none (by omega)]
  · rw [ite'_t (by simp; omega)]
    exact bo_eq (decide_eq_false (fun h => hl (by rw [h]))).symm
def argOk (num v : Int) : Bool := okV v && !(isN v && decide (-1 - v ≥ num))
def termOk (t : Term) (num : Int) : Bool := decide (0 ≤ t.1 ∧ t.1 ≤ 4) && (decide (0 ≤ t.2.1 ∧ t.2.1 ≤ 4) && (decide ((t.2.2.length : Int) ≤ 5) && t.2.2.all (argOk num)))
theorem any_not {α : Type} (l : List α) (p : α → Bool) : (!(l.any fun x => !p x)) = l.all p := by
  induction l with
  | nil => rfl
  | cons x l ih => rw [List.any_cons, List.all_cons, ← ih]; cases p x <;> simp
theorem c94 {v num : Int} (h : inI v) : C (k + 3) 94 [.d (.int .i64 v), .cap [.int .i64 num] 0] = bo (!argOk num v) := by
  rw [F94.run, c48 h, c45]
  show (bindR (nn v) fun r => bindI (resI .i64 2 false 1 r 0 0) fun n => bindB (resB 2 false 1 r 1 0) fun b => _) = _
  rw [nnB, bB]
  unfold argOk
  cases hv : okV v with
  | false => rfl
  | true =>
    cases hn : isN v with
    | false => rfl
    | true => simp only [if_true]; cases decide (-1 - v ≥ num) <;> rfl
/-- impl.isTermOf -/
theorem c73 (t : Term) (num : Int) (hI : ∀ z ∈ t.2.2, inI z) (hk : t.2.2.length < k) (hl : t.2.2.length ≤ maxLen) : C (k + 6) 73 [.agg [.d (.int .i64 t.1), .d (.int .i64 t.2.1), .d (.list 1 (I1 t.2.2))], .d (.int .i64 num)] = bo (termOk t num) := by
  rw [F73.run, c78, bB, c78, bB, I1_len, c75 (k := k + 3) t.2.2 94 [[.int .i64 num]] (fun v => !argOk num v) (by omega) hl (fun z hz => by rw [List.map_cons, List.map_nil, c94 (hI z hz)]), bB, any_not]
  unfold termOk
  cases decide (0 ≤ t.1 ∧ t.1 ≤ 4) with
  | false => rfl
  | true =>
    cases decide (0 ≤ t.2.1 ∧ t.2.1 ≤ 4) with
    | false => rfl
    | true =>
      by_cases h : (t.2.2.length : Int) ≤ 5
      · rw [ite'_nt, ite'_nt, ite'_f (by simp; omega), decide_eq_true h]; rfl
      · rw [ite'_nt, ite'_nt, ite'_t (by simp; omega), decide_eq_false h]; rfl
theorem c96 (t c : Term) (hk : t.2.2.length < k) (hl : t.2.2.length ≤ maxLen) : C (k + 2) 96 [.agg [.d (.int .i64 t.1), .d (.int .i64 t.2.1), .d (.list 1 (I1 t.2.2))], .cap [.int .i64 c.1, .int .i64 c.2.1, .list 1 (I1 c.2.2)] 0] = bo (decide (t = c)) := by
  rw [F96.run, c97 t.2.2 c.2.2 hk hl, bB]
  have e : decide (t = c) = (decide (t.1 = c.1) && (decide (t.2.1 = c.2.1) && decide (t.2.2 = c.2.2))) := by
    rw [Bool.eq_iff_iff]
    simp only [decide_eq_true_eq, Bool.and_eq_true, Prod.ext_iff]
  rw [e]
  by_cases h1 : t.1 = c.1
  · rw [ite'_t (by simpa using h1), decide_eq_true h1]
    by_cases h2 : t.2.1 = c.2.1
    · rw [ite'_t (by simpa using h2), decide_eq_true h2]; rfl
    · rw [ite'_f (by simpa using h2), decide_eq_false h2]; rfl
  · rw [ite'_f (by simpa using h1), decide_eq_false h1]; rfl
/-- impl.termAt -/
theorem c74 (ts : List Term) (p : Nat) (t : Term) (hp : ts[p]? = some t) (hk : szR (T1 ts) + ts.length < k) (hl : szR (T1 ts) + ts.length ≤ 1048576) : ∃ n, C (k + 4) 74 [.d (.list 3 (T1 ts)), .agg [.d (.int .i64 t.1), .d (.int .i64 t.2.1), .d (.list 1 (I1 t.2.2))]] = io n ∧ (n ≠ (p : Int) ↔ t ∈ ts.take p) := by
  have hmax : (1048576 : Nat) ≤ maxLen := by decide
  rw [F74.run, F95.run, T1_len]
  have := loop_first (xs := ts) (L := fun n i => F95.L2 (k + 2) (C (k + 2)) n (T1 ts) 96 [[.int .i64 t.1, .int .i64 t.2.1, .list 1 (I1 t.2.2)]] (ts.length : Int) i) (stop := fun _ x => decide (x = t)) (hit := fun i => io (i : Int)) (fin := io (-1))
    (fun n i x hx => by
      have hi := (List.getElem?_eq_some_iff.1 hx).1
      have := arg_len (List.mem_of_getElem? hx)
      rw [F95.L2.succ, T1_len, ite'_t (lt_t hi), ite'_t (inR_t hi), T1_0 hx, T1_1 hx, T1_2 hx]
      simp only [bindI_s, bindL_s, List.map_cons, List.map_nil, List.append_eq, List.nil_append]
      rw [c96 (k := k) x t (by omega) (by omega), bB, next_i hi (m := ts.length) (by omega)]; rfl)
    (fun n => by rw [F95.L2.succ, ite'_f (lt_f (by omega))]; rfl) (k + 2) (by omega)
  rcases this with ⟨i, x, hx, hst, hf, e⟩ | ⟨hst, e⟩
  · have hxt : x = t := by simpa using hst
    subst hxt
    refine ⟨(i : Int), by rw [show F95.L2 (k + 2) (C (k + 2)) (k + 2) (T1 ts) 96 [[.int .i64 x.1, .int .i64 x.2.1, .list 1 (I1 x.2.2)]] (ts.length : Int) 0 = _ from e, iB']; rfl, ?_⟩
    have hip : i ≤ p := by
      rcases Nat.lt_or_ge p i with h | h
      · have := hf p x h hp; simp at this
      · exact h
    constructor
    · intro h
      have : i < p := by omega
      exact List.mem_iff_getElem?.2 ⟨i, by rw [List.getElem?_take_of_lt this]; exact hx⟩
    · intro h
      obtain ⟨j, hj⟩ := List.mem_iff_getElem?.1 h
      have hjl := (List.getElem?_eq_some_iff.1 hj).1
      simp only [List.length_take] at hjl
      rw [List.getElem?_take_of_lt (by omega)] at hj
      intro e
      have : i = p := by omega
      have := hf j x (by omega) hj
      simp at this
  · have := hst p t hp
    simp at this
/-! ### depths -/
def most (ds args : List Int) : Int := (args.filter isN).foldl (fun m v => maxI m (ds.getD (-1 - v).toNat 0)) 0
def deepL : List Term → List Int → List Int
  | [], ds => ds
  | t :: ts, ds => deepL ts (ds ++ [most ds t.2.2 + 1])
def DD (ts : List Term) (i : Nat) : List Int := deepL (ts.take i) []
theorem deepL_app : ∀ (ts : List Term) (t : Term) (ds : List Int), deepL (ts ++ [t]) ds = deepL ts ds ++ [most (deepL ts ds) t.2.2 + 1]
  | [], t, ds => rfl
  | x :: xs, t, ds => deepL_app xs t _
theorem DD_succ {ts : List Term} {i : Nat} {t : Term} (h : ts[i]? = some t) : DD ts (i + 1) = DD ts i ++ [most (DD ts i) t.2.2 + 1] := by
  obtain ⟨hi, e⟩ := List.getElem?_eq_some_iff.1 h
  unfold DD
  rw [List.take_succ_eq_append_getElem hi, e, deepL_app]
theorem DD_len {ts : List Term} : ∀ {i : Nat}, i ≤ ts.length → (DD ts i).length = i
  | 0, _ => rfl
  | i + 1, h => by rw [DD_succ (List.getElem?_eq_getElem (show i < ts.length by omega)), List.length_append, DD_len (by omega)]; rfl
theorem fold_max {α : Type} (f : α → Int) : ∀ (l : List α) (m0 : Int), m0 ≤ l.foldl (fun m x => maxI m (f x)) m0 ∧ (∀ x ∈ l, f x ≤ l.foldl (fun m x => maxI m (f x)) m0) ∧ (l.foldl (fun m x => maxI m (f x)) m0 = m0 ∨ ∃ x ∈ l, l.foldl (fun m x => maxI m (f x)) m0 = f x)
  | [], m0 => ⟨by simp, by simp, .inl rfl⟩
  | y :: ys, m0 => by
    obtain ⟨h1, h2, h3⟩ := fold_max f ys (maxI m0 (f y))
    have g1 : m0 ≤ maxI m0 (f y) := by unfold maxI; split <;> omega
    have g2 : f y ≤ maxI m0 (f y) := by unfold maxI; split <;> omega
    have g3 : maxI m0 (f y) = m0 ∨ maxI m0 (f y) = f y := by unfold maxI; split <;> simp
    simp only [List.foldl_cons]
    refine ⟨by omega, fun x hx => ?_, ?_⟩
    · rcases List.mem_cons.1 hx with rfl | hx
      · omega
      · exact h2 x hx
    · rcases h3 with h3 | ⟨x, hx, h3⟩
      · rcases g3 with g3 | g3
        · exact .inl (by omega)
        · exact .inr ⟨y, List.mem_cons_self, by omega⟩
      · exact .inr ⟨x, List.mem_cons_of_mem _ hx, h3⟩
theorem getD_range {ds : List Int} {B : Int} (hB : 0 ≤ B) (h : ∀ d ∈ ds, 1 ≤ d ∧ d ≤ B) (n : Nat) : 0 ≤ ds.getD n 0 ∧ ds.getD n 0 ≤ B := by
  rw [List.getD_eq_getElem?_getD]
  cases hn : ds[n]? with
  | none => exact ⟨by simp, by simpa using hB⟩
  | some d => have := h d (List.mem_of_getElem? hn); simp; omega
theorem most_range {ds args : List Int} {B : Int} (hB : 0 ≤ B) (h : ∀ d ∈ ds, 1 ≤ d ∧ d ≤ B) : 0 ≤ most ds args ∧ most ds args ≤ B := by
  obtain ⟨h1, _, h3⟩ := fold_max (fun v => ds.getD (-1 - v).toNat 0) (args.filter isN) 0
  refine ⟨h1, ?_⟩
  rcases h3 with h3 | ⟨x, _, h3⟩
  · unfold most; omega
  · have := (getD_range hB h (-1 - x).toNat).2
    unfold most; omega
theorem DD_range {ts : List Term} : ∀ {i : Nat}, i ≤ ts.length → ∀ d ∈ DD ts i, 1 ≤ d ∧ d ≤ (i : Int)
  | 0, _, d, hd => by simp [DD, deepL] at hd
  | i + 1, h, d, hd => by
    rw [DD_succ (List.getElem?_eq_getElem (show i < ts.length by omega))] at hd
    have ih := DD_range (ts := ts) (i := i) (by omega)
    rcases List.mem_append.1 hd with hd | hd
    · have := ih d hd; omega
    · obtain rfl := List.mem_singleton.1 hd
      have := most_range (args := ts[i].2.2) (by omega : (0 : Int) ≤ (i : Int)) ih
      omega
theorem most_nulls (ds args : List Int) : (nulls args).foldl (fun m n => maxI m (ds.getD n.toNat 0 + 1)) 1 = most ds args + 1 := by
  obtain ⟨h1, h2, h3⟩ := fold_max (fun v => ds.getD (-1 - v).toNat 0) (args.filter isN) 0
  obtain ⟨g1, g2, g3⟩ := fold_max (fun n : Int => ds.getD n.toNat 0 + 1) (nulls args) 1
  have hm : most ds args = (args.filter isN).foldl (fun m v => maxI m (ds.getD (-1 - v).toNat 0)) 0 := rfl
  rw [← hm] at h1 h2 h3
  have hle : (nulls args).foldl (fun m n => maxI m (ds.getD n.toNat 0 + 1)) 1 ≤ most ds args + 1 := by
    rcases g3 with g3 | ⟨n, hn, g3⟩
    · rw [g3]; omega
    · obtain ⟨v, hv, hvn, rfl⟩ := (mem_nulls _ _).1 hn
      have := h2 v (List.mem_filter.2 ⟨hv, hvn⟩)
      rw [g3]; omega
  have hge : most ds args + 1 ≤ (nulls args).foldl (fun m n => maxI m (ds.getD n.toNat 0 + 1)) 1 := by
    rcases h3 with h3 | ⟨v, hv, h3⟩
    · omega
    · have hv' := List.mem_filter.1 hv
      have := g2 (-1 - v) ((mem_nulls _ _).2 ⟨v, hv'.1, hv'.2, rfl⟩)
      omega
  omega
/-- impl.depths -/
theorem c76 (ts : List Term) (hI : ∀ t ∈ ts, ∀ z ∈ t.2.2, inI z) (hok : ∀ (i : Nat) t, ts[i]? = some t → t.2.2.all (argOk (i : Int)) = true) (hk : 2000000 ≤ k) (hl : szR (T1 ts) + ts.length ≤ 1048576) : C (k + 4) 76 [.d (.list 3 (T1 ts))] = some [(false, [.row 3 1 (I1 (DD ts ts.length))])] := by
  have hmax : (1048576 : Nat) ≤ maxLen := by decide
  rw [F76.run, T1_len]
  have inner : ∀ (i : Nat) (nl : List Int), i < ts.length → nl.length ≤ 1048576 → (∀ n ∈ nl, 0 ≤ n ∧ n < (i : Int)) → ∀ (m j n k3 : Nat) (dep : Int), j + m = nl.length → m < n →
      F76.L7 (k + 3) (C (k + 3)) k3 n dep (T1 ts) (ts.length : Int) (i : Int) (nl.length : Int) (j : Int) (I1 (DD ts i)) (I1 nl) = F76.L3 (k + 3) (C (k + 3)) k3 (T1 ts) (ts.length : Int) ((i + 1 : Nat) : Int) (I1 (DD ts i ++ [(nl.drop j).foldl (fun m n => maxI m ((DD ts i).getD n.toNat 0 + 1)) dep])) := by
    intro i nl hi hnl hr m
    have hdl := DD_len (ts := ts) (i := i) (by omega)
    induction m with
    | zero =>
      intro j n k3 dep hm hn
      obtain ⟨n, rfl⟩ : ∃ j, n = j + 1 := ⟨n - 1, by omega⟩
      rw [F76.L7.succ, ite'_f (lt_f (by omega)), ite'_t (fits_t (by rw [I1_len, hdl]; simp; omega)), next_i hi (m := ts.length) (by omega), List.drop_eq_nil_of_le (by omega)]
      simp [I1]
    | succ m ih =>
      intro j n k3 dep hm hn
      obtain ⟨n, rfl⟩ : ∃ j, n = j + 1 := ⟨n - 1, by omega⟩
      have hj : j < nl.length := by omega
      have hz := List.getElem?_eq_getElem hj
      obtain ⟨h0, h1⟩ := hr _ (List.getElem_mem hj)
      obtain ⟨q, hq⟩ : ∃ q : Nat, nl[j] = (q : Int) := ⟨nl[j].toNat, by omega⟩
      have hqd : (DD ts i)[q]? = some ((DD ts i).getD q 0) := by rw [List.getD_eq_getElem?_getD, List.getElem?_eq_getElem (by omega)]; rfl
      have hdr := getD_range (by omega : (0 : Int) ≤ (i : Int)) (DD_range (ts := ts) (i := i) (by omega)) q
      rw [F76.L7.succ, ite'_t (lt_t hj), I1_len, ite'_t (inR_t hj), I1_c hz, bindI_s, hq, I1_len, ite'_t (inR_t (by omega)), I1_c hqd, bindI_s, wrap_id (by omega) (by omega), next_i hj (m := nl.length) (by omega), ih (j + 1) n k3 _ (by omega) (by omega), List.drop_eq_getElem_cons hj, List.foldl_cons, hq, Int.toNat_natCast]
  have outer : ∀ (m i n : Nat), i + m = ts.length → m < n → F76.L3 (k + 3) (C (k + 3)) n (T1 ts) (ts.length : Int) (i : Int) (I1 (DD ts i)) = some [(false, [.row 3 1 (I1 (DD ts ts.length))])] := by
    intro m
    induction m with
    | zero =>
      intro i n hm hn
      obtain ⟨n, rfl⟩ : ∃ j, n = j + 1 := ⟨n - 1, by omega⟩
      obtain rfl : i = ts.length := by omega
      rw [F76.L3.succ, ite'_f (lt_f (by omega))]
    | succ m ih =>
      intro i n hm hn
      obtain ⟨n, rfl⟩ : ∃ j, n = j + 1 := ⟨n - 1, by omega⟩
      have hi : i < ts.length := by omega
      have ht := List.getElem?_eq_getElem hi
      have htm := List.getElem_mem hi
      have hal := arg_len htm
      have hnl := nulls_len (ts[i]).2.2
      rw [F76.L3.succ, ite'_t (lt_t hi), T1_len, ite'_t (inR_t hi), T1_0 ht, T1_1 ht, T1_2 ht]
      simp only [bindI_s, bindL_s]
      rw [c93 (k := k) (ts[i]).2.2 (hI _ htm) (by omega) (by omega)]
      simp only [bindR_s, resO_s, bindL_s, I1_len]
      have := inner i (nulls (ts[i]).2.2) hi (by omega) (fun n hn => by
        obtain ⟨v, hv, hvn, rfl⟩ := (mem_nulls _ _).1 hn
        have h1 := isN_t hvn
        have h2 := List.all_eq_true.1 (hok i _ ht) v hv
        simp only [argOk, hvn, Bool.true_and, Bool.and_eq_true, Bool.not_eq_true', decide_eq_false_iff_not] at h2
        omega) (nulls (ts[i]).2.2).length 0 (k + 3) n 1 (by omega) (by omega)
      rw [show ((0 : Nat) : Int) = 0 from rfl] at this
      rw [this, List.drop_zero, most_nulls, ← DD_succ ht]
      exact ih (i + 1) n (by omega) (by omega)
  exact outer ts.length 0 (k + 3) (by omega) (by omega)
/-- the terms are as they have to be, but for their number -/
def good (ts : List Term) (i : Nat) (t : Term) : Bool := termOk t (i : Int) && !decide (t ∈ ts.take i)
def deepOk (ts : List Term) (i : Nat) (t : Term) : Bool := decide (most (DD ts i) t.2.2 + 1 ≤ 8)
/-- impl.areTerms -/
theorem c44 (ts : List Term) (hI : ∀ t ∈ ts, ∀ z ∈ t.2.2, inI z) (hk : 2000000 ≤ k) (hl : szR (T1 ts) + ts.length ≤ 1048576) : ∃ b, C (k + 8) 44 [.d (.list 3 (T1 ts))] = bo b ∧ (b = true ↔ ts.length ≤ 30 ∧ ∀ (i : Nat) t, ts[i]? = some t → good ts i t = true ∧ deepOk ts i t = true) := by
  have hmax : (1048576 : Nat) ≤ maxLen := by decide
  rw [F44.run, T1_len]
  by_cases h30 : ts.length ≤ 30
  · rw [ite'_f (by simp; omega)]
    have hfin : (∀ (i : Nat) t, ts[i]? = some t → good ts i t = true) → ∀ n, F44.L4 (k + 7) (C (k + 7)) (n + 1) (T1 ts) (T1 ts) (ts.length : Int) (ts.length : Int) = bo ((DD ts ts.length).all fun d => !decide (d > 8)) := by
      intro hg n
      rw [F44.L4.succ, ite'_f (lt_f (by omega)), c76 (k := k + 3) ts hI (fun i t ht => by
        have := hg i t ht
        simp only [good, termOk, Bool.and_eq_true] at this
        exact this.1.2.2.2) (by omega) hl]
      simp only [bindR_s, resO_s, bindL_s]
      rw [c75 (k := k + 5) (DD ts ts.length) 77 [] (fun d => decide (d > 8)) (by rw [DD_len (Nat.le_refl _)]; omega) (by rw [DD_len (Nat.le_refl _)]; omega) (fun z _ => by rw [List.map_nil, F77.run]; rfl), bB]
      refine bo_eq ?_
      rw [← any_not]
      simp
    have main : ∀ (m i n : Nat), i + m = ts.length → m < n → (∀ (j : Nat) t, j < i → ts[j]? = some t → good ts j t = true) → ∃ b, F44.L4 (k + 7) (C (k + 7)) n (T1 ts) (T1 ts) (ts.length : Int) (i : Int) = bo b ∧ (b = true ↔ (∀ (i : Nat) t, ts[i]? = some t → good ts i t = true) ∧ ((DD ts ts.length).all fun d => !decide (d > 8)) = true) := by
      intro m
      induction m with
      | zero =>
        intro i n hm hn hg
        obtain ⟨n, rfl⟩ : ∃ j, n = j + 1 := ⟨n - 1, by omega⟩
        obtain rfl : i = ts.length := by omega
        have hg' : ∀ (i : Nat) t, ts[i]? = some t → good ts i t = true := fun j t ht => hg j t (List.getElem?_eq_some_iff.1 ht).1 ht
        exact ⟨_, hfin hg' n, fun h => ⟨hg', h⟩, fun h => h.2⟩
      | succ m ih =>
        intro i n hm hn hg
        obtain ⟨n, rfl⟩ : ∃ j, n = j + 1 := ⟨n - 1, by omega⟩
        have hi : i < ts.length := by omega
        have ht := List.getElem?_eq_getElem hi
        have htm := List.getElem_mem hi
        have hal := arg_len htm
        obtain ⟨q, e138, hq⟩ := c74 (k := k + 3) ts i _ ht (by omega) hl
        rw [F44.L4.succ, ite'_t (lt_t hi), T1_len, ite'_t (inR_t hi), T1_0 ht, T1_1 ht, T1_2 ht]
        simp only [bindI_s, bindL_s]
        rw [c73 (k := k + 1) ts[i] (i : Int) (hI _ htm) (by omega) (by omega), bB, e138, iB']
        have bad : good ts i ts[i] = false → ∃ b, bo false = bo b ∧ (b = true ↔ (∀ (i : Nat) t, ts[i]? = some t → good ts i t = true) ∧ ((DD ts ts.length).all fun d => !decide (d > 8)) = true) := fun h => ⟨false, rfl, ⟨fun h' => (by cases h'), fun h' => (by have := h'.1 i _ ht; rw [h] at this; cases this)⟩⟩
        cases hv : termOk ts[i] (i : Int) with
        | false => exact bad (by simp [good, hv])
        | true =>
          rw [ite'_nt]
          by_cases hd : ts[i] ∈ ts.take i
          · rw [ite'_t (by simpa using hq.2 hd)]
            exact bad (by simp [good, hd])
          · rw [ite'_f (by simpa using fun h => hd (hq.1 h)), next_i hi (m := ts.length) (by omega)]
            refine ih (i + 1) n (by omega) (by omega) (fun j t hj htj => ?_)
            by_cases hji : j = i
            · subst hji; rw [ht] at htj; cases htj; simp [good, hv, hd]
            · exact hg j t (by omega) htj
    obtain ⟨b, e, hb⟩ := main ts.length 0 (k + 7) (by omega) (by omega) (fun j t hj => by omega)
    refine ⟨b, e, ?_⟩
    rw [hb]
    have hdd : ((DD ts ts.length).all fun d => !decide (d > 8)) = true ↔ ∀ (i : Nat) t, ts[i]? = some t → deepOk ts i t = true := by
      have hget : ∀ (n i : Nat) t, n ≤ ts.length → i < n → ts[i]? = some t → (DD ts n)[i]? = some (most (DD ts i) t.2.2 + 1) := by
        intro n
        induction n with
        | zero => intro i t _ hi; omega
        | succ n ihn =>
          intro i t hn hi ht
          rw [DD_succ (List.getElem?_eq_getElem (show n < ts.length by omega))]
          have hdl := DD_len (ts := ts) (i := n) (by omega)
          by_cases hin : i = n
          · subst hin
            rw [List.getElem?_append_right (by omega), hdl]
            rw [List.getElem?_eq_getElem (show i < ts.length by omega)] at ht
            cases ht
            simp
          · rw [List.getElem?_append_left (by omega)]
            exact ihn i t (by omega) (by omega) ht
      constructor
      · intro h i t ht
        have hi := (List.getElem?_eq_some_iff.1 ht).1
        have := List.all_eq_true.1 h _ (List.mem_of_getElem? (hget ts.length i t (Nat.le_refl _) hi ht))
        simp only [deepOk, decide_eq_true_eq, Bool.not_eq_true', decide_eq_false_iff_not] at this ⊢
        omega
      · intro h
        rw [List.all_eq_true]
        intro d hd
        obtain ⟨i, hi⟩ := List.mem_iff_getElem?.1 hd
        have hil : i < ts.length := by have := (List.getElem?_eq_some_iff.1 hi).1; rwa [DD_len (Nat.le_refl _)] at this
        have ht := List.getElem?_eq_getElem hil
        rw [hget ts.length i _ (Nat.le_refl _) hil ht] at hi
        cases hi
        have := h i _ ht
        simp only [deepOk, decide_eq_true_eq, Bool.not_eq_true', decide_eq_false_iff_not] at this ⊢
        omega
    rw [hdd]
    exact ⟨fun h => ⟨h30, fun i t ht => ⟨h.1 i t ht, h.2 i t ht⟩⟩, fun h => ⟨fun i t ht => (h.2 i t ht).1, fun i t ht => (h.2 i t ht).2⟩⟩
  · rw [ite'_t (by simp; omega)]
    exact ⟨false, rfl, ⟨fun h => (by cases h), fun h => absurd h.1 h30⟩⟩
end Go.Proofs.YtjfdcddjheandaaGreatDoor.Q

/-! ZKb -/
namespace Go.Proofs.YtjfdcddjheandaaGreatDoor.Q
open Go Ovi
variable {k : Nat}
theorem cmpI_zero : ∀ (a b : List Int), cmpI a b = 0 ↔ a = b
  | [], [] => by simp [cmpI]
  | [], _ :: _ => by simp [cmpI]
  | _ :: _, [] => by simp [cmpI]
  | x :: xs, y :: ys => by
    unfold cmpI
    by_cases h1 : x < y
    · rw [if_pos h1]
      constructor
      · intro h; omega
      · intro h; cases h; omega
    · rw [if_neg h1]
      by_cases h2 : x > y
      · rw [if_pos h2]
        constructor
        · intro h; omega
        · intro h; cases h; omega
      · rw [if_neg h2, cmpI_zero xs ys]
        have : x = y := by omega
        subst this
        simp
/-- the last of the nulls lies below -/
def lastOk (N : List Int) (n : Int) : Bool := N.isEmpty || decide (N.getD (N.length - 1) 0 < n)
def goodS (ts : List Term) (i : Nat) (t : Term) : Bool := good ts i t && (deepOk ts i t && decide (i < 30))
/-- one round of spec.IsValidSkolemState -/
theorem step37 (a X : Ovi.Rows) (ts : List Term) (hI : ∀ t ∈ ts, ∀ z ∈ t.2.2, inI z) (hk : 2000000 ≤ k) (hl : szR (T1 ts) + ts.length ≤ 1048576) (i : Nat) (t : Term) (ht : ts[i]? = some t) (n : Nat) :
    F16.L3 (k + 4) (C (k + 4)) (n + 1) (i : Int) a X (T1 ts) (I1 (DD ts i)) = cond (goodS ts i t) (F16.L3 (k + 4) (C (k + 4)) n ((i + 1 : Nat) : Int) a X (T1 ts) (I1 (DD ts (i + 1)))) (bo false) := by
  have hmax : (1048576 : Nat) ≤ maxLen := by decide
  have hi := (List.getElem?_eq_some_iff.1 ht).1
  have htm := List.mem_of_getElem? ht
  have hal := arg_len htm
  have hdl := DD_len (ts := ts) (i := i) (by omega)
  have hdr := DD_range (ts := ts) (i := i) (by omega)
  have hin : inR (i : Int) (T1 ts).length = true := by rw [T1_len]; exact inR_t hi
  have hmr := most_range (args := t.2.2) (by omega : (0 : Int) ≤ (i : Int)) hdr
  -- the terms before
  have l19 : ∀ (m k3 : Nat) (deep : Ovi.Rows), i < m → F16.L19 (k + 4) (C (k + 4)) k3 m (i : Int) 0 a X (T1 ts) deep =
      cond ((ts.take i).any fun x => decide (x = t)) (bo false) (cond (decide (0 ≤ t.1 ∧ t.1 ≤ 4) && decide (0 ≤ t.2.1 ∧ t.2.1 ≤ 4)) (F16.L3 (k + 4) (C (k + 4)) k3 ((i + 1 : Nat) : Int) a X (T1 ts) deep) (bo false)) := by
    intro m k3 deep hm
    have htl : (ts.take i).length = i := by simp; omega
    have := loop_any (xs := ts.take i) (L := fun n j => F16.L19 (k + 4) (C (k + 4)) k3 n (i : Int) j a X (T1 ts) deep) (stop := fun x => decide (x = t)) (hit := bo false)
      (fin := cond (decide (0 ≤ t.1 ∧ t.1 ≤ 4) && decide (0 ≤ t.2.1 ∧ t.2.1 ≤ 4)) (F16.L3 (k + 4) (C (k + 4)) k3 ((i + 1 : Nat) : Int) a X (T1 ts) deep) (bo false))
      (fun n j x hx => by
        have hj := (List.getElem?_eq_some_iff.1 hx).1
        rw [htl] at hj
        rw [List.getElem?_take_of_lt hj] at hx
        have hjl := (List.getElem?_eq_some_iff.1 hx).1
        have hxl := arg_len (List.mem_of_getElem? hx)
        have hjn : inR (j : Int) (T1 ts).length = true := by rw [T1_len]; exact inR_t hjl
        rw [F16.L19.succ, ite'_t (lt_t hj), ite'_t hjn, T1_0 hx, bindI_s, ite'_t hin, T1_0 ht, bindI_s, next_i hj (m := i) (by omega)]
        have e : decide (x = t) = (decide (x.1 = t.1) && (decide (x.2.1 = t.2.1) && decide (x.2.2 = t.2.2))) := by
          rw [Bool.eq_iff_iff]
          simp only [decide_eq_true_eq, Bool.and_eq_true, Prod.ext_iff]
        rw [e]
        by_cases h1 : x.1 = t.1
        · rw [ite'_t (by simpa using h1), decide_eq_true h1, ite'_t hjn, T1_1 hx, bindI_s, ite'_t hin, T1_1 ht, bindI_s]
          by_cases h2 : x.2.1 = t.2.1
          · rw [ite'_t (by simpa using h2), decide_eq_true h2, ite'_t hjn, T1_2 hx, bindL_s, ite'_t hin, T1_2 ht, bindL_s, c35 (k := k + 3) x.2.2 t.2.2 (by omega) (by omega), iB']
            by_cases h3 : x.2.2 = t.2.2
            · rw [ite'_t (by simpa using (cmpI_zero _ _).2 h3), decide_eq_true h3]; rfl
            · rw [ite'_f (by simpa using fun h => h3 ((cmpI_zero _ _).1 h)), decide_eq_false h3]; rfl
          · rw [ite'_f (by simpa using h2), decide_eq_false h2]; rfl
        · rw [ite'_f (by simpa using h1), decide_eq_false h1]; rfl)
      (fun n => by
        rw [htl, F16.L19.succ, ite'_f (lt_f (by omega)), ite'_t hin, T1_0 ht, bindI_s, c33, bB, ite'_t hin, T1_1 ht, bindI_s, c33, bB, next_i hi (m := ts.length) (by omega)]
        cases decide (0 ≤ t.1 ∧ t.1 ≤ 4) <;> cases decide (0 ≤ t.2.1 ∧ t.2.1 ≤ 4) <;> rfl) m (by omega)
    exact this
  have hmem : ((ts.take i).any fun x => decide (x = t)) = decide (t ∈ ts.take i) := by
    rw [Bool.eq_iff_iff, List.any_eq_true]
    simp only [decide_eq_true_eq]
    constructor
    · rintro ⟨x, hx, rfl⟩; exact hx
    · intro h; exact ⟨t, h, rfl⟩
  -- its arguments
  have l7 : ∀ (m j n' : Nat), j + m = t.2.2.length → m < n' → (∀ v ∈ t.2.2.take j, argOk (i : Int) v = true) →
      F16.L7 (k + 4) (C (k + 4)) n n' (i : Int) (((t.2.2.take j).filter isN).foldl (fun m v => maxI m ((DD ts i).getD (-1 - v).toNat 0)) 0) (j : Int) a X (T1 ts) (I1 (DD ts i)) = cond (goodS ts i t) (F16.L3 (k + 4) (C (k + 4)) n ((i + 1 : Nat) : Int) a X (T1 ts) (I1 (DD ts (i + 1)))) (bo false) := by
    intro m
    induction m with
    | zero =>
      intro j n' hm hn hok
      obtain ⟨n', rfl⟩ : ∃ j, n' = j + 1 := ⟨n' - 1, by omega⟩
      obtain rfl : j = t.2.2.length := by omega
      rw [List.take_length] at hok ⊢
      show F16.L7 (k + 4) (C (k + 4)) n (n' + 1) (i : Int) (most (DD ts i) t.2.2) _ a X (T1 ts) (I1 (DD ts i)) = _
      have hall : t.2.2.all (argOk (i : Int)) = true := List.all_eq_true.2 hok
      rw [F16.L7.succ, ite'_t hin, T1_2 ht]
      simp only [bindL_s]
      rw [I1_len, ite'_f (lt_f (by omega)), ite'_t (fits_t (by rw [I1_len, hdl]; simp; omega)), wrap_id (by omega) (by omega)]
      have hdd : I1 (DD ts i) ++ [[.int .i64 (most (DD ts i) t.2.2 + 1)]] = I1 (DD ts (i + 1)) := by rw [DD_succ ht]; simp [I1]
      rw [hdd]
      have hgs : goodS ts i t = (decide (0 ≤ t.1 ∧ t.1 ≤ 4) && (decide (0 ≤ t.2.1 ∧ t.2.1 ≤ 4) && decide ((t.2.2.length : Int) ≤ 5)) && !decide (t ∈ ts.take i) && (decide (most (DD ts i) t.2.2 + 1 ≤ 8) && decide (i < 30))) := by
        unfold goodS good termOk deepOk
        rw [hall, Bool.and_true]
      rw [hgs]
      by_cases h8 : most (DD ts i) t.2.2 ≥ 8
      · rw [ite'_t (by simpa using h8), decide_eq_false (p := most (DD ts i) t.2.2 + 1 ≤ 8) (by omega)]
        simp [bo]
      · rw [ite'_f (by simpa using h8), ite'_t hin, decide_eq_true (show most (DD ts i) t.2.2 + 1 ≤ 8 by omega)]
        by_cases h5 : (t.2.2.length : Int) ≤ 5
        · rw [ite'_f (by simp; omega), decide_eq_true h5]
          by_cases h30 : i < 30
          · rw [ite'_f (by simp; omega), decide_eq_true h30, l19 (k + 4) n _ (by omega), hmem]
            cases decide (0 ≤ t.1 ∧ t.1 ≤ 4) <;> cases decide (0 ≤ t.2.1 ∧ t.2.1 ≤ 4) <;> cases decide (t ∈ ts.take i) <;> rfl
          · rw [ite'_t (by simp; omega), decide_eq_false h30]
            simp [bo]
        · rw [ite'_t (by simp; omega), decide_eq_false h5]
          simp [bo]
    | succ m ih =>
      intro j n' hm hn hok
      obtain ⟨n', rfl⟩ : ∃ j, n' = j + 1 := ⟨n' - 1, by omega⟩
      have hj : j < t.2.2.length := by omega
      have hv := List.getElem?_eq_getElem hj
      have hvm := List.getElem_mem hj
      have hvI := hI t htm _ hvm
      rw [F16.L7.succ, ite'_t hin, T1_2 ht]
      simp only [bindL_s]
      rw [I1_len, ite'_t (lt_t hj), ite'_t hin, ite'_t (inR_t hj), I1_c hv, bindI_s, c15 hvI, nnB, c34 hvI, bB, next_i hj (m := t.2.2.length) (by omega)]
      have hbad : argOk (i : Int) t.2.2[j] = false → goodS ts i t = false := by
        intro h
        have : t.2.2.all (argOk (i : Int)) = false := List.all_eq_false.2 ⟨_, hvm, by simp [h]⟩
        simp [goodS, good, termOk, this]
      have htake : t.2.2.take (j + 1) = t.2.2.take j ++ [t.2.2[j]] := List.take_succ_eq_append_getElem hj
      have hnext : argOk (i : Int) t.2.2[j] = true → ∀ v ∈ t.2.2.take (j + 1), argOk (i : Int) v = true := by
        intro h v hv'
        rw [htake] at hv'
        rcases List.mem_append.1 hv' with hv' | hv'
        · exact hok v hv'
        · rw [List.mem_singleton.1 hv']; exact h
      cases hov : okV t.2.2[j] with
      | false => rw [hbad (by simp [argOk, hov]), ite'_nf]; rfl
      | true =>
        rw [ite'_nt]
        cases hn' : isN t.2.2[j] with
        | false =>
          rw [ite'_f rfl, ite'_f rfl]
          have := ih (j + 1) n' (by omega) (by omega) (hnext (by simp [argOk, hov, hn']))
          rw [htake, List.filter_append] at this
          simpa [hn'] using this
        | true =>
          have hnr := isN_t hn'
          rw [ite'_t rfl]
          simp only [if_true]
          by_cases hge : -1 - t.2.2[j] ≥ (i : Int)
          · rw [ite'_t (by simpa using hge), hbad (by simp [argOk, hov, hn']; omega)]; rfl
          · obtain ⟨q, hq⟩ : ∃ q : Nat, -1 - t.2.2[j] = (q : Int) := ⟨(-1 - t.2.2[j]).toNat, by omega⟩
            have hqd : (DD ts i)[q]? = some ((DD ts i).getD q 0) := by rw [List.getD_eq_getElem?_getD, List.getElem?_eq_getElem (by omega)]; rfl
            rw [ite'_f (by simpa using hge), ite'_t rfl, hq, ite'_t (by rw [I1_len]; exact inR_t (by omega)), I1_c hqd, bindI_s]
            have := ih (j + 1) n' (by omega) (by omega) (hnext (by simp [argOk, hov, hn']; omega))
            rw [htake, List.filter_append, List.foldl_append] at this
            simp only [List.filter_cons, hn', if_true, List.filter_nil, List.foldl_cons, List.foldl_nil, hq, Int.toNat_natCast] at this
            exact this
  rw [F16.L3.succ, T1_len, ite'_t (lt_t hi)]
  exact l7 t.2.2.length 0 (k + 4) (by omega) (by omega) (by simp)
/-- spec.IsValidSkolemState -/
theorem c16 {a : Ovi.Rows} (xs : List Atom) (ts : List Term) (hX : ∀ x ∈ xs, ∀ z ∈ x.2, inI z) (hI : ∀ t ∈ ts, ∀ z ∈ t.2.2, inI z) (hk : 2000000 ≤ k) (hl : szR (T1 ts) + ts.length ≤ 1048576) (hs : terms xs + xs.length ≤ 1048576) {ib : Bool}
    (hib : ∀ k, 2000000 ≤ k → C (k + 8) 37 [.agg [.d (.list 3 a), .d (.list 2 (A1 xs))]] = bo ib) :
    ∃ b, C (k + 9) 16 [.agg [.d (.list 3 a), .d (.list 2 (A1 xs)), .d (.list 3 (T1 ts))]] = bo b ∧ (b = true ↔ ib = true ∧ lastOk (nulls (vals xs)) (ts.length : Int) = true ∧ ts.length ≤ 30 ∧ ∀ (i : Nat) t, ts[i]? = some t → good ts i t = true ∧ deepOk ts i t = true) := by
  have hmax : (1048576 : Nat) ≤ maxLen := by decide
  rw [F16.run]
  have hfin : ∀ n, F16.L3 (k + 8) (C (k + 8)) (n + 1) (ts.length : Int) a (A1 xs) (T1 ts) (I1 (DD ts ts.length)) = bo (ib && (decide ((ts.length : Int) ≤ 30) && lastOk (nulls (vals xs)) (ts.length : Int))) := by
    intro n
    rw [F16.L3.succ, T1_len, ite'_f (lt_f (by omega)), c36 (k := k + 4) a xs hX (by omega) hs]
    simp only [bindR_s, resL_d, bindL_s]
    rw [hib k hk, bB, I1_len]
    have hnl := nulls_len (vals xs)
    rw [vals_len] at hnl
    generalize nulls (vals xs) = N at *
    cases ib with
    | false => rfl
    | true =>
      rw [ite'_t rfl]
      by_cases h30 : (ts.length : Int) ≤ 30
      · rw [ite'_t (by simpa using h30), decide_eq_true h30]
        by_cases hN : N.length = 0
        · rw [ite'_t (by simp [hN])]
          have := List.eq_nil_of_length_eq_zero hN
          subst this
          rfl
        · have hw : IntKind.i64.wrap ((N.length : Int) - 1) = ((N.length - 1 : Nat) : Int) := by rw [wrap_id (by omega) (by omega)]; omega
          have hget : N[N.length - 1]? = some (N.getD (N.length - 1) 0) := by rw [List.getD_eq_getElem?_getD, List.getElem?_eq_getElem (by omega)]; rfl
          rw [ite'_f (by simp; intro h; exact hN (by rw [h]; rfl)), hw, ite'_t (inR_t (by omega)), I1_c hget, bindI_s]
          have hne : N.isEmpty = false := by cases N with | nil => simp at hN | cons _ _ => rfl
          simp [lastOk, hne, bo]
      · rw [ite'_f (by simpa using h30), decide_eq_false h30]; rfl
  have main : ∀ (m i n : Nat), i + m = ts.length → m < n → (∀ (j : Nat) t, j < i → ts[j]? = some t → goodS ts j t = true) → ∃ b, F16.L3 (k + 8) (C (k + 8)) n (i : Int) a (A1 xs) (T1 ts) (I1 (DD ts i)) = bo b ∧ (b = true ↔ ib = true ∧ lastOk (nulls (vals xs)) (ts.length : Int) = true ∧ ts.length ≤ 30 ∧ ∀ (i : Nat) t, ts[i]? = some t → goodS ts i t = true) := by
    intro m
    induction m with
    | zero =>
      intro i n hm hn hg
      obtain ⟨n, rfl⟩ : ∃ j, n = j + 1 := ⟨n - 1, by omega⟩
      obtain rfl : i = ts.length := by omega
      refine ⟨_, hfin n, ?_⟩
      simp only [Bool.and_eq_true, decide_eq_true_eq]
      constructor
      · rintro ⟨h1, h2, h3⟩
        exact ⟨h1, h3, by omega, fun j t ht => hg j t (List.getElem?_eq_some_iff.1 ht).1 ht⟩
      · rintro ⟨h1, h2, h3, _⟩
        exact ⟨h1, by omega, h2⟩
    | succ m ih =>
      intro i n hm hn hg
      obtain ⟨n, rfl⟩ : ∃ j, n = j + 1 := ⟨n - 1, by omega⟩
      have hi : i < ts.length := by omega
      have ht := List.getElem?_eq_getElem hi
      rw [step37 (k := k + 4) a (A1 xs) ts hI (by omega) hl i _ ht n]
      cases hgi : goodS ts i ts[i] with
      | false =>
        refine ⟨false, rfl, ⟨fun h => (by cases h), fun h => ?_⟩⟩
        have := h.2.2.2 i _ ht
        rw [hgi] at this
        cases this
      | true =>
        refine ih (i + 1) n (by omega) (by omega) (fun j t hj htj => ?_)
        by_cases hji : j = i
        · subst hji; rw [ht] at htj; cases htj; exact hgi
        · exact hg j t (by omega) htj
  obtain ⟨b, e, hb⟩ := main ts.length 0 (k + 8) (by omega) (by omega) (fun j t hj => by omega)
  refine ⟨b, e, ?_⟩
  rw [hb]
  constructor
  · rintro ⟨h1, h2, h3, h4⟩
    refine ⟨h1, h2, h3, fun i t ht => ?_⟩
    have := h4 i t ht
    simp only [goodS, Bool.and_eq_true] at this
    exact ⟨this.1, this.2.1⟩
  · rintro ⟨h1, h2, h3, h4⟩
    refine ⟨h1, h2, h3, fun i t ht => ?_⟩
    have hi := (List.getElem?_eq_some_iff.1 ht).1
    obtain ⟨g1, g2⟩ := h4 i t ht
    simp only [goodS, g1, g2, Bool.true_and, decide_eq_true_eq]
    omega
/-- impl.NextNull -/
theorem c43 (a : Ovi.Rows) (xs : List Atom) (hI : ∀ x ∈ xs, ∀ z ∈ x.2, inI z) (hk : 2000000 ≤ k) (hs : terms xs + xs.length ≤ 1048576) (n : Nat) : ∃ q, C (k + 5) 43 [.agg [.d (.list 3 a), .d (.list 2 (A1 xs))]] = io q ∧ decide (q ≤ (n : Int)) = lastOk (nulls (vals xs)) (n : Int) := by
  have hmax : (1048576 : Nat) ≤ maxLen := by decide
  rw [F43.run, c72 a xs hI hk hs]
  simp only [bindR_s, resO_s, bindL_s, I1_len]
  have hnl := nulls_len (vals xs)
  rw [vals_len] at hnl
  have hr : ∀ m ∈ nulls (vals xs), 0 ≤ m ∧ m ≤ 39 := by
    intro m hm
    obtain ⟨v, _, hv, rfl⟩ := (mem_nulls _ _).1 hm
    have := isN_t hv
    omega
  generalize nulls (vals xs) = N at *
  by_cases hN : N.length = 0
  · rw [ite'_t (by simp [hN])]
    have := List.eq_nil_of_length_eq_zero hN
    subst this
    exact ⟨0, rfl, by simp [lastOk]⟩
  · have hw : IntKind.i64.wrap ((N.length : Int) - 1) = ((N.length - 1 : Nat) : Int) := by rw [wrap_id (by omega) (by omega)]; omega
    have hget : N[N.length - 1]? = some (N.getD (N.length - 1) 0) := by rw [List.getD_eq_getElem?_getD, List.getElem?_eq_getElem (by omega)]; rfl
    have hlr := hr _ (List.mem_of_getElem? hget)
    have hne : N.isEmpty = false := by cases N with | nil => simp at hN | cons _ _ => rfl
    rw [ite'_f (by simp; intro h; exact hN (by rw [h]; rfl)), hw, ite'_t (inR_t (by omega)), I1_c hget, bindI_s, wrap_id (by omega) (by omega)]
    refine ⟨_, rfl, ?_⟩
    unfold lastOk
    rw [hne, Bool.false_or, Bool.eq_iff_iff]
    simp only [decide_eq_true_eq]
    omega
def Tm1 : Ty := .list [.int .i64, .int .i64, .list [.int .i64]]
end Go.Proofs.YtjfdcddjheandaaGreatDoor.Q

/-! ZHd -/
namespace Go.Proofs.YtjfdcddjheandaaGreatDoor.Q
open Go Ovi
/-! ### numbers as texts -/
def dd (u : Nat) : List UInt8 := if u = 0 then [] else Lib.decDigits u
theorem dd_step {u : Nat} (h : 0 < u) : dd u = dd (u / 10) ++ [UInt8.ofNat (48 + u % 10)] := by
  unfold dd
  rw [if_neg (by omega)]
  by_cases h1 : u < 10
  · rw [if_pos (by omega), Lib.decDigits, dif_pos h1, Nat.mod_eq_of_lt h1]
    rfl
  · rw [if_neg (by omega), Lib.decDigits, dif_neg h1]
theorem dd_len {u : Nat} (h : u < 18446744073709551616) : (dd u).length ≤ 20 := by
  unfold dd
  split
  · simp
  · rw [Lib.decDigits_length]; exact Lib.nDigits_le20 u h
theorem byte_one {r : Nat} (h : r < 10) : bytesD [[D.int IntKind.u8 (IntKind.u8.wrap (IntKind.i64.wrap ((48 : Int) + (r : Int))))]] = some [UInt8.ofNat (48 + r)] := by
  have e1 : IntKind.i64.wrap ((48 : Int) + (r : Int)) = 48 + r := wrap_id (by omega) (by omega)
  have e2 : IntKind.u8.wrap ((48 : Int) + (r : Int)) = 48 + r := by rw [IntKind.wrap_u8]; omega
  have e3 : decide (0 ≤ (48 : Int) + (r : Int) ∧ (48 : Int) + (r : Int) < 256) = true := by simp only [decide_eq_true_eq]; omega
  have e4 : ((48 : Int) + (r : Int)).toNat = 48 + r := by omega
  rw [e1, e2]
  simp only [bytesD, e3, e4]
/-- spec.FormatInt's loop -/
theorem l18 {k : Nat} (call : CallF) (neg : Bool) : ∀ (m n : Nat) (z : Int) (acc : List UInt8), z.natAbs < 10 ^ m → z.natAbs < 18446744073709551616 → m < n → acc.length + (dd z.natAbs).length ≤ 1000 →
    F18.L5 k call n z acc neg = some [(false, [.d (.str (cond neg (45 :: (dd z.natAbs ++ acc)) (dd z.natAbs ++ acc)))])] := by
  have fin : ∀ (n : Nat) (acc : List UInt8), acc.length ≤ 1000 → F18.L5 k call (n + 1) 0 acc neg = some [(false, [.d (.str (cond neg (45 :: acc) acc))])] := by
    intro n acc hl
    rw [F18.L5.succ, ite'_f (by simp), fits_t (by omega)]
    cases neg <;> rfl
  intro m
  induction m with
  | zero =>
    intro n z acc h1 h2 hn hl
    obtain ⟨n, rfl⟩ : ∃ j, n = j + 1 := ⟨n - 1, by omega⟩
    obtain rfl : z = 0 := by omega
    rw [fin n acc (by omega)]
    rfl
  | succ m ih =>
    intro n z acc h1 h2 hn hl
    obtain ⟨n, rfl⟩ : ∃ j, n = j + 1 := ⟨n - 1, by omega⟩
    by_cases hz : z = 0
    · subst hz
      rw [fin n acc (by omega)]
      rfl
    · have hq : (z.tdiv 10).natAbs = z.natAbs / 10 := by rw [Int.natAbs_tdiv]; rfl
      have hm : (z.tmod 10).natAbs = z.natAbs % 10 := by rw [Int.natAbs_tmod]; rfl
      have hdd := dd_step (u := z.natAbs) (by omega)
      have hp : z.natAbs / 10 < 10 ^ m := by
        rw [Nat.pow_succ] at h1
        omega
      have hlen : (dd z.natAbs).length = (dd (z.natAbs / 10)).length + 1 := by rw [hdd]; simp
      have hw : IntKind.i64.wrap (z.tdiv 10) = z.tdiv 10 := wrap_id (by omega) (by omega)
      have hfit : fits (([UInt8.ofNat (48 + z.natAbs % 10)] : List UInt8).length + acc.length) = true := fits_t (by simp; omega)
      have go : F18.L5 k call n (z.tdiv 10) ([UInt8.ofNat (48 + z.natAbs % 10)] ++ acc) neg = some [(false, [.d (.str (cond neg (45 :: (dd z.natAbs ++ acc)) (dd z.natAbs ++ acc)))])] := by
        rw [ih n (z.tdiv 10) _ (by rw [hq]; exact hp) (by rw [hq]; omega) (by omega) (by rw [hq]; simp; omega), hq, hdd]
        simp
      rw [F18.L5.succ, ite'_t (by simpa using hz)]
      by_cases hneg : z.tmod 10 < 0
      · have e0 : (0 : Int) - z.tmod 10 = ((z.natAbs % 10 : Nat) : Int) := by omega
        have e9 : IntKind.i64.wrap ((z.natAbs % 10 : Nat) : Int) = ((z.natAbs % 10 : Nat) : Int) := wrap_id (by omega) (by omega)
        rw [ite'_t (by simpa using hneg), e0, e9, byte_one (Nat.mod_lt _ (by omega)), bindS_s, ite'_t hfit, hw]
        exact go
      · have e0 : z.tmod 10 = ((z.natAbs % 10 : Nat) : Int) := by omega
        rw [ite'_f (by simpa using hneg), e0, byte_one (Nat.mod_lt _ (by omega)), bindS_s, ite'_t hfit, hw]
        exact go
theorem c18 {k : Nat} (hk : 40 ≤ k) {z : Int} (hz : inI z) : C k 18 [.d (.int .i64 z)] = some [(false, [.d (.str (Lib.itoa z))])] := by
  obtain ⟨k, rfl⟩ : ∃ j, k = j + 1 := ⟨k - 1, by omega⟩
  unfold inI at hz
  rw [F18.run]
  by_cases h : z = 0
  · subst h
    rw [ite'_t (by simp)]
    have : Lib.itoa 0 = [48] := by
      unfold Lib.itoa
      rw [if_neg (by omega), Lib.decDigits, dif_pos (by decide)]
      rfl
    rw [this]
  · rw [ite'_f (by simpa using h), l18 (C k) _ 20 k z [] (by omega) (by omega) (by omega) (by have := dd_len (u := z.natAbs) (by omega); simp; omega)]
    have hne : ¬ z.natAbs = 0 := by omega
    unfold Lib.itoa dd
    by_cases hneg : z < 0
    · simp only [hneg, decide_true, cond_true, if_neg hne, List.append_nil, if_true]
    · have : z.toNat = z.natAbs := by omega
      simp only [hneg, decide_false, cond_false, if_neg hne, List.append_nil, if_false, this]
/-! ### values as texts -/
def fv (z : Int) : List UInt8 := if -40 ≤ z ∧ z < 0 then 110 :: Lib.decDigits (-1 - z).toNat else if 0 ≤ z ∧ z ≤ 9 then Lib.decDigits z.toNat else []
theorem dig_len {u : Nat} (h : u < 100) : (Lib.decDigits u).length ≤ 2 := by
  rw [Lib.decDigits]
  split
  · simp
  · rw [Lib.decDigits, dif_pos (by omega)]; simp
theorem fv_len (z : Int) : (fv z).length ≤ 3 := by
  unfold fv
  split
  · have := dig_len (u := (-1 - z).toNat) (by omega); simp; omega
  · split
    · have := dig_len (u := z.toNat) (by omega); omega
    · simp
theorem itoa_nn {z : Int} (h : 0 ≤ z) : Lib.itoa z = Lib.decDigits z.toNat := by unfold Lib.itoa; rw [if_neg (by omega)]
theorem c15d {k : Nat} (hk : 2 ≤ k) {z : Int} (hz : inI z) : C k 15 [.d (.int .i64 z)] = some (if -40 ≤ z ∧ z < 0 then [(false, [.d (.int .i64 (-1 - z))]), (false, [.d (.bool true)])] else [(false, [.d (.int .i64 0)]), (false, [.d (.bool false)])]) := by
  obtain ⟨k, rfl⟩ : ∃ j, k = j + 2 := ⟨k - 2, by omega⟩
  unfold inI at hz
  rw [F15.run]
  by_cases h0 : z ≥ 0
  · rw [ite'_t (by simpa using h0), if_neg (by omega)]
  · rw [ite'_f (by simpa using h0), wrap_id (by omega) (by omega), F33.run, ite'_t (by simp only [decide_eq_true_eq]; omega), bindR_s, resB_s, bindB_s]
    by_cases h1 : -1 - z ≤ 39
    · rw [ite'_f (by simpa using h1), if_pos (by omega)]
    · rw [ite'_t (by simpa using h1), if_neg (by omega)]
theorem c17 {k : Nat} (hk : 100 ≤ k) {z : Int} (hz : inI z) : C k 17 [.d (.int .i64 z)] = some [(false, [.d (.str (fv z))])] := by
  obtain ⟨k, rfl⟩ : ∃ j, k = j + 1 := ⟨k - 1, by omega⟩
  have hz' := hz
  unfold inI at hz
  rw [F17.run, c15d (by omega) hz', bindR_s]
  unfold fv
  by_cases h : -40 ≤ z ∧ z < 0
  · rw [if_pos h, if_pos h]
    have r1 : resI .i64 2 false 1 [(false, [.d (.int .i64 (-1 - z))]), (false, [.d (.bool true)])] 0 0 = some (-1 - z) := by simp [resI, leafD, D.asI]
    have r2 : resB 2 false 1 [(false, [.d (.int .i64 (-1 - z))]), (false, [.d (.bool true)])] 1 0 = some true := rfl
    rw [r1, r2, bindI_s, bindB_s, ite'_t rfl, c18 (by omega) (by unfold inI; omega), bindR_s, resS_s, bindS_s, itoa_nn (by omega)]
    have := dig_len (u := (-1 - z).toNat) (by omega)
    rw [ite'_t (fits_t (by omega))]
  · rw [if_neg h, if_neg h]
    have r1 : resI .i64 2 false 1 [(false, [.d (.int .i64 0)]), (false, [.d (.bool false)])] 0 0 = some 0 := by simp [resI, leafD, D.asI]
    have r2 : resB 2 false 1 [(false, [.d (.int .i64 0)]), (false, [.d (.bool false)])] 1 0 = some false := rfl
    obtain ⟨k, rfl⟩ : ∃ j, k = j + 1 := ⟨k - 1, by omega⟩
    rw [r1, r2, bindI_s, bindB_s, ite'_f rfl, F33.run]
    by_cases h1 : z ≥ 0
    · rw [ite'_t (by simpa using h1), bindR_s, resB_s, bindB_s]
      by_cases h2 : z ≤ 9
      · rw [ite'_f (by simpa using h2), if_pos (by omega), c18 (by omega) hz', bindR_s, resS_s, bindS_s, itoa_nn (by omega)]
      · rw [ite'_t (by simpa using h2), if_neg (by omega)]
    · rw [ite'_f (by simpa using h1), bindR_s, resB_s, bindB_s, ite'_nf, if_neg (by omega)]
theorem c79i (k : Nat) {n : Int} (h : inI n) : C (k + 1) 79 [.d (.int .i64 n)] = some [(false, [.d (.str (Lib.itoa n))])] := by
  have : C (k + 1) 79 [.d (.int .i64 n)] = itoaQ [.d (.int .i64 n)] := by kernel_rfl
  rw [this]
  have hd : decide (-9223372036854775808 ≤ n ∧ n ≤ 9223372036854775807) = true := by simp only [decide_eq_true_eq]; exact h
  simp only [itoaQ, hd, cond_true]
theorem c79 (k : Nat) {n : Int} (h0 : 0 ≤ n) (h1 : n < 100) : C (k + 1) 79 [.d (.int .i64 n)] = some [(false, [.d (.str (Lib.decDigits n.toNat))])] := by
  rw [c79i k (by unfold inI; omega), itoa_nn h0]
theorem c47i {k : Nat} (hk : 2 ≤ k) {n : Int} (h : inI n) : C k 47 [.d (.int .i64 n)] = some [(false, [.d (.str (Lib.itoa n))])] := by
  obtain ⟨k, rfl⟩ : ∃ j, k = j + 2 := ⟨k - 2, by omega⟩
  rw [F47.run, c79i k h, bindR_s, resS_s, bindS_s]
theorem c47 {k : Nat} (hk : 2 ≤ k) {n : Int} (h0 : 0 ≤ n) (h1 : n < 100) : C k 47 [.d (.int .i64 n)] = some [(false, [.d (.str (Lib.decDigits n.toNat))])] := by
  obtain ⟨k, rfl⟩ : ∃ j, k = j + 2 := ⟨k - 2, by omega⟩
  rw [F47.run, c79 k h0 h1, bindR_s, resS_s, bindS_s]
theorem c24 {k : Nat} (hk : 100 ≤ k) {z : Int} (hz : inI z) : C k 24 [.d (.int .i64 z)] = some [(false, [.d (.str (fv z))])] := by
  obtain ⟨k, rfl⟩ : ∃ j, k = j + 3 := ⟨k - 3, by omega⟩
  have hz' := hz
  unfold inI at hz
  rw [F24.run, F45.run, F78.run, F46.run]
  unfold fv
  by_cases h1 : (-40 : Int) ≤ z
  · rw [ite'_t (by simpa using h1), bindR_s, resB_s, bindB_s, bindR_s, resB_s, bindB_s]
    by_cases h2 : z ≤ 9
    · rw [ite'_f (by simpa using h2), bindR_s, resB_s, bindB_s]
      by_cases h3 : z < 0
      · rw [ite'_t (by simpa using h3), wrap_id (by omega) (by omega), c47 (by omega) (by omega) (by omega), bindR_s, resS_s, bindS_s, if_pos (by omega)]
        have := dig_len (u := ((-1 : Int) - z).toNat) (by omega)
        rw [ite'_t (fits_t (by omega))]
      · rw [ite'_f (by simpa using h3), c47 (by omega) (by omega) (by omega), bindR_s, resS_s, bindS_s, if_neg (by omega), if_pos (by omega)]
    · rw [ite'_t (by simpa using h2), if_neg (by omega), if_neg (by omega)]
  · rw [ite'_f (by simpa using h1), bindR_s, resB_s, bindB_s, bindR_s, resB_s, bindB_s, ite'_nf, if_neg (by omega), if_neg (by omega)]
end Go.Proofs.YtjfdcddjheandaaGreatDoor.Q

/-! ZId -/
namespace Go.Proofs.YtjfdcddjheandaaGreatDoor.Q
open Go Ovi
theorem c50 (k : Nat) {ts : List (List UInt8)} {sep : List UInt8} (h1 : ts.length ≤ 1099511627776) (h2 : (Lib.join ts sep).length ≤ 1099511627776) : C (k + 1) 50 [.d (.list 1 (Ovi.T1 ts)), .d (.str sep)] = some [(false, [.d (.str (Lib.join ts sep))])] := by
  have : C (k + 1) 50 [.d (.list 1 (Ovi.T1 ts)), .d (.str sep)] = joinP [.d (.list 1 (Ovi.T1 ts)), .d (.str sep)] := by kernel_rfl
  rw [this]
  have h1 : Nat.ble ts.length 1099511627776 = true := Nat.ble_eq_true_of_le h1
  have h2 : Nat.ble (Lib.join ts sep).length 1099511627776 = true := Nat.ble_eq_true_of_le h2
  simp only [joinP, texts_T1, h1, h2, Bool.and_self, cond_true]
theorem T1_snoc (ts : List (List UInt8)) (s : List UInt8) : Ovi.T1 ts ++ [[.str s]] = Ovi.T1 (ts ++ [s]) := by simp [Ovi.T1]
end Go.Proofs.YtjfdcddjheandaaGreatDoor.Q

/-! ZKd -/
namespace Go.Proofs.YtjfdcddjheandaaGreatDoor.Q
open Go Ovi
/-! ### terms as texts -/
def ft (t : Int) : List UInt8 := if -10 ≤ t ∧ t ≤ -1 then Lib.decDigits (-1 - t).toNat else if 0 ≤ t ∧ t ≤ 4 then cutL t (t + 1) [120, 121, 122, 117, 118] else []
theorem ft_len (t : Int) : (ft t).length ≤ 2 := by
  unfold ft
  split
  · exact dig_len (by omega)
  · split
    · simp only [cutL, List.length_take]; omega
    · simp
variable {k : Nat}
theorem c49 (hk : 10 ≤ k) {t : Int} : C k 49 [.d (.int .i64 t)] = some [(false, [.d (.str (ft t))])] := by
  obtain ⟨k, rfl⟩ : ∃ j, k = j + 3 := ⟨k - 3, by omega⟩
  rw [F49.run, c78, bB, c78, bB]
  unfold ft
  by_cases h1 : 0 ≤ t ∧ t ≤ 4
  · have hs : inS t (t + 1) 5 = true := by simp only [inS, decide_eq_true_eq]; omega
    rw [decide_eq_true h1, ite'_t rfl, wrap_id (by omega) (by omega), ite'_t hs, if_neg (by omega), if_pos h1]
  · rw [decide_eq_false h1, ite'_f rfl]
    by_cases h2 : -10 ≤ t ∧ t ≤ -1
    · rw [decide_eq_true h2, ite'_t rfl, if_pos h2, wrap_id (by omega) (by omega), c47 (by omega) (by omega) (by omega), bindR_s, resS_s, bindS_s]
    · rw [decide_eq_false h2, ite'_f rfl, if_neg h2, if_neg h1]
theorem c19 (hk : 60 ≤ k) {t : Int} : C k 19 [.d (.int .i64 t)] = some [(false, [.d (.str (ft t))])] := by
  obtain ⟨k, rfl⟩ : ∃ j, k = j + 3 := ⟨k - 3, by omega⟩
  rw [F19.run, c33, bB, c33, bB]
  unfold ft
  by_cases h2 : -10 ≤ t ∧ t ≤ -1
  · rw [decide_eq_true h2, ite'_t rfl, if_pos h2, wrap_id (by omega) (by omega), c18 (by omega) (by unfold inI; omega), bindR_s, resS_s, bindS_s, itoa_nn (by omega)]
  · rw [decide_eq_false h2, ite'_f rfl, if_neg h2]
    by_cases h1 : 0 ≤ t ∧ t ≤ 4
    · have hs : inS t (t + 1) 5 = true := by simp only [inS, decide_eq_true_eq]; omega
      rw [decide_eq_true h1, ite'_nt, wrap_id (by omega) (by omega), ite'_t hs, if_pos h1]
    · rw [decide_eq_false h1, ite'_nf, if_neg h1]
end Go.Proofs.YtjfdcddjheandaaGreatDoor.Q

/-! ZLb -/
namespace Go.Proofs.YtjfdcddjheandaaGreatDoor.Q
open Go Ovi
variable {k : Nat}
/-! ### Skolem values as texts -/
theorem join_snoc {l : List (List UInt8)} (x sep : List UInt8) (h : l ≠ []) : Lib.join (l ++ [x]) sep = Lib.join l sep ++ (sep ++ x) := by
  cases l with
  | nil => exact absurd rfl h
  | cons y r => rw [List.cons_append, Lib.join_cons, Lib.join_cons]; simp [Lib.joinTail]
theorem join_len (xs : List (List UInt8)) (sep : List UInt8) (c : Nat) (h : ∀ x ∈ xs, x.length + sep.length ≤ c) : (Lib.join xs sep).length ≤ c * xs.length := by
  cases xs with
  | nil => simp [Lib.join_nil]
  | cons x r =>
    rw [Lib.join_cons, List.length_append]
    have h0 := h x List.mem_cons_self
    have : (Lib.joinTail sep r).length ≤ c * r.length := by
      have hr : ∀ y ∈ r, y.length + sep.length ≤ c := fun y hy => h y (List.mem_cons_of_mem _ hy)
      clear h
      induction r with
      | nil => simp [Lib.joinTail]
      | cons y r ih =>
        have h1 := hr y List.mem_cons_self
        have h2 := ih (fun z hz => hr z (List.mem_cons_of_mem _ hz))
        simp only [Lib.joinTail, List.map_cons, List.flatten_cons, List.length_append, List.length_cons] at h2 ⊢
        rw [Nat.mul_succ]
        omega
    rw [List.length_cons, Nat.mul_succ]
    omega
def hdT (t : Term) : List UInt8 := 102 :: (Lib.itoa t.1 ++ ft t.2.1)
def tx (ts : List Term) : Nat → Int → List UInt8
  | 0, v => fv v
  | d + 1, v => if isN v then (match ts[(-1 - v).toNat]? with
    | some t => hdT t ++ 40 :: (Lib.join (t.2.2.map (tx ts d)) [44] ++ [41])
    | none => fv v) else fv v
theorem tx_n {ts : List Term} {v : Int} (h : isN v = false ∨ ts[(-1 - v).toNat]? = none) (d : Nat) : tx ts d v = fv v := by
  cases d with
  | zero => rfl
  | succ d =>
    rw [tx]
    rcases h with h | h
    · rw [h]; rfl
    · rw [h]; simp
theorem tx_s {ts : List Term} {v : Int} {t : Term} (h : isN v = true) (ht : ts[(-1 - v).toNat]? = some t) (d : Nat) : tx ts (d + 1) v = hdT t ++ 40 :: (Lib.join (t.2.2.map (tx ts d)) [44] ++ [41]) := by
  rw [tx, h, ht]; rfl
structure SK (ts : List Term) : Prop where
  len : ts.length ≤ 30
  ok : ∀ (i : Nat) t, ts[i]? = some t → good ts i t = true ∧ deepOk ts i t = true
  inn : ∀ t ∈ ts, ∀ z ∈ t.2.2, inI z
theorem SK.term {ts : List Term} (h : SK ts) {i : Nat} {t : Term} (ht : ts[i]? = some t) : (0 ≤ t.1 ∧ t.1 ≤ 4) ∧ (0 ≤ t.2.1 ∧ t.2.1 ≤ 4) ∧ t.2.2.length ≤ 5 ∧ ∀ v ∈ t.2.2, argOk (i : Int) v = true := by
  have := (h.ok i t ht).1
  simp only [good, termOk, Bool.and_eq_true, decide_eq_true_eq, List.all_eq_true] at this
  exact ⟨this.1.1, this.1.2.1, by omega, this.1.2.2.2⟩
theorem SK.deep {ts : List Term} (h : SK ts) {i : Nat} {t : Term} (ht : ts[i]? = some t) : most (DD ts i) t.2.2 + 1 ≤ 8 := by
  have := (h.ok i t ht).2
  simpa only [deepOk, decide_eq_true_eq] using this
theorem DD_get {ts : List Term} {i : Nat} {t : Term} (ht : ts[i]? = some t) : ∀ {j : Nat}, i < j → j ≤ ts.length → (DD ts j)[i]? = some (most (DD ts i) t.2.2 + 1)
  | 0, h, _ => absurd h (Nat.not_lt_zero _)
  | j + 1, h, hj => by
    have hjl : j < ts.length := by omega
    rw [DD_succ (List.getElem?_eq_getElem hjl)]
    have hl := DD_len (ts := ts) (i := j) (by omega)
    by_cases e : i = j
    · subst e
      rw [List.getElem?_append_right (by omega), hl]
      rw [List.getElem?_eq_getElem hjl] at ht
      cases ht
      simp
    · rw [List.getElem?_append_left (by omega)]
      exact DD_get ht (by omega) (by omega)
/-- how deep a value is -/
def dp (ts : List Term) (v : Int) (d : Nat) : Prop := isN v = true → ∀ t, ts[(-1 - v).toNat]? = some t → most (DD ts (-1 - v).toNat) t.2.2 + 1 ≤ (d : Int)
theorem SK.top {ts : List Term} (h : SK ts) (v : Int) : dp ts v 8 := fun _ t ht => h.deep ht
theorem dp_zero {ts : List Term} {v : Int} (h : dp ts v 0) (hn : isN v = true) : ts[(-1 - v).toNat]? = none := by
  cases e : ts[(-1 - v).toNat]? with
  | none => rfl
  | some t =>
    have := h hn t e
    have h0 : 0 ≤ most (DD ts (-1 - v).toNat) t.2.2 := (fold_max (fun w : Int => (DD ts (-1 - v).toNat).getD (-1 - w).toNat 0) (t.2.2.filter isN) 0).1
    omega
theorem SK.args {ts : List Term} (h : SK ts) {i : Nat} {t : Term} (ht : ts[i]? = some t) {d : Nat} (hd : most (DD ts i) t.2.2 + 1 ≤ ((d + 1 : Nat) : Int)) : ∀ z ∈ t.2.2, inI z ∧ dp ts z d := by
  intro z hz
  refine ⟨h.inn t (List.mem_of_getElem? ht) z hz, fun hn u hu => ?_⟩
  have ha := (h.term ht).2.2.2 z hz
  have hn' := isN_t hn
  simp only [argOk, hn, Bool.true_and, Bool.and_eq_true, Bool.not_eq_true', decide_eq_false_iff_not] at ha
  have hi := (List.getElem?_eq_some_iff.1 ht).1
  have hm := (fold_max (fun w : Int => (DD ts i).getD (-1 - w).toNat 0) (t.2.2.filter isN) 0).2.1 z (List.mem_filter.2 ⟨hz, hn⟩)
  have hg := DD_get hu (j := i) (by omega) (by omega)
  rw [List.getD_eq_getElem?_getD, hg] at hm
  have hm : most (DD ts (-1 - z).toNat) u.2.2 + 1 ≤ most (DD ts i) t.2.2 := hm
  omega
theorem hd_len {t : Term} (h : 0 ≤ t.1 ∧ t.1 ≤ 4) : (hdT t).length ≤ 5 ∧ (Lib.itoa t.1).length ≤ 2 := by
  have h1 : (Lib.itoa t.1).length ≤ 2 := by rw [itoa_nn h.1]; exact dig_len (by omega)
  have h2 := ft_len t.2.1
  unfold hdT
  simp only [List.length_cons, List.length_append]
  omega
theorem tx_len {ts : List Term} (h : SK ts) : ∀ (d : Nat) (v : Int), (tx ts d v).length ≤ 20 * 6 ^ d
  | 0, v => by have := fv_len v; show (fv v).length ≤ _; omega
  | d + 1, v => by
    have hp : 0 < 6 ^ d := Nat.pow_pos (by omega)
    have e6 : 6 ^ (d + 1) = 6 ^ d * 6 := rfl
    have hf := fv_len v
    by_cases hn : isN v = true
    · cases ht : ts[(-1 - v).toNat]? with
      | none => rw [tx_n (.inr ht)]; omega
      | some t =>
        obtain ⟨h1, _, h5, _⟩ := h.term ht
        have := hd_len h1
        rw [tx_s hn ht]
        have hj := join_len (t.2.2.map (tx ts d)) [44] (20 * 6 ^ d + 1) (fun x hx => by
          obtain ⟨z, _, rfl⟩ := List.mem_map.1 hx
          have := tx_len h d z
          simp only [List.length_singleton]; omega)
        rw [List.length_map] at hj
        have : (20 * 6 ^ d + 1) * t.2.2.length ≤ (20 * 6 ^ d + 1) * 5 := Nat.mul_le_mul_left _ h5
        simp only [List.length_append, List.length_cons, List.length_nil]
        omega
    · rw [tx_n (.inl (by simpa using hn))]; omega
theorem tx_len8 {ts : List Term} (h : SK ts) {d : Nat} (hd : d ≤ 8) (v : Int) : (tx ts d v).length ≤ 33592320 := by
  have := tx_len h d v
  have : 6 ^ d ≤ 6 ^ 8 := Nat.pow_le_pow_right (by omega) hd
  omega
theorem join_len8 {ts : List Term} (h : SK ts) {d : Nat} (hd : d ≤ 8) (zs : List Int) (hz : zs.length ≤ 5) : (Lib.join (zs.map (tx ts d)) [44]).length ≤ 167961605 := by
  have := join_len (zs.map (tx ts d)) [44] 33592321 (fun x hx => by
    obtain ⟨z, _, rfl⟩ := List.mem_map.1 hx
    have := tx_len8 h hd z
    simp only [List.length_singleton]; omega)
  rw [List.length_map] at this
  have : 33592321 * zs.length ≤ 33592321 * 5 := Nat.mul_le_mul_left _ hz
  omega
/-- both answer alike on whether the state is valid -/
theorem validB {a : Ovi.Rows} (ha : Fit Rl (.list 3 a)) (xs : List Atom) (ts : List Term) (hX : ∀ x ∈ xs, ∀ z ∈ x.2, inI z) (hI : ∀ t ∈ ts, ∀ z ∈ t.2.2, inI z) (hl : szR (T1 ts) + ts.length ≤ 1048576) (hs : terms xs + xs.length ≤ 1048576) (hal : a.length ≤ 1048576) :
    ∃ b, (b = true → SK ts) ∧ ∀ k, 2000000 ≤ k → C (k + 10) 16 [.agg [.d (.list 3 a), .d (.list 2 (A1 xs)), .d (.list 3 (T1 ts))]] = bo b ∧ C (k + 10) 23 [.agg [.d (.list 3 a), .d (.list 2 (A1 xs)), .d (.list 3 (T1 ts))]] = bo b := by
  obtain ⟨ib, _, hib⟩ := instB ha xs hX hs hal
  have hdec : ∃ b : Bool, b = true ↔ ib = true ∧ lastOk (nulls (vals xs)) (ts.length : Int) = true ∧ ts.length ≤ 30 ∧ ∀ (i : Nat) t, ts[i]? = some t → good ts i t = true ∧ deepOk ts i t = true := by
    by_cases h : ib = true ∧ lastOk (nulls (vals xs)) (ts.length : Int) = true ∧ ts.length ≤ 30 ∧ ∀ (i : Nat) t, ts[i]? = some t → good ts i t = true ∧ deepOk ts i t = true
    · exact ⟨true, by simp only [true_iff]; exact h⟩
    · exact ⟨false, by simp only [Bool.false_eq_true, false_iff]; exact h⟩
  obtain ⟨b, hb⟩ := hdec
  refine ⟨b, fun h => ?_, fun k hk => ⟨?_, ?_⟩⟩
  · obtain ⟨_, _, h3, h4⟩ := hb.1 h
    exact ⟨h3, h4, hI⟩
  · obtain ⟨sb, e, hsb⟩ := c16 (k := k + 1) (a := a) xs ts hX hI (by omega) hl hs (fun k hk => (hib k hk).2)
    rw [e, show sb = b by rw [Bool.eq_iff_iff, hsb, hb]]
  · obtain ⟨tb, e44, htb⟩ := c44 (k := k + 1) ts hI (by omega) hl
    obtain ⟨q9, e43, hq9⟩ := c43 (k := k + 4) a xs hX (by omega) hs ts.length
    rw [F23.run, (hib (k + 1) (by omega)).1, bB, e43, iB', T1_len, hq9, e44, bB]
    have : b = (ib && (lastOk (nulls (vals xs)) (ts.length : Int) && tb)) := by
      rw [Bool.eq_iff_iff, hb, Bool.and_eq_true, Bool.and_eq_true, htb]
    rw [this]
    cases ib <;> cases lastOk (nulls (vals xs)) (ts.length : Int) <;> rfl
theorem snoc_map {zs : List Int} {i : Nat} (h : i < zs.length) (f : Int → List UInt8) : (zs.take (i + 1)).map f = (zs.take i).map f ++ [f zs[i]] := by
  rw [List.take_succ_eq_append_getElem h, List.map_append]; rfl
/-- spec.FormatSkolemValue: the loop over a term's arguments -/
theorem l6 {K n : Nat} {a X deps : Ovi.Rows} {ts : List Term} {t : Term} (ht : ts[n]? = some t) (hK : 100 ≤ K) (hz : t.2.2.length ≤ 5) (f : Int → List UInt8) (hb : ∀ z, (f z).length ≤ 33592320)
    (hf : ∀ z ∈ t.2.2, C K 6 [.agg [.d (.list 3 a), .d (.list 2 X), .d (.list 3 (T1 ts))], .d (.list 5 deps), .d (.int .i64 z)] = some [(false, [.d (.str (f z))])]) (h0 : List UInt8) (hh : h0.length ≤ 100) :
    F6.L6 K (C K) K deps (n : Int) h0 0 a X (T1 ts) = some [(false, [.d (.str (h0 ++ Lib.join (t.2.2.map f) [44] ++ [41]))])] := by
  have hmax : (1048576 : Nat) ≤ maxLen := by decide
  have hn := (List.getElem?_eq_some_iff.1 ht).1
  have hjl : ∀ i, i ≤ t.2.2.length → (Lib.join ((t.2.2.take i).map f) [44]).length ≤ 167961605 := by
    intro i hi
    have := join_len ((t.2.2.take i).map f) [44] 33592321 (fun x hx => by
      obtain ⟨z, _, rfl⟩ := List.mem_map.1 hx
      have := hb z
      simp only [List.length_singleton]; omega)
    rw [List.length_map, List.length_take] at this
    have : 33592321 * min i t.2.2.length ≤ 33592321 * 5 := Nat.mul_le_mul_left _ (by omega)
    omega
  have main : ∀ (m i j : Nat), i + m = t.2.2.length → m < j → F6.L6 K (C K) j deps (n : Int) (h0 ++ Lib.join ((t.2.2.take i).map f) [44]) (i : Int) a X (T1 ts) = some [(false, [.d (.str (h0 ++ Lib.join (t.2.2.map f) [44] ++ [41]))])] := by
    intro m
    induction m with
    | zero =>
      intro i j hm hj
      obtain ⟨j, rfl⟩ : ∃ q, j = q + 1 := ⟨j - 1, by omega⟩
      obtain rfl : i = t.2.2.length := by omega
      have := hjl t.2.2.length (Nat.le_refl _)
      rw [F6.L6.succ, T1_len, ite'_t (inR_t hn), T1_2 ht, bindL_s, I1_len, ite'_f (lt_f (by omega)), ite'_t (fits_t (by rw [List.length_append]; omega)), List.take_length]
    | succ m ih =>
      intro i j hm hj
      obtain ⟨j, rfl⟩ : ∃ q, j = q + 1 := ⟨j - 1, by omega⟩
      have hi : i < t.2.2.length := by omega
      have hx := List.getElem?_eq_getElem hi
      have hmem := List.getElem_mem hi
      have hl1 := hjl i (by omega)
      have hb1 := hb (t.2.2[i])
      have := ih (i + 1) j (by omega) (by omega)
      rw [snoc_map hi] at this
      rw [F6.L6.succ, T1_len, ite'_t (inR_t hn), T1_2 ht, bindL_s, I1_len, ite'_t (lt_t hi)]
      by_cases h00 : i = 0
      · subst h00
        rw [ite'_f (by decide), ite'_t (inR_t hn), bindL_s, I1_len, ite'_t (inR_t hi), I1_c hx, bindI_s, hf _ hmem]
        simp only [bindR_s, resS_s, bindS_s]
        rw [ite'_t (fits_t (by rw [List.length_append]; omega)), next_i hi (m := t.2.2.length) (by omega), ← this]
        simp [Lib.join_nil, Lib.join_one]
      · rw [ite'_t (by simp; omega), ite'_t (fits_t (by rw [List.length_append]; omega)), ite'_t (inR_t hn), bindL_s, I1_len, ite'_t (inR_t hi), I1_c hx, bindI_s, hf _ hmem]
        simp only [bindR_s, resS_s, bindS_s]
        rw [ite'_t (fits_t (by simp only [List.length_append, List.length_cons, List.length_nil]; omega)), next_i hi (m := t.2.2.length) (by omega), ← this, join_snoc _ _ (by intro e; have := congrArg List.length e; simp only [List.length_map, List.length_take, List.length_nil] at this; omega)]
        simp only [List.append_assoc]
  have := main t.2.2.length 0 K (by omega) (by omega)
  rw [List.take_zero, List.map_nil, Lib.join_nil, List.append_nil] at this
  exact this
/-- spec.FormatSkolemValue -/
theorem spec_tx {a X deps : Ovi.Rows} {ts : List Term} (hv : ∀ k, 2000000 ≤ k → C (k + 10) 16 [.agg [.d (.list 3 a), .d (.list 2 X), .d (.list 3 (T1 ts))]] = bo true) (hS : SK ts) (hk : 2000000 ≤ k) :
    ∀ (d : Nat), d ≤ 8 → ∀ v, inI v → dp ts v d → C (k + 12 + d) 6 [.agg [.d (.list 3 a), .d (.list 2 X), .d (.list 3 (T1 ts))], .d (.list 5 deps), .d (.int .i64 v)] = some [(false, [.d (.str (tx ts d v))])] := by
  have pre : ∀ (K : Nat) (v : Int), 2000011 ≤ K → inI v → C (K + 1) 6 [.agg [.d (.list 3 a), .d (.list 2 X), .d (.list 3 (T1 ts))], .d (.list 5 deps), .d (.int .i64 v)] = (match isN v, ts[(-1 - v).toNat]? with
      | true, some t => F6.L6 K (C K) K deps ((-1 - v).toNat : Int) (hdT t ++ [40]) 0 a X (T1 ts)
      | _, _ => some [(false, [.d (.str (fv v))])]) := by
    intro K v hK hi
    obtain ⟨K', rfl⟩ : ∃ q, K = q + 11 := ⟨K - 11, by omega⟩
    rw [F6.run, c15 (k := K' + 9) hi, nnB]
    cases hn : isN v with
    | false =>
      rw [ite'_nf, c17 (by omega) hi]
      rfl
    | true =>
      have hn' := isN_t hn
      rw [ite'_nt, hv (K' + 1) (by omega), bB, ite'_nt, if_pos rfl, T1_len]
      obtain ⟨n, hn2⟩ : ∃ n : Nat, -1 - v = (n : Int) := ⟨(-1 - v).toNat, by omega⟩
      rw [hn2, Int.toNat_natCast]
      cases ht : ts[n]? with
      | none =>
        have := List.getElem?_eq_none_iff.1 ht
        rw [ite'_t (by simp; omega), c17 (by omega) hi]
        rfl
      | some t =>
        have hnl := (List.getElem?_eq_some_iff.1 ht).1
        obtain ⟨q1, q2, q3, _⟩ := hS.term ht
        obtain ⟨g1, g2⟩ := hd_len q1
        have g3 := ft_len t.2.1
        rw [ite'_f (by simp; omega), ite'_t (inR_t hnl)]
        rw [show (n : Nat) = ((n : Int)).toNat by simp] at *
        rw [Int.toNat_natCast] at *
        rw [show cellI .i64 (T1 ts) n 0 = some t.1 by have := T1_0 ht; rwa [Int.toNat_natCast] at this, bindI_s, c18 (by omega) (by unfold inI; omega)]
        simp only [bindR_s, resS_s, bindS_s]
        rw [ite'_t (fits_t (by omega)), ite'_t (inR_t hnl), show cellI .i64 (T1 ts) n 1 = some t.2.1 by have := T1_1 ht; rwa [Int.toNat_natCast] at this, bindI_s, c19 (by omega)]
        simp only [bindR_s, resS_s, bindS_s]
        rw [ite'_t (fits_t (by simp only [List.length_append, List.length_singleton]; omega)), ite'_t (fits_t (by simp only [List.length_append, List.length_singleton]; omega))]
        simp only [hdT, List.append_eq, List.nil_append, List.cons_append]
  intro d
  induction d with
  | zero =>
    intro _ v hi hd
    rw [show k + 12 + 0 = (k + 11) + 1 from rfl, pre (k + 11) v (by omega) hi]
    cases hn : isN v with
    | false => rfl
    | true => rw [dp_zero hd hn]; rfl
  | succ d ih =>
    intro h8 v hi hd
    rw [show k + 12 + (d + 1) = (k + 12 + d) + 1 from rfl, pre (k + 12 + d) v (by omega) hi]
    cases hn : isN v with
    | false => rw [tx_n (.inl hn)]
    | true =>
      cases ht : ts[(-1 - v).toNat]? with
      | none => rw [tx_n (.inr ht)]
      | some t =>
        obtain ⟨q1, q2, q3, _⟩ := hS.term ht
        have hargs := hS.args ht (d := d) (hd hn t ht)
        rw [tx_s hn ht]
        have := l6 (K := k + 12 + d) (a := a) (X := X) (deps := deps) ht (by omega) q3 (tx ts d) (tx_len8 hS (by omega)) (fun z hz => ih (by omega) z (hargs z hz).1 (hargs z hz).2) (hdT t ++ [40]) (by have := hd_len q1; simp only [List.length_append, List.length_singleton]; omega)
        simp only
        rw [this]
        simp
end Go.Proofs.YtjfdcddjheandaaGreatDoor.Q

/-! ZMb -/
namespace Go.Proofs.YtjfdcddjheandaaGreatDoor.Q
open Go Ovi
variable {k : Nat}
/-- impl.formatTerms, one call deep -/
theorem f25 {K : Nat} {a X : Ovi.Rows} {ts : List Term} (hS : SK ts) (hK : 100 ≤ K) {d : Nat} (hd8 : d ≤ 8) (zs : List Int) (hz : zs.length ≤ 5) (hI : ∀ z ∈ zs, inI z ∧ dp ts z d)
    (hrec : ∀ e, d = e + 1 → ∀ ys : List Int, ys.length ≤ 5 → (∀ z ∈ ys, inI z ∧ dp ts z e) → C K 25 [.agg [.d (.list 3 a), .d (.list 2 X), .d (.list 3 (T1 ts))], .d (.list 1 (I1 ys))] = some [(false, [.d (.str (40 :: (Lib.join (ys.map (tx ts e)) [44] ++ [41])))])]) :
    C (K + 1) 25 [.agg [.d (.list 3 a), .d (.list 2 X), .d (.list 3 (T1 ts))], .d (.list 1 (I1 zs))] = some [(false, [.d (.str (40 :: (Lib.join (zs.map (tx ts d)) [44] ++ [41])))])] := by
  have hmax : (1048576 : Nat) ≤ maxLen := by decide
  obtain ⟨K', rfl⟩ : ∃ q, K = q + 3 := ⟨K - 3, by omega⟩
  have one : ∀ (i j : Nat) (h : i < zs.length), F25.L3 (K' + 3) (C (K' + 3)) (j + 1) (I1 zs) (zs.length : Int) (i : Int) a X (T1 ts) (Ovi.T1 ((zs.take i).map (tx ts d))) = F25.L3 (K' + 3) (C (K' + 3)) j (I1 zs) (zs.length : Int) ((i + 1 : Nat) : Int) a X (T1 ts) (Ovi.T1 ((zs.take (i + 1)).map (tx ts d))) := by
    intro i j hi
    have hx := List.getElem?_eq_getElem hi
    have hmem := List.getElem_mem hi
    obtain ⟨hin, hdp⟩ := hI _ hmem
    have hlen : (Ovi.T1 ((zs.take i).map (tx ts d))).length = i := by rw [Ovi.T1_len, List.length_map, List.length_take]; omega
    rw [F25.L3.succ, I1_len, ite'_t (lt_t hi), ite'_t (inR_t hi), I1_c hx, bindI_s, c24 (by omega) hin]
    simp only [bindR_s, resS_s, bindS_s]
    rw [c48 (k := K' + 1) hin, nnB, next_i hi (m := zs.length) (by omega), snoc_map hi, ← T1_snoc]
    cases hn : isN zs[i] with
    | false =>
      rw [ite'_f rfl, ite'_t (fits_t (by rw [hlen]; simp; omega)), tx_n (.inl hn)]
    | true =>
      have hn' := isN_t hn
      obtain ⟨n, hn2⟩ : ∃ n : Nat, -1 - zs[i] = (n : Int) := ⟨(-1 - zs[i]).toNat, by omega⟩
      rw [ite'_t rfl, if_pos rfl, hn2, T1_len]
      have hnn : (-1 - zs[i]).toNat = n := by omega
      cases ht : ts[n]? with
      | none =>
        have := List.getElem?_eq_none_iff.1 ht
        rw [ite'_f (lt_f (by omega)), ite'_t (fits_t (by rw [hlen]; simp; omega)), tx_n (.inr (by rw [hnn]; exact ht))]
      | some t =>
        have hnl := (List.getElem?_eq_some_iff.1 ht).1
        have ht' : ts[(-1 - zs[i]).toNat]? = some t := by rw [hnn]; exact ht
        obtain ⟨q1, q2, q3, _⟩ := hS.term ht
        obtain ⟨g1, g2⟩ := hd_len q1
        have g3 := ft_len t.2.1
        cases d with
        | zero =>
          have := dp_zero hdp hn
          rw [ht'] at this
          cases this
        | succ e =>
          have hde := hdp hn t ht'
          rw [hnn] at hde
          have hj := join_len8 hS (d := e) (by omega) t.2.2 q3
          rw [ite'_t (lt_t hnl), ite'_t (inR_t hnl), T1_0 ht, bindI_s, T1_1 ht, bindI_s, T1_2 ht, bindL_s, c47i (by omega) (by unfold inI; omega)]
          simp only [bindR_s, resS_s, bindS_s]
          rw [ite'_t (fits_t (by omega)), c49 (by omega)]
          simp only [bindR_s, resS_s, bindS_s]
          rw [ite'_t (fits_t (by simp only [List.length_append, List.length_cons, List.length_nil]; omega)), hrec e rfl t.2.2 q3 (hS.args ht hde)]
          simp only [bindR_s, resS_s, bindS_s]
          rw [ite'_t (fits_t (by simp only [List.length_append, List.length_cons, List.length_nil]; omega)), ite'_t (fits_t (by rw [hlen]; simp; omega)), tx_s hn ht']
          simp only [hdT, List.cons_append, List.nil_append, List.append_assoc]
  have main : ∀ (m i j : Nat), i + m = zs.length → m < j → F25.L3 (K' + 3) (C (K' + 3)) j (I1 zs) (zs.length : Int) (i : Int) a X (T1 ts) (Ovi.T1 ((zs.take i).map (tx ts d))) = some [(false, [.d (.str (40 :: (Lib.join (zs.map (tx ts d)) [44] ++ [41])))])] := by
    intro m
    induction m with
    | zero =>
      intro i j hm hj
      obtain ⟨j, rfl⟩ : ∃ q, j = q + 1 := ⟨j - 1, by omega⟩
      obtain rfl : i = zs.length := by omega
      have hl := join_len8 hS hd8 zs hz
      rw [F25.L3.succ, ite'_f (lt_f (by omega)), List.take_length, c50 (K' + 2) (by rw [List.length_map]; omega) (by omega)]
      simp only [bindR_s, resS_s, bindS_s]
      rw [ite'_t (fits_t (by omega)), ite'_t (fits_t (by simp only [List.length_append, List.length_cons, List.length_nil]; omega))]
      rfl
    | succ m ih =>
      intro i j hm hj
      obtain ⟨j, rfl⟩ : ∃ q, j = q + 1 := ⟨j - 1, by omega⟩
      rw [one i j (by omega)]
      exact ih (i + 1) j (by omega) (by omega)
  rw [F25.run, I1_len]
  exact main zs.length 0 (K' + 3) (by omega) (by omega)
/-- impl.formatTerms -/
theorem impl_tx {a X : Ovi.Rows} {ts : List Term} (hS : SK ts) (hk : 100 ≤ k) : ∀ (d : Nat), d ≤ 8 → ∀ zs : List Int, zs.length ≤ 5 → (∀ z ∈ zs, inI z ∧ dp ts z d) →
    C (k + 1 + d) 25 [.agg [.d (.list 3 a), .d (.list 2 X), .d (.list 3 (T1 ts))], .d (.list 1 (I1 zs))] = some [(false, [.d (.str (40 :: (Lib.join (zs.map (tx ts d)) [44] ++ [41])))])] := by
  intro d
  induction d with
  | zero =>
    intro _ zs hz hI
    exact f25 (K := k) hS hk (by omega) zs hz hI (fun e he => by omega)
  | succ d ih =>
    intro h8 zs hz hI
    refine f25 (K := k + 1 + d) hS (by omega) h8 zs hz hI (fun e he ys hy hY => ?_)
    obtain rfl : d = e := by omega
    exact ih (by omega) ys hy hY
theorem cut_mid (t : List UInt8) : cutL 1 ((t.length + 1 : Nat) : Int) (40 :: (t ++ [41])) = t := by
  unfold cutL
  rw [show ((1 : Int)).toNat = 1 from rfl, Int.toNat_natCast, List.drop_succ_cons, List.drop_zero, Nat.add_sub_cancel, List.take_left]
/-- both FormatSkolemValue answer alike -/
theorem fsv {a deps : Ovi.Rows} (ha : Fit Rl (.list 3 a)) (xs : List Atom) (ts : List Term) (hX : ∀ x ∈ xs, ∀ z ∈ x.2, inI z) (hI : ∀ t ∈ ts, ∀ z ∈ t.2.2, inI z) (hl : szR (T1 ts) + ts.length ≤ 1048576) (hs : terms xs + xs.length ≤ 1048576) (hal : a.length ≤ 1048576) {v : Int} (hv : inI v) (hk : 2000000 ≤ k) :
    ∃ s, C (k + 20) 6 [.agg [.d (.list 3 a), .d (.list 2 (A1 xs)), .d (.list 3 (T1 ts))], .d (.list 5 deps), .d (.int .i64 v)] = some [(false, [.d (.str s)])] ∧
      C (k + 20) 9 [.agg [.d (.list 3 a), .d (.list 2 (A1 xs)), .d (.list 3 (T1 ts))], .d (.list 5 deps), .d (.int .i64 v)] = some [(false, [.d (.str s)])] := by
  have hmax : (1048576 : Nat) ≤ maxLen := by decide
  obtain ⟨b, hb, hvb⟩ := validB ha xs ts hX hI hl hs hal
  cases b with
  | false =>
    refine ⟨fv v, ?_, ?_⟩
    · rw [F6.run, c15 (k := k + 17) hv, nnB]
      cases hn : isN v with
      | false => rw [ite'_nf, c17 (by omega) hv]; rfl
      | true => rw [ite'_nt, (hvb (k + 9) (by omega)).1, bB, ite'_nf, c17 (by omega) hv]; rfl
    · rw [F9.run, (hvb (k + 9) (by omega)).2, bB, ite'_nf, c24 (by omega) hv]; rfl
  | true =>
    have hS := hb rfl
    refine ⟨tx ts 8 v, spec_tx (k := k) (fun k hk => (hvb k hk).1) hS hk 8 (Nat.le_refl _) v hv (hS.top v), ?_⟩
    have hl := tx_len8 hS (Nat.le_refl 8) v
    have e25 : C (k + 19) 25 [.agg [.d (.list 3 a), .d (.list 2 (A1 xs)), .d (.list 3 (T1 ts))], .d (.list 1 [[.int .i64 v]])] = some [(false, [.d (.str (40 :: (tx ts 8 v ++ [41])))])] := by
      have := impl_tx (k := k + 10) (a := a) (X := A1 xs) hS (by omega) 8 (Nat.le_refl _) [v] (by simp) (fun z hz => by
        obtain rfl := List.mem_singleton.1 hz
        exact ⟨hv, hS.top _⟩)
      rw [List.map_cons, List.map_nil, Lib.join_one] at this
      exact this
    have hw : IntKind.i64.wrap (((40 :: (tx ts 8 v ++ [41]) : List UInt8).length : Int) - 1) = (((tx ts 8 v).length + 1 : Nat) : Int) := by
      simp only [List.length_cons, List.length_append, List.length_nil]
      rw [wrap_id (by omega) (by omega)]
      omega
    rw [F9.run, (hvb (k + 9) (by omega)).2, bB, ite'_nt, e25]
    simp only [bindR_s, resS_s, bindS_s]
    rw [hw, cut_mid, ite'_t (by simp only [inS, decide_eq_true_eq, List.length_cons, List.length_append, List.length_nil]; omega)]
theorem sz_atoms {xs : List Atom} : szD (.list 2 (A1 xs)) = xs.length + terms xs := by
  show (A1 xs).length + szR (A1 xs) = _
  rw [A1_len, szR_A1]
  rfl
theorem sz_rels {a : Ovi.Rows} : a.length ≤ szD (.list 3 a) := by
  show a.length ≤ a.length + szR a
  omega
def At : Ty := .list [.int .i64, .list [.int .i64]]
def Dp : Ty := .list [.list [.int .i64, .list [.int .i64]], .list [.int .i64, .list [.int .i64]], .bool, .int .i64, .int .i64]
theorem law3 (hk : 3000000 ≤ k) {a b c d : Ovi.Rows} {v : Int} (h1 : Fit Rl (.list 3 a)) (h2 : Fit At (.list 2 b)) (h3 : Fit Tm1 (.list 3 c)) (h4 : Fit Dp (.list 5 d)) (hv : inI v) : C k 3 [.agg [.d (.list 3 a), .d (.list 2 b), .d (.list 3 c)], .d (.list 5 d), .d (.int .i64 v)] = bo true := by
  obtain ⟨k, rfl⟩ : ∃ j, k = j + 21 := ⟨k - 21, by omega⟩
  rw [F3.run, c4 (k := k + 20) (by omega) h1 h2 h3 (by omega) (by omega)]
  simp only [bindR_s, resI_s, bindI_s]
  rcases szT_cases 1048576 (szC [.list 3 a, .list 2 b, .list 3 c]) with ⟨q1, e1⟩ | ⟨q1, e1⟩ <;> rw [e1]
  rotate_left
  · rw [ite'_t neg_t]; rfl
  rw [ite'_f (neg_f (by omega)), c5 (k := k + 20) (by omega) h4 (by omega) (by omega)]
  simp only [bindR_s, resI_s, bindI_s]
  rcases szT_cases (1048576 - ((szC [.list 3 a, .list 2 b, .list 3 c] : Nat) : Int)) (szD (.list 5 d)) with ⟨q2, e2⟩ | ⟨q2, e2⟩ <;> rw [e2]
  rotate_left
  · rw [ite'_t neg_t]; rfl
  have p1 := q1
  simp only [szC] at p1
  have s0 : szD (.list 3 a) ≤ 1048576 := by omega
  have s1 : szD (.list 2 b) ≤ 1048576 := by omega
  have s2 : szD (.list 3 c) ≤ 1048576 := by omega
  have s3 : szD (.list 5 d) ≤ 1048576 := by omega
  rw [ite'_f (neg_f (by omega)), c7 (k := k + 20) (by omega) h1 h2 h3 s0 s1 s2, c8 (k := k + 20) (by omega) h4 s3]
  simp only [bindR_s, F7x0, F7x1, F7x2, resO_s, bindL_s]
  obtain ⟨xs, rfl, hX⟩ := h2.atoms'
  obtain ⟨ts, rfl, hI⟩ := terms' h3
  have s1' := s1
  rw [sz_atoms] at s1'
  have s2' : szR (T1 ts) + ts.length ≤ 1048576 := by have := s2; simp only [szD, T1_len] at this; omega
  obtain ⟨s, g1, g2⟩ := fsv (k := k) (deps := d) h1 xs ts (fun x hx => (hX x hx).2) hI s2' (by omega) (Nat.le_trans sz_rels s0) hv (by omega)
  rw [g1]
  simp only [bindR_s, resS_s, bindS_s]
  rw [g2]
  simp only [bindR_s, resS_s, bindS_s]
  rw [ite'_f (by simp), c10 (k := k + 20) (by omega) h1 h2 h3 s0 s1 s2, c11 (k := k + 20) (by omega) h4 s3]
  rfl
end Go.Proofs.YtjfdcddjheandaaGreatDoor.Q

/-
What the functions compute: copies, sizes, comparisons, atoms, variables, instances; both programs answer alike. No condition.
-/
import Derived.Test.YtekcjghbfbfmpaaQa
import Derived.Test.YtekcjghbfbfmpaaQb
import Derived.Test.YtekcjghbfbfmpaaOb
set_option linter.unusedVariables false
set_option linter.unusedSimpArgs false
/-! Ga -/
namespace Go.Proofs.Ytekcjghbfbfmpaa.Q
open Go Ovi
/-- laws.toIntS -/
theorem l29 {k : Nat} (hk : 2000000 ≤ k) {a : Ovi.Rows} (ha : Fit (.list [.int .i64]) (.list 1 a)) (hs : szR a ≤ 1048576) : ∀ (m i n : Nat) (v : Ovi.Rows), Filled a v i 1 → i + m = a.length → m < n → F29.L3 k (C k) n a (i : Int) v = some [(false, [.row 3 1 a])] := by
  have hlen := ha.len
  intro m; induction m with
  | zero =>
    intro i n v hv hm hn
    obtain ⟨n, rfl⟩ : ∃ j, n = j + 1 := ⟨n - 1, by omega⟩
    obtain rfl : i = a.length := by omega
    rw [F29.L3.succ, ite'_f (lt_f (by omega)), hv.done]
  | succ m ih =>
    intro i n v hv hm hn
    obtain ⟨n, rfl⟩ : ∃ j, n = j + 1 := ⟨n - 1, by omega⟩
    obtain ⟨row, hr, hfr, hdr⟩ := ha.row (i := i) (by omega)
    obtain ⟨d0, rr0, rfl, hd0, hfr0⟩ := Fits.cons hfr
    obtain ⟨x0, rfl, wx0⟩ := hd0.int
    obtain rfl := Fits.nil hfr0
    have hst := hv.step hr rfl
    have hvl := hv.1
    have hszr := szR_at hr
    rw [F29.L3.succ, ite'_t (lt_t (by omega)), ite'_t (inR_t (by omega))]
    simp only [Int.toNat_natCast, cellI_at hr, cellB_at hr, cellS_at hr, cellL_at hr]
    simp only [List.getElem?_cons_zero, List.getElem?_cons_succ, Option.bind_some, asI_s, asB_s, asS_s, asL_s, bindI_s, bindB_s, bindS_s, bindL_s, bindR_s, resI_s, resB_s, resS_s, resO_s, bne_self_eq_false, beq_self_eq_true, Bool.not_true]
    rw [ite'_t (inR_t (by omega)), wrap_succ (m := a.length) (by omega) (by omega) hlen]
    rw [show ((i : Int) + 1) = ((i + 1 : Nat) : Int) by omega]
    exact ih (i + 1) n _ hst (by omega) (by omega)
theorem c29 {k : Nat} (hk : 2000001 ≤ k) {a : Ovi.Rows} (ha : Fit (.list [.int .i64]) (.list 1 a)) (hs : szD (.list 1 a) ≤ 1048576) : C k 29 [.d (.list 1 a)] = some [(false, [.row 3 1 a])] := by
  obtain ⟨k, rfl⟩ : ∃ j, k = j + 1 := ⟨k - 1, by omega⟩
  simp only [szD] at hs
  rw [F29.run, ite'_t (beq_t _), ite'_t (inM_t (by omega))]
  exact l29 (k := k) (by omega) ha (by omega) a.length 0 k _ (Filled.start a _) (by omega) (by omega)
/-- laws.eqIntS -/
theorem l32 {k : Nat} (hk : 2000000 ≤ k) {a : Ovi.Rows} (ha : Fit (.list [.int .i64]) (.list 1 a)) (hs : szR a ≤ 1048576) : ∀ (m i n : Nat), i + m = a.length → m < n → F32.L4 k (C k) n a a (i : Int) = some [(false, [.d (.bool true)])] := by
  have hlen := ha.len
  intro m; induction m with
  | zero =>
    intro i n hm hn
    obtain ⟨n, rfl⟩ : ∃ j, n = j + 1 := ⟨n - 1, by omega⟩
    rw [F32.L4.succ, ite'_f (lt_f (by omega))]
  | succ m ih =>
    intro i n hm hn
    obtain ⟨n, rfl⟩ : ∃ j, n = j + 1 := ⟨n - 1, by omega⟩
    obtain ⟨row, hr, hfr, hdr⟩ := ha.row (i := i) (by omega)
    obtain ⟨d0, rr0, rfl, hd0, hfr0⟩ := Fits.cons hfr
    obtain ⟨x0, rfl, wx0⟩ := hd0.int
    obtain rfl := Fits.nil hfr0
    have hszr := szR_at hr
    rw [F32.L4.succ, ite'_t (lt_t (by omega)), ite'_t (inR_t (by omega))]
    simp only [Int.toNat_natCast, cellI_at hr, cellB_at hr, cellS_at hr, cellL_at hr]
    simp only [List.getElem?_cons_zero, List.getElem?_cons_succ, Option.bind_some, asI_s, asB_s, asS_s, asL_s, bindI_s, bindB_s, bindS_s, bindL_s, bindR_s, resI_s, resB_s, resS_s, resO_s, bne_self_eq_false, beq_self_eq_true, Bool.not_true]
    rw [ite'_t (inR_t (by omega))]
    rw [ite'_f rfl, wrap_succ (m := a.length) (by omega) (by omega) hlen]
    rw [show ((i : Int) + 1) = ((i + 1 : Nat) : Int) by omega]
    exact ih (i + 1) n (by omega) (by omega)
theorem c32 {k : Nat} (hk : 2000001 ≤ k) {a : Ovi.Rows} (ha : Fit (.list [.int .i64]) (.list 1 a)) (hs : szD (.list 1 a) ≤ 1048576) : C k 32 [.d (.list 1 a), .d (.list 1 a)] = some [(false, [.d (.bool true)])] := by
  obtain ⟨k, rfl⟩ : ∃ j, k = j + 1 := ⟨k - 1, by omega⟩
  simp only [szD] at hs
  rw [F32.run, ite'_f (bne_f _)]
  exact l32 (k := k) (by omega) ha (by omega) a.length 0 k (by omega) (by omega)
/-- laws.szIntS -/
theorem c52 {k : Nat} (hk : 2000001 ≤ k) {a : Ovi.Rows} (ha : Fit (.list [.int .i64]) (.list 1 a)) {left : Int} (h0 : 0 ≤ left) (h1 : left ≤ 1048576) : C k 52 [.d (.list 1 a), .d (.int .i64 left)] = some [(false, [.d (.int .i64 (szT left (szD (.list 1 a))))])] := by
  obtain ⟨k, rfl⟩ : ∃ j, k = j + 1 := ⟨k - 1, by omega⟩
  have hlen := ha.len; unfold maxLen at hlen
  have hz : szR a = 0 := by
    clear hlen h0 h1
    induction a with
    | nil => rfl
    | cons r rs ih =>
      simp only [Fit, List.length_cons, List.mem_cons, forall_eq_or_imp] at ha
      obtain ⟨q1, q2, hfr, q4⟩ := ha
      obtain ⟨d0, rr0, rfl, hd0, hfr0⟩ := Fits.cons hfr
      obtain ⟨x0, rfl, wx0⟩ := hd0.int
      obtain rfl := Fits.nil hfr0
      simp only [szR, szC, szD]
      rw [ih (by simp only [Fit]; exact ⟨q1, by omega, q4⟩)]
  rw [F52.run, wrap_id (by omega) (by omega)]
  simp only [szD, hz, Nat.add_zero]
  rcases szT_cases left a.length with ⟨q, e⟩ | ⟨q, e⟩ <;> rw [e]
  · rw [ite'_f (neg_f (by omega))]
  · rw [ite'_t (by simp only [decide_eq_true_eq]; omega)]
/-- laws.szRelation -/
theorem c61 {k : Nat} (hk : 2000001 ≤ k) {a0 : List UInt8} (ha0 : a0.length ≤ maxLen) {a1 : Int} {a2 : Bool} {left : Int} (h0 : 0 ≤ left) (h1 : left ≤ 1048576) : C k 61 [.agg [.d (.str a0), .d (.int .i64 a1), .d (.bool a2)], .d (.int .i64 left)] = some [(false, [.d (.int .i64 (szT left (szC [.str a0, .int .i64 a1, .bool a2])))])] := by
  obtain ⟨k, rfl⟩ : ∃ j, k = j + 1 := ⟨k - 1, by omega⟩
  have eT : szC [.str a0, .int .i64 a1, .bool a2] = ((a0.length : Nat)) := by simp only [szC, szD] <;> omega
  rw [eT, F61.run]
  unfold maxLen at ha0
  rw [wrap_id (n := left - (a0.length : Int)) (by omega) (by omega)]
  rcases szT_cases (left) ((a0.length : Nat)) with ⟨q0, e0⟩ | ⟨q0, e0⟩
  rotate_left
  · rw [ite'_t (by simp only [decide_eq_true_eq]; omega)] <;> first | rfl | rw [szT_neg (by omega)]
  rw [ite'_f (neg_f (by omega))] <;> first | rfl | (rw [szT_pos (by omega)] <;> (congr 6 <;> omega))
/-- laws.toRelation -/
theorem F66x0 {a0 : List UInt8} {a1 : Int} {a2 : Bool} : resS 1 true 3 [(true, [.d (.str a0), .d (.int .i64 a1), .d (.bool a2)])] 0 0 = some a0 := rfl
theorem F66x1 {a0 : List UInt8} {a1 : Int} {a2 : Bool} : resI .i64 1 true 3 [(true, [.d (.str a0), .d (.int .i64 a1), .d (.bool a2)])] 0 1 = some a1 := rfl
theorem F66x2 {a0 : List UInt8} {a1 : Int} {a2 : Bool} : resB 1 true 3 [(true, [.d (.str a0), .d (.int .i64 a1), .d (.bool a2)])] 0 2 = some a2 := rfl
theorem c66 {k : Nat} (hk : 2000001 ≤ k) {a0 : List UInt8} (ha0 : a0.length ≤ maxLen) {a1 : Int} {a2 : Bool}  : C k 66 [.agg [.d (.str a0), .d (.int .i64 a1), .d (.bool a2)]] = some [(true, [.d (.str a0), .d (.int .i64 a1), .d (.bool a2)])] := by
  obtain ⟨k, rfl⟩ : ∃ j, k = j + 1 := ⟨k - 1, by omega⟩
  rw [F66.run]
/-- laws.eqRelation -/
theorem c72 {k : Nat} (hk : 2000001 ≤ k) {a0 : List UInt8} (ha0 : a0.length ≤ maxLen) {a1 : Int} {a2 : Bool}  : C k 72 [.agg [.d (.str a0), .d (.int .i64 a1), .d (.bool a2)], .agg [.d (.str a0), .d (.int .i64 a1), .d (.bool a2)]] = some [(false, [.d (.bool true)])] := by
  obtain ⟨k, rfl⟩ : ∃ j, k = j + 1 := ⟨k - 1, by omega⟩
  rw [F72.run]
  simp only [List.getElem?_cons_zero, List.getElem?_cons_succ, Option.bind_some, asI_s, asB_s, asS_s, asL_s, bindI_s, bindB_s, bindS_s, bindL_s, bindR_s, resI_s, resB_s, resS_s, resO_s, bne_self_eq_false, beq_self_eq_true, Bool.not_true]
  rfl
/-- laws.szRelationS -/
theorem l16 {k : Nat} (hk : 2000001 ≤ k) {a : Ovi.Rows} (ha : Fit (.list [.str, .int .i64, .bool]) (.list 3 a)) : ∀ (m i n : Nat) (left : Int), 0 ≤ left → left ≤ 1048576 → i + m = a.length → m < n → F16.L5 k (C k) n a left (i : Int) = some [(false, [.d (.int .i64 (szT left (szR (a.drop i))))])] := by
  have hlen := ha.len
  intro m; induction m with
  | zero =>
    intro i n left h0 h1 hm hn
    obtain ⟨n, rfl⟩ : ∃ j, n = j + 1 := ⟨n - 1, by omega⟩
    rw [F16.L5.succ, ite'_f (lt_f (by omega)), List.drop_eq_nil_of_le (by omega)]
    simp only [szR, szT_pos (left := left) (s := 0) (by omega)]
    simp
  | succ m ih =>
    intro i n left h0 h1 hm hn
    obtain ⟨n, rfl⟩ : ∃ j, n = j + 1 := ⟨n - 1, by omega⟩
    obtain ⟨row, hr, hfr, hdr⟩ := ha.row (i := i) (by omega)
    obtain ⟨d0, rr0, rfl, hd0, hfr0⟩ := Fits.cons hfr
    obtain ⟨x0, rfl, hx0⟩ := hd0.str
    obtain ⟨d1, rr1, rfl, hd1, hfr1⟩ := Fits.cons hfr0
    obtain ⟨x1, rfl, wx1⟩ := hd1.int
    obtain ⟨d2, rr2, rfl, hd2, hfr2⟩ := Fits.cons hfr1
    obtain ⟨x2, rfl⟩ := hd2.bool
    obtain rfl := Fits.nil hfr2
    have eR : szR (a.drop i) = szC [.str x0, .int .i64 x1, .bool x2] + szR (a.drop (i + 1)) := by rw [hdr]; rfl
    rw [F16.L5.succ, ite'_t (lt_t (by omega)), ite'_t (inR_t (by omega)), eR]
    simp only [Int.toNat_natCast, cellI_at hr, cellB_at hr, cellS_at hr, cellL_at hr]
    simp only [List.getElem?_cons_zero, List.getElem?_cons_succ, Option.bind_some, asI_s, asB_s, asS_s, asL_s, bindI_s, bindB_s, bindS_s, bindL_s, bindR_s, resI_s, resB_s, resS_s, resO_s, bne_self_eq_false, beq_self_eq_true, Bool.not_true]
    have cc := c61 (k := k) (by omega) (a1 := x1) (a2 := x2) hx0 h0 h1
    rw [cc]
    simp only [List.getElem?_cons_zero, List.getElem?_cons_succ, Option.bind_some, asI_s, asB_s, asS_s, asL_s, bindI_s, bindB_s, bindS_s, bindL_s, bindR_s, resI_s, resB_s, resS_s, resO_s, bne_self_eq_false, beq_self_eq_true, Bool.not_true]
    rcases szT_cases left (szC [.str x0, .int .i64 x1, .bool x2]) with ⟨q, e⟩ | ⟨q, e⟩ <;> rw [e]
    · rw [ite'_f (neg_f (by omega)), wrap_succ (m := a.length) (by omega) (by omega) hlen]
      have := ih (i + 1) n (left - ((szC [.str x0, .int .i64 x1, .bool x2] : Nat) : Int)) (by omega) (by omega) (by omega) (by omega)
      rw [show ((i : Int) + 1) = ((i + 1 : Nat) : Int) by omega, this]
      rcases szT_cases (left - ((szC [.str x0, .int .i64 x1, .bool x2] : Nat) : Int)) (szR (a.drop (i + 1))) with ⟨q2, e2⟩ | ⟨q2, e2⟩ <;> rw [e2]
      · rw [szT_pos (by omega)] <;> (congr 6 <;> omega)
      · rw [szT_neg (by omega)]
    · rw [ite'_t neg_t, szT_neg (by omega)]
theorem c16 {k : Nat} (hk : 2000002 ≤ k) {a : Ovi.Rows} (ha : Fit (.list [.str, .int .i64, .bool]) (.list 3 a)) {left : Int} (h0 : 0 ≤ left) (h1 : left ≤ 1048576) : C k 16 [.d (.list 3 a), .d (.int .i64 left)] = some [(false, [.d (.int .i64 (szT left (szD (.list 3 a))))])] := by
  obtain ⟨k, rfl⟩ : ∃ j, k = j + 1 := ⟨k - 1, by omega⟩
  have hlen := ha.len; unfold maxLen at hlen
  rw [F16.run, wrap_id (by omega) (by omega)]
  have eD : szD (.list 3 a) = a.length + szR a := by simp only [szD]
  rw [eD]
  rcases szT_cases left a.length with ⟨q, e⟩ | ⟨q, e⟩
  · rw [ite'_f (neg_f (by omega))]
    have := l16 (k := k) (by omega) ha a.length 0 k (left - (a.length : Int)) (by omega) (by omega) (by omega) (by omega)
    rw [List.drop_zero] at this
    rw [show ((0 : Int)) = ((0 : Nat) : Int) by rfl, this]
    rcases szT_cases (left - (a.length : Int)) (szR a) with ⟨q2, e2⟩ | ⟨q2, e2⟩ <;> rw [e2]
    · rw [szT_pos (by omega)] <;> (congr 6 <;> omega)
    · rw [szT_neg (by omega)]
  · rw [ite'_t (by simp only [decide_eq_true_eq]; omega), szT_neg (by omega)]
/-- laws.toRelationS -/
theorem l18 {k : Nat} (hk : 2000001 ≤ k) {a : Ovi.Rows} (ha : Fit (.list [.str, .int .i64, .bool]) (.list 3 a)) (hs : szR a ≤ 1048576) : ∀ (m i n : Nat) (v : Ovi.Rows), Filled a v i 3 → i + m = a.length → m < n → F18.L3 k (C k) n a (i : Int) v = some [(false, [.row 104 3 a])] := by
  have hlen := ha.len
  intro m; induction m with
  | zero =>
    intro i n v hv hm hn
    obtain ⟨n, rfl⟩ : ∃ j, n = j + 1 := ⟨n - 1, by omega⟩
    obtain rfl : i = a.length := by omega
    rw [F18.L3.succ, ite'_f (lt_f (by omega)), hv.done]
  | succ m ih =>
    intro i n v hv hm hn
    obtain ⟨n, rfl⟩ : ∃ j, n = j + 1 := ⟨n - 1, by omega⟩
    obtain ⟨row, hr, hfr, hdr⟩ := ha.row (i := i) (by omega)
    obtain ⟨d0, rr0, rfl, hd0, hfr0⟩ := Fits.cons hfr
    obtain ⟨x0, rfl, hx0⟩ := hd0.str
    obtain ⟨d1, rr1, rfl, hd1, hfr1⟩ := Fits.cons hfr0
    obtain ⟨x1, rfl, wx1⟩ := hd1.int
    obtain ⟨d2, rr2, rfl, hd2, hfr2⟩ := Fits.cons hfr1
    obtain ⟨x2, rfl⟩ := hd2.bool
    obtain rfl := Fits.nil hfr2
    have hst := hv.step hr rfl
    have hvl := hv.1
    have hszr := szR_at hr
    rw [F18.L3.succ, ite'_t (lt_t (by omega)), ite'_t (inR_t (by omega))]
    simp only [Int.toNat_natCast, cellI_at hr, cellB_at hr, cellS_at hr, cellL_at hr]
    simp only [List.getElem?_cons_zero, List.getElem?_cons_succ, Option.bind_some, asI_s, asB_s, asS_s, asL_s, bindI_s, bindB_s, bindS_s, bindL_s, bindR_s, resI_s, resB_s, resS_s, resO_s, bne_self_eq_false, beq_self_eq_true, Bool.not_true]
    rw [c66 (k := k) (by omega) (a1 := x1) (a2 := x2) hx0 ]
    simp only [List.getElem?_cons_zero, List.getElem?_cons_succ, Option.bind_some, asI_s, asB_s, asS_s, asL_s, bindI_s, bindB_s, bindS_s, bindL_s, bindR_s, resI_s, resB_s, resS_s, resO_s, bne_self_eq_false, beq_self_eq_true, Bool.not_true]
    simp only [F66x0, F66x1, F66x2]
    simp only [List.getElem?_cons_zero, List.getElem?_cons_succ, Option.bind_some, asI_s, asB_s, asS_s, asL_s, bindI_s, bindB_s, bindS_s, bindL_s, bindR_s, resI_s, resB_s, resS_s, resO_s, bne_self_eq_false, beq_self_eq_true, Bool.not_true]
    rw [ite'_t (inR_t (by omega)), wrap_succ (m := a.length) (by omega) (by omega) hlen]
    rw [show ((i : Int) + 1) = ((i + 1 : Nat) : Int) by omega]
    exact ih (i + 1) n _ hst (by omega) (by omega)
theorem c18 {k : Nat} (hk : 2000002 ≤ k) {a : Ovi.Rows} (ha : Fit (.list [.str, .int .i64, .bool]) (.list 3 a)) (hs : szD (.list 3 a) ≤ 1048576) : C k 18 [.d (.list 3 a)] = some [(false, [.row 104 3 a])] := by
  obtain ⟨k, rfl⟩ : ∃ j, k = j + 1 := ⟨k - 1, by omega⟩
  simp only [szD] at hs
  rw [F18.run, ite'_t (beq_t _), ite'_t (inM_t (by omega))]
  exact l18 (k := k) (by omega) ha (by omega) a.length 0 k _ (Filled.start a _) (by omega) (by omega)
/-- laws.eqRelationS -/
theorem l20 {k : Nat} (hk : 2000001 ≤ k) {a : Ovi.Rows} (ha : Fit (.list [.str, .int .i64, .bool]) (.list 3 a)) (hs : szR a ≤ 1048576) : ∀ (m i n : Nat), i + m = a.length → m < n → F20.L4 k (C k) n a a (i : Int) = some [(false, [.d (.bool true)])] := by
  have hlen := ha.len
  intro m; induction m with
  | zero =>
    intro i n hm hn
    obtain ⟨n, rfl⟩ : ∃ j, n = j + 1 := ⟨n - 1, by omega⟩
    rw [F20.L4.succ, ite'_f (lt_f (by omega))]
  | succ m ih =>
    intro i n hm hn
    obtain ⟨n, rfl⟩ : ∃ j, n = j + 1 := ⟨n - 1, by omega⟩
    obtain ⟨row, hr, hfr, hdr⟩ := ha.row (i := i) (by omega)
    obtain ⟨d0, rr0, rfl, hd0, hfr0⟩ := Fits.cons hfr
    obtain ⟨x0, rfl, hx0⟩ := hd0.str
    obtain ⟨d1, rr1, rfl, hd1, hfr1⟩ := Fits.cons hfr0
    obtain ⟨x1, rfl, wx1⟩ := hd1.int
    obtain ⟨d2, rr2, rfl, hd2, hfr2⟩ := Fits.cons hfr1
    obtain ⟨x2, rfl⟩ := hd2.bool
    obtain rfl := Fits.nil hfr2
    have hszr := szR_at hr
    rw [F20.L4.succ, ite'_t (lt_t (by omega)), ite'_t (inR_t (by omega))]
    simp only [Int.toNat_natCast, cellI_at hr, cellB_at hr, cellS_at hr, cellL_at hr]
    simp only [List.getElem?_cons_zero, List.getElem?_cons_succ, Option.bind_some, asI_s, asB_s, asS_s, asL_s, bindI_s, bindB_s, bindS_s, bindL_s, bindR_s, resI_s, resB_s, resS_s, resO_s, bne_self_eq_false, beq_self_eq_true, Bool.not_true]
    rw [ite'_t (inR_t (by omega))]
    rw [c72 (k := k) (by omega) (a1 := x1) (a2 := x2) hx0 ]
    simp only [List.getElem?_cons_zero, List.getElem?_cons_succ, Option.bind_some, asI_s, asB_s, asS_s, asL_s, bindI_s, bindB_s, bindS_s, bindL_s, bindR_s, resI_s, resB_s, resS_s, resO_s, bne_self_eq_false, beq_self_eq_true, Bool.not_true]
    rw [ite'_f rfl, wrap_succ (m := a.length) (by omega) (by omega) hlen]
    rw [show ((i : Int) + 1) = ((i + 1 : Nat) : Int) by omega]
    exact ih (i + 1) n (by omega) (by omega)
theorem c20 {k : Nat} (hk : 2000002 ≤ k) {a : Ovi.Rows} (ha : Fit (.list [.str, .int .i64, .bool]) (.list 3 a)) (hs : szD (.list 3 a) ≤ 1048576) : C k 20 [.d (.list 3 a), .d (.list 3 a)] = some [(false, [.d (.bool true)])] := by
  obtain ⟨k, rfl⟩ : ∃ j, k = j + 1 := ⟨k - 1, by omega⟩
  simp only [szD] at hs
  rw [F20.run, ite'_f (bne_f _)]
  exact l20 (k := k) (by omega) ha (by omega) a.length 0 k (by omega) (by omega)
/-- laws.szAtom -/
theorem c106 {k : Nat} (hk : 2000002 ≤ k) {a0 : Int} {a1 : Ovi.Rows} (ha1 : Fit (.list [.int .i64]) (.list 1 a1)) {left : Int} (h0 : 0 ≤ left) (h1 : left ≤ 1048576) : C k 106 [.agg [.d (.int .i64 a0), .d (.list 1 a1)], .d (.int .i64 left)] = some [(false, [.d (.int .i64 (szT left (szC [.int .i64 a0, .list 1 a1])))])] := by
  obtain ⟨k, rfl⟩ : ∃ j, k = j + 1 := ⟨k - 1, by omega⟩
  have eT : szC [.int .i64 a0, .list 1 a1] = (szD (.list 1 a1)) := by simp only [szC, szD] <;> omega
  rw [eT, F106.run]
  rw [c52 (k := k) (by omega)  ha1 (left := left) (by omega) (by omega)]
  simp only [List.getElem?_cons_zero, List.getElem?_cons_succ, Option.bind_some, asI_s, asB_s, asS_s, asL_s, bindI_s, bindB_s, bindS_s, bindL_s, bindR_s, resI_s, resB_s, resS_s, resO_s, bne_self_eq_false, beq_self_eq_true, Bool.not_true]
  rcases szT_cases (left) (szD (.list 1 a1)) with ⟨q0, e0⟩ | ⟨q0, e0⟩ <;> rw [e0]
  rotate_left
  · rw [ite'_t (by simp only [decide_eq_true_eq]; omega)] <;> first | rfl | rw [szT_neg (by omega)]
  rw [ite'_f (neg_f (by omega))] <;> first | rfl | (rw [szT_pos (by omega)] <;> (congr 6 <;> omega))
/-- laws.toAtom -/
theorem F107x0 {a0 : Int} {a1 : Ovi.Rows} : resI .i64 1 true 2 [(true, [.d (.int .i64 a0), .row 3 1 a1])] 0 0 = some a0 := rfl
theorem F107x1 {a0 : Int} {a1 : Ovi.Rows} : resO 3 1 1 true 2 [(true, [.d (.int .i64 a0), .row 3 1 a1])] 0 1 = some a1 := rfl
theorem c107 {k : Nat} (hk : 2000002 ≤ k) {a0 : Int} {a1 : Ovi.Rows} (ha1 : Fit (.list [.int .i64]) (.list 1 a1)) (s1 : szD (.list 1 a1) ≤ 1048576) : C k 107 [.agg [.d (.int .i64 a0), .d (.list 1 a1)]] = some [(true, [.d (.int .i64 a0), .row 3 1 a1])] := by
  obtain ⟨k, rfl⟩ : ∃ j, k = j + 1 := ⟨k - 1, by omega⟩
  rw [F107.run]
  rw [c29 (k := k) (by omega)  ha1 s1]
  simp only [List.getElem?_cons_zero, List.getElem?_cons_succ, Option.bind_some, asI_s, asB_s, asS_s, asL_s, bindI_s, bindB_s, bindS_s, bindL_s, bindR_s, resI_s, resB_s, resS_s, resO_s, bne_self_eq_false, beq_self_eq_true, Bool.not_true]
/-- laws.eqAtom -/
theorem c108 {k : Nat} (hk : 2000002 ≤ k) {a0 : Int} {a1 : Ovi.Rows} (ha1 : Fit (.list [.int .i64]) (.list 1 a1)) (s1 : szD (.list 1 a1) ≤ 1048576) : C k 108 [.agg [.d (.int .i64 a0), .d (.list 1 a1)], .agg [.d (.int .i64 a0), .d (.list 1 a1)]] = some [(false, [.d (.bool true)])] := by
  obtain ⟨k, rfl⟩ : ∃ j, k = j + 1 := ⟨k - 1, by omega⟩
  rw [F108.run]
  rw [c32 (k := k) (by omega)  ha1 s1]
  simp only [List.getElem?_cons_zero, List.getElem?_cons_succ, Option.bind_some, asI_s, asB_s, asS_s, asL_s, bindI_s, bindB_s, bindS_s, bindL_s, bindR_s, resI_s, resB_s, resS_s, resO_s, bne_self_eq_false, beq_self_eq_true, Bool.not_true]
  rfl
/-- laws.szAtomS -/
theorem l53 {k : Nat} (hk : 2000002 ≤ k) {a : Ovi.Rows} (ha : Fit (.list [.int .i64, .list [.int .i64]]) (.list 2 a)) : ∀ (m i n : Nat) (left : Int), 0 ≤ left → left ≤ 1048576 → i + m = a.length → m < n → F53.L5 k (C k) n a left (i : Int) = some [(false, [.d (.int .i64 (szT left (szR (a.drop i))))])] := by
  have hlen := ha.len
  intro m; induction m with
  | zero =>
    intro i n left h0 h1 hm hn
    obtain ⟨n, rfl⟩ : ∃ j, n = j + 1 := ⟨n - 1, by omega⟩
    rw [F53.L5.succ, ite'_f (lt_f (by omega)), List.drop_eq_nil_of_le (by omega)]
    simp only [szR, szT_pos (left := left) (s := 0) (by omega)]
    simp
  | succ m ih =>
    intro i n left h0 h1 hm hn
    obtain ⟨n, rfl⟩ : ∃ j, n = j + 1 := ⟨n - 1, by omega⟩
    obtain ⟨row, hr, hfr, hdr⟩ := ha.row (i := i) (by omega)
    obtain ⟨d0, rr0, rfl, hd0, hfr0⟩ := Fits.cons hfr
    obtain ⟨x0, rfl, wx0⟩ := hd0.int
    obtain ⟨d1, rr1, rfl, hd1, hfr1⟩ := Fits.cons hfr0
    obtain ⟨x1, rfl, hx1⟩ := hd1.list (n := 1) rfl
    obtain rfl := Fits.nil hfr1
    have eR : szR (a.drop i) = szC [.int .i64 x0, .list 1 x1] + szR (a.drop (i + 1)) := by rw [hdr]; rfl
    rw [F53.L5.succ, ite'_t (lt_t (by omega)), ite'_t (inR_t (by omega)), eR]
    simp only [Int.toNat_natCast, cellI_at hr, cellB_at hr, cellS_at hr, cellL_at hr]
    simp only [List.getElem?_cons_zero, List.getElem?_cons_succ, Option.bind_some, asI_s, asB_s, asS_s, asL_s, bindI_s, bindB_s, bindS_s, bindL_s, bindR_s, resI_s, resB_s, resS_s, resO_s, bne_self_eq_false, beq_self_eq_true, Bool.not_true]
    have cc := c106 (k := k) (by omega) (a0 := x0) hx1 h0 h1
    rw [cc]
    simp only [List.getElem?_cons_zero, List.getElem?_cons_succ, Option.bind_some, asI_s, asB_s, asS_s, asL_s, bindI_s, bindB_s, bindS_s, bindL_s, bindR_s, resI_s, resB_s, resS_s, resO_s, bne_self_eq_false, beq_self_eq_true, Bool.not_true]
    rcases szT_cases left (szC [.int .i64 x0, .list 1 x1]) with ⟨q, e⟩ | ⟨q, e⟩ <;> rw [e]
    · rw [ite'_f (neg_f (by omega)), wrap_succ (m := a.length) (by omega) (by omega) hlen]
      have := ih (i + 1) n (left - ((szC [.int .i64 x0, .list 1 x1] : Nat) : Int)) (by omega) (by omega) (by omega) (by omega)
      rw [show ((i : Int) + 1) = ((i + 1 : Nat) : Int) by omega, this]
      rcases szT_cases (left - ((szC [.int .i64 x0, .list 1 x1] : Nat) : Int)) (szR (a.drop (i + 1))) with ⟨q2, e2⟩ | ⟨q2, e2⟩ <;> rw [e2]
      · rw [szT_pos (by omega)] <;> (congr 6 <;> omega)
      · rw [szT_neg (by omega)]
    · rw [ite'_t neg_t, szT_neg (by omega)]
theorem c53 {k : Nat} (hk : 2000003 ≤ k) {a : Ovi.Rows} (ha : Fit (.list [.int .i64, .list [.int .i64]]) (.list 2 a)) {left : Int} (h0 : 0 ≤ left) (h1 : left ≤ 1048576) : C k 53 [.d (.list 2 a), .d (.int .i64 left)] = some [(false, [.d (.int .i64 (szT left (szD (.list 2 a))))])] := by
  obtain ⟨k, rfl⟩ : ∃ j, k = j + 1 := ⟨k - 1, by omega⟩
  have hlen := ha.len; unfold maxLen at hlen
  rw [F53.run, wrap_id (by omega) (by omega)]
  have eD : szD (.list 2 a) = a.length + szR a := by simp only [szD]
  rw [eD]
  rcases szT_cases left a.length with ⟨q, e⟩ | ⟨q, e⟩
  · rw [ite'_f (neg_f (by omega))]
    have := l53 (k := k) (by omega) ha a.length 0 k (left - (a.length : Int)) (by omega) (by omega) (by omega) (by omega)
    rw [List.drop_zero] at this
    rw [show ((0 : Int)) = ((0 : Nat) : Int) by rfl, this]
    rcases szT_cases (left - (a.length : Int)) (szR a) with ⟨q2, e2⟩ | ⟨q2, e2⟩ <;> rw [e2]
    · rw [szT_pos (by omega)] <;> (congr 6 <;> omega)
    · rw [szT_neg (by omega)]
  · rw [ite'_t (by simp only [decide_eq_true_eq]; omega), szT_neg (by omega)]
/-- laws.toAtomS -/
theorem l56 {k : Nat} (hk : 2000002 ≤ k) {a : Ovi.Rows} (ha : Fit (.list [.int .i64, .list [.int .i64]]) (.list 2 a)) (hs : szR a ≤ 1048576) : ∀ (m i n : Nat) (v : Ovi.Rows), Filled a v i 2 → i + m = a.length → m < n → F56.L3 k (C k) n a (i : Int) v = some [(false, [.row 95 2 a])] := by
  have hlen := ha.len
  intro m; induction m with
  | zero =>
    intro i n v hv hm hn
    obtain ⟨n, rfl⟩ : ∃ j, n = j + 1 := ⟨n - 1, by omega⟩
    obtain rfl : i = a.length := by omega
    rw [F56.L3.succ, ite'_f (lt_f (by omega)), hv.done]
  | succ m ih =>
    intro i n v hv hm hn
    obtain ⟨n, rfl⟩ : ∃ j, n = j + 1 := ⟨n - 1, by omega⟩
    obtain ⟨row, hr, hfr, hdr⟩ := ha.row (i := i) (by omega)
    obtain ⟨d0, rr0, rfl, hd0, hfr0⟩ := Fits.cons hfr
    obtain ⟨x0, rfl, wx0⟩ := hd0.int
    obtain ⟨d1, rr1, rfl, hd1, hfr1⟩ := Fits.cons hfr0
    obtain ⟨x1, rfl, hx1⟩ := hd1.list (n := 1) rfl
    obtain rfl := Fits.nil hfr1
    have hst := hv.step hr rfl
    have hvl := hv.1
    have hszr := szR_at hr
    rw [F56.L3.succ, ite'_t (lt_t (by omega)), ite'_t (inR_t (by omega))]
    simp only [Int.toNat_natCast, cellI_at hr, cellB_at hr, cellS_at hr, cellL_at hr]
    simp only [List.getElem?_cons_zero, List.getElem?_cons_succ, Option.bind_some, asI_s, asB_s, asS_s, asL_s, bindI_s, bindB_s, bindS_s, bindL_s, bindR_s, resI_s, resB_s, resS_s, resO_s, bne_self_eq_false, beq_self_eq_true, Bool.not_true]
    rw [c107 (k := k) (by omega) (a0 := x0) hx1 (by simp only [szC, szD] at hszr ⊢; omega)]
    simp only [List.getElem?_cons_zero, List.getElem?_cons_succ, Option.bind_some, asI_s, asB_s, asS_s, asL_s, bindI_s, bindB_s, bindS_s, bindL_s, bindR_s, resI_s, resB_s, resS_s, resO_s, bne_self_eq_false, beq_self_eq_true, Bool.not_true]
    simp only [F107x0, F107x1]
    simp only [List.getElem?_cons_zero, List.getElem?_cons_succ, Option.bind_some, asI_s, asB_s, asS_s, asL_s, bindI_s, bindB_s, bindS_s, bindL_s, bindR_s, resI_s, resB_s, resS_s, resO_s, bne_self_eq_false, beq_self_eq_true, Bool.not_true]
    rw [ite'_t (inR_t (by omega)), wrap_succ (m := a.length) (by omega) (by omega) hlen]
    rw [show ((i : Int) + 1) = ((i + 1 : Nat) : Int) by omega]
    exact ih (i + 1) n _ hst (by omega) (by omega)
theorem c56 {k : Nat} (hk : 2000003 ≤ k) {a : Ovi.Rows} (ha : Fit (.list [.int .i64, .list [.int .i64]]) (.list 2 a)) (hs : szD (.list 2 a) ≤ 1048576) : C k 56 [.d (.list 2 a)] = some [(false, [.row 95 2 a])] := by
  obtain ⟨k, rfl⟩ : ∃ j, k = j + 1 := ⟨k - 1, by omega⟩
  simp only [szD] at hs
  rw [F56.run, ite'_t (beq_t _), ite'_t (inM_t (by omega))]
  exact l56 (k := k) (by omega) ha (by omega) a.length 0 k _ (Filled.start a _) (by omega) (by omega)
/-- laws.eqAtomS -/
theorem l60 {k : Nat} (hk : 2000002 ≤ k) {a : Ovi.Rows} (ha : Fit (.list [.int .i64, .list [.int .i64]]) (.list 2 a)) (hs : szR a ≤ 1048576) : ∀ (m i n : Nat), i + m = a.length → m < n → F60.L4 k (C k) n a a (i : Int) = some [(false, [.d (.bool true)])] := by
  have hlen := ha.len
  intro m; induction m with
  | zero =>
    intro i n hm hn
    obtain ⟨n, rfl⟩ : ∃ j, n = j + 1 := ⟨n - 1, by omega⟩
    rw [F60.L4.succ, ite'_f (lt_f (by omega))]
  | succ m ih =>
    intro i n hm hn
    obtain ⟨n, rfl⟩ : ∃ j, n = j + 1 := ⟨n - 1, by omega⟩
    obtain ⟨row, hr, hfr, hdr⟩ := ha.row (i := i) (by omega)
    obtain ⟨d0, rr0, rfl, hd0, hfr0⟩ := Fits.cons hfr
    obtain ⟨x0, rfl, wx0⟩ := hd0.int
    obtain ⟨d1, rr1, rfl, hd1, hfr1⟩ := Fits.cons hfr0
    obtain ⟨x1, rfl, hx1⟩ := hd1.list (n := 1) rfl
    obtain rfl := Fits.nil hfr1
    have hszr := szR_at hr
    rw [F60.L4.succ, ite'_t (lt_t (by omega)), ite'_t (inR_t (by omega))]
    simp only [Int.toNat_natCast, cellI_at hr, cellB_at hr, cellS_at hr, cellL_at hr]
    simp only [List.getElem?_cons_zero, List.getElem?_cons_succ, Option.bind_some, asI_s, asB_s, asS_s, asL_s, bindI_s, bindB_s, bindS_s, bindL_s, bindR_s, resI_s, resB_s, resS_s, resO_s, bne_self_eq_false, beq_self_eq_true, Bool.not_true]
    rw [ite'_t (inR_t (by omega))]
    rw [c108 (k := k) (by omega) (a0 := x0) hx1 (by simp only [szC, szD] at hszr ⊢; omega)]
    simp only [List.getElem?_cons_zero, List.getElem?_cons_succ, Option.bind_some, asI_s, asB_s, asS_s, asL_s, bindI_s, bindB_s, bindS_s, bindL_s, bindR_s, resI_s, resB_s, resS_s, resO_s, bne_self_eq_false, beq_self_eq_true, Bool.not_true]
    rw [ite'_f rfl, wrap_succ (m := a.length) (by omega) (by omega) hlen]
    rw [show ((i : Int) + 1) = ((i + 1 : Nat) : Int) by omega]
    exact ih (i + 1) n (by omega) (by omega)
theorem c60 {k : Nat} (hk : 2000003 ≤ k) {a : Ovi.Rows} (ha : Fit (.list [.int .i64, .list [.int .i64]]) (.list 2 a)) (hs : szD (.list 2 a) ≤ 1048576) : C k 60 [.d (.list 2 a), .d (.list 2 a)] = some [(false, [.d (.bool true)])] := by
  obtain ⟨k, rfl⟩ : ∃ j, k = j + 1 := ⟨k - 1, by omega⟩
  simp only [szD] at hs
  rw [F60.run, ite'_f (bne_f _)]
  exact l60 (k := k) (by omega) ha (by omega) a.length 0 k (by omega) (by omega)
/-- laws.szQuery -/
theorem c11 {k : Nat} (hk : 2000004 ≤ k) {a0 : Ovi.Rows} (ha0 : Fit (.list [.int .i64]) (.list 1 a0)) {a1 : Ovi.Rows} (ha1 : Fit (.list [.int .i64, .list [.int .i64]]) (.list 2 a1)) {left : Int} (h0 : 0 ≤ left) (h1 : left ≤ 1048576) : C k 11 [.agg [.d (.list 1 a0), .d (.list 2 a1)], .d (.int .i64 left)] = some [(false, [.d (.int .i64 (szT left (szC [.list 1 a0, .list 2 a1])))])] := by
  obtain ⟨k, rfl⟩ : ∃ j, k = j + 1 := ⟨k - 1, by omega⟩
  have eT : szC [.list 1 a0, .list 2 a1] = (szD (.list 1 a0)) + (szD (.list 2 a1)) := by simp only [szC, szD] <;> omega
  rw [eT, F11.run]
  rw [c52 (k := k) (by omega)  ha0 (left := left) (by omega) (by omega)]
  simp only [List.getElem?_cons_zero, List.getElem?_cons_succ, Option.bind_some, asI_s, asB_s, asS_s, asL_s, bindI_s, bindB_s, bindS_s, bindL_s, bindR_s, resI_s, resB_s, resS_s, resO_s, bne_self_eq_false, beq_self_eq_true, Bool.not_true]
  rcases szT_cases (left) (szD (.list 1 a0)) with ⟨q0, e0⟩ | ⟨q0, e0⟩ <;> rw [e0]
  rotate_left
  · rw [ite'_t (by simp only [decide_eq_true_eq]; omega)] <;> first | rfl | rw [szT_neg (by omega)]
  rw [ite'_f (neg_f (by omega))]
  rw [c53 (k := k) (by omega)  ha1 (left := left - ((szD (.list 1 a0) : Nat) : Int)) (by omega) (by omega)]
  simp only [List.getElem?_cons_zero, List.getElem?_cons_succ, Option.bind_some, asI_s, asB_s, asS_s, asL_s, bindI_s, bindB_s, bindS_s, bindL_s, bindR_s, resI_s, resB_s, resS_s, resO_s, bne_self_eq_false, beq_self_eq_true, Bool.not_true]
  rcases szT_cases (left - ((szD (.list 1 a0) : Nat) : Int)) (szD (.list 2 a1)) with ⟨q1, e1⟩ | ⟨q1, e1⟩ <;> rw [e1]
  rotate_left
  · rw [ite'_t (by simp only [decide_eq_true_eq]; omega)] <;> first | rfl | rw [szT_neg (by omega)]
  rw [ite'_f (neg_f (by omega))] <;> first | rfl | (rw [szT_pos (by omega)] <;> (congr 6 <;> omega))
/-- laws.toQuery -/
theorem F13x0 {a0 : Ovi.Rows} {a1 : Ovi.Rows} : resO 3 1 1 true 2 [(true, [.row 3 1 a0, .row 95 2 a1])] 0 0 = some a0 := rfl
theorem F13x1 {a0 : Ovi.Rows} {a1 : Ovi.Rows} : resO 95 2 1 true 2 [(true, [.row 3 1 a0, .row 95 2 a1])] 0 1 = some a1 := rfl
theorem c13 {k : Nat} (hk : 2000004 ≤ k) {a0 : Ovi.Rows} (ha0 : Fit (.list [.int .i64]) (.list 1 a0)) {a1 : Ovi.Rows} (ha1 : Fit (.list [.int .i64, .list [.int .i64]]) (.list 2 a1)) (s0 : szD (.list 1 a0) ≤ 1048576) (s1 : szD (.list 2 a1) ≤ 1048576) : C k 13 [.agg [.d (.list 1 a0), .d (.list 2 a1)]] = some [(true, [.row 3 1 a0, .row 95 2 a1])] := by
  obtain ⟨k, rfl⟩ : ∃ j, k = j + 1 := ⟨k - 1, by omega⟩
  rw [F13.run]
  rw [c29 (k := k) (by omega)  ha0 s0]
  simp only [List.getElem?_cons_zero, List.getElem?_cons_succ, Option.bind_some, asI_s, asB_s, asS_s, asL_s, bindI_s, bindB_s, bindS_s, bindL_s, bindR_s, resI_s, resB_s, resS_s, resO_s, bne_self_eq_false, beq_self_eq_true, Bool.not_true]
  rw [c56 (k := k) (by omega)  ha1 s1]
  simp only [List.getElem?_cons_zero, List.getElem?_cons_succ, Option.bind_some, asI_s, asB_s, asS_s, asL_s, bindI_s, bindB_s, bindS_s, bindL_s, bindR_s, resI_s, resB_s, resS_s, resO_s, bne_self_eq_false, beq_self_eq_true, Bool.not_true]
/-- laws.eqQuery -/
theorem c15 {k : Nat} (hk : 2000004 ≤ k) {a0 : Ovi.Rows} (ha0 : Fit (.list [.int .i64]) (.list 1 a0)) {a1 : Ovi.Rows} (ha1 : Fit (.list [.int .i64, .list [.int .i64]]) (.list 2 a1)) (s0 : szD (.list 1 a0) ≤ 1048576) (s1 : szD (.list 2 a1) ≤ 1048576) : C k 15 [.agg [.d (.list 1 a0), .d (.list 2 a1)], .agg [.d (.list 1 a0), .d (.list 2 a1)]] = some [(false, [.d (.bool true)])] := by
  obtain ⟨k, rfl⟩ : ∃ j, k = j + 1 := ⟨k - 1, by omega⟩
  rw [F15.run]
  rw [c32 (k := k) (by omega)  ha0 s0]
  rw [c60 (k := k) (by omega)  ha1 s1]
  simp only [List.getElem?_cons_zero, List.getElem?_cons_succ, Option.bind_some, asI_s, asB_s, asS_s, asL_s, bindI_s, bindB_s, bindS_s, bindL_s, bindR_s, resI_s, resB_s, resS_s, resO_s, bne_self_eq_false, beq_self_eq_true, Bool.not_true]
  rfl
/-- laws.szInequalityQuery -/
theorem c21 {k : Nat} (hk : 2000005 ≤ k) {a0 : Ovi.Rows} (ha0 : Fit (.list [.int .i64]) (.list 1 a0)) {a1 : Ovi.Rows} (ha1 : Fit (.list [.int .i64, .list [.int .i64]]) (.list 2 a1)) {a2 : Int} {a3 : Int} {left : Int} (h0 : 0 ≤ left) (h1 : left ≤ 1048576) : C k 21 [.agg [.d (.list 1 a0), .d (.list 2 a1), .d (.int .i64 a2), .d (.int .i64 a3)], .d (.int .i64 left)] = some [(false, [.d (.int .i64 (szT left (szC [.list 1 a0, .list 2 a1, .int .i64 a2, .int .i64 a3])))])] := by
  obtain ⟨k, rfl⟩ : ∃ j, k = j + 1 := ⟨k - 1, by omega⟩
  have eT : szC [.list 1 a0, .list 2 a1, .int .i64 a2, .int .i64 a3] = (szC [.list 1 a0, .list 2 a1]) := by simp only [szC, szD] <;> omega
  rw [eT, F21.run]
  rw [c11 (k := k) (by omega)  ha0 ha1 (left := left) (by omega) (by omega)]
  simp only [List.getElem?_cons_zero, List.getElem?_cons_succ, Option.bind_some, asI_s, asB_s, asS_s, asL_s, bindI_s, bindB_s, bindS_s, bindL_s, bindR_s, resI_s, resB_s, resS_s, resO_s, bne_self_eq_false, beq_self_eq_true, Bool.not_true]
  rcases szT_cases (left) (szC [.list 1 a0, .list 2 a1]) with ⟨q0, e0⟩ | ⟨q0, e0⟩ <;> rw [e0]
  rotate_left
  · rw [ite'_t (by simp only [decide_eq_true_eq]; omega)] <;> first | rfl | rw [szT_neg (by omega)]
  rw [ite'_f (neg_f (by omega))] <;> first | rfl | (rw [szT_pos (by omega)] <;> (congr 6 <;> omega))
/-- laws.toInequalityQuery -/
theorem F23x0 {a0 : Ovi.Rows} {a1 : Ovi.Rows} {a2 : Int} {a3 : Int} : resO 3 1 1 true 4 [(true, [.row 3 1 a0, .row 95 2 a1, .d (.int .i64 a2), .d (.int .i64 a3)])] 0 0 = some a0 := rfl
theorem F23x1 {a0 : Ovi.Rows} {a1 : Ovi.Rows} {a2 : Int} {a3 : Int} : resO 95 2 1 true 4 [(true, [.row 3 1 a0, .row 95 2 a1, .d (.int .i64 a2), .d (.int .i64 a3)])] 0 1 = some a1 := rfl
theorem F23x2 {a0 : Ovi.Rows} {a1 : Ovi.Rows} {a2 : Int} {a3 : Int} : resI .i64 1 true 4 [(true, [.row 3 1 a0, .row 95 2 a1, .d (.int .i64 a2), .d (.int .i64 a3)])] 0 2 = some a2 := rfl
theorem F23x3 {a0 : Ovi.Rows} {a1 : Ovi.Rows} {a2 : Int} {a3 : Int} : resI .i64 1 true 4 [(true, [.row 3 1 a0, .row 95 2 a1, .d (.int .i64 a2), .d (.int .i64 a3)])] 0 3 = some a3 := rfl
theorem c23 {k : Nat} (hk : 2000005 ≤ k) {a0 : Ovi.Rows} (ha0 : Fit (.list [.int .i64]) (.list 1 a0)) {a1 : Ovi.Rows} (ha1 : Fit (.list [.int .i64, .list [.int .i64]]) (.list 2 a1)) {a2 : Int} {a3 : Int} (s0 : szD (.list 1 a0) ≤ 1048576) (s1 : szD (.list 2 a1) ≤ 1048576) : C k 23 [.agg [.d (.list 1 a0), .d (.list 2 a1), .d (.int .i64 a2), .d (.int .i64 a3)]] = some [(true, [.row 3 1 a0, .row 95 2 a1, .d (.int .i64 a2), .d (.int .i64 a3)])] := by
  obtain ⟨k, rfl⟩ : ∃ j, k = j + 1 := ⟨k - 1, by omega⟩
  rw [F23.run]
  rw [c13 (k := k) (by omega)  ha0 ha1 s0 s1]
  simp only [List.getElem?_cons_zero, List.getElem?_cons_succ, Option.bind_some, asI_s, asB_s, asS_s, asL_s, bindI_s, bindB_s, bindS_s, bindL_s, bindR_s, resI_s, resB_s, resS_s, resO_s, bne_self_eq_false, beq_self_eq_true, Bool.not_true]
  simp only [F13x0, F13x1]
  simp only [List.getElem?_cons_zero, List.getElem?_cons_succ, Option.bind_some, asI_s, asB_s, asS_s, asL_s, bindI_s, bindB_s, bindS_s, bindL_s, bindR_s, resI_s, resB_s, resS_s, resO_s, bne_self_eq_false, beq_self_eq_true, Bool.not_true]
/-- laws.eqInequalityQuery -/
theorem c25 {k : Nat} (hk : 2000005 ≤ k) {a0 : Ovi.Rows} (ha0 : Fit (.list [.int .i64]) (.list 1 a0)) {a1 : Ovi.Rows} (ha1 : Fit (.list [.int .i64, .list [.int .i64]]) (.list 2 a1)) {a2 : Int} {a3 : Int} (s0 : szD (.list 1 a0) ≤ 1048576) (s1 : szD (.list 2 a1) ≤ 1048576) : C k 25 [.agg [.d (.list 1 a0), .d (.list 2 a1), .d (.int .i64 a2), .d (.int .i64 a3)], .agg [.d (.list 1 a0), .d (.list 2 a1), .d (.int .i64 a2), .d (.int .i64 a3)]] = some [(false, [.d (.bool true)])] := by
  obtain ⟨k, rfl⟩ : ∃ j, k = j + 1 := ⟨k - 1, by omega⟩
  rw [F25.run]
  rw [c15 (k := k) (by omega)  ha0 ha1 s0 s1]
  simp only [List.getElem?_cons_zero, List.getElem?_cons_succ, Option.bind_some, asI_s, asB_s, asS_s, asL_s, bindI_s, bindB_s, bindS_s, bindL_s, bindR_s, resI_s, resB_s, resS_s, resO_s, bne_self_eq_false, beq_self_eq_true, Bool.not_true]
  rfl
end Go.Proofs.Ytekcjghbfbfmpaa.Q

/-! Gb -/

namespace Go.Proofs.Ytekcjghbfbfmpaa.Q
open Go Ovi
/-- laws.szFact -/
theorem c119 {k : Nat} (hk : 2000002 ≤ k) {a0 : Int} {a1 : Ovi.Rows} (ha1 : Fit (.list [.int .i64]) (.list 1 a1)) {left : Int} (h0 : 0 ≤ left) (h1 : left ≤ 1048576) : C k 119 [.agg [.d (.int .i64 a0), .d (.list 1 a1)], .d (.int .i64 left)] = some [(false, [.d (.int .i64 (szT left (szC [.int .i64 a0, .list 1 a1])))])] := by
  obtain ⟨k, rfl⟩ : ∃ j, k = j + 1 := ⟨k - 1, by omega⟩
  have eT : szC [.int .i64 a0, .list 1 a1] = (szD (.list 1 a1)) := by simp only [szC, szD] <;> omega
  rw [eT, F119.run]
  rw [c52 (k := k) (by omega)  ha1 (left := left) (by omega) (by omega)]
  simp only [List.getElem?_cons_zero, List.getElem?_cons_succ, Option.bind_some, asI_s, asB_s, asS_s, asL_s, bindI_s, bindB_s, bindS_s, bindL_s, bindR_s, resI_s, resB_s, resS_s, resO_s, bne_self_eq_false, beq_self_eq_true, Bool.not_true]
  rcases szT_cases (left) (szD (.list 1 a1)) with ⟨q0, e0⟩ | ⟨q0, e0⟩ <;> rw [e0]
  rotate_left
  · rw [ite'_t (by simp only [decide_eq_true_eq]; omega)] <;> first | rfl | rw [szT_neg (by omega)]
  rw [ite'_f (neg_f (by omega))] <;> first | rfl | (rw [szT_pos (by omega)] <;> (congr 6 <;> omega))
/-- laws.toFact -/
theorem F122x0 {a0 : Int} {a1 : Ovi.Rows} : resI .i64 1 true 2 [(true, [.d (.int .i64 a0), .row 3 1 a1])] 0 0 = some a0 := rfl
theorem F122x1 {a0 : Int} {a1 : Ovi.Rows} : resO 3 1 1 true 2 [(true, [.d (.int .i64 a0), .row 3 1 a1])] 0 1 = some a1 := rfl
theorem c122 {k : Nat} (hk : 2000002 ≤ k) {a0 : Int} {a1 : Ovi.Rows} (ha1 : Fit (.list [.int .i64]) (.list 1 a1)) (s1 : szD (.list 1 a1) ≤ 1048576) : C k 122 [.agg [.d (.int .i64 a0), .d (.list 1 a1)]] = some [(true, [.d (.int .i64 a0), .row 3 1 a1])] := by
  obtain ⟨k, rfl⟩ : ∃ j, k = j + 1 := ⟨k - 1, by omega⟩
  rw [F122.run]
  rw [c29 (k := k) (by omega)  ha1 s1]
  simp only [List.getElem?_cons_zero, List.getElem?_cons_succ, Option.bind_some, asI_s, asB_s, asS_s, asL_s, bindI_s, bindB_s, bindS_s, bindL_s, bindR_s, resI_s, resB_s, resS_s, resO_s, bne_self_eq_false, beq_self_eq_true, Bool.not_true]
/-- laws.eqFact -/
theorem c131 {k : Nat} (hk : 2000002 ≤ k) {a0 : Int} {a1 : Ovi.Rows} (ha1 : Fit (.list [.int .i64]) (.list 1 a1)) (s1 : szD (.list 1 a1) ≤ 1048576) : C k 131 [.agg [.d (.int .i64 a0), .d (.list 1 a1)], .agg [.d (.int .i64 a0), .d (.list 1 a1)]] = some [(false, [.d (.bool true)])] := by
  obtain ⟨k, rfl⟩ : ∃ j, k = j + 1 := ⟨k - 1, by omega⟩
  rw [F131.run]
  rw [c32 (k := k) (by omega)  ha1 s1]
  simp only [List.getElem?_cons_zero, List.getElem?_cons_succ, Option.bind_some, asI_s, asB_s, asS_s, asL_s, bindI_s, bindB_s, bindS_s, bindL_s, bindR_s, resI_s, resB_s, resS_s, resO_s, bne_self_eq_false, beq_self_eq_true, Bool.not_true]
  rfl
/-- laws.szSkolemTerm -/
theorem c134 {k : Nat} (hk : 2000002 ≤ k) {a0 : Int} {a1 : Int} {a2 : Ovi.Rows} (ha2 : Fit (.list [.int .i64]) (.list 1 a2)) {left : Int} (h0 : 0 ≤ left) (h1 : left ≤ 1048576) : C k 134 [.agg [.d (.int .i64 a0), .d (.int .i64 a1), .d (.list 1 a2)], .d (.int .i64 left)] = some [(false, [.d (.int .i64 (szT left (szC [.int .i64 a0, .int .i64 a1, .list 1 a2])))])] := by
  obtain ⟨k, rfl⟩ : ∃ j, k = j + 1 := ⟨k - 1, by omega⟩
  have eT : szC [.int .i64 a0, .int .i64 a1, .list 1 a2] = (szD (.list 1 a2)) := by simp only [szC, szD] <;> omega
  rw [eT, F134.run]
  rw [c52 (k := k) (by omega)  ha2 (left := left) (by omega) (by omega)]
  simp only [List.getElem?_cons_zero, List.getElem?_cons_succ, Option.bind_some, asI_s, asB_s, asS_s, asL_s, bindI_s, bindB_s, bindS_s, bindL_s, bindR_s, resI_s, resB_s, resS_s, resO_s, bne_self_eq_false, beq_self_eq_true, Bool.not_true]
  rcases szT_cases (left) (szD (.list 1 a2)) with ⟨q0, e0⟩ | ⟨q0, e0⟩ <;> rw [e0]
  rotate_left
  · rw [ite'_t (by simp only [decide_eq_true_eq]; omega)] <;> first | rfl | rw [szT_neg (by omega)]
  rw [ite'_f (neg_f (by omega))] <;> first | rfl | (rw [szT_pos (by omega)] <;> (congr 6 <;> omega))
/-- laws.toSkolemTerm -/
theorem F135x0 {a0 : Int} {a1 : Int} {a2 : Ovi.Rows} : resI .i64 1 true 3 [(true, [.d (.int .i64 a0), .d (.int .i64 a1), .row 3 1 a2])] 0 0 = some a0 := rfl
theorem F135x1 {a0 : Int} {a1 : Int} {a2 : Ovi.Rows} : resI .i64 1 true 3 [(true, [.d (.int .i64 a0), .d (.int .i64 a1), .row 3 1 a2])] 0 1 = some a1 := rfl
theorem F135x2 {a0 : Int} {a1 : Int} {a2 : Ovi.Rows} : resO 3 1 1 true 3 [(true, [.d (.int .i64 a0), .d (.int .i64 a1), .row 3 1 a2])] 0 2 = some a2 := rfl
theorem c135 {k : Nat} (hk : 2000002 ≤ k) {a0 : Int} {a1 : Int} {a2 : Ovi.Rows} (ha2 : Fit (.list [.int .i64]) (.list 1 a2)) (s2 : szD (.list 1 a2) ≤ 1048576) : C k 135 [.agg [.d (.int .i64 a0), .d (.int .i64 a1), .d (.list 1 a2)]] = some [(true, [.d (.int .i64 a0), .d (.int .i64 a1), .row 3 1 a2])] := by
  obtain ⟨k, rfl⟩ : ∃ j, k = j + 1 := ⟨k - 1, by omega⟩
  rw [F135.run]
  rw [c29 (k := k) (by omega)  ha2 s2]
  simp only [List.getElem?_cons_zero, List.getElem?_cons_succ, Option.bind_some, asI_s, asB_s, asS_s, asL_s, bindI_s, bindB_s, bindS_s, bindL_s, bindR_s, resI_s, resB_s, resS_s, resO_s, bne_self_eq_false, beq_self_eq_true, Bool.not_true]
/-- laws.eqSkolemTerm -/
theorem c141 {k : Nat} (hk : 2000002 ≤ k) {a0 : Int} {a1 : Int} {a2 : Ovi.Rows} (ha2 : Fit (.list [.int .i64]) (.list 1 a2)) (s2 : szD (.list 1 a2) ≤ 1048576) : C k 141 [.agg [.d (.int .i64 a0), .d (.int .i64 a1), .d (.list 1 a2)], .agg [.d (.int .i64 a0), .d (.int .i64 a1), .d (.list 1 a2)]] = some [(false, [.d (.bool true)])] := by
  obtain ⟨k, rfl⟩ : ∃ j, k = j + 1 := ⟨k - 1, by omega⟩
  rw [F141.run]
  rw [c32 (k := k) (by omega)  ha2 s2]
  simp only [List.getElem?_cons_zero, List.getElem?_cons_succ, Option.bind_some, asI_s, asB_s, asS_s, asL_s, bindI_s, bindB_s, bindS_s, bindL_s, bindR_s, resI_s, resB_s, resS_s, resO_s, bne_self_eq_false, beq_self_eq_true, Bool.not_true]
  rfl
/-- laws.szFactS -/
theorem l73 {k : Nat} (hk : 2000002 ≤ k) {a : Ovi.Rows} (ha : Fit (.list [.int .i64, .list [.int .i64]]) (.list 2 a)) : ∀ (m i n : Nat) (left : Int), 0 ≤ left → left ≤ 1048576 → i + m = a.length → m < n → F73.L5 k (C k) n a left (i : Int) = some [(false, [.d (.int .i64 (szT left (szR (a.drop i))))])] := by
  have hlen := ha.len
  intro m; induction m with
  | zero =>
    intro i n left h0 h1 hm hn
    obtain ⟨n, rfl⟩ : ∃ j, n = j + 1 := ⟨n - 1, by omega⟩
    rw [F73.L5.succ, ite'_f (lt_f (by omega)), List.drop_eq_nil_of_le (by omega)]
    simp only [szR, szT_pos (left := left) (s := 0) (by omega)]
    simp
  | succ m ih =>
    intro i n left h0 h1 hm hn
    obtain ⟨n, rfl⟩ : ∃ j, n = j + 1 := ⟨n - 1, by omega⟩
    obtain ⟨row, hr, hfr, hdr⟩ := ha.row (i := i) (by omega)
    obtain ⟨d0, rr0, rfl, hd0, hfr0⟩ := Fits.cons hfr
    obtain ⟨x0, rfl, wx0⟩ := hd0.int
    obtain ⟨d1, rr1, rfl, hd1, hfr1⟩ := Fits.cons hfr0
    obtain ⟨x1, rfl, hx1⟩ := hd1.list (n := 1) rfl
    obtain rfl := Fits.nil hfr1
    have eR : szR (a.drop i) = szC [.int .i64 x0, .list 1 x1] + szR (a.drop (i + 1)) := by rw [hdr]; rfl
    rw [F73.L5.succ, ite'_t (lt_t (by omega)), ite'_t (inR_t (by omega)), eR]
    simp only [Int.toNat_natCast, cellI_at hr, cellB_at hr, cellS_at hr, cellL_at hr]
    simp only [List.getElem?_cons_zero, List.getElem?_cons_succ, Option.bind_some, asI_s, asB_s, asS_s, asL_s, bindI_s, bindB_s, bindS_s, bindL_s, bindR_s, resI_s, resB_s, resS_s, resO_s, bne_self_eq_false, beq_self_eq_true, Bool.not_true]
    have cc := c119 (k := k) (by omega) (a0 := x0) hx1 h0 h1
    rw [cc]
    simp only [List.getElem?_cons_zero, List.getElem?_cons_succ, Option.bind_some, asI_s, asB_s, asS_s, asL_s, bindI_s, bindB_s, bindS_s, bindL_s, bindR_s, resI_s, resB_s, resS_s, resO_s, bne_self_eq_false, beq_self_eq_true, Bool.not_true]
    rcases szT_cases left (szC [.int .i64 x0, .list 1 x1]) with ⟨q, e⟩ | ⟨q, e⟩ <;> rw [e]
    · rw [ite'_f (neg_f (by omega)), wrap_succ (m := a.length) (by omega) (by omega) hlen]
      have := ih (i + 1) n (left - ((szC [.int .i64 x0, .list 1 x1] : Nat) : Int)) (by omega) (by omega) (by omega) (by omega)
      rw [show ((i : Int) + 1) = ((i + 1 : Nat) : Int) by omega, this]
      rcases szT_cases (left - ((szC [.int .i64 x0, .list 1 x1] : Nat) : Int)) (szR (a.drop (i + 1))) with ⟨q2, e2⟩ | ⟨q2, e2⟩ <;> rw [e2]
      · rw [szT_pos (by omega)] <;> (congr 6 <;> omega)
      · rw [szT_neg (by omega)]
    · rw [ite'_t neg_t, szT_neg (by omega)]
theorem c73 {k : Nat} (hk : 2000003 ≤ k) {a : Ovi.Rows} (ha : Fit (.list [.int .i64, .list [.int .i64]]) (.list 2 a)) {left : Int} (h0 : 0 ≤ left) (h1 : left ≤ 1048576) : C k 73 [.d (.list 2 a), .d (.int .i64 left)] = some [(false, [.d (.int .i64 (szT left (szD (.list 2 a))))])] := by
  obtain ⟨k, rfl⟩ : ∃ j, k = j + 1 := ⟨k - 1, by omega⟩
  have hlen := ha.len; unfold maxLen at hlen
  rw [F73.run, wrap_id (by omega) (by omega)]
  have eD : szD (.list 2 a) = a.length + szR a := by simp only [szD]
  rw [eD]
  rcases szT_cases left a.length with ⟨q, e⟩ | ⟨q, e⟩
  · rw [ite'_f (neg_f (by omega))]
    have := l73 (k := k) (by omega) ha a.length 0 k (left - (a.length : Int)) (by omega) (by omega) (by omega) (by omega)
    rw [List.drop_zero] at this
    rw [show ((0 : Int)) = ((0 : Nat) : Int) by rfl, this]
    rcases szT_cases (left - (a.length : Int)) (szR a) with ⟨q2, e2⟩ | ⟨q2, e2⟩ <;> rw [e2]
    · rw [szT_pos (by omega)] <;> (congr 6 <;> omega)
    · rw [szT_neg (by omega)]
  · rw [ite'_t (by simp only [decide_eq_true_eq]; omega), szT_neg (by omega)]
/-- laws.toFactS -/
theorem l77 {k : Nat} (hk : 2000002 ≤ k) {a : Ovi.Rows} (ha : Fit (.list [.int .i64, .list [.int .i64]]) (.list 2 a)) (hs : szR a ≤ 1048576) : ∀ (m i n : Nat) (v : Ovi.Rows), Filled a v i 2 → i + m = a.length → m < n → F77.L3 k (C k) n a (i : Int) v = some [(false, [.row 114 2 a])] := by
  have hlen := ha.len
  intro m; induction m with
  | zero =>
    intro i n v hv hm hn
    obtain ⟨n, rfl⟩ : ∃ j, n = j + 1 := ⟨n - 1, by omega⟩
    obtain rfl : i = a.length := by omega
    rw [F77.L3.succ, ite'_f (lt_f (by omega)), hv.done]
  | succ m ih =>
    intro i n v hv hm hn
    obtain ⟨n, rfl⟩ : ∃ j, n = j + 1 := ⟨n - 1, by omega⟩
    obtain ⟨row, hr, hfr, hdr⟩ := ha.row (i := i) (by omega)
    obtain ⟨d0, rr0, rfl, hd0, hfr0⟩ := Fits.cons hfr
    obtain ⟨x0, rfl, wx0⟩ := hd0.int
    obtain ⟨d1, rr1, rfl, hd1, hfr1⟩ := Fits.cons hfr0
    obtain ⟨x1, rfl, hx1⟩ := hd1.list (n := 1) rfl
    obtain rfl := Fits.nil hfr1
    have hst := hv.step hr rfl
    have hvl := hv.1
    have hszr := szR_at hr
    rw [F77.L3.succ, ite'_t (lt_t (by omega)), ite'_t (inR_t (by omega))]
    simp only [Int.toNat_natCast, cellI_at hr, cellB_at hr, cellS_at hr, cellL_at hr]
    simp only [List.getElem?_cons_zero, List.getElem?_cons_succ, Option.bind_some, asI_s, asB_s, asS_s, asL_s, bindI_s, bindB_s, bindS_s, bindL_s, bindR_s, resI_s, resB_s, resS_s, resO_s, bne_self_eq_false, beq_self_eq_true, Bool.not_true]
    rw [c122 (k := k) (by omega) (a0 := x0) hx1 (by simp only [szC, szD] at hszr ⊢; omega)]
    simp only [List.getElem?_cons_zero, List.getElem?_cons_succ, Option.bind_some, asI_s, asB_s, asS_s, asL_s, bindI_s, bindB_s, bindS_s, bindL_s, bindR_s, resI_s, resB_s, resS_s, resO_s, bne_self_eq_false, beq_self_eq_true, Bool.not_true]
    simp only [F122x0, F122x1]
    simp only [List.getElem?_cons_zero, List.getElem?_cons_succ, Option.bind_some, asI_s, asB_s, asS_s, asL_s, bindI_s, bindB_s, bindS_s, bindL_s, bindR_s, resI_s, resB_s, resS_s, resO_s, bne_self_eq_false, beq_self_eq_true, Bool.not_true]
    rw [ite'_t (inR_t (by omega)), wrap_succ (m := a.length) (by omega) (by omega) hlen]
    rw [show ((i : Int) + 1) = ((i + 1 : Nat) : Int) by omega]
    exact ih (i + 1) n _ hst (by omega) (by omega)
theorem c77 {k : Nat} (hk : 2000003 ≤ k) {a : Ovi.Rows} (ha : Fit (.list [.int .i64, .list [.int .i64]]) (.list 2 a)) (hs : szD (.list 2 a) ≤ 1048576) : C k 77 [.d (.list 2 a)] = some [(false, [.row 114 2 a])] := by
  obtain ⟨k, rfl⟩ : ∃ j, k = j + 1 := ⟨k - 1, by omega⟩
  simp only [szD] at hs
  rw [F77.run, ite'_t (beq_t _), ite'_t (inM_t (by omega))]
  exact l77 (k := k) (by omega) ha (by omega) a.length 0 k _ (Filled.start a _) (by omega) (by omega)
/-- laws.eqFactS -/
theorem l83 {k : Nat} (hk : 2000002 ≤ k) {a : Ovi.Rows} (ha : Fit (.list [.int .i64, .list [.int .i64]]) (.list 2 a)) (hs : szR a ≤ 1048576) : ∀ (m i n : Nat), i + m = a.length → m < n → F83.L4 k (C k) n a a (i : Int) = some [(false, [.d (.bool true)])] := by
  have hlen := ha.len
  intro m; induction m with
  | zero =>
    intro i n hm hn
    obtain ⟨n, rfl⟩ : ∃ j, n = j + 1 := ⟨n - 1, by omega⟩
    rw [F83.L4.succ, ite'_f (lt_f (by omega))]
  | succ m ih =>
    intro i n hm hn
    obtain ⟨n, rfl⟩ : ∃ j, n = j + 1 := ⟨n - 1, by omega⟩
    obtain ⟨row, hr, hfr, hdr⟩ := ha.row (i := i) (by omega)
    obtain ⟨d0, rr0, rfl, hd0, hfr0⟩ := Fits.cons hfr
    obtain ⟨x0, rfl, wx0⟩ := hd0.int
    obtain ⟨d1, rr1, rfl, hd1, hfr1⟩ := Fits.cons hfr0
    obtain ⟨x1, rfl, hx1⟩ := hd1.list (n := 1) rfl
    obtain rfl := Fits.nil hfr1
    have hszr := szR_at hr
    rw [F83.L4.succ, ite'_t (lt_t (by omega)), ite'_t (inR_t (by omega))]
    simp only [Int.toNat_natCast, cellI_at hr, cellB_at hr, cellS_at hr, cellL_at hr]
    simp only [List.getElem?_cons_zero, List.getElem?_cons_succ, Option.bind_some, asI_s, asB_s, asS_s, asL_s, bindI_s, bindB_s, bindS_s, bindL_s, bindR_s, resI_s, resB_s, resS_s, resO_s, bne_self_eq_false, beq_self_eq_true, Bool.not_true]
    rw [ite'_t (inR_t (by omega))]
    rw [c131 (k := k) (by omega) (a0 := x0) hx1 (by simp only [szC, szD] at hszr ⊢; omega)]
    simp only [List.getElem?_cons_zero, List.getElem?_cons_succ, Option.bind_some, asI_s, asB_s, asS_s, asL_s, bindI_s, bindB_s, bindS_s, bindL_s, bindR_s, resI_s, resB_s, resS_s, resO_s, bne_self_eq_false, beq_self_eq_true, Bool.not_true]
    rw [ite'_f rfl, wrap_succ (m := a.length) (by omega) (by omega) hlen]
    rw [show ((i : Int) + 1) = ((i + 1 : Nat) : Int) by omega]
    exact ih (i + 1) n (by omega) (by omega)
theorem c83 {k : Nat} (hk : 2000003 ≤ k) {a : Ovi.Rows} (ha : Fit (.list [.int .i64, .list [.int .i64]]) (.list 2 a)) (hs : szD (.list 2 a) ≤ 1048576) : C k 83 [.d (.list 2 a), .d (.list 2 a)] = some [(false, [.d (.bool true)])] := by
  obtain ⟨k, rfl⟩ : ∃ j, k = j + 1 := ⟨k - 1, by omega⟩
  simp only [szD] at hs
  rw [F83.run, ite'_f (bne_f _)]
  exact l83 (k := k) (by omega) ha (by omega) a.length 0 k (by omega) (by omega)
/-- laws.szSkolemTermS -/
theorem l88 {k : Nat} (hk : 2000002 ≤ k) {a : Ovi.Rows} (ha : Fit (.list [.int .i64, .int .i64, .list [.int .i64]]) (.list 3 a)) : ∀ (m i n : Nat) (left : Int), 0 ≤ left → left ≤ 1048576 → i + m = a.length → m < n → F88.L5 k (C k) n a left (i : Int) = some [(false, [.d (.int .i64 (szT left (szR (a.drop i))))])] := by
  have hlen := ha.len
  intro m; induction m with
  | zero =>
    intro i n left h0 h1 hm hn
    obtain ⟨n, rfl⟩ : ∃ j, n = j + 1 := ⟨n - 1, by omega⟩
    rw [F88.L5.succ, ite'_f (lt_f (by omega)), List.drop_eq_nil_of_le (by omega)]
    simp only [szR, szT_pos (left := left) (s := 0) (by omega)]
    simp
  | succ m ih =>
    intro i n left h0 h1 hm hn
    obtain ⟨n, rfl⟩ : ∃ j, n = j + 1 := ⟨n - 1, by omega⟩
    obtain ⟨row, hr, hfr, hdr⟩ := ha.row (i := i) (by omega)
    obtain ⟨d0, rr0, rfl, hd0, hfr0⟩ := Fits.cons hfr
    obtain ⟨x0, rfl, wx0⟩ := hd0.int
    obtain ⟨d1, rr1, rfl, hd1, hfr1⟩ := Fits.cons hfr0
    obtain ⟨x1, rfl, wx1⟩ := hd1.int
    obtain ⟨d2, rr2, rfl, hd2, hfr2⟩ := Fits.cons hfr1
    obtain ⟨x2, rfl, hx2⟩ := hd2.list (n := 1) rfl
    obtain rfl := Fits.nil hfr2
    have eR : szR (a.drop i) = szC [.int .i64 x0, .int .i64 x1, .list 1 x2] + szR (a.drop (i + 1)) := by rw [hdr]; rfl
    rw [F88.L5.succ, ite'_t (lt_t (by omega)), ite'_t (inR_t (by omega)), eR]
    simp only [Int.toNat_natCast, cellI_at hr, cellB_at hr, cellS_at hr, cellL_at hr]
    simp only [List.getElem?_cons_zero, List.getElem?_cons_succ, Option.bind_some, asI_s, asB_s, asS_s, asL_s, bindI_s, bindB_s, bindS_s, bindL_s, bindR_s, resI_s, resB_s, resS_s, resO_s, bne_self_eq_false, beq_self_eq_true, Bool.not_true]
    have cc := c134 (k := k) (by omega) (a0 := x0) (a1 := x1) hx2 h0 h1
    rw [cc]
    simp only [List.getElem?_cons_zero, List.getElem?_cons_succ, Option.bind_some, asI_s, asB_s, asS_s, asL_s, bindI_s, bindB_s, bindS_s, bindL_s, bindR_s, resI_s, resB_s, resS_s, resO_s, bne_self_eq_false, beq_self_eq_true, Bool.not_true]
    rcases szT_cases left (szC [.int .i64 x0, .int .i64 x1, .list 1 x2]) with ⟨q, e⟩ | ⟨q, e⟩ <;> rw [e]
    · rw [ite'_f (neg_f (by omega)), wrap_succ (m := a.length) (by omega) (by omega) hlen]
      have := ih (i + 1) n (left - ((szC [.int .i64 x0, .int .i64 x1, .list 1 x2] : Nat) : Int)) (by omega) (by omega) (by omega) (by omega)
      rw [show ((i : Int) + 1) = ((i + 1 : Nat) : Int) by omega, this]
      rcases szT_cases (left - ((szC [.int .i64 x0, .int .i64 x1, .list 1 x2] : Nat) : Int)) (szR (a.drop (i + 1))) with ⟨q2, e2⟩ | ⟨q2, e2⟩ <;> rw [e2]
      · rw [szT_pos (by omega)] <;> (congr 6 <;> omega)
      · rw [szT_neg (by omega)]
    · rw [ite'_t neg_t, szT_neg (by omega)]
theorem c88 {k : Nat} (hk : 2000003 ≤ k) {a : Ovi.Rows} (ha : Fit (.list [.int .i64, .int .i64, .list [.int .i64]]) (.list 3 a)) {left : Int} (h0 : 0 ≤ left) (h1 : left ≤ 1048576) : C k 88 [.d (.list 3 a), .d (.int .i64 left)] = some [(false, [.d (.int .i64 (szT left (szD (.list 3 a))))])] := by
  obtain ⟨k, rfl⟩ : ∃ j, k = j + 1 := ⟨k - 1, by omega⟩
  have hlen := ha.len; unfold maxLen at hlen
  rw [F88.run, wrap_id (by omega) (by omega)]
  have eD : szD (.list 3 a) = a.length + szR a := by simp only [szD]
  rw [eD]
  rcases szT_cases left a.length with ⟨q, e⟩ | ⟨q, e⟩
  · rw [ite'_f (neg_f (by omega))]
    have := l88 (k := k) (by omega) ha a.length 0 k (left - (a.length : Int)) (by omega) (by omega) (by omega) (by omega)
    rw [List.drop_zero] at this
    rw [show ((0 : Int)) = ((0 : Nat) : Int) by rfl, this]
    rcases szT_cases (left - (a.length : Int)) (szR a) with ⟨q2, e2⟩ | ⟨q2, e2⟩ <;> rw [e2]
    · rw [szT_pos (by omega)] <;> (congr 6 <;> omega)
    · rw [szT_neg (by omega)]
  · rw [ite'_t (by simp only [decide_eq_true_eq]; omega), szT_neg (by omega)]
/-- laws.toSkolemTermS -/
theorem l92 {k : Nat} (hk : 2000002 ≤ k) {a : Ovi.Rows} (ha : Fit (.list [.int .i64, .int .i64, .list [.int .i64]]) (.list 3 a)) (hs : szR a ≤ 1048576) : ∀ (m i n : Nat) (v : Ovi.Rows), Filled a v i 3 → i + m = a.length → m < n → F92.L3 k (C k) n a (i : Int) v = some [(false, [.row 126 3 a])] := by
  have hlen := ha.len
  intro m; induction m with
  | zero =>
    intro i n v hv hm hn
    obtain ⟨n, rfl⟩ : ∃ j, n = j + 1 := ⟨n - 1, by omega⟩
    obtain rfl : i = a.length := by omega
    rw [F92.L3.succ, ite'_f (lt_f (by omega)), hv.done]
  | succ m ih =>
    intro i n v hv hm hn
    obtain ⟨n, rfl⟩ : ∃ j, n = j + 1 := ⟨n - 1, by omega⟩
    obtain ⟨row, hr, hfr, hdr⟩ := ha.row (i := i) (by omega)
    obtain ⟨d0, rr0, rfl, hd0, hfr0⟩ := Fits.cons hfr
    obtain ⟨x0, rfl, wx0⟩ := hd0.int
    obtain ⟨d1, rr1, rfl, hd1, hfr1⟩ := Fits.cons hfr0
    obtain ⟨x1, rfl, wx1⟩ := hd1.int
    obtain ⟨d2, rr2, rfl, hd2, hfr2⟩ := Fits.cons hfr1
    obtain ⟨x2, rfl, hx2⟩ := hd2.list (n := 1) rfl
    obtain rfl := Fits.nil hfr2
    have hst := hv.step hr rfl
    have hvl := hv.1
    have hszr := szR_at hr
    rw [F92.L3.succ, ite'_t (lt_t (by omega)), ite'_t (inR_t (by omega))]
    simp only [Int.toNat_natCast, cellI_at hr, cellB_at hr, cellS_at hr, cellL_at hr]
    simp only [List.getElem?_cons_zero, List.getElem?_cons_succ, Option.bind_some, asI_s, asB_s, asS_s, asL_s, bindI_s, bindB_s, bindS_s, bindL_s, bindR_s, resI_s, resB_s, resS_s, resO_s, bne_self_eq_false, beq_self_eq_true, Bool.not_true]
    rw [c135 (k := k) (by omega) (a0 := x0) (a1 := x1) hx2 (by simp only [szC, szD] at hszr ⊢; omega)]
    simp only [List.getElem?_cons_zero, List.getElem?_cons_succ, Option.bind_some, asI_s, asB_s, asS_s, asL_s, bindI_s, bindB_s, bindS_s, bindL_s, bindR_s, resI_s, resB_s, resS_s, resO_s, bne_self_eq_false, beq_self_eq_true, Bool.not_true]
    simp only [F135x0, F135x1, F135x2]
    simp only [List.getElem?_cons_zero, List.getElem?_cons_succ, Option.bind_some, asI_s, asB_s, asS_s, asL_s, bindI_s, bindB_s, bindS_s, bindL_s, bindR_s, resI_s, resB_s, resS_s, resO_s, bne_self_eq_false, beq_self_eq_true, Bool.not_true]
    rw [ite'_t (inR_t (by omega)), wrap_succ (m := a.length) (by omega) (by omega) hlen]
    rw [show ((i : Int) + 1) = ((i + 1 : Nat) : Int) by omega]
    exact ih (i + 1) n _ hst (by omega) (by omega)
theorem c92 {k : Nat} (hk : 2000003 ≤ k) {a : Ovi.Rows} (ha : Fit (.list [.int .i64, .int .i64, .list [.int .i64]]) (.list 3 a)) (hs : szD (.list 3 a) ≤ 1048576) : C k 92 [.d (.list 3 a)] = some [(false, [.row 126 3 a])] := by
  obtain ⟨k, rfl⟩ : ∃ j, k = j + 1 := ⟨k - 1, by omega⟩
  simp only [szD] at hs
  rw [F92.run, ite'_t (beq_t _), ite'_t (inM_t (by omega))]
  exact l92 (k := k) (by omega) ha (by omega) a.length 0 k _ (Filled.start a _) (by omega) (by omega)
/-- laws.eqSkolemTermS -/
theorem l95 {k : Nat} (hk : 2000002 ≤ k) {a : Ovi.Rows} (ha : Fit (.list [.int .i64, .int .i64, .list [.int .i64]]) (.list 3 a)) (hs : szR a ≤ 1048576) : ∀ (m i n : Nat), i + m = a.length → m < n → F95.L4 k (C k) n a a (i : Int) = some [(false, [.d (.bool true)])] := by
  have hlen := ha.len
  intro m; induction m with
  | zero =>
    intro i n hm hn
    obtain ⟨n, rfl⟩ : ∃ j, n = j + 1 := ⟨n - 1, by omega⟩
    rw [F95.L4.succ, ite'_f (lt_f (by omega))]
  | succ m ih =>
    intro i n hm hn
    obtain ⟨n, rfl⟩ : ∃ j, n = j + 1 := ⟨n - 1, by omega⟩
    obtain ⟨row, hr, hfr, hdr⟩ := ha.row (i := i) (by omega)
    obtain ⟨d0, rr0, rfl, hd0, hfr0⟩ := Fits.cons hfr
    obtain ⟨x0, rfl, wx0⟩ := hd0.int
    obtain ⟨d1, rr1, rfl, hd1, hfr1⟩ := Fits.cons hfr0
    obtain ⟨x1, rfl, wx1⟩ := hd1.int
    obtain ⟨d2, rr2, rfl, hd2, hfr2⟩ := Fits.cons hfr1
    obtain ⟨x2, rfl, hx2⟩ := hd2.list (n := 1) rfl
    obtain rfl := Fits.nil hfr2
    have hszr := szR_at hr
    rw [F95.L4.succ, ite'_t (lt_t (by omega)), ite'_t (inR_t (by omega))]
    simp only [Int.toNat_natCast, cellI_at hr, cellB_at hr, cellS_at hr, cellL_at hr]
    simp only [List.getElem?_cons_zero, List.getElem?_cons_succ, Option.bind_some, asI_s, asB_s, asS_s, asL_s, bindI_s, bindB_s, bindS_s, bindL_s, bindR_s, resI_s, resB_s, resS_s, resO_s, bne_self_eq_false, beq_self_eq_true, Bool.not_true]
    rw [ite'_t (inR_t (by omega))]
    rw [c141 (k := k) (by omega) (a0 := x0) (a1 := x1) hx2 (by simp only [szC, szD] at hszr ⊢; omega)]
    simp only [List.getElem?_cons_zero, List.getElem?_cons_succ, Option.bind_some, asI_s, asB_s, asS_s, asL_s, bindI_s, bindB_s, bindS_s, bindL_s, bindR_s, resI_s, resB_s, resS_s, resO_s, bne_self_eq_false, beq_self_eq_true, Bool.not_true]
    rw [ite'_f rfl, wrap_succ (m := a.length) (by omega) (by omega) hlen]
    rw [show ((i : Int) + 1) = ((i + 1 : Nat) : Int) by omega]
    exact ih (i + 1) n (by omega) (by omega)
theorem c95 {k : Nat} (hk : 2000003 ≤ k) {a : Ovi.Rows} (ha : Fit (.list [.int .i64, .int .i64, .list [.int .i64]]) (.list 3 a)) (hs : szD (.list 3 a) ≤ 1048576) : C k 95 [.d (.list 3 a), .d (.list 3 a)] = some [(false, [.d (.bool true)])] := by
  obtain ⟨k, rfl⟩ : ∃ j, k = j + 1 := ⟨k - 1, by omega⟩
  simp only [szD] at hs
  rw [F95.run, ite'_f (bne_f _)]
  exact l95 (k := k) (by omega) ha (by omega) a.length 0 k (by omega) (by omega)
/-- laws.szInstance -/
theorem c26 {k : Nat} (hk : 2000004 ≤ k) {a0 : Ovi.Rows} (ha0 : Fit (.list [.str, .int .i64, .bool]) (.list 3 a0)) {a1 : Ovi.Rows} (ha1 : Fit (.list [.int .i64, .list [.int .i64]]) (.list 2 a1)) {left : Int} (h0 : 0 ≤ left) (h1 : left ≤ 1048576) : C k 26 [.agg [.d (.list 3 a0), .d (.list 2 a1)], .d (.int .i64 left)] = some [(false, [.d (.int .i64 (szT left (szC [.list 3 a0, .list 2 a1])))])] := by
  obtain ⟨k, rfl⟩ : ∃ j, k = j + 1 := ⟨k - 1, by omega⟩
  have eT : szC [.list 3 a0, .list 2 a1] = (szD (.list 3 a0)) + (szD (.list 2 a1)) := by simp only [szC, szD] <;> omega
  rw [eT, F26.run]
  rw [c16 (k := k) (by omega)  ha0 (left := left) (by omega) (by omega)]
  simp only [List.getElem?_cons_zero, List.getElem?_cons_succ, Option.bind_some, asI_s, asB_s, asS_s, asL_s, bindI_s, bindB_s, bindS_s, bindL_s, bindR_s, resI_s, resB_s, resS_s, resO_s, bne_self_eq_false, beq_self_eq_true, Bool.not_true]
  rcases szT_cases (left) (szD (.list 3 a0)) with ⟨q0, e0⟩ | ⟨q0, e0⟩ <;> rw [e0]
  rotate_left
  · rw [ite'_t (by simp only [decide_eq_true_eq]; omega)] <;> first | rfl | rw [szT_neg (by omega)]
  rw [ite'_f (neg_f (by omega))]
  rw [c73 (k := k) (by omega)  ha1 (left := left - ((szD (.list 3 a0) : Nat) : Int)) (by omega) (by omega)]
  simp only [List.getElem?_cons_zero, List.getElem?_cons_succ, Option.bind_some, asI_s, asB_s, asS_s, asL_s, bindI_s, bindB_s, bindS_s, bindL_s, bindR_s, resI_s, resB_s, resS_s, resO_s, bne_self_eq_false, beq_self_eq_true, Bool.not_true]
  rcases szT_cases (left - ((szD (.list 3 a0) : Nat) : Int)) (szD (.list 2 a1)) with ⟨q1, e1⟩ | ⟨q1, e1⟩ <;> rw [e1]
  rotate_left
  · rw [ite'_t (by simp only [decide_eq_true_eq]; omega)] <;> first | rfl | rw [szT_neg (by omega)]
  rw [ite'_f (neg_f (by omega))] <;> first | rfl | (rw [szT_pos (by omega)] <;> (congr 6 <;> omega))
/-- laws.toInstance -/
theorem F28x0 {a0 : Ovi.Rows} {a1 : Ovi.Rows} : resO 104 3 1 true 2 [(true, [.row 104 3 a0, .row 114 2 a1])] 0 0 = some a0 := rfl
theorem F28x1 {a0 : Ovi.Rows} {a1 : Ovi.Rows} : resO 114 2 1 true 2 [(true, [.row 104 3 a0, .row 114 2 a1])] 0 1 = some a1 := rfl
theorem c28 {k : Nat} (hk : 2000004 ≤ k) {a0 : Ovi.Rows} (ha0 : Fit (.list [.str, .int .i64, .bool]) (.list 3 a0)) {a1 : Ovi.Rows} (ha1 : Fit (.list [.int .i64, .list [.int .i64]]) (.list 2 a1)) (s0 : szD (.list 3 a0) ≤ 1048576) (s1 : szD (.list 2 a1) ≤ 1048576) : C k 28 [.agg [.d (.list 3 a0), .d (.list 2 a1)]] = some [(true, [.row 104 3 a0, .row 114 2 a1])] := by
  obtain ⟨k, rfl⟩ : ∃ j, k = j + 1 := ⟨k - 1, by omega⟩
  rw [F28.run]
  rw [c18 (k := k) (by omega)  ha0 s0]
  simp only [List.getElem?_cons_zero, List.getElem?_cons_succ, Option.bind_some, asI_s, asB_s, asS_s, asL_s, bindI_s, bindB_s, bindS_s, bindL_s, bindR_s, resI_s, resB_s, resS_s, resO_s, bne_self_eq_false, beq_self_eq_true, Bool.not_true]
  rw [c77 (k := k) (by omega)  ha1 s1]
  simp only [List.getElem?_cons_zero, List.getElem?_cons_succ, Option.bind_some, asI_s, asB_s, asS_s, asL_s, bindI_s, bindB_s, bindS_s, bindL_s, bindR_s, resI_s, resB_s, resS_s, resO_s, bne_self_eq_false, beq_self_eq_true, Bool.not_true]
/-- laws.eqInstance -/
theorem c31 {k : Nat} (hk : 2000004 ≤ k) {a0 : Ovi.Rows} (ha0 : Fit (.list [.str, .int .i64, .bool]) (.list 3 a0)) {a1 : Ovi.Rows} (ha1 : Fit (.list [.int .i64, .list [.int .i64]]) (.list 2 a1)) (s0 : szD (.list 3 a0) ≤ 1048576) (s1 : szD (.list 2 a1) ≤ 1048576) : C k 31 [.agg [.d (.list 3 a0), .d (.list 2 a1)], .agg [.d (.list 3 a0), .d (.list 2 a1)]] = some [(false, [.d (.bool true)])] := by
  obtain ⟨k, rfl⟩ : ∃ j, k = j + 1 := ⟨k - 1, by omega⟩
  rw [F31.run]
  rw [c20 (k := k) (by omega)  ha0 s0]
  rw [c83 (k := k) (by omega)  ha1 s1]
  simp only [List.getElem?_cons_zero, List.getElem?_cons_succ, Option.bind_some, asI_s, asB_s, asS_s, asL_s, bindI_s, bindB_s, bindS_s, bindL_s, bindR_s, resI_s, resB_s, resS_s, resO_s, bne_self_eq_false, beq_self_eq_true, Bool.not_true]
  rfl
/-- laws.szSkolemState -/
theorem c36 {k : Nat} (hk : 2000005 ≤ k) {a0 : Ovi.Rows} (ha0 : Fit (.list [.str, .int .i64, .bool]) (.list 3 a0)) {a1 : Ovi.Rows} (ha1 : Fit (.list [.int .i64, .list [.int .i64]]) (.list 2 a1)) {a2 : Ovi.Rows} (ha2 : Fit (.list [.int .i64, .int .i64, .list [.int .i64]]) (.list 3 a2)) {left : Int} (h0 : 0 ≤ left) (h1 : left ≤ 1048576) : C k 36 [.agg [.d (.list 3 a0), .d (.list 2 a1), .d (.list 3 a2)], .d (.int .i64 left)] = some [(false, [.d (.int .i64 (szT left (szC [.list 3 a0, .list 2 a1, .list 3 a2])))])] := by
  obtain ⟨k, rfl⟩ : ∃ j, k = j + 1 := ⟨k - 1, by omega⟩
  have eT : szC [.list 3 a0, .list 2 a1, .list 3 a2] = (szC [.list 3 a0, .list 2 a1]) + (szD (.list 3 a2)) := by simp only [szC, szD] <;> omega
  rw [eT, F36.run]
  rw [c26 (k := k) (by omega)  ha0 ha1 (left := left) (by omega) (by omega)]
  simp only [List.getElem?_cons_zero, List.getElem?_cons_succ, Option.bind_some, asI_s, asB_s, asS_s, asL_s, bindI_s, bindB_s, bindS_s, bindL_s, bindR_s, resI_s, resB_s, resS_s, resO_s, bne_self_eq_false, beq_self_eq_true, Bool.not_true]
  rcases szT_cases (left) (szC [.list 3 a0, .list 2 a1]) with ⟨q0, e0⟩ | ⟨q0, e0⟩ <;> rw [e0]
  rotate_left
  · rw [ite'_t (by simp only [decide_eq_true_eq]; omega)] <;> first | rfl | rw [szT_neg (by omega)]
  rw [ite'_f (neg_f (by omega))]
  rw [c88 (k := k) (by omega)  ha2 (left := left - ((szC [.list 3 a0, .list 2 a1] : Nat) : Int)) (by omega) (by omega)]
  simp only [List.getElem?_cons_zero, List.getElem?_cons_succ, Option.bind_some, asI_s, asB_s, asS_s, asL_s, bindI_s, bindB_s, bindS_s, bindL_s, bindR_s, resI_s, resB_s, resS_s, resO_s, bne_self_eq_false, beq_self_eq_true, Bool.not_true]
  rcases szT_cases (left - ((szC [.list 3 a0, .list 2 a1] : Nat) : Int)) (szD (.list 3 a2)) with ⟨q1, e1⟩ | ⟨q1, e1⟩ <;> rw [e1]
  rotate_left
  · rw [ite'_t (by simp only [decide_eq_true_eq]; omega)] <;> first | rfl | rw [szT_neg (by omega)]
  rw [ite'_f (neg_f (by omega))] <;> first | rfl | (rw [szT_pos (by omega)] <;> (congr 6 <;> omega))
/-- laws.toSkolemState -/
theorem F38x0 {a0 : Ovi.Rows} {a1 : Ovi.Rows} {a2 : Ovi.Rows} : resO 104 3 1 true 3 [(true, [.row 104 3 a0, .row 114 2 a1, .row 126 3 a2])] 0 0 = some a0 := rfl
theorem F38x1 {a0 : Ovi.Rows} {a1 : Ovi.Rows} {a2 : Ovi.Rows} : resO 114 2 1 true 3 [(true, [.row 104 3 a0, .row 114 2 a1, .row 126 3 a2])] 0 1 = some a1 := rfl
theorem F38x2 {a0 : Ovi.Rows} {a1 : Ovi.Rows} {a2 : Ovi.Rows} : resO 126 3 1 true 3 [(true, [.row 104 3 a0, .row 114 2 a1, .row 126 3 a2])] 0 2 = some a2 := rfl
theorem c38 {k : Nat} (hk : 2000005 ≤ k) {a0 : Ovi.Rows} (ha0 : Fit (.list [.str, .int .i64, .bool]) (.list 3 a0)) {a1 : Ovi.Rows} (ha1 : Fit (.list [.int .i64, .list [.int .i64]]) (.list 2 a1)) {a2 : Ovi.Rows} (ha2 : Fit (.list [.int .i64, .int .i64, .list [.int .i64]]) (.list 3 a2)) (s0 : szD (.list 3 a0) ≤ 1048576) (s1 : szD (.list 2 a1) ≤ 1048576) (s2 : szD (.list 3 a2) ≤ 1048576) : C k 38 [.agg [.d (.list 3 a0), .d (.list 2 a1), .d (.list 3 a2)]] = some [(true, [.row 104 3 a0, .row 114 2 a1, .row 126 3 a2])] := by
  obtain ⟨k, rfl⟩ : ∃ j, k = j + 1 := ⟨k - 1, by omega⟩
  rw [F38.run]
  rw [c28 (k := k) (by omega)  ha0 ha1 s0 s1]
  simp only [List.getElem?_cons_zero, List.getElem?_cons_succ, Option.bind_some, asI_s, asB_s, asS_s, asL_s, bindI_s, bindB_s, bindS_s, bindL_s, bindR_s, resI_s, resB_s, resS_s, resO_s, bne_self_eq_false, beq_self_eq_true, Bool.not_true]
  simp only [F28x0, F28x1]
  simp only [List.getElem?_cons_zero, List.getElem?_cons_succ, Option.bind_some, asI_s, asB_s, asS_s, asL_s, bindI_s, bindB_s, bindS_s, bindL_s, bindR_s, resI_s, resB_s, resS_s, resO_s, bne_self_eq_false, beq_self_eq_true, Bool.not_true]
  rw [c92 (k := k) (by omega)  ha2 s2]
  simp only [List.getElem?_cons_zero, List.getElem?_cons_succ, Option.bind_some, asI_s, asB_s, asS_s, asL_s, bindI_s, bindB_s, bindS_s, bindL_s, bindR_s, resI_s, resB_s, resS_s, resO_s, bne_self_eq_false, beq_self_eq_true, Bool.not_true]
/-- laws.eqSkolemState -/
theorem c40 {k : Nat} (hk : 2000005 ≤ k) {a0 : Ovi.Rows} (ha0 : Fit (.list [.str, .int .i64, .bool]) (.list 3 a0)) {a1 : Ovi.Rows} (ha1 : Fit (.list [.int .i64, .list [.int .i64]]) (.list 2 a1)) {a2 : Ovi.Rows} (ha2 : Fit (.list [.int .i64, .int .i64, .list [.int .i64]]) (.list 3 a2)) (s0 : szD (.list 3 a0) ≤ 1048576) (s1 : szD (.list 2 a1) ≤ 1048576) (s2 : szD (.list 3 a2) ≤ 1048576) : C k 40 [.agg [.d (.list 3 a0), .d (.list 2 a1), .d (.list 3 a2)], .agg [.d (.list 3 a0), .d (.list 2 a1), .d (.list 3 a2)]] = some [(false, [.d (.bool true)])] := by
  obtain ⟨k, rfl⟩ : ∃ j, k = j + 1 := ⟨k - 1, by omega⟩
  rw [F40.run]
  rw [c31 (k := k) (by omega)  ha0 ha1 s0 s1]
  rw [c95 (k := k) (by omega)  ha2 s2]
  simp only [List.getElem?_cons_zero, List.getElem?_cons_succ, Option.bind_some, asI_s, asB_s, asS_s, asL_s, bindI_s, bindB_s, bindS_s, bindL_s, bindR_s, resI_s, resB_s, resS_s, resO_s, bne_self_eq_false, beq_self_eq_true, Bool.not_true]
  rfl
end Go.Proofs.Ytekcjghbfbfmpaa.Q

/-! Gc -/

namespace Go.Proofs.Ytekcjghbfbfmpaa.Q
open Go Ovi
/-- laws.szSubstitution -/
theorem c41 {k : Nat} (hk : 2000002 ≤ k) {a0 : Ovi.Rows} (ha0 : Fit (.list [.int .i64]) (.list 1 a0)) {a1 : Ovi.Rows} (ha1 : Fit (.list [.int .i64]) (.list 1 a1)) {left : Int} (h0 : 0 ≤ left) (h1 : left ≤ 1048576) : C k 41 [.agg [.d (.list 1 a0), .d (.list 1 a1)], .d (.int .i64 left)] = some [(false, [.d (.int .i64 (szT left (szC [.list 1 a0, .list 1 a1])))])] := by
  obtain ⟨k, rfl⟩ : ∃ j, k = j + 1 := ⟨k - 1, by omega⟩
  have eT : szC [.list 1 a0, .list 1 a1] = (szD (.list 1 a0)) + (szD (.list 1 a1)) := by simp only [szC, szD] <;> omega
  rw [eT, F41.run]
  rw [c52 (k := k) (by omega)  ha0 (left := left) (by omega) (by omega)]
  simp only [List.getElem?_cons_zero, List.getElem?_cons_succ, Option.bind_some, asI_s, asB_s, asS_s, asL_s, bindI_s, bindB_s, bindS_s, bindL_s, bindR_s, resI_s, resB_s, resS_s, resO_s, bne_self_eq_false, beq_self_eq_true, Bool.not_true]
  rcases szT_cases (left) (szD (.list 1 a0)) with ⟨q0, e0⟩ | ⟨q0, e0⟩ <;> rw [e0]
  rotate_left
  · rw [ite'_t (by simp only [decide_eq_true_eq]; omega)] <;> first | rfl | rw [szT_neg (by omega)]
  rw [ite'_f (neg_f (by omega))]
  rw [c52 (k := k) (by omega)  ha1 (left := left - ((szD (.list 1 a0) : Nat) : Int)) (by omega) (by omega)]
  simp only [List.getElem?_cons_zero, List.getElem?_cons_succ, Option.bind_some, asI_s, asB_s, asS_s, asL_s, bindI_s, bindB_s, bindS_s, bindL_s, bindR_s, resI_s, resB_s, resS_s, resO_s, bne_self_eq_false, beq_self_eq_true, Bool.not_true]
  rcases szT_cases (left - ((szD (.list 1 a0) : Nat) : Int)) (szD (.list 1 a1)) with ⟨q1, e1⟩ | ⟨q1, e1⟩ <;> rw [e1]
  rotate_left
  · rw [ite'_t (by simp only [decide_eq_true_eq]; omega)] <;> first | rfl | rw [szT_neg (by omega)]
  rw [ite'_f (neg_f (by omega))] <;> first | rfl | (rw [szT_pos (by omega)] <;> (congr 6 <;> omega))
/-- laws.toSubstitution -/
theorem F43x0 {a0 : Ovi.Rows} {a1 : Ovi.Rows} : resO 3 1 1 true 2 [(true, [.row 3 1 a0, .row 3 1 a1])] 0 0 = some a0 := rfl
theorem F43x1 {a0 : Ovi.Rows} {a1 : Ovi.Rows} : resO 3 1 1 true 2 [(true, [.row 3 1 a0, .row 3 1 a1])] 0 1 = some a1 := rfl
theorem c43 {k : Nat} (hk : 2000002 ≤ k) {a0 : Ovi.Rows} (ha0 : Fit (.list [.int .i64]) (.list 1 a0)) {a1 : Ovi.Rows} (ha1 : Fit (.list [.int .i64]) (.list 1 a1)) (s0 : szD (.list 1 a0) ≤ 1048576) (s1 : szD (.list 1 a1) ≤ 1048576) : C k 43 [.agg [.d (.list 1 a0), .d (.list 1 a1)]] = some [(true, [.row 3 1 a0, .row 3 1 a1])] := by
  obtain ⟨k, rfl⟩ : ∃ j, k = j + 1 := ⟨k - 1, by omega⟩
  rw [F43.run]
  rw [c29 (k := k) (by omega)  ha0 s0]
  simp only [List.getElem?_cons_zero, List.getElem?_cons_succ, Option.bind_some, asI_s, asB_s, asS_s, asL_s, bindI_s, bindB_s, bindS_s, bindL_s, bindR_s, resI_s, resB_s, resS_s, resO_s, bne_self_eq_false, beq_self_eq_true, Bool.not_true]
  rw [c29 (k := k) (by omega)  ha1 s1]
  simp only [List.getElem?_cons_zero, List.getElem?_cons_succ, Option.bind_some, asI_s, asB_s, asS_s, asL_s, bindI_s, bindB_s, bindS_s, bindL_s, bindR_s, resI_s, resB_s, resS_s, resO_s, bne_self_eq_false, beq_self_eq_true, Bool.not_true]
/-- laws.eqSubstitution -/
theorem c45 {k : Nat} (hk : 2000002 ≤ k) {a0 : Ovi.Rows} (ha0 : Fit (.list [.int .i64]) (.list 1 a0)) {a1 : Ovi.Rows} (ha1 : Fit (.list [.int .i64]) (.list 1 a1)) (s0 : szD (.list 1 a0) ≤ 1048576) (s1 : szD (.list 1 a1) ≤ 1048576) : C k 45 [.agg [.d (.list 1 a0), .d (.list 1 a1)], .agg [.d (.list 1 a0), .d (.list 1 a1)]] = some [(false, [.d (.bool true)])] := by
  obtain ⟨k, rfl⟩ : ∃ j, k = j + 1 := ⟨k - 1, by omega⟩
  rw [F45.run]
  rw [c32 (k := k) (by omega)  ha0 s0]
  rw [c32 (k := k) (by omega)  ha1 s1]
  simp only [List.getElem?_cons_zero, List.getElem?_cons_succ, Option.bind_some, asI_s, asB_s, asS_s, asL_s, bindI_s, bindB_s, bindS_s, bindL_s, bindR_s, resI_s, resB_s, resS_s, resO_s, bne_self_eq_false, beq_self_eq_true, Bool.not_true]
  rfl
end Go.Proofs.Ytekcjghbfbfmpaa.Q

/-! Ha -/
namespace Go.Proofs.Ytekcjghbfbfmpaa.Q
open Go Ovi

def bo (b : Bool) : Option Res := some [(false, [.d (.bool b)])]
theorem bo_eq {b c : Bool} (h : b = c) : bo b = bo c := by rw [h]
/-- spec.l1In -/
theorem c65 (k : Nat) (a l h : Int) : C (k + 1) 65 [.d (.int .i64 a), .d (.int .i64 l), .d (.int .i64 h)] = bo (decide (l ≤ a ∧ a ≤ h)) := by
  rw [F65.run]
  by_cases h1 : l ≤ a
  · rw [ite'_t (by simpa using h1)]; exact bo_eq (by simp [h1])
  · rw [ite'_f (by simpa using h1)]; exact bo_eq (by simp [h1])
/-- impl.within -/
theorem c113 (k : Nat) (a l h : Int) : C (k + 1) 113 [.d (.int .i64 a), .d (.int .i64 l), .d (.int .i64 h)] = bo (decide (l ≤ a ∧ a ≤ h)) := by
  rw [F113.run]
  by_cases h1 : l ≤ a
  · rw [ite'_t (by simpa using h1)]; exact bo_eq (by simp [h1])
  · rw [ite'_f (by simpa using h1)]; exact bo_eq (by simp [h1])
theorem bB (b : Bool) (k : Bool → Option Res) : (bindR (bo b) fun r => bindB (resB 1 false 1 r 0 0) k) = k b := rfl
theorem iB {x y : Option Res} (b : Bool) : ite' b x y = cond b x y := rfl
variable {k : Nat}
/-- spec.l4Has -/
theorem c64 (zs : List Int) (v : Int) (hk : zs.length < k) (hz : zs.length ≤ maxLen) : C (k + 1) 64 [.d (.list 1 (I1 zs)), .d (.int .i64 v)] = bo (decide (v ∈ zs)) := by
  rw [F64.run]
  have := loop_any (xs := zs) (L := fun n i => F64.L2 k (C k) n (I1 zs) v i) (stop := fun x => x == v) (hit := bo true) (fin := bo false)
    (fun n i x hx => by
      have hi := (List.getElem?_eq_some_iff.1 hx).1
      rw [F64.L2.succ, I1_len, ite'_t (lt_t hi), ite'_t (inR_t hi)]
      simp only [Int.toNat_natCast, cellI_at (I1_get' hx), List.getElem?_cons_zero, Option.bind_some, asI_s, bindI_s]
      rw [next_i hi hz]; rfl)
    (fun n => by rw [F64.L2.succ, I1_len, ite'_f (lt_f (by omega))]; rfl) k hk
  rw [show F64.L2 k (C k) k (I1 zs) v 0 = _ from this]
  by_cases h : v ∈ zs
  · rw [List.any_eq_true.2 ⟨v, h, by simp⟩]; exact bo_eq (by simp [h])
  · rw [show zs.any (fun x => x == v) = false by rw [List.any_eq_false]; intro x hx; simp; intro e; exact h (e ▸ hx)]; exact bo_eq (by simp [h])
/-- slices.Contains on integers -/
theorem c71 (zs : List Int) (v : Int) (hk : zs.length < k) (hz : zs.length ≤ maxLen) : C (k + 2) 71 [.d (.list 1 (I1 zs)), .d (.int .i64 v)] = bo (decide (v ∈ zs)) := by
  rw [F71.run, F118.run, I1_len]
  have := loop_find (xs := zs) (L := fun n i => F118.L2 k (C k) n (I1 zs) v (zs.length : Int) i) (stop := fun _ x => v == x) (hit := fun i => some [(false, [.d (.int .i64 (i : Int))])]) (fin := some [(false, [.d (.int .i64 (-1))])])
    (fun n i x hx => by
      have hi := (List.getElem?_eq_some_iff.1 hx).1
      rw [F118.L2.succ, I1_len, ite'_t (lt_t hi), ite'_t (inR_t hi)]
      simp only [Int.toNat_natCast, cellI_at (I1_get' hx), List.getElem?_cons_zero, Option.bind_some, asI_s, bindI_s]
      rw [next_i hi hz]; rfl)
    (fun n => by rw [F118.L2.succ, ite'_f (lt_f (by omega))]) k hk
  rcases this with ⟨i, x, hx, hst, e⟩ | ⟨hst, e⟩
  · rw [show F118.L2 k (C k) k (I1 zs) v (zs.length : Int) 0 = _ from e]
    simp only [bindR_s, resI_s, bindI_s]
    have : v = x := by simpa using hst
    subst this
    exact bo_eq (by rw [decide_eq_true (List.mem_of_getElem? hx)]; simp)
  · rw [show F118.L2 k (C k) k (I1 zs) v (zs.length : Int) 0 = _ from e]
    simp only [bindR_s, resI_s, bindI_s]
    refine bo_eq ?_
    rw [decide_eq_false (p := v ∈ zs) (fun h => ?_)]
    · rfl
    · obtain ⟨i, hi⟩ := List.mem_iff_getElem?.1 h
      have := hst i v hi
      simp at this
/-- slices.ContainsFunc on integers -/
theorem c69 (zs : List Int) (f : FuncId) (caps : Ovi.Rows) (p : Int → Bool) (hk : zs.length < k) (hz : zs.length ≤ maxLen) (hp : ∀ z ∈ zs, C k f (.d (.int .i64 z) :: caps.map fun c => .cap c 0) = bo (p z)) : C (k + 2) 69 [.d (.list 1 (I1 zs)), .d (.fn f caps)] = bo (zs.any p) := by
  rw [F69.run, F117.run, I1_len]
  have := loop_find (xs := zs) (L := fun n i => F117.L2 k (C k) n (I1 zs) f caps (zs.length : Int) i) (stop := fun _ x => p x) (hit := fun i => some [(false, [.d (.int .i64 (i : Int))])]) (fin := some [(false, [.d (.int .i64 (-1))])])
    (fun n i x hx => by
      have hi := (List.getElem?_eq_some_iff.1 hx).1
      rw [F117.L2.succ, I1_len, ite'_t (lt_t hi), ite'_t (inR_t hi)]
      simp only [Int.toNat_natCast, cellI_at (I1_get' hx), List.getElem?_cons_zero, Option.bind_some, asI_s, bindI_s]
      rw [next_i hi hz]
      have := hp x (List.mem_of_getElem? hx)
      simp only [List.append_eq, List.nil_append] at this ⊢
      rw [this, bB]; rfl)
    (fun n => by rw [F117.L2.succ, ite'_f (lt_f (by omega))]) k hk
  rcases this with ⟨i, x, hx, hst, e⟩ | ⟨hst, e⟩
  · rw [show F117.L2 k (C k) k (I1 zs) f caps (zs.length : Int) 0 = _ from e]
    simp only [bindR_s, resI_s, bindI_s]
    exact bo_eq (by rw [List.any_eq_true.2 ⟨x, List.mem_of_getElem? hx, hst⟩]; simp)
  · rw [show F117.L2 k (C k) k (I1 zs) f caps (zs.length : Int) 0 = _ from e]
    simp only [bindR_s, resI_s, bindI_s]
    refine bo_eq ?_
    rw [List.any_eq_false.2 (fun x hx => ?_)]
    · rfl
    · obtain ⟨i, hi⟩ := List.mem_iff_getElem?.1 hx
      simpa using hst i x hi
/-- slices.ContainsFunc on atoms -/
theorem c114 (xs : List Atom) (f : FuncId) (caps : Ovi.Rows) (p : Atom → Bool) (hk : xs.length < k) (hz : xs.length ≤ maxLen) (hp : ∀ x ∈ xs, C k f (.agg [.d (.int .i64 x.1), .d (.list 1 (I1 x.2))] :: caps.map fun c => .cap c 0) = bo (p x)) : C (k + 2) 114 [.d (.list 2 (A1 xs)), .d (.fn f caps)] = bo (xs.any p) := by
  rw [F114.run, F158.run, A1_len]
  have := loop_find (xs := xs) (L := fun n i => F158.L2 k (C k) n (A1 xs) f caps (xs.length : Int) i) (stop := fun _ x => p x) (hit := fun i => some [(false, [.d (.int .i64 (i : Int))])]) (fin := some [(false, [.d (.int .i64 (-1))])])
    (fun n i x hx => by
      have hi := (List.getElem?_eq_some_iff.1 hx).1
      rw [F158.L2.succ, A1_len, ite'_t (lt_t hi), ite'_t (inR_t hi)]
      simp only [Int.toNat_natCast, cellI_at (A1_get hx), cellL_at (A1_get hx), List.getElem?_cons_zero, List.getElem?_cons_succ, Option.bind_some, asI_s, asL_s, bindI_s, bindL_s]
      rw [next_i hi hz]
      have := hp x (List.mem_of_getElem? hx)
      simp only [List.append_eq, List.nil_append] at this ⊢
      rw [this, bB]; rfl)
    (fun n => by rw [F158.L2.succ, ite'_f (lt_f (by omega))]) k hk
  rcases this with ⟨i, x, hx, hst, e⟩ | ⟨hst, e⟩
  · rw [show F158.L2 k (C k) k (A1 xs) f caps (xs.length : Int) 0 = _ from e]
    simp only [bindR_s, resI_s, bindI_s]
    exact bo_eq (by rw [List.any_eq_true.2 ⟨x, List.mem_of_getElem? hx, hst⟩]; simp)
  · rw [show F158.L2 k (C k) k (A1 xs) f caps (xs.length : Int) 0 = _ from e]
    simp only [bindR_s, resI_s, bindI_s]
    refine bo_eq ?_
    rw [List.any_eq_false.2 (fun x hx => ?_)]
    · rfl
    · obtain ⟨i, hi⟩ := List.mem_iff_getElem?.1 hx
      simpa using hst i x hi

/-! ### relations -/
def Rl : Ty := .list [.str, .int .i64, .bool]
/-- both IsValidRelation -/
def relOk (s : List UInt8) (n : Int) : Bool := decide (s.length = 1) && (decide (byteAt s 0 ≥ 97) && (decide (byteAt s 0 ≤ 122) && decide (1 ≤ n ∧ n ≤ 3)))
theorem c160 (s : List UInt8) (n : Int) (b : Bool) : C (k + 2) 160 [.agg [.d (.str s), .d (.int .i64 n), .d (.bool b)]] = bo (relOk s n) := by
  rw [F160.run]
  by_cases h : s.length = 1
  · obtain ⟨h1, h2⟩ := letter s h
    rw [ite'_t (by simp; omega), h1, h2, c113, bB]
    unfold relOk
    rw [decide_eq_true h]
    cases decide (byteAt s 0 ≥ 97) <;> cases decide (byteAt s 0 ≤ 122) <;> rfl
  · rw [ite'_f (by simp; omega)]
    unfold relOk
    rw [decide_eq_false h]
    rfl
theorem c155 (s : List UInt8) (n : Int) (b : Bool) : C (k + 2) 155 [.agg [.d (.str s), .d (.int .i64 n), .d (.bool b)]] = bo (relOk s n) := by
  rw [F155.run]
  by_cases h : s.length = 1
  · rw [ite'_t (by simp; omega), ite'_t (by simp [inR]; omega), ite'_t (b := inR 0 s.length) (by simp [inR]; omega), c65, bB]
    unfold relOk
    rw [decide_eq_true h]
    cases decide (byteAt s 0 ≥ 97) <;> cases decide (byteAt s 0 ≤ 122) <;> rfl
  · rw [ite'_f (by simp; omega)]
    unfold relOk
    rw [decide_eq_false h]
    rfl
/-- both AreValidRelations answer alike -/
theorem rels {a : Ovi.Rows} (ha : Fit Rl (.list 3 a)) : ∃ b, ∀ k, a.length < k → C (k + 3) 123 [.d (.list 3 a)] = bo b ∧ C (k + 3) 110 [.d (.list 3 a)] = bo b := by
  have hlen := ha.len
  have key : ∀ (m i : Nat), i + m = a.length → ∃ b, ∀ k n, m < n → F123.L2 (k + 2) (C (k + 2)) n a a (a.length : Int) (i : Int) = bo b ∧ F110.L2 (k + 2) (C (k + 2)) n a (i : Int) = bo b := by
    intro m
    induction m with
    | zero =>
      intro i hm
      refine ⟨decide ((a.length : Int) ≤ 6), fun k n hn => ?_⟩
      obtain ⟨n, rfl⟩ : ∃ j, n = j + 1 := ⟨n - 1, by omega⟩
      constructor
      · rw [F123.L2.succ, ite'_f (lt_f (by omega))]; rfl
      · rw [F110.L2.succ, ite'_f (lt_f (by omega))]; rfl
    | succ m ih =>
      intro i hm
      have hi : i < a.length := by omega
      obtain ⟨row, hr, hfr, _⟩ := ha.row hi
      obtain ⟨d0, r0, rfl, f0, h1⟩ := Fits.cons hfr
      obtain ⟨d1, r1, rfl, f1, h1⟩ := Fits.cons h1
      obtain ⟨d2, r2, rfl, f2, h1⟩ := Fits.cons h1
      obtain rfl := Fits.nil h1
      obtain ⟨s, rfl, hs⟩ := f0.str
      obtain ⟨x, rfl, _⟩ := f1.int
      obtain ⟨b, rfl⟩ := f2.bool
      obtain ⟨bb, ih⟩ := ih (i + 1) (by omega)
      have step : ∀ k n, F123.L2 (k + 2) (C (k + 2)) (n + 1) a a (a.length : Int) (i : Int) = ite' (!relOk s x) (bo false) (ite' (decide ((i : Int) > 0)) (ite' (inR (IntKind.i64.wrap ((i : Int) - 1)) a.length) (bindS (cellS a (IntKind.i64.wrap ((i : Int) - 1)).toNat 0) fun s13 => ite' (sLess s s13 || s == s13) (bo false) (F123.L2 (k + 2) (C (k + 2)) n a a (a.length : Int) ((i + 1 : Nat) : Int))) none) (F123.L2 (k + 2) (C (k + 2)) n a a (a.length : Int) ((i + 1 : Nat) : Int))) ∧
          F110.L2 (k + 2) (C (k + 2)) (n + 1) a (i : Int) = ite' (!relOk s x) (bo false) (ite' (decide ((i : Int) > 0)) (ite' (inR (IntKind.i64.wrap ((i : Int) - 1)) a.length) (bindS (cellS a (IntKind.i64.wrap ((i : Int) - 1)).toNat 0) fun s11 => ite' (!sLess s11 s) (bo false) (F110.L2 (k + 2) (C (k + 2)) n a ((i + 1 : Nat) : Int))) none) (F110.L2 (k + 2) (C (k + 2)) n a ((i + 1 : Nat) : Int))) := by
        intro k n
        rw [F123.L2.succ, F110.L2.succ, ite'_t (lt_t hi), ite'_t (inR_t hi), ite'_t (lt_t hi), ite'_t (inR_t hi)]
        simp only [Int.toNat_natCast, cellI_at hr, cellS_at hr, cellB_at hr, List.getElem?_cons_zero, List.getElem?_cons_succ, Option.bind_some, asI_s, asS_s, asB_s, bindI_s, bindS_s, bindB_s]
        rw [c160, c155, next_i hi hlen, bB, bB]
        refine ⟨rfl, ?_⟩
        simp only [show ∀ x y : Option Res, ite' (inR (i : Int) a.length) x y = x from fun x y => ite'_t (inR_t hi)]
        rfl
      cases hv : relOk s x with
      | false =>
        refine ⟨false, fun k n hn => ?_⟩
        obtain ⟨n, rfl⟩ : ∃ j, n = j + 1 := ⟨n - 1, by omega⟩
        obtain ⟨e1, e2⟩ := step k n
        rw [e1, e2, hv]
        exact ⟨rfl, rfl⟩
      | true =>
        by_cases h0 : i = 0
        · subst h0
          refine ⟨bb, fun k n hn => ?_⟩
          obtain ⟨n, rfl⟩ : ∃ j, n = j + 1 := ⟨n - 1, by omega⟩
          obtain ⟨e1, e2⟩ := step k n
          rw [e1, e2, hv]
          exact ih k n (by omega)
        · have hw : IntKind.i64.wrap ((i : Int) - 1) = ((i - 1 : Nat) : Int) := by
            unfold maxLen at hlen
            rw [wrap_id (by omega) (by omega)]; omega
          obtain ⟨row', hr', hfr', _⟩ := ha.row (i := i - 1) (by omega)
          obtain ⟨d0', r0', rfl, f0', h1'⟩ := Fits.cons hfr'
          obtain ⟨s', rfl, hs'⟩ := f0'.str
          have hcs : cellS a ((i - 1 : Nat) : Int).toNat 0 = some s' := by rw [Int.toNat_natCast, cellS_at hr']; rfl
          have hgt : decide ((i : Int) > 0) = true := by simp; omega
          have hin : inR ((i - 1 : Nat) : Int) a.length = true := inR_t (by omega)
          cases hl : sLess s' s with
          | true =>
            refine ⟨bb, fun k n hn => ?_⟩
            obtain ⟨n, rfl⟩ : ∃ j, n = j + 1 := ⟨n - 1, by omega⟩
            obtain ⟨e1, e2⟩ := step k n
            rw [e1, e2, hv, hw, hgt, hin, hcs]
            simp only [bindS_s]
            rw [sLess_total, hl]
            exact ih k n (by omega)
          | false =>
            refine ⟨false, fun k n hn => ?_⟩
            obtain ⟨n, rfl⟩ : ∃ j, n = j + 1 := ⟨n - 1, by omega⟩
            obtain ⟨e1, e2⟩ := step k n
            rw [e1, e2, hv, hw, hgt, hin, hcs]
            simp only [bindS_s]
            rw [sLess_total, hl]
            exact ⟨rfl, rfl⟩
  obtain ⟨b, hb⟩ := key a.length 0 (by omega)
  refine ⟨b, fun k hk => ?_⟩
  rw [F123.run, F110.run]
  exact hb k (k + 2) (by omega)
/-- both IsValidAtom answer alike -/
theorem atoms {a : Ovi.Rows} (ha : Fit Rl (.list 3 a)) (x : Atom) (hx2 : x.2.length ≤ maxLen) : ∃ b, ∀ k, a.length < k → x.2.length < k → C (k + 5) 116 [.d (.list 3 a), .agg [.d (.int .i64 x.1), .d (.list 1 (I1 x.2))]] = bo b ∧ C (k + 5) 63 [.d (.list 3 a), .agg [.d (.int .i64 x.1), .d (.list 1 (I1 x.2))]] = bo b := by
  have hlen := ha.len
  unfold maxLen at hlen
  obtain ⟨b, hb⟩ := rels ha
  have e : ∀ k, a.length < k → C (k + 4) 123 [.d (.list 3 a)] = bo b ∧ C (k + 4) 110 [.d (.list 3 a)] = bo b := fun k hk => hb (k + 1) (by omega)
  cases b with
  | false =>
    refine ⟨false, fun k hk hx => ?_⟩
    rw [F116.run, F63.run, (e k hk).1, (e k hk).2, bB, bB]
    exact ⟨rfl, rfl⟩
  | true =>
    by_cases hr : 0 ≤ x.1 ∧ x.1 ≤ (a.length : Int) - 1
    · obtain ⟨i, hi⟩ : ∃ i : Nat, x.1 = i := ⟨x.1.toNat, by omega⟩
      have hia : i < a.length := by omega
      obtain ⟨row, hrow, hfr, _⟩ := ha.row hia
      obtain ⟨d0, r0, rfl, f0, h1⟩ := Fits.cons hfr
      obtain ⟨d1, r1, rfl, f1, h1⟩ := Fits.cons h1
      obtain ⟨n, rfl, _⟩ := f1.int
      have hcn : cellI .i64 a ((i : Int)).toNat 1 = some n := by rw [Int.toNat_natCast, cellI_at hrow]; simp [asI_s]
      by_cases hn : ((I1 x.2).length : Int) = n
      · refine ⟨!(x.2.any fun t => !decide (-10 ≤ t ∧ t ≤ 4)), fun k hk hx => ?_⟩
        rw [F116.run, F63.run, (e k hk).1, (e k hk).2, bB, bB, ite'_nt, ite'_nt, c113, c65, bB, bB, wrap_id (by omega) (by omega), decide_eq_true hr, ite'_nt, ite'_nt, hi, ite'_t (inR_t hia), ite'_t (inR_t hia), hcn]
        simp only [bindI_s]
        rw [ite'_f (by simpa using hn), ite'_f (b := ((I1 x.2).length : Int) != n) (by simpa using hn)]
        have e69 := c69 (k := k + 2) x.2 159 [] (fun t => !decide (-10 ≤ t ∧ t ≤ 4)) (by omega) hx2 (fun z _ => by
          rw [List.map_nil, F159.run, c113 k, bB]; rfl)
        rw [e69, bB]
        refine ⟨rfl, ?_⟩
        have := loop_any (xs := x.2) (L := fun m j => F63.L4 (k + 4) (C (k + 4)) m j (i : Int) (I1 x.2)) (stop := fun t => !decide (-10 ≤ t ∧ t ≤ 4)) (hit := bo false) (fin := bo true)
          (fun m j t ht => by
            have hj := (List.getElem?_eq_some_iff.1 ht).1
            rw [F63.L4.succ, I1_len, ite'_t (lt_t hj), ite'_t (inR_t hj)]
            simp only [Int.toNat_natCast, cellI_at (I1_get' ht), List.getElem?_cons_zero, Option.bind_some, asI_s, bindI_s]
            rw [c65, bB, next_i hj hx2]; rfl)
          (fun m => by rw [F63.L4.succ, I1_len, ite'_f (lt_f (by omega))]; rfl) (k + 4) (by omega)
        rw [show F63.L4 (k + 4) (C (k + 4)) (k + 4) 0 (i : Int) (I1 x.2) = _ from this]
        cases x.2.any (fun t => !decide (-10 ≤ t ∧ t ≤ 4)) <;> rfl
      · refine ⟨false, fun k hk hx => ?_⟩
        rw [F116.run, F63.run, (e k hk).1, (e k hk).2, bB, bB, ite'_nt, ite'_nt, c113, c65, bB, bB, wrap_id (by omega) (by omega), decide_eq_true hr, ite'_nt, ite'_nt, hi, ite'_t (inR_t hia), ite'_t (inR_t hia), hcn]
        simp only [bindI_s]
        rw [ite'_t (by simpa using hn), ite'_t (b := ((I1 x.2).length : Int) != n) (by simpa using hn)]
        exact ⟨rfl, rfl⟩
    · refine ⟨false, fun k hk hx => ?_⟩
      rw [F116.run, F63.run, (e k hk).1, (e k hk).2, bB, bB, ite'_nt, ite'_nt, c113, c65, bB, bB, wrap_id (by omega) (by omega), decide_eq_false hr]
      exact ⟨rfl, rfl⟩
end Go.Proofs.Ytekcjghbfbfmpaa.Q

/-! Ia -/
namespace Go.Proofs.Ytekcjghbfbfmpaa.Q
open Go Ovi
variable {k : Nat}
/-- what the atoms hold: z is a variable of theirs -/
def isVar (xs : List Atom) (z : Int) : Prop := 0 ≤ z ∧ ∃ x ∈ xs, z ∈ x.2
def terms (xs : List Atom) : Nat := (xs.map fun x => x.2.length).sum
theorem terms_at {xs : List Atom} {i : Nat} {x : Atom} (h : xs[i]? = some x) : terms (xs.take i) + x.2.length = terms (xs.take (i + 1)) := by
  obtain ⟨hi, e⟩ := List.getElem?_eq_some_iff.1 h
  unfold terms
  rw [List.take_succ_eq_append_getElem hi, e]
  simp
theorem terms_le (xs : List Atom) (i : Nat) : terms (xs.take i) ≤ terms xs := by
  have : terms xs = terms (xs.take i) + terms (xs.drop i) := by
    unfold terms
    rw [← List.sum_append, ← List.map_append, List.take_append_drop]
  omega
theorem isVar_take {xs : List Atom} {i : Nat} {x : Atom} (h : xs[i]? = some x) (z : Int) : isVar (xs.take (i + 1)) z ↔ isVar (xs.take i) z ∨ (0 ≤ z ∧ z ∈ x.2) := by
  obtain ⟨hi, e⟩ := List.getElem?_eq_some_iff.1 h
  unfold isVar
  rw [List.take_succ_eq_append_getElem hi, e]
  simp only [List.mem_append, List.mem_singleton]
  constructor
  · rintro ⟨h0, y, hy | rfl, hz⟩
    · exact .inl ⟨h0, y, hy, hz⟩
    · exact .inr ⟨h0, hz⟩
  · rintro (⟨h0, y, hy, hz⟩ | ⟨h0, hz⟩)
    · exact ⟨h0, y, .inl hy, hz⟩
    · exact ⟨h0, x, .inr rfl, hz⟩
/-- impl.Variables -/
theorem c67 (xs : List Atom) (hk : terms xs + xs.length < k) (hs : terms xs + xs.length ≤ 1048576) : ∃ vs, C (k + 1) 67 [.d (.list 2 (A1 xs))] = some [(false, [.row 3 1 (I1 vs)])] ∧ (∀ z, z ∈ vs ↔ isVar xs z) ∧ vs.length ≤ terms xs := by
  rw [F67.run, A1_len]
  have hmax : (1048576 : Nat) ≤ maxLen := by decide
  -- the inner loop
  have inner : ∀ (i : Nat) (x : Atom), xs[i]? = some x → ∀ (m j n k3 : Nat) (acc : List Int), j + m = x.2.length → m < n → acc.length ≤ terms (xs.take i) + j → (∀ z, z ∈ acc ↔ isVar (xs.take i) z ∨ (0 ≤ z ∧ z ∈ x.2.take j)) →
      ∃ acc', F67.L6 k (C k) k3 n (A1 xs) (xs.length : Int) (i : Int) (I1 x.2) (x.2.length : Int) (j : Int) (I1 acc) = F67.L3 k (C k) k3 (A1 xs) (xs.length : Int) ((i + 1 : Nat) : Int) (I1 acc') ∧ acc'.length ≤ terms (xs.take (i + 1)) ∧ ∀ z, z ∈ acc' ↔ isVar (xs.take (i + 1)) z := by
    intro i x hx m
    have hi := (List.getElem?_eq_some_iff.1 hx).1
    have hta := terms_at hx
    have htl := terms_le xs (i + 1)
    induction m with
    | zero =>
      intro j n k3 acc hm hn ha hmem
      obtain ⟨n, rfl⟩ : ∃ j, n = j + 1 := ⟨n - 1, by omega⟩
      obtain rfl : j = x.2.length := by omega
      refine ⟨acc, ?_, by omega, fun z => ?_⟩
      · rw [F67.L6.succ, ite'_f (lt_f (by omega)), next_i hi (m := xs.length) (by omega)]
      · rw [hmem z, isVar_take hx, List.take_length]
    | succ m ih =>
      intro j n k3 acc hm hn ha hmem
      obtain ⟨n, rfl⟩ : ∃ j, n = j + 1 := ⟨n - 1, by omega⟩
      have hj : j < x.2.length := by omega
      have hz := List.getElem?_eq_getElem hj
      rw [F67.L6.succ, ite'_t (lt_t hj), I1_len, ite'_t (inR_t hj)]
      simp only [Int.toNat_natCast, cellI_at (I1_get' hz), List.getElem?_cons_zero, Option.bind_some, asI_s, bindI_s]
      rw [next_i hj (m := x.2.length) (by omega)]
      have htk : ∀ z, z ∈ x.2.take (j + 1) ↔ z ∈ x.2.take j ∨ z = x.2[j] := by
        intro z
        rw [List.take_succ_eq_append_getElem hj]
        simp only [List.mem_append, List.mem_singleton]
      by_cases h0 : 0 ≤ x.2[j]
      · rw [ite'_t (by simpa using h0), ite'_t (fits_t (by simp [I1_len]; omega))]
        have e : I1 acc ++ [[.int .i64 x.2[j]]] = I1 (acc ++ [x.2[j]]) := by simp [I1]
        rw [e]
        refine ih (j + 1) n k3 _ (by omega) (by omega) (by simp; omega) (fun z => ?_)
        rw [List.mem_append, List.mem_singleton, hmem z, htk z]
        constructor
        · rintro ((h | h) | h)
          · exact .inl h
          · exact .inr ⟨h.1, .inl h.2⟩
          · exact .inr ⟨h ▸ h0, .inr h⟩
        · rintro (h | ⟨h1, h | h⟩)
          · exact .inl (.inl h)
          · exact .inl (.inr ⟨h1, h⟩)
          · exact .inr h
      · rw [ite'_f (by simpa using h0)]
        refine ih (j + 1) n k3 _ (by omega) (by omega) (by omega) (fun z => ?_)
        rw [hmem z, htk z]
        constructor
        · rintro (h | h)
          · exact .inl h
          · exact .inr ⟨h.1, .inl h.2⟩
        · rintro (h | ⟨h1, h | h⟩)
          · exact .inl h
          · exact .inr ⟨h1, h⟩
          · exact absurd (h ▸ h1) h0
  have outer : ∀ (m i n : Nat) (acc : List Int), i + m = xs.length → m < n → acc.length ≤ terms (xs.take i) → (∀ z, z ∈ acc ↔ isVar (xs.take i) z) →
      ∃ vs, F67.L3 k (C k) n (A1 xs) (xs.length : Int) (i : Int) (I1 acc) = some [(false, [.row 3 1 (I1 vs)])] ∧ (∀ z, z ∈ vs ↔ isVar xs z) ∧ vs.length ≤ terms xs := by
    intro m
    induction m with
    | zero =>
      intro i n acc hm hn ha hmem
      obtain ⟨n, rfl⟩ : ∃ j, n = j + 1 := ⟨n - 1, by omega⟩
      obtain rfl : i = xs.length := by omega
      rw [List.take_length] at ha hmem
      obtain ⟨k, rfl⟩ : ∃ j, k = j + 1 := ⟨k - 1, by omega⟩
      have e1 : C (k + 1) 111 [.var 0 0, .d (.int .i64 3), .d (.list 1 (I1 acc))] = some [(false, [.row 3 1 (I1 (sortInts acc))])] := by
        show sortP _ = _
        unfold sortP rawArg
        simp only [ints_I1]
        rw [show Nat.ble acc.length 1099511627776 = true from Nat.ble_eq_true_of_le (by omega)]
        rfl
      have hsl : (sortInts acc).length = acc.length := by simp [sortInts]
      have e2 : C (k + 1) 112 [.var 0 0, .d (.int .i64 3), .d (.list 1 (I1 (sortInts acc)))] = some [(false, [.row 3 1 (I1 (Lib.compact (sortInts acc)))]), (true, [])] := by
        show compactP _ = _
        unfold compactP rawArg
        simp only [ints_I1]
        rw [show Nat.ble (sortInts acc).length 1099511627776 = true from Nat.ble_eq_true_of_le (by omega)]
        rfl
      refine ⟨Lib.compact (sortInts acc), ?_, fun z => ?_, ?_⟩
      · rw [F67.L3.succ, ite'_f (lt_f (by omega)), e1]
        simp only [bindR_s, resO_s, bindL_s]
        rw [e2]
        rfl
      · rw [mem_compact, mem_sortInts, hmem z]
      · have := compact_len (sortInts acc)
        omega
    | succ m ih =>
      intro i n acc hm hn ha hmem
      obtain ⟨n, rfl⟩ : ∃ j, n = j + 1 := ⟨n - 1, by omega⟩
      have hi : i < xs.length := by omega
      have hx := List.getElem?_eq_getElem hi
      rw [F67.L3.succ, A1_len, ite'_t (lt_t hi), ite'_t (inR_t hi)]
      simp only [Int.toNat_natCast, cellI_at (A1_get hx), cellL_at (A1_get hx), List.getElem?_cons_zero, List.getElem?_cons_succ, Option.bind_some, asI_s, asL_s, bindI_s, bindL_s]
      have hta := terms_at hx
      have htl := terms_le xs (i + 1)
      rw [I1_len]
      obtain ⟨acc', e, h1, h2⟩ := inner i _ hx (xs[i]).2.length 0 k n acc (by omega) (by omega) (by omega) (fun z => by simp [hmem z])
      rw [show ((0 : Nat) : Int) = 0 from rfl] at e
      rw [e]
      exact ih (i + 1) n acc' (by omega) (by omega) h1 h2
  have := outer xs.length 0 k [] (by omega) (by omega) (by simp) (fun z => by simp [isVar])
  exact this
theorem sortP_show : True := trivial
/-- spec.l4Put -/
theorem c109 (zs : List Int) (v : Int) (hk : zs.length < k) (hz : zs.length ≤ 1048576) : ∃ r ws, C (k + 1) 109 [.d (.list 1 (I1 zs)), .d (.int .i64 v)] = some r ∧ resL 1 1 false 1 r 0 0 = some (I1 ws) ∧ (∀ z, z ∈ ws ↔ z ∈ zs ∨ z = v) ∧ ws.length ≤ zs.length + 1 := by
  rw [F109.run]
  have hmax : (1048576 : Nat) ≤ maxLen := by decide
  have ins : ∀ i : Nat, i ≤ zs.length → ∃ r ws, (ite' (inS (i : Int) ((I1 zs).length : Int) (I1 zs).length) (ite' (fits (([[D.int .i64 v]] : Ovi.Rows).length + ((I1 zs).drop (i : Int).toNat).length)) (ite' (inS (0 : Int) (i : Int) (I1 zs).length) (ite' (fits ((I1 zs).take (i : Int).toNat).length) (ite' (fits (((I1 zs).take (i : Int).toNat).length + List.length ([[D.int .i64 v]] ++ (I1 zs).drop (i : Int).toNat))) (some ([(false, [RL.row 3 1 ((I1 zs).take (i : Int).toNat ++ ([[D.int .i64 v]] ++ (I1 zs).drop (i : Int).toNat))])] : Res)) none) none) none) none) none) = some r ∧ resL 1 1 false 1 r 0 0 = some (I1 ws) ∧ (∀ z, z ∈ ws ↔ z ∈ zs ∨ z = v) ∧ ws.length ≤ zs.length + 1 := by
    intro i hi
    rw [I1_len, ite'_t (by simp [inS]; omega), ite'_t (fits_t (by simp [I1_len]; omega)), ite'_t (by simp [inS]; omega), ite'_t (fits_t (by simp [I1_len]; omega)), ite'_t (fits_t (by simp [I1_len]; omega))]
    refine ⟨_, zs.take i ++ v :: zs.drop i, rfl, ?_, fun z => ?_, by simp; omega⟩
    · rw [resL_s]
      simp [I1]
    · have : z ∈ zs ↔ z ∈ zs.take i ∨ z ∈ zs.drop i := by rw [← List.mem_append, List.take_append_drop]
      rw [this, List.mem_append, List.mem_cons]
      constructor
      · rintro (h | h | h)
        · exact .inl (.inl h)
        · exact .inr h
        · exact .inl (.inr h)
      · rintro ((h | h) | h)
        · exact .inl h
        · exact .inr (.inr h)
        · exact .inr (.inl h)
  have main : ∀ (m i n : Nat), i + m = zs.length → m < n → ∃ r ws, F109.L2 k (C k) n (I1 zs) v (i : Int) = some r ∧ resL 1 1 false 1 r 0 0 = some (I1 ws) ∧ (∀ z, z ∈ ws ↔ z ∈ zs ∨ z = v) ∧ ws.length ≤ zs.length + 1 := by
    intro m
    induction m with
    | zero =>
      intro i n hm hn
      obtain ⟨n, rfl⟩ : ∃ j, n = j + 1 := ⟨n - 1, by omega⟩
      obtain ⟨r, ws, h1, h2⟩ := ins i (by omega)
      refine ⟨r, ws, ?_, h2⟩
      rw [F109.L2.succ]
      rw [ite'_f (b := decide ((i : Int) < ((I1 zs).length : Int))) (by rw [I1_len]; exact lt_f (by omega))]
      rw [ite'_f (b := decide ((i : Int) < ((I1 zs).length : Int))) (by rw [I1_len]; exact lt_f (by omega))]
      exact h1
    | succ m ih =>
      intro i n hm hn
      obtain ⟨n, rfl⟩ : ∃ j, n = j + 1 := ⟨n - 1, by omega⟩
      have hi : i < zs.length := by omega
      have hx := List.getElem?_eq_getElem hi
      obtain ⟨r, ws, h1, h2⟩ := ins i (by omega)
      rw [F109.L2.succ]
      rw [ite'_t (b := decide ((i : Int) < ((I1 zs).length : Int))) (by rw [I1_len]; exact lt_t hi)]
      rw [ite'_t (b := inR (i : Int) (I1 zs).length) (by rw [I1_len]; exact inR_t hi)]
      rw [show cellI .i64 (I1 zs) (i : Int).toNat 0 = some zs[i] by rw [Int.toNat_natCast, cellI_at (I1_get' hx)]; rfl]
      simp only [bindI_s]
      by_cases hlt : zs[i] < v
      · rw [ite'_t (by simpa using hlt), next_i hi (m := zs.length) (by omega)]
        exact ih (i + 1) n (by omega) (by omega)
      · rw [ite'_f (b := decide (zs[i] < v)) (by simpa using hlt)]
        rw [ite'_t (b := decide ((i : Int) < ((I1 zs).length : Int))) (by rw [I1_len]; exact lt_t hi)]
        rw [ite'_t (b := inR (i : Int) (I1 zs).length) (by rw [I1_len]; exact inR_t hi)]
        by_cases heq : zs[i] = v
        · rw [ite'_t (b := zs[i] == v) (by simpa using heq)]
          refine ⟨_, zs, rfl, resL_d _ _, fun z => ⟨.inl, ?_⟩, by omega⟩
          rintro (h | h)
          · exact h
          · rw [h, ← heq]; exact List.getElem_mem hi
        · rw [ite'_f (b := zs[i] == v) (by simpa using heq)]
          exact ⟨r, ws, h1, h2⟩
  have := main zs.length 0 k (by omega) (by omega)
  exact this
/-- spec.Variables -/
theorem c62 (xs : List Atom) (hk : terms xs + xs.length < k) (hs : terms xs + xs.length ≤ 1048576) : ∃ vs, C (k + 2) 62 [.d (.list 2 (A1 xs))] = some [(false, [.d (.list 1 (I1 vs))])] ∧ (∀ z, z ∈ vs ↔ isVar xs z) ∧ vs.length ≤ terms xs := by
  rw [F62.run]
  have hmax : (1048576 : Nat) ≤ maxLen := by decide
  have inner : ∀ (i : Nat) (x : Atom), xs[i]? = some x → ∀ (m j n k3 : Nat) (acc : List Int), j + m = x.2.length → m < n → acc.length ≤ terms (xs.take i) + j → (∀ z, z ∈ acc ↔ isVar (xs.take i) z ∨ (0 ≤ z ∧ z ∈ x.2.take j)) →
      ∃ acc', F62.L6 (k + 1) (C (k + 1)) k3 n (A1 xs) (I1 acc) (i : Int) (j : Int) = F62.L3 (k + 1) (C (k + 1)) k3 (A1 xs) (I1 acc') ((i + 1 : Nat) : Int) ∧ acc'.length ≤ terms (xs.take (i + 1)) ∧ ∀ z, z ∈ acc' ↔ isVar (xs.take (i + 1)) z := by
    intro i x hx m
    have hi := (List.getElem?_eq_some_iff.1 hx).1
    have hta := terms_at hx
    have htl := terms_le xs (i + 1)
    have hcell : cellL 1 (A1 xs) ((i : Int)).toNat 1 = some (I1 x.2) := by rw [Int.toNat_natCast, cellL_at (A1_get hx)]; rfl
    have hin : inR (i : Int) (A1 xs).length = true := by rw [A1_len]; exact inR_t hi
    induction m with
    | zero =>
      intro j n k3 acc hm hn ha hmem
      obtain ⟨n, rfl⟩ : ∃ j, n = j + 1 := ⟨n - 1, by omega⟩
      obtain rfl : j = x.2.length := by omega
      refine ⟨acc, ?_, by omega, fun z => ?_⟩
      · rw [F62.L6.succ, ite'_t hin, hcell, bindL_s, I1_len, ite'_f (lt_f (by omega)), next_i hi (m := xs.length) (by omega)]
      · rw [hmem z, isVar_take hx, List.take_length]
    | succ m ih =>
      intro j n k3 acc hm hn ha hmem
      obtain ⟨n, rfl⟩ : ∃ j, n = j + 1 := ⟨n - 1, by omega⟩
      have hj : j < x.2.length := by omega
      have hz := List.getElem?_eq_getElem hj
      have hcz : cellI .i64 (I1 x.2) ((j : Int)).toNat 0 = some x.2[j] := by rw [Int.toNat_natCast, cellI_at (I1_get' hz)]; rfl
      have hinj : inR (j : Int) (I1 x.2).length = true := by rw [I1_len]; exact inR_t hj
      rw [F62.L6.succ, ite'_t hin, hcell, bindL_s, ite'_t (b := decide ((j : Int) < ((I1 x.2).length : Int))) (by rw [I1_len]; exact lt_t hj), ite'_t hin]
      simp only [bindL_s]
      rw [ite'_t hinj, hcz]
      simp only [bindI_s]
      rw [next_i hj (m := x.2.length) (by omega)]
      have htk : ∀ z, z ∈ x.2.take (j + 1) ↔ z ∈ x.2.take j ∨ z = x.2[j] := by
        intro z
        rw [List.take_succ_eq_append_getElem hj]
        simp only [List.mem_append, List.mem_singleton]
      by_cases h0 : 0 ≤ x.2[j]
      · obtain ⟨r, ws, e1, e2, e3, e4⟩ := c109 (k := k) acc x.2[j] (by omega) (by omega)
        rw [ite'_t (by simpa using h0), ite'_t hin, ite'_t hinj, e1]
        simp only [bindR_s]
        rw [e2, bindL_s]
        refine ih (j + 1) n k3 _ (by omega) (by omega) (by omega) (fun z => ?_)
        rw [e3 z, hmem z, htk z]
        constructor
        · rintro ((h | h) | h)
          · exact .inl h
          · exact .inr ⟨h.1, .inl h.2⟩
          · exact .inr ⟨h ▸ h0, .inr h⟩
        · rintro (h | ⟨h1, h | h⟩)
          · exact .inl (.inl h)
          · exact .inl (.inr ⟨h1, h⟩)
          · exact .inr h
      · rw [ite'_f (by simpa using h0)]
        refine ih (j + 1) n k3 _ (by omega) (by omega) (by omega) (fun z => ?_)
        rw [hmem z, htk z]
        constructor
        · rintro (h | h)
          · exact .inl h
          · exact .inr ⟨h.1, .inl h.2⟩
        · rintro (h | ⟨h1, h | h⟩)
          · exact .inl h
          · exact .inr ⟨h1, h⟩
          · exact absurd (h ▸ h1) h0
  have outer : ∀ (m i n : Nat) (acc : List Int), i + m = xs.length → m < n → acc.length ≤ terms (xs.take i) → (∀ z, z ∈ acc ↔ isVar (xs.take i) z) →
      ∃ vs, F62.L3 (k + 1) (C (k + 1)) n (A1 xs) (I1 acc) (i : Int) = some [(false, [.d (.list 1 (I1 vs))])] ∧ (∀ z, z ∈ vs ↔ isVar xs z) ∧ vs.length ≤ terms xs := by
    intro m
    induction m with
    | zero =>
      intro i n acc hm hn ha hmem
      obtain ⟨n, rfl⟩ : ∃ j, n = j + 1 := ⟨n - 1, by omega⟩
      obtain rfl : i = xs.length := by omega
      rw [List.take_length] at ha hmem
      exact ⟨acc, by rw [F62.L3.succ, A1_len, ite'_f (lt_f (by omega))], hmem, ha⟩
    | succ m ih =>
      intro i n acc hm hn ha hmem
      obtain ⟨n, rfl⟩ : ∃ j, n = j + 1 := ⟨n - 1, by omega⟩
      have hi : i < xs.length := by omega
      have hx := List.getElem?_eq_getElem hi
      have hta := terms_at hx
      have htl := terms_le xs (i + 1)
      rw [F62.L3.succ, A1_len, ite'_t (lt_t hi)]
      obtain ⟨acc', e, h1, h2⟩ := inner i _ hx (xs[i]).2.length 0 (k + 1) n acc (by omega) (by omega) (by omega) (fun z => by simp [hmem z])
      rw [show ((0 : Nat) : Int) = 0 from rfl] at e
      rw [e]
      exact ih (i + 1) n acc' (by omega) (by omega) h1 h2
  have := outer xs.length 0 (k + 1) [] (by omega) (by omega) (by simp) (fun z => by simp [isVar])
  exact this
end Go.Proofs.Ytekcjghbfbfmpaa.Q

/-! Ja -/
namespace Go.Proofs.Ytekcjghbfbfmpaa.Q
open Go Ovi
variable {k : Nat}
noncomputable def vB (xs : List Atom) (z : Int) : Bool := @decide (isVar xs z) (Classical.propDecidable _)
theorem vB_mem {xs : List Atom} {vs : List Int} (h : ∀ z, z ∈ vs ↔ isVar xs z) (z : Int) : decide (z ∈ vs) = vB xs z := by
  unfold vB
  rw [Bool.eq_iff_iff]
  simp [h z]
/-- what both IsValidAtom say -/
def Valid (a : Ovi.Rows) (xs : List Atom) (valid : Atom → Bool) : Prop := ∀ x ∈ xs, ∀ k, a.length < k → x.2.length < k → C (k + 5) 116 [.d (.list 3 a), .agg [.d (.int .i64 x.1), .d (.list 1 (I1 x.2))]] = bo (valid x) ∧ C (k + 5) 63 [.d (.list 3 a), .agg [.d (.int .i64 x.1), .d (.list 1 (I1 x.2))]] = bo (valid x)
theorem valid_ex {a : Ovi.Rows} (ha : Fit Rl (.list 3 a)) (xs : List Atom) (hx : ∀ x ∈ xs, x.2.length ≤ maxLen) : ∃ valid, Valid a xs valid := by
  have : ∀ x : Atom, ∃ b, x ∈ xs → ∀ k, a.length < k → x.2.length < k → C (k + 5) 116 [.d (.list 3 a), .agg [.d (.int .i64 x.1), .d (.list 1 (I1 x.2))]] = bo b ∧ C (k + 5) 63 [.d (.list 3 a), .agg [.d (.int .i64 x.1), .d (.list 1 (I1 x.2))]] = bo b := by
    intro x
    by_cases h : x ∈ xs
    · obtain ⟨b, hb⟩ := atoms ha x (hx x h)
      exact ⟨b, fun _ => hb⟩
    · exact ⟨false, fun h' => absurd h' h⟩
  obtain ⟨valid, hv⟩ := Classical.axiomOfChoice this
  exact ⟨valid, fun x hx => hv x hx⟩
noncomputable def qOk (valid : Atom → Bool) (xs : List Atom) (out : List Int) : Bool := (decide ((1 : Int) ≤ (xs.length : Int) ∧ (xs.length : Int) ≤ 3) && xs.all valid) && (decide ((out.length : Int) ≤ 3) && out.all (vB xs))
theorem len_terms {xs : List Atom} {x : Atom} (h : x ∈ xs) : x.2.length ≤ terms xs := by
  induction xs with
  | nil => cases h
  | cons y ys ih =>
    have e : terms (y :: ys) = y.2.length + terms ys := by simp [terms]
    rw [e]
    rcases List.mem_cons.1 h with rfl | h
    · omega
    · have := ih h; omega
theorem any_not {α : Type} (l : List α) (p : α → Bool) : (!(l.any fun x => !p x)) = l.all p := by
  induction l with
  | nil => rfl
  | cons x l ih => rw [List.any_cons, List.all_cons, ← ih]; cases p x <;> simp
/-- impl.IsValidQuery -/
theorem c19 {a : Ovi.Rows} {xs : List Atom} {out : List Int} {valid : Atom → Bool} (hv : Valid a xs valid) (hk : 2000000 ≤ k) (ha : a.length ≤ 1048576) (hs : terms xs + xs.length ≤ 1048576) (ho : out.length ≤ 1048576) :
    C (k + 10) 19 [.d (.list 3 a), .agg [.d (.list 1 (I1 out)), .d (.list 2 (A1 xs))]] = bo (qOk valid xs out) := by
  have hmax : (1048576 : Nat) ≤ maxLen := by decide
  obtain ⟨vs, e, hm, hl⟩ := c67 (k := k + 8) xs (by omega) hs
  rw [F19.run, e]
  simp only [bindR_s, resO_s, bindL_s]
  have e68 : C (k + 9) 68 [.d (.list 3 a), .d (.list 2 (A1 xs)), .d (.int .i64 3)] = bo (decide ((1 : Int) ≤ (xs.length : Int) ∧ (xs.length : Int) ≤ 3) && xs.all valid) := by
    rw [F68.run, c113, bB, A1_len]
    cases decide ((1 : Int) ≤ (xs.length : Int) ∧ (xs.length : Int) ≤ 3) with
    | false => rfl
    | true =>
      rw [ite'_t rfl, c114 (k := k + 6) xs 115 [[.list 3 a]] (fun x => !valid x) (by omega) (by omega) (fun x hx => by
        have := len_terms hx
        rw [List.map_cons, List.map_nil, F115.run, (hv x hx k (by omega) (by omega)).1, bB]; rfl), bB]
      exact bo_eq (any_not xs valid)
  rw [e68, bB, I1_len]
  unfold qOk
  cases (decide ((1 : Int) ≤ (xs.length : Int) ∧ (xs.length : Int) ≤ 3) && xs.all valid) with
  | false => rfl
  | true =>
    rw [ite'_t rfl]
    by_cases h3 : (out.length : Int) ≤ 3
    · rw [ite'_t (by simpa using h3), c69 (k := k + 7) out 70 [[.list 1 (I1 vs)]] (fun z => !vB xs z) (by omega) (by omega) (fun z hz => by
        rw [List.map_cons, List.map_nil, F70.run, c71 (k := k + 4) vs z (by omega) (by omega), bB, vB_mem hm]; rfl), bB, decide_eq_true h3]
      exact bo_eq (any_not out (vB xs))
    · rw [ite'_f (by simpa using h3), decide_eq_false h3]
      rfl
/-- spec.IsValidQuery -/
theorem c17 {a : Ovi.Rows} {xs : List Atom} {out : List Int} {valid : Atom → Bool} (hv : Valid a xs valid) (hk : 2000000 ≤ k) (ha : a.length ≤ 1048576) (hs : terms xs + xs.length ≤ 1048576) (ho : out.length ≤ 1048576) :
    C (k + 10) 17 [.d (.list 3 a), .agg [.d (.list 1 (I1 out)), .d (.list 2 (A1 xs))]] = bo (qOk valid xs out) := by
  have hmax : (1048576 : Nat) ≤ maxLen := by decide
  obtain ⟨vs, e, hm, hl⟩ := c62 (k := k + 7) xs (by omega) hs
  rw [F17.run, e]
  simp only [bindR_s, resL_d, bindL_s]
  have l8 : F17.L8 (k + 9) (C (k + 9)) (k + 9) (I1 vs) 0 (I1 out) (A1 xs) = cond (out.any fun z => !vB xs z) (bo false) (bo (decide ((1 : Int) ≤ (xs.length : Int) ∧ (xs.length : Int) ≤ 3) && decide ((out.length : Int) ≤ 3))) :=
    loop_any (xs := out) (L := fun n i => F17.L8 (k + 9) (C (k + 9)) n (I1 vs) i (I1 out) (A1 xs)) (stop := fun z => !vB xs z)
      (fun n i z hz => by
        have hi := (List.getElem?_eq_some_iff.1 hz).1
        rw [F17.L8.succ, I1_len, ite'_t (lt_t hi), ite'_t (inR_t hi)]
        simp only [Int.toNat_natCast, cellI_at (I1_get' hz), List.getElem?_cons_zero, Option.bind_some, asI_s, bindI_s]
        rw [c64 (k := k + 8) vs z (by omega) (by omega), bB, vB_mem hm, next_i hi (m := out.length) (by omega)]; rfl)
      (fun n => by
        rw [F17.L8.succ, I1_len, ite'_f (lt_f (by omega)), c65, bB, A1_len]
        cases decide ((1 : Int) ≤ (xs.length : Int) ∧ (xs.length : Int) ≤ 3) <;> rfl) (k + 9) (by omega)
  have l3 : F17.L3 (k + 9) (C (k + 9)) (k + 9) a (I1 vs) 0 (I1 out) (A1 xs) = cond (xs.any fun x => !valid x) (bo false) (F17.L8 (k + 9) (C (k + 9)) (k + 9) (I1 vs) 0 (I1 out) (A1 xs)) :=
    loop_any (xs := xs) (L := fun n i => F17.L3 (k + 9) (C (k + 9)) n a (I1 vs) i (I1 out) (A1 xs)) (stop := fun x => !valid x)
      (fun n i x hx => by
        have hi := (List.getElem?_eq_some_iff.1 hx).1
        have := len_terms (List.mem_of_getElem? hx)
        rw [F17.L3.succ, A1_len, ite'_t (lt_t hi), ite'_t (inR_t hi)]
        simp only [Int.toNat_natCast, cellI_at (A1_get hx), cellL_at (A1_get hx), List.getElem?_cons_zero, List.getElem?_cons_succ, Option.bind_some, asI_s, asL_s, bindI_s, bindL_s]
        rw [(hv x (List.mem_of_getElem? hx) (k + 4) (by omega) (by omega)).2, bB, next_i hi (m := xs.length) (by omega)]; rfl)
      (fun n => by rw [F17.L3.succ, A1_len, ite'_f (lt_f (by omega))]) (k + 9) (by omega)
  rw [l3, l8]
  unfold qOk
  rw [← any_not xs valid, ← any_not out (vB xs)]
  cases (xs.any fun x => !valid x) <;> cases (out.any fun z => !vB xs z) <;> cases decide ((1 : Int) ≤ (xs.length : Int) ∧ (xs.length : Int) ≤ 3) <;> cases decide ((out.length : Int) ≤ 3) <;> rfl
def In1 : Ty := .list [.int .i64]
def At : Ty := .list [.int .i64, .list [.int .i64]]
theorem sz_atoms {xs : List Atom} : szD (.list 2 (A1 xs)) = xs.length + terms xs := by
  simp only [szD, A1_len, szR_A1]
  rfl
theorem sz_ints {zs : List Int} : szD (.list 1 (I1 zs)) = zs.length := by simp only [szD, I1_len, szR_I1, Nat.add_zero]
theorem sz_rels {a : Ovi.Rows} : a.length ≤ szD (.list 3 a) := by simp only [szD]; omega
/-- the law of IsValidQuery -/
theorem law4 (hk : 3000000 ≤ k) {a b c : Ovi.Rows} (h1 : Fit Rl (.list 3 a)) (h2 : Fit In1 (.list 1 b)) (h3 : Fit At (.list 2 c)) : C k 4 [.d (.list 3 a), .agg [.d (.list 1 b), .d (.list 2 c)]] = bo true := by
  obtain ⟨k, rfl⟩ : ∃ j, k = j + 11 := ⟨k - 11, by omega⟩
  have hmax : (1048576 : Nat) ≤ maxLen := by decide
  rw [F4.run, c16 (k := k + 10) (by omega) h1 (by omega) (by omega)]
  simp only [bindR_s, resI_s, bindI_s]
  rcases szT_cases 1048576 (szD (.list 3 a)) with ⟨q, e⟩ | ⟨q, e⟩ <;> rw [e]
  rotate_left
  · rw [ite'_t neg_t]; rfl
  rw [ite'_f (neg_f (by omega)), c11 (k := k + 10) (by omega) h2 h3 (by omega) (by omega)]
  simp only [bindR_s, resI_s, bindI_s]
  rcases szT_cases (1048576 - ((szD (.list 3 a) : Nat) : Int)) (szC [.list 1 b, .list 2 c]) with ⟨q1, e1⟩ | ⟨q1, e1⟩ <;> rw [e1]
  rotate_left
  · rw [ite'_t neg_t]; rfl
  have q2 := q1
  simp only [szC] at q2
  have s0 : szD (.list 3 a) ≤ 1048576 := by omega
  have s1 : szD (.list 1 b) ≤ 1048576 := by omega
  have s2 : szD (.list 2 c) ≤ 1048576 := by omega
  rw [ite'_f (neg_f (by omega)), c18 (k := k + 10) (by omega) h1 s0, c13 (k := k + 10) (by omega) h2 h3 s1 s2]
  simp only [bindR_s, resO_s, F13x0, F13x1, bindL_s]
  obtain ⟨zs, rfl⟩ := h2.ints
  obtain ⟨xs, rfl⟩ := h3.atoms
  have s1' := s1
  have s2' := s2
  rw [sz_ints] at s1'
  rw [sz_atoms] at s2'
  have s0' := Nat.le_trans sz_rels s0
  obtain ⟨valid, hv⟩ := valid_ex h1 xs (fun x hx => by have := len_terms hx; omega)
  rw [c17 hv (by omega) s0' (by omega) s1', bB, c19 hv (by omega) s0' (by omega) s1', bB, ite'_f (by simp), c20 (k := k + 10) (by omega) h1 s0, c15 (k := k + 10) (by omega) h2 h3 s1 s2]
  rfl
/-- the law of IsValidInequality -/
theorem law5 (hk : 3000000 ≤ k) {a b c : Ovi.Rows} {l r : Int} (h1 : Fit Rl (.list 3 a)) (h2 : Fit In1 (.list 1 b)) (h3 : Fit At (.list 2 c)) : C k 5 [.d (.list 3 a), .agg [.d (.list 1 b), .d (.list 2 c), .d (.int .i64 l), .d (.int .i64 r)]] = bo true := by
  obtain ⟨k, rfl⟩ : ∃ j, k = j + 12 := ⟨k - 12, by omega⟩
  have hmax : (1048576 : Nat) ≤ maxLen := by decide
  rw [F5.run, c16 (k := k + 11) (by omega) h1 (by omega) (by omega)]
  simp only [bindR_s, resI_s, bindI_s]
  rcases szT_cases 1048576 (szD (.list 3 a)) with ⟨q, e⟩ | ⟨q, e⟩ <;> rw [e]
  rotate_left
  · rw [ite'_t neg_t]; rfl
  rw [ite'_f (neg_f (by omega)), c21 (k := k + 11) (by omega) h2 h3 (by omega) (by omega)]
  simp only [bindR_s, resI_s, bindI_s]
  rcases szT_cases (1048576 - ((szD (.list 3 a) : Nat) : Int)) (szC [.list 1 b, .list 2 c, .int .i64 l, .int .i64 r]) with ⟨q1, e1⟩ | ⟨q1, e1⟩ <;> rw [e1]
  rotate_left
  · rw [ite'_t neg_t]; rfl
  have q2 := q1
  simp only [szC] at q2
  have s0 : szD (.list 3 a) ≤ 1048576 := by omega
  have s1 : szD (.list 1 b) ≤ 1048576 := by omega
  have s2 : szD (.list 2 c) ≤ 1048576 := by omega
  rw [ite'_f (neg_f (by omega)), c18 (k := k + 11) (by omega) h1 s0, c23 (k := k + 11) (by omega) h2 h3 s1 s2]
  simp only [bindR_s, resO_s, F23x0, F23x1, F23x2, F23x3, bindL_s, bindI_s]
  obtain ⟨zs, rfl⟩ := h2.ints
  obtain ⟨xs, rfl⟩ := h3.atoms
  have s1' := s1
  have s2' := s2
  rw [sz_ints] at s1'
  rw [sz_atoms] at s2'
  have s0' := Nat.le_trans sz_rels s0
  obtain ⟨valid, hv⟩ := valid_ex h1 xs (fun x hx => by have := len_terms hx; omega)
  obtain ⟨vs, e67, hm, hl⟩ := c67 (k := k + 9) xs (by omega) (by omega)
  obtain ⟨ws, e62, hm', hl'⟩ := c62 (k := k + 8) xs (by omega) (by omega)
  have e22 : C (k + 11) 22 [.d (.list 3 a), .agg [.d (.list 1 (I1 zs)), .d (.list 2 (A1 xs)), .d (.int .i64 l), .d (.int .i64 r)]] = bo (qOk valid xs zs && (vB xs l && (vB xs r && (l != r)))) := by
    rw [F22.run, e62]
    simp only [bindR_s, resL_d, bindL_s]
    rw [c17 hv (by omega) s0' (by omega) s1', bB, c64 (k := k + 9) ws l (by omega) (by omega), c64 (k := k + 9) ws r (by omega) (by omega), vB_mem hm', vB_mem hm', bB, bB]
    cases qOk valid xs zs <;> cases vB xs l <;> cases vB xs r <;> rfl
  have e24 : C (k + 11) 24 [.d (.list 3 a), .agg [.d (.list 1 (I1 zs)), .d (.list 2 (A1 xs)), .d (.int .i64 l), .d (.int .i64 r)]] = bo (qOk valid xs zs && (vB xs l && (vB xs r && (l != r)))) := by
    rw [F24.run, e67]
    simp only [bindR_s, resO_s, bindL_s]
    rw [c19 hv (by omega) s0' (by omega) s1', bB, c71 (k := k + 8) vs l (by omega) (by omega), c71 (k := k + 8) vs r (by omega) (by omega), vB_mem hm, vB_mem hm, bB, bB]
    cases qOk valid xs zs <;> cases vB xs l <;> cases vB xs r <;> cases (l != r) <;> rfl
  rw [e22, bB, e24, bB, ite'_f (by simp), c20 (k := k + 11) (by omega) h1 s0, c25 (k := k + 11) (by omega) h2 h3 s1 s2]
  rfl
end Go.Proofs.Ytekcjghbfbfmpaa.Q

/-! Hb -/
namespace Go.Proofs.Ytekcjghbfbfmpaa.Q
open Go Ovi
variable {k : Nat}
/-! ### values -/
def isN (v : Int) : Bool := decide (-40 ≤ v ∧ v ≤ -1)
def okV (v : Int) : Bool := decide (-40 ≤ v ∧ v ≤ 9)
def nn (v : Int) : Option Res := some [(false, [.d (.int .i64 (if isN v then -1 - v else 0))]), (false, [.d (.bool (isN v))])]
theorem nnB (v : Int) (f : Int → Bool → Option Res) : (bindR (nn v) fun r => bindI (resI .i64 2 false 1 r 0 0) fun n => bindB (resB 2 false 1 r 1 0) fun b => f n b) = f (if isN v then -1 - v else 0) (isN v) := rfl
theorem isN_t {v : Int} (h : isN v = true) : -40 ≤ v ∧ v ≤ -1 := of_decide_eq_true h
theorem isN_f {v : Int} (h : isN v = false) : ¬ (-40 ≤ v ∧ v ≤ -1) := of_decide_eq_false h
theorem wrapN {v : Int} (h : inI v) : IntKind.i64.wrap (-1 - v) = -1 - v := by unfold inI at h; exact wrap_id (by omega) (by omega)
/-- spec.NullNumber -/
theorem c89 {v : Int} (h : inI v) : C (k + 2) 89 [.d (.int .i64 v)] = nn v := by
  rw [F89.run]
  by_cases h0 : v ≥ 0
  · rw [ite'_t (by simpa using h0)]
    have : isN v = false := decide_eq_false (by omega)
    simp [nn, this]
  · rw [ite'_f (by simpa using h0), wrapN h, c65, bB]
    by_cases h1 : isN v = true
    · have := isN_t h1
      rw [decide_eq_true (by omega), ite'_nt]
      simp [nn, h1]
    · have h1 : isN v = false := by simpa using h1
      have := isN_f h1
      rw [decide_eq_false (by omega), ite'_nf]
      simp [nn, h1]
/-- impl.NullNumber -/
theorem c168 {v : Int} (h : inI v) : C (k + 2) 168 [.d (.int .i64 v)] = nn v := by
  rw [F168.run, wrapN h, c113, bB]
  by_cases h1 : isN v = true
  · have := isN_t h1
    rw [decide_eq_true (by omega), ite'_nt]
    simp [nn, h1]
  · have h1 : isN v = false := by simpa using h1
    have := isN_f h1
    rw [decide_eq_false (by omega), ite'_nf]
    simp [nn, h1]
/-- spec.IsValidValue -/
theorem c90 {v : Int} (h : inI v) : C (k + 3) 90 [.d (.int .i64 v)] = bo (okV v) := by
  rw [F90.run, c89 h, nnB]
  by_cases h1 : isN v = true
  · have := isN_t h1
    rw [ite'_t h1]
    exact bo_eq (b := true) (by rw [okV, decide_eq_true (by omega)])
  · have h1 : isN v = false := by simpa using h1
    have := isN_f h1
    rw [ite'_f h1, c65, bB]
    refine bo_eq ?_
    unfold okV
    rw [Bool.eq_iff_iff]
    simp only [decide_eq_true_eq]
    omega
/-- impl.IsValidValue -/
theorem c162 (v : Int) : C (k + 2) 162 [.d (.int .i64 v)] = bo (okV v) := by
  rw [F162.run, c113, bB]; rfl
/-- the numbers of the nulls among values -/
def nulls (zs : List Int) : List Int := Lib.compact (sortInts ((zs.filter isN).map fun v => -1 - v))
theorem nulls_ss (zs : List Int) : SS (nulls zs) := ss_compact _
theorem mem_nulls (zs : List Int) (n : Int) : n ∈ nulls zs ↔ ∃ v ∈ zs, isN v = true ∧ n = -1 - v := by
  unfold nulls
  rw [mem_compact, mem_sortInts]
  simp only [List.mem_map, List.mem_filter]
  constructor
  · rintro ⟨v, ⟨h1, h2⟩, rfl⟩; exact ⟨v, h1, h2, rfl⟩
  · rintro ⟨v, h1, h2, rfl⟩; exact ⟨v, ⟨h1, h2⟩, rfl⟩
theorem nulls_len (zs : List Int) : (nulls zs).length ≤ zs.length := by
  unfold nulls
  have h1 := compact_len (sortInts ((zs.filter isN).map fun v => -1 - v))
  have h2 : (sortInts ((zs.filter isN).map fun v => -1 - v)).length = (zs.filter isN).length := by simp [sortInts]
  have h3 := List.length_filter_le isN zs
  omega
/-- impl.nullsOf -/
theorem c165 (zs : List Int) (hI : ∀ z ∈ zs, inI z) (hk : zs.length < k) (hz : zs.length ≤ 1048576) : C (k + 3) 165 [.d (.list 1 (I1 zs))] = some [(false, [.row 3 1 (I1 (nulls zs))])] := by
  rw [F165.run, I1_len]
  have hmax : (1048576 : Nat) ≤ maxLen := by decide
  have main : ∀ (m i n : Nat), i + m = zs.length → m < n → F165.L3 (k + 2) (C (k + 2)) n (I1 zs) (zs.length : Int) (i : Int) (I1 (((zs.take i).filter isN).map fun v => -1 - v)) = some [(false, [.row 3 1 (I1 (nulls zs))])] := by
    intro m
    induction m with
    | zero =>
      intro i n hm hn
      obtain ⟨n, rfl⟩ : ∃ j, n = j + 1 := ⟨n - 1, by omega⟩
      obtain rfl : i = zs.length := by omega
      rw [List.take_length]
      have hf := List.length_filter_le isN zs
      generalize hacc : (zs.filter isN).map (fun v => -1 - v) = acc
      have hal : acc.length ≤ zs.length := by rw [← hacc]; simpa using hf
      have e1 : C (k + 2) 111 [.var 0 0, .d (.int .i64 3), .d (.list 1 (I1 acc))] = some [(false, [.row 3 1 (I1 (sortInts acc))])] := by
        show sortP _ = _
        unfold sortP rawArg
        simp only [ints_I1]
        rw [show Nat.ble acc.length 1099511627776 = true from Nat.ble_eq_true_of_le (by omega)]
        rfl
      have hsl : (sortInts acc).length = acc.length := by simp [sortInts]
      have e2 : C (k + 2) 112 [.var 0 0, .d (.int .i64 3), .d (.list 1 (I1 (sortInts acc)))] = some [(false, [.row 3 1 (I1 (Lib.compact (sortInts acc)))]), (true, [])] := by
        show compactP _ = _
        unfold compactP rawArg
        simp only [ints_I1]
        rw [show Nat.ble (sortInts acc).length 1099511627776 = true from Nat.ble_eq_true_of_le (by omega)]
        rfl
      rw [F165.L3.succ, ite'_f (lt_f (by omega)), e1]
      simp only [bindR_s, resO_s, bindL_s]
      rw [e2]
      unfold nulls
      rw [hacc]
      rfl
    | succ m ih =>
      intro i n hm hn
      obtain ⟨n, rfl⟩ : ∃ j, n = j + 1 := ⟨n - 1, by omega⟩
      have hi : i < zs.length := by omega
      have hx := List.getElem?_eq_getElem hi
      have hft := List.length_filter_le isN (zs.take i)
      rw [F165.L3.succ, I1_len, ite'_t (lt_t hi), ite'_t (inR_t hi)]
      simp only [Int.toNat_natCast, cellI_at (I1_get' hx), List.getElem?_cons_zero, Option.bind_some, asI_s, bindI_s]
      rw [c168 (hI _ (List.getElem_mem hi)), nnB, next_i hi (m := zs.length) (by omega)]
      have hstep : (zs.take (i + 1)).filter isN = (zs.take i).filter isN ++ (if isN zs[i] then [zs[i]] else []) := by
        rw [List.take_succ_eq_append_getElem hi, List.filter_append]
        cases h : isN zs[i] <;> simp [h]
      have := ih (i + 1) n (by omega) (by omega)
      rw [hstep] at this
      cases h : isN zs[i] with
      | true =>
        rw [ite'_t rfl, ite'_t (fits_t (by simp [I1_len] at hft ⊢; omega))]
        rw [h] at this
        simp only [if_true, List.map_append, List.map_cons, List.map_nil] at this ⊢
        rw [← this]
        simp [I1]
      | false =>
        rw [ite'_f rfl]
        rw [h] at this
        simpa using this
  exact main zs.length 0 (k + 2) (by omega) (by omega)
/-- spec.l4Put keeps the order -/
theorem c109s (zs : List Int) (v : Int) (hS : SS zs) (hk : zs.length < k) (hz : zs.length ≤ 1048576) : ∃ r ws, C (k + 1) 109 [.d (.list 1 (I1 zs)), .d (.int .i64 v)] = some r ∧ resL 1 1 false 1 r 0 0 = some (I1 ws) ∧ (∀ z, z ∈ ws ↔ z ∈ zs ∨ z = v) ∧ ws.length ≤ zs.length + 1 ∧ SS ws := by
  rw [F109.run]
  have hmax : (1048576 : Nat) ≤ maxLen := by decide
  have ins : ∀ i : Nat, i ≤ zs.length → (∀ (j : Nat) y, j < i → zs[j]? = some y → y < v) → (∀ y, zs[i]? = some y → v < y) → ∃ r ws, (ite' (inS (i : Int) ((I1 zs).length : Int) (I1 zs).length) (ite' (fits (([[D.int .i64 v]] : Ovi.Rows).length + ((I1 zs).drop (i : Int).toNat).length)) (ite' (inS (0 : Int) (i : Int) (I1 zs).length) (ite' (fits ((I1 zs).take (i : Int).toNat).length) (ite' (fits (((I1 zs).take (i : Int).toNat).length + List.length ([[D.int .i64 v]] ++ (I1 zs).drop (i : Int).toNat))) (some ([(false, [RL.row 3 1 ((I1 zs).take (i : Int).toNat ++ ([[D.int .i64 v]] ++ (I1 zs).drop (i : Int).toNat))])] : Res)) none) none) none) none) none) = some r ∧ resL 1 1 false 1 r 0 0 = some (I1 ws) ∧ (∀ z, z ∈ ws ↔ z ∈ zs ∨ z = v) ∧ ws.length ≤ zs.length + 1 ∧ SS ws := by
    intro i hi hlt hgt
    rw [I1_len, ite'_t (by simp [inS]; omega), ite'_t (fits_t (by simp [I1_len]; omega)), ite'_t (by simp [inS]; omega), ite'_t (fits_t (by simp [I1_len]; omega)), ite'_t (fits_t (by simp [I1_len]; omega))]
    refine ⟨_, zs.take i ++ v :: zs.drop i, rfl, ?_, fun z => ?_, by simp; omega, ?_⟩
    · rw [resL_s]
      simp [I1]
    · have : z ∈ zs ↔ z ∈ zs.take i ∨ z ∈ zs.drop i := by rw [← List.mem_append, List.take_append_drop]
      rw [this, List.mem_append, List.mem_cons]
      constructor
      · rintro (h | h | h)
        · exact .inl (.inl h)
        · exact .inr h
        · exact .inl (.inr h)
      · rintro ((h | h) | h)
        · exact .inl h
        · exact .inr (.inr h)
        · exact .inr (.inl h)
    · have hd : ∀ y ∈ zs.drop i, v < y := by
        intro y hy
        obtain ⟨j, hj⟩ := List.mem_iff_getElem?.1 hy
        rw [List.getElem?_drop] at hj
        have hil : i < zs.length := by have := (List.getElem?_eq_some_iff.1 hj).1; omega
        have h0 := hgt zs[i] (List.getElem?_eq_getElem hil)
        rcases Nat.eq_zero_or_pos j with rfl | hjp
        · rw [Nat.add_zero, List.getElem?_eq_getElem hil] at hj; cases hj; exact h0
        · obtain ⟨hjl, e⟩ := List.getElem?_eq_some_iff.1 hj
          have := List.pairwise_iff_getElem.1 hS i (i + j) hil hjl (by omega)
          omega
      have ht : ∀ y ∈ zs.take i, y < v := by
        intro y hy
        obtain ⟨j, hj⟩ := List.mem_iff_getElem?.1 hy
        obtain ⟨hjl, e⟩ := List.getElem?_eq_some_iff.1 hj
        simp only [List.length_take] at hjl
        rw [List.getElem?_take_of_lt (by omega)] at hj
        exact hlt j y (by omega) hj
      refine List.pairwise_append.2 ⟨hS.sublist (List.take_sublist _ _), List.pairwise_cons.2 ⟨hd, hS.sublist (List.drop_sublist _ _)⟩, fun x hx y hy => ?_⟩
      have := ht x hx
      rcases List.mem_cons.1 hy with rfl | hy
      · exact this
      · have := hd y hy; omega
  have main : ∀ (m i n : Nat), i + m = zs.length → m < n → (∀ (j : Nat) y, j < i → zs[j]? = some y → y < v) → ∃ r ws, F109.L2 k (C k) n (I1 zs) v (i : Int) = some r ∧ resL 1 1 false 1 r 0 0 = some (I1 ws) ∧ (∀ z, z ∈ ws ↔ z ∈ zs ∨ z = v) ∧ ws.length ≤ zs.length + 1 ∧ SS ws := by
    intro m
    induction m with
    | zero =>
      intro i n hm hn hlt
      obtain ⟨n, rfl⟩ : ∃ j, n = j + 1 := ⟨n - 1, by omega⟩
      obtain ⟨r, ws, h1, h2⟩ := ins i (by omega) hlt (fun y hy => by have := (List.getElem?_eq_some_iff.1 hy).1; omega)
      refine ⟨r, ws, ?_, h2⟩
      rw [F109.L2.succ]
      rw [ite'_f (b := decide ((i : Int) < ((I1 zs).length : Int))) (by rw [I1_len]; exact lt_f (by omega))]
      rw [ite'_f (b := decide ((i : Int) < ((I1 zs).length : Int))) (by rw [I1_len]; exact lt_f (by omega))]
      exact h1
    | succ m ih =>
      intro i n hm hn hlt0
      obtain ⟨n, rfl⟩ : ∃ j, n = j + 1 := ⟨n - 1, by omega⟩
      have hi : i < zs.length := by omega
      have hx := List.getElem?_eq_getElem hi
      rw [F109.L2.succ]
      rw [ite'_t (b := decide ((i : Int) < ((I1 zs).length : Int))) (by rw [I1_len]; exact lt_t hi)]
      rw [ite'_t (b := inR (i : Int) (I1 zs).length) (by rw [I1_len]; exact inR_t hi)]
      rw [show cellI .i64 (I1 zs) (i : Int).toNat 0 = some zs[i] by rw [Int.toNat_natCast, cellI_at (I1_get' hx)]; rfl]
      simp only [bindI_s]
      by_cases hlt : zs[i] < v
      · rw [ite'_t (by simpa using hlt), next_i hi (m := zs.length) (by omega)]
        refine ih (i + 1) n (by omega) (by omega) (fun j y hj hy => ?_)
        by_cases hji : j = i
        · subst hji; rw [hx] at hy; cases hy; exact hlt
        · exact hlt0 j y (by omega) hy
      · rw [ite'_f (b := decide (zs[i] < v)) (by simpa using hlt)]
        rw [ite'_t (b := decide ((i : Int) < ((I1 zs).length : Int))) (by rw [I1_len]; exact lt_t hi)]
        rw [ite'_t (b := inR (i : Int) (I1 zs).length) (by rw [I1_len]; exact inR_t hi)]
        by_cases heq : zs[i] = v
        · rw [ite'_t (b := zs[i] == v) (by simpa using heq)]
          refine ⟨_, zs, rfl, resL_d _ _, fun z => ⟨.inl, ?_⟩, by omega, hS⟩
          rintro (h | h)
          · exact h
          · rw [h, ← heq]; exact List.getElem_mem hi
        · rw [ite'_f (b := zs[i] == v) (by simpa using heq)]
          obtain ⟨r, ws, h1, h2⟩ := ins i (by omega) hlt0 (fun y hy => by rw [hx] at hy; cases hy; omega)
          exact ⟨r, ws, h1, h2⟩
  have := main zs.length 0 k (by omega) (by omega) (fun j y hj => by omega)
  exact this
/-- spec.NullsOfFact -/
theorem c75 (r : Int) (zs : List Int) (hI : ∀ z ∈ zs, inI z) (hk : zs.length < k) (hz : zs.length ≤ 1048576) : C (k + 3) 75 [.agg [.d (.int .i64 r), .d (.list 1 (I1 zs))]] = some [(false, [.d (.list 1 (I1 (nulls zs)))])] := by
  rw [F75.run]
  have hmax : (1048576 : Nat) ≤ maxLen := by decide
  have main : ∀ (m i n : Nat) (acc : List Int), i + m = zs.length → m < n → SS acc → acc.length ≤ i → (∀ z, z ∈ acc ↔ ∃ v ∈ zs.take i, isN v = true ∧ z = -1 - v) → F75.L3 (k + 2) (C (k + 2)) n (I1 acc) (i : Int) r (I1 zs) = some [(false, [.d (.list 1 (I1 (nulls zs)))])] := by
    intro m
    induction m with
    | zero =>
      intro i n acc hm hn hS hl hmem
      obtain ⟨n, rfl⟩ : ∃ j, n = j + 1 := ⟨n - 1, by omega⟩
      obtain rfl : i = zs.length := by omega
      rw [List.take_length] at hmem
      rw [F75.L3.succ, I1_len, ite'_f (lt_f (by omega)), ss_eq hS (nulls_ss zs) (fun z => by rw [hmem z, mem_nulls])]
    | succ m ih =>
      intro i n acc hm hn hS hl hmem
      obtain ⟨n, rfl⟩ : ∃ j, n = j + 1 := ⟨n - 1, by omega⟩
      have hi : i < zs.length := by omega
      have hx := List.getElem?_eq_getElem hi
      have htk : ∀ z, z ∈ zs.take (i + 1) ↔ z ∈ zs.take i ∨ z = zs[i] := by
        intro z
        rw [List.take_succ_eq_append_getElem hi]
        simp only [List.mem_append, List.mem_singleton]
      rw [F75.L3.succ, I1_len, ite'_t (lt_t hi), ite'_t (inR_t hi)]
      simp only [Int.toNat_natCast, cellI_at (I1_get' hx), List.getElem?_cons_zero, Option.bind_some, asI_s, bindI_s]
      rw [c89 (hI _ (List.getElem_mem hi)), nnB, next_i hi (m := zs.length) (by omega)]
      cases h : isN zs[i] with
      | true =>
        obtain ⟨r', ws, e1, e2, e3, e4, e5⟩ := c109s (k := k + 1) acc (-1 - zs[i]) hS (by omega) (by omega)
        rw [ite'_t rfl]
        simp only [if_true]
        rw [e1]
        simp only [bindR_s]
        rw [e2, bindL_s]
        refine ih (i + 1) n ws (by omega) (by omega) e5 (by omega) (fun z => ?_)
        rw [e3 z, hmem z]
        constructor
        · rintro (⟨v, h1, h2⟩ | h1)
          · exact ⟨v, (htk v).2 (.inl h1), h2⟩
          · exact ⟨zs[i], (htk _).2 (.inr rfl), h, h1⟩
        · rintro ⟨v, h1, h2⟩
          rcases (htk v).1 h1 with h1 | rfl
          · exact .inl ⟨v, h1, h2⟩
          · exact .inr h2.2
      | false =>
        rw [ite'_f rfl]
        refine ih (i + 1) n acc (by omega) (by omega) hS (by omega) (fun z => ?_)
        rw [hmem z]
        constructor
        · rintro ⟨v, h1, h2⟩
          exact ⟨v, (htk v).2 (.inl h1), h2⟩
        · rintro ⟨v, h1, h2⟩
          rcases (htk v).1 h1 with h1 | rfl
          · exact ⟨v, h1, h2⟩
          · rw [h] at h2; cases h2.1
  exact main zs.length 0 (k + 2) [] (by omega) (by omega) (by simp [SS]) (by simp) (fun z => by simp)
/-- impl.NullsOfFact -/
theorem c126 (r : Int) (zs : List Int) (hI : ∀ z ∈ zs, inI z) (hk : zs.length < k) (hz : zs.length ≤ 1048576) : C (k + 4) 126 [.agg [.d (.int .i64 r), .d (.list 1 (I1 zs))]] = some [(false, [.row 3 1 (I1 (nulls zs))])] := by
  rw [F126.run, c165 zs hI hk hz]
  rfl
end Go.Proofs.Ytekcjghbfbfmpaa.Q

/-! Ib -/
namespace Go.Proofs.Ytekcjghbfbfmpaa.Q
open Go Ovi
variable {k : Nat}
/-! ### the order of facts -/
def cmpI : List Int → List Int → Int
  | [], [] => 0
  | [], _ :: _ => -1
  | _ :: _, [] => 1
  | x :: xs, y :: ys => if x < y then -1 else if x > y then 1 else cmpI xs ys
def io (n : Int) : Option Res := some [(false, [.d (.int .i64 n)])]
theorem iB' (n : Int) (f : Int → Option Res) : (bindR (io n) fun r => bindI (resI .i64 1 false 1 r 0 0) f) = f n := rfl
/-- cmp.Compare -/
def cmp1 (x y : Int) : Int := if x < y then -1 else if x > y then 1 else 0
theorem c164 (x y : Int) : C (k + 2) 164 [.d (.int .i64 x), .d (.int .i64 y)] = io (cmp1 x y) := by
  rw [F164.run, F188.run, F188.run]
  simp only [bne_self_eq_false, bindR_s, resB_s, bindB_s]
  rw [ite'_f rfl, ite'_f rfl]
  unfold cmp1
  by_cases h : x < y
  · rw [ite'_t (by simpa using h), if_pos h]; rfl
  · rw [ite'_f (by simpa using h), if_neg h]
    by_cases h' : x > y
    · rw [ite'_t (by simpa using h'), if_pos h']; rfl
    · rw [ite'_f (by simpa using h'), if_neg h']; rfl
theorem cmpI_drop {a b : List Int} {i : Nat} (ha : i < a.length) (hb : i < b.length) : cmpI (a.drop i) (b.drop i) = if a[i] < b[i] then -1 else if a[i] > b[i] then 1 else cmpI (a.drop (i + 1)) (b.drop (i + 1)) := by
  rw [List.drop_eq_getElem_cons ha, List.drop_eq_getElem_cons hb]
  rfl
/-- slices.Compare on integers -/
theorem c154 (a b : List Int) (hk : a.length < k) (ha : a.length ≤ maxLen) : C (k + 3) 154 [.d (.list 1 (I1 a)), .d (.list 1 (I1 b))] = io (cmpI a b) := by
  rw [F154.run, I1_len]
  have main : ∀ (m i n : Nat), i + m = a.length → m < n → i ≤ b.length → F154.L2 (k + 2) (C (k + 2)) n (I1 a) (I1 b) (I1 a) (a.length : Int) (i : Int) = io (cmpI (a.drop i) (b.drop i)) := by
    intro m
    induction m with
    | zero =>
      intro i n hm hn hb
      obtain ⟨n, rfl⟩ : ∃ j, n = j + 1 := ⟨n - 1, by omega⟩
      obtain rfl : i = a.length := by omega
      rw [F154.L2.succ, ite'_f (lt_f (by omega)), I1_len, I1_len, List.drop_eq_nil_of_le (Nat.le_refl _)]
      by_cases h : a.length < b.length
      · rw [ite'_t (lt_t h), List.drop_eq_getElem_cons h]; rfl
      · rw [ite'_f (lt_f h), List.drop_eq_nil_of_le (by omega)]; rfl
    | succ m ih =>
      intro i n hm hn hb
      obtain ⟨n, rfl⟩ : ∃ j, n = j + 1 := ⟨n - 1, by omega⟩
      have hi : i < a.length := by omega
      have hx := List.getElem?_eq_getElem hi
      rw [F154.L2.succ, ite'_t (lt_t hi), I1_len, ite'_t (inR_t hi)]
      simp only [Int.toNat_natCast, cellI_at (I1_get' hx), List.getElem?_cons_zero, Option.bind_some, asI_s, bindI_s]
      rw [I1_len]
      by_cases h : i < b.length
      · have hy := List.getElem?_eq_getElem h
        rw [ite'_f (b := decide ((i : Int) ≥ (b.length : Int))) (by simp; omega), ite'_t (inR_t h)]
        simp only [cellI_at (I1_get' hy), List.getElem?_cons_zero, Option.bind_some, asI_s, bindI_s]
        rw [c164, iB', cmpI_drop hi h, next_i hi ha, ih (i + 1) n (by omega) (by omega) (by omega)]
        unfold cmp1
        by_cases h1 : a[i] < b[i]
        · rw [if_pos h1, if_pos h1]; rfl
        · rw [if_neg h1, if_neg h1]
          by_cases h2 : a[i] > b[i]
          · rw [if_pos h2, if_pos h2]; rfl
          · rw [if_neg h2, if_neg h2]; rfl
      · rw [ite'_t (b := decide ((i : Int) ≥ (b.length : Int))) (by simp; omega), List.drop_eq_getElem_cons hi, show b.drop i = [] from List.drop_eq_nil_of_le (by omega)]
        rfl
  exact main a.length 0 (k + 2) (by omega) (by omega) (by omega)
/-- spec.l4Ints -/
theorem c54 (a b : List Int) (hk : a.length < k) (ha : a.length ≤ maxLen) : C (k + 1) 54 [.d (.list 1 (I1 a)), .d (.list 1 (I1 b))] = io (cmpI a b) := by
  rw [F54.run]
  have fin : ∀ (i n : Nat), i ≤ a.length → i ≤ b.length → (¬ i < a.length ∨ ¬ i < b.length) → F54.L2 k (C k) (n + 1) (I1 a) (I1 b) (i : Int) = io (cmpI (a.drop i) (b.drop i)) := by
    intro i n h1 h2 h3
    have e : F54.L2 k (C k) (n + 1) (I1 a) (I1 b) (i : Int) = ite' (decide ((a.length : Int) < (b.length : Int))) (io (-1)) (ite' (decide ((a.length : Int) > (b.length : Int))) (io 1) (io 0)) := by
      rw [F54.L2.succ, I1_len, I1_len]
      by_cases hi : i < a.length
      · rw [ite'_t (lt_t hi), ite'_f (lt_f (by omega))]; rfl
      · rw [ite'_f (lt_f hi)]; rfl
    rw [e]
    rcases Nat.lt_trichotomy a.length b.length with h | h | h
    · obtain rfl : i = a.length := by omega
      rw [ite'_t (by simp; omega), List.drop_eq_nil_of_le (Nat.le_refl _), List.drop_eq_getElem_cons h]
      rfl
    · rw [ite'_f (by simp; omega), ite'_f (by simp; omega), List.drop_eq_nil_of_le (by omega), List.drop_eq_nil_of_le (by omega)]
      rfl
    · obtain rfl : i = b.length := by omega
      rw [ite'_f (by simp; omega), ite'_t (by simp; omega), List.drop_eq_nil_of_le (Nat.le_refl _), List.drop_eq_getElem_cons h]
      rfl
  have main : ∀ (m i n : Nat), i + m = a.length → m < n → i ≤ b.length → F54.L2 k (C k) n (I1 a) (I1 b) (i : Int) = io (cmpI (a.drop i) (b.drop i)) := by
    intro m
    induction m with
    | zero =>
      intro i n hm hn hb
      obtain ⟨n, rfl⟩ : ∃ j, n = j + 1 := ⟨n - 1, by omega⟩
      exact fin i n (by omega) hb (by omega)
    | succ m ih =>
      intro i n hm hn hb
      obtain ⟨n, rfl⟩ : ∃ j, n = j + 1 := ⟨n - 1, by omega⟩
      by_cases h : i < b.length
      · have hi : i < a.length := by omega
        have hx := List.getElem?_eq_getElem hi
        have hy := List.getElem?_eq_getElem h
        rw [F54.L2.succ, I1_len, I1_len, ite'_t (lt_t hi), ite'_t (lt_t h), ite'_t (inR_t hi)]
        simp only [Int.toNat_natCast, cellI_at (I1_get' hx), cellI_at (I1_get' hy), List.getElem?_cons_zero, Option.bind_some, asI_s, bindI_s]
        rw [ite'_t (inR_t h), ite'_t (inR_t hi), ite'_t (inR_t h), next_i hi ha, ih (i + 1) n (by omega) (by omega) (by omega), cmpI_drop hi h]
        by_cases h1 : a[i] < b[i]
        · rw [ite'_t (by simpa using h1), if_pos h1]; rfl
        · rw [ite'_f (by simpa using h1), if_neg h1]
          by_cases h2 : a[i] > b[i]
          · rw [ite'_t (by simpa using h2), if_pos h2]; rfl
          · rw [ite'_f (by simpa using h2), if_neg h2]
      · exact fin i n (by omega) hb (by omega)
  exact main a.length 0 k (by omega) hk (by omega)
def cmpF (x y : Atom) : Int := if x.1 < y.1 then -1 else if x.1 > y.1 then 1 else cmpI x.2 y.2
/-- spec.CompareFacts -/
theorem c121 (x y : Atom) (hk : x.2.length < k) (ha : x.2.length ≤ maxLen) : C (k + 2) 121 [.agg [.d (.int .i64 x.1), .d (.list 1 (I1 x.2))], .agg [.d (.int .i64 y.1), .d (.list 1 (I1 y.2))]] = io (cmpF x y) := by
  rw [F121.run, c54 x.2 y.2 hk ha, iB']
  unfold cmpF
  by_cases h1 : x.1 < y.1
  · rw [ite'_t (by simpa using h1), if_pos h1]; rfl
  · rw [ite'_f (by simpa using h1), if_neg h1]
    by_cases h2 : x.1 > y.1
    · rw [ite'_t (by simpa using h2), if_pos h2]; rfl
    · rw [ite'_f (by simpa using h2), if_neg h2]; rfl
/-- cmp.Or of two -/
theorem c163 (x y : Int) : C (k + 4) 163 [.d (.list 1 [[.int .i64 x], [.int .i64 y]])] = io (if x = 0 then y else x) := by
  rw [F163.run]
  have s0 : ∀ n, F163.L3 (k + 3) (C (k + 3)) (n + 1) 0 [[.int .i64 x], [.int .i64 y]] 2 0 = ite' (x != 0) (io x) (F163.L3 (k + 3) (C (k + 3)) n 0 [[.int .i64 x], [.int .i64 y]] 2 1) := fun n => by rw [F163.L3.succ]; rfl
  have s1 : ∀ n, F163.L3 (k + 3) (C (k + 3)) (n + 1) 0 [[.int .i64 x], [.int .i64 y]] 2 1 = ite' (y != 0) (io y) (F163.L3 (k + 3) (C (k + 3)) n 0 [[.int .i64 x], [.int .i64 y]] 2 2) := fun n => by rw [F163.L3.succ]; rfl
  have s2 : ∀ n, F163.L3 (k + 3) (C (k + 3)) (n + 1) 0 [[.int .i64 x], [.int .i64 y]] 2 2 = io 0 := fun n => by rw [F163.L3.succ]; rfl
  show F163.L3 (k + 3) (C (k + 3)) (k + 2 + 1) 0 [[.int .i64 x], [.int .i64 y]] 2 0 = _
  rw [s0, s1, s2]
  by_cases h : x = 0
  · rw [if_pos h, ite'_f (by simpa using h)]
    by_cases h' : y = 0
    · rw [ite'_f (by simpa using h'), h']
    · rw [ite'_t (by simpa using h')]
  · rw [if_neg h, ite'_t (by simpa using h)]
/-- impl.CompareFacts -/
theorem c125 (x y : Atom) (hk : x.2.length < k) (ha : x.2.length ≤ maxLen) : C (k + 5) 125 [.agg [.d (.int .i64 x.1), .d (.list 1 (I1 x.2))], .agg [.d (.int .i64 y.1), .d (.list 1 (I1 y.2))]] = io (cmpF x y) := by
  rw [F125.run, c164, iB', c154 (k := k + 1) x.2 y.2 (by omega) ha, iB', c163, iB']
  unfold cmpF cmp1
  by_cases h1 : x.1 < y.1
  · rw [if_pos h1, if_pos h1]; rfl
  · rw [if_neg h1, if_neg h1]
    by_cases h2 : x.1 > y.1
    · rw [if_pos h2, if_pos h2]; rfl
    · rw [if_neg h2, if_neg h2]; rfl
/-! ### valid facts -/
def FactB (a : Ovi.Rows) (x : Atom) (b : Bool) : Prop := (b = true → 0 ≤ x.1 ∧ x.1 < (a.length : Int)) ∧ ∀ k, a.length < k → x.2.length < k → C (k + 6) 124 [.d (.list 3 a), .agg [.d (.int .i64 x.1), .d (.list 1 (I1 x.2))]] = bo b ∧ C (k + 6) 120 [.d (.list 3 a), .agg [.d (.int .i64 x.1), .d (.list 1 (I1 x.2))]] = bo b
theorem factB {a : Ovi.Rows} (ha : Fit Rl (.list 3 a)) (x : Atom) (hI : ∀ z ∈ x.2, inI z) (hx2 : x.2.length ≤ maxLen) : ∃ b, FactB a x b := by
  have hlen := ha.len
  unfold maxLen at hlen
  obtain ⟨b, hb⟩ := rels ha
  have e : ∀ k, a.length < k → C (k + 5) 123 [.d (.list 3 a)] = bo b ∧ C (k + 5) 110 [.d (.list 3 a)] = bo b := fun k hk => hb (k + 2) (by omega)
  cases b with
  | false =>
    refine ⟨false, fun h => (by cases h), fun k hk hx => ?_⟩
    rw [F124.run, F120.run, (e k hk).1, (e k hk).2, bB, bB]
    exact ⟨rfl, rfl⟩
  | true =>
    by_cases hr : 0 ≤ x.1 ∧ x.1 ≤ (a.length : Int) - 1
    · obtain ⟨i, hi⟩ : ∃ i : Nat, x.1 = i := ⟨x.1.toNat, by omega⟩
      have hia : i < a.length := by omega
      obtain ⟨row, hrow, hfr, _⟩ := ha.row hia
      obtain ⟨d0, r0, rfl, f0, h1⟩ := Fits.cons hfr
      obtain ⟨d1, r1, rfl, f1, h1⟩ := Fits.cons h1
      obtain ⟨n, rfl, _⟩ := f1.int
      have hcn : cellI .i64 a ((i : Int)).toNat 1 = some n := by rw [Int.toNat_natCast, cellI_at hrow]; simp [asI_s]
      by_cases hn : ((I1 x.2).length : Int) = n
      · refine ⟨!(x.2.any fun t => !okV t), fun _ => by omega, fun k hk hx => ?_⟩
        rw [F124.run, F120.run, (e k hk).1, (e k hk).2, bB, bB, ite'_nt, ite'_nt, c113, c65, bB, bB, wrap_id (by omega) (by omega), decide_eq_true hr, ite'_nt, ite'_nt, hi, ite'_t (inR_t hia), ite'_t (inR_t hia), hcn]
        simp only [bindI_s]
        rw [ite'_f (by simpa using hn), ite'_f (b := ((I1 x.2).length : Int) != n) (by simpa using hn)]
        have e69 := c69 (k := k + 3) x.2 161 [] (fun t => !okV t) (by omega) hx2 (fun z _ => by
          rw [List.map_nil, F161.run, c162, bB]; rfl)
        rw [e69, bB]
        refine ⟨rfl, ?_⟩
        have := loop_any (xs := x.2) (L := fun m j => F120.L4 (k + 5) (C (k + 5)) m j (i : Int) (I1 x.2)) (stop := fun t => !okV t) (hit := bo false) (fin := bo true)
          (fun m j t ht => by
            have hj := (List.getElem?_eq_some_iff.1 ht).1
            rw [F120.L4.succ, I1_len, ite'_t (lt_t hj), ite'_t (inR_t hj)]
            simp only [Int.toNat_natCast, cellI_at (I1_get' ht), List.getElem?_cons_zero, Option.bind_some, asI_s, bindI_s]
            rw [c90 (hI t (List.mem_of_getElem? ht)), bB, next_i hj hx2]; rfl)
          (fun m => by rw [F120.L4.succ, I1_len, ite'_f (lt_f (by omega))]; rfl) (k + 5) (by omega)
        rw [show F120.L4 (k + 5) (C (k + 5)) (k + 5) 0 (i : Int) (I1 x.2) = _ from this]
        cases x.2.any (fun t => !okV t) <;> rfl
      · refine ⟨false, fun h => (by cases h), fun k hk hx => ?_⟩
        rw [F124.run, F120.run, (e k hk).1, (e k hk).2, bB, bB, ite'_nt, ite'_nt, c113, c65, bB, bB, wrap_id (by omega) (by omega), decide_eq_true hr, ite'_nt, ite'_nt, hi, ite'_t (inR_t hia), ite'_t (inR_t hia), hcn]
        simp only [bindI_s]
        rw [ite'_t (by simpa using hn), ite'_t (b := ((I1 x.2).length : Int) != n) (by simpa using hn)]
        exact ⟨rfl, rfl⟩
    · refine ⟨false, fun h => (by cases h), fun k hk hx => ?_⟩
      rw [F124.run, F120.run, (e k hk).1, (e k hk).2, bB, bB, ite'_nt, ite'_nt, c113, c65, bB, bB, wrap_id (by omega) (by omega), decide_eq_false hr]
      exact ⟨rfl, rfl⟩
def src (a : Ovi.Rows) (x : Atom) : Bool := match a[x.1.toNat]? with
  | some [_, _, .bool b] => b
  | _ => false
theorem src_cell {a : Ovi.Rows} (ha : Fit Rl (.list 3 a)) {x : Atom} (h : 0 ≤ x.1 ∧ x.1 < (a.length : Int)) : inR x.1 a.length = true ∧ cellB a x.1.toNat 2 = some (src a x) := by
  obtain ⟨i, hi⟩ : ∃ i : Nat, x.1 = i := ⟨x.1.toNat, by omega⟩
  have hia : i < a.length := by omega
  obtain ⟨row, hrow, hfr, _⟩ := ha.row hia
  obtain ⟨d0, r0, rfl, f0, h1⟩ := Fits.cons hfr
  obtain ⟨d1, r1, rfl, f1, h1⟩ := Fits.cons h1
  obtain ⟨d2, r2, rfl, f2, h1⟩ := Fits.cons h1
  obtain rfl := Fits.nil h1
  obtain ⟨b, rfl⟩ := f2.bool
  rw [hi]
  refine ⟨inR_t hia, ?_⟩
  rw [Int.toNat_natCast, cellB_at hrow]
  unfold src
  rw [hi, Int.toNat_natCast, hrow]
  rfl
/-- both IsValidInstance answer alike -/
theorem instB {a : Ovi.Rows} (ha : Fit Rl (.list 3 a)) (xs : List Atom) (hI : ∀ x ∈ xs, ∀ z ∈ x.2, inI z) (hs : terms xs + xs.length ≤ 1048576) (hal : a.length ≤ 1048576) : ∃ b, (b = true → xs.length ≤ 30 ∧ ∀ x ∈ xs, 0 ≤ x.1 ∧ x.1 < (a.length : Int)) ∧ ∀ k, 2000000 ≤ k → C (k + 8) 78 [.agg [.d (.list 3 a), .d (.list 2 (A1 xs))]] = bo b ∧ C (k + 8) 74 [.agg [.d (.list 3 a), .d (.list 2 (A1 xs))]] = bo b := by
  have hmax : (1048576 : Nat) ≤ maxLen := by decide
  have hl : ∀ x ∈ xs, x.2.length ≤ 1048576 := fun x hx => by have := len_terms hx; omega
  obtain ⟨vf, hvf⟩ : ∃ vf : Atom → Bool, ∀ x ∈ xs, FactB a x (vf x) := by
    have : ∀ x : Atom, ∃ b, x ∈ xs → FactB a x b := by
      intro x
      by_cases h : x ∈ xs
      · obtain ⟨b, hb⟩ := factB ha x (hI x h) (by have := hl x h; omega)
        exact ⟨b, fun _ => hb⟩
      · exact ⟨false, fun h' => absurd h' h⟩
    obtain ⟨vf, hv⟩ := Classical.axiomOfChoice this
    exact ⟨vf, fun x hx => hv x hx⟩
  obtain ⟨rb, hrb⟩ := rels ha
  let bad : Nat → Atom → Bool := fun i x => !vf x || ((decide (i > 0) && decide (cmpF (xs.getD (i - 1) x) x ≥ 0)) || (src a x && decide ((nulls x.2).length > 0)))
  have key : ∃ st : Bool, (st = false → ∀ x ∈ xs, vf x = true) ∧ ∀ k, 2000000 ≤ k → F78.L4 (k + 7) (C (k + 7)) (k + 7) (A1 xs) (xs.length : Int) 0 a (A1 xs) = bo (!st) ∧ F74.L2 (k + 7) (C (k + 7)) (k + 7) 0 a (A1 xs) = cond st (bo false) (bo (rb && decide ((xs.length : Int) ≤ 30))) := by
    have s78 : ∀ k, 2000000 ≤ k → ∀ (n i : Nat) x, xs[i]? = some x → F78.L4 (k + 7) (C (k + 7)) (n + 1) (A1 xs) (xs.length : Int) (i : Int) a (A1 xs) = cond (bad i x) (bo false) (F78.L4 (k + 7) (C (k + 7)) n (A1 xs) (xs.length : Int) ((i + 1 : Nat) : Int) a (A1 xs)) ∧
        F74.L2 (k + 7) (C (k + 7)) (n + 1) (i : Int) a (A1 xs) = cond (bad i x) (bo false) (F74.L2 (k + 7) (C (k + 7)) n ((i + 1 : Nat) : Int) a (A1 xs)) := by
      intro k hk n i x hx
      have hi := (List.getElem?_eq_some_iff.1 hx).1
      have hxm := List.mem_of_getElem? hx
      have hxl := hl x hxm
      obtain ⟨hv1, hv2⟩ := hvf x hxm
      obtain ⟨e1, e2⟩ := hv2 (k + 1) (by omega) (by omega)
      have hc0 : cellI .i64 (A1 xs) (i : Int).toNat 0 = some x.1 := by rw [Int.toNat_natCast, cellI_at (A1_get hx)]; simp [asI_s]
      have hc1 : cellL 1 (A1 xs) (i : Int).toNat 1 = some (I1 x.2) := by rw [Int.toNat_natCast, cellL_at (A1_get hx)]; simp [asL_s]
      rw [F78.L4.succ, F74.L2.succ, A1_len, ite'_t (lt_t hi), ite'_t (inR_t hi), ite'_t (lt_t hi), ite'_t (inR_t hi), hc0, hc1]
      simp only [bindI_s, bindL_s]
      rw [e1, e2, bB, bB, next_i hi (m := xs.length) (by omega)]
      cases hvx : vf x with
      | false =>
        have hb : bad i x = true := by simp [bad, hvx]
        rw [hb]
        exact ⟨rfl, rfl⟩
      | true =>
        obtain ⟨g1, g2⟩ := src_cell ha (hv1 hvx)
        have tail : ∀ (X Y : Option Res) (nu : Bool), nu = decide ((nulls x.2).length > 0) → True := fun _ _ _ _ => trivial
        have n126 := c126 (k := k + 3) x.1 x.2 (hI x hxm) (by omega) hxl
        have n75 := c75 (k := k + 4) x.1 x.2 (hI x hxm) (by omega) hxl
        rw [ite'_nt, ite'_nt, g1, g2, n126, n75]
        simp only [bindB_s, bindR_s, resO_s, resL_d, bindL_s, I1_len]
        have hnu : decide (((nulls x.2).length : Int) > 0) = decide ((nulls x.2).length > 0) := by
          rw [Bool.eq_iff_iff]; simp only [decide_eq_true_eq]; omega
        rw [hnu]
        by_cases h0 : i = 0
        · subst h0
          have hb : bad 0 x = (src a x && decide ((nulls x.2).length > 0)) := by simp [bad, hvx]
          rw [hb]
          cases src a x <;> cases decide ((nulls x.2).length > 0) <;> exact ⟨rfl, rfl⟩
        · have hw : IntKind.i64.wrap ((i : Int) - 1) = ((i - 1 : Nat) : Int) := by rw [wrap_id (by omega) (by omega)]; omega
          have hy : xs[i - 1]? = some xs[i - 1] := List.getElem?_eq_getElem (by omega)
          have hyl := hl _ (List.mem_of_getElem? hy)
          have hd0 : cellI .i64 (A1 xs) ((i - 1 : Nat) : Int).toNat 0 = some (xs[i - 1]).1 := by rw [Int.toNat_natCast, cellI_at (A1_get hy)]; simp [asI_s]
          have hd1 : cellL 1 (A1 xs) ((i - 1 : Nat) : Int).toNat 1 = some (I1 (xs[i - 1]).2) := by rw [Int.toNat_natCast, cellL_at (A1_get hy)]; simp [asL_s]
          have hgt : decide ((i : Int) > 0) = true := by simp; omega
          rw [hgt, hw, hd0, hd1]
          simp only [bindI_s, bindL_s]
          rw [c125 (k := k + 2) xs[i - 1] x (by omega) (by omega), c121 (k := k + 5) xs[i - 1] x (by omega) (by omega), iB', iB', inR_t (i := i - 1) (by omega)]
          have hb : bad i x = (decide (cmpF xs[i - 1] x ≥ 0) || (src a x && decide ((nulls x.2).length > 0))) := by
            simp [bad, hvx, List.getD_eq_getElem?_getD, hy, show i > 0 by omega]
          rw [hb]
          cases decide (cmpF xs[i - 1] x ≥ 0) <;> cases src a x <;> cases decide ((nulls x.2).length > 0) <;> exact ⟨rfl, rfl⟩
    have d78 : ∀ k n, F78.L4 (k + 7) (C (k + 7)) (n + 1) (A1 xs) (xs.length : Int) (xs.length : Int) a (A1 xs) = bo true := fun k n => by rw [F78.L4.succ, ite'_f (lt_f (by omega))]; rfl
    have d74 : ∀ k, 2000000 ≤ k → ∀ n, F74.L2 (k + 7) (C (k + 7)) (n + 1) (xs.length : Int) a (A1 xs) = bo (rb && decide ((xs.length : Int) ≤ 30)) := fun k hk n => by
      rw [F74.L2.succ, A1_len, ite'_f (lt_f (by omega)), (hrb (k + 4) (by omega)).2, bB]
      cases rb <;> rfl
    by_cases hall : ∀ (i : Nat) x, xs[i]? = some x → bad i x = false
    · refine ⟨false, fun _ x hx => ?_, fun k hk => ?_⟩
      · obtain ⟨i, hi⟩ := List.mem_iff_getElem?.1 hx
        have := hall i x hi
        simp only [bad, Bool.or_eq_false_iff, Bool.not_eq_false'] at this
        exact this.1
      · constructor
        · rcases loop_find (L := fun n i => F78.L4 (k + 7) (C (k + 7)) n (A1 xs) (xs.length : Int) i a (A1 xs)) (stop := bad) (hit := fun _ => bo false) (fin := bo true) (fun n i x hx => (s78 k hk n i x hx).1) (d78 k) (k + 7) (by omega) with ⟨i, x, hx, hst, _⟩ | ⟨_, h⟩
          · rw [hall i x hx] at hst; cases hst
          · exact h
        · rcases loop_find (L := fun n i => F74.L2 (k + 7) (C (k + 7)) n i a (A1 xs)) (stop := bad) (hit := fun _ => bo false) (fun n i x hx => (s78 k hk n i x hx).2) (d74 k hk) (k + 7) (by omega) with ⟨i, x, hx, hst, _⟩ | ⟨_, h⟩
          · rw [hall i x hx] at hst; cases hst
          · exact h
    · refine ⟨true, ⟨fun h => (by cases h), fun k hk => ?_⟩⟩
      constructor
      · rcases loop_find (L := fun n i => F78.L4 (k + 7) (C (k + 7)) n (A1 xs) (xs.length : Int) i a (A1 xs)) (stop := bad) (hit := fun _ => bo false) (fin := bo true) (fun n i x hx => (s78 k hk n i x hx).1) (d78 k) (k + 7) (by omega) with ⟨i, x, hx, hst, h⟩ | ⟨h, _⟩
        · exact h
        · exact absurd h hall
      · rcases loop_find (L := fun n i => F74.L2 (k + 7) (C (k + 7)) n i a (A1 xs)) (stop := bad) (hit := fun _ => bo false) (fun n i x hx => (s78 k hk n i x hx).2) (d74 k hk) (k + 7) (by omega) with ⟨i, x, hx, hst, h⟩ | ⟨h, _⟩
        · exact h
        · exact absurd h hall
  obtain ⟨st, hst, hk2⟩ := key
  refine ⟨rb && (decide ((xs.length : Int) ≤ 30) && !st), fun h => ?_, fun k hk => ?_⟩
  · simp only [Bool.and_eq_true, decide_eq_true_eq, Bool.not_eq_true'] at h
    exact ⟨by omega, fun x hx => (hvf x hx).1 (hst h.2.2 x hx)⟩
  · obtain ⟨e1, e2⟩ := hk2 k hk
    constructor
    · rw [F78.run, (hrb (k + 4) (by omega)).1, bB, A1_len, e1]
      cases rb with
      | false => rfl
      | true =>
        rw [ite'_nt]
        by_cases h30 : (xs.length : Int) ≤ 30
        · rw [ite'_f (by simp; omega), decide_eq_true h30]; rfl
        · rw [ite'_t (by simp; omega), decide_eq_false h30]; rfl
    · rw [F74.run, e2]
      cases st <;> cases rb <;> cases decide ((xs.length : Int) ≤ 30) <;> rfl
/-! ### the nulls of an instance -/
def vals (xs : List Atom) : List Int := xs.flatMap fun x => x.2
theorem vals_len (xs : List Atom) : (vals xs).length = terms xs := by simp [vals, terms, List.length_flatMap]
theorem vals_I {xs : List Atom} (hI : ∀ x ∈ xs, ∀ z ∈ x.2, inI z) : ∀ z ∈ vals xs, inI z := by
  intro z hz
  obtain ⟨x, hx, h⟩ := List.mem_flatMap.1 hz
  exact hI x hx z h
/-- impl.NullsOfInstance -/
theorem c136 (a : Ovi.Rows) (xs : List Atom) (hI : ∀ x ∈ xs, ∀ z ∈ x.2, inI z) (hk : 2000000 ≤ k) (hs : terms xs + xs.length ≤ 1048576) : C (k + 4) 136 [.agg [.d (.list 3 a), .d (.list 2 (A1 xs))]] = some [(false, [.row 3 1 (I1 (nulls (vals xs)))])] := by
  have hmax : (1048576 : Nat) ≤ maxLen := by decide
  rw [F136.run, A1_len]
  have main : ∀ (m i n : Nat), i + m = xs.length → m < n → F136.L3 (k + 3) (C (k + 3)) n (A1 xs) (xs.length : Int) (i : Int) (I1 (vals (xs.take i))) = some [(false, [.row 3 1 (I1 (nulls (vals xs)))])] := by
    intro m
    induction m with
    | zero =>
      intro i n hm hn
      obtain ⟨n, rfl⟩ : ∃ j, n = j + 1 := ⟨n - 1, by omega⟩
      obtain rfl : i = xs.length := by omega
      rw [List.take_length, F136.L3.succ, ite'_f (lt_f (by omega)), c165 (k := k) (vals xs) (vals_I hI) (by rw [vals_len]; omega) (by rw [vals_len]; omega)]
      rfl
    | succ m ih =>
      intro i n hm hn
      obtain ⟨n, rfl⟩ : ∃ j, n = j + 1 := ⟨n - 1, by omega⟩
      have hi : i < xs.length := by omega
      have hx := List.getElem?_eq_getElem hi
      have hta := terms_at hx
      have htl := terms_le xs (i + 1)
      rw [F136.L3.succ, A1_len, ite'_t (lt_t hi), ite'_t (inR_t hi)]
      simp only [Int.toNat_natCast, cellI_at (A1_get hx), cellL_at (A1_get hx), List.getElem?_cons_zero, List.getElem?_cons_succ, Option.bind_some, asI_s, asL_s, bindI_s, bindL_s]
      have hv : I1 (vals (xs.take i)) ++ I1 (xs[i]).2 = I1 (vals (xs.take (i + 1))) := by
        rw [List.take_succ_eq_append_getElem hi]
        simp only [I1, vals, List.flatMap_append, List.flatMap_cons, List.flatMap_nil, List.append_nil, List.map_append]
      rw [ite'_t (fits_t (by rw [I1_len, I1_len, vals_len]; omega)), hv, next_i hi (m := xs.length) (by omega)]
      exact ih (i + 1) n (by omega) (by omega)
  exact main xs.length 0 (k + 3) (by omega) (by omega)
/-- spec.NullsOfInstance -/
theorem c91 (a : Ovi.Rows) (xs : List Atom) (hI : ∀ x ∈ xs, ∀ z ∈ x.2, inI z) (hk : 2000000 ≤ k) (hs : terms xs + xs.length ≤ 1048576) : C (k + 4) 91 [.agg [.d (.list 3 a), .d (.list 2 (A1 xs))]] = some [(false, [.d (.list 1 (I1 (nulls (vals xs))))])] := by
  have hmax : (1048576 : Nat) ≤ maxLen := by decide
  rw [F91.run]
  have inner : ∀ (ls : List Int) (i : Nat), ls.length ≤ 1048576 → i < xs.length → ∀ (m j n k3 : Nat) (acc : List Int), j + m = ls.length → m < n → SS acc → acc.length + m ≤ 1048576 → 
      ∃ acc', F91.L7 (k + 3) (C (k + 3)) k3 n (I1 acc) (i : Int) (I1 ls) (j : Int) a (A1 xs) = F91.L3 (k + 3) (C (k + 3)) k3 (I1 acc') ((i + 1 : Nat) : Int) a (A1 xs) ∧ SS acc' ∧ acc'.length ≤ acc.length + m ∧ ∀ z, z ∈ acc' ↔ z ∈ acc ∨ z ∈ ls.drop j := by
    intro ls i hls hi m
    induction m with
    | zero =>
      intro j n k3 acc hm hn hS hl
      obtain ⟨n, rfl⟩ : ∃ j, n = j + 1 := ⟨n - 1, by omega⟩
      refine ⟨acc, ?_, hS, by omega, fun z => by rw [List.drop_eq_nil_of_le (by omega)]; simp⟩
      rw [F91.L7.succ, I1_len, ite'_f (lt_f (by omega)), next_i hi (m := xs.length) (by omega)]
    | succ m ih =>
      intro j n k3 acc hm hn hS hl
      obtain ⟨n, rfl⟩ : ∃ j, n = j + 1 := ⟨n - 1, by omega⟩
      have hj : j < ls.length := by omega
      have hz := List.getElem?_eq_getElem hj
      obtain ⟨r', ws, e1, e2, e3, e4, e5⟩ := c109s (k := k + 2) acc ls[j] hS (by omega) (by omega)
      rw [F91.L7.succ, I1_len, ite'_t (lt_t hj), ite'_t (inR_t hj)]
      simp only [Int.toNat_natCast, cellI_at (I1_get' hz), List.getElem?_cons_zero, Option.bind_some, asI_s, bindI_s]
      rw [e1]
      simp only [bindR_s]
      rw [e2, bindL_s, next_i hj (m := ls.length) (by omega)]
      obtain ⟨acc', g1, g2, g3, g4⟩ := ih (j + 1) n k3 ws (by omega) (by omega) e5 (by omega)
      refine ⟨acc', g1, g2, by omega, fun z => ?_⟩
      rw [g4 z, e3 z, List.drop_eq_getElem_cons hj, List.mem_cons, or_assoc]
  have outer : ∀ (m i n : Nat) (acc : List Int), i + m = xs.length → m < n → SS acc → acc.length ≤ terms (xs.take i) → (∀ z, z ∈ acc ↔ z ∈ nulls (vals (xs.take i))) →
      F91.L3 (k + 3) (C (k + 3)) n (I1 acc) (i : Int) a (A1 xs) = some [(false, [.d (.list 1 (I1 (nulls (vals xs))))])] := by
    intro m
    induction m with
    | zero =>
      intro i n acc hm hn hS ha hmem
      obtain ⟨n, rfl⟩ : ∃ j, n = j + 1 := ⟨n - 1, by omega⟩
      obtain rfl : i = xs.length := by omega
      rw [List.take_length] at hmem
      rw [F91.L3.succ, A1_len, ite'_f (lt_f (by omega)), ss_eq hS (nulls_ss _) hmem]
    | succ m ih =>
      intro i n acc hm hn hS ha hmem
      obtain ⟨n, rfl⟩ : ∃ j, n = j + 1 := ⟨n - 1, by omega⟩
      have hi : i < xs.length := by omega
      have hx := List.getElem?_eq_getElem hi
      have hxm := List.mem_of_getElem? hx
      have hta := terms_at hx
      have htl := terms_le xs (i + 1)
      have hnl := nulls_len (xs[i]).2
      rw [F91.L3.succ, A1_len, ite'_t (lt_t hi), ite'_t (inR_t hi)]
      simp only [Int.toNat_natCast, cellI_at (A1_get hx), cellL_at (A1_get hx), List.getElem?_cons_zero, List.getElem?_cons_succ, Option.bind_some, asI_s, asL_s, bindI_s, bindL_s]
      rw [c75 (k := k) (xs[i]).1 (xs[i]).2 (hI _ hxm) (by omega) (by omega)]
      simp only [bindR_s, resL_d, bindL_s]
      obtain ⟨acc', g1, g2, g3, g4⟩ := inner (nulls (xs[i]).2) i (by omega) hi (nulls (xs[i]).2).length 0 (k + 3) n acc (by omega) (by omega) hS (by omega)
      rw [show ((0 : Nat) : Int) = 0 from rfl] at g1
      rw [g1]
      refine ih (i + 1) n acc' (by omega) (by omega) g2 (by omega) (fun z => ?_)
      rw [g4 z, List.drop_zero, hmem z, mem_nulls, mem_nulls, mem_nulls, List.take_succ_eq_append_getElem hi]
      unfold vals
      rw [List.flatMap_append]
      simp only [List.mem_append, List.flatMap_cons, List.flatMap_nil, List.append_nil]
      constructor
      · rintro (⟨v, h1, h2⟩ | ⟨v, h1, h2⟩)
        · exact ⟨v, .inl h1, h2⟩
        · exact ⟨v, .inr h1, h2⟩
      · rintro ⟨v, h1 | h1, h2⟩
        · exact .inl ⟨v, h1, h2⟩
        · exact .inr ⟨v, h1, h2⟩
  exact outer xs.length 0 (k + 3) [] (by omega) (by omega) (by simp [SS]) (by simp) (fun z => by simp [mem_nulls, vals])
end Go.Proofs.Ytekcjghbfbfmpaa.Q

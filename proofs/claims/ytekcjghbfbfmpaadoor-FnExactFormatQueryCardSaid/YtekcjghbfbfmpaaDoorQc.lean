/-
For every relations and every query the law FnExactFormatQuery returns true, and the arguments read afterwards as they read before; the tied card. No condition.
-/
import Derived.Test.YtekcjghbfbfmpaaDoorQb
import Derived.Test.YtekcjghbfbfmpaaDoorQa
import Derived.Test.YtekcjghbfbfmpaaDoorOb
import Derived.Test.YtekcjghbfbfmpaaDoorRows
import Derived.Test.YtekcjghbfbfmpaaDoorTie
import Derived.Test.YtekcjghbfbfmpaaDoorCards
import Derived.ProofKit
import Derived.LaidMore
import Derived.OpenShut
import Derived.Stop.Joined
import Derived.SevenTiedAt
set_option linter.unusedVariables false
set_option linter.unusedSimpArgs false
/-! DGb -/

namespace Go.Proofs.YtekcjghbfbfmpaaDoor.Q
open Go Ovi
/-- laws.szRelation -/
theorem c40 {k : Nat} (hk : 2000001 ≤ k) {a0 : List UInt8} (ha0 : a0.length ≤ maxLen) {a1 : Int} {a2 : Bool} {left : Int} (h0 : 0 ≤ left) (h1 : left ≤ 1048576) : C k 40 [.agg [.d (.str a0), .d (.int .i64 a1), .d (.bool a2)], .d (.int .i64 left)] = some [(false, [.d (.int .i64 (szT left (szC [.str a0, .int .i64 a1, .bool a2])))])] := by
  obtain ⟨k, rfl⟩ : ∃ j, k = j + 1 := ⟨k - 1, by omega⟩
  have eT : szC [.str a0, .int .i64 a1, .bool a2] = ((a0.length : Nat)) := by simp only [szC, szD] <;> omega
  rw [eT, F40.run]
  unfold maxLen at ha0
  rw [wrap_id (n := left - (a0.length : Int)) (by omega) (by omega)]
  rcases szT_cases (left) ((a0.length : Nat)) with ⟨q0, e0⟩ | ⟨q0, e0⟩
  rotate_left
  · rw [ite'_t (by simp only [decide_eq_true_eq]; omega)] <;> first | rfl | rw [szT_neg (by omega)]
  rw [ite'_f (neg_f (by omega))] <;> first | rfl | (rw [szT_pos (by omega)] <;> (congr 6 <;> omega))
/-- laws.toRelation -/
theorem F45x0 {a0 : List UInt8} {a1 : Int} {a2 : Bool} : resS 1 true 3 [(true, [.d (.str a0), .d (.int .i64 a1), .d (.bool a2)])] 0 0 = some a0 := rfl
theorem F45x1 {a0 : List UInt8} {a1 : Int} {a2 : Bool} : resI .i64 1 true 3 [(true, [.d (.str a0), .d (.int .i64 a1), .d (.bool a2)])] 0 1 = some a1 := rfl
theorem F45x2 {a0 : List UInt8} {a1 : Int} {a2 : Bool} : resB 1 true 3 [(true, [.d (.str a0), .d (.int .i64 a1), .d (.bool a2)])] 0 2 = some a2 := rfl
theorem c45 {k : Nat} (hk : 2000001 ≤ k) {a0 : List UInt8} (ha0 : a0.length ≤ maxLen) {a1 : Int} {a2 : Bool}  : C k 45 [.agg [.d (.str a0), .d (.int .i64 a1), .d (.bool a2)]] = some [(true, [.d (.str a0), .d (.int .i64 a1), .d (.bool a2)])] := by
  obtain ⟨k, rfl⟩ : ∃ j, k = j + 1 := ⟨k - 1, by omega⟩
  rw [F45.run]
/-- laws.eqRelation -/
theorem c50 {k : Nat} (hk : 2000001 ≤ k) {a0 : List UInt8} (ha0 : a0.length ≤ maxLen) {a1 : Int} {a2 : Bool}  : C k 50 [.agg [.d (.str a0), .d (.int .i64 a1), .d (.bool a2)], .agg [.d (.str a0), .d (.int .i64 a1), .d (.bool a2)]] = some [(false, [.d (.bool true)])] := by
  obtain ⟨k, rfl⟩ : ∃ j, k = j + 1 := ⟨k - 1, by omega⟩
  rw [F50.run]
  simp only [List.getElem?_cons_zero, List.getElem?_cons_succ, Option.bind_some, asI_s, asB_s, asS_s, asL_s, bindI_s, bindB_s, bindS_s, bindL_s, bindR_s, resI_s, resB_s, resS_s, resO_s, bne_self_eq_false, beq_self_eq_true, Bool.not_true]
  rfl
/-- laws.szRelationS -/
theorem l16 {k : Nat} (hk : 2000001 ≤ k) {a : Ovi.Rows} (ha : Fit (.list [.str, .int .i64, .bool]) (.list 3 a)) : ∀ (m i n : Nat) (left : Int), 0 ≤ left → left ≤ 1048576 → i + m = a.length → m < n → F16.L5 k (C k) n a left (i : Int) = some [(false, [.d (.int .i64 (szT left (szR (a.drop i))))])] := by
  have hlen := ha.len
  intro m; induction m with
  | zero =>
    intro i n left h0 h1 hm hn
    obtain ⟨n, rfl⟩ : ∃ j, n = j + 1 := ⟨n - 1, by omega⟩
    rw [F16.L5.succ, ite'_f (lt_f (by omega)), List.drop_eq_nil_of_le (by omega)]
    simp only [szR, szT_pos (left := left) (s := 0) (by omega)]
    simp
  | succ m ih =>
    intro i n left h0 h1 hm hn
    obtain ⟨n, rfl⟩ : ∃ j, n = j + 1 := ⟨n - 1, by omega⟩
    obtain ⟨row, hr, hfr, hdr⟩ := ha.row (i := i) (by omega)
    obtain ⟨d0, rr0, rfl, hd0, hfr0⟩ := Fits.cons hfr
    obtain ⟨x0, rfl, hx0⟩ := hd0.str
    obtain ⟨d1, rr1, rfl, hd1, hfr1⟩ := Fits.cons hfr0
    obtain ⟨x1, rfl, wx1⟩ := hd1.int
    obtain ⟨d2, rr2, rfl, hd2, hfr2⟩ := Fits.cons hfr1
    obtain ⟨x2, rfl⟩ := hd2.bool
    obtain rfl := Fits.nil hfr2
    have eR : szR (a.drop i) = szC [.str x0, .int .i64 x1, .bool x2] + szR (a.drop (i + 1)) := by rw [hdr]; rfl
    rw [F16.L5.succ, ite'_t (lt_t (by omega)), ite'_t (inR_t (by omega)), eR]
    simp only [Int.toNat_natCast, cellI_at hr, cellB_at hr, cellS_at hr, cellL_at hr]
    simp only [List.getElem?_cons_zero, List.getElem?_cons_succ, Option.bind_some, asI_s, asB_s, asS_s, asL_s, bindI_s, bindB_s, bindS_s, bindL_s, bindR_s, resI_s, resB_s, resS_s, resO_s, bne_self_eq_false, beq_self_eq_true, Bool.not_true]
    have cc := c40 (k := k) (by omega) (a1 := x1) (a2 := x2) hx0 h0 h1
    rw [cc]
    simp only [List.getElem?_cons_zero, List.getElem?_cons_succ, Option.bind_some, asI_s, asB_s, asS_s, asL_s, bindI_s, bindB_s, bindS_s, bindL_s, bindR_s, resI_s, resB_s, resS_s, resO_s, bne_self_eq_false, beq_self_eq_true, Bool.not_true]
    rcases szT_cases left (szC [.str x0, .int .i64 x1, .bool x2]) with ⟨q, e⟩ | ⟨q, e⟩ <;> rw [e]
    · rw [ite'_f (neg_f (by omega)), wrap_succ (m := a.length) (by omega) (by omega) hlen]
      have := ih (i + 1) n (left - ((szC [.str x0, .int .i64 x1, .bool x2] : Nat) : Int)) (by omega) (by omega) (by omega) (by omega)
      rw [show ((i : Int) + 1) = ((i + 1 : Nat) : Int) by omega, this]
      rcases szT_cases (left - ((szC [.str x0, .int .i64 x1, .bool x2] : Nat) : Int)) (szR (a.drop (i + 1))) with ⟨q2, e2⟩ | ⟨q2, e2⟩ <;> rw [e2]
      · rw [szT_pos (by omega)] <;> (congr 6 <;> omega)
      · rw [szT_neg (by omega)]
    · rw [ite'_t neg_t, szT_neg (by omega)]
theorem c16 {k : Nat} (hk : 2000002 ≤ k) {a : Ovi.Rows} (ha : Fit (.list [.str, .int .i64, .bool]) (.list 3 a)) {left : Int} (h0 : 0 ≤ left) (h1 : left ≤ 1048576) : C k 16 [.d (.list 3 a), .d (.int .i64 left)] = some [(false, [.d (.int .i64 (szT left (szD (.list 3 a))))])] := by
  obtain ⟨k, rfl⟩ : ∃ j, k = j + 1 := ⟨k - 1, by omega⟩
  have hlen := ha.len; unfold maxLen at hlen
  rw [F16.run, wrap_id (by omega) (by omega)]
  have eD : szD (.list 3 a) = a.length + szR a := by simp only [szD]
  rw [eD]
  rcases szT_cases left a.length with ⟨q, e⟩ | ⟨q, e⟩
  · rw [ite'_f (neg_f (by omega))]
    have := l16 (k := k) (by omega) ha a.length 0 k (left - (a.length : Int)) (by omega) (by omega) (by omega) (by omega)
    rw [List.drop_zero] at this
    rw [show ((0 : Int)) = ((0 : Nat) : Int) by rfl, this]
    rcases szT_cases (left - (a.length : Int)) (szR a) with ⟨q2, e2⟩ | ⟨q2, e2⟩ <;> rw [e2]
    · rw [szT_pos (by omega)] <;> (congr 6 <;> omega)
    · rw [szT_neg (by omega)]
  · rw [ite'_t (by simp only [decide_eq_true_eq]; omega), szT_neg (by omega)]
/-- laws.toRelationS -/
theorem l19 {k : Nat} (hk : 2000001 ≤ k) {a : Ovi.Rows} (ha : Fit (.list [.str, .int .i64, .bool]) (.list 3 a)) (hs : szR a ≤ 1048576) : ∀ (m i n : Nat) (v : Ovi.Rows), Filled a v i 3 → i + m = a.length → m < n → F19.L3 k (C k) n a (i : Int) v = some [(false, [.row 83 3 a])] := by
  have hlen := ha.len
  intro m; induction m with
  | zero =>
    intro i n v hv hm hn
    obtain ⟨n, rfl⟩ : ∃ j, n = j + 1 := ⟨n - 1, by omega⟩
    obtain rfl : i = a.length := by omega
    rw [F19.L3.succ, ite'_f (lt_f (by omega)), hv.done]
  | succ m ih =>
    intro i n v hv hm hn
    obtain ⟨n, rfl⟩ : ∃ j, n = j + 1 := ⟨n - 1, by omega⟩
    obtain ⟨row, hr, hfr, hdr⟩ := ha.row (i := i) (by omega)
    obtain ⟨d0, rr0, rfl, hd0, hfr0⟩ := Fits.cons hfr
    obtain ⟨x0, rfl, hx0⟩ := hd0.str
    obtain ⟨d1, rr1, rfl, hd1, hfr1⟩ := Fits.cons hfr0
    obtain ⟨x1, rfl, wx1⟩ := hd1.int
    obtain ⟨d2, rr2, rfl, hd2, hfr2⟩ := Fits.cons hfr1
    obtain ⟨x2, rfl⟩ := hd2.bool
    obtain rfl := Fits.nil hfr2
    have hst := hv.step hr rfl
    have hvl := hv.1
    have hszr := szR_at hr
    rw [F19.L3.succ, ite'_t (lt_t (by omega)), ite'_t (inR_t (by omega))]
    simp only [Int.toNat_natCast, cellI_at hr, cellB_at hr, cellS_at hr, cellL_at hr]
    simp only [List.getElem?_cons_zero, List.getElem?_cons_succ, Option.bind_some, asI_s, asB_s, asS_s, asL_s, bindI_s, bindB_s, bindS_s, bindL_s, bindR_s, resI_s, resB_s, resS_s, resO_s, bne_self_eq_false, beq_self_eq_true, Bool.not_true]
    rw [c45 (k := k) (by omega) (a1 := x1) (a2 := x2) hx0 ]
    simp only [List.getElem?_cons_zero, List.getElem?_cons_succ, Option.bind_some, asI_s, asB_s, asS_s, asL_s, bindI_s, bindB_s, bindS_s, bindL_s, bindR_s, resI_s, resB_s, resS_s, resO_s, bne_self_eq_false, beq_self_eq_true, Bool.not_true]
    simp only [F45x0, F45x1, F45x2]
    simp only [List.getElem?_cons_zero, List.getElem?_cons_succ, Option.bind_some, asI_s, asB_s, asS_s, asL_s, bindI_s, bindB_s, bindS_s, bindL_s, bindR_s, resI_s, resB_s, resS_s, resO_s, bne_self_eq_false, beq_self_eq_true, Bool.not_true]
    rw [ite'_t (inR_t (by omega)), wrap_succ (m := a.length) (by omega) (by omega) hlen]
    rw [show ((i : Int) + 1) = ((i + 1 : Nat) : Int) by omega]
    exact ih (i + 1) n _ hst (by omega) (by omega)
theorem c19 {k : Nat} (hk : 2000002 ≤ k) {a : Ovi.Rows} (ha : Fit (.list [.str, .int .i64, .bool]) (.list 3 a)) (hs : szD (.list 3 a) ≤ 1048576) : C k 19 [.d (.list 3 a)] = some [(false, [.row 83 3 a])] := by
  obtain ⟨k, rfl⟩ : ∃ j, k = j + 1 := ⟨k - 1, by omega⟩
  simp only [szD] at hs
  rw [F19.run, ite'_t (beq_t _), ite'_t (inM_t (by omega))]
  exact l19 (k := k) (by omega) ha (by omega) a.length 0 k _ (Filled.start a _) (by omega) (by omega)
/-- laws.eqRelationS -/
theorem l22 {k : Nat} (hk : 2000001 ≤ k) {a : Ovi.Rows} (ha : Fit (.list [.str, .int .i64, .bool]) (.list 3 a)) (hs : szR a ≤ 1048576) : ∀ (m i n : Nat), i + m = a.length → m < n → F22.L4 k (C k) n a a (i : Int) = some [(false, [.d (.bool true)])] := by
  have hlen := ha.len
  intro m; induction m with
  | zero =>
    intro i n hm hn
    obtain ⟨n, rfl⟩ : ∃ j, n = j + 1 := ⟨n - 1, by omega⟩
    rw [F22.L4.succ, ite'_f (lt_f (by omega))]
  | succ m ih =>
    intro i n hm hn
    obtain ⟨n, rfl⟩ : ∃ j, n = j + 1 := ⟨n - 1, by omega⟩
    obtain ⟨row, hr, hfr, hdr⟩ := ha.row (i := i) (by omega)
    obtain ⟨d0, rr0, rfl, hd0, hfr0⟩ := Fits.cons hfr
    obtain ⟨x0, rfl, hx0⟩ := hd0.str
    obtain ⟨d1, rr1, rfl, hd1, hfr1⟩ := Fits.cons hfr0
    obtain ⟨x1, rfl, wx1⟩ := hd1.int
    obtain ⟨d2, rr2, rfl, hd2, hfr2⟩ := Fits.cons hfr1
    obtain ⟨x2, rfl⟩ := hd2.bool
    obtain rfl := Fits.nil hfr2
    have hszr := szR_at hr
    rw [F22.L4.succ, ite'_t (lt_t (by omega)), ite'_t (inR_t (by omega))]
    simp only [Int.toNat_natCast, cellI_at hr, cellB_at hr, cellS_at hr, cellL_at hr]
    simp only [List.getElem?_cons_zero, List.getElem?_cons_succ, Option.bind_some, asI_s, asB_s, asS_s, asL_s, bindI_s, bindB_s, bindS_s, bindL_s, bindR_s, resI_s, resB_s, resS_s, resO_s, bne_self_eq_false, beq_self_eq_true, Bool.not_true]
    rw [ite'_t (inR_t (by omega))]
    rw [c50 (k := k) (by omega) (a1 := x1) (a2 := x2) hx0 ]
    simp only [List.getElem?_cons_zero, List.getElem?_cons_succ, Option.bind_some, asI_s, asB_s, asS_s, asL_s, bindI_s, bindB_s, bindS_s, bindL_s, bindR_s, resI_s, resB_s, resS_s, resO_s, bne_self_eq_false, beq_self_eq_true, Bool.not_true]
    rw [ite'_f rfl, wrap_succ (m := a.length) (by omega) (by omega) hlen]
    rw [show ((i : Int) + 1) = ((i + 1 : Nat) : Int) by omega]
    exact ih (i + 1) n (by omega) (by omega)
theorem c22 {k : Nat} (hk : 2000002 ≤ k) {a : Ovi.Rows} (ha : Fit (.list [.str, .int .i64, .bool]) (.list 3 a)) (hs : szD (.list 3 a) ≤ 1048576) : C k 22 [.d (.list 3 a), .d (.list 3 a)] = some [(false, [.d (.bool true)])] := by
  obtain ⟨k, rfl⟩ : ∃ j, k = j + 1 := ⟨k - 1, by omega⟩
  simp only [szD] at hs
  rw [F22.run, ite'_f (bne_f _)]
  exact l22 (k := k) (by omega) ha (by omega) a.length 0 k (by omega) (by omega)
/-- laws.szAtom -/
theorem c67 {k : Nat} (hk : 2000002 ≤ k) {a0 : Int} {a1 : Ovi.Rows} (ha1 : Fit (.list [.int .i64]) (.list 1 a1)) {left : Int} (h0 : 0 ≤ left) (h1 : left ≤ 1048576) : C k 67 [.agg [.d (.int .i64 a0), .d (.list 1 a1)], .d (.int .i64 left)] = some [(false, [.d (.int .i64 (szT left (szC [.int .i64 a0, .list 1 a1])))])] := by
  obtain ⟨k, rfl⟩ : ∃ j, k = j + 1 := ⟨k - 1, by omega⟩
  have eT : szC [.int .i64 a0, .list 1 a1] = (szD (.list 1 a1)) := by simp only [szC, szD] <;> omega
  rw [eT, F67.run]
  rw [c24 (k := k) (by omega)  ha1 (left := left) (by omega) (by omega)]
  simp only [List.getElem?_cons_zero, List.getElem?_cons_succ, Option.bind_some, asI_s, asB_s, asS_s, asL_s, bindI_s, bindB_s, bindS_s, bindL_s, bindR_s, resI_s, resB_s, resS_s, resO_s, bne_self_eq_false, beq_self_eq_true, Bool.not_true]
  rcases szT_cases (left) (szD (.list 1 a1)) with ⟨q0, e0⟩ | ⟨q0, e0⟩ <;> rw [e0]
  rotate_left
  · rw [ite'_t (by simp only [decide_eq_true_eq]; omega)] <;> first | rfl | rw [szT_neg (by omega)]
  rw [ite'_f (neg_f (by omega))] <;> first | rfl | (rw [szT_pos (by omega)] <;> (congr 6 <;> omega))
/-- laws.toAtom -/
theorem F72x0 {a0 : Int} {a1 : Ovi.Rows} : resI .i64 1 true 2 [(true, [.d (.int .i64 a0), .row 3 1 a1])] 0 0 = some a0 := rfl
theorem F72x1 {a0 : Int} {a1 : Ovi.Rows} : resO 3 1 1 true 2 [(true, [.d (.int .i64 a0), .row 3 1 a1])] 0 1 = some a1 := rfl
theorem c72 {k : Nat} (hk : 2000002 ≤ k) {a0 : Int} {a1 : Ovi.Rows} (ha1 : Fit (.list [.int .i64]) (.list 1 a1)) (s1 : szD (.list 1 a1) ≤ 1048576) : C k 72 [.agg [.d (.int .i64 a0), .d (.list 1 a1)]] = some [(true, [.d (.int .i64 a0), .row 3 1 a1])] := by
  obtain ⟨k, rfl⟩ : ∃ j, k = j + 1 := ⟨k - 1, by omega⟩
  rw [F72.run]
  rw [c26 (k := k) (by omega)  ha1 s1]
  simp only [List.getElem?_cons_zero, List.getElem?_cons_succ, Option.bind_some, asI_s, asB_s, asS_s, asL_s, bindI_s, bindB_s, bindS_s, bindL_s, bindR_s, resI_s, resB_s, resS_s, resO_s, bne_self_eq_false, beq_self_eq_true, Bool.not_true]
/-- laws.eqAtom -/
theorem c80 {k : Nat} (hk : 2000002 ≤ k) {a0 : Int} {a1 : Ovi.Rows} (ha1 : Fit (.list [.int .i64]) (.list 1 a1)) (s1 : szD (.list 1 a1) ≤ 1048576) : C k 80 [.agg [.d (.int .i64 a0), .d (.list 1 a1)], .agg [.d (.int .i64 a0), .d (.list 1 a1)]] = some [(false, [.d (.bool true)])] := by
  obtain ⟨k, rfl⟩ : ∃ j, k = j + 1 := ⟨k - 1, by omega⟩
  rw [F80.run]
  rw [c29 (k := k) (by omega)  ha1 s1]
  simp only [List.getElem?_cons_zero, List.getElem?_cons_succ, Option.bind_some, asI_s, asB_s, asS_s, asL_s, bindI_s, bindB_s, bindS_s, bindL_s, bindR_s, resI_s, resB_s, resS_s, resO_s, bne_self_eq_false, beq_self_eq_true, Bool.not_true]
  rfl
/-- laws.szAtomS -/
theorem l41 {k : Nat} (hk : 2000002 ≤ k) {a : Ovi.Rows} (ha : Fit (.list [.int .i64, .list [.int .i64]]) (.list 2 a)) : ∀ (m i n : Nat) (left : Int), 0 ≤ left → left ≤ 1048576 → i + m = a.length → m < n → F41.L5 k (C k) n a left (i : Int) = some [(false, [.d (.int .i64 (szT left (szR (a.drop i))))])] := by
  have hlen := ha.len
  intro m; induction m with
  | zero =>
    intro i n left h0 h1 hm hn
    obtain ⟨n, rfl⟩ : ∃ j, n = j + 1 := ⟨n - 1, by omega⟩
    rw [F41.L5.succ, ite'_f (lt_f (by omega)), List.drop_eq_nil_of_le (by omega)]
    simp only [szR, szT_pos (left := left) (s := 0) (by omega)]
    simp
  | succ m ih =>
    intro i n left h0 h1 hm hn
    obtain ⟨n, rfl⟩ : ∃ j, n = j + 1 := ⟨n - 1, by omega⟩
    obtain ⟨row, hr, hfr, hdr⟩ := ha.row (i := i) (by omega)
    obtain ⟨d0, rr0, rfl, hd0, hfr0⟩ := Fits.cons hfr
    obtain ⟨x0, rfl, wx0⟩ := hd0.int
    obtain ⟨d1, rr1, rfl, hd1, hfr1⟩ := Fits.cons hfr0
    obtain ⟨x1, rfl, hx1⟩ := hd1.list (n := 1) rfl
    obtain rfl := Fits.nil hfr1
    have eR : szR (a.drop i) = szC [.int .i64 x0, .list 1 x1] + szR (a.drop (i + 1)) := by rw [hdr]; rfl
    rw [F41.L5.succ, ite'_t (lt_t (by omega)), ite'_t (inR_t (by omega)), eR]
    simp only [Int.toNat_natCast, cellI_at hr, cellB_at hr, cellS_at hr, cellL_at hr]
    simp only [List.getElem?_cons_zero, List.getElem?_cons_succ, Option.bind_some, asI_s, asB_s, asS_s, asL_s, bindI_s, bindB_s, bindS_s, bindL_s, bindR_s, resI_s, resB_s, resS_s, resO_s, bne_self_eq_false, beq_self_eq_true, Bool.not_true]
    have cc := c67 (k := k) (by omega) (a0 := x0) hx1 h0 h1
    rw [cc]
    simp only [List.getElem?_cons_zero, List.getElem?_cons_succ, Option.bind_some, asI_s, asB_s, asS_s, asL_s, bindI_s, bindB_s, bindS_s, bindL_s, bindR_s, resI_s, resB_s, resS_s, resO_s, bne_self_eq_false, beq_self_eq_true, Bool.not_true]
    rcases szT_cases left (szC [.int .i64 x0, .list 1 x1]) with ⟨q, e⟩ | ⟨q, e⟩ <;> rw [e]
    · rw [ite'_f (neg_f (by omega)), wrap_succ (m := a.length) (by omega) (by omega) hlen]
      have := ih (i + 1) n (left - ((szC [.int .i64 x0, .list 1 x1] : Nat) : Int)) (by omega) (by omega) (by omega) (by omega)
      rw [show ((i : Int) + 1) = ((i + 1 : Nat) : Int) by omega, this]
      rcases szT_cases (left - ((szC [.int .i64 x0, .list 1 x1] : Nat) : Int)) (szR (a.drop (i + 1))) with ⟨q2, e2⟩ | ⟨q2, e2⟩ <;> rw [e2]
      · rw [szT_pos (by omega)] <;> (congr 6 <;> omega)
      · rw [szT_neg (by omega)]
    · rw [ite'_t neg_t, szT_neg (by omega)]
theorem c41 {k : Nat} (hk : 2000003 ≤ k) {a : Ovi.Rows} (ha : Fit (.list [.int .i64, .list [.int .i64]]) (.list 2 a)) {left : Int} (h0 : 0 ≤ left) (h1 : left ≤ 1048576) : C k 41 [.d (.list 2 a), .d (.int .i64 left)] = some [(false, [.d (.int .i64 (szT left (szD (.list 2 a))))])] := by
  obtain ⟨k, rfl⟩ : ∃ j, k = j + 1 := ⟨k - 1, by omega⟩
  have hlen := ha.len; unfold maxLen at hlen
  rw [F41.run, wrap_id (by omega) (by omega)]
  have eD : szD (.list 2 a) = a.length + szR a := by simp only [szD]
  rw [eD]
  rcases szT_cases left a.length with ⟨q, e⟩ | ⟨q, e⟩
  · rw [ite'_f (neg_f (by omega))]
    have := l41 (k := k) (by omega) ha a.length 0 k (left - (a.length : Int)) (by omega) (by omega) (by omega) (by omega)
    rw [List.drop_zero] at this
    rw [show ((0 : Int)) = ((0 : Nat) : Int) by rfl, this]
    rcases szT_cases (left - (a.length : Int)) (szR a) with ⟨q2, e2⟩ | ⟨q2, e2⟩ <;> rw [e2]
    · rw [szT_pos (by omega)] <;> (congr 6 <;> omega)
    · rw [szT_neg (by omega)]
  · rw [ite'_t (by simp only [decide_eq_true_eq]; omega), szT_neg (by omega)]
/-- laws.toAtomS -/
theorem l46 {k : Nat} (hk : 2000002 ≤ k) {a : Ovi.Rows} (ha : Fit (.list [.int .i64, .list [.int .i64]]) (.list 2 a)) (hs : szR a ≤ 1048576) : ∀ (m i n : Nat) (v : Ovi.Rows), Filled a v i 2 → i + m = a.length → m < n → F46.L3 k (C k) n a (i : Int) v = some [(false, [.row 114 2 a])] := by
  have hlen := ha.len
  intro m; induction m with
  | zero =>
    intro i n v hv hm hn
    obtain ⟨n, rfl⟩ : ∃ j, n = j + 1 := ⟨n - 1, by omega⟩
    obtain rfl : i = a.length := by omega
    rw [F46.L3.succ, ite'_f (lt_f (by omega)), hv.done]
  | succ m ih =>
    intro i n v hv hm hn
    obtain ⟨n, rfl⟩ : ∃ j, n = j + 1 := ⟨n - 1, by omega⟩
    obtain ⟨row, hr, hfr, hdr⟩ := ha.row (i := i) (by omega)
    obtain ⟨d0, rr0, rfl, hd0, hfr0⟩ := Fits.cons hfr
    obtain ⟨x0, rfl, wx0⟩ := hd0.int
    obtain ⟨d1, rr1, rfl, hd1, hfr1⟩ := Fits.cons hfr0
    obtain ⟨x1, rfl, hx1⟩ := hd1.list (n := 1) rfl
    obtain rfl := Fits.nil hfr1
    have hst := hv.step hr rfl
    have hvl := hv.1
    have hszr := szR_at hr
    rw [F46.L3.succ, ite'_t (lt_t (by omega)), ite'_t (inR_t (by omega))]
    simp only [Int.toNat_natCast, cellI_at hr, cellB_at hr, cellS_at hr, cellL_at hr]
    simp only [List.getElem?_cons_zero, List.getElem?_cons_succ, Option.bind_some, asI_s, asB_s, asS_s, asL_s, bindI_s, bindB_s, bindS_s, bindL_s, bindR_s, resI_s, resB_s, resS_s, resO_s, bne_self_eq_false, beq_self_eq_true, Bool.not_true]
    rw [c72 (k := k) (by omega) (a0 := x0) hx1 (by simp only [szC, szD] at hszr ⊢; omega)]
    simp only [List.getElem?_cons_zero, List.getElem?_cons_succ, Option.bind_some, asI_s, asB_s, asS_s, asL_s, bindI_s, bindB_s, bindS_s, bindL_s, bindR_s, resI_s, resB_s, resS_s, resO_s, bne_self_eq_false, beq_self_eq_true, Bool.not_true]
    simp only [F72x0, F72x1]
    simp only [List.getElem?_cons_zero, List.getElem?_cons_succ, Option.bind_some, asI_s, asB_s, asS_s, asL_s, bindI_s, bindB_s, bindS_s, bindL_s, bindR_s, resI_s, resB_s, resS_s, resO_s, bne_self_eq_false, beq_self_eq_true, Bool.not_true]
    rw [ite'_t (inR_t (by omega)), wrap_succ (m := a.length) (by omega) (by omega) hlen]
    rw [show ((i : Int) + 1) = ((i + 1 : Nat) : Int) by omega]
    exact ih (i + 1) n _ hst (by omega) (by omega)
theorem c46 {k : Nat} (hk : 2000003 ≤ k) {a : Ovi.Rows} (ha : Fit (.list [.int .i64, .list [.int .i64]]) (.list 2 a)) (hs : szD (.list 2 a) ≤ 1048576) : C k 46 [.d (.list 2 a)] = some [(false, [.row 114 2 a])] := by
  obtain ⟨k, rfl⟩ : ∃ j, k = j + 1 := ⟨k - 1, by omega⟩
  simp only [szD] at hs
  rw [F46.run, ite'_t (beq_t _), ite'_t (inM_t (by omega))]
  exact l46 (k := k) (by omega) ha (by omega) a.length 0 k _ (Filled.start a _) (by omega) (by omega)
/-- laws.eqAtomS -/
theorem l51 {k : Nat} (hk : 2000002 ≤ k) {a : Ovi.Rows} (ha : Fit (.list [.int .i64, .list [.int .i64]]) (.list 2 a)) (hs : szR a ≤ 1048576) : ∀ (m i n : Nat), i + m = a.length → m < n → F51.L4 k (C k) n a a (i : Int) = some [(false, [.d (.bool true)])] := by
  have hlen := ha.len
  intro m; induction m with
  | zero =>
    intro i n hm hn
    obtain ⟨n, rfl⟩ : ∃ j, n = j + 1 := ⟨n - 1, by omega⟩
    rw [F51.L4.succ, ite'_f (lt_f (by omega))]
  | succ m ih =>
    intro i n hm hn
    obtain ⟨n, rfl⟩ : ∃ j, n = j + 1 := ⟨n - 1, by omega⟩
    obtain ⟨row, hr, hfr, hdr⟩ := ha.row (i := i) (by omega)
    obtain ⟨d0, rr0, rfl, hd0, hfr0⟩ := Fits.cons hfr
    obtain ⟨x0, rfl, wx0⟩ := hd0.int
    obtain ⟨d1, rr1, rfl, hd1, hfr1⟩ := Fits.cons hfr0
    obtain ⟨x1, rfl, hx1⟩ := hd1.list (n := 1) rfl
    obtain rfl := Fits.nil hfr1
    have hszr := szR_at hr
    rw [F51.L4.succ, ite'_t (lt_t (by omega)), ite'_t (inR_t (by omega))]
    simp only [Int.toNat_natCast, cellI_at hr, cellB_at hr, cellS_at hr, cellL_at hr]
    simp only [List.getElem?_cons_zero, List.getElem?_cons_succ, Option.bind_some, asI_s, asB_s, asS_s, asL_s, bindI_s, bindB_s, bindS_s, bindL_s, bindR_s, resI_s, resB_s, resS_s, resO_s, bne_self_eq_false, beq_self_eq_true, Bool.not_true]
    rw [ite'_t (inR_t (by omega))]
    rw [c80 (k := k) (by omega) (a0 := x0) hx1 (by simp only [szC, szD] at hszr ⊢; omega)]
    simp only [List.getElem?_cons_zero, List.getElem?_cons_succ, Option.bind_some, asI_s, asB_s, asS_s, asL_s, bindI_s, bindB_s, bindS_s, bindL_s, bindR_s, resI_s, resB_s, resS_s, resO_s, bne_self_eq_false, beq_self_eq_true, Bool.not_true]
    rw [ite'_f rfl, wrap_succ (m := a.length) (by omega) (by omega) hlen]
    rw [show ((i : Int) + 1) = ((i + 1 : Nat) : Int) by omega]
    exact ih (i + 1) n (by omega) (by omega)
theorem c51 {k : Nat} (hk : 2000003 ≤ k) {a : Ovi.Rows} (ha : Fit (.list [.int .i64, .list [.int .i64]]) (.list 2 a)) (hs : szD (.list 2 a) ≤ 1048576) : C k 51 [.d (.list 2 a), .d (.list 2 a)] = some [(false, [.d (.bool true)])] := by
  obtain ⟨k, rfl⟩ : ∃ j, k = j + 1 := ⟨k - 1, by omega⟩
  simp only [szD] at hs
  rw [F51.run, ite'_f (bne_f _)]
  exact l51 (k := k) (by omega) ha (by omega) a.length 0 k (by omega) (by omega)
/-- laws.szQuery -/
theorem c17 {k : Nat} (hk : 2000004 ≤ k) {a0 : Ovi.Rows} (ha0 : Fit (.list [.int .i64]) (.list 1 a0)) {a1 : Ovi.Rows} (ha1 : Fit (.list [.int .i64, .list [.int .i64]]) (.list 2 a1)) {left : Int} (h0 : 0 ≤ left) (h1 : left ≤ 1048576) : C k 17 [.agg [.d (.list 1 a0), .d (.list 2 a1)], .d (.int .i64 left)] = some [(false, [.d (.int .i64 (szT left (szC [.list 1 a0, .list 2 a1])))])] := by
  obtain ⟨k, rfl⟩ : ∃ j, k = j + 1 := ⟨k - 1, by omega⟩
  have eT : szC [.list 1 a0, .list 2 a1] = (szD (.list 1 a0)) + (szD (.list 2 a1)) := by simp only [szC, szD] <;> omega
  rw [eT, F17.run]
  rw [c24 (k := k) (by omega)  ha0 (left := left) (by omega) (by omega)]
  simp only [List.getElem?_cons_zero, List.getElem?_cons_succ, Option.bind_some, asI_s, asB_s, asS_s, asL_s, bindI_s, bindB_s, bindS_s, bindL_s, bindR_s, resI_s, resB_s, resS_s, resO_s, bne_self_eq_false, beq_self_eq_true, Bool.not_true]
  rcases szT_cases (left) (szD (.list 1 a0)) with ⟨q0, e0⟩ | ⟨q0, e0⟩ <;> rw [e0]
  rotate_left
  · rw [ite'_t (by simp only [decide_eq_true_eq]; omega)] <;> first | rfl | rw [szT_neg (by omega)]
  rw [ite'_f (neg_f (by omega))]
  rw [c41 (k := k) (by omega)  ha1 (left := left - ((szD (.list 1 a0) : Nat) : Int)) (by omega) (by omega)]
  simp only [List.getElem?_cons_zero, List.getElem?_cons_succ, Option.bind_some, asI_s, asB_s, asS_s, asL_s, bindI_s, bindB_s, bindS_s, bindL_s, bindR_s, resI_s, resB_s, resS_s, resO_s, bne_self_eq_false, beq_self_eq_true, Bool.not_true]
  rcases szT_cases (left - ((szD (.list 1 a0) : Nat) : Int)) (szD (.list 2 a1)) with ⟨q1, e1⟩ | ⟨q1, e1⟩ <;> rw [e1]
  rotate_left
  · rw [ite'_t (by simp only [decide_eq_true_eq]; omega)] <;> first | rfl | rw [szT_neg (by omega)]
  rw [ite'_f (neg_f (by omega))] <;> first | rfl | (rw [szT_pos (by omega)] <;> (congr 6 <;> omega))
/-- laws.toQuery -/
theorem F20x0 {a0 : Ovi.Rows} {a1 : Ovi.Rows} : resO 3 1 1 true 2 [(true, [.row 3 1 a0, .row 114 2 a1])] 0 0 = some a0 := rfl
theorem F20x1 {a0 : Ovi.Rows} {a1 : Ovi.Rows} : resO 114 2 1 true 2 [(true, [.row 3 1 a0, .row 114 2 a1])] 0 1 = some a1 := rfl
theorem c20 {k : Nat} (hk : 2000004 ≤ k) {a0 : Ovi.Rows} (ha0 : Fit (.list [.int .i64]) (.list 1 a0)) {a1 : Ovi.Rows} (ha1 : Fit (.list [.int .i64, .list [.int .i64]]) (.list 2 a1)) (s0 : szD (.list 1 a0) ≤ 1048576) (s1 : szD (.list 2 a1) ≤ 1048576) : C k 20 [.agg [.d (.list 1 a0), .d (.list 2 a1)]] = some [(true, [.row 3 1 a0, .row 114 2 a1])] := by
  obtain ⟨k, rfl⟩ : ∃ j, k = j + 1 := ⟨k - 1, by omega⟩
  rw [F20.run]
  rw [c26 (k := k) (by omega)  ha0 s0]
  simp only [List.getElem?_cons_zero, List.getElem?_cons_succ, Option.bind_some, asI_s, asB_s, asS_s, asL_s, bindI_s, bindB_s, bindS_s, bindL_s, bindR_s, resI_s, resB_s, resS_s, resO_s, bne_self_eq_false, beq_self_eq_true, Bool.not_true]
  rw [c46 (k := k) (by omega)  ha1 s1]
  simp only [List.getElem?_cons_zero, List.getElem?_cons_succ, Option.bind_some, asI_s, asB_s, asS_s, asL_s, bindI_s, bindB_s, bindS_s, bindL_s, bindR_s, resI_s, resB_s, resS_s, resO_s, bne_self_eq_false, beq_self_eq_true, Bool.not_true]
/-- laws.eqQuery -/
theorem c23 {k : Nat} (hk : 2000004 ≤ k) {a0 : Ovi.Rows} (ha0 : Fit (.list [.int .i64]) (.list 1 a0)) {a1 : Ovi.Rows} (ha1 : Fit (.list [.int .i64, .list [.int .i64]]) (.list 2 a1)) (s0 : szD (.list 1 a0) ≤ 1048576) (s1 : szD (.list 2 a1) ≤ 1048576) : C k 23 [.agg [.d (.list 1 a0), .d (.list 2 a1)], .agg [.d (.list 1 a0), .d (.list 2 a1)]] = some [(false, [.d (.bool true)])] := by
  obtain ⟨k, rfl⟩ : ∃ j, k = j + 1 := ⟨k - 1, by omega⟩
  rw [F23.run]
  rw [c29 (k := k) (by omega)  ha0 s0]
  rw [c51 (k := k) (by omega)  ha1 s1]
  simp only [List.getElem?_cons_zero, List.getElem?_cons_succ, Option.bind_some, asI_s, asB_s, asS_s, asL_s, bindI_s, bindB_s, bindS_s, bindL_s, bindR_s, resI_s, resB_s, resS_s, resO_s, bne_self_eq_false, beq_self_eq_true, Bool.not_true]
  rfl
end Go.Proofs.YtekcjghbfbfmpaaDoor.Q

/-! DHb -/
namespace Go.Proofs.YtekcjghbfbfmpaaDoor.Q
open Go Ovi

def bo (b : Bool) : Option Res := some [(false, [.d (.bool b)])]
theorem bo_eq {b c : Bool} (h : b = c) : bo b = bo c := by rw [h]
/-- spec.l1In -/
theorem c54 (k : Nat) (a l h : Int) : C (k + 1) 54 [.d (.int .i64 a), .d (.int .i64 l), .d (.int .i64 h)] = bo (decide (l ≤ a ∧ a ≤ h)) := by
  rw [F54.run]
  by_cases h1 : l ≤ a
  · rw [ite'_t (by simpa using h1)]; exact bo_eq (by simp [h1])
  · rw [ite'_f (by simpa using h1)]; exact bo_eq (by simp [h1])
/-- impl.within -/
theorem c78 (k : Nat) (a l h : Int) : C (k + 1) 78 [.d (.int .i64 a), .d (.int .i64 l), .d (.int .i64 h)] = bo (decide (l ≤ a ∧ a ≤ h)) := by
  rw [F78.run]
  by_cases h1 : l ≤ a
  · rw [ite'_t (by simpa using h1)]; exact bo_eq (by simp [h1])
  · rw [ite'_f (by simpa using h1)]; exact bo_eq (by simp [h1])
theorem bB (b : Bool) (k : Bool → Option Res) : (bindR (bo b) fun r => bindB (resB 1 false 1 r 0 0) k) = k b := rfl
theorem iB {x y : Option Res} (b : Bool) : ite' b x y = cond b x y := rfl
variable {k : Nat}
/-- spec.l4Has -/
theorem c70 (zs : List Int) (v : Int) (hk : zs.length < k) (hz : zs.length ≤ maxLen) : C (k + 1) 70 [.d (.list 1 (I1 zs)), .d (.int .i64 v)] = bo (decide (v ∈ zs)) := by
  rw [F70.run]
  have := loop_any (xs := zs) (L := fun n i => F70.L2 k (C k) n (I1 zs) v i) (stop := fun x => x == v) (hit := bo true) (fin := bo false)
    (fun n i x hx => by
      have hi := (List.getElem?_eq_some_iff.1 hx).1
      rw [F70.L2.succ, I1_len, ite'_t (lt_t hi), ite'_t (inR_t hi)]
      simp only [Int.toNat_natCast, cellI_at (I1_get' hx), List.getElem?_cons_zero, Option.bind_some, asI_s, bindI_s]
      rw [next_i hi hz]; rfl)
    (fun n => by rw [F70.L2.succ, I1_len, ite'_f (lt_f (by omega))]; rfl) k hk
  rw [show F70.L2 k (C k) k (I1 zs) v 0 = _ from this]
  by_cases h : v ∈ zs
  · rw [List.any_eq_true.2 ⟨v, h, by simp⟩]; exact bo_eq (by simp [h])
  · rw [show zs.any (fun x => x == v) = false by rw [List.any_eq_false]; intro x hx; simp; intro e; exact h (e ▸ hx)]; exact bo_eq (by simp [h])
/-- slices.Contains on integers -/
theorem c77 (zs : List Int) (v : Int) (hk : zs.length < k) (hz : zs.length ≤ maxLen) : C (k + 2) 77 [.d (.list 1 (I1 zs)), .d (.int .i64 v)] = bo (decide (v ∈ zs)) := by
  rw [F77.run, F95.run, I1_len]
  have := loop_find (xs := zs) (L := fun n i => F95.L2 k (C k) n (I1 zs) v (zs.length : Int) i) (stop := fun _ x => v == x) (hit := fun i => some [(false, [.d (.int .i64 (i : Int))])]) (fin := some [(false, [.d (.int .i64 (-1))])])
    (fun n i x hx => by
      have hi := (List.getElem?_eq_some_iff.1 hx).1
      rw [F95.L2.succ, I1_len, ite'_t (lt_t hi), ite'_t (inR_t hi)]
      simp only [Int.toNat_natCast, cellI_at (I1_get' hx), List.getElem?_cons_zero, Option.bind_some, asI_s, bindI_s]
      rw [next_i hi hz]; rfl)
    (fun n => by rw [F95.L2.succ, ite'_f (lt_f (by omega))]) k hk
  rcases this with ⟨i, x, hx, hst, e⟩ | ⟨hst, e⟩
  · rw [show F95.L2 k (C k) k (I1 zs) v (zs.length : Int) 0 = _ from e]
    simp only [bindR_s, resI_s, bindI_s]
    have : v = x := by simpa using hst
    subst this
    exact bo_eq (by rw [decide_eq_true (List.mem_of_getElem? hx)]; simp)
  · rw [show F95.L2 k (C k) k (I1 zs) v (zs.length : Int) 0 = _ from e]
    simp only [bindR_s, resI_s, bindI_s]
    refine bo_eq ?_
    rw [decide_eq_false (p := v ∈ zs) (fun h => ?_)]
    · rfl
    · obtain ⟨i, hi⟩ := List.mem_iff_getElem?.1 h
      have := hst i v hi
      simp at this
/-- slices.ContainsFunc on integers -/
theorem c75 (zs : List Int) (f : FuncId) (caps : Ovi.Rows) (p : Int → Bool) (hk : zs.length < k) (hz : zs.length ≤ maxLen) (hp : ∀ z ∈ zs, C k f (.d (.int .i64 z) :: caps.map fun c => .cap c 0) = bo (p z)) : C (k + 2) 75 [.d (.list 1 (I1 zs)), .d (.fn f caps)] = bo (zs.any p) := by
  rw [F75.run, F94.run, I1_len]
  have := loop_find (xs := zs) (L := fun n i => F94.L2 k (C k) n (I1 zs) f caps (zs.length : Int) i) (stop := fun _ x => p x) (hit := fun i => some [(false, [.d (.int .i64 (i : Int))])]) (fin := some [(false, [.d (.int .i64 (-1))])])
    (fun n i x hx => by
      have hi := (List.getElem?_eq_some_iff.1 hx).1
      rw [F94.L2.succ, I1_len, ite'_t (lt_t hi), ite'_t (inR_t hi)]
      simp only [Int.toNat_natCast, cellI_at (I1_get' hx), List.getElem?_cons_zero, Option.bind_some, asI_s, bindI_s]
      rw [next_i hi hz]
      have := hp x (List.mem_of_getElem? hx)
      simp only [List.append_eq, List.nil_append] at this ⊢
      rw [this, bB]; rfl)
    (fun n => by rw [F94.L2.succ, ite'_f (lt_f (by omega))]) k hk
  rcases this with ⟨i, x, hx, hst, e⟩ | ⟨hst, e⟩
  · rw [show F94.L2 k (C k) k (I1 zs) f caps (zs.length : Int) 0 = _ from e]
    simp only [bindR_s, resI_s, bindI_s]
    exact bo_eq (by rw [List.any_eq_true.2 ⟨x, List.mem_of_getElem? hx, hst⟩]; simp)
  · rw [show F94.L2 k (C k) k (I1 zs) f caps (zs.length : Int) 0 = _ from e]
    simp only [bindR_s, resI_s, bindI_s]
    refine bo_eq ?_
    rw [List.any_eq_false.2 (fun x hx => ?_)]
    · rfl
    · obtain ⟨i, hi⟩ := List.mem_iff_getElem?.1 hx
      simpa using hst i x hi
/-- slices.ContainsFunc on atoms -/
theorem c91 (xs : List Atom) (f : FuncId) (caps : Ovi.Rows) (p : Atom → Bool) (hk : xs.length < k) (hz : xs.length ≤ maxLen) (hp : ∀ x ∈ xs, C k f (.agg [.d (.int .i64 x.1), .d (.list 1 (I1 x.2))] :: caps.map fun c => .cap c 0) = bo (p x)) : C (k + 2) 91 [.d (.list 2 (A1 xs)), .d (.fn f caps)] = bo (xs.any p) := by
  rw [F91.run, F102.run, A1_len]
  have := loop_find (xs := xs) (L := fun n i => F102.L2 k (C k) n (A1 xs) f caps (xs.length : Int) i) (stop := fun _ x => p x) (hit := fun i => some [(false, [.d (.int .i64 (i : Int))])]) (fin := some [(false, [.d (.int .i64 (-1))])])
    (fun n i x hx => by
      have hi := (List.getElem?_eq_some_iff.1 hx).1
      rw [F102.L2.succ, A1_len, ite'_t (lt_t hi), ite'_t (inR_t hi)]
      simp only [Int.toNat_natCast, cellI_at (A1_get hx), cellL_at (A1_get hx), List.getElem?_cons_zero, List.getElem?_cons_succ, Option.bind_some, asI_s, asL_s, bindI_s, bindL_s]
      rw [next_i hi hz]
      have := hp x (List.mem_of_getElem? hx)
      simp only [List.append_eq, List.nil_append] at this ⊢
      rw [this, bB]; rfl)
    (fun n => by rw [F102.L2.succ, ite'_f (lt_f (by omega))]) k hk
  rcases this with ⟨i, x, hx, hst, e⟩ | ⟨hst, e⟩
  · rw [show F102.L2 k (C k) k (A1 xs) f caps (xs.length : Int) 0 = _ from e]
    simp only [bindR_s, resI_s, bindI_s]
    exact bo_eq (by rw [List.any_eq_true.2 ⟨x, List.mem_of_getElem? hx, hst⟩]; simp)
  · rw [show F102.L2 k (C k) k (A1 xs) f caps (xs.length : Int) 0 = _ from e]
    simp only [bindR_s, resI_s, bindI_s]
    refine bo_eq ?_
    rw [List.any_eq_false.2 (fun x hx => ?_)]
    · rfl
    · obtain ⟨i, hi⟩ := List.mem_iff_getElem?.1 hx
      simpa using hst i x hi

/-! ### relations -/
def Rl : Ty := .list [.str, .int .i64, .bool]
/-- both IsValidRelation -/
def relOk (s : List UInt8) (n : Int) : Bool := decide (s.length = 1) && (decide (byteAt s 0 ≥ 97) && (decide (byteAt s 0 ≤ 122) && decide (1 ≤ n ∧ n ≤ 3)))
theorem c117 (s : List UInt8) (n : Int) (b : Bool) : C (k + 2) 117 [.agg [.d (.str s), .d (.int .i64 n), .d (.bool b)]] = bo (relOk s n) := by
  rw [F117.run]
  by_cases h : s.length = 1
  · obtain ⟨h1, h2⟩ := letter s h
    rw [ite'_t (by simp; omega), h1, h2, c78, bB]
    unfold relOk
    rw [decide_eq_true h]
    cases decide (byteAt s 0 ≥ 97) <;> cases decide (byteAt s 0 ≤ 122) <;> rfl
  · rw [ite'_f (by simp; omega)]
    unfold relOk
    rw [decide_eq_false h]
    rfl
theorem c99 (s : List UInt8) (n : Int) (b : Bool) : C (k + 2) 99 [.agg [.d (.str s), .d (.int .i64 n), .d (.bool b)]] = bo (relOk s n) := by
  rw [F99.run]
  by_cases h : s.length = 1
  · rw [ite'_t (by simp; omega), ite'_t (by simp [inR]; omega), ite'_t (b := inR 0 s.length) (by simp [inR]; omega), c54, bB]
    unfold relOk
    rw [decide_eq_true h]
    cases decide (byteAt s 0 ≥ 97) <;> cases decide (byteAt s 0 ≤ 122) <;> rfl
  · rw [ite'_f (by simp; omega)]
    unfold relOk
    rw [decide_eq_false h]
    rfl
/-- both AreValidRelations answer alike -/
theorem rels {a : Ovi.Rows} (ha : Fit Rl (.list 3 a)) : ∃ b, ∀ k, a.length < k → C (k + 3) 103 [.d (.list 3 a)] = bo b ∧ C (k + 3) 88 [.d (.list 3 a)] = bo b := by
  have hlen := ha.len
  have key : ∀ (m i : Nat), i + m = a.length → ∃ b, ∀ k n, m < n → F103.L2 (k + 2) (C (k + 2)) n a a (a.length : Int) (i : Int) = bo b ∧ F88.L2 (k + 2) (C (k + 2)) n a (i : Int) = bo b := by
    intro m
    induction m with
    | zero =>
      intro i hm
      refine ⟨decide ((a.length : Int) ≤ 6), fun k n hn => ?_⟩
      obtain ⟨n, rfl⟩ : ∃ j, n = j + 1 := ⟨n - 1, by omega⟩
      constructor
      · rw [F103.L2.succ, ite'_f (lt_f (by omega))]; rfl
      · rw [F88.L2.succ, ite'_f (lt_f (by omega))]; rfl
    | succ m ih =>
      intro i hm
      have hi : i < a.length := by omega
      obtain ⟨row, hr, hfr, _⟩ := ha.row hi
      obtain ⟨d0, r0, rfl, f0, h1⟩ := Fits.cons hfr
      obtain ⟨d1, r1, rfl, f1, h1⟩ := Fits.cons h1
      obtain ⟨d2, r2, rfl, f2, h1⟩ := Fits.cons h1
      obtain rfl := Fits.nil h1
      obtain ⟨s, rfl, hs⟩ := f0.str
      obtain ⟨x, rfl, _⟩ := f1.int
      obtain ⟨b, rfl⟩ := f2.bool
      obtain ⟨bb, ih⟩ := ih (i + 1) (by omega)
      have step : ∀ k n, F103.L2 (k + 2) (C (k + 2)) (n + 1) a a (a.length : Int) (i : Int) = ite' (!relOk s x) (bo false) (ite' (decide ((i : Int) > 0)) (ite' (inR (IntKind.i64.wrap ((i : Int) - 1)) a.length) (bindS (cellS a (IntKind.i64.wrap ((i : Int) - 1)).toNat 0) fun s13 => ite' (sLess s s13 || s == s13) (bo false) (F103.L2 (k + 2) (C (k + 2)) n a a (a.length : Int) ((i + 1 : Nat) : Int))) none) (F103.L2 (k + 2) (C (k + 2)) n a a (a.length : Int) ((i + 1 : Nat) : Int))) ∧
          F88.L2 (k + 2) (C (k + 2)) (n + 1) a (i : Int) = ite' (!relOk s x) (bo false) (ite' (decide ((i : Int) > 0)) (ite' (inR (IntKind.i64.wrap ((i : Int) - 1)) a.length) (bindS (cellS a (IntKind.i64.wrap ((i : Int) - 1)).toNat 0) fun s11 => ite' (!sLess s11 s) (bo false) (F88.L2 (k + 2) (C (k + 2)) n a ((i + 1 : Nat) : Int))) none) (F88.L2 (k + 2) (C (k + 2)) n a ((i + 1 : Nat) : Int))) := by
        intro k n
        rw [F103.L2.succ, F88.L2.succ, ite'_t (lt_t hi), ite'_t (inR_t hi), ite'_t (lt_t hi), ite'_t (inR_t hi)]
        simp only [Int.toNat_natCast, cellI_at hr, cellS_at hr, cellB_at hr, List.getElem?_cons_zero, List.getElem?_cons_succ, Option.bind_some, asI_s, asS_s, asB_s, bindI_s, bindS_s, bindB_s]
        rw [c117, c99, next_i hi hlen, bB, bB]
        refine ⟨rfl, ?_⟩
        simp only [show ∀ x y : Option Res, ite' (inR (i : Int) a.length) x y = x from fun x y => ite'_t (inR_t hi)]
        rfl
      cases hv : relOk s x with
      | false =>
        refine ⟨false, fun k n hn => ?_⟩
        obtain ⟨n, rfl⟩ : ∃ j, n = j + 1 := ⟨n - 1, by omega⟩
        obtain ⟨e1, e2⟩ := step k n
        rw [e1, e2, hv]
        exact ⟨rfl, rfl⟩
      | true =>
        by_cases h0 : i = 0
        · subst h0
          refine ⟨bb, fun k n hn => ?_⟩
          obtain ⟨n, rfl⟩ : ∃ j, n = j + 1 := ⟨n - 1, by omega⟩
          obtain ⟨e1, e2⟩ := step k n
          rw [e1, e2, hv]
          exact ih k n (by omega)
        · have hw : IntKind.i64.wrap ((i : Int) - 1) = ((i - 1 : Nat) : Int) := by
            unfold maxLen at hlen
            rw [wrap_id (by omega) (by omega)]; omega
          obtain ⟨row', hr', hfr', _⟩ := ha.row (i := i - 1) (by omega)
          obtain ⟨d0', r0', rfl, f0', h1'⟩ := Fits.cons hfr'
          obtain ⟨s', rfl, hs'⟩ := f0'.str
          have hcs : cellS a ((i - 1 : Nat) : Int).toNat 0 = some s' := by rw [Int.toNat_natCast, cellS_at hr']; rfl
          have hgt : decide ((i : Int) > 0) = true := by simp; omega
          have hin : inR ((i - 1 : Nat) : Int) a.length = true := inR_t (by omega)
          cases hl : sLess s' s with
          | true =>
            refine ⟨bb, fun k n hn => ?_⟩
            obtain ⟨n, rfl⟩ : ∃ j, n = j + 1 := ⟨n - 1, by omega⟩
            obtain ⟨e1, e2⟩ := step k n
            rw [e1, e2, hv, hw, hgt, hin, hcs]
            simp only [bindS_s]
            rw [sLess_total, hl]
            exact ih k n (by omega)
          | false =>
            refine ⟨false, fun k n hn => ?_⟩
            obtain ⟨n, rfl⟩ : ∃ j, n = j + 1 := ⟨n - 1, by omega⟩
            obtain ⟨e1, e2⟩ := step k n
            rw [e1, e2, hv, hw, hgt, hin, hcs]
            simp only [bindS_s]
            rw [sLess_total, hl]
            exact ⟨rfl, rfl⟩
  obtain ⟨b, hb⟩ := key a.length 0 (by omega)
  refine ⟨b, fun k hk => ?_⟩
  rw [F103.run, F88.run]
  exact hb k (k + 2) (by omega)
/-- both IsValidAtom answer alike -/
theorem atoms {a : Ovi.Rows} (ha : Fit Rl (.list 3 a)) (x : Atom) (hx2 : x.2.length ≤ maxLen) : ∃ b, ∀ k, a.length < k → x.2.length < k → C (k + 5) 93 [.d (.list 3 a), .agg [.d (.int .i64 x.1), .d (.list 1 (I1 x.2))]] = bo b ∧ C (k + 5) 69 [.d (.list 3 a), .agg [.d (.int .i64 x.1), .d (.list 1 (I1 x.2))]] = bo b := by
  have hlen := ha.len
  unfold maxLen at hlen
  obtain ⟨b, hb⟩ := rels ha
  have e : ∀ k, a.length < k → C (k + 4) 103 [.d (.list 3 a)] = bo b ∧ C (k + 4) 88 [.d (.list 3 a)] = bo b := fun k hk => hb (k + 1) (by omega)
  cases b with
  | false =>
    refine ⟨false, fun k hk hx => ?_⟩
    rw [F93.run, F69.run, (e k hk).1, (e k hk).2, bB, bB]
    exact ⟨rfl, rfl⟩
  | true =>
    by_cases hr : 0 ≤ x.1 ∧ x.1 ≤ (a.length : Int) - 1
    · obtain ⟨i, hi⟩ : ∃ i : Nat, x.1 = i := ⟨x.1.toNat, by omega⟩
      have hia : i < a.length := by omega
      obtain ⟨row, hrow, hfr, _⟩ := ha.row hia
      obtain ⟨d0, r0, rfl, f0, h1⟩ := Fits.cons hfr
      obtain ⟨d1, r1, rfl, f1, h1⟩ := Fits.cons h1
      obtain ⟨n, rfl, _⟩ := f1.int
      have hcn : cellI .i64 a ((i : Int)).toNat 1 = some n := by rw [Int.toNat_natCast, cellI_at hrow]; simp [asI_s]
      by_cases hn : ((I1 x.2).length : Int) = n
      · refine ⟨!(x.2.any fun t => !decide (-10 ≤ t ∧ t ≤ 4)), fun k hk hx => ?_⟩
        rw [F93.run, F69.run, (e k hk).1, (e k hk).2, bB, bB, ite'_nt, ite'_nt, c78, c54, bB, bB, wrap_id (by omega) (by omega), decide_eq_true hr, ite'_nt, ite'_nt, hi, ite'_t (inR_t hia), ite'_t (inR_t hia), hcn]
        simp only [bindI_s]
        rw [ite'_f (by simpa using hn), ite'_f (b := ((I1 x.2).length : Int) != n) (by simpa using hn)]
        have e69 := c75 (k := k + 2) x.2 104 [] (fun t => !decide (-10 ≤ t ∧ t ≤ 4)) (by omega) hx2 (fun z _ => by
          rw [List.map_nil, F104.run, c78 k, bB]; rfl)
        rw [e69, bB]
        refine ⟨rfl, ?_⟩
        have := loop_any (xs := x.2) (L := fun m j => F69.L4 (k + 4) (C (k + 4)) m j (i : Int) (I1 x.2)) (stop := fun t => !decide (-10 ≤ t ∧ t ≤ 4)) (hit := bo false) (fin := bo true)
          (fun m j t ht => by
            have hj := (List.getElem?_eq_some_iff.1 ht).1
            rw [F69.L4.succ, I1_len, ite'_t (lt_t hj), ite'_t (inR_t hj)]
            simp only [Int.toNat_natCast, cellI_at (I1_get' ht), List.getElem?_cons_zero, Option.bind_some, asI_s, bindI_s]
            rw [c54, bB, next_i hj hx2]; rfl)
          (fun m => by rw [F69.L4.succ, I1_len, ite'_f (lt_f (by omega))]; rfl) (k + 4) (by omega)
        rw [show F69.L4 (k + 4) (C (k + 4)) (k + 4) 0 (i : Int) (I1 x.2) = _ from this]
        cases x.2.any (fun t => !decide (-10 ≤ t ∧ t ≤ 4)) <;> rfl
      · refine ⟨false, fun k hk hx => ?_⟩
        rw [F93.run, F69.run, (e k hk).1, (e k hk).2, bB, bB, ite'_nt, ite'_nt, c78, c54, bB, bB, wrap_id (by omega) (by omega), decide_eq_true hr, ite'_nt, ite'_nt, hi, ite'_t (inR_t hia), ite'_t (inR_t hia), hcn]
        simp only [bindI_s]
        rw [ite'_t (by simpa using hn), ite'_t (b := ((I1 x.2).length : Int) != n) (by simpa using hn)]
        exact ⟨rfl, rfl⟩
    · refine ⟨false, fun k hk hx => ?_⟩
      rw [F93.run, F69.run, (e k hk).1, (e k hk).2, bB, bB, ite'_nt, ite'_nt, c78, c54, bB, bB, wrap_id (by omega) (by omega), decide_eq_false hr]
      exact ⟨rfl, rfl⟩
end Go.Proofs.YtekcjghbfbfmpaaDoor.Q

/-! DIb -/
namespace Go.Proofs.YtekcjghbfbfmpaaDoor.Q
open Go Ovi
variable {k : Nat}
/-- what the atoms hold: z is a variable of theirs -/
def isVar (xs : List Atom) (z : Int) : Prop := 0 ≤ z ∧ ∃ x ∈ xs, z ∈ x.2
def terms (xs : List Atom) : Nat := (xs.map fun x => x.2.length).sum
theorem terms_at {xs : List Atom} {i : Nat} {x : Atom} (h : xs[i]? = some x) : terms (xs.take i) + x.2.length = terms (xs.take (i + 1)) := by
  obtain ⟨hi, e⟩ := List.getElem?_eq_some_iff.1 h
  unfold terms
  rw [List.take_succ_eq_append_getElem hi, e]
  simp
theorem terms_le (xs : List Atom) (i : Nat) : terms (xs.take i) ≤ terms xs := by
  have : terms xs = terms (xs.take i) + terms (xs.drop i) := by
    unfold terms
    rw [← List.sum_append, ← List.map_append, List.take_append_drop]
  omega
theorem isVar_take {xs : List Atom} {i : Nat} {x : Atom} (h : xs[i]? = some x) (z : Int) : isVar (xs.take (i + 1)) z ↔ isVar (xs.take i) z ∨ (0 ≤ z ∧ z ∈ x.2) := by
  obtain ⟨hi, e⟩ := List.getElem?_eq_some_iff.1 h
  unfold isVar
  rw [List.take_succ_eq_append_getElem hi, e]
  simp only [List.mem_append, List.mem_singleton]
  constructor
  · rintro ⟨h0, y, hy | rfl, hz⟩
    · exact .inl ⟨h0, y, hy, hz⟩
    · exact .inr ⟨h0, hz⟩
  · rintro (⟨h0, y, hy, hz⟩ | ⟨h0, hz⟩)
    · exact ⟨h0, y, .inl hy, hz⟩
    · exact ⟨h0, x, .inr rfl, hz⟩
/-- impl.Variables -/
theorem c73 (xs : List Atom) (hk : terms xs + xs.length < k) (hs : terms xs + xs.length ≤ 1048576) : ∃ vs, C (k + 1) 73 [.d (.list 2 (A1 xs))] = some [(false, [.row 3 1 (I1 vs)])] ∧ (∀ z, z ∈ vs ↔ isVar xs z) ∧ vs.length ≤ terms xs := by
  rw [F73.run, A1_len]
  have hmax : (1048576 : Nat) ≤ maxLen := by decide
  -- the inner loop
  have inner : ∀ (i : Nat) (x : Atom), xs[i]? = some x → ∀ (m j n k3 : Nat) (acc : List Int), j + m = x.2.length → m < n → acc.length ≤ terms (xs.take i) + j → (∀ z, z ∈ acc ↔ isVar (xs.take i) z ∨ (0 ≤ z ∧ z ∈ x.2.take j)) →
      ∃ acc', F73.L6 k (C k) k3 n (A1 xs) (xs.length : Int) (i : Int) (I1 x.2) (x.2.length : Int) (j : Int) (I1 acc) = F73.L3 k (C k) k3 (A1 xs) (xs.length : Int) ((i + 1 : Nat) : Int) (I1 acc') ∧ acc'.length ≤ terms (xs.take (i + 1)) ∧ ∀ z, z ∈ acc' ↔ isVar (xs.take (i + 1)) z := by
    intro i x hx m
    have hi := (List.getElem?_eq_some_iff.1 hx).1
    have hta := terms_at hx
    have htl := terms_le xs (i + 1)
    induction m with
    | zero =>
      intro j n k3 acc hm hn ha hmem
      obtain ⟨n, rfl⟩ : ∃ j, n = j + 1 := ⟨n - 1, by omega⟩
      obtain rfl : j = x.2.length := by omega
      refine ⟨acc, ?_, by omega, fun z => ?_⟩
      · rw [F73.L6.succ, ite'_f (lt_f (by omega)), next_i hi (m := xs.length) (by omega)]
      · rw [hmem z, isVar_take hx, List.take_length]
    | succ m ih =>
      intro j n k3 acc hm hn ha hmem
      obtain ⟨n, rfl⟩ : ∃ j, n = j + 1 := ⟨n - 1, by omega⟩
      have hj : j < x.2.length := by omega
      have hz := List.getElem?_eq_getElem hj
      rw [F73.L6.succ, ite'_t (lt_t hj), I1_len, ite'_t (inR_t hj)]
      simp only [Int.toNat_natCast, cellI_at (I1_get' hz), List.getElem?_cons_zero, Option.bind_some, asI_s, bindI_s]
      rw [next_i hj (m := x.2.length) (by omega)]
      have htk : ∀ z, z ∈ x.2.take (j + 1) ↔ z ∈ x.2.take j ∨ z = x.2[j] := by
        intro z
        rw [List.take_succ_eq_append_getElem hj]
        simp only [List.mem_append, List.mem_singleton]
      by_cases h0 : 0 ≤ x.2[j]
      · rw [ite'_t (by simpa using h0), ite'_t (fits_t (by simp [I1_len]; omega))]
        have e : I1 acc ++ [[.int .i64 x.2[j]]] = I1 (acc ++ [x.2[j]]) := by simp [I1]
        rw [e]
        refine ih (j + 1) n k3 _ (by omega) (by omega) (by simp; omega) (fun z => ?_)
        rw [List.mem_append, List.mem_singleton, hmem z, htk z]
        constructor
        · rintro ((h | h) | h)
          · exact .inl h
          · exact .inr ⟨h.1, .inl h.2⟩
          · exact .inr ⟨h ▸ h0, .inr h⟩
        · rintro (h | ⟨h1, h | h⟩)
          · exact .inl (.inl h)
          · exact .inl (.inr ⟨h1, h⟩)
          · exact .inr h
      · rw [ite'_f (by simpa using h0)]
        refine ih (j + 1) n k3 _ (by omega) (by omega) (by omega) (fun z => ?_)
        rw [hmem z, htk z]
        constructor
        · rintro (h | h)
          · exact .inl h
          · exact .inr ⟨h.1, .inl h.2⟩
        · rintro (h | ⟨h1, h | h⟩)
          · exact .inl h
          · exact .inr ⟨h1, h⟩
          · exact absurd (h ▸ h1) h0
  have outer : ∀ (m i n : Nat) (acc : List Int), i + m = xs.length → m < n → acc.length ≤ terms (xs.take i) → (∀ z, z ∈ acc ↔ isVar (xs.take i) z) →
      ∃ vs, F73.L3 k (C k) n (A1 xs) (xs.length : Int) (i : Int) (I1 acc) = some [(false, [.row 3 1 (I1 vs)])] ∧ (∀ z, z ∈ vs ↔ isVar xs z) ∧ vs.length ≤ terms xs := by
    intro m
    induction m with
    | zero =>
      intro i n acc hm hn ha hmem
      obtain ⟨n, rfl⟩ : ∃ j, n = j + 1 := ⟨n - 1, by omega⟩
      obtain rfl : i = xs.length := by omega
      rw [List.take_length] at ha hmem
      obtain ⟨k, rfl⟩ : ∃ j, k = j + 1 := ⟨k - 1, by omega⟩
      have e1 : C (k + 1) 89 [.var 0 0, .d (.int .i64 3), .d (.list 1 (I1 acc))] = some [(false, [.row 3 1 (I1 (sortInts acc))])] := by
        show sortP _ = _
        unfold sortP rawArg
        simp only [ints_I1]
        rw [show Nat.ble acc.length 1099511627776 = true from Nat.ble_eq_true_of_le (by omega)]
        rfl
      have hsl : (sortInts acc).length = acc.length := by simp [sortInts]
      have e2 : C (k + 1) 90 [.var 0 0, .d (.int .i64 3), .d (.list 1 (I1 (sortInts acc)))] = some [(false, [.row 3 1 (I1 (Lib.compact (sortInts acc)))]), (true, [])] := by
        show compactP _ = _
        unfold compactP rawArg
        simp only [ints_I1]
        rw [show Nat.ble (sortInts acc).length 1099511627776 = true from Nat.ble_eq_true_of_le (by omega)]
        rfl
      refine ⟨Lib.compact (sortInts acc), ?_, fun z => ?_, ?_⟩
      · rw [F73.L3.succ, ite'_f (lt_f (by omega)), e1]
        simp only [bindR_s, resO_s, bindL_s]
        rw [e2]
        rfl
      · rw [mem_compact, mem_sortInts, hmem z]
      · have := compact_len (sortInts acc)
        omega
    | succ m ih =>
      intro i n acc hm hn ha hmem
      obtain ⟨n, rfl⟩ : ∃ j, n = j + 1 := ⟨n - 1, by omega⟩
      have hi : i < xs.length := by omega
      have hx := List.getElem?_eq_getElem hi
      rw [F73.L3.succ, A1_len, ite'_t (lt_t hi), ite'_t (inR_t hi)]
      simp only [Int.toNat_natCast, cellI_at (A1_get hx), cellL_at (A1_get hx), List.getElem?_cons_zero, List.getElem?_cons_succ, Option.bind_some, asI_s, asL_s, bindI_s, bindL_s]
      have hta := terms_at hx
      have htl := terms_le xs (i + 1)
      rw [I1_len]
      obtain ⟨acc', e, h1, h2⟩ := inner i _ hx (xs[i]).2.length 0 k n acc (by omega) (by omega) (by omega) (fun z => by simp [hmem z])
      rw [show ((0 : Nat) : Int) = 0 from rfl] at e
      rw [e]
      exact ih (i + 1) n acc' (by omega) (by omega) h1 h2
  have := outer xs.length 0 k [] (by omega) (by omega) (by simp) (fun z => by simp [isVar])
  exact this
theorem sortP_show : True := trivial
/-- spec.l4Put -/
theorem c87 (zs : List Int) (v : Int) (hk : zs.length < k) (hz : zs.length ≤ 1048576) : ∃ r ws, C (k + 1) 87 [.d (.list 1 (I1 zs)), .d (.int .i64 v)] = some r ∧ resL 1 1 false 1 r 0 0 = some (I1 ws) ∧ (∀ z, z ∈ ws ↔ z ∈ zs ∨ z = v) ∧ ws.length ≤ zs.length + 1 := by
  rw [F87.run]
  have hmax : (1048576 : Nat) ≤ maxLen := by decide
  have ins : ∀ i : Nat, i ≤ zs.length → ∃ r ws, (ite' (inS (i : Int) ((I1 zs).length : Int) (I1 zs).length) (ite' (fits (([[D.int .i64 v]] : Ovi.Rows).length + ((I1 zs).drop (i : Int).toNat).length)) (ite' (inS (0 : Int) (i : Int) (I1 zs).length) (ite' (fits ((I1 zs).take (i : Int).toNat).length) (ite' (fits (((I1 zs).take (i : Int).toNat).length + List.length ([[D.int .i64 v]] ++ (I1 zs).drop (i : Int).toNat))) (some ([(false, [RL.row 3 1 ((I1 zs).take (i : Int).toNat ++ ([[D.int .i64 v]] ++ (I1 zs).drop (i : Int).toNat))])] : Res)) none) none) none) none) none) = some r ∧ resL 1 1 false 1 r 0 0 = some (I1 ws) ∧ (∀ z, z ∈ ws ↔ z ∈ zs ∨ z = v) ∧ ws.length ≤ zs.length + 1 := by
    intro i hi
    rw [I1_len, ite'_t (by simp [inS]; omega), ite'_t (fits_t (by simp [I1_len]; omega)), ite'_t (by simp [inS]; omega), ite'_t (fits_t (by simp [I1_len]; omega)), ite'_t (fits_t (by simp [I1_len]; omega))]
    refine ⟨_, zs.take i ++ v :: zs.drop i, rfl, ?_, fun z => ?_, by simp; omega⟩
    · rw [resL_s]
      simp [I1]
    · have : z ∈ zs ↔ z ∈ zs.take i ∨ z ∈ zs.drop i := by rw [← List.mem_append, List.take_append_drop]
      rw [this, List.mem_append, List.mem_cons]
      constructor
      · rintro (h | h | h)
        · exact .inl (.inl h)
        · exact .inr h
        · exact .inl (.inr h)
      · rintro ((h | h) | h)
        · exact .inl h
        · exact .inr (.inr h)
        · exact .inr (.inl h)
  have main : ∀ (m i n : Nat), i + m = zs.length → m < n → ∃ r ws, F87.L2 k (C k) n (I1 zs) v (i : Int) = some r ∧ resL 1 1 false 1 r 0 0 = some (I1 ws) ∧ (∀ z, z ∈ ws ↔ z ∈ zs ∨ z = v) ∧ ws.length ≤ zs.length + 1 := by
    intro m
    induction m with
    | zero =>
      intro i n hm hn
      obtain ⟨n, rfl⟩ : ∃ j, n = j + 1 := ⟨n - 1, by omega⟩
      obtain ⟨r, ws, h1, h2⟩ := ins i (by omega)
      refine ⟨r, ws, ?_, h2⟩
      rw [F87.L2.succ]
      rw [ite'_f (b := decide ((i : Int) < ((I1 zs).length : Int))) (by rw [I1_len]; exact lt_f (by omega))]
      rw [ite'_f (b := decide ((i : Int) < ((I1 zs).length : Int))) (by rw [I1_len]; exact lt_f (by omega))]
      exact h1
    | succ m ih =>
      intro i n hm hn
      obtain ⟨n, rfl⟩ : ∃ j, n = j + 1 := ⟨n - 1, by omega⟩
      have hi : i < zs.length := by omega
      have hx := List.getElem?_eq_getElem hi
      obtain ⟨r, ws, h1, h2⟩ := ins i (by omega)
      rw [F87.L2.succ]
      rw [ite'_t (b := decide ((i : Int) < ((I1 zs).length : Int))) (by rw [I1_len]; exact lt_t hi)]
      rw [ite'_t (b := inR (i : Int) (I1 zs).length) (by rw [I1_len]; exact inR_t hi)]
      rw [show cellI .i64 (I1 zs) (i : Int).toNat 0 = some zs[i] by rw [Int.toNat_natCast, cellI_at (I1_get' hx)]; rfl]
      simp only [bindI_s]
      by_cases hlt : zs[i] < v
      · rw [ite'_t (by simpa using hlt), next_i hi (m := zs.length) (by omega)]
        exact ih (i + 1) n (by omega) (by omega)
      · rw [ite'_f (b := decide (zs[i] < v)) (by simpa using hlt)]
        rw [ite'_t (b := decide ((i : Int) < ((I1 zs).length : Int))) (by rw [I1_len]; exact lt_t hi)]
        rw [ite'_t (b := inR (i : Int) (I1 zs).length) (by rw [I1_len]; exact inR_t hi)]
        by_cases heq : zs[i] = v
        · rw [ite'_t (b := zs[i] == v) (by simpa using heq)]
          refine ⟨_, zs, rfl, resL_d _ _, fun z => ⟨.inl, ?_⟩, by omega⟩
          rintro (h | h)
          · exact h
          · rw [h, ← heq]; exact List.getElem_mem hi
        · rw [ite'_f (b := zs[i] == v) (by simpa using heq)]
          exact ⟨r, ws, h1, h2⟩
  have := main zs.length 0 k (by omega) (by omega)
  exact this
/-- spec.Variables -/
theorem c68 (xs : List Atom) (hk : terms xs + xs.length < k) (hs : terms xs + xs.length ≤ 1048576) : ∃ vs, C (k + 2) 68 [.d (.list 2 (A1 xs))] = some [(false, [.d (.list 1 (I1 vs))])] ∧ (∀ z, z ∈ vs ↔ isVar xs z) ∧ vs.length ≤ terms xs := by
  rw [F68.run]
  have hmax : (1048576 : Nat) ≤ maxLen := by decide
  have inner : ∀ (i : Nat) (x : Atom), xs[i]? = some x → ∀ (m j n k3 : Nat) (acc : List Int), j + m = x.2.length → m < n → acc.length ≤ terms (xs.take i) + j → (∀ z, z ∈ acc ↔ isVar (xs.take i) z ∨ (0 ≤ z ∧ z ∈ x.2.take j)) →
      ∃ acc', F68.L6 (k + 1) (C (k + 1)) k3 n (A1 xs) (I1 acc) (i : Int) (j : Int) = F68.L3 (k + 1) (C (k + 1)) k3 (A1 xs) (I1 acc') ((i + 1 : Nat) : Int) ∧ acc'.length ≤ terms (xs.take (i + 1)) ∧ ∀ z, z ∈ acc' ↔ isVar (xs.take (i + 1)) z := by
    intro i x hx m
    have hi := (List.getElem?_eq_some_iff.1 hx).1
    have hta := terms_at hx
    have htl := terms_le xs (i + 1)
    have hcell : cellL 1 (A1 xs) ((i : Int)).toNat 1 = some (I1 x.2) := by rw [Int.toNat_natCast, cellL_at (A1_get hx)]; rfl
    have hin : inR (i : Int) (A1 xs).length = true := by rw [A1_len]; exact inR_t hi
    induction m with
    | zero =>
      intro j n k3 acc hm hn ha hmem
      obtain ⟨n, rfl⟩ : ∃ j, n = j + 1 := ⟨n - 1, by omega⟩
      obtain rfl : j = x.2.length := by omega
      refine ⟨acc, ?_, by omega, fun z => ?_⟩
      · rw [F68.L6.succ, ite'_t hin, hcell, bindL_s, I1_len, ite'_f (lt_f (by omega)), next_i hi (m := xs.length) (by omega)]
      · rw [hmem z, isVar_take hx, List.take_length]
    | succ m ih =>
      intro j n k3 acc hm hn ha hmem
      obtain ⟨n, rfl⟩ : ∃ j, n = j + 1 := ⟨n - 1, by omega⟩
      have hj : j < x.2.length := by omega
      have hz := List.getElem?_eq_getElem hj
      have hcz : cellI .i64 (I1 x.2) ((j : Int)).toNat 0 = some x.2[j] := by rw [Int.toNat_natCast, cellI_at (I1_get' hz)]; rfl
      have hinj : inR (j : Int) (I1 x.2).length = true := by rw [I1_len]; exact inR_t hj
      rw [F68.L6.succ, ite'_t hin, hcell, bindL_s, ite'_t (b := decide ((j : Int) < ((I1 x.2).length : Int))) (by rw [I1_len]; exact lt_t hj), ite'_t hin]
      simp only [bindL_s]
      rw [ite'_t hinj, hcz]
      simp only [bindI_s]
      rw [next_i hj (m := x.2.length) (by omega)]
      have htk : ∀ z, z ∈ x.2.take (j + 1) ↔ z ∈ x.2.take j ∨ z = x.2[j] := by
        intro z
        rw [List.take_succ_eq_append_getElem hj]
        simp only [List.mem_append, List.mem_singleton]
      by_cases h0 : 0 ≤ x.2[j]
      · obtain ⟨r, ws, e1, e2, e3, e4⟩ := c87 (k := k) acc x.2[j] (by omega) (by omega)
        rw [ite'_t (by simpa using h0), ite'_t hin, ite'_t hinj, e1]
        simp only [bindR_s]
        rw [e2, bindL_s]
        refine ih (j + 1) n k3 _ (by omega) (by omega) (by omega) (fun z => ?_)
        rw [e3 z, hmem z, htk z]
        constructor
        · rintro ((h | h) | h)
          · exact .inl h
          · exact .inr ⟨h.1, .inl h.2⟩
          · exact .inr ⟨h ▸ h0, .inr h⟩
        · rintro (h | ⟨h1, h | h⟩)
          · exact .inl (.inl h)
          · exact .inl (.inr ⟨h1, h⟩)
          · exact .inr h
      · rw [ite'_f (by simpa using h0)]
        refine ih (j + 1) n k3 _ (by omega) (by omega) (by omega) (fun z => ?_)
        rw [hmem z, htk z]
        constructor
        · rintro (h | h)
          · exact .inl h
          · exact .inr ⟨h.1, .inl h.2⟩
        · rintro (h | ⟨h1, h | h⟩)
          · exact .inl h
          · exact .inr ⟨h1, h⟩
          · exact absurd (h ▸ h1) h0
  have outer : ∀ (m i n : Nat) (acc : List Int), i + m = xs.length → m < n → acc.length ≤ terms (xs.take i) → (∀ z, z ∈ acc ↔ isVar (xs.take i) z) →
      ∃ vs, F68.L3 (k + 1) (C (k + 1)) n (A1 xs) (I1 acc) (i : Int) = some [(false, [.d (.list 1 (I1 vs))])] ∧ (∀ z, z ∈ vs ↔ isVar xs z) ∧ vs.length ≤ terms xs := by
    intro m
    induction m with
    | zero =>
      intro i n acc hm hn ha hmem
      obtain ⟨n, rfl⟩ : ∃ j, n = j + 1 := ⟨n - 1, by omega⟩
      obtain rfl : i = xs.length := by omega
      rw [List.take_length] at ha hmem
      exact ⟨acc, by rw [F68.L3.succ, A1_len, ite'_f (lt_f (by omega))], hmem, ha⟩
    | succ m ih =>
      intro i n acc hm hn ha hmem
      obtain ⟨n, rfl⟩ : ∃ j, n = j + 1 := ⟨n - 1, by omega⟩
      have hi : i < xs.length := by omega
      have hx := List.getElem?_eq_getElem hi
      have hta := terms_at hx
      have htl := terms_le xs (i + 1)
      rw [F68.L3.succ, A1_len, ite'_t (lt_t hi)]
      obtain ⟨acc', e, h1, h2⟩ := inner i _ hx (xs[i]).2.length 0 (k + 1) n acc (by omega) (by omega) (by omega) (fun z => by simp [hmem z])
      rw [show ((0 : Nat) : Int) = 0 from rfl] at e
      rw [e]
      exact ih (i + 1) n acc' (by omega) (by omega) h1 h2
  have := outer xs.length 0 (k + 1) [] (by omega) (by omega) (by simp) (fun z => by simp [isVar])
  exact this
end Go.Proofs.YtekcjghbfbfmpaaDoor.Q

/-! DJb -/
namespace Go.Proofs.YtekcjghbfbfmpaaDoor.Q
open Go Ovi
variable {k : Nat}
noncomputable def vB (xs : List Atom) (z : Int) : Bool := @decide (isVar xs z) (Classical.propDecidable _)
theorem vB_mem {xs : List Atom} {vs : List Int} (h : ∀ z, z ∈ vs ↔ isVar xs z) (z : Int) : decide (z ∈ vs) = vB xs z := by
  unfold vB
  rw [Bool.eq_iff_iff]
  simp [h z]
/-- what both IsValidAtom say -/
def Valid (a : Ovi.Rows) (xs : List Atom) (valid : Atom → Bool) : Prop := ∀ x ∈ xs, ∀ k, a.length < k → x.2.length < k → C (k + 5) 93 [.d (.list 3 a), .agg [.d (.int .i64 x.1), .d (.list 1 (I1 x.2))]] = bo (valid x) ∧ C (k + 5) 69 [.d (.list 3 a), .agg [.d (.int .i64 x.1), .d (.list 1 (I1 x.2))]] = bo (valid x)
theorem valid_ex {a : Ovi.Rows} (ha : Fit Rl (.list 3 a)) (xs : List Atom) (hx : ∀ x ∈ xs, x.2.length ≤ maxLen) : ∃ valid, Valid a xs valid := by
  have : ∀ x : Atom, ∃ b, x ∈ xs → ∀ k, a.length < k → x.2.length < k → C (k + 5) 93 [.d (.list 3 a), .agg [.d (.int .i64 x.1), .d (.list 1 (I1 x.2))]] = bo b ∧ C (k + 5) 69 [.d (.list 3 a), .agg [.d (.int .i64 x.1), .d (.list 1 (I1 x.2))]] = bo b := by
    intro x
    by_cases h : x ∈ xs
    · obtain ⟨b, hb⟩ := atoms ha x (hx x h)
      exact ⟨b, fun _ => hb⟩
    · exact ⟨false, fun h' => absurd h' h⟩
  obtain ⟨valid, hv⟩ := Classical.axiomOfChoice this
  exact ⟨valid, fun x hx => hv x hx⟩
noncomputable def qOk (valid : Atom → Bool) (xs : List Atom) (out : List Int) : Bool := (decide ((1 : Int) ≤ (xs.length : Int) ∧ (xs.length : Int) ≤ 3) && xs.all valid) && (decide ((out.length : Int) ≤ 3) && out.all (vB xs))
theorem len_terms {xs : List Atom} {x : Atom} (h : x ∈ xs) : x.2.length ≤ terms xs := by
  induction xs with
  | nil => cases h
  | cons y ys ih =>
    have e : terms (y :: ys) = y.2.length + terms ys := by simp [terms]
    rw [e]
    rcases List.mem_cons.1 h with rfl | h
    · omega
    · have := ih h; omega
theorem any_not {α : Type} (l : List α) (p : α → Bool) : (!(l.any fun x => !p x)) = l.all p := by
  induction l with
  | nil => rfl
  | cons x l ih => rw [List.any_cons, List.all_cons, ← ih]; cases p x <;> simp
/-- impl.IsValidQuery -/
theorem c47 {a : Ovi.Rows} {xs : List Atom} {out : List Int} {valid : Atom → Bool} (hv : Valid a xs valid) (hk : 2000000 ≤ k) (ha : a.length ≤ 1048576) (hs : terms xs + xs.length ≤ 1048576) (ho : out.length ≤ 1048576) :
    C (k + 10) 47 [.d (.list 3 a), .agg [.d (.list 1 (I1 out)), .d (.list 2 (A1 xs))]] = bo (qOk valid xs out) := by
  have hmax : (1048576 : Nat) ≤ maxLen := by decide
  obtain ⟨vs, e, hm, hl⟩ := c73 (k := k + 8) xs (by omega) hs
  rw [F47.run, e]
  simp only [bindR_s, resO_s, bindL_s]
  have e68 : C (k + 9) 74 [.d (.list 3 a), .d (.list 2 (A1 xs)), .d (.int .i64 3)] = bo (decide ((1 : Int) ≤ (xs.length : Int) ∧ (xs.length : Int) ≤ 3) && xs.all valid) := by
    rw [F74.run, c78, bB, A1_len]
    cases decide ((1 : Int) ≤ (xs.length : Int) ∧ (xs.length : Int) ≤ 3) with
    | false => rfl
    | true =>
      rw [ite'_t rfl, c91 (k := k + 6) xs 92 [[.list 3 a]] (fun x => !valid x) (by omega) (by omega) (fun x hx => by
        have := len_terms hx
        rw [List.map_cons, List.map_nil, F92.run, (hv x hx k (by omega) (by omega)).1, bB]; rfl), bB]
      exact bo_eq (any_not xs valid)
  rw [e68, bB, I1_len]
  unfold qOk
  cases (decide ((1 : Int) ≤ (xs.length : Int) ∧ (xs.length : Int) ≤ 3) && xs.all valid) with
  | false => rfl
  | true =>
    rw [ite'_t rfl]
    by_cases h3 : (out.length : Int) ≤ 3
    · rw [ite'_t (by simpa using h3), c75 (k := k + 7) out 76 [[.list 1 (I1 vs)]] (fun z => !vB xs z) (by omega) (by omega) (fun z hz => by
        rw [List.map_cons, List.map_nil, F76.run, c77 (k := k + 4) vs z (by omega) (by omega), bB, vB_mem hm]; rfl), bB, decide_eq_true h3]
      exact bo_eq (any_not out (vB xs))
    · rw [ite'_f (by simpa using h3), decide_eq_false h3]
      rfl
/-- spec.IsValidQuery -/
theorem c42 {a : Ovi.Rows} {xs : List Atom} {out : List Int} {valid : Atom → Bool} (hv : Valid a xs valid) (hk : 2000000 ≤ k) (ha : a.length ≤ 1048576) (hs : terms xs + xs.length ≤ 1048576) (ho : out.length ≤ 1048576) :
    C (k + 10) 42 [.d (.list 3 a), .agg [.d (.list 1 (I1 out)), .d (.list 2 (A1 xs))]] = bo (qOk valid xs out) := by
  have hmax : (1048576 : Nat) ≤ maxLen := by decide
  obtain ⟨vs, e, hm, hl⟩ := c68 (k := k + 7) xs (by omega) hs
  rw [F42.run, e]
  simp only [bindR_s, resL_d, bindL_s]
  have l8 : F42.L8 (k + 9) (C (k + 9)) (k + 9) (I1 vs) 0 (I1 out) (A1 xs) = cond (out.any fun z => !vB xs z) (bo false) (bo (decide ((1 : Int) ≤ (xs.length : Int) ∧ (xs.length : Int) ≤ 3) && decide ((out.length : Int) ≤ 3))) :=
    loop_any (xs := out) (L := fun n i => F42.L8 (k + 9) (C (k + 9)) n (I1 vs) i (I1 out) (A1 xs)) (stop := fun z => !vB xs z)
      (fun n i z hz => by
        have hi := (List.getElem?_eq_some_iff.1 hz).1
        rw [F42.L8.succ, I1_len, ite'_t (lt_t hi), ite'_t (inR_t hi)]
        simp only [Int.toNat_natCast, cellI_at (I1_get' hz), List.getElem?_cons_zero, Option.bind_some, asI_s, bindI_s]
        rw [c70 (k := k + 8) vs z (by omega) (by omega), bB, vB_mem hm, next_i hi (m := out.length) (by omega)]; rfl)
      (fun n => by
        rw [F42.L8.succ, I1_len, ite'_f (lt_f (by omega)), c54, bB, A1_len]
        cases decide ((1 : Int) ≤ (xs.length : Int) ∧ (xs.length : Int) ≤ 3) <;> rfl) (k + 9) (by omega)
  have l3 : F42.L3 (k + 9) (C (k + 9)) (k + 9) a (I1 vs) 0 (I1 out) (A1 xs) = cond (xs.any fun x => !valid x) (bo false) (F42.L8 (k + 9) (C (k + 9)) (k + 9) (I1 vs) 0 (I1 out) (A1 xs)) :=
    loop_any (xs := xs) (L := fun n i => F42.L3 (k + 9) (C (k + 9)) n a (I1 vs) i (I1 out) (A1 xs)) (stop := fun x => !valid x)
      (fun n i x hx => by
        have hi := (List.getElem?_eq_some_iff.1 hx).1
        have := len_terms (List.mem_of_getElem? hx)
        rw [F42.L3.succ, A1_len, ite'_t (lt_t hi), ite'_t (inR_t hi)]
        simp only [Int.toNat_natCast, cellI_at (A1_get hx), cellL_at (A1_get hx), List.getElem?_cons_zero, List.getElem?_cons_succ, Option.bind_some, asI_s, asL_s, bindI_s, bindL_s]
        rw [(hv x (List.mem_of_getElem? hx) (k + 4) (by omega) (by omega)).2, bB, next_i hi (m := xs.length) (by omega)]; rfl)
      (fun n => by rw [F42.L3.succ, A1_len, ite'_f (lt_f (by omega))]) (k + 9) (by omega)
  rw [l3, l8]
  unfold qOk
  rw [← any_not xs valid, ← any_not out (vB xs)]
  cases (xs.any fun x => !valid x) <;> cases (out.any fun z => !vB xs z) <;> cases decide ((1 : Int) ≤ (xs.length : Int) ∧ (xs.length : Int) ≤ 3) <;> cases decide ((out.length : Int) ≤ 3) <;> rfl
def In1 : Ty := .list [.int .i64]
def At : Ty := .list [.int .i64, .list [.int .i64]]
theorem sz_atoms {xs : List Atom} : szD (.list 2 (A1 xs)) = xs.length + terms xs := by
  simp only [szD, A1_len, szR_A1]
  rfl
theorem sz_ints {zs : List Int} : szD (.list 1 (I1 zs)) = zs.length := by simp only [szD, I1_len, szR_I1, Nat.add_zero]
theorem sz_rels {a : Ovi.Rows} : a.length ≤ szD (.list 3 a) := by simp only [szD]; omega
end Go.Proofs.YtekcjghbfbfmpaaDoor.Q

/-! DKb -/
namespace Go.Proofs.YtekcjghbfbfmpaaDoor.Q
open Go Ovi
/-! ### terms as texts -/
def ft (t : Int) : List UInt8 := if -10 ≤ t ∧ t ≤ -1 then Lib.decDigits (-1 - t).toNat else if 0 ≤ t ∧ t ≤ 4 then cutL t (t + 1) [120, 121, 122, 117, 118] else []
theorem ft_len (t : Int) : (ft t).length ≤ 2 := by
  unfold ft
  split
  · exact dig_len (by omega)
  · split
    · simp only [cutL, List.length_take]; omega
    · simp
variable {k : Nat}
theorem c48 (hk : 10 ≤ k) {t : Int} : C k 48 [.d (.int .i64 t)] = some [(false, [.d (.str (ft t))])] := by
  obtain ⟨k, rfl⟩ : ∃ j, k = j + 3 := ⟨k - 3, by omega⟩
  rw [F48.run, c78, bB, c78, bB]
  unfold ft
  by_cases h1 : 0 ≤ t ∧ t ≤ 4
  · have hs : inS t (t + 1) 5 = true := by simp only [inS, decide_eq_true_eq]; omega
    rw [decide_eq_true h1, ite'_t rfl, wrap_id (by omega) (by omega), ite'_t hs, if_neg (by omega), if_pos h1]
  · rw [decide_eq_false h1, ite'_f rfl]
    by_cases h2 : -10 ≤ t ∧ t ≤ -1
    · rw [decide_eq_true h2, ite'_t rfl, if_pos h2, wrap_id (by omega) (by omega), c57 (by omega) (by omega) (by omega), bindR_s, resS_s, bindS_s]
    · rw [decide_eq_false h2, ite'_f rfl, if_neg h2, if_neg h1]
theorem c43 (hk : 60 ≤ k) {t : Int} : C k 43 [.d (.int .i64 t)] = some [(false, [.d (.str (ft t))])] := by
  obtain ⟨k, rfl⟩ : ∃ j, k = j + 3 := ⟨k - 3, by omega⟩
  rw [F43.run, c54, bB, c54, bB]
  unfold ft
  by_cases h2 : -10 ≤ t ∧ t ≤ -1
  · rw [decide_eq_true h2, ite'_t rfl, if_pos h2, wrap_id (by omega) (by omega), c53 (by omega) (by unfold inI; omega), bindR_s, resS_s, bindS_s, itoa_nn (by omega)]
  · rw [decide_eq_false h2, ite'_f rfl, if_neg h2]
    by_cases h1 : 0 ≤ t ∧ t ≤ 4
    · have hs : inS t (t + 1) 5 = true := by simp only [inS, decide_eq_true_eq]; omega
      rw [decide_eq_true h1, ite'_nt, wrap_id (by omega) (by omega), ite'_t hs, if_pos h1]
    · rw [decide_eq_false h1, ite'_nf, if_neg h1]
def fts (zs : List Int) : List UInt8 := (zs.map ft).flatten
theorem fts_len (zs : List Int) : (fts zs).length ≤ 2 * zs.length := by
  induction zs with
  | nil => simp [fts]
  | cons z zs ih => have := ft_len z; simp only [fts, List.map_cons, List.flatten_cons, List.length_append, List.length_cons] at ih ⊢; omega
theorem fts_drop {zs : List Int} {j : Nat} (h : j < zs.length) : fts (zs.drop j) = ft zs[j] ++ fts (zs.drop (j + 1)) := by
  unfold fts
  rw [List.drop_eq_getElem_cons h, List.map_cons, List.flatten_cons]
theorem cellI_I1 {zs : List Int} {j : Nat} (h : j < zs.length) : cellI .i64 (I1 zs) (j : Int).toNat 0 = some zs[j] := by
  rw [Int.toNat_natCast, cellI_at (I1_get' (List.getElem?_eq_getElem h))]
  simp [asI_s]
/-! the loops over terms -/
theorem l71 (hk : 100 ≤ k) (r : Int) {zs : List Int} (hz : zs.length ≤ 1048576) : ∀ (m j n : Nat) (acc : List UInt8), j + m = zs.length → m < n → acc.length + 2 * m ≤ 8388608 →
    F71.L5 k (C k) n acc j r (I1 zs) = some [(false, [.d (.str (acc ++ fts (zs.drop j)))])] := by
  intro m
  induction m with
  | zero =>
    intro j n acc hm hn hl
    obtain ⟨n, rfl⟩ : ∃ q, n = q + 1 := ⟨n - 1, by omega⟩
    obtain rfl : j = zs.length := by omega
    rw [F71.L5.succ, I1_len, ite'_f (lt_f (by omega)), List.drop_length]
    simp [fts]
  | succ m ih =>
    intro j n acc hm hn hl
    obtain ⟨n, rfl⟩ : ∃ q, n = q + 1 := ⟨n - 1, by omega⟩
    have hj : j < zs.length := by omega
    have hf := ft_len zs[j]
    rw [F71.L5.succ, I1_len, ite'_t (lt_t hj), ite'_t (inR_t hj), cellI_I1 hj, bindI_s, c43 (by omega), bindR_s, resS_s, bindS_s, ite'_t (fits_t (by omega)), next_i hj (by unfold maxLen; omega)]
    rw [ih (j + 1) n _ (by omega) (by omega) (by rw [List.length_append]; omega), fts_drop hj, List.append_assoc]
theorem l79 (hk : 100 ≤ k) {zs : List Int} (hz : zs.length ≤ 1048576) : ∀ (m j n : Nat) (acc : List UInt8), j + m = zs.length → m < n → acc.length + 2 * m ≤ 8388608 →
    F79.L5 k (C k) n acc (I1 zs) (zs.length : Nat) j = some [(false, [.d (.str (acc ++ fts (zs.drop j)))])] := by
  intro m
  induction m with
  | zero =>
    intro j n acc hm hn hl
    obtain ⟨n, rfl⟩ : ∃ q, n = q + 1 := ⟨n - 1, by omega⟩
    obtain rfl : j = zs.length := by omega
    rw [F79.L5.succ, ite'_f (lt_f (by omega)), List.drop_length]
    simp [fts]
  | succ m ih =>
    intro j n acc hm hn hl
    obtain ⟨n, rfl⟩ : ∃ q, n = q + 1 := ⟨n - 1, by omega⟩
    have hj : j < zs.length := by omega
    have hf := ft_len zs[j]
    rw [F79.L5.succ, ite'_t (lt_t hj), I1_len, ite'_t (inR_t hj), cellI_I1 hj, bindI_s, c48 (by omega), bindR_s, resS_s, bindS_s, ite'_t (fits_t (by omega)), next_i hj (by unfold maxLen; omega)]
    rw [ih (j + 1) n _ (by omega) (by omega) (by rw [List.length_append]; omega), fts_drop hj, List.append_assoc]
/-! ### atoms as texts -/
def nameOf (a : Ovi.Rows) (i : Int) : List UInt8 := (cellS a i.toNat 0).getD []
def atomT (a : Ovi.Rows) (valid : Atom → Bool) (x : Atom) : List UInt8 := cond (valid x) (nameOf a x.1 ++ fts x.2) []
theorem bo_ne {x : Bool} (h : bo false = bo x) : x = false := by cases x; rfl; cases h
theorem valid_range {a : Ovi.Rows} (ha : Fit Rl (.list 3 a)) {xs : List Atom} {valid : Atom → Bool} (hv : Valid a xs valid) (hk : 2000000 ≤ k) (hal : a.length ≤ 1048576) (hxs : ∀ x ∈ xs, x.2.length ≤ 1048576) {x : Atom} (hx : x ∈ xs) (h : valid x = true) : ∃ i : Nat, x.1 = i ∧ i < a.length := by
  have hv := (hv x hx k (by omega) (by have := hxs x hx; omega)).1
  obtain ⟨b, hb⟩ := rels ha
  have e := (hb (k + 1) (by omega)).1
  rw [h, F93.run, e, bB] at hv
  cases b with
  | false => rw [ite'_nf] at hv; cases hv
  | true =>
    rw [ite'_nt, c78, bB] at hv
    by_cases hr : 0 ≤ x.1 ∧ x.1 ≤ IntKind.i64.wrap ((a.length : Int) - 1)
    · rw [wrap_id (by omega) (by omega)] at hr
      exact ⟨x.1.toNat, by omega, by omega⟩
    · rw [decide_eq_false hr, ite'_nf] at hv; cases hv
theorem name_at {a : Ovi.Rows} (ha : Fit Rl (.list 3 a)) (hsz : szR a ≤ 1048576) {i : Nat} (hi : i < a.length) : cellS a (i : Int).toNat 0 = some (nameOf a i) ∧ (nameOf a i).length ≤ 1048576 := by
  obtain ⟨row, hr, hfr, _⟩ := ha.row hi
  obtain ⟨d0, r0, rfl, f0, h0⟩ := Fits.cons hfr
  obtain ⟨s, rfl, hs⟩ := f0.str
  have e : cellS a (i : Int).toNat 0 = some s := by
    rw [Int.toNat_natCast, cellS_at hr]
    simp [asS_s]
  have hsz' := szR_at hr
  have e2 : nameOf a i = s := by unfold nameOf; rw [e]; rfl
  refine ⟨by rw [e2, e], ?_⟩
  rw [e2]
  simp only [szC, szD] at hsz'
  omega
section
variable {a : Ovi.Rows} (ha : Fit Rl (.list 3 a)) {xs : List Atom} {valid : Atom → Bool} (hv : Valid a xs valid) (hk : 2000000 ≤ k) (hal : a.length ≤ 1048576) (hsz : szR a ≤ 1048576) (hxs : ∀ x ∈ xs, x.2.length ≤ 1048576)
include ha hv hk hal hsz hxs
theorem atomT_len {x : Atom} (hx : x ∈ xs) : (atomT a valid x).length ≤ 3145728 := by
  unfold atomT
  cases h : valid x with
  | false => simp
  | true =>
    obtain ⟨i, hi, hia⟩ := valid_range ha hv hk hal hxs hx h
    have h1 := (name_at ha hsz hia).2
    have h2 := fts_len x.2
    have h3 := hxs x hx
    rw [cond_true, hi, List.length_append]
    omega
theorem c79 {x : Atom} (hx : x ∈ xs) : C (k + 6) 79 [.d (.list 3 a), .agg [.d (.int .i64 x.1), .d (.list 1 (I1 x.2))]] = some [(false, [.d (.str (atomT a valid x))])] := by
  have hl := hxs x hx
  rw [F79.run, (hv x hx k (by omega) (by omega)).1, bB]
  unfold atomT
  cases h : valid x with
  | false => rw [ite'_nf, cond_false]
  | true =>
    obtain ⟨i, hi, hia⟩ := valid_range ha hv hk hal hxs hx h
    obtain ⟨h1, h2⟩ := name_at ha hsz hia
    have := l79 (k := k + 5) (by omega) hl x.2.length 0 (k + 5) (nameOf a i) (by omega) (by omega) (by omega)
    rw [ite'_nt, hi, ite'_t (inR_t hia), h1, bindS_s, I1_len]
    exact this
theorem c71 {x : Atom} (hx : x ∈ xs) : C (k + 6) 71 [.d (.list 3 a), .agg [.d (.int .i64 x.1), .d (.list 1 (I1 x.2))]] = some [(false, [.d (.str (atomT a valid x))])] := by
  have hl := hxs x hx
  rw [F71.run, (hv x hx k (by omega) (by omega)).2, bB]
  unfold atomT
  cases h : valid x with
  | false => rw [ite'_nf, cond_false]
  | true =>
    obtain ⟨i, hi, hia⟩ := valid_range ha hv hk hal hxs hx h
    obtain ⟨h1, h2⟩ := name_at ha hsz hia
    have := l71 (k := k + 5) (by omega) x.1 hl x.2.length 0 (k + 5) (nameOf a i) (by omega) (by omega) (by omega)
    rw [ite'_nt, hi, ite'_t (inR_t hia), h1, bindS_s]
    rw [hi] at this
    exact this
def atomsT (a : Ovi.Rows) (valid : Atom → Bool) (xs : List Atom) : List UInt8 := Lib.join (xs.map (atomT a valid)) [32]
variable (h3 : xs.length ≤ 3)
include h3
theorem atomsT_len : (atomsT a valid xs).length ≤ 9437187 := by
  have := join_len (xs.map (atomT a valid)) [32] 3145729 (fun y hy => by
    obtain ⟨x, hx, rfl⟩ := List.mem_map.1 hy
    have := atomT_len ha hv hk hal hsz hxs hx
    simp; omega)
  rw [List.length_map] at this
  unfold atomsT
  omega
theorem l44 : ∀ (m i n : Nat) (acc : List UInt8), i + m = xs.length → m < n → (acc ++ rest (xs.map (atomT a valid)) [32] i).length ≤ 20000000 →
    F44.L3 (k + 6) (C (k + 6)) n a (A1 xs) acc i = some [(false, [.d (.str (acc ++ rest (xs.map (atomT a valid)) [32] i))])] := by
  intro m
  induction m with
  | zero =>
    intro i n acc hm hn' hl
    obtain ⟨n, rfl⟩ : ∃ q, n = q + 1 := ⟨n - 1, by omega⟩
    obtain rfl : i = xs.length := by omega
    have he : rest (xs.map (atomT a valid)) [32] xs.length = [] := by have := rest_end (xs := xs.map (atomT a valid)) (sep := [32]); rwa [List.length_map] at this
    rw [he, F44.L3.succ, A1_len, ite'_f (lt_f (by omega)), List.append_nil]
  | succ m ih =>
    intro i n acc hm hn' hl
    obtain ⟨n, rfl⟩ : ∃ q, n = q + 1 := ⟨n - 1, by omega⟩
    have hi : i < xs.length := by omega
    have hg := List.getElem?_eq_getElem hi
    have hgf : (xs.map (atomT a valid))[i]? = some (atomT a valid xs[i]) := by simp [hg]
    have hmem := List.getElem_mem hi
    have hcI : cellI .i64 (A1 xs) (i : Int).toNat 0 = some xs[i].1 := by
      rw [Int.toNat_natCast, cellI_at (A1_get hg)]; simp [asI_s]
    have hcL : cellL 1 (A1 xs) (i : Int).toNat 1 = some (I1 xs[i].2) := by
      rw [Int.toNat_natCast, cellL_at (A1_get hg)]; simp [asL_s]
    have hir : inR (i : Int) (List.length (A1 xs)) = true := inR_t (by rw [A1_len]; exact hi)
    rw [F44.L3.succ, A1_len, ite'_t (lt_t hi)]
    by_cases h0 : i = 0
    · subst h0
      rw [rest_first hgf] at hl ⊢
      have hl' : (acc ++ atomT a valid xs[0]).length ≤ 20000000 := by simp only [List.length_append] at hl ⊢; omega
      rw [ite'_f (by simp), ← A1_len xs, ite'_t hir, hcI, bindI_s, hcL, bindL_s, c71 ha hv hk hal hsz hxs hmem, bindR_s, resS_s, bindS_s, ite'_t (fits_t (by simp only [List.length_append] at hl'; omega))]
      rw [next_i (m := xs.length) hi (by unfold maxLen; omega), ih 1 n _ (by omega) (by omega) (by rw [List.append_assoc]; exact hl), List.append_assoc]
    · rw [rest_next (by omega) hgf] at hl ⊢
      have hl' : (acc ++ [32] ++ atomT a valid xs[i]).length ≤ 20000000 := by simp only [List.length_append] at hl ⊢; omega
      rw [ite'_t (by simp only [decide_eq_true_eq]; omega), ite'_t (fits_t (by simp at hl'; omega)), ← A1_len xs, ite'_t hir, hcI, bindI_s, hcL, bindL_s, c71 ha hv hk hal hsz hxs hmem, bindR_s, resS_s, bindS_s, ite'_t (fits_t (by simp only [List.length_append] at hl' ⊢; omega))]
      rw [next_i (m := xs.length) hi (by unfold maxLen; omega), ih (i + 1) n _ (by omega) (by omega) (by simpa only [List.append_assoc] using hl)]
      simp only [List.append_assoc]
theorem c44 : C (k + 7) 44 [.d (.list 3 a), .d (.list 2 (A1 xs))] = some [(false, [.d (.str (atomsT a valid xs))])] := by
  have hb := atomsT_len ha hv hk hal hsz hxs h3
  rw [F44.run, show ((0 : Int)) = ((0 : Nat) : Int) from rfl, l44 ha hv hk hal hsz hxs h3 xs.length 0 (k + 6) [] (by omega) (by omega) (by rw [rest_zero]; unfold atomsT at hb; simp; omega)]
  rfl
theorem l49 : ∀ (m i n : Nat), i + m = xs.length → m < n →
    F49.L3 (k + 6) (C (k + 6)) n a (A1 xs) (xs.length : Nat) i (T1 ((xs.take i).map (atomT a valid))) = some [(false, [.d (.str (atomsT a valid xs))])] := by
  intro m
  induction m with
  | zero =>
    intro i n hm hn'
    obtain ⟨n, rfl⟩ : ∃ q, n = q + 1 := ⟨n - 1, by omega⟩
    obtain rfl : i = xs.length := by omega
    have hb := atomsT_len ha hv hk hal hsz hxs h3
    unfold atomsT at hb
    rw [F49.L3.succ, ite'_f (lt_f (by omega)), List.take_length, c28 (k + 5) (by simp; omega) (by omega), bindR_s, resS_s, bindS_s]
    rfl
  | succ m ih =>
    intro i n hm hn'
    obtain ⟨n, rfl⟩ : ∃ q, n = q + 1 := ⟨n - 1, by omega⟩
    have hi : i < xs.length := by omega
    have hg := List.getElem?_eq_getElem hi
    have hmem := List.getElem_mem hi
    have hcI : cellI .i64 (A1 xs) (i : Int).toNat 0 = some xs[i].1 := by
      rw [Int.toNat_natCast, cellI_at (A1_get hg)]; simp [asI_s]
    have hcL : cellL 1 (A1 xs) (i : Int).toNat 1 = some (I1 xs[i].2) := by
      rw [Int.toNat_natCast, cellL_at (A1_get hg)]; simp [asL_s]
    have ht : (xs.take i).map (atomT a valid) ++ [atomT a valid xs[i]] = (xs.take (i + 1)).map (atomT a valid) := by
      rw [List.take_succ_eq_append_getElem hi, List.map_append]; rfl
    rw [F49.L3.succ, ite'_t (lt_t hi), ite'_t (inR_t (by rw [A1_len]; exact hi)), hcI, bindI_s, hcL, bindL_s, c79 ha hv hk hal hsz hxs hmem, bindR_s, resS_s, bindS_s, ite'_t (fits_t (by simp [T1_len]; omega)), T1_snoc, ht, next_i (m := xs.length) hi (by unfold maxLen; omega)]
    exact ih (i + 1) n (by omega) (by omega)
theorem c49 : C (k + 7) 49 [.d (.list 3 a), .d (.list 2 (A1 xs))] = some [(false, [.d (.str (atomsT a valid xs))])] := by
  rw [F49.run, A1_len]
  exact l49 ha hv hk hal hsz hxs h3 xs.length 0 (k + 6) (by omega) (by omega)
end
/-! ### queries as texts -/
theorem qOk_len {xs : List Atom} {out : List Int} {valid : Atom → Bool} (h : qOk valid xs out = true) : xs.length ≤ 3 ∧ out.length ≤ 3 := by
  simp only [qOk, Bool.and_eq_true, decide_eq_true_eq] at h
  omega
section
variable {a : Ovi.Rows} (ha : Fit Rl (.list 3 a)) {xs : List Atom} {out : List Int} {valid : Atom → Bool} (hv : Valid a xs valid) (hk : 2000000 ≤ k) (hal : a.length ≤ 1048576) (hsz : szR a ≤ 1048576) (hs : terms xs + xs.length ≤ 1048576) (ho : out.length ≤ 1048576)
noncomputable def queryT (a : Ovi.Rows) (valid : Atom → Bool) (xs : List Atom) (out : List Int) : List UInt8 := cond (qOk valid xs out) (fts out ++ [63] ++ atomsT a valid xs) []
include ha hv hk hal hsz hs ho
theorem l18 (h3 : xs.length ≤ 3) (h4 : out.length ≤ 3) : ∀ (m j n : Nat) (acc : List UInt8), j + m = out.length → m < n → acc.length + 2 * m ≤ 100 →
    F18.L5 (k + 10) (C (k + 10)) n a acc j (I1 out) (A1 xs) = some [(false, [.d (.str (acc ++ fts (out.drop j) ++ [63] ++ atomsT a valid xs))])] := by
  have hxs : ∀ x ∈ xs, x.2.length ≤ 1048576 := fun x hx => by have := len_terms hx; omega
  intro m
  induction m with
  | zero =>
    intro j n acc hm hn hl
    obtain ⟨n, rfl⟩ : ∃ q, n = q + 1 := ⟨n - 1, by omega⟩
    obtain rfl : j = out.length := by omega
    have hb := atomsT_len ha hv hk hal hsz hxs h3
    have e := c44 (k := k + 3) ha hv (by omega) hal hsz hxs h3
    rw [F18.L5.succ, I1_len, ite'_f (lt_f (by omega)), ite'_t (fits_t (by omega)), e, bindR_s, resS_s, bindS_s, ite'_t (fits_t (by simp; omega)), List.drop_length]
    simp [fts]
  | succ m ih =>
    intro j n acc hm hn hl
    obtain ⟨n, rfl⟩ : ∃ q, n = q + 1 := ⟨n - 1, by omega⟩
    have hj : j < out.length := by omega
    have hf := ft_len out[j]
    rw [F18.L5.succ, I1_len, ite'_t (lt_t hj), ite'_t (inR_t hj), cellI_I1 hj, bindI_s, c43 (by omega), bindR_s, resS_s, bindS_s, ite'_t (fits_t (by omega)), next_i hj (by unfold maxLen; omega)]
    rw [ih (j + 1) n _ (by omega) (by omega) (by rw [List.length_append]; omega), fts_drop hj, List.append_assoc acc]
theorem l21 (h3 : xs.length ≤ 3) (h4 : out.length ≤ 3) : ∀ (m j n : Nat) (acc : List UInt8), j + m = out.length → m < n → acc.length + 2 * m ≤ 100 →
    F21.L5 (k + 10) (C (k + 10)) n a acc (I1 out) (out.length : Nat) j (I1 out) (A1 xs) = some [(false, [.d (.str (acc ++ fts (out.drop j) ++ [63] ++ atomsT a valid xs))])] := by
  have hxs : ∀ x ∈ xs, x.2.length ≤ 1048576 := fun x hx => by have := len_terms hx; omega
  intro m
  induction m with
  | zero =>
    intro j n acc hm hn hl
    obtain ⟨n, rfl⟩ : ∃ q, n = q + 1 := ⟨n - 1, by omega⟩
    obtain rfl : j = out.length := by omega
    have hb := atomsT_len ha hv hk hal hsz hxs h3
    have e := c49 (k := k + 3) ha hv (by omega) hal hsz hxs h3
    rw [F21.L5.succ, ite'_f (lt_f (by omega)), ite'_t (fits_t (by omega)), e, bindR_s, resS_s, bindS_s, ite'_t (fits_t (by simp; omega)), List.drop_length]
    simp [fts]
  | succ m ih =>
    intro j n acc hm hn hl
    obtain ⟨n, rfl⟩ : ∃ q, n = q + 1 := ⟨n - 1, by omega⟩
    have hj : j < out.length := by omega
    have hf := ft_len out[j]
    rw [F21.L5.succ, ite'_t (lt_t hj), I1_len, ite'_t (inR_t hj), cellI_I1 hj, bindI_s, c48 (by omega), bindR_s, resS_s, bindS_s, ite'_t (fits_t (by omega)), next_i hj (by unfold maxLen; omega)]
    rw [ih (j + 1) n _ (by omega) (by omega) (by rw [List.length_append]; omega), fts_drop hj, List.append_assoc acc]
theorem c18 : C (k + 11) 18 [.d (.list 3 a), .agg [.d (.list 1 (I1 out)), .d (.list 2 (A1 xs))]] = some [(false, [.d (.str (queryT a valid xs out))])] := by
  rw [F18.run, c42 hv hk hal hs ho, bB]
  unfold queryT
  cases h : qOk valid xs out with
  | false => rw [ite'_nf, cond_false]
  | true =>
    obtain ⟨h1, h2⟩ := qOk_len h
    rw [ite'_nt, cond_true]
    exact l18 ha hv hk hal hsz hs ho h1 h2 out.length 0 (k + 10) [] (by omega) (by omega) (by simp; omega)
theorem c21 : C (k + 11) 21 [.d (.list 3 a), .agg [.d (.list 1 (I1 out)), .d (.list 2 (A1 xs))]] = some [(false, [.d (.str (queryT a valid xs out))])] := by
  rw [F21.run, c47 hv hk hal hs ho, bB, I1_len]
  unfold queryT
  cases h : qOk valid xs out with
  | false => rw [ite'_nf, cond_false]
  | true =>
    obtain ⟨h1, h2⟩ := qOk_len h
    rw [ite'_nt, cond_true]
    exact l21 ha hv hk hal hsz hs ho h1 h2 out.length 0 (k + 10) [] (by omega) (by omega) (by simp; omega)
end
end Go.Proofs.YtekcjghbfbfmpaaDoor.Q

/-! DLb -/
namespace Go.Proofs.YtekcjghbfbfmpaaDoor.Q
open Go Ovi
variable {k : Nat}
/-- the law of FormatQuery -/
theorem law5 (hk : 3000000 ≤ k) {a b c : Ovi.Rows} (h1 : Fit Rl (.list 3 a)) (h2 : Fit In1 (.list 1 b)) (h3 : Fit At (.list 2 c)) : C k 5 [.d (.list 3 a), .agg [.d (.list 1 b), .d (.list 2 c)]] = some yes := by
  obtain ⟨k, rfl⟩ : ∃ j, k = j + 12 := ⟨k - 12, by omega⟩
  have hmax : (1048576 : Nat) ≤ maxLen := by decide
  rw [F5.run, c16 (k := k + 11) (by omega) h1 (by omega) (by omega)]
  simp only [bindR_s, resI_s, bindI_s]
  rcases szT_cases 1048576 (szD (.list 3 a)) with ⟨q, e⟩ | ⟨q, e⟩ <;> rw [e]
  rotate_left
  · rw [ite'_t neg_t]; rfl
  rw [ite'_f (neg_f (by omega)), c17 (k := k + 11) (by omega) h2 h3 (by omega) (by omega)]
  simp only [bindR_s, resI_s, bindI_s]
  rcases szT_cases (1048576 - ((szD (.list 3 a) : Nat) : Int)) (szC [.list 1 b, .list 2 c]) with ⟨q1, e1⟩ | ⟨q1, e1⟩ <;> rw [e1]
  rotate_left
  · rw [ite'_t neg_t]; rfl
  have q2 := q1
  simp only [szC] at q2
  have s0 : szD (.list 3 a) ≤ 1048576 := by omega
  have s1 : szD (.list 1 b) ≤ 1048576 := by omega
  have s2 : szD (.list 2 c) ≤ 1048576 := by omega
  rw [ite'_f (neg_f (by omega)), c19 (k := k + 11) (by omega) h1 s0, c20 (k := k + 11) (by omega) h2 h3 s1 s2]
  simp only [bindR_s, resO_s, F20x0, F20x1, bindL_s]
  obtain ⟨zs, rfl⟩ := h2.ints
  obtain ⟨xs, rfl⟩ := h3.atoms
  have s1' := s1
  have s2' := s2
  rw [sz_ints] at s1'
  rw [sz_atoms] at s2'
  have s0' := Nat.le_trans sz_rels s0
  have s0r : szR a ≤ 1048576 := by simp only [szD] at s0; omega
  obtain ⟨valid, hv⟩ := valid_ex h1 xs (fun x hx => by have := len_terms hx; omega)
  rw [c18 (k := k) h1 hv (by omega) s0' s0r (by omega) s1', c21 (k := k) h1 hv (by omega) s0' s0r (by omega) s1']
  simp only [bindR_s, resS_s, bindS_s]
  rw [ite'_f (by simp), c22 (k := k + 11) (by omega) h1 s0, c23 (k := k + 11) (by omega) h2 h3 s1 s2]
  rfl
end Go.Proofs.YtekcjghbfbfmpaaDoor.Q

/-! ED5 -/
namespace Go.Proofs.YtekcjghbfbfmpaaDoor.Q
open Go Ovi Go.ChangeShapes Go.WideShapes Go.ChangeAt Go.RowKit
theorem own : ownKnob Tryd.prog.godebug = none := by kernel_rfl
theorem laidOut : laidOutB Tryd.prog = true := by kernel_rfl
abbrev laidL : List (String × DataW Unit) := [("math/bits.deBruijn32tab", Rows.laid_math_bits_deBruijn32tab), ("math/bits.deBruijn64tab", Rows.laid_math_bits_deBruijn64tab), ("internal/strconv.uint64pow10", Rows.laid_internal_strconv_uint64pow10)]
/-- the door's own heap meets the condition -/
theorem door_met (os : Os) (args : Array Value) : laidMetH Tryd.prog laidL ((World.doorLaid Tryd.prog 400 os).forCall (fun _ _ => 0) ⟨#[], args, []⟩).memory :=
  laidMetH_of_parts3 (fuel := 8) (laidMet_of_run' 8 (by kernel_rfl) (by kernel_rfl)) (by kernel_rfl) (by kernel_rfl)
def ty5 : List (Bool × List Ty) := [(false, [.list [.str, .int .i64, .bool]]), (true, [.list [.int .i64], .list [.int .i64, .list [.int .i64]]])]
theorem tys5 : parTys Tryd.prog Tryd.f5.params.toList = some ty5 := by kernel_rfl
theorem readable5 : readable Tryd.prog Tryd.f5.params.toList = true := by kernel_rfl
theorem law_args5 {av : List AV} (h : ArgsFit ty5 av) : C 3000000 5 av = some yes := by
  match av, h with
  | [p0, p1], h =>
    simp only [ty5, ArgsFit, and_true] at h
    obtain ⟨g0, g1⟩ := h
    cases p0 <;> simp only [ArgFit] at g0
    obtain ⟨_, rfl, g0⟩ := g0.list (n := 3) rfl
    cases p1 <;> simp only [ArgFit] at g1
    obtain ⟨ds1, rfl, g1⟩ := g1
    obtain ⟨_, _, rfl, e1_0, g1⟩ := Fits.cons g1
    obtain ⟨_, _, rfl, e1_1, g1⟩ := Fits.cons g1
    obtain rfl := Fits.nil g1
    obtain ⟨_, rfl, e1_0⟩ := e1_0.list (n := 1) rfl
    obtain ⟨_, rfl, e1_1⟩ := e1_1.list (n := 2) rfl
    exact law5 (Nat.le_refl _) g0 e1_0 e1_1
set_option maxRecDepth 100000 in
theorem lifted5 (os : Os) (started : os.Started) (H : Type) (enc : TypeId × Value → H) :
    ReturnsInHanded {} Tryd.checked os 5 .any (fun w args => (Rows.fnExactFormatQuerySpec.pre enc Tryd.prog Tryd.f5 [] false w args ∧ laidMetH Tryd.prog laidL w) ∧ sizedMet enc Tryd.prog Tryd.f5 (OpenSpec.ofChange Rows.fnExactFormatQuerySpec) false w args) (Rows.fnExactFormatQuerySpec.post enc Tryd.prog Tryd.f5 false true false false) := by
  refine returnsInHanded_of_change_and (C := Tryd.checked) (X := fun w _ => laidMetH Tryd.prog laidL w) (fun _ _ _ hh h => h.of_heap hh) own started (by kernel_rfl) Tryd.func5
    (ChangeSpec.witness_shaped (enc := enc) (C := Tryd.checked) (os := os) (X := fun w _ => laidMetH Tryd.prog laidL w) false (World.doorLaid Tryd.prog 400 os) #[.slice none 0 0, .agg #[.slice none 0 0, .slice none 0 0]] 8 rfl (World.shaped_of_RefB (by kernel_rfl) (by kernel_rfl)) (by kernel_rfl) (by kernel_rfl) (by kernel_rfl) (door_met os _)) ?_
  intro W base args ds gs before hval0 hW _ _ hL _
  have hval : ∀ (j : Nat) t v, Tryd.f5.params[j]? = some t → args[j]? = some v → Value.okWide Tryd.prog W .any base t v := hval0
  have hW' := hW
  obtain ⟨p, q, hA0, hV, rfl, hfz, hnd⟩ := hW
  have hA : DataW.TrodAll enc Tryd.prog W 0 (fun _ => true) true Tryd.f5.params.toList args.toList ds p := hA0
  obtain ⟨rfl, rfl⟩ := trodVars_none hV
  obtain ⟨av, hfit, hlen, hac⟩ := args_in hA (base := base) (fun j t v h1 h2 => hval j t v (by simpa using h1) (by simpa using h2)) tys5
  refine (calls_yes (sound 3000000) (law_args5 hfit) (vs := args) ⟨by simpa using hlen, fun j a ha => by
    obtain ⟨u, hu, hc⟩ := hac j a ha
    exact ⟨u, by simpa using hu, hc⟩⟩).mono fun e W' ⟨he, bel⟩ => ?_
  subst he
  have hk := kept_all laidOut bel readable5 hA
  obtain ⟨d0, d1, rfl⟩ : ∃ d0 d1, ds = [d0, d1] := by
    obtain ⟨v0, vs0, d0, ds0, p0, q0, rg0, rfl, rfl, h0, r0⟩ := trodAll_cons hA
    obtain ⟨v1, vs1, d1, ds1, p1, q1, rg1, rfl, rfl, h1, r1⟩ := trodAll_cons r0
    obtain ⟨rfl, rfl, rfl⟩ := trodAll_nil r1
    exact ⟨_, _, rfl⟩
  exact ⟨_, rfl, _, _, _, [], _, [], hW', trodAll_mk1 (shut_bool (show Tryd.prog.underlying 4 = some .bool by kernel_rfl) _), hk, rfl, bel.frame _, fun h => by cases h⟩
theorem over5 : Rows.fnExactFormatQueryRow.holds Tryd.pinned (OpenSpec.ofChange Rows.fnExactFormatQuerySpec) :=
  OpenClaim.holds_of_wide 5 Tryd.f5 rfl rfl rfl rfl rfl rfl rfl ⟨rfl, rfl, rfl, rfl, rfl⟩ rfl rfl rfl rfl rfl (by kernel_rfl) Tryd.func5 (by kernel_rfl)
    (of_decide_eq_true (by kernel_rfl)) (by unfold Func.isWrapper; first | (rw [if_pos (by decide +kernel)]; kernel_rfl) | (rw [if_neg (by decide +kernel)]; exact ⟨rfl, rfl⟩))
    (fun os started H enc _ => lifted5 os started H enc)
end Go.Proofs.YtekcjghbfbfmpaaDoor.Q
namespace Go.Proofs.YtekcjghbfbfmpaaDoor
theorem fnExactFormatQuery_row : Rows.FnExactFormatQuerySaid := Q.over5
theorem fnExactFormatQuery_holds : Rows.FnExactFormatQueryCardSaid :=
  Claim7.holds_tied_plain_at .later [] [.data, .data, .data] true (true, "fc7b24dcd54d0d69eb75d9d5120a2cc6916eade933785e62cd78499e8f3b1e99") false
    fnExactFormatQuery_row (fun _ h => by cases h) (by kernel_rfl) (fun _ h => by cases h) fnExactFormatQuery_row_tie rfl ⟨rfl, rfl⟩ (by kernel_rfl) rfl
    (fun f fn hf hfn => by
      obtain rfl : f = 5 := Option.some.inj ((show Tryd.prog.funcNamed "loop.example/g01919/laws.FnExactFormatQuery" = some 5 by kernel_rfl).symm.trans hf) |>.symm
      obtain rfl : fn = Tryd.f5 := (Option.some.inj (Tryd.func5.symm.trans hfn)).symm
      exact ⟨by kernel_rfl, fun j t ht => by
        have key : ∀ t ∈ Tryd.f5.params.toList, Tryd.prog.wantsStandIn t = false := by
          intro t ht
          have : Tryd.f5.params.toList.all (fun t => !Tryd.prog.wantsStandIn t) = true := by kernel_rfl
          have := List.all_eq_true.1 this t ht
          simpa using this
        exact key t (List.mem_of_getElem? (by simpa using ht))⟩)
    (by kernel_rfl)
#print axioms fnExactFormatQuery_holds
end Go.Proofs.YtekcjghbfbfmpaaDoor

/-
For every instance and every query the law FnExactEvaluateGround returns true, and the arguments read afterwards as they read before. No condition.
-/
import Derived.Test.YthicohakeljdcaaGreatQe
import Derived.Test.YthicohakeljdcaaGreatQf
import Derived.Test.YthicohakeljdcaaGreatQd
import Derived.Test.YthicohakeljdcaaGreatRows
set_option linter.unusedVariables false
set_option linter.unusedSimpArgs false
/-! ULh -/
namespace Go.Proofs.YthicohakeljdcaaGreat.Q
open Go Ovi
variable {k : Nat}
/-- spec.EvaluateGround, the loop -/
theorem l36 (ws : BL) (hws : ws.length ≤ 27000) (hx : ∀ x ∈ ws, x.length ≤ 3) (hk : 2000000 ≤ k) : F36.L4 k (C k) k (LL ws) 0 [] = some [(false, [.row 39 1 (LL (grnd ws))])] := by
  have hmax : (1048576 : Nat) ≤ maxLen := by decide
  have inner : ∀ (i : Nat) (hi : i < ws.length) (acc : BL), acc.length ≤ i → ∀ (m j n k4 : Nat) (b : Bool), j + m = (ws[i]).length → m < n →
      F36.L8 k (C k) k4 n (LL ws) (i : Int) b (j : Int) (LL acc) = F36.L4 k (C k) k4 (LL ws) ((i + 1 : Nat) : Int) (LL (if (b && !((ws[i]).drop j).any neg) = true then acc ++ [ws[i]] else acc)) := by
    intro i hi acc ha m
    have hg := LL_c (List.getElem?_eq_getElem hi)
    have hl := hx _ (List.getElem_mem hi)
    induction m with
    | zero =>
      intro j n k4 b hm hn
      obtain ⟨n, rfl⟩ : ∃ p, n = p + 1 := ⟨n - 1, by omega⟩
      obtain rfl : j = (ws[i]).length := by omega
      rw [F36.L8.succ, LL_len, ite'_t (inR_t hi), hg, bindL_s, I1_len, ite'_f (lt_f (by omega)), List.drop_length]
      cases b with
      | false =>
        rw [ite'_f rfl, next_i hi (m := ws.length) (by omega)]
        rfl
      | true =>
        rw [ite'_t rfl, ite'_t (inR_t hi), bindL_s, ite'_t (fits_t (by rw [LL_len]; simp; omega)), next_i hi (m := ws.length) (by omega), LL_snoc]
        rfl
    | succ m ih =>
      intro j n k4 b hm hn
      obtain ⟨n, rfl⟩ : ∃ p, n = p + 1 := ⟨n - 1, by omega⟩
      have hj : j < (ws[i]).length := by omega
      rw [F36.L8.succ, LL_len, ite'_t (inR_t hi), hg, bindL_s, I1_len, ite'_t (lt_t hj)]
      cases b with
      | false =>
        rw [ite'_f rfl, next_i hj (m := (ws[i]).length) (by omega)]
        exact ih (j + 1) n k4 false (by omega) (by omega)
      | true =>
        rw [ite'_t rfl, ite'_t (inR_t hi), bindL_s, I1_len, ite'_t (inR_t hj), I1_c (List.getElem?_eq_getElem hj), bindI_s, next_i hj (m := (ws[i]).length) (by omega), ih (j + 1) n k4 _ (by omega) (by omega)]
        congr 2
        rw [List.drop_eq_getElem_cons hj, List.any_cons]
        have : decide ((ws[i])[j] ≥ 0) = !neg (ws[i])[j] := by
          unfold neg
          by_cases h : (ws[i])[j] < 0
          · simp [h]
          · simp [h]; omega
        rw [this]
        cases neg (ws[i])[j] <;> simp
  have main : ∀ (m i n : Nat) (acc : BL), i + m = ws.length → m < n → acc.length ≤ i → F36.L4 k (C k) n (LL ws) (i : Int) (LL acc) = some [(false, [.row 39 1 (LL (acc ++ grnd (ws.drop i)))])] := by
    intro m
    induction m with
    | zero =>
      intro i n acc hm hn ha
      obtain ⟨n, rfl⟩ : ∃ j, n = j + 1 := ⟨n - 1, by omega⟩
      obtain rfl : i = ws.length := by omega
      rw [F36.L4.succ, LL_len, ite'_f (lt_f (by omega)), List.drop_length]
      simp [grnd]
    | succ m ih =>
      intro i n acc hm hn ha
      obtain ⟨n, rfl⟩ : ∃ j, n = j + 1 := ⟨n - 1, by omega⟩
      have hi : i < ws.length := by omega
      have hl := hx _ (List.getElem_mem hi)
      have := inner i hi acc ha (ws[i]).length 0 k n true (by omega) (by omega)
      rw [show ((0 : Nat) : Int) = 0 from rfl] at this
      rw [F36.L4.succ, LL_len, ite'_t (lt_t hi), this, List.drop_zero, List.drop_eq_getElem_cons hi]
      rw [ih (i + 1) n _ (by omega) (by omega) (by
        split
        · simp only [List.length_append, List.length_cons, List.length_nil]; omega
        · omega)]
      unfold grnd
      rw [List.filter_cons]
      cases h : (ws[i]).any neg <;> simp [h]
  have := main ws.length 0 k [] (by omega) (by omega) (Nat.zero_le _)
  rw [List.drop_zero, List.nil_append] at this
  exact this
theorem good_grnd {ws : BL} (h : Good3 ws) : Good3 (grnd ws) := by
  have hm : ∀ x, x ∈ grnd ws → x ∈ ws := fun x hx => (List.mem_filter.1 hx).1
  have hl : (grnd ws).length ≤ ws.length := List.length_filter_le _ _
  exact ⟨List.Pairwise.filter _ h.ss, Nat.le_trans hl h.len, fun x hx => h.short x (hm x hx), fun x hx => h.int x (hm x hx)⟩
theorem e110 {ws : BL} (h : Good3 ws) : C (k + 1) 110 [.var 0 0,   .d (.int .i64 39), .d (.list 1 (LL ws))] = some [(false, [.frow 39 1 1 (LL (grnd ws))]), (true, [])] := by
  rw [C_prim (p := groundGP 39) rfl]
  unfold groundGP rowsArg
  simp only [lists_LL, Option.bind_some]
  have hl := h.len
  rw [show (Nat.ble ws.length 1099511627776 && ws.all fun z => Nat.ble z.length 1099511627776) = true by
    rw [Bool.and_eq_true, List.all_eq_true]
    exact ⟨Nat.ble_eq_true_of_le (by omega), fun z hz => Nat.ble_eq_true_of_le (by have := h.short z hz; omega)⟩]
  rfl
/-- both EvaluateGround answer alike -/
theorem grndB {a : Ovi.Rows} (ha : Fit Rl (.list 3 a)) (fs xs : List Atom) (q : List Int) (hI : ∀ x ∈ fs, ∀ z ∈ x.2, inI z) (hal : a.length ≤ 1048576) (hfs : terms fs + fs.length ≤ 1048576) (hs : terms xs + xs.length ≤ 1048576) (hq : q.length ≤ 1048576) :
    ∃ ws R1 R2, Good3 ws ∧ resL 1 1 false 1 R1 0 0 = some (LL ws) ∧ resF 39 1 1 1 false 1 R2 0 0 = some (LL ws) ∧ ∀ k, 2000000 ≤ k → C (k + 21) 36 [.agg [.d (.list 3 a), .d (.list 2 (A1 fs))], .agg [.d (.list 1 (I1 q)), .d (.list 2 (A1 xs))]] = some R1 ∧ C (k + 21) 37 [.agg [.d (.list 3 a), .d (.list 2 (A1 fs))], .agg [.d (.list 1 (I1 q)), .d (.list 2 (A1 xs))]] = some R2 := by
  obtain ⟨ws, R1, R2, hg, h1, h2, h3⟩ := evalB ha fs xs q hI hal hfs hs hq
  refine ⟨grnd ws, [(false, [.row 39 1 (LL (grnd ws))])], [(false, [.frow 39 1 1 (LL (grnd ws))])], good_grnd hg, rfl, rfl, fun k hk => ⟨?_, ?_⟩⟩
  · rw [F36.run, (h3 k hk).1, bindR_s, h1, bindL_s]
    exact l36 (k := k + 20) ws hg.len hg.short (by omega)
  · rw [F37.run, (h3 k hk).2, bindR_s, h2, bindL_s, ite'_t (dep_lists ws), e110 (k := k + 19) hg, bindR_s]
    rfl
end Go.Proofs.YthicohakeljdcaaGreat.Q

/-! ULi -/
namespace Go.Proofs.YthicohakeljdcaaGreat.Q
open Go Ovi
set_option maxRecDepth 1000000
theorem F7.eq (k : Nat) (call : CallF) (a0_0 : Ovi.Rows) (a0_1 : Ovi.Rows) (a1_0 : Ovi.Rows) (a1_1 : Ovi.Rows) : evFnRK P hs call (7 : FuncId) rs2 k Tryz.f7 [AV.agg [AV.s 3 a0_0, AV.s 2 a0_1], AV.agg [AV.s 1 a1_0, AV.s 2 a1_1]] = bindR (call 12 [AV.agg [AV.d (D.list 3 a0_0), AV.d (D.list 2 a0_1)], AV.d (D.int IntKind.i64 (1048576 : Int))]) fun r6 => bindI (resI IntKind.i64 1 false 1 r6 0 0) fun n7 => ite' (decide (n7 < (0 : Int))) (some ([(false, [RL.d (D.bool true)])])) (bindR (call 22 [AV.agg [AV.d (D.list 1 a1_0), AV.d (D.list 2 a1_1)], AV.d (D.int IntKind.i64 n7)]) fun r8 => bindI (resI IntKind.i64 1 false 1 r8 0 0) fun n9 => ite' (decide (n9 < (0 : Int))) (some ([(false, [RL.d (D.bool true)])])) (bindR (call 14 [AV.agg [AV.d (D.list 3 a0_0), AV.d (D.list 2 a0_1)]]) fun r10 => bindL (resO 133 3 1 true 2 r10 0 0) fun l11 => bindL (resF 118 2 1 1 true 2 r10 0 1) fun l12 => bindR (call 25 [AV.agg [AV.d (D.list 1 a1_0), AV.d (D.list 2 a1_1)]]) fun r13 => bindL (resO 3 1 1 true 2 r13 0 0) fun l14 => bindL (resF 130 2 1 1 true 2 r13 0 1) fun l15 => bindR (call 36 [AV.agg [AV.d (D.list 3 l11), AV.d (D.list 2 l12)], AV.agg [AV.d (D.list 1 l14), AV.d (D.list 2 l15)]]) fun r16 => bindL (resL 1 1 false 1 r16 0 0) fun l17 => bindR (call 14 [AV.agg [AV.d (D.list 3 a0_0), AV.d (D.list 2 a0_1)]]) fun r18 => bindL (resO 133 3 1 true 2 r18 0 0) fun l19 => bindL (resF 118 2 1 1 true 2 r18 0 1) fun l20 => bindR (call 25 [AV.agg [AV.d (D.list 1 a1_0), AV.d (D.list 2 a1_1)]]) fun r21 => bindL (resO 3 1 1 true 2 r21 0 0) fun l22 => bindL (resF 130 2 1 1 true 2 r21 0 1) fun l23 => bindR (call 37 [AV.agg [AV.d (D.list 3 l19), AV.d (D.list 2 l20)], AV.agg [AV.d (D.list 1 l22), AV.d (D.list 2 l23)]]) fun r24 => bindL (resF 39 1 1 1 false 1 r24 0 0) fun l25 => ite' (depR 1 l25) (bindR (call 33 [AV.d (D.list 1 l25), AV.d (D.list 1 l17)]) fun r26 => bindB (resB 1 false 1 r26 0 0) fun b27 => ite' (!b27) (some ([(false, [RL.d (D.bool false)])])) (bindR (call 14 [AV.agg [AV.d (D.list 3 a0_0), AV.d (D.list 2 a0_1)]]) fun r28 => bindL (resO 133 3 1 true 2 r28 0 0) fun l29 => bindL (resF 118 2 1 1 true 2 r28 0 1) fun l30 => bindR (call 16 [AV.agg [AV.d (D.list 3 l19), AV.d (D.list 2 l20)], AV.agg [AV.d (D.list 3 l29), AV.d (D.list 2 l30)]]) fun r31 => bindB (resB 1 false 1 r31 0 0) fun b32 => ite' (!b32) (some ([(false, [RL.d (D.bool false)])])) (bindR (call 25 [AV.agg [AV.d (D.list 1 a1_0), AV.d (D.list 2 a1_1)]]) fun r33 => bindL (resO 3 1 1 true 2 r33 0 0) fun l34 => bindL (resF 130 2 1 1 true 2 r33 0 1) fun l35 => bindR (call 28 [AV.agg [AV.d (D.list 1 l22), AV.d (D.list 2 l23)], AV.agg [AV.d (D.list 1 l34), AV.d (D.list 2 l35)]]) fun r36 => bindB (resB 1 false 1 r36 0 0) fun b37 => ite' (!b37) (some ([(false, [RL.d (D.bool false)])])) (ite' (depR 0 l19) (ite' (depR 1 l20) (ite' (depR 0 l22) (ite' (depR 1 l23) (ite' (depR 1 l25) (bindR (call 17 [AV.var 0 0, AV.d (D.bool true), AV.d (D.int IntKind.i64 (1 : Int)), AV.d (D.int IntKind.i64 (↑133 : Int)), AV.d (D.list 3 l19), AV.d (D.int IntKind.i64 (↑118 : Int)), AV.d (D.list 2 l20)]) fun r38 => bindL (resO 133 3 3 false 1 r38 0 0) fun l39 => bindL (resO 118 2 3 false 1 r38 1 0) fun l40 => bindI (resI IntKind.i64 3 false 1 r38 2 0) fun n41 => ite' (depR 0 l22) (ite' (depR 1 l23) (ite' (depR 1 l25) (bindR (call 30 [AV.var 0 0, AV.d (D.bool true), AV.d (D.int IntKind.i64 n41), AV.d (D.int IntKind.i64 (↑3 : Int)), AV.d (D.list 1 l22), AV.d (D.int IntKind.i64 (↑130 : Int)), AV.d (D.list 2 l23)]) fun r42 => bindL (resO 3 1 3 false 1 r42 0 0) fun l43 => bindL (resO 130 2 3 false 1 r42 1 0) fun l44 => bindI (resI IntKind.i64 3 false 1 r42 2 0) fun n45 => ite' (decide (n45 < (0 : Int))) (some ([(false, [RL.d (D.bool false)])])) (bindR (call 33 [AV.d (D.list 1 l25), AV.d (D.list 1 l17)]) fun r46 => bindB (resB 1 false 1 r46 0 0) fun b47 => ite' (!b47) (some ([(false, [RL.d (D.bool false)])])) (ite' (depR 1 l25) (bindR (call 34 [AV.var 0 0, AV.d (D.bool false), AV.d (D.int IntKind.i64 (1 : Int)), AV.d (D.int IntKind.i64 (↑39 : Int)), AV.d (D.list 1 l25)]) fun r48 => bindL (resO 39 1 2 false 1 r48 0 0) fun l49 => bindI (resI IntKind.i64 2 false 1 r48 1 0) fun n50 => bindR (call 35 [AV.d (D.list 1 l49), AV.d (D.int IntKind.i64 (1 : Int))]) fun r51 => bindI (resI IntKind.i64 1 false 1 r51 0 0) fun n52 => ite' (decide (n52 < (0 : Int))) (some ([(false, [RL.d (D.bool false)])])) (ite' (n52 != n50) (some ([(false, [RL.d (D.bool false)])])) (bindR (call 14 [AV.agg [AV.d (D.list 3 a0_0), AV.d (D.list 2 a0_1)]]) fun r53 => bindL (resO 133 3 1 true 2 r53 0 0) fun l54 => bindL (resF 118 2 1 1 true 2 r53 0 1) fun l55 => bindR (call 25 [AV.agg [AV.d (D.list 1 a1_0), AV.d (D.list 2 a1_1)]]) fun r56 => bindL (resO 3 1 1 true 2 r56 0 0) fun l57 => bindL (resF 130 2 1 1 true 2 r56 0 1) fun l58 => bindR (call 37 [AV.agg [AV.d (D.list 3 l54), AV.d (D.list 2 l55)], AV.agg [AV.d (D.list 1 l57), AV.d (D.list 2 l58)]]) fun r59 => bindL (resF 39 1 1 1 false 1 r59 0 0) fun l60 => ite' (depR 1 l60) (bindR (call 33 [AV.d (D.list 1 l60), AV.d (D.list 1 l17)]) fun r61 => bindB (resB 1 false 1 r61 0 0) fun b62 => ite' (!b62) (some ([(false, [RL.d (D.bool false)])])) (bindR (call 35 [AV.d (D.list 1 l49), AV.d (D.int IntKind.i64 (1 : Int))]) fun r63 => bindI (resI IntKind.i64 1 false 1 r63 0 0) fun n64 => ite' (decide (n64 < (0 : Int))) (some ([(false, [RL.d (D.bool false)])])) (ite' (n64 != n50) (some ([(false, [RL.d (D.bool false)])])) (some ([(false, [RL.d (D.bool true)])]))))) (none)))) (none)))) (none)) (none)) (none)) (none)) (none)) (none)) (none)) (none))))) (none))) := by kernel_rfl
variable {k : Nat}
theorem law7n (call : CallF) (k : Nat) {a b c d : Ovi.Rows} {n : Int}
    (t12 : call 12 [.agg [.d (.list 3 a), .d (.list 2 b)], .d (.int .i64 1048576)] = some [(false, [.d (.int .i64 n)])]) (hn : decide (n < 0) = true) :
    evFnRK P hs call (7 : FuncId) rs2 k Tryz.f7 [.agg [.s 3 a, .s 2 b], .agg [.s 1 c, .s 2 d]] = bo true := by
  rw [F7.eq, t12, bindR_s, resI_s, bindI_s, ite'_t hn]
  rfl
theorem law7m (call : CallF) (k : Nat) {a b c d : Ovi.Rows} {n n2 : Int}
    (t12 : call 12 [.agg [.d (.list 3 a), .d (.list 2 b)], .d (.int .i64 1048576)] = some [(false, [.d (.int .i64 n)])]) (hn : decide (n < 0) = false)
    (t22 : call 22 [.agg [.d (.list 1 c), .d (.list 2 d)], .d (.int .i64 n)] = some [(false, [.d (.int .i64 n2)])]) (hn2 : decide (n2 < 0) = true) :
    evFnRK P hs call (7 : FuncId) rs2 k Tryz.f7 [.agg [.s 3 a, .s 2 b], .agg [.s 1 c, .s 2 d]] = bo true := by
  rw [F7.eq, t12, bindR_s, resI_s, bindI_s, ite'_f hn, t22, bindR_s, resI_s, bindI_s, ite'_t hn2]
  rfl
theorem law7q (call : CallF) (k : Nat) {a b c d a' b' c' d' B B' : Ovi.Rows} {n n2 z1 z2 zb : Int} {X14 X25 R1 R2 X17 X30 X34 : Res}
    (t12 : call 12 [.agg [.d (.list 3 a), .d (.list 2 b)], .d (.int .i64 1048576)] = some [(false, [.d (.int .i64 n)])]) (hn : decide (n < 0) = false)
    (t22 : call 22 [.agg [.d (.list 1 c), .d (.list 2 d)], .d (.int .i64 n)] = some [(false, [.d (.int .i64 n2)])]) (hn2 : decide (n2 < 0) = false)
    (t14 : call 14 [.agg [.d (.list 3 a), .d (.list 2 b)]] = some X14) (x0 : resO 133 3 1 true 2 X14 0 0 = some a) (x1 : resF 118 2 1 1 true 2 X14 0 1 = some b)
    (t25 : call 25 [.agg [.d (.list 1 c), .d (.list 2 d)]] = some X25) (y0 : resO 3 1 1 true 2 X25 0 0 = some c) (y1 : resF 130 2 1 1 true 2 X25 0 1 = some d)
    (ts : call 36 [.agg [.d (.list 3 a), .d (.list 2 b)], .agg [.d (.list 1 c), .d (.list 2 d)]] = some R1) (ti : call 37 [.agg [.d (.list 3 a), .d (.list 2 b)], .agg [.d (.list 1 c), .d (.list 2 d)]] = some R2)
    (r0 : resL 1 1 false 1 R1 0 0 = some B) (r1 : resF 39 1 1 1 false 1 R2 0 0 = some B)
    (d1 : depR 0 a = true) (d2 : depR 1 b = true) (d3 : depR 0 c = true) (d4 : depR 1 d = true) (d5 : depR 1 B = true)
    (t33 : call 33 [.d (.list 1 B), .d (.list 1 B)] = some [(false, [.d (.bool true)])])
    (t16 : call 16 [.agg [.d (.list 3 a), .d (.list 2 b)], .agg [.d (.list 3 a), .d (.list 2 b)]] = some [(false, [.d (.bool true)])])
    (t28 : call 28 [.agg [.d (.list 1 c), .d (.list 2 d)], .agg [.d (.list 1 c), .d (.list 2 d)]] = some [(false, [.d (.bool true)])])
    (m17 : call 17 [.var 0 0, .d (.bool true), .d (.int .i64 1), .d (.int .i64 133), .d (.list 3 a), .d (.int .i64 118), .d (.list 2 b)] = some X17)
    (v0 : resO 133 3 3 false 1 X17 0 0 = some a') (v1 : resO 118 2 3 false 1 X17 1 0 = some b') (v2 : resI .i64 3 false 1 X17 2 0 = some z1)
    (m30 : call 30 [.var 0 0, .d (.bool true), .d (.int .i64 z1), .d (.int .i64 3), .d (.list 1 c), .d (.int .i64 130), .d (.list 2 d)] = some X30)
    (w0 : resO 3 1 3 false 1 X30 0 0 = some c') (w1 : resO 130 2 3 false 1 X30 1 0 = some d') (w2 : resI .i64 3 false 1 X30 2 0 = some z2) (hz2 : 0 ≤ z2)
    (m34 : call 34 [.var 0 0, .d (.bool false), .d (.int .i64 1), .d (.int .i64 39), .d (.list 1 B)] = some X34)
    (u0 : resO 39 1 2 false 1 X34 0 0 = some B') (u1 : resI .i64 2 false 1 X34 1 0 = some zb) (hzb : 0 ≤ zb)
    (t35 : call 35 [.d (.list 1 B'), .d (.int .i64 1)] = some [(false, [.d (.int .i64 zb)])]) :
    evFnRK P hs call (7 : FuncId) rs2 k Tryz.f7 [.agg [.s 3 a, .s 2 b], .agg [.s 1 c, .s 2 d]] = bo true := by
  have n1 : decide (z2 < 0) = false := by simp only [decide_eq_false_iff_not]; omega
  have n3 : decide (zb < 0) = false := by simp only [decide_eq_false_iff_not]; omega
  have n4 : (zb != zb) = false := bne_self _
  have tt : (!true) = false := rfl
  have i0 : ∀ (x y : Option Res), ite' false x y = y := fun _ _ => rfl
  have i1 : ∀ (x y : Option Res), ite' true x y = x := fun _ _ => rfl
  rw [F7.eq, t12, bindR_s, resI_s, bindI_s, hn, i0, t22, bindR_s, resI_s, bindI_s, hn2, i0]
  simp only [t14, bindR_s, x0, x1, bindL_s, t25, y0, y1, ts, ti, r0, r1, d1, d2, d3, d4, d5, i1, t33, resB_s, bindB_s, tt, i0, t16, t28]
  rw [m17]
  simp only [bindR_s, v0, v1, v2, bindL_s, bindI_s, i1]
  rw [m30]
  simp only [bindR_s, w0, w1, w2, bindL_s, bindI_s, n1, i0, t33, resB_s, bindB_s, tt, d5, i1]
  rw [m34]
  simp only [bindR_s, u0, u1, bindL_s, bindI_s, t35, resI_s, n3, n4, i0]
  rfl
set_option maxRecDepth 1000000 in
theorem law7 (hk : 3000000 ≤ k) {a b c d : Ovi.Rows} (h1 : Fit Rl (.list 3 a)) (h2 : Fit At (.list 2 b)) (h3 : Fit In1 (.list 1 c)) (h4 : Fit At (.list 2 d)) : evFnRK P hs (C k) (7 : FuncId) rs2 k Tryz.f7 [.agg [.s 3 a, .s 2 b], .agg [.s 1 c, .s 2 d]] = bo true := by
  obtain ⟨k, rfl⟩ : ∃ j, k = j + 31 := ⟨k - 31, by omega⟩
  have t12 := c12 (k := k + 31) (by omega) h1 h2 (left := 1048576) (by omega) (by omega)
  rcases szT_cases 1048576 (szC [.list 3 a, .list 2 b]) with ⟨q1, e1⟩ | ⟨q1, e1⟩ <;> rw [e1] at t12
  rotate_left
  · exact law7n _ _ t12 neg_t
  have t22 := c22 (k := k + 31) (by omega) h3 h4 (left := 1048576 - ((szC [.list 3 a, .list 2 b] : Nat) : Int)) (by omega) (by omega)
  rcases szT_cases (1048576 - ((szC [.list 3 a, .list 2 b] : Nat) : Int)) (szC [.list 1 c, .list 2 d]) with ⟨q2, e2⟩ | ⟨q2, e2⟩ <;> rw [e2] at t22
  rotate_left
  · exact law7m _ _ t12 (neg_f (by omega)) t22 neg_t
  have p1 := q1
  have p2 := q2
  simp only [szC] at p1 p2
  have z1 : szD (.list 3 a) ≤ 1048576 := by omega
  have z2 : szD (.list 2 b) ≤ 1048576 := by omega
  have z3 : szD (.list 1 c) ≤ 1048576 := by omega
  have z4 : szD (.list 2 d) ≤ 1048576 := by omega
  have t14 := c14 (k := k + 31) (by omega) h1 h2 z1 z2
  have t25 := c25 (k := k + 31) (by omega) h3 h4 z3 z4
  have t16 := c16 (k := k + 31) (by omega) h1 h2 z1 z2
  have t28 := c28 (k := k + 31) (by omega) h3 h4 z3 z4
  obtain ⟨fs, rfl, hF⟩ := h2.atoms'
  obtain ⟨xs, rfl, hX⟩ := h4.atoms'
  obtain ⟨q, rfl⟩ := h3.ints
  have y2 := z2
  have y3 := z3
  have y4 := z4
  rw [sz_atoms] at y2 y4
  rw [sz_ints] at y3
  have ya := Nat.le_trans sz_rels z1
  have hmax : (1048576 : Nat) ≤ maxLen := by decide
  obtain ⟨B, R1, R2, hB, hR1, hR2, hg⟩ := grndB h1 fs xs q (fun x hx => (hF x hx).2) ya (by omega) (by omega) y3
  obtain ⟨ts, ti⟩ := hg (k + 10) (by omega)
  have hBt : tot B ≤ 3 * B.length := by
    have hs := hB.short
    clear hg hR1 hR2 hB
    unfold tot
    induction B with
    | nil => simp
    | cons b r ih =>
      have h3 := hs b List.mem_cons_self
      have h4 := ih fun b hb => hs b (List.mem_cons_of_mem _ hb)
      simp only [List.map_cons, List.sum_cons, List.length_cons]
      omega
  have hBl := hB.len
  have hBf : Fit (.list [.list [.int .i64]]) (.list 1 (LL B)) := lists_fit B hB.int (by omega) (fun b hb => by have := hB.short b hb; omega)
  have t33 := c33 (k := k + 31) (by omega) hBf (by rw [lists_sz]; omega)
  -- the marks
  have h133 : ((133 : Nat) : Int) = 133 := rfl
  have h118 : ((118 : Nat) : Int) = 118 := rfl
  have h130 : ((130 : Nat) : Int) = 130 := rfl
  have h39 : ((39 : Nat) : Int) = 39 := rfl
  have h3' : ((3 : Nat) : Int) = 3 := rfl
  obtain ⟨a', ha'⟩ := relMark h1 1
  obtain ⟨b', hb'⟩ := factMark fs (1 + 3 * (a.length : Int))
  have m17 := e17 (k := k + 30) ha' hb' (by omega)
  rw [h133, h118] at m17
  obtain ⟨c', hc'⟩ := intMark q (1 + 3 * (a.length : Int) + (fs.length + terms fs : Nat))
  obtain ⟨d', hd'⟩ := factMark xs (1 + 3 * (a.length : Int) + (fs.length + terms fs : Nat) + q.length)
  have m30 := e30 (k := k + 30) hc' hd' (by omega) (by omega)
  rw [h3', h130] at m30
  obtain ⟨B', hB'⟩ := intsMark B 1
  have m34 := e34 (k := k + 30) hB' (by omega)
  rw [h39] at m34
  have lB := (mkRows_up stepInts_up hB').2
  rw [LL_len] at lB
  have t35 := c35 (k := k + 29) hB' (by omega) (by omega) (by omega) (fun r hr l e => by
    obtain ⟨b, hb, rfl⟩ := List.mem_map.1 hr
    cases e
    rw [I1_len]
    have := hB.short b hb
    omega) (by omega)
  exact law7q (C (k + 31)) (k + 31) t12 (neg_f (by omega)) t22 (neg_f (by omega)) t14 F14x0 F14x1 t25 F25x0 F25x1 ts ti hR1 hR2 (dep_rel h1) (dep_facts fs) (dep_ints q) (dep_facts xs) (dep_lists B) t33 t16 t28
    m17 rfl rfl rfl m30 rfl rfl rfl (by omega) m34 rfl rfl (by omega) t35
end Go.Proofs.YthicohakeljdcaaGreat.Q

/-! UE7 -/
namespace Go.Proofs.YthicohakeljdcaaGreat.Q
open Go Ovi Go.ChangeShapes Go.WideShapes Go.ChangeAt Go.RowKit
theorem own : ownKnob Tryz.prog.godebug = none := by kernel_rfl
theorem laidOut : laidOutB Tryz.prog = true := by kernel_rfl
def ty7 : List (Bool × List Ty) := [(true, [.list [.str, .int .i64, .bool], .list [.int .i64, .list [.int .i64]]]), (true, [.list [.int .i64], .list [.int .i64, .list [.int .i64]]])]
theorem tys7 : parTys Tryz.prog Tryz.f7.params.toList = some ty7 := by kernel_rfl
theorem readable7 : readable Tryz.prog Tryz.f7.params.toList = true := by kernel_rfl
theorem law_args7 {av : List AV} (h : ArgsFit ty7 av) : evFnRK P hs (C 3000000) (7 : FuncId) rs2 3000000 Tryz.f7 (av.map seedA) = some yes := by
  match av, h with
  | [p0, p1], h =>
    simp only [ty7, ArgsFit, and_true] at h
    obtain ⟨g0, g1⟩ := h
    cases p0 <;> simp only [ArgFit] at g0
    obtain ⟨ds0, rfl, g0⟩ := g0
    obtain ⟨_, _, rfl, e0_0, g0⟩ := Fits.cons g0
    obtain ⟨_, _, rfl, e0_1, g0⟩ := Fits.cons g0
    obtain rfl := Fits.nil g0
    obtain ⟨_, rfl, e0_0⟩ := e0_0.list (n := 3) rfl
    obtain ⟨_, rfl, e0_1⟩ := e0_1.list (n := 2) rfl
    cases p1 <;> simp only [ArgFit] at g1
    obtain ⟨ds1, rfl, g1⟩ := g1
    obtain ⟨_, _, rfl, e1_0, g1⟩ := Fits.cons g1
    obtain ⟨_, _, rfl, e1_1, g1⟩ := Fits.cons g1
    obtain rfl := Fits.nil g1
    obtain ⟨_, rfl, e1_0⟩ := e1_0.list (n := 1) rfl
    obtain ⟨_, rfl, e1_1⟩ := e1_1.list (n := 2) rfl
    refine Eq.trans ?_ (show bo true = some yes from rfl)
    simpa only [asD, List.map_cons, List.map_nil, seedA, seedL] using law7 (Nat.le_refl _) e0_0 e0_1 e1_0 e1_1
set_option maxRecDepth 100000 in
theorem lifted7 (os : Os) (started : os.Started) (H : Type) (enc : TypeId × Value → H) :
    ReturnsInHanded {} Tryz.checked os 7 .any (Rows.fnExactEvaluateGroundSpec.pre6 enc Tryz.prog Tryz.f7 Rows.fnExactEvaluateGroundRow.domain false) (Rows.fnExactEvaluateGroundSpec.post enc Tryz.prog Tryz.f7 false true false false) := by
  refine returnsInHanded_of_change (C := Tryz.checked) own started (by kernel_rfl) Tryz.func7
    (ChangeSpec.witness6 (enc := enc) (C := Tryz.checked) false ⟨#[], #[.agg #[.slice none 0 0, .slice none 0 0], .agg #[.slice none 0 0, .slice none 0 0]], []⟩ 8 (by kernel_rfl) (by kernel_rfl) (by kernel_rfl) (by kernel_rfl)) ?_
  intro W base args ds gs before hval0 hW hcnd _
  have hval : ∀ (j : Nat) t v, Tryz.f7.params[j]? = some t → args[j]? = some v → Value.okWide Tryz.prog W .any base t v := hval0
  have hW' := hW
  obtain ⟨p, q, hA0, hV, rfl, hfz, hnd⟩ := hW
  have hA : DataW.TrodAll enc Tryz.prog W 0 (fun _ => true) true Tryz.f7.params.toList args.toList ds p := hA0
  obtain ⟨rfl, rfl⟩ := trodVars_none hV
  obtain ⟨av, hfit, hlen, hac⟩ := args_in hA (base := base) (fun j t v h1 h2 => hval j t v (by simpa using h1) (by simpa using h2)) tys7
  refine (calls_yesR (drawSound mixed) (okProg ok) (sound 3000000) (rs := rs2) (k := 3000000) Tryz.func7 (by kernel_rfl) (law_args7 hfit) (vs := args) ⟨by simpa using hlen, fun j a ha => by
    rw [List.getElem?_map] at ha
    obtain ⟨b, hb, rfl⟩ := Option.map_eq_some_iff.1 ha
    obtain ⟨u, hu, hc⟩ := hac j b hb
    exact ⟨u, by simpa using hu, AC_seed hc⟩⟩ trivial).mono fun e W' ⟨he, bel⟩ => ?_
  subst he
  have hk := kept_all laidOut bel readable7 hA
  obtain ⟨d0, d1, rfl⟩ : ∃ d0 d1, ds = [d0, d1] := by
    obtain ⟨v0, vs0, d0, ds0, p0, q0, rg0, rfl, rfl, h0, r0⟩ := trodAll_cons hA
    obtain ⟨v1, vs1, d1, ds1, p1, q1, rg1, rfl, rfl, h1, r1⟩ := trodAll_cons r0
    obtain ⟨rfl, rfl, rfl⟩ := trodAll_nil r1
    exact ⟨_, _, rfl⟩
  exact ⟨_, rfl, _, _, _, [], _, [], hW', trodAll_mk1 (shut_bool (show Tryz.prog.underlying 4 = some .bool by kernel_rfl) _), hk, rfl, bel.frame _, fun h => by cases h⟩
theorem andI {a b : Bool} (h1 : a = true) (h2 : b = true) : (a && b) = true := by rw [h1, h2]; rfl
theorem jf7_0 : (Rows.fnExactEvaluateGroundRow.wf (OpenSpec.ofChange Rows.fnExactEvaluateGroundSpec)) = true := by kernel_rfl
theorem jf7_1 : (laidOutB Tryz.prog) = true := by kernel_rfl
theorem jf7_2 : (mapsRowed Tryz.prog) = true := by kernel_rfl
theorem jf7_3 : (Tryz.f7.params.all (Tryz.prog.readableRec ·)) = true := by kernel_rfl
theorem jf7_4 : (namedTie Tryz.prog Rows.fnExactEvaluateGroundRow.named Rows.fnExactEvaluateGroundSpec.vars) = true := by kernel_rfl
theorem jf7_5 : ((Rows.fnExactEvaluateGroundRow.stops == [])) = true := by kernel_rfl
theorem jf7_6 : ((Tryz.prog.stops == [])) = true := by kernel_rfl
theorem jf7_7 : ((Rows.fnExactEvaluateGroundRow.knobs == [])) = true := by kernel_rfl
theorem jf7_8 : ((Tryz.prog.stopKnobs == [])) = true := by kernel_rfl
theorem jf7_9 : ((Rows.fnExactEvaluateGroundRow.inPlace == Tryz.prog.inPlace 7)) = true := by kernel_rfl
theorem jf7_10 : ((Rows.fnExactEvaluateGroundRow.unfollowed == Tryz.prog.unfollowed 7)) = true := by kernel_rfl
theorem jf7_11 : ((Rows.fnExactEvaluateGroundRow.recurses == Tryz.prog.recurses 7)) = true := by kernel_rfl
theorem jf7_12 : ((Rows.fnExactEvaluateGroundRow.named == Tryz.prog.varsNamed 7)) = true := by kernel_rfl
theorem jf7_13 : ((Rows.fnExactEvaluateGroundRow.maps == (Tryz.f7.params.toList ++ Rows.fnExactEvaluateGroundSpec.plain.varTypes Tryz.prog).any (Tryz.prog.mapsRec ·))) = true := by kernel_rfl
theorem jf7_14 : ((Rows.fnExactEvaluateGroundRow.ifaces == (Tryz.f7.params.toList ++ Rows.fnExactEvaluateGroundSpec.plain.varTypes Tryz.prog).any (Tryz.prog.ifacesRec ·))) = true := by kernel_rfl
theorem jf7_15 : ((Rows.fnExactEvaluateGroundRow.mapsOut == Tryz.prog.mapsAmong Tryz.f7.resultTypes.toList)) = true := by kernel_rfl
theorem jf7_16 : ((Rows.fnExactEvaluateGroundRow.loops == (Tryz.f7.params.toList ++ Rows.fnExactEvaluateGroundSpec.plain.varTypes Tryz.prog).any (Tryz.prog.loopsFrom ·))) = true := by kernel_rfl
theorem jf7_17 : ((Rows.fnExactEvaluateGroundRow.wideKeys == (Tryz.f7.params.toList ++ Rows.fnExactEvaluateGroundSpec.plain.varTypes Tryz.prog ++ Tryz.f7.resultTypes.toList).any (Tryz.prog.wideKeysFrom ·))) = true := by kernel_rfl
theorem jf7_18 : (Rows.fnExactEvaluateGroundSpec.vars.all (Tryz.prog.varReadable ·)) = true := by kernel_rfl
theorem jf7_19 : (Tryz.f7.resultTypes.all (fun t => Tryz.prog.readableRec t && decide (t < Tryz.prog.types.size))) = true := by kernel_rfl
theorem jf7_20 : ((Rows.fnExactEvaluateGroundRow.ifacesOut == Tryz.f7.resultTypes.toList.any (Tryz.prog.ifacesRec ·))) = true := by kernel_rfl
theorem jf7_21 : ((Rows.fnExactEvaluateGroundRow.loopsOut == Tryz.f7.resultTypes.toList.any (Tryz.prog.loopsFrom ·))) = true := by kernel_rfl
theorem jf7_22 : ((Rows.fnExactEvaluateGroundRow.plainKeys == Tryz.prog.plainKeys)) = true := by kernel_rfl
theorem jf7_23 : (Rows.fnExactEvaluateGroundRow.shortTexts.isNone) = true := by kernel_rfl
theorem jf7_24 : (Tryz.prog.stopsHeard) = true := by kernel_rfl
theorem jf7_25 : (Tryz.prog.mayEnter) = true := by kernel_rfl
theorem jf7_26 : ((Rows.fnExactEvaluateGroundRow.lifted == Tryz.prog.liftsFinal)) = true := by kernel_rfl
theorem jf7_27 : ((Tryz.prog.make == some Rows.fnExactEvaluateGroundRow.make)) = true := by kernel_rfl
theorem jf7_29 : ((Rows.fnExactEvaluateGroundRow.pinned == Rows.fnExactEvaluateGroundRow.pinnedBy)) = true := by kernel_rfl
theorem jf7_30 : ((Rows.fnExactEvaluateGroundRow.veiled == (Tryz.f7.params.toList ++ Rows.fnExactEvaluateGroundSpec.plain.varTypes Tryz.prog ++ Tryz.f7.resultTypes.toList).any (Tryz.prog.veiledRec ·))) = true := by kernel_rfl
theorem jf7_31 : (Rows.fnExactEvaluateGroundRow.veiledFits Tryz.prog Tryz.f7.params.toList (Tryz.f7.params.toList ++ Rows.fnExactEvaluateGroundSpec.plain.varTypes Tryz.prog ++ Tryz.f7.resultTypes.toList)) = true := by kernel_rfl
theorem closed7 : joinedFacts Tryz.prog 7 Tryz.f7 Rows.fnExactEvaluateGroundSpec Rows.fnExactEvaluateGroundRow = true := by
  unfold joinedFacts
  refine (andI (andI (andI (andI (andI (andI (andI (andI (andI (andI (andI (andI (andI (andI (andI (andI (andI (andI (andI (andI (andI (andI (andI (andI (andI (andI (andI (andI (andI (andI (andI jf7_0 jf7_1) jf7_2) jf7_3) jf7_4) jf7_5) jf7_6) jf7_7) jf7_8) jf7_9) jf7_10) jf7_11) jf7_12) jf7_13) jf7_14) jf7_15) jf7_16) jf7_17) jf7_18) jf7_19) jf7_20) jf7_21) jf7_22) jf7_23) jf7_24) jf7_25) jf7_26) jf7_27) ?_) jf7_29) jf7_30) jf7_31)
  kernel_rfl
theorem over7 : Rows.fnExactEvaluateGroundRow.holds Tryz.pinned (OpenSpec.ofChange Rows.fnExactEvaluateGroundSpec) :=
  OpenClaim.holds_of_wide 7 Tryz.f7 rfl rfl rfl rfl rfl rfl rfl ⟨rfl, rfl, rfl, rfl, rfl⟩ rfl rfl rfl rfl rfl (by kernel_rfl) Tryz.func7 closed7
    (of_decide_eq_true (by kernel_rfl)) (by unfold Func.isWrapper; first | (rw [if_pos (by decide +kernel)]; kernel_rfl) | (rw [if_neg (by decide +kernel)]; exact ⟨rfl, rfl⟩))
    (fun os started H enc _ => lifted7 os started H enc)
end Go.Proofs.YthicohakeljdcaaGreat.Q
namespace Go.Proofs.YthicohakeljdcaaGreat
theorem fnExactEvaluateGround_holds : Rows.FnExactEvaluateGroundSaid := Q.over7
#print axioms fnExactEvaluateGround_holds
end Go.Proofs.YthicohakeljdcaaGreat

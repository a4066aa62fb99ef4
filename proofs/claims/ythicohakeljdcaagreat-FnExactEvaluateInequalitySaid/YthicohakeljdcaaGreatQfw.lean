/-
For every instance and every query with an inequality the law FnExactEvaluateInequality returns true, and the arguments read afterwards as they read before. No condition.
-/
import Derived.Test.YthicohakeljdcaaGreatQe
import Derived.Test.YthicohakeljdcaaGreatQc
import Derived.Test.YthicohakeljdcaaGreatRows
set_option linter.unusedVariables false
set_option linter.unusedSimpArgs false
/-! ULf -/
namespace Go.Proofs.YthicohakeljdcaaGreat.Q
open Go Ovi
variable {k : Nat}
theorem c38 (hk : 2000004 ≤ k) {b c : Ovi.Rows} (hb : Fit (.list [.int .i64]) (.list 1 b)) (hc : Fit (.list [.int .i64, .list [.int .i64]]) (.list 2 c)) {left l r : Int} (h0 : 0 ≤ left) (h1 : left ≤ 1048576) : C (k + 1) 38 [.agg [.d (.list 1 b), .d (.list 2 c), .d (.int .i64 l), .d (.int .i64 r)], .d (.int .i64 left)] = some [(false, [.d (.int .i64 (szT left (szC [.list 1 b, .list 2 c])))])] := by
  rw [F38.run, c22 hk hb hc h0 h1]
  simp only [bindR_s, resI_s, bindI_s]
  rcases szT_cases left (szC [.list 1 b, .list 2 c]) with ⟨q1, e1⟩ | ⟨q1, e1⟩ <;> rw [e1]
  · rw [ite'_f (neg_f (by omega))]
  · rw [ite'_t neg_t]
theorem c40 (hk : 2000004 ≤ k) {b c : Ovi.Rows} (hb : Fit (.list [.int .i64]) (.list 1 b)) (hc : Fit (.list [.int .i64, .list [.int .i64]]) (.list 2 c)) (s0 : szD (.list 1 b) ≤ 1048576) (s1 : szD (.list 2 c) ≤ 1048576) (l r : Int) : C (k + 1) 40 [.agg [.d (.list 1 b), .d (.list 2 c), .d (.int .i64 l), .d (.int .i64 r)]] = some [(true, [.row 3 1 b, .frow 130 2 1 c, .d (.int .i64 l), .d (.int .i64 r)])] := by
  rw [F40.run, c25 hk hb hc s0 s1]
  simp only [bindR_s, F25x0, F25x1, bindL_s]
theorem c42 (hk : 2000004 ≤ k) {b c : Ovi.Rows} (hb : Fit (.list [.int .i64]) (.list 1 b)) (hc : Fit (.list [.int .i64, .list [.int .i64]]) (.list 2 c)) (s0 : szD (.list 1 b) ≤ 1048576) (s1 : szD (.list 2 c) ≤ 1048576) (l r : Int) : C (k + 1) 42 [.agg [.d (.list 1 b), .d (.list 2 c), .d (.int .i64 l), .d (.int .i64 r)], .agg [.d (.list 1 b), .d (.list 2 c), .d (.int .i64 l), .d (.int .i64 r)]] = some [(false, [.d (.bool true)])] := by
  rw [F42.run, c28 hk hb hc s0 s1]
  simp only [bindR_s, resB_s, bindB_s]
  rw [ite'_nt, ite'_f (bne_self _), ite'_f (bne_self _)]
theorem e43 {a f a' f' : Ovi.Rows} {m m1 m2 l r : Int} (h1 : mkRows stepInt a m = some (a', m1)) (h2 : mkRows stepFact f m1 = some (f', m2)) (h0 : 0 ≤ m) (hb : m2 ≤ 4611686018427387904) : C (k + 1) 43 [.var 0 0, .d (.bool true), .d (.int .i64 m), .d (.int .i64 ((3 : Nat) : Int)), .d (.list 1 a), .d (.int .i64 ((130 : Nat) : Int)), .d (.list 2 f), .d (.int .i64 l), .d (.int .i64 r)] = some [(false, [.row 3 1 a']), (false, [.row 130 2 f']), (false, [.d (.int .i64 m2)])] := by
  rw [C_prim (p := markP true (mkAg stepIneq)) rfl]
  have hs : stepIneq [.list 1 a, .list 2 f, .int .i64 l, .int .i64 r] m = some ([.list 1 a', .list 2 f', .int .i64 l, .int .i64 r], m2) := by
    simp only [stepIneq, h1, Option.bind_some, h2, Option.map_some]
  have hp : parseM [.d (.int .i64 ((3 : Nat) : Int)), .d (.list 1 a), .d (.int .i64 ((130 : Nat) : Int)), .d (.list 2 f), .d (.int .i64 l), .d (.int .i64 r)] = some [.row 3 1 a, .row 130 2 f, .any (.int .i64 l), .any (.int .i64 r)] := by rfl
  have hm : mkAg stepIneq [.row 3 1 a, .row 130 2 f, .any (.int .i64 l), .any (.int .i64 r)] m = some ([.row 3 1 a', .row 130 2 f', .any (.int .i64 l), .any (.int .i64 r)], m2) := by
    simp only [mkAg, List.map_cons, List.map_nil, toD, hs, Option.map_some, ofD]
  simp only [markP]
  rw [show (true == true && decide ((0 : Int) ≤ m)) = true by rw [decide_eq_true h0]; rfl, cond_true, hp]
  simp only [Option.bind_some, hm, decide_eq_true hb, cond_true]
  rfl
/-- a binding's two values differ -/
def dif (l r : Int) (b : List Int) : Bool := b.getD l.toNat 0 != b.getD r.toNat 0
theorem getD_c {b : List Int} {v : Int} (hb : b.length = 5) (h0 : 0 ≤ v) (h5 : v < 5) : inR v b.length = true ∧ cellI .i64 (I1 b) v.toNat 0 = some (b.getD v.toNat 0) := by
  obtain ⟨p, rfl⟩ : ∃ p : Nat, v = (p : Int) := ⟨v.toNat, by omega⟩
  have hp : p < b.length := by omega
  refine ⟨inR_t hp, ?_⟩
  have hbp : b[p]? = some (b.getD p 0) := by rw [List.getD_eq_getElem?_getD, List.getElem?_eq_getElem hp]; rfl
  have := I1_c hbp
  simpa using this
/-- impl.EvaluateInequality's condition -/
theorem c113 {b c : Ovi.Rows} {l r : Int} {x : List Int} (hx : x.length = 5) (hl : 0 ≤ l ∧ l < 5) (hr : 0 ≤ r ∧ r < 5) : C (k + 1) 113 (.d (.list 1 (I1 x)) :: [].append ([[D.list 1 b, D.list 2 c, D.int IntKind.i64 l, D.int IntKind.i64 r]].map fun c : List D => .cap c 0)) = bo (dif l r x) := by
  obtain ⟨p1, p2⟩ := getD_c hx hl.1 hl.2
  obtain ⟨q1, q2⟩ := getD_c hx hr.1 hr.2
  show C (k + 1) 113 [.d (.list 1 (I1 x)), .cap [D.list 1 b, D.list 2 c, D.int IntKind.i64 l, D.int IntKind.i64 r] 0] = _
  rw [F113.run, I1_len, ite'_t p1, p2, bindI_s, ite'_t q1, q2, bindI_s]
  rfl
/-- spec.EvaluateInequality, the loop -/
theorem l39 (all : BL) (q : List Int) (X : Ovi.Rows) (l r : Int) (hl0 : 0 ≤ l ∧ l < 5) (hr0 : 0 ≤ r ∧ r < 5) (hall : all.length ≤ 27000) (hl : ∀ x ∈ all, x.length = 5) (hq : ∀ v ∈ q, 0 ≤ v ∧ v < 5) (hq3 : q.length ≤ 3) (hk : 2000000 ≤ k) :
    ∃ ws, F39.L6 (k + 2) (C (k + 2)) (k + 2) [] 0 (I1 q) X l r (LL all) = some [(false, [.d (.list 1 (LL ws))])] ∧ (∀ z, z ∈ ws ↔ z ∈ (all.filter (dif l r)).map (proj q)) ∧ ws.length ≤ 27000 ∧ SSL ws := by
  have hmax : (1048576 : Nat) ≤ maxLen := by decide
  have inner : ∀ (out : BL) (i : Nat) (hi : i < all.length), ∀ (m j n k6 : Nat), j + m = q.length → m < n →
      F39.L11 (k + 2) (C (k + 2)) k6 n (LL out) (i : Int) (j : Int) (I1 q) X l r (LL all) (I1 ((q.take j).map fun v => (all[i]).getD v.toNat 0)) =
      bindR (C (k + 2) 106 [.d (.list 1 (LL out)), .d (.list 1 (I1 (proj q all[i])))]) fun r15 => bindL (resL 1 1 false 1 r15 0 0) fun l16 => F39.L6 (k + 2) (C (k + 2)) k6 l16 ((i + 1 : Nat) : Int) (I1 q) X l r (LL all) := by
    intro out i hi m
    induction m with
    | zero =>
      intro j n k6 hm hn
      obtain ⟨n, rfl⟩ : ∃ p, n = p + 1 := ⟨n - 1, by omega⟩
      obtain rfl : j = q.length := by omega
      rw [F39.L11.succ, I1_len, ite'_f (lt_f (by omega)), List.take_length, next_i hi (m := all.length) (by omega)]
      rfl
    | succ m ih =>
      intro j n k6 hm hn
      obtain ⟨n, rfl⟩ : ∃ p, n = p + 1 := ⟨n - 1, by omega⟩
      have hj : j < q.length := by omega
      have hg := List.getElem?_eq_getElem hj
      have hb := hl _ (List.getElem_mem hi)
      obtain ⟨h1, h2⟩ := hq _ (List.getElem_mem hj)
      obtain ⟨g1, g2⟩ := getD_c hb h1 h2
      have := ih (j + 1) n k6 (by omega) (by omega)
      rw [List.take_succ_eq_append_getElem hj, List.map_append] at this
      rw [F39.L11.succ, I1_len, ite'_t (lt_t hj), LL_len, ite'_t (inR_t hi), LL_c (List.getElem?_eq_getElem hi), bindL_s, ite'_t (inR_t hj), I1_c hg, bindI_s, I1_len, ite'_t g1, g2, bindI_s, I1_len, ite'_t (fits_t (by simp only [List.length_map, List.length_take, List.length_cons, List.length_nil]; omega)), next_i hj (m := q.length) (by omega), I1_snoc, ← this]
      rfl
  have main : ∀ (m i n : Nat) (acc : BL), i + m = all.length → m < n → acc.length ≤ i → (∀ x ∈ acc, x.length ≤ 3) → SSL acc → ∃ ws, F39.L6 (k + 2) (C (k + 2)) n (LL acc) (i : Int) (I1 q) X l r (LL all) = some [(false, [.d (.list 1 (LL ws))])] ∧ (∀ z, z ∈ ws ↔ z ∈ acc ∨ z ∈ ((all.drop i).filter (dif l r)).map (proj q)) ∧ ws.length ≤ 27000 ∧ SSL ws := by
    intro m
    induction m with
    | zero =>
      intro i n acc hm hn ha hx hsa
      obtain ⟨n, rfl⟩ : ∃ j, n = j + 1 := ⟨n - 1, by omega⟩
      obtain rfl : i = all.length := by omega
      rw [F39.L6.succ, LL_len, ite'_f (lt_f (by omega)), List.drop_length]
      exact ⟨acc, rfl, by simp, by omega, hsa⟩
    | succ m ih =>
      intro i n acc hm hn ha hx hsa
      obtain ⟨n, rfl⟩ : ∃ j, n = j + 1 := ⟨n - 1, by omega⟩
      have hi : i < all.length := by omega
      have hb := hl _ (List.getElem_mem hi)
      obtain ⟨p1, p2⟩ := getD_c hb hl0.1 hl0.2
      obtain ⟨q1, q2⟩ := getD_c hb hr0.1 hr0.2
      rw [F39.L6.succ, LL_len, ite'_t (lt_t hi), ite'_t (inR_t hi), LL_c (List.getElem?_eq_getElem hi), bindL_s, I1_len, ite'_t p1, p2, bindI_s, ite'_t (inR_t hi), bindL_s, I1_len, ite'_t q1, q2, bindI_s]
      by_cases he : (all[i].getD l.toNat 0 == all[i].getD r.toNat 0) = true
      · have hd : dif l r all[i] = false := by unfold dif; rw [bne, he]; rfl
        rw [ite'_t he, next_i hi (m := all.length) (by omega)]
        obtain ⟨ws2, g1, g2, g3, g4⟩ := ih (i + 1) n acc (by omega) (by omega) (by omega) hx hsa
        refine ⟨ws2, g1, fun z => ?_, g3, g4⟩
        rw [g2, List.drop_eq_getElem_cons hi, List.filter_cons, hd]
        simp
      · have he' : (all[i].getD l.toNat 0 == all[i].getD r.toNat 0) = false := by simpa using he
        have hd : dif l r all[i] = true := by unfold dif; rw [bne, he']; rfl
        obtain ⟨r', ws, e1, e2, e3, e4, e5⟩ := c106 (k := k) acc (proj q all[i]) hsa (by omega) hx hk
        have := inner acc i hi q.length 0 (k + 2) n (by omega) (by omega)
        rw [List.take_zero, List.map_nil, show ((0 : Nat) : Int) = 0 from rfl, e1, bindR_s, e2, bindL_s] at this
        rw [ite'_f he', show F39.L11 (k + 2) (C (k + 2)) n (k + 2) (LL acc) (i : Int) 0 (I1 q) X l r (LL all) [] = _ from this]
        obtain ⟨ws2, g1, g2, g3, g4⟩ := ih (i + 1) n ws (by omega) (by omega) (by omega) (fun x h => by
          rcases (e3 x).1 h with h | rfl
          · exact hx x h
          · simp only [proj, List.length_map]; omega) e5
        refine ⟨ws2, g1, fun z => ?_, g3, g4⟩
        rw [g2, e3, List.drop_eq_getElem_cons hi, List.filter_cons, hd, if_pos rfl, List.map_cons, List.mem_cons]
        constructor
        · rintro ((h | h) | h)
          · exact .inl h
          · exact .inr (.inl h)
          · exact .inr (.inr h)
        · rintro (h | h | h)
          · exact .inl (.inl h)
          · exact .inl (.inr h)
          · exact .inr h
  obtain ⟨ws, g1, g2, g3, g4⟩ := main all.length 0 (k + 2) [] (by omega) (by omega) (Nat.zero_le _) (by simp) List.Pairwise.nil
  exact ⟨ws, g1, fun z => by rw [g2]; simp, g3, g4⟩
/-- both EvaluateInequality answer alike -/
theorem ineqB {a : Ovi.Rows} (ha : Fit Rl (.list 3 a)) (fs xs : List Atom) (q : List Int) (l r : Int) (hI : ∀ x ∈ fs, ∀ z ∈ x.2, inI z) (hal : a.length ≤ 1048576) (hfs : terms fs + fs.length ≤ 1048576) (hs : terms xs + xs.length ≤ 1048576) (hq : q.length ≤ 1048576) :
    ∃ ws R1 R2, Good3 ws ∧ resL 1 1 false 1 R1 0 0 = some (LL ws) ∧ resF 39 1 1 1 false 1 R2 0 0 = some (LL ws) ∧ ∀ k, 2000000 ≤ k → C (k + 21) 39 [.agg [.d (.list 3 a), .d (.list 2 (A1 fs))], .agg [.d (.list 1 (I1 q)), .d (.list 2 (A1 xs)), .d (.int .i64 l), .d (.int .i64 r)]] = some R1 ∧ C (k + 21) 41 [.agg [.d (.list 3 a), .d (.list 2 (A1 fs))], .agg [.d (.list 1 (I1 q)), .d (.list 2 (A1 xs)), .d (.int .i64 l), .d (.int .i64 r)]] = some R2 := by
  have hmax : (1048576 : Nat) ≤ maxLen := by decide
  obtain ⟨valid, hval, hv⟩ := valid_ex ha xs (fun x hx => by
    have := len_terms hx
    omega)
  obtain ⟨ib, hib, hinst⟩ := instB ha fs hI hfs hal
  have e111 : ∀ k, 2000000 ≤ k → C (k + 20) 111 [.d (.list 3 a), .agg [.d (.list 1 (I1 q)), .d (.list 2 (A1 xs)), .d (.int .i64 l), .d (.int .i64 r)]] = bo (qOk valid xs q && (vB xs l && (vB xs r && (l != r)))) := fun k hk => by
    obtain ⟨ws, e155, hm', hl'⟩ := c155 (k := k + 17) xs (by omega) (by omega)
    rw [F111.run, e155]
    simp only [bindR_s, resL_d, bindL_s]
    rw [c89 (k := k + 9) hv (by omega) hal hs hq, bB, c81 (k := k + 18) ws l (by omega) (by omega), c81 (k := k + 18) ws r (by omega) (by omega), vB_mem hm', vB_mem hm', bB, bB]
    cases qOk valid xs q <;> cases vB xs l <;> cases vB xs r <;> rfl
  have e112 : ∀ k, 2000000 ≤ k → C (k + 20) 112 [.d (.list 3 a), .agg [.d (.list 1 (I1 q)), .d (.list 2 (A1 xs)), .d (.int .i64 l), .d (.int .i64 r)]] = bo (qOk valid xs q && (vB xs l && (vB xs r && (l != r)))) := fun k hk => by
    obtain ⟨vs, e161, hm, hl⟩ := c161 (k := k + 18) xs (by omega) (by omega)
    rw [F112.run, e161]
    simp only [bindR_s, resO_s, bindL_s]
    rw [c95 (k := k + 9) hv (by omega) hal hs hq, bB, c83 (k := k + 17) vs l (by omega) (by omega), c83 (k := k + 17) vs r (by omega) (by omega), vB_mem hm, vB_mem hm, bB, bB]
    cases qOk valid xs q <;> cases vB xs l <;> cases vB xs r <;> cases (l != r) <;> rfl
  cases hqo : (qOk valid xs q && (vB xs l && (vB xs r && (l != r)))) with
  | false =>
    refine ⟨[], _, _, good_nil, resL_nil11, resF_nil39, fun k hk => ⟨?_, ?_⟩⟩
    · rw [F39.run, e111 k hk, bB, hqo, ite'_nf]
    · rw [F41.run, e112 k hk, bB, hqo, ite'_nf]
  | true =>
    have hqo' := hqo
    simp only [Bool.and_eq_true] at hqo'
    obtain ⟨o1, o2, o3, _⟩ := hqo'
    obtain ⟨hQ, hq5, hq3⟩ := qok ha hval hv hib hinst hal hs o1
    have vr : ∀ v, vB xs v = true → 0 ≤ v ∧ v < 5 := fun v h => by
      unfold vB at h
      obtain ⟨g1, x, hx, hz⟩ : isVar xs v := @of_decide_eq_true _ (Classical.propDecidable _) h
      have := (hval x hx (hQ.all x hx)).2.2 v hz
      omega
    have hl5 := vr l o2
    have hr5 := vr r o3
    have hg := good_ans (ib := ib) (xs := xs) (dif l r) hQ.mok hI q hq3
    refine ⟨Lib.compact (sortLists (ans (dif l r) ib fs xs q)), [(false, [.d (.list 1 (LL (Lib.compact (sortLists (ans (dif l r) ib fs xs q)))))])], [(false, [.frow 39 1 1 (LL (Lib.compact (sortLists (ans (dif l r) ib fs xs q))))])], hg, resL_d _ _, rfl, fun k hk => ⟨?_, ?_⟩⟩
    · have hspec : ∃ ws, (bindR (C (k + 20) 105 [.agg [.d (.list 3 a), .d (.list 2 (A1 fs))], .d (.list 2 (A1 xs))]) fun r8 => bindL (resO 39 1 1 false 1 r8 0 0) fun l25 => F39.L6 (k + 20) (C (k + 20)) (k + 20) [] 0 (I1 q) (A1 xs) l r l25) = some [(false, [.d (.list 1 (LL ws))])] ∧ (∀ z, z ∈ ws ↔ z ∈ ans (dif l r) ib fs xs q) ∧ ws.length ≤ 27000 ∧ SSL ws := by
        rw [c105 (k := k + 3) hQ (by omega)]
        unfold mtr ans
        cases ib with
        | false =>
          simp only [cond_false, bindR_s, resO_nil26, bindL_s]
          exact l39 (k := k + 18) [] q (A1 xs) l r hl5 hr5 (by simp) (by simp) hq5 hq3 (by omega)
        | true =>
          obtain ⟨h1, h2⟩ := mt_short (hQ.mok rfl)
          simp only [cond_true, bindR_s, resO_s, bindL_s]
          exact l39 (k := k + 18) (mtc fs xs) q (A1 xs) l r hl5 hr5 h1 h2 hq5 hq3 (by omega)
      obtain ⟨ws, g1, g2, g3, g4⟩ := hspec
      have : ws = Lib.compact (sortLists (ans (dif l r) ib fs xs q)) := ssL_eq g4 hg.ss fun z => by rw [g2, mem_compactL, mem_sortLists]
      rw [F39.run, e111 k hk, bB, hqo, ite'_nt, ← this]
      exact g1
    · rw [F41.run, e112 k hk, bB, hqo, ite'_nt, c107 (k := k + 3) hQ q hq5 hq3 (by omega) 113 [[D.list 1 (I1 q), D.list 2 (A1 xs), D.int IntKind.i64 l, D.int IntKind.i64 r]] (dif l r) (fun x hx hb => c113 ((mt_short (hQ.mok hb)).2 x hx) hl5 hr5)]
      rfl
end Go.Proofs.YthicohakeljdcaaGreat.Q

/-! ULg -/
namespace Go.Proofs.YthicohakeljdcaaGreat.Q
open Go Ovi
set_option maxRecDepth 1000000
theorem F8.eq (k : Nat) (call : CallF) (a0_0 : Ovi.Rows) (a0_1 : Ovi.Rows) (a1_0 : Ovi.Rows) (a1_1 : Ovi.Rows) (a1_2 : Int) (a1_3 : Int) : evFnRK P hs call (8 : FuncId) rs4 k Tryz.f8 [AV.agg [AV.s 3 a0_0, AV.s 2 a0_1], AV.agg [AV.s 1 a1_0, AV.s 2 a1_1, AV.d (D.int IntKind.i64 a1_2), AV.d (D.int IntKind.i64 a1_3)]] = bindR (call 12 [AV.agg [AV.d (D.list 3 a0_0), AV.d (D.list 2 a0_1)], AV.d (D.int IntKind.i64 (1048576 : Int))]) fun r8 => bindI (resI IntKind.i64 1 false 1 r8 0 0) fun n9 => ite' (decide (n9 < (0 : Int))) (some ([(false, [RL.d (D.bool true)])])) (bindR (call 38 [AV.agg [AV.d (D.list 1 a1_0), AV.d (D.list 2 a1_1), AV.d (D.int IntKind.i64 a1_2), AV.d (D.int IntKind.i64 a1_3)], AV.d (D.int IntKind.i64 n9)]) fun r10 => bindI (resI IntKind.i64 1 false 1 r10 0 0) fun n11 => ite' (decide (n11 < (0 : Int))) (some ([(false, [RL.d (D.bool true)])])) (bindR (call 14 [AV.agg [AV.d (D.list 3 a0_0), AV.d (D.list 2 a0_1)]]) fun r12 => bindL (resO 133 3 1 true 2 r12 0 0) fun l13 => bindL (resF 118 2 1 1 true 2 r12 0 1) fun l14 => bindR (call 40 [AV.agg [AV.d (D.list 1 a1_0), AV.d (D.list 2 a1_1), AV.d (D.int IntKind.i64 a1_2), AV.d (D.int IntKind.i64 a1_3)]]) fun r15 => bindL (resO 3 1 1 true 4 r15 0 0) fun l16 => bindL (resF 130 2 1 1 true 4 r15 0 1) fun l17 => bindI (resI IntKind.i64 1 true 4 r15 0 2) fun n18 => bindI (resI IntKind.i64 1 true 4 r15 0 3) fun n19 => bindR (call 39 [AV.agg [AV.d (D.list 3 l13), AV.d (D.list 2 l14)], AV.agg [AV.d (D.list 1 l16), AV.d (D.list 2 l17), AV.d (D.int IntKind.i64 n18), AV.d (D.int IntKind.i64 n19)]]) fun r20 => bindL (resL 1 1 false 1 r20 0 0) fun l21 => bindR (call 14 [AV.agg [AV.d (D.list 3 a0_0), AV.d (D.list 2 a0_1)]]) fun r22 => bindL (resO 133 3 1 true 2 r22 0 0) fun l23 => bindL (resF 118 2 1 1 true 2 r22 0 1) fun l24 => bindR (call 40 [AV.agg [AV.d (D.list 1 a1_0), AV.d (D.list 2 a1_1), AV.d (D.int IntKind.i64 a1_2), AV.d (D.int IntKind.i64 a1_3)]]) fun r25 => bindL (resO 3 1 1 true 4 r25 0 0) fun l26 => bindL (resF 130 2 1 1 true 4 r25 0 1) fun l27 => bindI (resI IntKind.i64 1 true 4 r25 0 2) fun n28 => bindI (resI IntKind.i64 1 true 4 r25 0 3) fun n29 => bindR (call 41 [AV.agg [AV.d (D.list 3 l23), AV.d (D.list 2 l24)], AV.agg [AV.d (D.list 1 l26), AV.d (D.list 2 l27), AV.d (D.int IntKind.i64 n28), AV.d (D.int IntKind.i64 n29)]]) fun r30 => bindL (resF 39 1 1 1 false 1 r30 0 0) fun l31 => ite' (depR 1 l31) (bindR (call 33 [AV.d (D.list 1 l31), AV.d (D.list 1 l21)]) fun r32 => bindB (resB 1 false 1 r32 0 0) fun b33 => ite' (!b33) (some ([(false, [RL.d (D.bool false)])])) (bindR (call 14 [AV.agg [AV.d (D.list 3 a0_0), AV.d (D.list 2 a0_1)]]) fun r34 => bindL (resO 133 3 1 true 2 r34 0 0) fun l35 => bindL (resF 118 2 1 1 true 2 r34 0 1) fun l36 => bindR (call 16 [AV.agg [AV.d (D.list 3 l23), AV.d (D.list 2 l24)], AV.agg [AV.d (D.list 3 l35), AV.d (D.list 2 l36)]]) fun r37 => bindB (resB 1 false 1 r37 0 0) fun b38 => ite' (!b38) (some ([(false, [RL.d (D.bool false)])])) (bindR (call 40 [AV.agg [AV.d (D.list 1 a1_0), AV.d (D.list 2 a1_1), AV.d (D.int IntKind.i64 a1_2), AV.d (D.int IntKind.i64 a1_3)]]) fun r39 => bindL (resO 3 1 1 true 4 r39 0 0) fun l40 => bindL (resF 130 2 1 1 true 4 r39 0 1) fun l41 => bindI (resI IntKind.i64 1 true 4 r39 0 2) fun n42 => bindI (resI IntKind.i64 1 true 4 r39 0 3) fun n43 => bindR (call 42 [AV.agg [AV.d (D.list 1 l26), AV.d (D.list 2 l27), AV.d (D.int IntKind.i64 n28), AV.d (D.int IntKind.i64 n29)], AV.agg [AV.d (D.list 1 l40), AV.d (D.list 2 l41), AV.d (D.int IntKind.i64 n42), AV.d (D.int IntKind.i64 n43)]]) fun r44 => bindB (resB 1 false 1 r44 0 0) fun b45 => ite' (!b45) (some ([(false, [RL.d (D.bool false)])])) (ite' (depR 0 l23) (ite' (depR 1 l24) (ite' (depR 0 l26) (ite' (depR 1 l27) (ite' (depR 1 l31) (bindR (call 17 [AV.var 0 0, AV.d (D.bool true), AV.d (D.int IntKind.i64 (1 : Int)), AV.d (D.int IntKind.i64 (↑133 : Int)), AV.d (D.list 3 l23), AV.d (D.int IntKind.i64 (↑118 : Int)), AV.d (D.list 2 l24)]) fun r46 => bindL (resO 133 3 3 false 1 r46 0 0) fun l47 => bindL (resO 118 2 3 false 1 r46 1 0) fun l48 => bindI (resI IntKind.i64 3 false 1 r46 2 0) fun n49 => ite' (depR 0 l26) (ite' (depR 1 l27) (ite' (depR 1 l31) (bindR (call 43 [AV.var 0 0, AV.d (D.bool true), AV.d (D.int IntKind.i64 n49), AV.d (D.int IntKind.i64 (↑3 : Int)), AV.d (D.list 1 l26), AV.d (D.int IntKind.i64 (↑130 : Int)), AV.d (D.list 2 l27), AV.d (D.int IntKind.i64 n28), AV.d (D.int IntKind.i64 n29)]) fun r50 => bindL (resO 3 1 3 false 1 r50 0 0) fun l51 => bindL (resO 130 2 3 false 1 r50 1 0) fun l52 => bindI (resI IntKind.i64 3 false 1 r50 2 0) fun n53 => ite' (decide (n53 < (0 : Int))) (some ([(false, [RL.d (D.bool false)])])) (bindR (call 33 [AV.d (D.list 1 l31), AV.d (D.list 1 l21)]) fun r54 => bindB (resB 1 false 1 r54 0 0) fun b55 => ite' (!b55) (some ([(false, [RL.d (D.bool false)])])) (ite' (depR 1 l31) (bindR (call 34 [AV.var 0 0, AV.d (D.bool false), AV.d (D.int IntKind.i64 (1 : Int)), AV.d (D.int IntKind.i64 (↑39 : Int)), AV.d (D.list 1 l31)]) fun r56 => bindL (resO 39 1 2 false 1 r56 0 0) fun l57 => bindI (resI IntKind.i64 2 false 1 r56 1 0) fun n58 => bindR (call 35 [AV.d (D.list 1 l57), AV.d (D.int IntKind.i64 (1 : Int))]) fun r59 => bindI (resI IntKind.i64 1 false 1 r59 0 0) fun n60 => ite' (decide (n60 < (0 : Int))) (some ([(false, [RL.d (D.bool false)])])) (ite' (n60 != n58) (some ([(false, [RL.d (D.bool false)])])) (bindR (call 14 [AV.agg [AV.d (D.list 3 a0_0), AV.d (D.list 2 a0_1)]]) fun r61 => bindL (resO 133 3 1 true 2 r61 0 0) fun l62 => bindL (resF 118 2 1 1 true 2 r61 0 1) fun l63 => bindR (call 40 [AV.agg [AV.d (D.list 1 a1_0), AV.d (D.list 2 a1_1), AV.d (D.int IntKind.i64 a1_2), AV.d (D.int IntKind.i64 a1_3)]]) fun r64 => bindL (resO 3 1 1 true 4 r64 0 0) fun l65 => bindL (resF 130 2 1 1 true 4 r64 0 1) fun l66 => bindI (resI IntKind.i64 1 true 4 r64 0 2) fun n67 => bindI (resI IntKind.i64 1 true 4 r64 0 3) fun n68 => bindR (call 41 [AV.agg [AV.d (D.list 3 l62), AV.d (D.list 2 l63)], AV.agg [AV.d (D.list 1 l65), AV.d (D.list 2 l66), AV.d (D.int IntKind.i64 n67), AV.d (D.int IntKind.i64 n68)]]) fun r69 => bindL (resF 39 1 1 1 false 1 r69 0 0) fun l70 => ite' (depR 1 l70) (bindR (call 33 [AV.d (D.list 1 l70), AV.d (D.list 1 l21)]) fun r71 => bindB (resB 1 false 1 r71 0 0) fun b72 => ite' (!b72) (some ([(false, [RL.d (D.bool false)])])) (bindR (call 35 [AV.d (D.list 1 l57), AV.d (D.int IntKind.i64 (1 : Int))]) fun r73 => bindI (resI IntKind.i64 1 false 1 r73 0 0) fun n74 => ite' (decide (n74 < (0 : Int))) (some ([(false, [RL.d (D.bool false)])])) (ite' (n74 != n58) (some ([(false, [RL.d (D.bool false)])])) (some ([(false, [RL.d (D.bool true)])]))))) (none)))) (none)))) (none)) (none)) (none)) (none)) (none)) (none)) (none)) (none))))) (none))) := by kernel_rfl
variable {k : Nat}
theorem law8n (call : CallF) (k : Nat) {a b c d : Ovi.Rows} {n l r : Int}
    (t12 : call 12 [.agg [.d (.list 3 a), .d (.list 2 b)], .d (.int .i64 1048576)] = some [(false, [.d (.int .i64 n)])]) (hn : decide (n < 0) = true) :
    evFnRK P hs call (8 : FuncId) rs4 k Tryz.f8 [.agg [.s 3 a, .s 2 b], .agg [.s 1 c, .s 2 d, .d (.int .i64 l), .d (.int .i64 r)]] = bo true := by
  rw [F8.eq, t12, bindR_s, resI_s, bindI_s, ite'_t hn]
  rfl
theorem law8m (call : CallF) (k : Nat) {a b c d : Ovi.Rows} {n n2 l r : Int}
    (t12 : call 12 [.agg [.d (.list 3 a), .d (.list 2 b)], .d (.int .i64 1048576)] = some [(false, [.d (.int .i64 n)])]) (hn : decide (n < 0) = false)
    (t38 : call 38 [.agg [.d (.list 1 c), .d (.list 2 d), .d (.int .i64 l), .d (.int .i64 r)], .d (.int .i64 n)] = some [(false, [.d (.int .i64 n2)])]) (hn2 : decide (n2 < 0) = true) :
    evFnRK P hs call (8 : FuncId) rs4 k Tryz.f8 [.agg [.s 3 a, .s 2 b], .agg [.s 1 c, .s 2 d, .d (.int .i64 l), .d (.int .i64 r)]] = bo true := by
  rw [F8.eq, t12, bindR_s, resI_s, bindI_s, ite'_f hn, t38, bindR_s, resI_s, bindI_s, ite'_t hn2]
  rfl
theorem law8q (call : CallF) (k : Nat) {a b c d a' b' c' d' B B' : Ovi.Rows} {n n2 z1 z2 zb l r : Int} {X14 X40 R1 R2 X17 X43 X34 : Res}
    (t12 : call 12 [.agg [.d (.list 3 a), .d (.list 2 b)], .d (.int .i64 1048576)] = some [(false, [.d (.int .i64 n)])]) (hn : decide (n < 0) = false)
    (t38 : call 38 [.agg [.d (.list 1 c), .d (.list 2 d), .d (.int .i64 l), .d (.int .i64 r)], .d (.int .i64 n)] = some [(false, [.d (.int .i64 n2)])]) (hn2 : decide (n2 < 0) = false)
    (t14 : call 14 [.agg [.d (.list 3 a), .d (.list 2 b)]] = some X14) (x0 : resO 133 3 1 true 2 X14 0 0 = some a) (x1 : resF 118 2 1 1 true 2 X14 0 1 = some b)
    (t40 : call 40 [.agg [.d (.list 1 c), .d (.list 2 d), .d (.int .i64 l), .d (.int .i64 r)]] = some X40) (y0 : resO 3 1 1 true 4 X40 0 0 = some c) (y1 : resF 130 2 1 1 true 4 X40 0 1 = some d) (y2 : resI .i64 1 true 4 X40 0 2 = some l) (y3 : resI .i64 1 true 4 X40 0 3 = some r)
    (ts : call 39 [.agg [.d (.list 3 a), .d (.list 2 b)], .agg [.d (.list 1 c), .d (.list 2 d), .d (.int .i64 l), .d (.int .i64 r)]] = some R1) (ti : call 41 [.agg [.d (.list 3 a), .d (.list 2 b)], .agg [.d (.list 1 c), .d (.list 2 d), .d (.int .i64 l), .d (.int .i64 r)]] = some R2)
    (r0 : resL 1 1 false 1 R1 0 0 = some B) (r1 : resF 39 1 1 1 false 1 R2 0 0 = some B)
    (d1 : depR 0 a = true) (d2 : depR 1 b = true) (d3 : depR 0 c = true) (d4 : depR 1 d = true) (d5 : depR 1 B = true)
    (t33 : call 33 [.d (.list 1 B), .d (.list 1 B)] = some [(false, [.d (.bool true)])])
    (t16 : call 16 [.agg [.d (.list 3 a), .d (.list 2 b)], .agg [.d (.list 3 a), .d (.list 2 b)]] = some [(false, [.d (.bool true)])])
    (t42 : call 42 [.agg [.d (.list 1 c), .d (.list 2 d), .d (.int .i64 l), .d (.int .i64 r)], .agg [.d (.list 1 c), .d (.list 2 d), .d (.int .i64 l), .d (.int .i64 r)]] = some [(false, [.d (.bool true)])])
    (m17 : call 17 [.var 0 0, .d (.bool true), .d (.int .i64 1), .d (.int .i64 133), .d (.list 3 a), .d (.int .i64 118), .d (.list 2 b)] = some X17)
    (v0 : resO 133 3 3 false 1 X17 0 0 = some a') (v1 : resO 118 2 3 false 1 X17 1 0 = some b') (v2 : resI .i64 3 false 1 X17 2 0 = some z1)
    (m43 : call 43 [.var 0 0, .d (.bool true), .d (.int .i64 z1), .d (.int .i64 3), .d (.list 1 c), .d (.int .i64 130), .d (.list 2 d), .d (.int .i64 l), .d (.int .i64 r)] = some X43)
    (w0 : resO 3 1 3 false 1 X43 0 0 = some c') (w1 : resO 130 2 3 false 1 X43 1 0 = some d') (w2 : resI .i64 3 false 1 X43 2 0 = some z2) (hz2 : 0 ≤ z2)
    (m34 : call 34 [.var 0 0, .d (.bool false), .d (.int .i64 1), .d (.int .i64 39), .d (.list 1 B)] = some X34)
    (u0 : resO 39 1 2 false 1 X34 0 0 = some B') (u1 : resI .i64 2 false 1 X34 1 0 = some zb) (hzb : 0 ≤ zb)
    (t35 : call 35 [.d (.list 1 B'), .d (.int .i64 1)] = some [(false, [.d (.int .i64 zb)])]) :
    evFnRK P hs call (8 : FuncId) rs4 k Tryz.f8 [.agg [.s 3 a, .s 2 b], .agg [.s 1 c, .s 2 d, .d (.int .i64 l), .d (.int .i64 r)]] = bo true := by
  have n1 : decide (z2 < 0) = false := by simp only [decide_eq_false_iff_not]; omega
  have n3 : decide (zb < 0) = false := by simp only [decide_eq_false_iff_not]; omega
  have n4 : (zb != zb) = false := bne_self _
  have tt : (!true) = false := rfl
  have i0 : ∀ (x y : Option Res), ite' false x y = y := fun _ _ => rfl
  have i1 : ∀ (x y : Option Res), ite' true x y = x := fun _ _ => rfl
  rw [F8.eq, t12, bindR_s, resI_s, bindI_s, hn, i0, t38, bindR_s, resI_s, bindI_s, hn2, i0]
  simp only [t14, bindR_s, x0, x1, bindL_s, t40, y0, y1, y2, y3, bindI_s, ts, ti, r0, r1, d1, d2, d3, d4, d5, i1, t33, resB_s, bindB_s, tt, i0, t16, t42]
  rw [m17]
  simp only [bindR_s, v0, v1, v2, bindL_s, bindI_s, i1]
  rw [m43]
  simp only [bindR_s, w0, w1, w2, bindL_s, bindI_s, n1, i0, t33, resB_s, bindB_s, tt, d5, i1]
  rw [m34]
  simp only [bindR_s, u0, u1, bindL_s, bindI_s, t35, resI_s, n3, n4, i0]
  rfl
set_option maxRecDepth 1000000 in
theorem law8 (hk : 3000000 ≤ k) {a b c d : Ovi.Rows} {l r : Int} (h1 : Fit Rl (.list 3 a)) (h2 : Fit At (.list 2 b)) (h3 : Fit In1 (.list 1 c)) (h4 : Fit At (.list 2 d)) : evFnRK P hs (C k) (8 : FuncId) rs4 k Tryz.f8 [.agg [.s 3 a, .s 2 b], .agg [.s 1 c, .s 2 d, .d (.int .i64 l), .d (.int .i64 r)]] = bo true := by
  obtain ⟨k, rfl⟩ : ∃ j, k = j + 31 := ⟨k - 31, by omega⟩
  have t12 := c12 (k := k + 31) (by omega) h1 h2 (left := 1048576) (by omega) (by omega)
  rcases szT_cases 1048576 (szC [.list 3 a, .list 2 b]) with ⟨q1, e1⟩ | ⟨q1, e1⟩ <;> rw [e1] at t12
  rotate_left
  · exact law8n _ _ t12 neg_t
  have t38 := c38 (l := l) (r := r) (k := k + 30) (by omega) h3 h4 (left := 1048576 - ((szC [.list 3 a, .list 2 b] : Nat) : Int)) (by omega) (by omega)
  rcases szT_cases (1048576 - ((szC [.list 3 a, .list 2 b] : Nat) : Int)) (szC [.list 1 c, .list 2 d]) with ⟨q2, e2⟩ | ⟨q2, e2⟩ <;> rw [e2] at t38
  rotate_left
  · exact law8m _ _ t12 (neg_f (by omega)) t38 neg_t
  have p1 := q1
  have p2 := q2
  simp only [szC] at p1 p2
  have z1 : szD (.list 3 a) ≤ 1048576 := by omega
  have z2 : szD (.list 2 b) ≤ 1048576 := by omega
  have z3 : szD (.list 1 c) ≤ 1048576 := by omega
  have z4 : szD (.list 2 d) ≤ 1048576 := by omega
  have t14 := c14 (k := k + 31) (by omega) h1 h2 z1 z2
  have t40 := c40 (k := k + 30) (by omega) h3 h4 z3 z4 l r
  have t16 := c16 (k := k + 31) (by omega) h1 h2 z1 z2
  have t42 := c42 (k := k + 30) (by omega) h3 h4 z3 z4 l r
  obtain ⟨fs, rfl, hF⟩ := h2.atoms'
  obtain ⟨xs, rfl, hX⟩ := h4.atoms'
  obtain ⟨q, rfl⟩ := h3.ints
  have y2 := z2
  have y3 := z3
  have y4 := z4
  rw [sz_atoms] at y2 y4
  rw [sz_ints] at y3
  have ya := Nat.le_trans sz_rels z1
  have hmax : (1048576 : Nat) ≤ maxLen := by decide
  obtain ⟨B, R1, R2, hB, hR1, hR2, hg⟩ := ineqB h1 fs xs q l r (fun x hx => (hF x hx).2) ya (by omega) (by omega) y3
  obtain ⟨ts, ti⟩ := hg (k + 10) (by omega)
  have hBt : tot B ≤ 3 * B.length := by
    have hs := hB.short
    clear hg hR1 hR2 hB
    unfold tot
    induction B with
    | nil => simp
    | cons b r ih =>
      have h3 := hs b List.mem_cons_self
      have h4 := ih fun b hb => hs b (List.mem_cons_of_mem _ hb)
      simp only [List.map_cons, List.sum_cons, List.length_cons]
      omega
  have hBl := hB.len
  have hBf : Fit (.list [.list [.int .i64]]) (.list 1 (LL B)) := lists_fit B hB.int (by omega) (fun b hb => by have := hB.short b hb; omega)
  have t33 := c33 (k := k + 31) (by omega) hBf (by rw [lists_sz]; omega)
  -- the marks
  have h133 : ((133 : Nat) : Int) = 133 := rfl
  have h118 : ((118 : Nat) : Int) = 118 := rfl
  have h130 : ((130 : Nat) : Int) = 130 := rfl
  have h39 : ((39 : Nat) : Int) = 39 := rfl
  have h3' : ((3 : Nat) : Int) = 3 := rfl
  obtain ⟨a', ha'⟩ := relMark h1 1
  obtain ⟨b', hb'⟩ := factMark fs (1 + 3 * (a.length : Int))
  have m17 := e17 (k := k + 30) ha' hb' (by omega)
  rw [h133, h118] at m17
  obtain ⟨c', hc'⟩ := intMark q (1 + 3 * (a.length : Int) + (fs.length + terms fs : Nat))
  obtain ⟨d', hd'⟩ := factMark xs (1 + 3 * (a.length : Int) + (fs.length + terms fs : Nat) + q.length)
  have m43 := e43 (l := l) (r := r) (k := k + 30) hc' hd' (by omega) (by omega)
  rw [h3', h130] at m43
  obtain ⟨B', hB'⟩ := intsMark B 1
  have m34 := e34 (k := k + 30) hB' (by omega)
  rw [h39] at m34
  have lB := (mkRows_up stepInts_up hB').2
  rw [LL_len] at lB
  have t35 := c35 (k := k + 29) hB' (by omega) (by omega) (by omega) (fun r hr l e => by
    obtain ⟨b, hb, rfl⟩ := List.mem_map.1 hr
    cases e
    rw [I1_len]
    have := hB.short b hb
    omega) (by omega)
  exact law8q (C (k + 31)) (k + 31) t12 (neg_f (by omega)) t38 (neg_f (by omega)) t14 F14x0 F14x1 t40 rfl rfl rfl rfl ts ti hR1 hR2 (dep_rel h1) (dep_facts fs) (dep_ints q) (dep_facts xs) (dep_lists B) t33 t16 t42
    m17 rfl rfl rfl m43 rfl rfl rfl (by omega) m34 rfl rfl (by omega) t35
end Go.Proofs.YthicohakeljdcaaGreat.Q

/-! UE8 -/
namespace Go.Proofs.YthicohakeljdcaaGreat.Q
open Go Ovi Go.ChangeShapes Go.WideShapes Go.ChangeAt Go.RowKit
theorem own : ownKnob Tryz.prog.godebug = none := by kernel_rfl
theorem laidOut : laidOutB Tryz.prog = true := by kernel_rfl
def ty8 : List (Bool × List Ty) := [(true, [.list [.str, .int .i64, .bool], .list [.int .i64, .list [.int .i64]]]), (true, [.list [.int .i64], .list [.int .i64, .list [.int .i64]], .int .i64, .int .i64])]
theorem tys8 : parTys Tryz.prog Tryz.f8.params.toList = some ty8 := by kernel_rfl
theorem readable8 : readable Tryz.prog Tryz.f8.params.toList = true := by kernel_rfl
theorem law_args8 {av : List AV} (h : ArgsFit ty8 av) : evFnRK P hs (C 3000000) (8 : FuncId) rs4 3000000 Tryz.f8 (av.map seedA) = some yes := by
  match av, h with
  | [p0, p1], h =>
    simp only [ty8, ArgsFit, and_true] at h
    obtain ⟨g0, g1⟩ := h
    cases p0 <;> simp only [ArgFit] at g0
    obtain ⟨ds0, rfl, g0⟩ := g0
    obtain ⟨_, _, rfl, e0_0, g0⟩ := Fits.cons g0
    obtain ⟨_, _, rfl, e0_1, g0⟩ := Fits.cons g0
    obtain rfl := Fits.nil g0
    obtain ⟨_, rfl, e0_0⟩ := e0_0.list (n := 3) rfl
    obtain ⟨_, rfl, e0_1⟩ := e0_1.list (n := 2) rfl
    cases p1 <;> simp only [ArgFit] at g1
    obtain ⟨ds1, rfl, g1⟩ := g1
    obtain ⟨_, _, rfl, e1_0, g1⟩ := Fits.cons g1
    obtain ⟨_, _, rfl, e1_1, g1⟩ := Fits.cons g1
    obtain ⟨_, _, rfl, e1_2, g1⟩ := Fits.cons g1
    obtain ⟨_, _, rfl, e1_3, g1⟩ := Fits.cons g1
    obtain rfl := Fits.nil g1
    obtain ⟨_, rfl, e1_0⟩ := e1_0.list (n := 1) rfl
    obtain ⟨_, rfl, e1_1⟩ := e1_1.list (n := 2) rfl
    obtain ⟨_, rfl, we1_2⟩ := e1_2.int
    obtain ⟨_, rfl, we1_3⟩ := e1_3.int
    refine Eq.trans ?_ (show bo true = some yes from rfl)
    simpa only [asD, List.map_cons, List.map_nil, seedA, seedL] using law8 (Nat.le_refl _) e0_0 e0_1 e1_0 e1_1
set_option maxRecDepth 100000 in
theorem lifted8 (os : Os) (started : os.Started) (H : Type) (enc : TypeId × Value → H) :
    ReturnsInHanded {} Tryz.checked os 8 .any (Rows.fnExactEvaluateInequalitySpec.pre6 enc Tryz.prog Tryz.f8 Rows.fnExactEvaluateInequalityRow.domain false) (Rows.fnExactEvaluateInequalitySpec.post enc Tryz.prog Tryz.f8 false true false false) := by
  refine returnsInHanded_of_change (C := Tryz.checked) own started (by kernel_rfl) Tryz.func8
    (ChangeSpec.witness6 (enc := enc) (C := Tryz.checked) false ⟨#[], #[.agg #[.slice none 0 0, .slice none 0 0], .agg #[.slice none 0 0, .slice none 0 0, .int .i64 0, .int .i64 0]], []⟩ 8 (by kernel_rfl) (by kernel_rfl) (by kernel_rfl) (by kernel_rfl)) ?_
  intro W base args ds gs before hval0 hW hcnd _
  have hval : ∀ (j : Nat) t v, Tryz.f8.params[j]? = some t → args[j]? = some v → Value.okWide Tryz.prog W .any base t v := hval0
  have hW' := hW
  obtain ⟨p, q, hA0, hV, rfl, hfz, hnd⟩ := hW
  have hA : DataW.TrodAll enc Tryz.prog W 0 (fun _ => true) true Tryz.f8.params.toList args.toList ds p := hA0
  obtain ⟨rfl, rfl⟩ := trodVars_none hV
  obtain ⟨av, hfit, hlen, hac⟩ := args_in hA (base := base) (fun j t v h1 h2 => hval j t v (by simpa using h1) (by simpa using h2)) tys8
  refine (calls_yesR (drawSound mixed) (okProg ok) (sound 3000000) (rs := rs4) (k := 3000000) Tryz.func8 (by kernel_rfl) (law_args8 hfit) (vs := args) ⟨by simpa using hlen, fun j a ha => by
    rw [List.getElem?_map] at ha
    obtain ⟨b, hb, rfl⟩ := Option.map_eq_some_iff.1 ha
    obtain ⟨u, hu, hc⟩ := hac j b hb
    exact ⟨u, by simpa using hu, AC_seed hc⟩⟩ trivial).mono fun e W' ⟨he, bel⟩ => ?_
  subst he
  have hk := kept_all laidOut bel readable8 hA
  obtain ⟨d0, d1, rfl⟩ : ∃ d0 d1, ds = [d0, d1] := by
    obtain ⟨v0, vs0, d0, ds0, p0, q0, rg0, rfl, rfl, h0, r0⟩ := trodAll_cons hA
    obtain ⟨v1, vs1, d1, ds1, p1, q1, rg1, rfl, rfl, h1, r1⟩ := trodAll_cons r0
    obtain ⟨rfl, rfl, rfl⟩ := trodAll_nil r1
    exact ⟨_, _, rfl⟩
  exact ⟨_, rfl, _, _, _, [], _, [], hW', trodAll_mk1 (shut_bool (show Tryz.prog.underlying 4 = some .bool by kernel_rfl) _), hk, rfl, bel.frame _, fun h => by cases h⟩
theorem andI {a b : Bool} (h1 : a = true) (h2 : b = true) : (a && b) = true := by rw [h1, h2]; rfl
theorem jf8_0 : (Rows.fnExactEvaluateInequalityRow.wf (OpenSpec.ofChange Rows.fnExactEvaluateInequalitySpec)) = true := by kernel_rfl
theorem jf8_1 : (laidOutB Tryz.prog) = true := by kernel_rfl
theorem jf8_2 : (mapsRowed Tryz.prog) = true := by kernel_rfl
theorem jf8_3 : (Tryz.f8.params.all (Tryz.prog.readableRec ·)) = true := by kernel_rfl
theorem jf8_4 : (namedTie Tryz.prog Rows.fnExactEvaluateInequalityRow.named Rows.fnExactEvaluateInequalitySpec.vars) = true := by kernel_rfl
theorem jf8_5 : ((Rows.fnExactEvaluateInequalityRow.stops == [])) = true := by kernel_rfl
theorem jf8_6 : ((Tryz.prog.stops == [])) = true := by kernel_rfl
theorem jf8_7 : ((Rows.fnExactEvaluateInequalityRow.knobs == [])) = true := by kernel_rfl
theorem jf8_8 : ((Tryz.prog.stopKnobs == [])) = true := by kernel_rfl
theorem jf8_9 : ((Rows.fnExactEvaluateInequalityRow.inPlace == Tryz.prog.inPlace 8)) = true := by kernel_rfl
theorem jf8_10 : ((Rows.fnExactEvaluateInequalityRow.unfollowed == Tryz.prog.unfollowed 8)) = true := by kernel_rfl
theorem jf8_11 : ((Rows.fnExactEvaluateInequalityRow.recurses == Tryz.prog.recurses 8)) = true := by kernel_rfl
theorem jf8_12 : ((Rows.fnExactEvaluateInequalityRow.named == Tryz.prog.varsNamed 8)) = true := by kernel_rfl
theorem jf8_13 : ((Rows.fnExactEvaluateInequalityRow.maps == (Tryz.f8.params.toList ++ Rows.fnExactEvaluateInequalitySpec.plain.varTypes Tryz.prog).any (Tryz.prog.mapsRec ·))) = true := by kernel_rfl
theorem jf8_14 : ((Rows.fnExactEvaluateInequalityRow.ifaces == (Tryz.f8.params.toList ++ Rows.fnExactEvaluateInequalitySpec.plain.varTypes Tryz.prog).any (Tryz.prog.ifacesRec ·))) = true := by kernel_rfl
theorem jf8_15 : ((Rows.fnExactEvaluateInequalityRow.mapsOut == Tryz.prog.mapsAmong Tryz.f8.resultTypes.toList)) = true := by kernel_rfl
theorem jf8_16 : ((Rows.fnExactEvaluateInequalityRow.loops == (Tryz.f8.params.toList ++ Rows.fnExactEvaluateInequalitySpec.plain.varTypes Tryz.prog).any (Tryz.prog.loopsFrom ·))) = true := by kernel_rfl
theorem jf8_17 : ((Rows.fnExactEvaluateInequalityRow.wideKeys == (Tryz.f8.params.toList ++ Rows.fnExactEvaluateInequalitySpec.plain.varTypes Tryz.prog ++ Tryz.f8.resultTypes.toList).any (Tryz.prog.wideKeysFrom ·))) = true := by kernel_rfl
theorem jf8_18 : (Rows.fnExactEvaluateInequalitySpec.vars.all (Tryz.prog.varReadable ·)) = true := by kernel_rfl
theorem jf8_19 : (Tryz.f8.resultTypes.all (fun t => Tryz.prog.readableRec t && decide (t < Tryz.prog.types.size))) = true := by kernel_rfl
theorem jf8_20 : ((Rows.fnExactEvaluateInequalityRow.ifacesOut == Tryz.f8.resultTypes.toList.any (Tryz.prog.ifacesRec ·))) = true := by kernel_rfl
theorem jf8_21 : ((Rows.fnExactEvaluateInequalityRow.loopsOut == Tryz.f8.resultTypes.toList.any (Tryz.prog.loopsFrom ·))) = true := by kernel_rfl
theorem jf8_22 : ((Rows.fnExactEvaluateInequalityRow.plainKeys == Tryz.prog.plainKeys)) = true := by kernel_rfl
theorem jf8_23 : (Rows.fnExactEvaluateInequalityRow.shortTexts.isNone) = true := by kernel_rfl
theorem jf8_24 : (Tryz.prog.stopsHeard) = true := by kernel_rfl
theorem jf8_25 : (Tryz.prog.mayEnter) = true := by kernel_rfl
theorem jf8_26 : ((Rows.fnExactEvaluateInequalityRow.lifted == Tryz.prog.liftsFinal)) = true := by kernel_rfl
theorem jf8_27 : ((Tryz.prog.make == some Rows.fnExactEvaluateInequalityRow.make)) = true := by kernel_rfl
theorem jf8_29 : ((Rows.fnExactEvaluateInequalityRow.pinned == Rows.fnExactEvaluateInequalityRow.pinnedBy)) = true := by kernel_rfl
theorem jf8_30 : ((Rows.fnExactEvaluateInequalityRow.veiled == (Tryz.f8.params.toList ++ Rows.fnExactEvaluateInequalitySpec.plain.varTypes Tryz.prog ++ Tryz.f8.resultTypes.toList).any (Tryz.prog.veiledRec ·))) = true := by kernel_rfl
theorem jf8_31 : (Rows.fnExactEvaluateInequalityRow.veiledFits Tryz.prog Tryz.f8.params.toList (Tryz.f8.params.toList ++ Rows.fnExactEvaluateInequalitySpec.plain.varTypes Tryz.prog ++ Tryz.f8.resultTypes.toList)) = true := by kernel_rfl
theorem closed8 : joinedFacts Tryz.prog 8 Tryz.f8 Rows.fnExactEvaluateInequalitySpec Rows.fnExactEvaluateInequalityRow = true := by
  unfold joinedFacts
  refine (andI (andI (andI (andI (andI (andI (andI (andI (andI (andI (andI (andI (andI (andI (andI (andI (andI (andI (andI (andI (andI (andI (andI (andI (andI (andI (andI (andI (andI (andI (andI jf8_0 jf8_1) jf8_2) jf8_3) jf8_4) jf8_5) jf8_6) jf8_7) jf8_8) jf8_9) jf8_10) jf8_11) jf8_12) jf8_13) jf8_14) jf8_15) jf8_16) jf8_17) jf8_18) jf8_19) jf8_20) jf8_21) jf8_22) jf8_23) jf8_24) jf8_25) jf8_26) jf8_27) ?_) jf8_29) jf8_30) jf8_31)
  kernel_rfl
theorem over8 : Rows.fnExactEvaluateInequalityRow.holds Tryz.pinned (OpenSpec.ofChange Rows.fnExactEvaluateInequalitySpec) :=
  OpenClaim.holds_of_wide 8 Tryz.f8 rfl rfl rfl rfl rfl rfl rfl ⟨rfl, rfl, rfl, rfl, rfl⟩ rfl rfl rfl rfl rfl (by kernel_rfl) Tryz.func8 closed8
    (of_decide_eq_true (by kernel_rfl)) (by unfold Func.isWrapper; first | (rw [if_pos (by decide +kernel)]; kernel_rfl) | (rw [if_neg (by decide +kernel)]; exact ⟨rfl, rfl⟩))
    (fun os started H enc _ => lifted8 os started H enc)
end Go.Proofs.YthicohakeljdcaaGreat.Q
namespace Go.Proofs.YthicohakeljdcaaGreat
theorem fnExactEvaluateInequality_holds : Rows.FnExactEvaluateInequalitySaid := Q.over8
#print axioms fnExactEvaluateInequality_holds
end Go.Proofs.YthicohakeljdcaaGreat

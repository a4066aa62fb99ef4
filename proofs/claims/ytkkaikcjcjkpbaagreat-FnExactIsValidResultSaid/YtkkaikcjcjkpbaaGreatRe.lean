/-
IsValidResult: dependencies, triggers, steps of the chase, replay, on plain lists; the law. No condition.
-/
import Derived.Test.YtkkaikcjcjkpbaaGreatRd
set_option linter.unusedVariables false
set_option linter.unusedSimpArgs false
/-! VNa -/
namespace Go.Proofs.YtkkaikcjcjkpbaaGreat.Q
open Go Ovi
variable {k : Nat}
/-! ### valid dependencies -/
/-- impl.areAtoms -/
theorem c126n {a : Ovi.Rows} {xs : List Atom} {valid : Atom → Bool} (n : Int) (hv : Valid a xs valid) (hk : 2000000 ≤ k) (ha : a.length ≤ 1048576) (hs : terms xs + xs.length ≤ 1048576) :
    C (k + 9) 126 [.d (.list 3 a), .d (.list 2 (A1 xs)), .d (.int .i64 n)] = bo (decide ((1 : Int) ≤ (xs.length : Int) ∧ (xs.length : Int) ≤ n) && xs.all valid) := by
  have hmax : (1048576 : Nat) ≤ maxLen := by decide
  rw [F126.run, c53, bB, A1_len]
  cases decide ((1 : Int) ≤ (xs.length : Int) ∧ (xs.length : Int) ≤ n) with
  | false => rfl
  | true =>
    rw [ite'_t rfl, c129 (k := k + 6) xs 149 [[.list 3 a]] (fun x => !valid x) (by omega) (by omega) (fun x hx => by
      have := len_terms hx
      rw [List.map_cons, List.map_nil, F149.run, (hv x hx k (by omega) (by omega)).1, bB]; rfl), bB]
    exact bo_eq (any_not xs valid)
/-- what both IsValidDependency say -/
structure DepOk (a : Ovi.Rows) (body head : List Atom) (egd : Bool) (l r : Int) : Prop where
  b1 : 1 ≤ body.length
  b2 : body.length ≤ 2
  bv : ∀ x ∈ body, (0 ≤ x.1 ∧ x.1 < (a.length : Int)) ∧ (x.2.length : Int) = ar a x.1 ∧ okT x.2
  e : egd = true → head = [] ∧ isVar body l ∧ isVar body r
  bV : Valid a body (fun _ => true)
  tV : egd = false → 1 ≤ head.length ∧ Valid a head (fun _ => true)
  t : egd = false → head.length ≤ 2 ∧ ∀ x ∈ head, (0 ≤ x.1 ∧ x.1 < (a.length : Int)) ∧ (x.2.length : Int) = ar a x.1 ∧ okT x.2
theorem isVar_4 {a : Ovi.Rows} {body : List Atom} {z : Int} (hb : ∀ x ∈ body, (0 ≤ x.1 ∧ x.1 < (a.length : Int)) ∧ (x.2.length : Int) = ar a x.1 ∧ okT x.2) (h : isVar body z) : 0 ≤ z ∧ z ≤ 4 := by
  obtain ⟨h0, x, hx, hz⟩ := h
  exact ⟨h0, ((hb x hx).2.2 z hz).2⟩
theorem dep {a : Ovi.Rows} (ha : Fit Rl (.list 3 a)) (hal : a.length ≤ 1048576) (body head : List Atom) (egd : Bool) (l r : Int) (hsb : terms body + body.length ≤ 1048576) (hsh : terms head + head.length ≤ 1048576) :
    ∃ b, (b = true → DepOk a body head egd l r) ∧ ∀ k, 2000000 ≤ k → C (k + 12) 89 [.d (.list 3 a), .agg [.d (.list 2 (A1 body)), .d (.list 2 (A1 head)), .d (.bool egd), .d (.int .i64 l), .d (.int .i64 r)]] = bo b ∧ C (k + 12) 68 [.d (.list 3 a), .agg [.d (.list 2 (A1 body)), .d (.list 2 (A1 head)), .d (.bool egd), .d (.int .i64 l), .d (.int .i64 r)]] = bo b := by
  have hmax : (1048576 : Nat) ≤ maxLen := by decide
  obtain ⟨vb, hvb, hVb⟩ := valid_ex ha body (fun x hx => by have := len_terms hx; omega)
  obtain ⟨vh, hvh, hVh⟩ := valid_ex ha head (fun x hx => by have := len_terms hx; omega)
  -- the first part
  have e89 : ∀ k, 2000000 ≤ k → C (k + 11) 126 [.d (.list 3 a), .d (.list 2 (A1 body)), .d (.int .i64 2)] = bo (decide ((1 : Int) ≤ (body.length : Int) ∧ (body.length : Int) ≤ 2) && body.all vb) := fun k hk => c126n (k := k + 2) 2 hVb (by omega) hal hsb
  have e89h : ∀ k, 2000000 ≤ k → C (k + 11) 126 [.d (.list 3 a), .d (.list 2 (A1 head)), .d (.int .i64 2)] = bo (decide ((1 : Int) ≤ (head.length : Int) ∧ (head.length : Int) ≤ 2) && head.all vh) := fun k hk => c126n (k := k + 2) 2 hVh (by omega) hal hsh
  have L4 : ∀ k, 2000000 ≤ k → ∀ fin, (∀ n, F68.L4 (k + 11) (C (k + 11)) (n + 1) a (body.length : Int) (A1 body) (A1 head) egd l r = fin) → F68.L4 (k + 11) (C (k + 11)) (k + 11) a 0 (A1 body) (A1 head) egd l r = cond (body.any fun x => !vb x) (bo false) fin := fun k hk fin hfin =>
    loop_any (xs := body) (L := fun n i => F68.L4 (k + 11) (C (k + 11)) n a i (A1 body) (A1 head) egd l r) (stop := fun x => !vb x) (hit := bo false) (fin := fin)
      (fun n i x hx => by
        have hi := (List.getElem?_eq_some_iff.1 hx).1
        have := len_terms (List.mem_of_getElem? hx)
        rw [F68.L4.succ, A1_len, ite'_t (lt_t hi), ite'_t (inR_t hi), A1_c0 hx, bindI_s, A1_c1 hx, bindL_s, (hVb x (List.mem_of_getElem? hx) (k + 6) (by omega) (by omega)).2, bB, next_i hi (m := body.length) (by omega)]; rfl)
      hfin (k + 11) (by omega)
  have hbv : body.all vb = true → ∀ x ∈ body, (0 ≤ x.1 ∧ x.1 < (a.length : Int)) ∧ (x.2.length : Int) = ar a x.1 ∧ okT x.2 := fun h x hx => hvb x hx (List.all_eq_true.1 h x hx)
  have hhv : head.all vh = true → ∀ x ∈ head, (0 ≤ x.1 ∧ x.1 < (a.length : Int)) ∧ (x.2.length : Int) = ar a x.1 ∧ okT x.2 := fun h x hx => hvh x hx (List.all_eq_true.1 h x hx)
  cases hb12 : decide ((1 : Int) ≤ (body.length : Int) ∧ (body.length : Int) ≤ 2) with
  | false =>
    refine ⟨false, fun h => (by cases h), fun k hk => ?_⟩
    rw [F89.run, F68.run, e89 k hk, bB, c40, bB]
    simp only [A1_len, hb12, Bool.false_and, Bool.not_false]
    exact ⟨rfl, rfl⟩
  | true =>
    have h12 := of_decide_eq_true hb12
    cases hall : body.all vb with
    | false =>
      refine ⟨false, fun h => (by cases h), fun k hk => ?_⟩
      have hany : (body.any fun x => !vb x) = true := by rw [← any_not] at hall; simpa using hall
      rw [F89.run, F68.run, e89 k hk, bB, c40, bB]
      simp only [A1_len, hb12, hall, Bool.and_true, Bool.and_false, Bool.true_and, Bool.false_and, Bool.not_true, Bool.not_false]
      refine ⟨rfl, ?_⟩
      rw [ite'_f rfl]
      rw [L4 k hk _ (fun n => by rw [F68.L4.succ, A1_len, ite'_f (lt_f (by omega))]), hany]; rfl
    | true =>
      have hany : (body.any fun x => !vb x) = false := by rw [← any_not] at hall; simpa using hall
      have hB := hbv hall
      have hBV : Valid a body (fun _ => true) := fun x hx k h1 h2 => by have := hVb x hx k h1 h2; rw [List.all_eq_true.1 hall x hx] at this; exact this
      cases egd with
      | true =>
        refine ⟨decide (head = []) && (decide (l < r) && (@decide (isVar body l) (Classical.propDecidable _) && @decide (isVar body r) (Classical.propDecidable _))), fun h => ?_, fun k hk => ?_⟩
        · simp only [Bool.and_eq_true] at h
          obtain ⟨h1, h2, h3, h4⟩ := h
          have h3 := @of_decide_eq_true _ (Classical.propDecidable _) h3
          have h4 := @of_decide_eq_true _ (Classical.propDecidable _) h4
          exact ⟨by omega, by omega, hB, fun _ => ⟨of_decide_eq_true h1, h3, h4⟩, hBV, (fun h => by cases h), fun h => by cases h⟩
        · obtain ⟨v1, w1, w2, w3⟩ := c127 (k := k + 10) body (by omega) hsb
          obtain ⟨v2, u1, u2, u3⟩ := c107 (k := k + 9) body (by omega) hsb
          have d1 : ∀ z, decide (z ∈ v1) = @decide (isVar body z) (Classical.propDecidable _) := fun z => vB_mem w2 z
          have d2 : ∀ z, decide (z ∈ v2) = @decide (isVar body z) (Classical.propDecidable _) := fun z => vB_mem u2 z
          have hh : decide ((head.length : Int) = 0) = decide (head = []) := by
            rw [Bool.eq_iff_iff, decide_eq_true_eq, decide_eq_true_eq]
            constructor
            · intro h; exact List.eq_nil_of_length_eq_zero (by omega)
            · rintro rfl; rfl
          rw [F89.run, F68.run, e89 k hk, bB, c40, bB]
          simp only [A1_len, hb12, hall, Bool.and_true, Bool.and_false, Bool.true_and, Bool.false_and, Bool.not_true, Bool.not_false]
          constructor
          · rw [ite'_f rfl, ite'_t rfl, w1]
            simp only [bindR_s, resO_s, bindL_s]
            rw [show ((head.length : Int) == 0) = decide (head = []) from hh, c128 (k := k + 9) v1 l (by omega) (by omega), c128 (k := k + 9) v1 r (by omega) (by omega), bB, bB, d1, d1]
            cases decide (head = []) <;> cases decide (l < r) <;> cases @decide (isVar body l) (Classical.propDecidable _) <;> cases @decide (isVar body r) (Classical.propDecidable _) <;> rfl
          · rw [ite'_f rfl, L4 k hk _ (fun n => by rw [F68.L4.succ, A1_len, ite'_f (lt_f (by omega)), ite'_t rfl, u1, A1_len]), hany]
            simp only [bindR_s, resL_d, bindL_s, cond_false]
            rw [show ((head.length : Int) == 0) = decide (head = []) from hh, c108 (k := k + 10) v2 l (by omega) (by omega), c108 (k := k + 10) v2 r (by omega) (by omega), bB, bB, d2, d2]
            cases decide (head = []) <;> cases decide (l < r) <;> cases @decide (isVar body l) (Classical.propDecidable _) <;> cases @decide (isVar body r) (Classical.propDecidable _) <;> rfl
      | false =>
        have L12 : ∀ k, 2000000 ≤ k → F68.L12 (k + 11) (C (k + 11)) (k + 11) a 0 (A1 body) (A1 head) false l r = cond (head.any fun x => !vh x || src a x) (bo false) (bo (decide ((1 : Int) ≤ (head.length : Int) ∧ (head.length : Int) ≤ 2) && (decide (l = 0) && decide (r = 0)))) := fun k hk =>
          loop_any (xs := head) (L := fun n i => F68.L12 (k + 11) (C (k + 11)) n a i (A1 body) (A1 head) false l r) (stop := fun x => !vh x || src a x) (hit := bo false)
            (fun n i x hx => by
              have hi := (List.getElem?_eq_some_iff.1 hx).1
              have hm := List.mem_of_getElem? hx
              have := len_terms hm
              rw [F68.L12.succ, A1_len, ite'_t (lt_t hi), ite'_t (inR_t hi), A1_c0 hx, bindI_s, A1_c1 hx, bindL_s, (hVh x hm (k + 6) (by omega) (by omega)).2, bB, next_i hi (m := head.length) (by omega)]
              cases hvx : vh x with
              | false => rfl
              | true =>
                obtain ⟨g1, g2⟩ := src_cell ha (hvh x hm hvx).1
                rw [ite'_nt, ite'_t (inR_t hi), bindI_s, g1, ite'_t rfl, g2, bindB_s]
                cases src a x <;> rfl)
            (fun n => by
              rw [F68.L12.succ, A1_len, ite'_f (lt_f (by omega)), c40, bB]
              have e1 : (l == 0) = decide (l = 0) := rfl
              have e2 : (r == 0) = decide (r = 0) := rfl
              rw [e1, e2]
              cases decide ((1 : Int) ≤ (head.length : Int) ∧ (head.length : Int) ≤ 2) <;> cases decide (l = 0) <;> rfl) (k + 11) (by omega)
        refine ⟨cond (head.any fun x => !vh x || src a x) false (decide ((1 : Int) ≤ (head.length : Int) ∧ (head.length : Int) ≤ 2) && (decide (l = 0) && decide (r = 0))), fun h => ?_, fun k hk => ?_⟩
        · cases hh : (head.any fun x => !vh x || src a x) with
          | true => rw [hh] at h; cases h
          | false =>
            rw [hh, cond_false] at h
            simp only [Bool.and_eq_true, decide_eq_true_eq] at h
            rw [List.any_eq_false] at hh
            have hvt : ∀ x ∈ head, vh x = true := fun x hx => by
              have := hh x hx
              cases hv : vh x with
              | true => rfl
              | false => rw [hv] at this; simp at this
            exact ⟨by omega, by omega, hB, (fun h => by cases h), hBV, fun _ => ⟨by omega, fun x hx k h1 h2 => by have := hVh x hx k h1 h2; rw [hvt x hx] at this; exact this⟩, fun _ => ⟨by omega, fun x hx => hvh x hx (hvt x hx)⟩⟩
        · rw [F89.run, F68.run, e89 k hk, bB, c40, bB]
          simp only [A1_len, hb12, hall, Bool.and_true, Bool.and_false, Bool.true_and, Bool.false_and, Bool.not_true, Bool.not_false]
          constructor
          · rw [ite'_f rfl, ite'_f rfl, e89h k hk, bB]
            cases hha : head.all vh with
            | false =>
              have hany2 : (head.any fun x => !vh x || src a x) = true := by
                rw [← any_not] at hha
                have h1 : (head.any fun x => !vh x) = true := by simpa using hha
                obtain ⟨x, hx, hx2⟩ := List.any_eq_true.1 h1
                exact List.any_eq_true.2 ⟨x, hx, by rw [hx2]; rfl⟩
              rw [hany2, Bool.and_false]; rfl
            | true =>
              have hh2 := List.all_eq_true.1 hha
              have hany2 : (head.any fun x => !vh x || src a x) = head.any (src a) := by
                rw [Bool.eq_iff_iff, List.any_eq_true, List.any_eq_true]
                constructor
                · rintro ⟨x, hx, h⟩
                  rw [hh2 x hx] at h
                  exact ⟨x, hx, by simpa using h⟩
                · rintro ⟨x, hx, h⟩
                  exact ⟨x, hx, by rw [h]; simp⟩
              have e129 : C (k + 11) 129 [.d (.list 2 (A1 head)), .d (.fn 130 [[.list 3 a]])] = bo (head.any (src a)) := c129 (k := k + 9) head 130 [[.list 3 a]] (src a) (by omega) (by omega) (fun x hx => by
                obtain ⟨g1, g2⟩ := src_cell ha (hvh x hx (hh2 x hx)).1
                rw [List.map_cons, List.map_nil, F130.run, g1, ite'_t rfl, g2, bindB_s]; rfl)
              rw [hany2, Bool.and_true, e129, bB]
              have e1 : (l == 0) = decide (l = 0) := rfl
              have e2 : (r == 0) = decide (r = 0) := rfl
              rw [e1, e2]
              cases decide ((1 : Int) ≤ (head.length : Int) ∧ (head.length : Int) ≤ 2) <;> cases decide (l = 0) <;> cases decide (r = 0) <;> cases head.any (src a) <;> rfl
          · rw [ite'_f rfl, L4 k hk _ (fun n => by rw [F68.L4.succ, A1_len, ite'_f (lt_f (by omega)), ite'_f rfl, L12 k hk]), hany, cond_false]
            cases (head.any fun x => !vh x || src a x) <;> rfl
end Go.Proofs.YtkkaikcjcjkpbaaGreat.Q

/-! VNb -/
namespace Go.Proofs.YtkkaikcjcjkpbaaGreat.Q
open Go Ovi
variable {k : Nat}
/-! ### lists of dependencies -/
structure Dep where
  body : List Atom
  head : List Atom
  egd : Bool
  l : Int
  r : Int
def DD (ds : List Dep) : Ovi.Rows := ds.map fun d => [.list 2 (A1 d.body), .list 2 (A1 d.head), .bool d.egd, .int .i64 d.l, .int .i64 d.r]
theorem DD_len (ds : List Dep) : (DD ds).length = ds.length := by simp [DD]
theorem DD_get {ds : List Dep} {i : Nat} {d : Dep} (h : ds[i]? = some d) : (DD ds)[i]? = some [.list 2 (A1 d.body), .list 2 (A1 d.head), .bool d.egd, .int .i64 d.l, .int .i64 d.r] := by simp [DD, h]
section
variable {ds : List Dep} {i : Nat} {d : Dep}
theorem DD_0 (h : ds[i]? = some d) : cellL 2 (DD ds) (i : Int).toNat 0 = some (A1 d.body) := by rw [Int.toNat_natCast, cellL_at (DD_get h)]; simp [asL_s]
theorem DD_1 (h : ds[i]? = some d) : cellL 2 (DD ds) (i : Int).toNat 1 = some (A1 d.head) := by rw [Int.toNat_natCast, cellL_at (DD_get h)]; simp [asL_s]
theorem DD_2 (h : ds[i]? = some d) : cellB (DD ds) (i : Int).toNat 2 = some d.egd := by rw [Int.toNat_natCast, cellB_at (DD_get h)]; simp [asB_s]
theorem DD_3 (h : ds[i]? = some d) : cellI .i64 (DD ds) (i : Int).toNat 3 = some d.l := by rw [Int.toNat_natCast, cellI_at (DD_get h)]; simp [asI_s]
theorem DD_4 (h : ds[i]? = some d) : cellI .i64 (DD ds) (i : Int).toNat 4 = some d.r := by rw [Int.toNat_natCast, cellI_at (DD_get h)]; simp [asI_s]
end
/-- the arguments of a call on a dependency -/
def da (d : Dep) : AV := .agg [.d (.list 2 (A1 d.body)), .d (.list 2 (A1 d.head)), .d (.bool d.egd), .d (.int .i64 d.l), .d (.int .i64 d.r)]
def Dsz (d : Dep) : Prop := terms d.body + d.body.length ≤ 1048576 ∧ terms d.head + d.head.length ≤ 1048576
/-- both AreValidDependencies answer alike -/
theorem deps {a : Ovi.Rows} (ha : Fit Rl (.list 3 a)) (hal : a.length ≤ 1048576) (ds : List Dep) (hz : ∀ d ∈ ds, Dsz d) (hl : ds.length ≤ 1048576) :
    ∃ b, (b = true → ds.length ≤ 5 ∧ ∀ d ∈ ds, DepOk a d.body d.head d.egd d.l d.r ∧ ∀ k, 2000000 ≤ k → C (k + 12) 89 [.d (.list 3 a), da d] = bo true ∧ C (k + 12) 68 [.d (.list 3 a), da d] = bo true) ∧
      ∀ k, 2000000 ≤ k → C (k + 16) 51 [.d (.list 3 a), .d (.list 5 (DD ds))] = bo b ∧ C (k + 16) 38 [.d (.list 3 a), .d (.list 5 (DD ds))] = bo b := by
  have hmax : (1048576 : Nat) ≤ maxLen := by decide
  obtain ⟨rb, hrb⟩ := rels ha
  have : ∀ d : Dep, ∃ b, d ∈ ds → (b = true → DepOk a d.body d.head d.egd d.l d.r) ∧ ∀ k, 2000000 ≤ k → C (k + 12) 89 [.d (.list 3 a), da d] = bo b ∧ C (k + 12) 68 [.d (.list 3 a), da d] = bo b := by
    intro d
    by_cases h : d ∈ ds
    · obtain ⟨b, hb⟩ := dep ha hal d.body d.head d.egd d.l d.r (hz d h).1 (hz d h).2
      exact ⟨b, fun _ => hb⟩
    · exact ⟨false, fun h' => absurd h' h⟩
  obtain ⟨vd, hvd⟩ := Classical.axiomOfChoice this
  refine ⟨rb && (decide ((ds.length : Int) ≤ 5) && ds.all vd), fun h => ?_, fun k hk => ?_⟩
  · simp only [Bool.and_eq_true, decide_eq_true_eq, List.all_eq_true] at h
    refine ⟨by omega, fun d hd => ?_⟩
    obtain ⟨h1, h2⟩ := hvd d hd
    have e := h.2.2 d hd
    refine ⟨h1 e, fun k hk => ?_⟩
    have := h2 k hk
    rw [e] at this
    exact this
  · have e87 : C (k + 15) 87 [.d (.list 5 (DD ds)), .d (.fn 88 [[.list 3 a]])] = bo (ds.any fun d => !vd d) := by
      rw [F87.run, F125.run, DD_len]
      have := loop_find (xs := ds) (L := fun n i => F125.L2 (k + 13) (C (k + 13)) n (DD ds) 88 [[.list 3 a]] (ds.length : Int) i) (stop := fun _ d => !vd d) (hit := fun i => some [(false, [.d (.int .i64 (i : Int))])]) (fin := some [(false, [.d (.int .i64 (-1))])])
        (fun n i d hx => by
          have hi := (List.getElem?_eq_some_iff.1 hx).1
          have hm := List.mem_of_getElem? hx
          have e88 : C (k + 13) 88 [da d, .cap [.list 3 a] 0] = bo (!vd d) := by
            show C (k + 12 + 1) 88 [.agg [.d (.list 2 (A1 d.body)), .d (.list 2 (A1 d.head)), .d (.bool d.egd), .d (.int .i64 d.l), .d (.int .i64 d.r)], .cap [.list 3 a] 0] = _
            rw [F88.run]
            have := ((hvd d hm).2 k hk).1
            unfold da at this
            rw [this, bB]; rfl
          rw [F125.L2.succ, DD_len, ite'_t (lt_t hi), ite'_t (inR_t hi), DD_0 hx, bindL_s, DD_1 hx, bindL_s, DD_2 hx, bindB_s, DD_3 hx, bindI_s, DD_4 hx, bindI_s, next_i hi (m := ds.length) (by omega)]
          unfold da at e88
          simp only [List.map_cons, List.map_nil, List.append_eq, List.nil_append] at e88 ⊢
          rw [e88, bB]; rfl)
        (fun n => by rw [F125.L2.succ, ite'_f (lt_f (by omega))]) (k + 13) (by omega)
      rcases this with ⟨i, x, hx, hst, e⟩ | ⟨hst, e⟩
      · rw [show F125.L2 (k + 13) (C (k + 13)) (k + 13) (DD ds) 88 [[.list 3 a]] (ds.length : Int) 0 = _ from e]
        simp only [bindR_s, resI_s, bindI_s]
        exact bo_eq (by rw [List.any_eq_true.2 ⟨x, List.mem_of_getElem? hx, hst⟩]; simp)
      · rw [show F125.L2 (k + 13) (C (k + 13)) (k + 13) (DD ds) 88 [[.list 3 a]] (ds.length : Int) 0 = _ from e]
        simp only [bindR_s, resI_s, bindI_s]
        refine bo_eq ?_
        rw [List.any_eq_false.2 (fun x hx => ?_)]
        · rfl
        · obtain ⟨i, hi⟩ := List.mem_iff_getElem?.1 hx
          simpa using hst i x hi
    constructor
    · rw [F51.run, (hrb (k + 12) (by omega)).1, bB, DD_len, e87, bB]
      cases rb with
      | false => rfl
      | true =>
        rw [ite'_t rfl]
        cases decide ((ds.length : Int) ≤ 5) with
        | false => rfl
        | true =>
          rw [ite'_t rfl]
          exact bo_eq (any_not ds vd)
    · rw [F38.run]
      have := loop_any (xs := ds) (L := fun n i => F38.L2 (k + 15) (C (k + 15)) n a (DD ds) i) (stop := fun d => !vd d) (hit := bo false) (fin := bo (rb && decide ((ds.length : Int) ≤ 5)))
        (fun n i d hx => by
          have hi := (List.getElem?_eq_some_iff.1 hx).1
          have hm := List.mem_of_getElem? hx
          have e68 := ((hvd d hm).2 (k + 3) (by omega)).2
          unfold da at e68
          rw [F38.L2.succ, DD_len, ite'_t (lt_t hi), ite'_t (inR_t hi), DD_0 hx, bindL_s, DD_1 hx, bindL_s, DD_2 hx, bindB_s, DD_3 hx, bindI_s, DD_4 hx, bindI_s, next_i hi (m := ds.length) (by omega)]
          rw [show (C (k + 15) 68 [.d (.list 3 a), .agg [.d (.list 2 (A1 d.body)), .d (.list 2 (A1 d.head)), .d (.bool d.egd), .d (.int .i64 d.l), .d (.int .i64 d.r)]]) = bo (vd d) from e68, bB]; rfl)
        (fun n => by
          rw [F38.L2.succ, DD_len, ite'_f (lt_f (by omega)), (hrb (k + 12) (by omega)).2, bB]
          cases rb <;> rfl) (k + 15) (by omega)
      rw [show F38.L2 (k + 15) (C (k + 15)) (k + 15) a (DD ds) 0 = _ from this, ← any_not ds vd]
      cases (ds.any fun d => !vd d) <;> cases rb <;> cases decide ((ds.length : Int) ≤ 5) <;> rfl
end Go.Proofs.YtkkaikcjcjkpbaaGreat.Q

/-! VNc -/
namespace Go.Proofs.YtkkaikcjcjkpbaaGreat.Q
open Go Ovi
variable {k : Nat}
/-! ### an atom under whatever binding of five values -/
def val (b : List Int) (t : Int) : Int := if t ≥ 0 then b.getD t.toNat 0 else neg t
def insG (b : List Int) : List Int → Option (List Int)
  | [] => some []
  | t :: ts => if okV (val b t) then (insG b ts).map (val b t :: ·) else none
def okO (r : Int) (acc : List Int) : Option (List Int) → Option Res
  | some vs => okI r (acc ++ vs)
  | none => some [(true, [.d (.int .i64 0), .nil]), (false, [.d (.bool false)])]
theorem okO_step {r : Int} {acc : List Int} {v : Int} {b ts : List Int} {t : Int} (h : okV (val b t) = true) (hv : v = val b t) : okO r (acc ++ [v]) (insG b ts) = okO r acc (insG b (t :: ts)) := by
  subst hv
  rw [insG, if_pos h]
  cases insG b ts with
  | none => rfl
  | some vs => simp [okO]
theorem okO_stop {r : Int} {acc : List Int} {b ts : List Int} {t : Int} (h : okV (val b t) = false) : okO r acc (insG b (t :: ts)) = some [(true, [.d (.int .i64 0), .nil]), (false, [.d (.bool false)])] := by
  rw [insG, if_neg (by rw [h]; decide)]
  rfl
theorem l98g (ts b : List Int) (r : Int) (hT : okT ts) (hz : ts.length ≤ 1048576) (hb : b.length = 5) : ∀ (m i n : Nat) (acc : List Int), i + m = ts.length → m < n → acc.length ≤ i → F98.L3 (k + 2) (C (k + 2)) n (I1 b) (I1 ts) (ts.length : Int) (i : Int) 0 [] r (I1 acc) = okO r acc (insG b (ts.drop i)) := by
  have hmax : (1048576 : Nat) ≤ maxLen := by decide
  intro m
  induction m with
  | zero =>
    intro i n acc hm hn ha
    obtain ⟨n, rfl⟩ : ∃ j, n = j + 1 := ⟨n - 1, by omega⟩
    obtain rfl : i = ts.length := by omega
    rw [F98.L3.succ, ite'_f (lt_f (by omega)), List.drop_length, insG, okO, List.append_nil]
    rfl
  | succ m ih =>
    intro i n acc hm hn ha
    obtain ⟨n, rfl⟩ : ∃ j, n = j + 1 := ⟨n - 1, by omega⟩
    have hi : i < ts.length := by omega
    have hg := List.getElem?_eq_getElem hi
    have ht := hT _ (List.getElem_mem hi)
    have hnx := fun v => ih (i + 1) n (acc ++ [v]) (by omega) (by omega) (by rw [List.length_append, List.length_singleton]; omega)
    rw [F98.L3.succ, ite'_t (lt_t hi), I1_len, ite'_t (inR_t hi), I1_c hg, bindI_s, List.drop_eq_getElem_cons hi, next_i hi (m := ts.length) (by omega)]
    by_cases h0 : ts[i] ≥ 0
    · obtain ⟨q, hq⟩ : ∃ q : Nat, ts[i] = (q : Int) := ⟨ts[i].toNat, by omega⟩
      have hq5 : q < b.length := by omega
      have hbq : b[q]? = some (b.getD q 0) := by rw [List.getD_eq_getElem?_getD, List.getElem?_eq_getElem hq5]; rfl
      have hvl : val b ts[i] = b.getD q 0 := by unfold val; rw [if_pos h0, hq, Int.toNat_natCast]
      rw [ite'_t (by simpa using h0), hq, I1_len, ite'_f (decide_eq_false (by omega)), ite'_t (inR_t hq5), I1_c hbq, bindI_s, c120 (k := k) _, bB, ← hvl, ← hq]
      cases hok : okV (val b ts[i]) with
      | false => rw [okO_stop hok]; rfl
      | true =>
        rw [ite'_nt, I1_len, ite'_t (fits_t (by simp only [List.length_cons, List.length_nil]; omega)), I1_snoc, hnx, okO_step hok rfl]
    · have hvl : val b ts[i] = neg ts[i] := by unfold val; rw [if_neg h0]
      rw [ite'_f (by simpa using h0), neg_w ht, c120 (k := k), bB, neg_ok ht, ite'_nt, I1_len, ite'_t (fits_t (by simp only [List.length_cons, List.length_nil]; omega)), I1_snoc, hnx, okO_step (by rw [hvl]; exact neg_ok ht) hvl.symm]
/-- impl.Instantiate -/
theorem c98g (x : Atom) (b : List Int) (hT : okT x.2) (hz : x.2.length ≤ 1048576) (hb : b.length = 5) (hk : 2000000 ≤ k) : C (k + 3) 98 [.agg [.d (.int .i64 x.1), .d (.list 1 (I1 x.2))], .d (.list 1 (I1 b))] = okO x.1 [] (insG b x.2) := by
  rw [F98.run, I1_len]
  exact l98g x.2 b x.1 hT hz hb x.2.length 0 (k + 2) [] (by omega) (by omega) (Nat.le_refl _)
theorem l77g (ts b : List Int) (r : Int) (hT : okT ts) (hz : ts.length ≤ 1048576) (hb : b.length = 5) (hI : ∀ v ∈ b, inI v) : ∀ (m i n : Nat) (acc : List Int), i + m = ts.length → m < n → acc.length ≤ i → F77.L3 (k + 3) (C (k + 3)) n (I1 b) (i : Int) r (I1 ts) 0 [] r (I1 acc) = okO r acc (insG b (ts.drop i)) := by
  have hmax : (1048576 : Nat) ≤ maxLen := by decide
  intro m
  induction m with
  | zero =>
    intro i n acc hm hn ha
    obtain ⟨n, rfl⟩ : ∃ j, n = j + 1 := ⟨n - 1, by omega⟩
    obtain rfl : i = ts.length := by omega
    rw [F77.L3.succ, I1_len, ite'_f (lt_f (by omega)), List.drop_length, insG, okO, List.append_nil]
    rfl
  | succ m ih =>
    intro i n acc hm hn ha
    obtain ⟨n, rfl⟩ : ∃ j, n = j + 1 := ⟨n - 1, by omega⟩
    have hi : i < ts.length := by omega
    have hg := List.getElem?_eq_getElem hi
    have ht := hT _ (List.getElem_mem hi)
    have hnx := fun v => ih (i + 1) n (acc ++ [v]) (by omega) (by omega) (by rw [List.length_append, List.length_singleton]; omega)
    rw [F77.L3.succ, I1_len, ite'_t (lt_t hi), ite'_t (inR_t hi), I1_c hg, bindI_s, ite'_t (inR_t hi), bindI_s, List.drop_eq_getElem_cons hi, next_i hi (m := ts.length) (by omega)]
    by_cases h0 : ts[i] ≥ 0
    · obtain ⟨q, hq⟩ : ∃ q : Nat, ts[i] = (q : Int) := ⟨ts[i].toNat, by omega⟩
      have hq5 : q < b.length := by omega
      have hbq : b[q]? = some (b.getD q 0) := by rw [List.getD_eq_getElem?_getD, List.getElem?_eq_getElem hq5]; rfl
      have hvl : val b ts[i] = b.getD q 0 := by unfold val; rw [if_pos h0, hq, Int.toNat_natCast]
      have hin : inI (b.getD q 0) := hI _ (List.mem_of_getElem? hbq)
      rw [ite'_t (by simpa using h0), ite'_t (inR_t hi), bindI_s, hq, I1_len, ite'_f (decide_eq_false (by omega)), ite'_t (inR_t hi), bindI_s, ite'_t (inR_t hq5), I1_c hbq, bindI_s, c103 (k := k) hin, bB, ← hvl, ← hq]
      cases hok : okV (val b ts[i]) with
      | false => rw [okO_stop hok]; rfl
      | true =>
        rw [ite'_nt, ite'_t (inR_t hi), bindI_s, ite'_f (decide_eq_false (by omega)), I1_len, ite'_t (fits_t (by simp only [List.length_cons, List.length_nil]; omega)), I1_snoc, hnx, okO_step hok rfl]
    · have hvl : val b ts[i] = neg ts[i] := by unfold val; rw [if_neg h0]
      rw [ite'_f (by simpa using h0), neg_w ht, c103 (k := k) (neg_in ht), bB, neg_ok ht, ite'_nt, ite'_t (inR_t hi), bindI_s, ite'_t (decide_eq_true (by omega)), ite'_f (decide_eq_false (by unfold neg; omega)), I1_len, ite'_t (fits_t (by simp only [List.length_cons, List.length_nil]; omega)), I1_snoc, hnx, okO_step (by rw [hvl]; exact neg_ok ht) hvl.symm]
/-- spec.Instantiate -/
theorem c77g (x : Atom) (b : List Int) (hT : okT x.2) (hz : x.2.length ≤ 1048576) (hb : b.length = 5) (hI : ∀ v ∈ b, inI v) (hk : 2000000 ≤ k) : C (k + 4) 77 [.agg [.d (.int .i64 x.1), .d (.list 1 (I1 x.2))], .d (.list 1 (I1 b))] = okO x.1 [] (insG b x.2) := by
  rw [F77.run]
  exact l77g x.2 b x.1 hT hz hb hI x.2.length 0 (k + 3) [] (by omega) (by omega) (Nat.le_refl _)
theorem insG_len {b : List Int} : ∀ {ts vs : List Int}, insG b ts = some vs → vs.length = ts.length
  | [], vs, h => by cases h; rfl
  | t :: ts, vs, h => by
    rw [insG] at h
    by_cases hok : okV (val b t) = true
    · rw [if_pos hok] at h
      obtain ⟨ws, hw, rfl⟩ := Option.map_eq_some_iff.1 h
      rw [List.length_cons, List.length_cons, insG_len hw]
    · rw [if_neg hok] at h; cases h
/-- impl.hasFact -/
theorem c153 (xs : List Atom) (f : Atom) (hx : ∀ x ∈ xs, x.2.length ≤ 1048576) (hl : xs.length ≤ 1048576) (hk : 2000000 ≤ k) : C (k + 12) 153 [.d (.list 2 (A1 xs)), .agg [.d (.int .i64 f.1), .d (.list 1 (I1 f.2))]] = bo (decide (f ∈ xs)) := by
  have hmax : (1048576 : Nat) ≤ maxLen := by decide
  have e164 : C (k + 11) 164 [.d (.list 2 (A1 xs)), .d (.fn 165 [[.int .i64 f.1, .list 1 (I1 f.2)]])] = bo (xs.any fun x => decide (x = f)) := by
    rw [F164.run, F191.run, A1_len]
    have := loop_find (xs := xs) (L := fun n i => F191.L2 (k + 9) (C (k + 9)) n (A1 xs) 165 [[.int .i64 f.1, .list 1 (I1 f.2)]] (xs.length : Int) i) (stop := fun _ x => decide (x = f)) (hit := fun i => some [(false, [.d (.int .i64 (i : Int))])]) (fin := some [(false, [.d (.int .i64 (-1))])])
      (fun n i x hxi => by
        have hi := (List.getElem?_eq_some_iff.1 hxi).1
        have hxl := hx x (List.mem_of_getElem? hxi)
        have e165 : C (k + 9) 165 [.agg [.d (.int .i64 x.1), .d (.list 1 (I1 x.2))], .cap [.int .i64 f.1, .list 1 (I1 f.2)] 0] = bo (decide (x = f)) := by
          rw [F165.run, F57.run, c85 (k := k + 2) x f (by omega) (by omega), iB']
          have : (cmpF x f == 0) = decide (x = f) := by
            rw [Bool.eq_iff_iff, beq_iff_eq, decide_eq_true_eq]
            exact cmpF_zero x f
          rw [this]; rfl
        rw [F191.L2.succ, A1_len, ite'_t (lt_t hi), ite'_t (inR_t hi), A1_c0 hxi, bindI_s, A1_c1 hxi, bindL_s, next_i hi (m := xs.length) (by omega)]
        simp only [List.map_cons, List.map_nil, List.append_eq, List.nil_append] at e165 ⊢
        rw [e165, bB]; rfl)
      (fun n => by rw [F191.L2.succ, ite'_f (lt_f (by omega))]) (k + 9) (by omega)
    rcases this with ⟨i, x, hxi, hst, e⟩ | ⟨hst, e⟩
    · rw [show F191.L2 (k + 9) (C (k + 9)) (k + 9) (A1 xs) 165 [[.int .i64 f.1, .list 1 (I1 f.2)]] (xs.length : Int) 0 = _ from e]
      simp only [bindR_s, resI_s, bindI_s]
      exact bo_eq (by rw [List.any_eq_true.2 ⟨x, List.mem_of_getElem? hxi, hst⟩]; simp)
    · rw [show F191.L2 (k + 9) (C (k + 9)) (k + 9) (A1 xs) 165 [[.int .i64 f.1, .list 1 (I1 f.2)]] (xs.length : Int) 0 = _ from e]
      simp only [bindR_s, resI_s, bindI_s]
      refine bo_eq ?_
      rw [List.any_eq_false.2 (fun x hxm => ?_)]
      · rfl
      · obtain ⟨i, hi⟩ := List.mem_iff_getElem?.1 hxm
        simpa using hst i x hi
  rw [F153.run, e164, bB]
  refine bo_eq ?_
  rw [Bool.eq_iff_iff]
  simp
end Go.Proofs.YtkkaikcjcjkpbaaGreat.Q

/-! VNd -/
namespace Go.Proofs.YtkkaikcjcjkpbaaGreat.Q
open Go Ovi
variable {k : Nat}
/-! ### triggers -/
def ia (a : Ovi.Rows) (fs : List Atom) : AV := .agg [.d (.list 3 a), .d (.list 2 (A1 fs))]
/-- the instance's answer, both sides -/
def Inst (a : Ovi.Rows) (fs : List Atom) (ib : Bool) : Prop := ∀ k, 2000000 ≤ k → C (k + 8) 50 [ia a fs] = bo ib ∧ C (k + 8) 37 [ia a fs] = bo ib
def DepY (a : Ovi.Rows) (d : Dep) : Prop := DepOk a d.body d.head d.egd d.l d.r ∧ ∀ k, 2000000 ≤ k → C (k + 12) 89 [.d (.list 3 a), da d] = bo true ∧ C (k + 12) 68 [.d (.list 3 a), da d] = bo true
def missing (fs : List Atom) (b : List Int) (x : Atom) : Bool := match insG b x.2 with
  | none => true
  | some vs => !decide ((x.1, vs) ∈ fs)
theorem missing_none {fs : List Atom} {b : List Int} {x : Atom} (h : insG b x.2 = none) : missing fs b x = true := by unfold missing; rw [h]
theorem missing_some {fs : List Atom} {b : List Int} {x : Atom} {vs : List Int} (h : insG b x.2 = some vs) : missing fs b x = !decide ((x.1, vs) ∈ fs) := by unfold missing; rw [h]
noncomputable def badAt (body : List Atom) (i : Nat) (v : Int) : Bool := (decide (v = 10)) == @decide (isVar body (i : Int)) (Classical.propDecidable _)
/-- both IsTrigger answer alike -/
theorem trig {a : Ovi.Rows} {fs : List Atom} {ib : Bool} {d : Dep} (hi : Inst a fs ib) (hd : DepY a d) (hz : Dsz d) (b : List Int) (hI : ∀ v ∈ b, inI v) (hb : b.length ≤ 1048576) (hf : ∀ x ∈ fs, x.2.length ≤ 1048576) (hfl : fs.length ≤ 1048576) :
    ∃ tb, (tb = true → ib = true ∧ b.length = 5 ∧ (∀ i v, b[i]? = some v → badAt d.body i v = false) ∧ ∀ x ∈ d.body, missing fs b x = false) ∧
      ∀ k, 2000000 ≤ k → C (k + 16) 132 [ia a fs, da d, .d (.list 1 (I1 b))] = bo tb ∧ C (k + 16) 70 [ia a fs, da d, .d (.list 1 (I1 b))] = bo tb := by
  have hmax : (1048576 : Nat) ≤ maxLen := by decide
  obtain ⟨hD, hdk⟩ := hd
  have hbody := hD.bv
  unfold Inst ia at *
  unfold da at *
  cases ib with
  | false =>
    refine ⟨false, fun h => (by cases h), fun k hk => ?_⟩
    have h := hi (k + 7) (by omega)
    rw [F132.run, F70.run, h.1, h.2, bB, bB, ite'_nf, ite'_nf]
    exact ⟨rfl, rfl⟩
  | true =>
    by_cases h5 : b.length = 5
    · have e4 : ∀ k, 2000000 ≤ k → F132.L11 (k + 15) (C (k + 15)) (k + 15) (I1 b) (A1 d.body) (d.body.length : Int) 0 a (A1 fs) = cond (d.body.any (missing fs b)) (bo false) (bo true) := fun k hk =>
        loop_any (xs := d.body) (L := fun n i => F132.L11 (k + 15) (C (k + 15)) n (I1 b) (A1 d.body) (d.body.length : Int) i a (A1 fs)) (stop := missing fs b) (hit := bo false) (fin := bo true)
          (fun n i x hx => by
            have hi := (List.getElem?_eq_some_iff.1 hx).1
            have hm := List.mem_of_getElem? hx
            have hl := len_terms hm
            have hz1 := hz.1
            rw [F132.L11.succ, ite'_t (lt_t hi), A1_len, ite'_t (inR_t hi), A1_c0 hx, bindI_s, A1_c1 hx, bindL_s, c98g (k := k + 12) x b (hbody x hm).2.2 (by omega) h5 (by omega), next_i hi (m := d.body.length) (by omega)]
            cases hins : insG b x.2 with
            | none => rw [missing_none hins]; rfl
            | some vs =>
              rw [missing_some hins, okO, List.nil_append, okI_s, ite'_nt, c153 (k := k + 3) fs (x.1, vs) hf hfl (by omega), bB]
              cases decide ((x.1, vs) ∈ fs) <;> rfl)
          (fun n => by rw [F132.L11.succ, ite'_f (lt_f (by omega))]; rfl) (k + 15) (by have := hD.b2; omega)
      have e10 : ∀ k, 2000000 ≤ k → F70.L10 (k + 15) (C (k + 15)) (k + 15) (I1 b) 0 a (A1 fs) (A1 d.body) (A1 d.head) d.egd d.l d.r = cond (d.body.any (missing fs b)) (bo false) (bo true) := fun k hk =>
        loop_any (xs := d.body) (L := fun n i => F70.L10 (k + 15) (C (k + 15)) n (I1 b) i a (A1 fs) (A1 d.body) (A1 d.head) d.egd d.l d.r) (stop := missing fs b) (hit := bo false) (fin := bo true)
          (fun n i x hx => by
            have hi := (List.getElem?_eq_some_iff.1 hx).1
            have hm := List.mem_of_getElem? hx
            have hl := len_terms hm
            have hz1 := hz.1
            rw [F70.L10.succ, A1_len, ite'_t (lt_t hi), ite'_t (inR_t hi), A1_c0 hx, bindI_s, A1_c1 hx, bindL_s, c77g (k := k + 11) x b (hbody x hm).2.2 (by omega) h5 hI (by omega), next_i hi (m := d.body.length) (by omega)]
            cases hins : insG b x.2 with
            | none => rw [missing_none hins]; rfl
            | some vs =>
              rw [missing_some hins]
              obtain ⟨n1, g1, g2⟩ := c110 (k := k + 11) (a := a) fs (x.1, vs) hf hfl (by omega)
              rw [okO, List.nil_append, okI_s, ite'_nt, g1, iB']
              by_cases hmem : (x.1, vs) ∈ fs
              · have := g2.2 hmem
                rw [ite'_f (decide_eq_false (by omega)), decide_eq_true hmem]; rfl
              · have : ¬ n1 ≥ 0 := fun h => hmem (g2.1 h)
                rw [ite'_t (decide_eq_true (by omega)), decide_eq_false hmem]; rfl)
          (fun n => by rw [F70.L10.succ, A1_len, ite'_f (lt_f (by omega))]; rfl) (k + 15) (by have := hD.b2; omega)
      have key : ∃ st : Bool, (st = false → ∀ i v, b[i]? = some v → badAt d.body i v = false) ∧ ∀ k, 2000000 ≤ k → ∀ v1 v2, (∀ z, z ∈ v1 ↔ isVar d.body z) → (∀ z, z ∈ v2 ↔ isVar d.body z) → v1.length ≤ 1048576 → v2.length ≤ 1048576 →
          F132.L5 (k + 15) (C (k + 15)) (k + 15) (I1 b) (I1 b) (b.length : Int) 0 a (A1 fs) (A1 d.body) (A1 d.head) d.egd d.l d.r (I1 v1) = cond st (bo false) (cond (d.body.any (missing fs b)) (bo false) (bo true)) ∧
          F70.L5 (k + 15) (C (k + 15)) (k + 15) (I1 b) (I1 v2) 0 a (A1 fs) (A1 d.body) (A1 d.head) d.egd d.l d.r = cond st (bo false) (cond (d.body.any (missing fs b)) (bo false) (bo true)) := by
        have s1 : ∀ k, 2000000 ≤ k → ∀ v1, (∀ z, z ∈ v1 ↔ isVar d.body z) → v1.length ≤ 1048576 → ∀ (n i : Nat) v, b[i]? = some v → F132.L5 (k + 15) (C (k + 15)) (n + 1) (I1 b) (I1 b) (b.length : Int) (i : Int) a (A1 fs) (A1 d.body) (A1 d.head) d.egd d.l d.r (I1 v1) = cond (badAt d.body i v) (bo false) (F132.L5 (k + 15) (C (k + 15)) n (I1 b) (I1 b) (b.length : Int) ((i + 1 : Nat) : Int) a (A1 fs) (A1 d.body) (A1 d.head) d.egd d.l d.r (I1 v1)) := by
          intro k hk v1 w1 w2 n i v hv
          have hi := (List.getElem?_eq_some_iff.1 hv).1
          rw [F132.L5.succ, ite'_t (lt_t hi), I1_len, ite'_t (inR_t hi), I1_c hv, bindI_s, c128 (k := k + 13) v1 (i : Int) (by omega) (by omega), bB, vB_mem w1, next_i hi (m := b.length) (by omega)]
          have e : (!((v != (10 : Int)) == vB d.body (i : Int))) = badAt d.body i v := by
            unfold badAt vB
            have h10 : (v != (10 : Int)) = !decide (v = 10) := rfl
            rw [h10]
            cases decide (v = 10) <;> cases @decide (isVar d.body (i : Int)) (Classical.propDecidable _) <;> rfl
          rw [e]; rfl
        have s2 : ∀ k, 2000000 ≤ k → ∀ v1, (∀ z, z ∈ v1 ↔ isVar d.body z) → v1.length ≤ 1048576 → ∀ (n i : Nat) v, b[i]? = some v → F70.L5 (k + 15) (C (k + 15)) (n + 1) (I1 b) (I1 v1) (i : Int) a (A1 fs) (A1 d.body) (A1 d.head) d.egd d.l d.r = cond (badAt d.body i v) (bo false) (F70.L5 (k + 15) (C (k + 15)) n (I1 b) (I1 v1) ((i + 1 : Nat) : Int) a (A1 fs) (A1 d.body) (A1 d.head) d.egd d.l d.r) := by
          intro k hk v1 w1 w2 n i v hv
          have hi := (List.getElem?_eq_some_iff.1 hv).1
          rw [F70.L5.succ, I1_len, ite'_t (lt_t hi), c108 (k := k + 14) v1 (i : Int) (by omega) (by omega), bB, vB_mem w1, ite'_t (inR_t hi), I1_c hv, bindI_s, F109.run, next_i hi (m := b.length) (by omega)]
          simp only [bindR_s, resI_s, bindI_s]
          have e : (vB d.body (i : Int) == (v == (10 : Int))) = badAt d.body i v := by
            unfold badAt vB
            have : (v == (10 : Int)) = decide (v = 10) := rfl
            rw [this]
            cases decide (v = 10) <;> cases @decide (isVar d.body (i : Int)) (Classical.propDecidable _) <;> rfl
          rw [e]; rfl
        by_cases hall : ∀ (i : Nat) v, b[i]? = some v → badAt d.body i v = false
        · refine ⟨false, fun _ => hall, fun k hk v1 v2 w1 w2 u1 u2 => ⟨?_, ?_⟩⟩
          · rcases loop_find (L := fun n i => F132.L5 (k + 15) (C (k + 15)) n (I1 b) (I1 b) (b.length : Int) i a (A1 fs) (A1 d.body) (A1 d.head) d.egd d.l d.r (I1 v1)) (stop := badAt d.body) (hit := fun _ => bo false) (s1 k hk v1 w1 u1) (fun n => by rw [F132.L5.succ, ite'_f (lt_f (by omega)), A1_len, e4 k hk]) (k + 15) (by omega) with ⟨i, x, hx, hst, _⟩ | ⟨_, h⟩
            · rw [hall i x hx] at hst; cases hst
            · exact h
          · rcases loop_find (L := fun n i => F70.L5 (k + 15) (C (k + 15)) n (I1 b) (I1 v2) i a (A1 fs) (A1 d.body) (A1 d.head) d.egd d.l d.r) (stop := badAt d.body) (hit := fun _ => bo false) (s2 k hk v2 w2 u2) (fun n => by rw [F70.L5.succ, I1_len, ite'_f (lt_f (by omega)), e10 k hk]) (k + 15) (by omega) with ⟨i, x, hx, hst, _⟩ | ⟨_, h⟩
            · rw [hall i x hx] at hst; cases hst
            · exact h
        · refine ⟨true, fun h => (by cases h), fun k hk v1 v2 w1 w2 u1 u2 => ⟨?_, ?_⟩⟩
          · rcases loop_find (L := fun n i => F132.L5 (k + 15) (C (k + 15)) n (I1 b) (I1 b) (b.length : Int) i a (A1 fs) (A1 d.body) (A1 d.head) d.egd d.l d.r (I1 v1)) (stop := badAt d.body) (hit := fun _ => bo false) (s1 k hk v1 w1 u1) (fun n => by rw [F132.L5.succ, ite'_f (lt_f (by omega)), A1_len, e4 k hk]) (k + 15) (by omega) with ⟨i, x, hx, hst, h⟩ | ⟨h, _⟩
            · exact h
            · exact absurd h hall
          · rcases loop_find (L := fun n i => F70.L5 (k + 15) (C (k + 15)) n (I1 b) (I1 v2) i a (A1 fs) (A1 d.body) (A1 d.head) d.egd d.l d.r) (stop := badAt d.body) (hit := fun _ => bo false) (s2 k hk v2 w2 u2) (fun n => by rw [F70.L5.succ, I1_len, ite'_f (lt_f (by omega)), e10 k hk]) (k + 15) (by omega) with ⟨i, x, hx, hst, h⟩ | ⟨h, _⟩
            · exact h
            · exact absurd h hall
      obtain ⟨st, hst, hkey⟩ := key
      refine ⟨cond st false (!(d.body.any (missing fs b))), fun h => ?_, fun k hk => ?_⟩
      · cases st with
        | true => cases h
        | false =>
          simp only [cond_false, Bool.not_eq_true'] at h
          rw [List.any_eq_false] at h
          exact ⟨rfl, h5, hst rfl, fun x hx => by simpa using h x hx⟩
      · obtain ⟨v1, w1, w2, w3⟩ := c127 (k := k + 14) d.body (by have := hz.1; omega) hz.1
        obtain ⟨v2, u1, u2, u3⟩ := c107 (k := k + 13) d.body (by have := hz.1; omega) hz.1
        have hz1 := hz.1
        obtain ⟨g1, g2⟩ := hkey k hk v1 v2 w2 u2 (by omega) (by omega)
        have h := hi (k + 7) (by omega)
        have h' := hdk (k + 3) (by omega)
        rw [F132.run, F70.run, h.1, h.2, bB, bB, ite'_nt, ite'_nt, h'.1, h'.2, bB, bB, ite'_nt, ite'_nt, I1_len, ite'_f (by simp [h5]), ite'_f (by simp [h5]), w1, u1]
        simp only [bindR_s, resO_s, resL_d, bindL_s]
        rw [g1, g2]
        cases st <;> cases d.body.any (missing fs b) <;> exact ⟨rfl, rfl⟩
    · refine ⟨false, fun h => (by cases h), fun k hk => ?_⟩
      have h := hi (k + 7) (by omega)
      have h' := hdk (k + 3) (by omega)
      rw [F132.run, F70.run, h.1, h.2, bB, bB, ite'_nt, ite'_nt, h'.1, h'.2, bB, bB, ite'_nt, ite'_nt, I1_len, ite'_t (by simp; omega), ite'_t (by simp; omega)]
      exact ⟨rfl, rfl⟩
end Go.Proofs.YtkkaikcjcjkpbaaGreat.Q

/-! VNe -/
namespace Go.Proofs.YtkkaikcjcjkpbaaGreat.Q
open Go Ovi
variable {k : Nat}
/-! ### active triggers -/
/-- an instance that both sides find valid, or not -/
structure InstY (a : Ovi.Rows) (fs : List Atom) (ib : Bool) : Prop where
  hal : a.length ≤ 1048576
  ok : Inst a fs ib
  f30 : ib = true → fs.length ≤ 30 ∧ ∀ x ∈ fs, (0 ≤ x.1 ∧ x.1 < (a.length : Int)) ∧ (x.2.length : Int) = ar a x.1
  fx : ∀ x ∈ fs, x.2.length ≤ 1048576
  fl : fs.length ≤ 1048576
theorem InstY.qok {a : Ovi.Rows} {fs xs : List Atom} {ib : Bool} (h : InstY a fs ib) (hs : terms xs + xs.length ≤ 1048576) (h1 : 1 ≤ xs.length) (h3 : xs.length ≤ 3) (hv : Valid a xs (fun _ => true)) (hx : ∀ x ∈ xs, (0 ≤ x.1 ∧ x.1 < (a.length : Int)) ∧ (x.2.length : Int) = ar a x.1 ∧ okT x.2) : Qok a fs xs (fun _ => true) ib where
  ha := h.hal
  hs := hs
  hv := hv
  h1 := h1
  h3 := h3
  all := fun _ _ => rfl
  inst := h.ok
  mok := fun hb => by
    obtain ⟨g1, g2⟩ := h.f30 hb
    refine ⟨g1, h3, fun x hxm => ⟨(hx x hxm).2.2, by have := len_terms hxm; omega⟩, fun x hxm f hf hxf => ?_⟩
    have p1 := (hx x hxm).2.1
    have p2 := (g2 f hf).2
    rw [← hxf] at p2
    omega
/-- both HasExtension answer alike -/
theorem hasExt {a : Ovi.Rows} {fs xs : List Atom} (hq : Qok a fs xs (fun _ => true) true) (b : List Int) (hb : b.length = 5) : ∃ e, ∀ k, 2000000 ≤ k → C (k + 18) 133 [ia a fs, .d (.list 2 (A1 xs)), .d (.list 1 (I1 b))] = bo e ∧ C (k + 18) 71 [ia a fs, .d (.list 2 (A1 xs)), .d (.list 1 (I1 b))] = bo e := by
  refine ⟨decide ((mats fs xs b).length > 0), fun k hk => ?_⟩
  have h3 := hq.h3
  have hm := hq.mok rfl
  have e94 : C (k + 17) 94 [.d (.list 1 (I1 b))] = some [(false, [.row 3 1 (I1 b)])] := by
    have : C (k + 17) 94 [.d (.list 1 (I1 b))] = cloneP 3 [.d (.list 1 (I1 b))] := by kernel_rfl
    rw [this]
    simp only [cloneP, ints_I1]
    rw [show Nat.ble b.length 1099511627776 = true from Nat.ble_eq_true_of_le (by omega)]
    rfl
  have e155 : C (k + 17) 155 [.d (.list 2 (A1 fs)), .d (.list 2 (A1 xs)), .d (.list 1 (I1 b))] = some [(false, [.row 74 1 (LL (mats fs xs b))])] := by
    have := c155 (fs := fs) (k := k + 14 - xs.length) (by omega) xs hm b hb
    rw [show k + 14 - xs.length + xs.length + 3 = k + 17 by omega] at this
    exact this
  have e112 : C (k + 17) 112 [.agg [.d (.list 3 a), .d (.list 2 (A1 fs))], .d (.list 2 (A1 xs)), .d (.int .i64 0), .d (.list 1 (I1 b))] = some [(false, [.row 74 1 (LL (mats fs xs b))])] := by
    have := c112 (a := a) hm (k := k + 14 - xs.length) (by omega) xs.length 0 (by omega) b hb
    rw [show k + 14 - xs.length + xs.length + 3 = k + 17 by omega] at this
    exact this
  have e154 := c154 (k := k + 2) hq (by omega)
  have e111 := c111 (k := k + 1) hq (by omega)
  have hlen : decide ((((mats fs xs b).length : Nat) : Int) > 0) = decide ((mats fs xs b).length > 0) := by
    rw [Bool.eq_iff_iff]; simp only [decide_eq_true_eq]; omega
  unfold ia
  constructor
  · rw [F133.run, e154, bB, ite'_t rfl, I1_len, ite'_t (by simp [hb]), e94]
    simp only [bindR_s, resO_s, bindL_s]
    rw [e155]
    simp only [bindR_s, resO_s, bindL_s]
    rw [LL_len, hlen]; rfl
  · rw [F71.run, e111, bB, ite'_t rfl, I1_len, ite'_t (by simp [hb]), e112]
    simp only [bindR_s, resO_s, bindL_s]
    rw [LL_len, hlen]; rfl
/-- both IsActiveTrigger answer alike -/
theorem actv {a : Ovi.Rows} {fs : List Atom} {ib : Bool} {d : Dep} (hi : InstY a fs ib) (hd : DepY a d) (hz : Dsz d) (b : List Int) (hI : ∀ v ∈ b, inI v) (hb : b.length ≤ 1048576) :
    ∃ vb, (vb = true → ib = true ∧ b.length = 5 ∧ (∀ i v, b[i]? = some v → badAt d.body i v = false) ∧ (∀ x ∈ d.body, missing fs b x = false) ∧ (d.egd = true → b.getD d.l.toNat 0 ≠ b.getD d.r.toNat 0)) ∧
      ∀ k, 2000000 ≤ k → C (k + 20) 92 [ia a fs, da d, .d (.list 1 (I1 b))] = bo vb ∧ C (k + 20) 41 [ia a fs, da d, .d (.list 1 (I1 b))] = bo vb := by
  obtain ⟨tb, htb, ht⟩ := trig hi.ok hd hz b hI hb hi.fx hi.fl
  have hD := hd.1
  cases tb with
  | false =>
    refine ⟨false, fun h => (by cases h), fun k hk => ?_⟩
    have h := ht (k + 3) (by omega)
    unfold ia da at *
    rw [F92.run, F41.run, h.1, h.2, bB, bB, ite'_nf, ite'_nf]
    exact ⟨rfl, rfl⟩
  | true =>
    obtain ⟨g1, g2, g3, g4⟩ := htb rfl
    subst g1
    cases he : d.egd with
    | true =>
      obtain ⟨_, hl, hr⟩ := hD.e he
      obtain ⟨l0, l4⟩ := isVar_4 hD.bv hl
      obtain ⟨r0, r4⟩ := isVar_4 hD.bv hr
      obtain ⟨p, hp⟩ : ∃ p : Nat, d.l = (p : Int) := ⟨d.l.toNat, by omega⟩
      obtain ⟨q, hq⟩ : ∃ q : Nat, d.r = (q : Int) := ⟨d.r.toNat, by omega⟩
      have hp5 : p < b.length := by omega
      have hq5 : q < b.length := by omega
      have hbp : b[p]? = some (b.getD p 0) := by rw [List.getD_eq_getElem?_getD, List.getElem?_eq_getElem hp5]; rfl
      have hbq : b[q]? = some (b.getD q 0) := by rw [List.getD_eq_getElem?_getD, List.getElem?_eq_getElem hq5]; rfl
      refine ⟨b.getD p 0 != b.getD q 0, fun h => ⟨rfl, g2, g3, g4, fun _ => ?_⟩, fun k hk => ?_⟩
      · rw [hp, hq, Int.toNat_natCast, Int.toNat_natCast]
        simpa using h
      · have h := ht (k + 3) (by omega)
        unfold ia da at *
        rw [he, hp, hq] at h ⊢
        rw [F92.run, F41.run, h.1, h.2, bB, bB, ite'_nt, ite'_nt, ite'_t rfl, ite'_t rfl, I1_len, ite'_t (inR_t hp5), I1_c hbp, bindI_s, ite'_t (inR_t hq5), I1_c hbq, bindI_s]
        exact ⟨rfl, rfl⟩
    | false =>
      obtain ⟨q1, q2⟩ := hD.tV he
      obtain ⟨q3, q4⟩ := hD.t he
      have hq := hi.qok hz.2 q1 (by omega) q2 q4
      obtain ⟨e, hee⟩ := hasExt hq b g2
      refine ⟨!e, fun h => ⟨rfl, g2, g3, g4, fun h => by cases h⟩, fun k hk => ?_⟩
      have h := ht (k + 3) (by omega)
      have h' := hee (k + 1) (by omega)
      unfold ia da at *
      rw [he] at h ⊢
      rw [F92.run, F41.run, h.1, h.2, bB, bB, ite'_nt, ite'_nt, ite'_f rfl, ite'_f rfl, h'.1, h'.2, bB]
      exact ⟨rfl, rfl⟩
end Go.Proofs.YtkkaikcjcjkpbaaGreat.Q

/-! VNi -/
namespace Go.Proofs.YtkkaikcjcjkpbaaGreat.Q
open Go Ovi
variable {k : Nat}
/-! ### the order of facts -/
/-! ### valid facts -/
/-! ### the nulls of an instance -/
/-- spec.NullsOfInstance -/
theorem c115 (a : Ovi.Rows) (xs : List Atom) (hI : ∀ x ∈ xs, ∀ z ∈ x.2, inI z) (hk : 2000000 ≤ k) (hs : terms xs + xs.length ≤ 1048576) : C (k + 4) 115 [.agg [.d (.list 3 a), .d (.list 2 (A1 xs))]] = some [(false, [.d (.list 1 (I1 (nulls (vals xs))))])] := by
  have hmax : (1048576 : Nat) ≤ maxLen := by decide
  rw [F115.run]
  have inner : ∀ (ls : List Int) (i : Nat), ls.length ≤ 1048576 → i < xs.length → ∀ (m j n k3 : Nat) (acc : List Int), j + m = ls.length → m < n → SS acc → acc.length + m ≤ 1048576 → 
      ∃ acc', F115.L7 (k + 3) (C (k + 3)) k3 n (I1 acc) (i : Int) (I1 ls) (j : Int) a (A1 xs) = F115.L3 (k + 3) (C (k + 3)) k3 (I1 acc') ((i + 1 : Nat) : Int) a (A1 xs) ∧ SS acc' ∧ acc'.length ≤ acc.length + m ∧ ∀ z, z ∈ acc' ↔ z ∈ acc ∨ z ∈ ls.drop j := by
    intro ls i hls hi m
    induction m with
    | zero =>
      intro j n k3 acc hm hn hS hl
      obtain ⟨n, rfl⟩ : ∃ j, n = j + 1 := ⟨n - 1, by omega⟩
      refine ⟨acc, ?_, hS, by omega, fun z => by rw [List.drop_eq_nil_of_le (by omega)]; simp⟩
      rw [F115.L7.succ, I1_len, ite'_f (lt_f (by omega)), next_i hi (m := xs.length) (by omega)]
    | succ m ih =>
      intro j n k3 acc hm hn hS hl
      obtain ⟨n, rfl⟩ : ∃ j, n = j + 1 := ⟨n - 1, by omega⟩
      have hj : j < ls.length := by omega
      have hz := List.getElem?_eq_getElem hj
      obtain ⟨r', ws, e1, e2, e3, e4, e5⟩ := c104s (k := k + 2) acc ls[j] hS (by omega) (by omega)
      rw [F115.L7.succ, I1_len, ite'_t (lt_t hj), ite'_t (inR_t hj)]
      simp only [Int.toNat_natCast, cellI_at (I1_get' hz), List.getElem?_cons_zero, Option.bind_some, asI_s, bindI_s]
      rw [e1]
      simp only [bindR_s]
      rw [e2, bindL_s, next_i hj (m := ls.length) (by omega)]
      obtain ⟨acc', g1, g2, g3, g4⟩ := ih (j + 1) n k3 ws (by omega) (by omega) e5 (by omega)
      refine ⟨acc', g1, g2, by omega, fun z => ?_⟩
      rw [g4 z, e3 z, List.drop_eq_getElem_cons hj, List.mem_cons, or_assoc]
  have outer : ∀ (m i n : Nat) (acc : List Int), i + m = xs.length → m < n → SS acc → acc.length ≤ terms (xs.take i) → (∀ z, z ∈ acc ↔ z ∈ nulls (vals (xs.take i))) →
      F115.L3 (k + 3) (C (k + 3)) n (I1 acc) (i : Int) a (A1 xs) = some [(false, [.d (.list 1 (I1 (nulls (vals xs))))])] := by
    intro m
    induction m with
    | zero =>
      intro i n acc hm hn hS ha hmem
      obtain ⟨n, rfl⟩ : ∃ j, n = j + 1 := ⟨n - 1, by omega⟩
      obtain rfl : i = xs.length := by omega
      rw [List.take_length] at hmem
      rw [F115.L3.succ, A1_len, ite'_f (lt_f (by omega)), ss_eq hS (nulls_ss _) hmem]
    | succ m ih =>
      intro i n acc hm hn hS ha hmem
      obtain ⟨n, rfl⟩ : ∃ j, n = j + 1 := ⟨n - 1, by omega⟩
      have hi : i < xs.length := by omega
      have hx := List.getElem?_eq_getElem hi
      have hxm := List.mem_of_getElem? hx
      have hta := terms_at hx
      have htl := terms_le xs (i + 1)
      have hnl := nulls_len (xs[i]).2
      rw [F115.L3.succ, A1_len, ite'_t (lt_t hi), ite'_t (inR_t hi)]
      simp only [Int.toNat_natCast, cellI_at (A1_get hx), cellL_at (A1_get hx), List.getElem?_cons_zero, List.getElem?_cons_succ, Option.bind_some, asI_s, asL_s, bindI_s, bindL_s]
      rw [c66 (k := k) (xs[i]).1 (xs[i]).2 (hI _ hxm) (by omega) (by omega)]
      simp only [bindR_s, resL_d, bindL_s]
      obtain ⟨acc', g1, g2, g3, g4⟩ := inner (nulls (xs[i]).2) i (by omega) hi (nulls (xs[i]).2).length 0 (k + 3) n acc (by omega) (by omega) hS (by omega)
      rw [show ((0 : Nat) : Int) = 0 from rfl] at g1
      rw [g1]
      refine ih (i + 1) n acc' (by omega) (by omega) g2 (by omega) (fun z => ?_)
      rw [g4 z, List.drop_zero, hmem z, mem_nulls, mem_nulls, mem_nulls, List.take_succ_eq_append_getElem hi]
      unfold vals
      rw [List.flatMap_append]
      simp only [List.mem_append, List.flatMap_cons, List.flatMap_nil, List.append_nil]
      constructor
      · rintro (⟨v, h1, h2⟩ | ⟨v, h1, h2⟩)
        · exact ⟨v, .inl h1, h2⟩
        · exact ⟨v, .inr h1, h2⟩
      · rintro ⟨v, h1 | h1, h2⟩
        · exact .inl ⟨v, h1, h2⟩
        · exact .inr ⟨v, h1, h2⟩
  exact outer xs.length 0 (k + 3) [] (by omega) (by omega) (by simp [SS]) (by simp) (fun z => by simp [mem_nulls, vals])
end Go.Proofs.YtkkaikcjcjkpbaaGreat.Q

/-! VNf -/
namespace Go.Proofs.YtkkaikcjcjkpbaaGreat.Q
open Go Ovi
variable {k : Nat}
theorem I1_app (a b : List Int) : I1 a ++ I1 b = I1 (a ++ b) := by simp [I1]
/-- impl.NullsOfInstance -/
theorem c137 (a : Ovi.Rows) (xs : List Atom) (hI : ∀ x ∈ xs, ∀ z ∈ x.2, inI z) (hk : 2000000 ≤ k) (hs : terms xs + xs.length ≤ 1048576) : C (k + 5) 137 [.agg [.d (.list 3 a), .d (.list 2 (A1 xs))]] = some [(false, [.row 3 1 (I1 (nulls (vals xs)))])] := by
  have hmax : (1048576 : Nat) ≤ maxLen := by decide
  have hvl := vals_len xs
  rw [F137.run, A1_len]
  have main : ∀ (m i n : Nat), i + m = xs.length → m < n → F137.L3 (k + 4) (C (k + 4)) n (A1 xs) (xs.length : Int) (i : Int) (I1 (vals (xs.take i))) = some [(false, [.row 3 1 (I1 (nulls (vals xs)))])] := by
    intro m
    induction m with
    | zero =>
      intro i n hm hn
      obtain ⟨n, rfl⟩ : ∃ j, n = j + 1 := ⟨n - 1, by omega⟩
      obtain rfl : i = xs.length := by omega
      rw [F137.L3.succ, ite'_f (lt_f (by omega)), List.take_length, c124 (k := k + 1) (vals xs) (vals_I hI) (by omega) (by omega)]
      rfl
    | succ m ih =>
      intro i n hm hn
      obtain ⟨n, rfl⟩ : ∃ j, n = j + 1 := ⟨n - 1, by omega⟩
      have hi : i < xs.length := by omega
      have hg := List.getElem?_eq_getElem hi
      have := ih (i + 1) n (by omega) (by omega)
      have hv : vals (xs.take (i + 1)) = vals (xs.take i) ++ (xs[i]).2 := by
        unfold vals
        rw [List.take_succ_eq_append_getElem hi, List.flatMap_append, List.flatMap_cons, List.flatMap_nil, List.append_nil]
      rw [hv] at this
      have h1 := vals_len (xs.take i)
      have h2 := terms_at hg
      have h3 := terms_le xs (i + 1)
      rw [F137.L3.succ, ite'_t (lt_t hi), A1_len, ite'_t (inR_t hi), A1_c0 hg, bindI_s, A1_c1 hg, bindL_s, I1_len, I1_len, ite'_t (fits_t (by omega)), next_i hi (m := xs.length) (by omega), I1_app]
      exact this
  exact main xs.length 0 (k + 4) (by omega) (by omega)
/-- the next null's number -/
def nx (fs : List Atom) : Int := if nulls (vals fs) = [] then 0 else (nulls (vals fs)).getD ((nulls (vals fs)).length - 1) 0 + 1
theorem nulls_40 {zs : List Int} {n : Int} (h : n ∈ nulls zs) : 0 ≤ n ∧ n ≤ 39 := by
  obtain ⟨v, _, hv, rfl⟩ := (mem_nulls _ _).1 h
  have := isN_t hv
  omega
theorem nx_40 (fs : List Atom) : 0 ≤ nx fs ∧ nx fs ≤ 40 := by
  unfold nx
  by_cases h : nulls (vals fs) = []
  · rw [if_pos h]; omega
  · rw [if_neg h]
    have hl : 0 < (nulls (vals fs)).length := List.length_pos_iff.2 h
    have hm : (nulls (vals fs)).getD ((nulls (vals fs)).length - 1) 0 ∈ nulls (vals fs) := by
      rw [List.getD_eq_getElem?_getD, List.getElem?_eq_getElem (by omega)]
      exact List.getElem_mem _
    have := nulls_40 hm
    omega
/-- both NextNull -/
theorem nextNull (a : Ovi.Rows) (xs : List Atom) (hI : ∀ x ∈ xs, ∀ z ∈ x.2, inI z) (hk : 2000000 ≤ k) (hs : terms xs + xs.length ≤ 1048576) : C (k + 6) 95 [ia a xs] = io (nx xs) ∧ C (k + 6) 75 [ia a xs] = io (nx xs) := by
  have hl := nulls_len (vals xs)
  have hvl := vals_len xs
  have h1 := c137 a xs hI hk hs
  have h2 := c115 (k := k + 1) a xs hI (by omega) hs
  have h40 := nx_40 xs
  have key : ∀ L : List Int, L = nulls (vals xs) → ite' (((I1 L).length : Int) == 0) (io 0) (ite' (inR (IntKind.i64.wrap (((I1 L).length : Int) - 1)) (I1 L).length) (bindI (cellI .i64 (I1 L) (IntKind.i64.wrap (((I1 L).length : Int) - 1)).toNat 0) fun n6 => io (IntKind.i64.wrap (n6 + 1))) none) = io (nx xs) := by
    intro L hL
    rw [I1_len]
    unfold nx at h40 ⊢
    rw [← hL] at h40 ⊢
    by_cases h : L = []
    · rw [if_pos h, ite'_t (by simp [h])]
    · have hp : 0 < L.length := List.length_pos_iff.2 h
      rw [← hL] at hl
      have hw : IntKind.i64.wrap ((L.length : Int) - 1) = ((L.length - 1 : Nat) : Int) := by rw [wrap_id (by omega) (by omega)]; omega
      have hg : L[L.length - 1]? = some (L.getD (L.length - 1) 0) := by rw [List.getD_eq_getElem?_getD, List.getElem?_eq_getElem (show L.length - 1 < L.length by omega)]; rfl
      rw [if_neg h] at h40 ⊢
      rw [ite'_f (by simp [h]), hw, ite'_t (inR_t (show L.length - 1 < L.length by omega)), I1_c hg, bindI_s, wrap_id (by omega) (by omega)]
  unfold ia
  constructor
  · rw [F95.run, h1]
    simp only [bindR_s, resO_s, bindL_s]
    exact key _ rfl
  · rw [F75.run, h2]
    simp only [bindR_s, resL_d, bindL_s]
    exact key _ rfl
end Go.Proofs.YtkkaikcjcjkpbaaGreat.Q

/-! VNg -/
namespace Go.Proofs.YtkkaikcjcjkpbaaGreat.Q
open Go Ovi
variable {k : Nat}
/-! ### variables, in order -/
theorem c127s (xs : List Atom) (hk : terms xs + xs.length < k) (hs : terms xs + xs.length ≤ 1048576) : ∃ vs, C (k + 1) 127 [.d (.list 2 (A1 xs))] = some [(false, [.row 3 1 (I1 vs)])] ∧ (∀ z, z ∈ vs ↔ isVar xs z) ∧ vs.length ≤ terms xs ∧ SS vs := by
  rw [F127.run, A1_len]
  have hmax : (1048576 : Nat) ≤ maxLen := by decide
  -- the inner loop
  have inner : ∀ (i : Nat) (x : Atom), xs[i]? = some x → ∀ (m j n k3 : Nat) (acc : List Int), j + m = x.2.length → m < n → acc.length ≤ terms (xs.take i) + j → (∀ z, z ∈ acc ↔ isVar (xs.take i) z ∨ (0 ≤ z ∧ z ∈ x.2.take j)) →
      ∃ acc', F127.L6 k (C k) k3 n (A1 xs) (xs.length : Int) (i : Int) (I1 x.2) (x.2.length : Int) (j : Int) (I1 acc) = F127.L3 k (C k) k3 (A1 xs) (xs.length : Int) ((i + 1 : Nat) : Int) (I1 acc') ∧ acc'.length ≤ terms (xs.take (i + 1)) ∧ ∀ z, z ∈ acc' ↔ isVar (xs.take (i + 1)) z := by
    intro i x hx m
    have hi := (List.getElem?_eq_some_iff.1 hx).1
    have hta := terms_at hx
    have htl := terms_le xs (i + 1)
    induction m with
    | zero =>
      intro j n k3 acc hm hn ha hmem
      obtain ⟨n, rfl⟩ : ∃ j, n = j + 1 := ⟨n - 1, by omega⟩
      obtain rfl : j = x.2.length := by omega
      refine ⟨acc, ?_, by omega, fun z => ?_⟩
      · rw [F127.L6.succ, ite'_f (lt_f (by omega)), next_i hi (m := xs.length) (by omega)]
      · rw [hmem z, isVar_take hx, List.take_length]
    | succ m ih =>
      intro j n k3 acc hm hn ha hmem
      obtain ⟨n, rfl⟩ : ∃ j, n = j + 1 := ⟨n - 1, by omega⟩
      have hj : j < x.2.length := by omega
      have hz := List.getElem?_eq_getElem hj
      rw [F127.L6.succ, ite'_t (lt_t hj), I1_len, ite'_t (inR_t hj)]
      simp only [Int.toNat_natCast, cellI_at (I1_get' hz), List.getElem?_cons_zero, Option.bind_some, asI_s, bindI_s]
      rw [next_i hj (m := x.2.length) (by omega)]
      have htk : ∀ z, z ∈ x.2.take (j + 1) ↔ z ∈ x.2.take j ∨ z = x.2[j] := by
        intro z
        rw [List.take_succ_eq_append_getElem hj]
        simp only [List.mem_append, List.mem_singleton]
      by_cases h0 : 0 ≤ x.2[j]
      · rw [ite'_t (by simpa using h0), ite'_t (fits_t (by simp [I1_len]; omega))]
        have e : I1 acc ++ [[.int .i64 x.2[j]]] = I1 (acc ++ [x.2[j]]) := by simp [I1]
        rw [e]
        refine ih (j + 1) n k3 _ (by omega) (by omega) (by simp; omega) (fun z => ?_)
        rw [List.mem_append, List.mem_singleton, hmem z, htk z]
        constructor
        · rintro ((h | h) | h)
          · exact .inl h
          · exact .inr ⟨h.1, .inl h.2⟩
          · exact .inr ⟨h ▸ h0, .inr h⟩
        · rintro (h | ⟨h1, h | h⟩)
          · exact .inl (.inl h)
          · exact .inl (.inr ⟨h1, h⟩)
          · exact .inr h
      · rw [ite'_f (by simpa using h0)]
        refine ih (j + 1) n k3 _ (by omega) (by omega) (by omega) (fun z => ?_)
        rw [hmem z, htk z]
        constructor
        · rintro (h | h)
          · exact .inl h
          · exact .inr ⟨h.1, .inl h.2⟩
        · rintro (h | ⟨h1, h | h⟩)
          · exact .inl h
          · exact .inr ⟨h1, h⟩
          · exact absurd (h ▸ h1) h0
  have outer : ∀ (m i n : Nat) (acc : List Int), i + m = xs.length → m < n → acc.length ≤ terms (xs.take i) → (∀ z, z ∈ acc ↔ isVar (xs.take i) z) →
      ∃ vs, F127.L3 k (C k) n (A1 xs) (xs.length : Int) (i : Int) (I1 acc) = some [(false, [.row 3 1 (I1 vs)])] ∧ (∀ z, z ∈ vs ↔ isVar xs z) ∧ vs.length ≤ terms xs ∧ SS vs := by
    intro m
    induction m with
    | zero =>
      intro i n acc hm hn ha hmem
      obtain ⟨n, rfl⟩ : ∃ j, n = j + 1 := ⟨n - 1, by omega⟩
      obtain rfl : i = xs.length := by omega
      rw [List.take_length] at ha hmem
      obtain ⟨k, rfl⟩ : ∃ j, k = j + 1 := ⟨k - 1, by omega⟩
      have e1 : C (k + 1) 147 [.var 0 0, .d (.int .i64 3), .d (.list 1 (I1 acc))] = some [(false, [.row 3 1 (I1 (sortInts acc))])] := by
        show sortP _ = _
        unfold sortP rawArg
        simp only [ints_I1]
        rw [show Nat.ble acc.length 1099511627776 = true from Nat.ble_eq_true_of_le (by omega)]
        rfl
      have hsl : (sortInts acc).length = acc.length := by simp [sortInts]
      have e2 : C (k + 1) 148 [.var 0 0, .d (.int .i64 3), .d (.list 1 (I1 (sortInts acc)))] = some [(false, [.row 3 1 (I1 (Lib.compact (sortInts acc)))]), (true, [])] := by
        show compactP _ = _
        unfold compactP rawArg
        simp only [ints_I1]
        rw [show Nat.ble (sortInts acc).length 1099511627776 = true from Nat.ble_eq_true_of_le (by omega)]
        rfl
      refine ⟨Lib.compact (sortInts acc), ?_, fun z => ?_, ?_, ss_compact _⟩
      · rw [F127.L3.succ, ite'_f (lt_f (by omega)), e1]
        simp only [bindR_s, resO_s, bindL_s]
        rw [e2]
        rfl
      · rw [mem_compact, mem_sortInts, hmem z]
      · have := compact_len (sortInts acc)
        omega
    | succ m ih =>
      intro i n acc hm hn ha hmem
      obtain ⟨n, rfl⟩ : ∃ j, n = j + 1 := ⟨n - 1, by omega⟩
      have hi : i < xs.length := by omega
      have hx := List.getElem?_eq_getElem hi
      rw [F127.L3.succ, A1_len, ite'_t (lt_t hi), ite'_t (inR_t hi)]
      simp only [Int.toNat_natCast, cellI_at (A1_get hx), cellL_at (A1_get hx), List.getElem?_cons_zero, List.getElem?_cons_succ, Option.bind_some, asI_s, asL_s, bindI_s, bindL_s]
      have hta := terms_at hx
      have htl := terms_le xs (i + 1)
      rw [I1_len]
      obtain ⟨acc', e, h1, h2⟩ := inner i _ hx (xs[i]).2.length 0 k n acc (by omega) (by omega) (by omega) (fun z => by simp [hmem z])
      rw [show ((0 : Nat) : Int) = 0 from rfl] at e
      rw [e]
      exact ih (i + 1) n acc' (by omega) (by omega) h1 h2
  have := outer xs.length 0 k [] (by omega) (by omega) (by simp) (fun z => by simp [isVar])
  exact this
theorem c107s (xs : List Atom) (hk : terms xs + xs.length < k) (hs : terms xs + xs.length ≤ 1048576) : ∃ vs, C (k + 2) 107 [.d (.list 2 (A1 xs))] = some [(false, [.d (.list 1 (I1 vs))])] ∧ (∀ z, z ∈ vs ↔ isVar xs z) ∧ vs.length ≤ terms xs ∧ SS vs := by
  rw [F107.run]
  have hmax : (1048576 : Nat) ≤ maxLen := by decide
  have inner : ∀ (i : Nat) (x : Atom), xs[i]? = some x → ∀ (m j n k3 : Nat) (acc : List Int), j + m = x.2.length → m < n → acc.length ≤ terms (xs.take i) + j → (∀ z, z ∈ acc ↔ isVar (xs.take i) z ∨ (0 ≤ z ∧ z ∈ x.2.take j)) → SS acc →
      ∃ acc', F107.L6 (k + 1) (C (k + 1)) k3 n (A1 xs) (I1 acc) (i : Int) (j : Int) = F107.L3 (k + 1) (C (k + 1)) k3 (A1 xs) (I1 acc') ((i + 1 : Nat) : Int) ∧ acc'.length ≤ terms (xs.take (i + 1)) ∧ (∀ z, z ∈ acc' ↔ isVar (xs.take (i + 1)) z) ∧ SS acc' := by
    intro i x hx m
    have hi := (List.getElem?_eq_some_iff.1 hx).1
    have hta := terms_at hx
    have htl := terms_le xs (i + 1)
    have hcell : cellL 1 (A1 xs) ((i : Int)).toNat 1 = some (I1 x.2) := by rw [Int.toNat_natCast, cellL_at (A1_get hx)]; rfl
    have hin : inR (i : Int) (A1 xs).length = true := by rw [A1_len]; exact inR_t hi
    induction m with
    | zero =>
      intro j n k3 acc hm hn ha hmem hSS
      obtain ⟨n, rfl⟩ : ∃ j, n = j + 1 := ⟨n - 1, by omega⟩
      obtain rfl : j = x.2.length := by omega
      refine ⟨acc, ?_, by omega, fun z => ?_, hSS⟩
      · rw [F107.L6.succ, ite'_t hin, hcell, bindL_s, I1_len, ite'_f (lt_f (by omega)), next_i hi (m := xs.length) (by omega)]
      · rw [hmem z, isVar_take hx, List.take_length]
    | succ m ih =>
      intro j n k3 acc hm hn ha hmem hSS
      obtain ⟨n, rfl⟩ : ∃ j, n = j + 1 := ⟨n - 1, by omega⟩
      have hj : j < x.2.length := by omega
      have hz := List.getElem?_eq_getElem hj
      have hcz : cellI .i64 (I1 x.2) ((j : Int)).toNat 0 = some x.2[j] := by rw [Int.toNat_natCast, cellI_at (I1_get' hz)]; rfl
      have hinj : inR (j : Int) (I1 x.2).length = true := by rw [I1_len]; exact inR_t hj
      rw [F107.L6.succ, ite'_t hin, hcell, bindL_s, ite'_t (b := decide ((j : Int) < ((I1 x.2).length : Int))) (by rw [I1_len]; exact lt_t hj), ite'_t hin]
      simp only [bindL_s]
      rw [ite'_t hinj, hcz]
      simp only [bindI_s]
      rw [next_i hj (m := x.2.length) (by omega)]
      have htk : ∀ z, z ∈ x.2.take (j + 1) ↔ z ∈ x.2.take j ∨ z = x.2[j] := by
        intro z
        rw [List.take_succ_eq_append_getElem hj]
        simp only [List.mem_append, List.mem_singleton]
      by_cases h0 : 0 ≤ x.2[j]
      · obtain ⟨r, ws, e1, e2, e3, e4, e5⟩ := c104s (k := k) acc x.2[j] hSS (by omega) (by omega)
        rw [ite'_t (by simpa using h0), ite'_t hin, ite'_t hinj, e1]
        simp only [bindR_s]
        rw [e2, bindL_s]
        refine ih (j + 1) n k3 _ (by omega) (by omega) (by omega) (fun z => ?_) e5
        rw [e3 z, hmem z, htk z]
        constructor
        · rintro ((h | h) | h)
          · exact .inl h
          · exact .inr ⟨h.1, .inl h.2⟩
          · exact .inr ⟨h ▸ h0, .inr h⟩
        · rintro (h | ⟨h1, h | h⟩)
          · exact .inl (.inl h)
          · exact .inl (.inr ⟨h1, h⟩)
          · exact .inr h
      · rw [ite'_f (by simpa using h0)]
        refine ih (j + 1) n k3 _ (by omega) (by omega) (by omega) (fun z => ?_) hSS
        rw [hmem z, htk z]
        constructor
        · rintro (h | h)
          · exact .inl h
          · exact .inr ⟨h.1, .inl h.2⟩
        · rintro (h | ⟨h1, h | h⟩)
          · exact .inl h
          · exact .inr ⟨h1, h⟩
          · exact absurd (h ▸ h1) h0
  have outer : ∀ (m i n : Nat) (acc : List Int), i + m = xs.length → m < n → acc.length ≤ terms (xs.take i) → (∀ z, z ∈ acc ↔ isVar (xs.take i) z) → SS acc →
      ∃ vs, F107.L3 (k + 1) (C (k + 1)) n (A1 xs) (I1 acc) (i : Int) = some [(false, [.d (.list 1 (I1 vs))])] ∧ (∀ z, z ∈ vs ↔ isVar xs z) ∧ vs.length ≤ terms xs ∧ SS vs := by
    intro m
    induction m with
    | zero =>
      intro i n acc hm hn ha hmem hSS
      obtain ⟨n, rfl⟩ : ∃ j, n = j + 1 := ⟨n - 1, by omega⟩
      obtain rfl : i = xs.length := by omega
      rw [List.take_length] at ha hmem
      exact ⟨acc, by rw [F107.L3.succ, A1_len, ite'_f (lt_f (by omega))], hmem, ha, hSS⟩
    | succ m ih =>
      intro i n acc hm hn ha hmem hSS
      obtain ⟨n, rfl⟩ : ∃ j, n = j + 1 := ⟨n - 1, by omega⟩
      have hi : i < xs.length := by omega
      have hx := List.getElem?_eq_getElem hi
      have hta := terms_at hx
      have htl := terms_le xs (i + 1)
      rw [F107.L3.succ, A1_len, ite'_t (lt_t hi)]
      obtain ⟨acc', e, h1, h2, h3⟩ := inner i _ hx (xs[i]).2.length 0 (k + 1) n acc (by omega) (by omega) (by omega) (fun z => by simp [hmem z]) hSS
      rw [show ((0 : Nat) : Int) = 0 from rfl] at e
      rw [e]
      exact ih (i + 1) n acc' (by omega) (by omega) h1 h2 h3
  have := outer xs.length 0 (k + 1) [] (by omega) (by omega) (by simp) (fun z => by simp [isVar]) (by simp [SS])
  exact this

/-- the variables of the head that the body lacks -/
theorem exVars (d : Dep) (hz : Dsz d) : ∃ ev : List Int, (∀ z, z ∈ ev ↔ isVar d.head z ∧ ¬ isVar d.body z) ∧ ev.length ≤ terms d.head ∧ ∀ k, 3000000 ≤ k → C (k + 3) 96 [da d] = some [(false, [.row 3 1 (I1 ev)])] ∧ C (k + 3) 74 [da d] = some [(false, [.row 3 1 (I1 ev)])] := by
  have hmax : (1048576 : Nat) ≤ maxLen := by decide
  obtain ⟨hz1, hz2⟩ := hz
  obtain ⟨vh, _, h2, h3, h4⟩ := c127s (k := 3000000) d.head (by omega) hz2
  have hb : ∀ z, decide (z ∈ vh) = vB d.head z := vB_mem h2
  refine ⟨vh.filter fun z => !vB d.body z, fun z => ?_, ?_, fun k hk => ?_⟩
  · rw [List.mem_filter, h2]
    unfold vB
    simp
  · have := List.length_filter_le (fun z => !vB d.body z) vh
    omega
  · obtain ⟨v1, a1, a2, a3⟩ := c127 (k := k) d.body (by omega) hz1
    obtain ⟨v2, b1, b2, b3, b4⟩ := c127s (k := k) d.head (by omega) hz2
    obtain ⟨u1, d1, d2, d3⟩ := c107 (k := k) d.body (by omega) hz1
    obtain ⟨u2, e1, e2, e3, e4⟩ := c107s (k := k) d.head (by omega) hz2
    obtain rfl : v2 = vh := ss_eq b4 h4 fun z => by rw [b2, h2]
    obtain rfl : u2 = v2 := ss_eq e4 b4 fun z => by rw [e2, b2]
    have L138 : ∀ (m i n : Nat), i + m = u2.length → m < n → F138.L3 (k + 1) (C (k + 1)) n false (u2.length : Int) (i : Int) (I1 v1) (I1 ((u2.take i).filter fun z => !vB d.body z)) (I1 u2) = some [(false, [.row 3 1 (I1 (u2.filter fun z => !vB d.body z))])] := by
      intro m
      induction m with
      | zero =>
        intro i n hm hn
        obtain ⟨n, rfl⟩ : ∃ j, n = j + 1 := ⟨n - 1, by omega⟩
        obtain rfl : i = u2.length := by omega
        rw [F138.L3.succ, ite'_f (lt_f (by omega)), List.take_length]
      | succ m ih =>
        intro i n hm hn
        obtain ⟨n, rfl⟩ : ∃ j, n = j + 1 := ⟨n - 1, by omega⟩
        have hi : i < u2.length := by omega
        have hg := List.getElem?_eq_getElem hi
        have hft := List.length_filter_le (fun z => !vB d.body z) (u2.take i)
        rw [List.length_take] at hft
        have := ih (i + 1) n (by omega) (by omega)
        rw [List.take_succ_eq_append_getElem hi, List.filter_append] at this
        obtain ⟨j, rfl⟩ : ∃ j, k = j + 1 := ⟨k - 1, by omega⟩
        rw [F138.L3.succ, ite'_t (lt_t hi), I1_len, ite'_t (inR_t hi), I1_c hg, bindI_s, c128 (k := j) v1 u2[i] (by omega) (by omega), bB, vB_mem a2, next_i hi (m := u2.length) (by omega)]
        cases hv : vB d.body u2[i] with
        | true =>
          rw [show (true == false) = false from rfl, ite'_f rfl]
          simpa [hv] using this
        | false =>
          rw [show (false == false) = true from rfl, ite'_t rfl, I1_len, ite'_t (fits_t (by simp only [List.length_cons, List.length_nil]; omega)), I1_snoc]
          simpa [hv] using this
    have L74 : ∀ (m i n : Nat), i + m = u2.length → m < n → F74.L5 (k + 2) (C (k + 2)) n (I1 u1) (I1 u2) (i : Int) (I1 ((u2.take i).filter fun z => !vB d.body z)) = some [(false, [.row 3 1 (I1 (u2.filter fun z => !vB d.body z))])] := by
      intro m
      induction m with
      | zero =>
        intro i n hm hn
        obtain ⟨n, rfl⟩ : ∃ j, n = j + 1 := ⟨n - 1, by omega⟩
        obtain rfl : i = u2.length := by omega
        rw [F74.L5.succ, I1_len, ite'_f (lt_f (by omega)), List.take_length]
      | succ m ih =>
        intro i n hm hn
        obtain ⟨n, rfl⟩ : ∃ j, n = j + 1 := ⟨n - 1, by omega⟩
        have hi : i < u2.length := by omega
        have hg := List.getElem?_eq_getElem hi
        have hft := List.length_filter_le (fun z => !vB d.body z) (u2.take i)
        rw [List.length_take] at hft
        have := ih (i + 1) n (by omega) (by omega)
        rw [List.take_succ_eq_append_getElem hi, List.filter_append] at this
        rw [F74.L5.succ, I1_len, ite'_t (lt_t hi), ite'_t (inR_t hi), I1_c hg, bindI_s, c108 (k := k + 1) u1 u2[i] (by omega) (by omega), bB, vB_mem d2, next_i hi (m := u2.length) (by omega)]
        cases hv : vB d.body u2[i] with
        | true =>
          rw [ite'_nt]
          simpa [hv] using this
        | false =>
          rw [ite'_nf, ite'_t (inR_t hi), bindI_s, I1_len, ite'_t (fits_t (by simp only [List.length_cons, List.length_nil]; omega)), I1_snoc]
          simpa [hv] using this
    unfold da
    constructor
    · rw [F96.run, F138.run, a1, b1]
      simp only [bindR_s, resO_s, bindL_s]
      rw [I1_len, show F138.L3 (k + 1) (C (k + 1)) (k + 1) false (u2.length : Int) 0 (I1 v1) [] (I1 u2) = _ from L138 u2.length 0 (k + 1) (by omega) (by omega)]
      simp only [bindR_s, resO_s, bindL_s]
    · rw [F74.run, d1]
      simp only [bindR_s, resL_d, bindL_s]
      rw [e1]
      simp only [bindR_s, resL_d, bindL_s]
      exact L74 u2.length 0 (k + 2) (by omega) (by omega)
end Go.Proofs.YtkkaikcjcjkpbaaGreat.Q

/-! VNh -/
namespace Go.Proofs.YtkkaikcjcjkpbaaGreat.Q
open Go Ovi
variable {k : Nat}
/-! ### equal instances -/
theorem relCells {a : Ovi.Rows} (ha : Fit Rl (.list 3 a)) {i : Nat} (hi : i < a.length) : ∃ s n b, cellS a (i : Int).toNat 0 = some s ∧ cellI .i64 a (i : Int).toNat 1 = some n ∧ cellB a (i : Int).toNat 2 = some b := by
  obtain ⟨row, hrow, hfr, _⟩ := ha.row hi
  obtain ⟨d0, r0, rfl, f0, h1⟩ := Fits.cons hfr
  obtain ⟨d1, r1, rfl, f1, h1⟩ := Fits.cons h1
  obtain ⟨d2, r2, rfl, f2, h1⟩ := Fits.cons h1
  obtain rfl := Fits.nil h1
  obtain ⟨s, rfl, _⟩ := f0.str
  obtain ⟨n, rfl, _⟩ := f1.int
  obtain ⟨b, rfl⟩ := f2.bool
  refine ⟨s, n, b, ?_, ?_, ?_⟩
  · rw [Int.toNat_natCast, cellS_at hrow]; simp [asS_s]
  · rw [Int.toNat_natCast, cellI_at hrow]; simp [asI_s]
  · rw [Int.toNat_natCast, cellB_at hrow]; simp [asB_s]
/-- slices.Equal on relations, and spec.l5Sigs -/
theorem eqRels {a c : Ovi.Rows} (ha : Fit Rl (.list 3 a)) (hc : Fit Rl (.list 3 c)) (hal : a.length ≤ 1048576) : ∃ e, ∀ k, 2000000 ≤ k → C (k + 1) 55 [.d (.list 3 a), .d (.list 3 c)] = bo e ∧ C (k + 1) 43 [.d (.list 3 a), .d (.list 3 c)] = bo e := by
  have hmax : (1048576 : Nat) ≤ maxLen := by decide
  by_cases hl : a.length = c.length
  · have main : ∀ (m i : Nat), i + m = a.length → ∃ e, ∀ k n, m < n → F55.L4 k (C k) n a c (a.length : Int) (i : Int) = bo e ∧ F43.L4 k (C k) n a c (i : Int) = bo e := by
      intro m
      induction m with
      | zero =>
        intro i hm
        refine ⟨true, fun k n hn => ?_⟩
        obtain ⟨n, rfl⟩ : ∃ j, n = j + 1 := ⟨n - 1, by omega⟩
        rw [F55.L4.succ, F43.L4.succ, ite'_f (b := decide ((i : Int) < ((a.length : Nat) : Int))) (lt_f (by omega)), ite'_f (lt_f (by omega))]
        exact ⟨rfl, rfl⟩
      | succ m ih =>
        intro i hm
        have hi : i < a.length := by omega
        have hic : i < c.length := by omega
        obtain ⟨e, he⟩ := ih (i + 1) (by omega)
        obtain ⟨s1, n1, b1, x1, x2, x3⟩ := relCells ha hi
        obtain ⟨s2, n2, b2, y1, y2, y3⟩ := relCells hc hic
        refine ⟨(s1 == s2 && (n1 == n2 && (b1 == b2 && true))) && e, fun k n hn => ?_⟩
        obtain ⟨n, rfl⟩ : ∃ j, n = j + 1 := ⟨n - 1, by omega⟩
        obtain ⟨h1, h2⟩ := he k n (by omega)
        rw [F55.L4.succ, F43.L4.succ, ite'_t (lt_t hi), ite'_t (inR_t hi), ite'_t (lt_t hi), ite'_t (inR_t hi), x1, x2, x3]
        simp only [bindS_s, bindI_s, bindB_s]
        rw [ite'_t (inR_t hic), ite'_t (inR_t hic), y1, y2, y3]
        simp only [bindS_s, bindI_s, bindB_s]
        rw [next_i hi (m := a.length) (by omega), h1, h2]
        cases (s1 == s2 && (n1 == n2 && (b1 == b2 && true))) <;> exact ⟨rfl, rfl⟩
    obtain ⟨e, he⟩ := main a.length 0 (by omega)
    refine ⟨e, fun k hk => ?_⟩
    rw [F55.run, F43.run, ite'_f (by simp [hl]), ite'_f (by simp [hl])]
    exact he k k (by omega)
  · refine ⟨false, fun k hk => ?_⟩
    rw [F55.run, F43.run, ite'_t (by simp; omega), ite'_t (by simp; omega)]
    exact ⟨rfl, rfl⟩
/-- both EqualInstances answer alike -/
theorem eqInst {a c : Ovi.Rows} (ha : Fit Rl (.list 3 a)) (hc : Fit Rl (.list 3 c)) (hal : a.length ≤ 1048576) (fs gs : List Atom) (hf : ∀ x ∈ fs, x.2.length ≤ 1048576) (hfl : fs.length ≤ 1048576) :
    ∃ e, ∀ k, 2000000 ≤ k → C (k + 10) 27 [ia a fs, ia c gs] = bo e ∧ C (k + 10) 20 [ia a fs, ia c gs] = bo e := by
  have hmax : (1048576 : Nat) ≤ maxLen := by decide
  obtain ⟨e1, h1⟩ := eqRels ha hc hal
  cases e1 with
  | false =>
    refine ⟨false, fun k hk => ?_⟩
    obtain ⟨g1, g2⟩ := h1 (k + 8) (by omega)
    unfold ia
    rw [F27.run, F20.run, g1, g2, bB, bB]
    exact ⟨rfl, rfl⟩
  | true =>
    by_cases hl : fs.length = gs.length
    · refine ⟨decide (fs = gs), fun k hk => ?_⟩
      obtain ⟨g1, g2⟩ := h1 (k + 8) (by omega)
      have fin : ∀ (st : Nat → Atom → Bool), (∀ i x, fs[i]? = some x → st i x = !decide (x = gs.getD i x)) → (∀ i x, fs[i]? = some x → st i x = false) → fs = gs := by
        intro st hst h
        apply List.ext_getElem?
        intro i
        by_cases hi : i < fs.length
        · have h2 := h i fs[i] (List.getElem?_eq_getElem hi)
          rw [hst i _ (List.getElem?_eq_getElem hi), List.getD_eq_getElem?_getD, List.getElem?_eq_getElem (show i < gs.length by omega)] at h2
          rw [List.getElem?_eq_getElem hi, List.getElem?_eq_getElem (show i < gs.length by omega)]
          simpa using h2
        · rw [List.getElem?_eq_none (by omega), List.getElem?_eq_none (by omega)]
      have one : ∀ {L : Nat → Int → Option Res}, (∀ (n i : Nat) x, fs[i]? = some x → L (n + 1) (i : Int) = cond (!decide (x = gs.getD i x)) (bo false) (L n ((i + 1 : Nat) : Int))) → (∀ n, L (n + 1) (fs.length : Int) = bo true) → ∀ n, fs.length < n → L n 0 = bo (decide (fs = gs)) := by
        intro L hs hd n hn
        rcases loop_find (xs := fs) (L := L) (stop := fun i x => !decide (x = gs.getD i x)) (hit := fun _ => bo false) (fin := bo true) hs hd n hn with ⟨i, x, hx, hst, e⟩ | ⟨hst, e⟩
        · rw [e]
          refine bo_eq (decide_eq_false (fun h => ?_)).symm
          subst h
          rw [List.getD_eq_getElem?_getD, hx] at hst
          simp at hst
        · rw [e]
          exact bo_eq (decide_eq_true (fin (fun i x => !decide (x = gs.getD i x)) (fun _ _ _ => rfl) hst)).symm
      have gsat : ∀ {i : Nat} {x : Atom}, fs[i]? = some x → gs[i]? = some (gs.getD i x) := by
        intro i x hx
        have hi := (List.getElem?_eq_some_iff.1 hx).1
        rw [List.getD_eq_getElem?_getD, List.getElem?_eq_getElem (show i < gs.length by omega)]; rfl
      have cz : ∀ x y : Atom, (cmpF x y == 0) = decide (x = y) := by
        intro x y
        rw [Bool.eq_iff_iff, beq_iff_eq, decide_eq_true_eq]
        exact cmpF_zero x y
      have e56 : C (k + 9) 56 [.d (.list 2 (A1 fs)), .d (.list 2 (A1 gs)), .d (.fn 57 [])] = bo (decide (fs = gs)) := by
        rw [F56.run, A1_len, A1_len, ite'_f (by simp [hl])]
        refine one (L := fun n i => F56.L4 (k + 8) (C (k + 8)) n (A1 gs) 57 [] (A1 fs) (fs.length : Int) i) (fun n i x hx => ?_) (fun n => by rw [F56.L4.succ, ite'_f (lt_f (by omega))]; rfl) (k + 8) (by omega)
        have hi := (List.getElem?_eq_some_iff.1 hx).1
        have hg := gsat hx
        have hxl := hf x (List.mem_of_getElem? hx)
        have e57 : C (k + 8) 57 [.agg [.d (.int .i64 x.1), .d (.list 1 (I1 x.2))], .agg [.d (.int .i64 (gs.getD i x).1), .d (.list 1 (I1 (gs.getD i x).2))]] = bo (decide (x = gs.getD i x)) := by
          rw [F57.run, c85 (k := k + 2) x (gs.getD i x) (by omega) (by omega), iB', cz]; rfl
        rw [F56.L4.succ, ite'_t (lt_t hi), A1_len, ite'_t (inR_t hi), A1_c0 hx, bindI_s, A1_c1 hx, bindL_s, A1_len, ite'_t (inR_t (show i < gs.length by omega)), A1_c0 hg, bindI_s, A1_c1 hg, bindL_s, next_i hi (m := fs.length) (by omega)]
        simp only [List.map_nil, List.append_eq, List.nil_append] at e57 ⊢
        rw [e57, bB]; rfl
      have e20 : F20.L4 (k + 9) (C (k + 9)) (k + 9) 0 a (A1 fs) c (A1 gs) = bo (decide (fs = gs)) := by
        refine one (L := fun n i => F20.L4 (k + 9) (C (k + 9)) n i a (A1 fs) c (A1 gs)) (fun n i x hx => ?_) (fun n => by rw [F20.L4.succ, A1_len, ite'_f (lt_f (by omega))]; rfl) (k + 9) (by omega)
        have hi := (List.getElem?_eq_some_iff.1 hx).1
        have hg := gsat hx
        have hxl := hf x (List.mem_of_getElem? hx)
        rw [F20.L4.succ, A1_len, ite'_t (lt_t hi), ite'_t (inR_t hi), A1_c0 hx, bindI_s, A1_c1 hx, bindL_s, A1_len, ite'_t (inR_t (show i < gs.length by omega)), A1_c0 hg, bindI_s, A1_c1 hg, bindL_s, next_i hi (m := fs.length) (by omega), c44 (k := k + 7) x (gs.getD i x) (by omega) (by omega), iB']
        have : (cmpF x (gs.getD i x) != 0) = !decide (x = gs.getD i x) := by rw [← cz]; rfl
        rw [this]; rfl
      unfold ia
      rw [F27.run, F20.run, g1, g2, bB, bB, ite'_t rfl, ite'_nt, A1_len, A1_len, ite'_f (by simp [hl]), e56, e20, bB]
      exact ⟨rfl, rfl⟩
    · refine ⟨false, fun k hk => ?_⟩
      obtain ⟨g1, g2⟩ := h1 (k + 8) (by omega)
      unfold ia
      rw [F27.run, F20.run, g1, g2, bB, bB, ite'_t rfl, ite'_nt, F56.run, A1_len, A1_len, ite'_t (by simp; omega), ite'_t (by simp; omega)]
      exact ⟨rfl, rfl⟩
end Go.Proofs.YtkkaikcjcjkpbaaGreat.Q

/-! VNj -/
namespace Go.Proofs.YtkkaikcjcjkpbaaGreat.Q
open Go Ovi
variable {k : Nat}
/-! ### a substitution of one null -/
def s1 (n : Int) : Ovi.Rows := [[.int .i64 n]]
theorem s1_at (n : Int) : cellI .i64 (s1 n) 0 0 = some n := rfl
def subOk (n w : Int) : Bool := decide ((0 : Int) ≤ n ∧ n ≤ 39) && okV w
theorem c113s (n w : Int) (hw : inI w) (hk : 100 ≤ k) : C (k + 5) 113 [.agg [.d (.list 1 (s1 n)), .d (.list 1 (s1 w))]] = bo (subOk n w) := by
  obtain ⟨j, rfl⟩ : ∃ j, k = j + 2 := ⟨k - 2, by omega⟩
  have e0 : F113.L4 (j + 2 + 4) (C (j + 2 + 4)) (j + 2 + 3 + 1) 0 (s1 n) (s1 w) = bo (subOk n w) := by
    have h1 : F113.L4 (j + 2 + 4) (C (j + 2 + 4)) (j + 2 + 2 + 1) 1 (s1 n) (s1 w) = bo true := by rw [F113.L4.succ]; rfl
    rw [F113.L4.succ, show decide ((0 : Int) < ((s1 n).length : Int)) = true from rfl, ite'_t rfl, show inR (0 : Int) (s1 n).length = true from rfl, ite'_t rfl, show ((0 : Int)).toNat = 0 from rfl, s1_at, bindI_s, c40, bB]
    unfold subOk
    cases decide ((0 : Int) ≤ n ∧ n ≤ 39) with
    | false => rfl
    | true =>
      rw [ite'_nt, show decide ((0 : Int) > 0) = false from rfl, ite'_f rfl, show inR (0 : Int) (s1 w).length = true from rfl, ite'_t rfl, s1_at, bindI_s, c103 (k := j + 2 + 1) hw, bB]
      cases okV w with
      | false => rfl
      | true => rw [ite'_nt]; exact h1
  rw [F113.run, show (((s1 n).length : Int) != ((s1 w).length : Int)) = false from rfl, ite'_f rfl]
  exact e0
theorem c156s (n w : Int) (hk : 100 ≤ k) : C (k + 5) 156 [.agg [.d (.list 1 (s1 n)), .d (.list 1 (s1 w))]] = bo (subOk n w) := by
  obtain ⟨j, rfl⟩ : ∃ j, k = j + 2 := ⟨k - 2, by omega⟩
  have e0 : F156.L4 (j + 2 + 4) (C (j + 2 + 4)) (j + 2 + 3 + 1) (s1 n) 1 0 (s1 n) (s1 w) = bo (subOk n w) := by
    have h1 : F156.L4 (j + 2 + 4) (C (j + 2 + 4)) (j + 2 + 2 + 1) (s1 n) 1 1 (s1 n) (s1 w) = bo true := by rw [F156.L4.succ]; rfl
    rw [F156.L4.succ, show decide ((0 : Int) < 1) = true from rfl, ite'_t rfl, show inR (0 : Int) (s1 n).length = true from rfl, ite'_t rfl, show ((0 : Int)).toNat = 0 from rfl, s1_at, bindI_s, c53, bB]
    unfold subOk
    cases decide ((0 : Int) ≤ n ∧ n ≤ 39) with
    | false => rfl
    | true =>
      rw [ite'_nt, show decide ((0 : Int) > 0) = false from rfl, ite'_f rfl, show inR (0 : Int) (s1 w).length = true from rfl, ite'_t rfl, s1_at, bindI_s, c120 (k := j + 2 + 2) w, bB]
      cases okV w with
      | false => rfl
      | true => rw [ite'_nt]; exact h1
  rw [F156.run, show (((s1 n).length : Int) != ((s1 w).length : Int)) = false from rfl, ite'_f rfl]
  exact e0
end Go.Proofs.YtkkaikcjcjkpbaaGreat.Q

/-! VNk -/
namespace Go.Proofs.YtkkaikcjcjkpbaaGreat.Q
open Go Ovi
variable {k : Nat}
def sv (n w v : Int) : Int := if v = neg n then w else v
/-- spec.ApplyToValue -/
theorem c143s (n w v : Int) (hn : subOk n w = true) (hw : inI w) (hk : 100 ≤ k) : C (k + 7) 143 [.agg [.d (.list 1 (s1 n)), .d (.list 1 (s1 w))], .d (.int .i64 v)] = io (sv n w v) := by
  have hn1 : (0 : Int) ≤ n ∧ n ≤ 39 := by
    unfold subOk at hn
    rw [Bool.and_eq_true, decide_eq_true_eq] at hn
    exact hn.1
  have hneg : IntKind.i64.wrap (-1 - n) = neg n := wrap_id (by omega) (by omega)
  have h1 : F143.L2 (k + 6) (C (k + 6)) (k + 4 + 1) v 1 (s1 n) (s1 w) = io v := by rw [F143.L2.succ]; rfl
  have e0 : F143.L2 (k + 6) (C (k + 6)) (k + 5 + 1) v 0 (s1 n) (s1 w) = io (sv n w v) := by
    rw [F143.L2.succ, show decide ((0 : Int) < ((s1 n).length : Int)) = true from rfl, ite'_t rfl, c113s (k := k + 1) n w hw (by omega), bB, hn, ite'_t rfl, show inR (0 : Int) (s1 n).length = true from rfl, ite'_t rfl, show ((0 : Int)).toNat = 0 from rfl, s1_at, bindI_s, F76.run, hneg]
    simp only [bindR_s, resI_s, bindI_s]
    unfold sv
    by_cases h : v = neg n
    · subst h
      rw [if_pos rfl, ite'_t (by simp), show inR (0 : Int) (s1 w).length = true from rfl, ite'_t rfl, s1_at, bindI_s]; rfl
    · rw [if_neg h, ite'_f (by simpa using fun e => h e.symm)]; exact h1
  rw [F143.run]
  exact e0
theorem c151s (n q : Int) (hk : 100 ≤ k) : C (k + 1) 151 [.d (.list 1 (s1 n)), .d (.int .i64 q)] = io (if q = n then 0 else -1) := by
  obtain ⟨j, rfl⟩ : ∃ j, k = j + 2 := ⟨k - 2, by omega⟩
  have h1 : F151.L2 (j + 2) (C (j + 2)) (j + 1) (s1 n) q 1 1 = io (-1) := by rw [F151.L2.succ]; rfl
  have e0 : F151.L2 (j + 2) (C (j + 2)) (j + 1 + 1) (s1 n) q 1 0 = io (if q = n then 0 else -1) := by
    rw [F151.L2.succ, show decide ((0 : Int) < 1) = true from rfl, ite'_t rfl, show inR (0 : Int) (s1 n).length = true from rfl, ite'_t rfl, show ((0 : Int)).toNat = 0 from rfl, s1_at, bindI_s]
    by_cases h : q = n
    · rw [if_pos h, ite'_t (by simpa using h)]; rfl
    · rw [if_neg h, ite'_f (by simpa using h)]; exact h1
  rw [F151.run]
  exact e0
/-- impl.ApplyToValue -/
theorem c167s (n w v : Int) (hn : subOk n w = true) (hv : inI v) (hk : 100 ≤ k) : C (k + 7) 167 [.agg [.d (.list 1 (s1 n)), .d (.list 1 (s1 w))], .d (.int .i64 v)] = io (sv n w v) := by
  have hn1 : (0 : Int) ≤ n ∧ n ≤ 39 := by
    unfold subOk at hn
    rw [Bool.and_eq_true, decide_eq_true_eq] at hn
    exact hn.1
  rw [F167.run, c135 (k := k + 4) hv, nnB, c151s (k := k + 5) n _ (by omega), iB', c156s (k := k + 1) n w (by omega), bB, hn]
  unfold sv
  cases hN : isN v with
  | false =>
    have := isN_f hN
    rw [if_neg (show ¬ v = neg n by unfold neg; omega)]; rfl
  | true =>
    rw [ite'_nt, if_pos rfl]
    by_cases h : v = neg n
    · have : -1 - v = n := by unfold neg at h; omega
      rw [if_pos h, if_pos this]; rfl
    · have : ¬ -1 - v = n := fun e => h (by unfold neg; omega)
      rw [if_neg h, if_neg this]; rfl
end Go.Proofs.YtkkaikcjcjkpbaaGreat.Q

/-! VNl -/
namespace Go.Proofs.YtkkaikcjcjkpbaaGreat.Q
open Go Ovi
variable {k : Nat}
def subF (n w : Int) (x : Atom) : Atom := (x.1, x.2.map (sv n w))
/-- spec.ApplyToFact -/
theorem c114s (n w : Int) (hn : subOk n w = true) (hw : inI w) (x : Atom) (hz : x.2.length ≤ 1048576) (hk : 2000000 ≤ k) : C (k + 9) 114 [.agg [.d (.list 1 (s1 n)), .d (.list 1 (s1 w))], .agg [.d (.int .i64 x.1), .d (.list 1 (I1 x.2))]] = some [(true, [.d (.int .i64 x.1), .row 3 1 (I1 (subF n w x).2)])] := by
  have hmax : (1048576 : Nat) ≤ maxLen := by decide
  have main : ∀ (m i j : Nat), i + m = x.2.length → m < j → F114.L3 (k + 8) (C (k + 8)) j (i : Int) (s1 n) (s1 w) x.1 (I1 x.2) 0 [] x.1 (I1 ((x.2.take i).map (sv n w))) = some [(true, [.d (.int .i64 x.1), .row 3 1 (I1 (subF n w x).2)])] := by
    intro m
    induction m with
    | zero =>
      intro i j hm hj
      obtain ⟨j, rfl⟩ : ∃ q, j = q + 1 := ⟨j - 1, by omega⟩
      obtain rfl : i = x.2.length := by omega
      rw [F114.L3.succ, I1_len, ite'_f (lt_f (by omega)), List.take_length]
      rfl
    | succ m ih =>
      intro i j hm hj
      obtain ⟨j, rfl⟩ : ∃ q, j = q + 1 := ⟨j - 1, by omega⟩
      have hi : i < x.2.length := by omega
      have hg := List.getElem?_eq_getElem hi
      have := ih (i + 1) j (by omega) (by omega)
      rw [List.take_succ_eq_append_getElem hi, List.map_append, List.map_singleton] at this
      rw [F114.L3.succ, I1_len, ite'_t (lt_t hi), ite'_t (inR_t hi), I1_c hg, bindI_s, c143s (k := k + 1) n w x.2[i] hn hw (by omega), iB', ite'_t (fits_t (by rw [I1_len, List.length_map, List.length_take]; simp only [List.length_cons, List.length_nil]; omega)), next_i hi (m := x.2.length) (by omega), I1_snoc]
      exact this
  rw [F114.run]
  exact main x.2.length 0 (k + 8) (by omega) (by omega)
/-- impl.ApplyToFact -/
theorem c157s (n w : Int) (hn : subOk n w = true) (x : Atom) (hI : ∀ v ∈ x.2, inI v) (hz : x.2.length ≤ 1048576) (hk : 2000000 ≤ k) : C (k + 9) 157 [.agg [.d (.list 1 (s1 n)), .d (.list 1 (s1 w))], .agg [.d (.int .i64 x.1), .d (.list 1 (I1 x.2))]] = some [(true, [.d (.int .i64 x.1), .row 3 1 (I1 (subF n w x).2)])] := by
  have hmax : (1048576 : Nat) ≤ maxLen := by decide
  have main : ∀ (m i j : Nat) (cur : List Int), i + m = x.2.length → m < j → cur = (x.2.take i).map (sv n w) ++ x.2.drop i → F157.L3 (k + 8) (C (k + 8)) j (I1 x.2) (x.2.length : Int) (i : Int) (s1 n) (s1 w) 0 [] x.1 (I1 cur) = some [(true, [.d (.int .i64 x.1), .row 3 1 (I1 (subF n w x).2)])] := by
    intro m
    induction m with
    | zero =>
      intro i j cur hm hj hc
      obtain ⟨j, rfl⟩ : ∃ q, j = q + 1 := ⟨j - 1, by omega⟩
      obtain rfl : i = x.2.length := by omega
      rw [List.take_length, List.drop_length, List.append_nil] at hc
      subst hc
      rw [F157.L3.succ, ite'_f (lt_f (by omega))]
      rfl
    | succ m ih =>
      intro i j cur hm hj hc
      obtain ⟨j, rfl⟩ : ∃ q, j = q + 1 := ⟨j - 1, by omega⟩
      have hi : i < x.2.length := by omega
      have hg := List.getElem?_eq_getElem hi
      have hcl : cur.length = x.2.length := by rw [hc]; simp; omega
      rw [F157.L3.succ, ite'_t (lt_t hi), I1_len, ite'_t (inR_t hi), I1_c hg, bindI_s, c167s (k := k + 1) n w x.2[i] hn (hI _ (List.getElem_mem hi)) (by omega), iB', I1_len, ite'_t (inR_t (show i < cur.length by omega)), next_i hi (m := x.2.length) (by omega), Int.toNat_natCast, rowsSet_I1 _ (show i < cur.length by omega)]
      refine ih (i + 1) j _ (by omega) (by omega) ?_
      rw [hc, List.take_succ_eq_append_getElem hi, List.map_append, List.map_singleton, List.drop_eq_getElem_cons hi, List.append_assoc, List.singleton_append]
      have hz0 : i - ((x.2.take i).map (sv n w)).length = 0 := by rw [List.length_map, List.length_take]; omega
      rw [List.set_append_right _ _ (by rw [List.length_map, List.length_take]; omega), hz0, List.set_cons_zero]
  rw [F157.run, c131 (k := k + 6) x hz]
  show F157.L3 (k + 8) (C (k + 8)) (k + 8) (I1 x.2) ((I1 x.2).length : Int) 0 (s1 n) (s1 w) 0 [] x.1 (I1 x.2) = _
  rw [I1_len]
  exact main x.2.length 0 (k + 8) x.2 (by omega) (by omega) (by simp)
end Go.Proofs.YtkkaikcjcjkpbaaGreat.Q

/-! VNm -/
namespace Go.Proofs.YtkkaikcjcjkpbaaGreat.Q
open Go Ovi
variable {k : Nat}
theorem rowsSet_A1 {M : List Atom} {i : Nat} (z : Atom) (h : i < M.length) : rowsSet (A1 M) i 0 [.int .i64 z.1, .list 1 (I1 z.2)] = A1 (M.set i z) := by
  have : (A1 M).getD i [] = [.int .i64 (M[i]).1, .list 1 (I1 (M[i]).2)] := by simp [A1, List.getD, h]
  unfold rowsSet
  rw [this]
  simp [A1, List.map_set]
def subI (n w : Int) (fs : List Atom) : List Atom := can (fs.map (subF n w))
theorem subF_short {n w : Int} {fs : List Atom} (hf : ∀ x ∈ fs, x.2.length ≤ 1048576) : ∀ z ∈ fs.map (subF n w), z.2.length ≤ 1048576 := by
  intro z hz
  obtain ⟨x, hx, rfl⟩ := List.mem_map.1 hz
  have := hf x hx
  simpa [subF] using this
theorem R54 {r : Res} {a b : Ovi.Rows} {f : Ovi.Rows → Ovi.Rows → Option Res} (h1 : resL 3 1 true 2 r 0 0 = some a) (h2 : resL 2 1 true 2 r 0 1 = some b) : (bindR (some r) fun r20 => bindL (resL 3 1 true 2 r20 0 0) fun l21 => bindL (resL 2 1 true 2 r20 0 1) fun l22 => f l21 l22) = f a b := by
  rw [bindR_s, h1, bindL_s, h2, bindL_s]
theorem aF {r : Int} {vs : Ovi.Rows} {f : Int → Ovi.Rows → Option Res} : (bindR (some [(true, [.d (.int .i64 r), .row 3 1 vs])]) fun r16 => bindI (resI .i64 1 true 2 r16 0 0) fun n17 => bindL (resO 3 1 1 true 2 r16 0 1) fun l18 => f n17 l18) = f r vs := rfl
theorem aI {a b : Ovi.Rows} {f : Ovi.Rows → Ovi.Rows → Option Res} : (bindR (some [(true, [.row 93 3 a, .row 90 2 b])]) fun r16 => bindL (resO 93 3 1 true 2 r16 0 0) fun l17 => bindL (resO 90 2 1 true 2 r16 0 1) fun l18 => f l17 l18) = f a b := rfl
/-- impl.ApplyToInstance -/
theorem c136s {a : Ovi.Rows} {fs : List Atom} (n w : Int) (hn : subOk n w = true) (hi : Inst a fs true) (ha2 : a.length ≤ 1048576) (hf : ∀ x ∈ fs, x.2.length ≤ 1048576) (hI : ∀ x ∈ fs, ∀ v ∈ x.2, inI v) (hl : fs.length ≤ 1048576) (hk : 2000000 ≤ k) :
    C (k + 11) 136 [.agg [.d (.list 1 (s1 n)), .d (.list 1 (s1 w))], ia a fs] = some [(true, [.row 93 3 a, .row 90 2 (A1 (subI n w fs))]), (false, [.d (.bool true)])] := by
  have hmax : (1048576 : Nat) ≤ maxLen := by decide
  have main : ∀ (m i j : Nat) (cur : List Atom), i + m = fs.length → m < j → cur = (fs.take i).map (subF n w) ++ fs.drop i → F136.L5 (k + 10) (C (k + 10)) j (A1 fs) (fs.length : Int) (i : Int) (s1 n) (s1 w) [] [] a (A1 cur) = some [(true, [.row 93 3 a, .row 90 2 (A1 (subI n w fs))]), (false, [.d (.bool true)])] := by
    intro m
    induction m with
    | zero =>
      intro i j cur hm hj hc
      obtain ⟨j, rfl⟩ : ∃ q, j = q + 1 := ⟨j - 1, by omega⟩
      obtain rfl : i = fs.length := by omega
      rw [List.take_length, List.drop_length, List.append_nil] at hc
      subst hc
      rw [F136.L5.succ, ite'_f (lt_f (by omega)), c99 (k := k + 6) (fs.map (subF n w)) (subF_short hf) (by rw [List.length_map]; omega) (by omega)]
      rfl
    | succ m ih =>
      intro i j cur hm hj hc
      obtain ⟨j, rfl⟩ : ∃ q, j = q + 1 := ⟨j - 1, by omega⟩
      have hi : i < fs.length := by omega
      have hg := List.getElem?_eq_getElem hi
      have hgm := List.getElem_mem hi
      have hcl : cur.length = fs.length := by rw [hc]; simp; omega
      rw [F136.L5.succ, ite'_t (lt_t hi), A1_len, ite'_t (inR_t hi), A1_c0 hg, bindI_s, A1_c1 hg, bindL_s, c157s (k := k + 1) n w hn fs[i] (hI _ hgm) (hf _ hgm) (by omega), aF, A1_len, ite'_t (inR_t (show i < cur.length by omega)), next_i hi (m := fs.length) (by omega), Int.toNat_natCast]
      have e := rowsSet_A1 (M := cur) (i := i) (subF n w fs[i]) (by omega)
      rw [show (fs[i]).1 = (subF n w fs[i]).1 from rfl, e]
      refine ih (i + 1) j _ (by omega) (by omega) ?_
      have hz0 : i - ((fs.take i).map (subF n w)).length = 0 := by rw [List.length_map, List.length_take]; omega
      rw [hc, List.take_succ_eq_append_getElem hi, List.map_append, List.map_singleton, List.drop_eq_getElem_cons hi, List.append_assoc, List.singleton_append]
      rw [List.set_append_right _ _ (by rw [List.length_map, List.length_take]; omega), hz0, List.set_cons_zero]
  have h50 := (hi (k + 2) (by omega)).1
  unfold ia at *
  rw [F136.run, c156s (k := k + 5) n w (by omega), bB, hn, ite'_nt, h50, bB, ite'_nt, c52 (k := k + 6) ha2 fs hf hl (by omega), aI, A1_len]
  exact main fs.length 0 (k + 10) fs (by omega) (by omega) (by simp)
end Go.Proofs.YtkkaikcjcjkpbaaGreat.Q

/-! VNn -/
namespace Go.Proofs.YtkkaikcjcjkpbaaGreat.Q
open Go Ovi
variable {k : Nat}
/-- spec.ApplyToInstance -/
theorem c73s {a : Ovi.Rows} {fs : List Atom} (n w : Int) (hn : subOk n w = true) (hw : inI w) (hi : Inst a fs true) (ha2 : a.length ≤ 1048576) (hf : ∀ x ∈ fs, x.2.length ≤ 1048576) (hl : fs.length ≤ 1000000) (hk : 2000000 ≤ k) :
    C (k + 11) 73 [.agg [.d (.list 1 (s1 n)), .d (.list 1 (s1 w))], ia a fs] = some [(true, [.row 93 3 a, .row 90 2 (A1 (subI n w fs))]), (false, [.d (.bool true)])] := by
  have hmax : (1048576 : Nat) ≤ maxLen := by decide
  have hcl : (subI n w fs).length ≤ fs.length := by
    have := can_len (fs.map (subF n w))
    rw [List.length_map] at this
    exact this
  have main : ∀ (m i j : Nat) (gs : List Atom), i + m = fs.length → m < j → SSA gs → (∀ z, z ∈ gs ↔ z ∈ (fs.take i).map (subF n w)) → gs.length ≤ i → F73.L5 (k + 10) (C (k + 10)) j (i : Int) (s1 n) (s1 w) a (A1 fs) [] [] a (A1 gs) = some [(true, [.row 93 3 a, .row 90 2 (A1 (subI n w fs))]), (false, [.d (.bool true)])] := by
    intro m
    induction m with
    | zero =>
      intro i j gs hm hj hS hmem hgl
      obtain ⟨j, rfl⟩ : ∃ q, j = q + 1 := ⟨j - 1, by omega⟩
      obtain rfl : i = fs.length := by omega
      have e : gs = subI n w fs := by
        refine ssA_eq hS (ssA_compact _) fun z => ?_
        rw [hmem z, List.take_length]
        exact (mem_can _ _).symm
      subst e
      rw [F73.L5.succ, A1_len, ite'_f (lt_f (by omega)), c39 (k := k + 7) ha2 (subI n w fs) (fun z hz => subF_short hf z ((mem_can _ _).1 hz)) (by omega) (by omega), aI]
    | succ m ih =>
      intro i j gs hm hj hS hmem hgl
      obtain ⟨j, rfl⟩ : ∃ q, j = q + 1 := ⟨j - 1, by omega⟩
      have hi : i < fs.length := by omega
      have hg := List.getElem?_eq_getElem hi
      have hgm := List.getElem_mem hi
      have hgx : ∀ x ∈ gs, x.2.length ≤ 1048576 := by
        intro z hz
        obtain ⟨x, hx', rfl⟩ := List.mem_map.1 ((hmem z).1 hz)
        have := hf x (List.mem_of_mem_take hx')
        simpa [subF] using this
      obtain ⟨r, ws, e1, e2, e3, e4, e5, e6⟩ := c78 (k := k + 5) (a := a) gs (subF n w fs[i]) hS hgx (by have := hf _ hgm; simpa [subF] using this) (by omega) (by omega)
      rw [F73.L5.succ, A1_len, ite'_t (lt_t hi), ite'_t (inR_t hi), A1_c0 hg, bindI_s, A1_c1 hg, bindL_s, c114s (k := k + 1) n w hn hw fs[i] (hf _ hgm) (by omega), aF]
      rw [show (C (k + 10) 78 [.agg [.d (.list 3 a), .d (.list 2 (A1 gs))], .agg [.d (.int .i64 (fs[i]).1), .d (.list 1 (I1 (subF n w fs[i]).2))]]) = some r from e1, R54 e2 e3, next_i hi (m := fs.length) (by omega)]
      refine ih (i + 1) j ws (by omega) (by omega) e4 (fun z => ?_) (by omega)
      rw [e5, hmem, List.take_succ_eq_append_getElem hi, List.map_append, List.mem_append, List.map_singleton, List.mem_singleton]
  have h37 := (hi (k + 2) (by omega)).2
  unfold ia at *
  rw [F73.run, c113s (k := k + 5) n w hw (by omega), bB, hn, ite'_nt, h37, bB, ite'_nt, ite'_t (fits_t (by omega))]
  exact main fs.length 0 (k + 10) [] (by omega) (by omega) (by simp [SSA]) (by simp) (Nat.zero_le _)
end Go.Proofs.YtkkaikcjcjkpbaaGreat.Q

/-! VNo -/
namespace Go.Proofs.YtkkaikcjcjkpbaaGreat.Q
open Go Ovi
variable {k : Nat}
/-! ### instances that both sides find valid -/
structure Gd (a : Ovi.Rows) (fs : List Atom) : Prop where
  fit : Fit Rl (.list 3 a)
  hal : a.length ≤ 1048576
  hI : ∀ x ∈ fs, ∀ z ∈ x.2, inI z
  hs : terms fs + fs.length ≤ 1048576
structure Vl (a : Ovi.Rows) (fs : List Atom) : Prop where
  ss : SSA fs
  l3 : ∀ x ∈ fs, x.2.length ≤ 3
  n30 : fs.length ≤ 30
  rel : ∀ x ∈ fs, 0 ≤ x.1 ∧ x.1 < (a.length : Int)
  ar3 : ∀ r : Int, 0 ≤ r → r < (a.length : Int) → ar a r ≤ 3
theorem ssA_chain : ∀ {l : List Atom}, (∀ (i : Nat) x y, l[i]? = some x → l[i + 1]? = some y → ltA x y = true) → SSA l
  | [], _ => by simp [SSA]
  | [x], _ => by simp [SSA]
  | x :: y :: l, h => by
    have h1 := ssA_chain (l := y :: l) (fun i a b ha hb => h (i + 1) a b ha hb)
    have h0 := h 0 x y rfl rfl
    refine List.pairwise_cons.2 ⟨fun z hz => ?_, h1⟩
    rcases List.mem_cons.1 hz with rfl | hz
    · exact h0
    · exact swoA.trans _ _ _ h0 ((List.pairwise_cons.1 h1).1 z hz)
theorem terms_le3 {fs : List Atom} (h : ∀ x ∈ fs, x.2.length ≤ 3) : terms fs ≤ 3 * fs.length := by
  induction fs with
  | nil => simp [terms]
  | cons x l ih =>
    have h1 := ih (fun y hy => h y (List.mem_cons_of_mem _ hy))
    have h2 := h x List.mem_cons_self
    simp only [terms, List.map_cons, List.sum_cons, List.length_cons] at *
    omega
theorem Gd.inst {a : Ovi.Rows} {fs : List Atom} (h : Gd a fs) : ∃ ib, InstY a fs ib ∧ (ib = true → Vl a fs) := by
  have hs := h.hs
  obtain ⟨ib, h1, h2⟩ := instB3 h.fit fs h.hI (by omega) h.hal
  refine ⟨ib, ⟨h.hal, h2, fun hb => (h1 hb).1, fun x hx => by have := len_terms hx; omega, by omega⟩, fun hb => ?_⟩
  obtain ⟨⟨g1, g2⟩, g3, g4, g5⟩ := h1 hb
  exact ⟨ssA_chain fun i x y hx hy => by unfold ltA; rw [← cmpF_A, decide_eq_true_eq]; exact g4 i x y hx hy, g3, g1, fun x hx => (g2 x hx).1, g5⟩
theorem Gd.fx {a : Ovi.Rows} {fs : List Atom} (h : Gd a fs) : ∀ x ∈ fs, x.2.length ≤ 1048576 := fun x hx => by
  have := len_terms hx
  have := h.hs
  omega
/-- few short facts -/
theorem Gd.of3 {a : Ovi.Rows} {fs gs : List Atom} (h : Gd a fs) (hI : ∀ x ∈ gs, ∀ z ∈ x.2, inI z) (h3 : ∀ x ∈ gs, x.2.length ≤ 3) (hn : gs.length ≤ 30) : Gd a gs :=
  ⟨h.fit, h.hal, hI, by have := terms_le3 h3; omega⟩
end Go.Proofs.YtkkaikcjcjkpbaaGreat.Q

/-! VNp -/
namespace Go.Proofs.YtkkaikcjcjkpbaaGreat.Q
open Go Ovi
variable {k : Nat}
/-! ### a step of a tuple-generating dependency -/
def hd (b : List Int) (x : Atom) : Atom := match insG b x.2 with
  | some vs => (x.1, vs)
  | none => (0, [])
def setE (b : List Int) : List Int → Int → List Int
  | [], _ => b
  | z :: zs, n => setE (b.set z.toNat (neg n)) zs (n + 1)
theorem setE_len : ∀ (ev : List Int) (b : List Int) (n : Int), (setE b ev n).length = b.length
  | [], b, n => rfl
  | z :: zs, b, n => by rw [setE, setE_len, List.length_set]
theorem setE_in : ∀ (ev : List Int) (b : List Int) (n : Int), (∀ v ∈ b, inI v) → 0 ≤ n → n + ev.length ≤ 1048576 → ∀ v ∈ setE b ev n, inI v
  | [], b, n, h, h1, h2 => h
  | z :: zs, b, n, h, h1, h2 => by
    rw [setE]
    rw [List.length_cons] at h2
    refine setE_in zs _ _ (fun v hv => ?_) (by omega) (by omega)
    rcases List.mem_or_eq_of_mem_set hv with hv | rfl
    · exact h v hv
    · unfold inI neg; omega
theorem insG_map {b : List Int} : ∀ {ts vs : List Int}, insG b ts = some vs → (∀ t ∈ ts, okV (val b t) = true) ∧ vs = ts.map (val b)
  | [], vs, h => by cases h; exact ⟨by simp, rfl⟩
  | t :: ts, vs, h => by
    rw [insG] at h
    by_cases hok : okV (val b t) = true
    · rw [if_pos hok] at h
      obtain ⟨ws, hw, rfl⟩ := Option.map_eq_some_iff.1 h
      obtain ⟨h1, h2⟩ := insG_map hw
      refine ⟨fun t' ht => ?_, by rw [h2]; rfl⟩
      rcases List.mem_cons.1 ht with rfl | ht
      · exact hok
      · exact h1 t' ht
    · rw [if_neg hok] at h; cases h
theorem okV_in {v : Int} (h : okV v = true) : inI v := by
  unfold okV at h
  rw [decide_eq_true_eq] at h
  unfold inI; omega
theorem hd_len (b : List Int) (x : Atom) : (hd b x).2.length ≤ x.2.length := by
  unfold hd
  cases h : insG b x.2 with
  | none => simp
  | some vs => exact Nat.le_of_eq (insG_len h)
theorem hd_in (b : List Int) (x : Atom) : ∀ v ∈ (hd b x).2, inI v := by
  unfold hd
  cases h : insG b x.2 with
  | none => simp
  | some vs =>
    obtain ⟨h1, h2⟩ := insG_map h
    intro v hv
    replace hv : v ∈ vs := hv
    rw [h2] at hv
    obtain ⟨t, ht, rfl⟩ := List.mem_map.1 hv
    exact okV_in (h1 t ht)
/-- the facts behind it -/
def tf (fs : List Atom) (d : Dep) (b ev : List Int) : List Atom := can (fs ++ d.head.map (hd (setE b ev (nx fs))))
def tg (fs : List Atom) (d : Dep) (b ev : List Int) : List Atom × Int :=
  if nx fs + (ev.length : Int) > 40 then (fs, 3) else if ((tf fs d b ev).length : Int) > 30 then (fs, 3) else (tf fs d b ev, 1)
def pr (a : Ovi.Rows) (fs : List Atom) (c : Int) : Option Res := some [(true, [.row 93 3 a, .row 90 2 (A1 fs)]), (false, [.d (.int .i64 c)])]
theorem c52x {a : Ovi.Rows} {fs : List Atom} {f : Ovi.Rows → Ovi.Rows → Option Res} : (bindR (some [(true, [.row 93 3 a, .row 90 2 (A1 fs)])]) fun r16 => bindL (resO 93 3 1 true 2 r16 0 0) fun l22 => bindL (resO 90 2 1 true 2 r16 0 1) fun l18 => f l22 l18) = f a (A1 fs) := rfl
def hr (r : Int) (o : Option (List Int)) : Int := match o with
  | some _ => r
  | none => 0
/-- okO for a reader -/
theorem okO_r {r : Int} {o : Option (List Int)} {f : Int → Ovi.Rows → Bool → Option Res} : (bindR (okO r [] o) fun r16 => bindI (resI .i64 2 true 2 r16 0 0) fun n17 => bindL (resO 3 1 2 true 2 r16 0 1) fun l18 => bindB (resB 2 false 1 r16 1 0) fun b19 => f n17 l18 b19) = f (hr r o) (I1 (o.getD [])) o.isSome := by
  cases o <;> rfl
theorem hd_eq (b : List Int) (x : Atom) : hd b x = (hr x.1 (insG b x.2), (insG b x.2).getD []) := by
  unfold hd
  cases insG b x.2 <;> rfl
/-- impl.ApplyTrigger, a tuple-generating dependency -/
theorem l54 {a : Ovi.Rows} {fs : List Atom} (hg : Gd a fs) (hv : Vl a fs) (d : Dep) (hT : ∀ x ∈ d.head, okT x.2) (hz : Dsz d) (hh : d.head.length ≤ 2) (b ev : List Int) (hb : b.length = 5) (he : ∀ z ∈ ev, 0 ≤ z ∧ z ≤ 4) (hel : ev.length ≤ 1000000) (hn40 : 0 ≤ nx fs ∧ nx fs ≤ 40) (hk : 2000000 ≤ k) :
    F54.L8 (k + 20) (C (k + 20)) (k + 20) (nx fs) (ev.length : Int) 0 a (A1 fs) [] [] (A1 d.body) (A1 d.head) d.egd d.l d.r (I1 b) (I1 ev) = pr a (tg fs d b ev).1 (tg fs d b ev).2 := by
  have hmax : (1048576 : Nat) ≤ maxLen := by decide
  have hs := hg.hs
  have hn30 := hv.n30
  have hcp : C (k + 20) 52 [.agg [.d (.list 3 a), .d (.list 2 (A1 fs))]] = some [(true, [.row 93 3 a, .row 90 2 (A1 fs)])] := c52 (k := k + 16) hg.hal fs hg.fx (by omega) (by omega)
  have key : ∀ (b' : List Int) (nxt : Int), b'.length = 5 → nxt = nx fs + (ev.length : Int) → b' = setE b ev (nx fs) → F54.L15 (k + 20) (C (k + 20)) (k + 20) (I1 b') nxt (A1 d.head) (d.head.length : Int) 0 a (A1 fs) [] [] a (A1 fs) = pr a (tg fs d b ev).1 (tg fs d b ev).2 := by
    intro b' nxt hb' hnx hbe
    have main : ∀ (m i n : Nat), i + m = d.head.length → m < n → F54.L15 (k + 20) (C (k + 20)) n (I1 b') nxt (A1 d.head) (d.head.length : Int) (i : Int) a (A1 fs) [] [] a (A1 (fs ++ (d.head.take i).map (hd b'))) = pr a (tg fs d b ev).1 (tg fs d b ev).2 := by
      intro m
      induction m with
      | zero =>
        intro i n hm hn
        obtain ⟨n, rfl⟩ : ∃ j, n = j + 1 := ⟨n - 1, by omega⟩
        obtain rfl : i = d.head.length := by omega
        have e99 := c99 (k := k + 16) (fs ++ d.head.map (hd b')) (fun x hx => by
          rcases List.mem_append.1 hx with hx | hx
          · exact hg.fx x hx
          · obtain ⟨y, hy, rfl⟩ := List.mem_map.1 hx
            have h1 := hd_len b' y
            have h2 := len_terms hy
            have h3 := hz.2
            omega) (by rw [List.length_append, List.length_map]; omega) (by omega)
        rw [F54.L15.succ, ite'_f (lt_f (by omega)), List.take_length, e99]
        simp only [bindR_s, resO_s, bindL_s]
        have hx : can (fs ++ d.head.map (hd b')) = tf fs d b ev := by unfold tf; rw [hbe]
        rw [hx, A1_len]
        unfold tg
        by_cases h1 : nxt > 40
        · rw [ite'_t (by simpa using h1), if_pos (by omega), hcp, c52x]
          rfl
        · rw [ite'_f (by simpa using h1), if_neg (by omega)]
          by_cases h2 : ((tf fs d b ev).length : Int) > 30
          · rw [ite'_t (by simpa using h2), if_pos h2, hcp, c52x]
            rfl
          · rw [ite'_f (by simpa using h2), if_neg h2]
            rfl
      | succ m ih =>
        intro i n hm hn
        obtain ⟨n, rfl⟩ : ∃ j, n = j + 1 := ⟨n - 1, by omega⟩
        have hi : i < d.head.length := by omega
        have hgt := List.getElem?_eq_getElem hi
        have hm2 := List.getElem_mem hi
        have hlt := len_terms hm2
        have hz2 := hz.2
        have := ih (i + 1) n (by omega) (by omega)
        rw [List.take_succ_eq_append_getElem hi, List.map_append, List.map_singleton, ← List.append_assoc] at this
        rw [F54.L15.succ, ite'_t (lt_t hi), A1_len, ite'_t (inR_t hi), A1_c0 hgt, bindI_s, A1_c1 hgt, bindL_s, c98g (k := k + 17) d.head[i] b' (hT _ hm2) (by omega) hb' (by omega), okO_r, next_i hi (m := d.head.length) (by omega), A1_len, ite'_t (fits_t (by rw [List.length_append, List.length_map, List.length_take]; simp only [List.length_cons, List.length_nil]; omega))]
        rw [hd_eq, ← A1_snoc] at this
        exact this
    have := main d.head.length 0 (k + 20) (by omega) (by omega)
    simpa using this
  have outer : ∀ (m i n : Nat) (b' : List Int) (nxt : Int), i + m = ev.length → m < n → b'.length = 5 → nxt = nx fs + (i : Int) → setE b' (ev.drop i) nxt = setE b ev (nx fs) →
      F54.L8 (k + 20) (C (k + 20)) n nxt (ev.length : Int) (i : Int) a (A1 fs) [] [] (A1 d.body) (A1 d.head) d.egd d.l d.r (I1 b') (I1 ev) = pr a (tg fs d b ev).1 (tg fs d b ev).2 := by
    intro m
    induction m with
    | zero =>
      intro i n b' nxt hm hn hb' hx hse
      obtain ⟨n, rfl⟩ : ∃ j, n = j + 1 := ⟨n - 1, by omega⟩
      obtain rfl : i = ev.length := by omega
      rw [List.drop_length] at hse
      rw [F54.L8.succ, ite'_f (lt_f (by omega)), hcp, c52x, A1_len]
      exact key b' nxt hb' hx hse
    | succ m ih =>
      intro i n b' nxt hm hn hb' hx hse
      obtain ⟨n, rfl⟩ : ∃ j, n = j + 1 := ⟨n - 1, by omega⟩
      have hi : i < ev.length := by omega
      have hgt := List.getElem?_eq_getElem hi
      obtain ⟨z0, z4⟩ := he _ (List.getElem_mem hi)
      obtain ⟨q, hq⟩ : ∃ q : Nat, ev[i] = (q : Int) := ⟨ev[i].toNat, by omega⟩
      have hq5 : q < b'.length := by omega
      rw [List.drop_eq_getElem_cons hi, setE] at hse
      rw [F54.L8.succ, ite'_t (lt_t hi), I1_len, ite'_t (inR_t hi), I1_c hgt, bindI_s, show (C (k + 20) 97 [.d (.int .i64 nxt)]) = io (neg nxt) from by rw [F97.run, wrap_id (by omega) (by omega)]; rfl, iB', hq, I1_len, ite'_t (inR_t hq5), next_i hi (m := ev.length) (by omega), wrap_id (n := nxt + 1) (by omega) (by omega)]
      rw [show ((q : Int)).toNat = q from rfl, rowsSet_I1 _ hq5]
      rw [hq] at hse
      exact ih (i + 1) n _ _ (by omega) (by omega) (by rw [List.length_set]; exact hb') (by omega) hse
  exact outer ev.length 0 (k + 20) b (nx fs) (by omega) (by omega) hb (by simp) rfl
end Go.Proofs.YtkkaikcjcjkpbaaGreat.Q

/-! VNq -/
namespace Go.Proofs.YtkkaikcjcjkpbaaGreat.Q
open Go Ovi
variable {k : Nat}
/-- a result that reads so -/
def Sp (r : Option Res) (a : Ovi.Rows) (fs : List Atom) (c : Int) : Prop := ∃ r', r = some r' ∧ resL 3 2 true 2 r' 0 0 = some a ∧ resL 2 2 true 2 r' 0 1 = some (A1 fs) ∧ resI .i64 2 false 1 r' 1 0 = some c
theorem Sp.pr (a : Ovi.Rows) (fs : List Atom) (c : Int) : Sp (pr a fs c) a fs c := ⟨_, rfl, rfl, rfl, by simp [resI, leafD, asI_s]⟩
theorem Sp.d (a : Ovi.Rows) (fs : List Atom) (c : Int) : Sp (some [(true, [.d (.list 3 a), .d (.list 2 (A1 fs))]), (false, [.d (.int .i64 c)])]) a fs c := ⟨_, rfl, by simp [resL, leafD, D.asL], by simp [resL, leafD, D.asL], by simp [resI, leafD, asI_s]⟩
/-- spec.ApplyTrigger, a tuple-generating dependency -/
theorem l42 {a : Ovi.Rows} {fs : List Atom} (hg : Gd a fs) (hv : Vl a fs) (d : Dep) (hT : ∀ x ∈ d.head, okT x.2) (hz : Dsz d) (hh : d.head.length ≤ 2) (b ev : List Int) (hb : b.length = 5) (hbI : ∀ v ∈ b, inI v) (he : ∀ z ∈ ev, 0 ≤ z ∧ z ≤ 4) (hel : ev.length ≤ 1000000) (hn40 : 0 ≤ nx fs ∧ nx fs ≤ 40) (hk : 2000000 ≤ k) :
    Sp (F42.L15 (k + 20) (C (k + 20)) (k + 20) 0 a (A1 fs) (A1 d.body) (A1 d.head) d.egd d.l d.r [] [] a (A1 fs) (I1 b) (I1 ev)) a (tg fs d b ev).1 (tg fs d b ev).2 := by
  have hmax : (1048576 : Nat) ≤ maxLen := by decide
  have hs := hg.hs
  have hn30 := hv.n30
  have key : ∀ (b' : List Int), b'.length = 5 → (∀ v ∈ b', inI v) → nx fs + (ev.length : Int) ≤ 40 → b' = setE b ev (nx fs) → Sp (F42.L23 (k + 20) (C (k + 20)) (k + 20) (I1 b') 0 (A1 d.body) (A1 d.head) d.egd d.l d.r [] [] a (A1 fs) a (A1 fs)) a (tg fs d b ev).1 (tg fs d b ev).2 := by
    intro b' hb' hbI' hle hbe
    have main : ∀ (m i n : Nat) (gs : List Atom), i + m = d.head.length → m < n → SSA gs → (∀ z, z ∈ gs ↔ z ∈ fs ++ (d.head.take i).map (hd b')) → gs.length ≤ fs.length + i → Sp (F42.L23 (k + 20) (C (k + 20)) n (I1 b') (i : Int) (A1 d.body) (A1 d.head) d.egd d.l d.r [] [] a (A1 fs) a (A1 gs)) a (tg fs d b ev).1 (tg fs d b ev).2 := by
      intro m
      induction m with
      | zero =>
        intro i n gs hm hn hS hmem hgl
        obtain ⟨n, rfl⟩ : ∃ j, n = j + 1 := ⟨n - 1, by omega⟩
        obtain rfl : i = d.head.length := by omega
        have e : gs = tf fs d b ev := by
          refine ssA_eq hS (ssA_compact _) fun z => ?_
          rw [hmem z, List.take_length, hbe]
          exact (mem_can _ _).symm
        subst e
        rw [F42.L23.succ, A1_len, A1_len, ite'_f (lt_f (by omega))]
        unfold tg
        rw [if_neg (by omega)]
        by_cases h2 : ((tf fs d b ev).length : Int) > 30
        · rw [ite'_t (by simpa using h2), if_pos h2]
          exact Sp.d a fs 3
        · rw [ite'_f (by simpa using h2), if_neg h2, c39 (k := k + 17) hg.hal (tf fs d b ev) (fun z hz' => by
            rcases List.mem_append.1 ((mem_can _ _).1 hz') with hx | hx
            · exact hg.fx z hx
            · obtain ⟨y, hy, rfl⟩ := List.mem_map.1 hx
              have h1 := hd_len (setE b ev (nx fs)) y
              have h2 := len_terms hy
              have h3 := hz.2
              omega) (by omega) (by omega), c52x]
          exact Sp.pr a _ 1
      | succ m ih =>
        intro i n gs hm hn hS hmem hgl
        obtain ⟨n, rfl⟩ : ∃ j, n = j + 1 := ⟨n - 1, by omega⟩
        have hi : i < d.head.length := by omega
        have hgt := List.getElem?_eq_getElem hi
        have hm2 := List.getElem_mem hi
        have hlt := len_terms hm2
        have hz2 := hz.2
        have hl2 := hd_len b' d.head[i]
        obtain ⟨r, ws, e1, e2, e3, e4, e5, e6⟩ := c78 (k := k + 15) (a := a) gs (hd b' d.head[i]) hS (fun z hz' => by
            rcases List.mem_append.1 ((hmem z).1 hz') with hx | hx
            · exact hg.fx z hx
            · obtain ⟨y, hy, rfl⟩ := List.mem_map.1 hx
              have h1 := hd_len b' y
              have h2 := len_terms (List.mem_of_mem_take hy)
              have h3 := hz.2
              omega) (by omega) (by omega) (by omega)
        rw [F42.L23.succ, A1_len, ite'_t (lt_t hi), ite'_t (inR_t hi), A1_c0 hgt, bindI_s, A1_c1 hgt, bindL_s, c77g (k := k + 16) d.head[i] b' (hT _ hm2) (by omega) hb' hbI' (by omega), okO_r, next_i hi (m := d.head.length) (by omega)]
        rw [show hd b' d.head[i] = (hr d.head[i].1 (insG b' d.head[i].2), (insG b' d.head[i].2).getD []) from hd_eq _ _] at e1
        rw [show (C (k + 20) 78 [.agg [.d (.list 3 a), .d (.list 2 (A1 gs))], .agg [.d (.int .i64 (hr d.head[i].1 (insG b' d.head[i].2))), .d (.list 1 (I1 ((insG b' d.head[i].2).getD [])))]]) = some r from e1, R54 e2 e3]
        refine ih (i + 1) n ws (by omega) (by omega) e4 (fun z => ?_) (by omega)
        rw [e5, hmem, List.take_succ_eq_append_getElem hi, List.map_append, ← List.append_assoc, List.mem_append (s := fs ++ _), List.map_singleton, List.mem_singleton]
    exact main d.head.length 0 (k + 20) fs (by omega) (by omega) hv.ss (by simp) (by omega)
  have outer : ∀ (m i n : Nat) (b' : List Int), i + m = ev.length → m < n → b'.length = 5 → (∀ v ∈ b', inI v) → (i ≠ 0 → nx fs + (i : Int) ≤ 40) → setE b' (ev.drop i) (nx fs + (i : Int)) = setE b ev (nx fs) →
      Sp (F42.L15 (k + 20) (C (k + 20)) n (i : Int) a (A1 fs) (A1 d.body) (A1 d.head) d.egd d.l d.r [] [] a (A1 fs) (I1 b') (I1 ev)) a (tg fs d b ev).1 (tg fs d b ev).2 := by
    intro m
    induction m with
    | zero =>
      intro i n b' hm hn hb' hbI' h40 hse
      obtain ⟨n, rfl⟩ : ∃ j, n = j + 1 := ⟨n - 1, by omega⟩
      obtain rfl : i = ev.length := by omega
      rw [List.drop_length] at hse
      rw [F42.L15.succ, I1_len, ite'_f (lt_f (by omega))]
      refine key b' hb' hbI' ?_ hse
      by_cases h0 : ev.length = 0
      · rw [h0]; omega
      · exact h40 h0
    | succ m ih =>
      intro i n b' hm hn hb' hbI' h40 hse
      obtain ⟨n, rfl⟩ : ∃ j, n = j + 1 := ⟨n - 1, by omega⟩
      have hi : i < ev.length := by omega
      have hgt := List.getElem?_eq_getElem hi
      obtain ⟨z0, z4⟩ := he _ (List.getElem_mem hi)
      obtain ⟨q, hq⟩ : ∃ q : Nat, ev[i] = (q : Int) := ⟨ev[i].toNat, by omega⟩
      have hq5 : q < b'.length := by omega
      rw [List.drop_eq_getElem_cons hi, setE] at hse
      have e75 := (nextNull (k := k + 14) a fs hg.hI (by omega) (by omega)).2
      unfold ia at e75
      rw [F42.L15.succ, I1_len, ite'_t (lt_t hi), show (C (k + 20) 75 [.agg [.d (.list 3 a), .d (.list 2 (A1 fs))]]) = io (nx fs) from e75, iB', wrap_id (n := nx fs + (i : Int)) (by omega) (by omega)]
      by_cases h4 : nx fs + (i : Int) ≥ 40
      · rw [ite'_t (by simpa using h4)]
        unfold tg
        rw [if_pos (by omega)]
        exact Sp.pr a fs 3
      · rw [ite'_f (by simpa using h4), ite'_t (inR_t hi), I1_c hgt, bindI_s, show (C (k + 20) 76 [.d (.int .i64 (nx fs + (i : Int)))]) = io (neg (nx fs + (i : Int))) from by rw [F76.run, wrap_id (by omega) (by omega)]; rfl, iB', hq, I1_len, ite'_t (inR_t hq5), next_i hi (m := ev.length) (by omega), show ((q : Int)).toNat = q from rfl, rowsSet_I1 _ hq5]
        rw [hq] at hse
        refine ih (i + 1) n _ (by omega) (by omega) (by rw [List.length_set]; exact hb') (fun v hv' => ?_) (fun _ => by omega) ?_
        · rcases List.mem_or_eq_of_mem_set hv' with hv' | rfl
          · exact hbI' v hv'
          · unfold inI neg; omega
        · rw [show nx fs + ((i + 1 : Nat) : Int) = nx fs + (i : Int) + 1 by omega]
          exact hse
  exact outer ev.length 0 (k + 20) b (by omega) (by omega) hb hbI (by simp) (by simp)
end Go.Proofs.YtkkaikcjcjkpbaaGreat.Q

/-! VNr -/
namespace Go.Proofs.YtkkaikcjcjkpbaaGreat.Q
open Go Ovi
variable {k : Nat}
/-! ### a step -/
theorem aB {a X : Ovi.Rows} {f : Ovi.Rows → Ovi.Rows → Bool → Option Res} : (bindR (some [(true, [.row 93 3 a, .row 90 2 X]), (false, [.d (.bool true)])]) fun r => bindL (resO 93 3 2 true 2 r 0 0) fun l => bindL (resO 90 2 2 true 2 r 0 1) fun m => bindB (resB 2 false 1 r 1 0) fun b => f l m b) = f a X true := rfl
theorem prB {a : Ovi.Rows} {fs : List Atom} {c : Int} {f : Ovi.Rows → Ovi.Rows → Int → Option Res} : (bindR (pr a fs c) fun r => bindL (resO 93 3 2 true 2 r 0 0) fun l => bindL (resO 90 2 2 true 2 r 0 1) fun m => bindI (resI .i64 2 false 1 r 1 0) fun n => f l m n) = f a (A1 fs) c := rfl
theorem mm {p q : Int} (hp : okV p = true) (hq : okV q = true) (h : p < 0 ∨ q < 0) : isN (minI p q) = true ∧ okV (maxI p q) = true ∧ inI (minI p q) ∧ inI (maxI p q) := by
  unfold okV at *
  rw [decide_eq_true_eq] at hp hq
  unfold isN inI minI maxI
  rw [decide_eq_true_eq, decide_eq_true_eq]
  by_cases h1 : q < p
  · rw [if_pos h1, if_neg (by omega)]; omega
  · rw [if_neg h1]
    by_cases h2 : q > p
    · rw [if_pos h2]; omega
    · rw [if_neg h2]; omega
def eg (fs : List Atom) (p q : Int) : List Atom × Int := if p < 0 ∨ q < 0 then (subI (-1 - minI p q) (maxI p q) fs, 1) else (fs, 2)
/-- impl.equated -/
theorem c93 {a : Ovi.Rows} {fs : List Atom} (hg : Gd a fs) (hi : Inst a fs true) {p q : Int} (hp : okV p = true) (hq : okV q = true) (hk : 2000000 ≤ k) : C (k + 12) 93 [ia a fs, .d (.int .i64 p), .d (.int .i64 q)] = pr a (eg fs p q).1 (eg fs p q).2 := by
  have hs := hg.hs
  have e134 : ∀ v, C (k + 11) 134 [.d (.int .i64 v)] = bo (decide (v < 0)) := fun v => by rw [F134.run]; rfl
  have hsub : p < 0 ∨ q < 0 → (bindR (C (k + 11) 135 [.d (.int .i64 (minI p q))]) fun r8 => bindI (resI IntKind.i64 2 false 1 r8 0 0) fun n9 => bindB (resB 2 false 1 r8 1 0) fun b10 => bindR (C (k + 11) 136 [AV.agg [AV.d (D.list 1 [[D.int IntKind.i64 n9]]), AV.d (D.list 1 [[D.int IntKind.i64 (maxI p q)]])], AV.agg [AV.d (D.list 3 a), AV.d (D.list 2 (A1 fs))]]) fun r11 => bindL (resO 93 3 2 true 2 r11 0 0) fun l12 => bindL (resO 90 2 2 true 2 r11 0 1) fun l13 => bindB (resB 2 false 1 r11 1 0) fun b14 => some ([(true, [RL.row 93 3 l12, RL.row 90 2 l13]), (false, [RL.d (D.int IntKind.i64 (1 : Int))])])) = pr a (subI (-1 - minI p q) (maxI p q) fs) 1 := by
    intro h
    obtain ⟨m1, m2, m3, m4⟩ := mm hp hq h
    have hn := isN_t m1
    have e136 := c136s (k := k) (a := a) (fs := fs) (-1 - minI p q) (maxI p q) (by unfold subOk; rw [m2, Bool.and_true, decide_eq_true_eq]; omega) hi hg.hal hg.fx hg.hI (by omega) hk
    unfold s1 ia at e136
    rw [c135 (k := k + 9) m3, nnB, if_pos m1, e136, aB]
    rfl
  unfold ia
  rw [F93.run, e134, e134, bB, bB]
  unfold eg
  by_cases h1 : p < 0
  · rw [decide_eq_true h1, ite'_nt, if_pos (.inl h1)]
    exact hsub (.inl h1)
  · rw [decide_eq_false h1, ite'_nf]
    by_cases h2 : q < 0
    · rw [decide_eq_true h2, ite'_nt, if_pos (.inr h2)]
      exact hsub (.inr h2)
    · rw [decide_eq_false h2, ite'_nf, if_neg (by omega), c52 (k := k + 7) hg.hal fs hg.fx (by omega) (by omega), c52x]
      rfl
theorem sv_in {n w v : Int} (hw : inI w) (hv : inI v) : inI (sv n w v) := by
  unfold sv
  by_cases h : v = neg n
  · rw [if_pos h]; exact hw
  · rw [if_neg h]; exact hv
theorem subI_gd {a : Ovi.Rows} {fs : List Atom} (hg : Gd a fs) (hv : Vl a fs) {n w : Int} (hw : inI w) : Gd a (subI n w fs) := by
  refine hg.of3 (fun x hx => ?_) (fun x hx => ?_) ?_
  · obtain ⟨y, hy, rfl⟩ := List.mem_map.1 ((mem_can _ _).1 hx)
    intro z hz
    obtain ⟨t, ht, rfl⟩ := List.mem_map.1 hz
    exact sv_in hw (hg.hI y hy t ht)
  · obtain ⟨y, hy, rfl⟩ := List.mem_map.1 ((mem_can _ _).1 hx)
    have := hv.l3 y hy
    simpa [subF] using this
  · have := can_len (fs.map (subF n w))
    rw [List.length_map] at this
    have h2 := hv.n30
    unfold subI
    omega
/-- both ApplyTrigger answer alike -/
theorem applyT {a : Ovi.Rows} {fs : List Atom} {ib : Bool} {d : Dep} (hg : Gd a fs) (hi : InstY a fs ib) (hv : ib = true → Vl a fs) (hd : DepY a d) (hz : Dsz d) (b : List Int) (hI : ∀ v ∈ b, inI v) (hb : b.length ≤ 1048576) :
    ∃ vb fs' c, (vb = false ↔ c = 0) ∧ Gd a fs' ∧ ∀ k, 3000000 ≤ k → C (k + 20) 41 [ia a fs, da d, .d (.list 1 (I1 b))] = bo vb ∧ C (k + 21) 54 [ia a fs, da d, .d (.list 1 (I1 b))] = pr a fs' c ∧ Sp (C (k + 21) 42 [ia a fs, da d, .d (.list 1 (I1 b))]) a fs' c := by
  have hmax : (1048576 : Nat) ≤ maxLen := by decide
  have hs := hg.hs
  obtain ⟨vb, hvb, hact⟩ := actv hi hd hz b hI hb
  have c52k : ∀ k, 2000000 ≤ k → C (k + 20) 52 [.agg [.d (.list 3 a), .d (.list 2 (A1 fs))]] = some [(true, [.row 93 3 a, .row 90 2 (A1 fs)])] := fun k hk => c52 (k := k + 16) hg.hal fs hg.fx (by omega) (by omega)
  have c39k : ∀ k, 2000000 ≤ k → C (k + 20) 39 [.agg [.d (.list 3 a), .d (.list 2 (A1 fs))]] = some [(true, [.row 93 3 a, .row 90 2 (A1 fs)])] := fun k hk => c39 (k := k + 17) hg.hal fs hg.fx (by omega) (by omega)
  cases hvb0 : vb with
  | false =>
    subst hvb0
    refine ⟨false, fs, 0, by simp, hg, fun k hk => ?_⟩
    have h := hact k (by omega)
    have c1 := c52k k (by omega)
    have c2 := c39k k (by omega)
    refine ⟨h.2, ?_, ?_⟩
    · unfold ia da at *
      rw [F54.run, h.1, bB, ite'_nf, c1, c52x]; rfl
    · unfold ia da at *
      rw [F42.run, c2, c52x, h.2, bB, ite'_nf]
      exact Sp.pr a fs 0
  | true =>
    subst hvb0
    obtain ⟨hib, hb5, hbad, hmiss, hne⟩ := hvb rfl
    subst hib
    have hV := hv rfl
    have hD := hd.1
    cases he : d.egd with
    | true =>
      obtain ⟨hhd, hl, hr⟩ := hD.e he
      have okvar : ∀ z, isVar d.body z → okV (b.getD z.toNat 0) = true ∧ 0 ≤ z ∧ z ≤ 4 := by
        intro z hzv
        obtain ⟨z0, z4⟩ := isVar_4 hD.bv hzv
        obtain ⟨_, x, hx, hzx⟩ := hzv
        have hm := hmiss x hx
        cases hins : insG b x.2 with
        | none => rw [missing_none hins] at hm; cases hm
        | some vs =>
          have := (insG_map hins).1 z hzx
          unfold val at this
          rw [if_pos z0] at this
          exact ⟨this, z0, z4⟩
      obtain ⟨hp, l0, l4⟩ := okvar d.l hl
      obtain ⟨hq, r0, r4⟩ := okvar d.r hr
      obtain ⟨p, hpe⟩ : ∃ p : Nat, d.l = (p : Int) := ⟨d.l.toNat, by omega⟩
      obtain ⟨q, hqe⟩ : ∃ q : Nat, d.r = (q : Int) := ⟨d.r.toNat, by omega⟩
      have hp5 : p < b.length := by omega
      have hq5 : q < b.length := by omega
      have hbp : b[p]? = some (b.getD p 0) := by rw [List.getD_eq_getElem?_getD, List.getElem?_eq_getElem hp5]; rfl
      have hbq : b[q]? = some (b.getD q 0) := by rw [List.getD_eq_getElem?_getD, List.getElem?_eq_getElem hq5]; rfl
      rw [hpe, Int.toNat_natCast] at hp
      rw [hqe, Int.toNat_natCast] at hq
      refine ⟨true, (eg fs (b.getD p 0) (b.getD q 0)).1, (eg fs (b.getD p 0) (b.getD q 0)).2, ?_, ?_, fun k hk => ?_⟩
      · unfold eg
        by_cases h : b.getD p 0 < 0 ∨ b.getD q 0 < 0
        · rw [if_pos h]; simp
        · rw [if_neg h]; simp
      · unfold eg
        by_cases h : b.getD p 0 < 0 ∨ b.getD q 0 < 0
        · rw [if_pos h]; exact subI_gd hg hV (mm hp hq h).2.2.2
        · rw [if_neg h]; exact hg
      · have h := hact k (by omega)
        have c2 := c39k k (by omega)
        have e93 := c93 (k := k + 8) hg hi.ok hp hq (by omega)
        refine ⟨h.2, ?_, ?_⟩
        · unfold ia da at *
          rw [he, hpe, hqe] at h ⊢
          rw [F54.run, h.1, bB, ite'_nt, ite'_t rfl, I1_len, ite'_t (inR_t hp5), I1_c hbp, bindI_s, ite'_t (inR_t hq5), I1_c hbq, bindI_s, e93, prB]
          rfl
        · have hsub : b.getD p 0 < 0 ∨ b.getD q 0 < 0 → (bindR (C (k + 20) 72 [.d (.int .i64 (minI (b.getD p 0) (b.getD q 0)))]) fun r17 => bindI (resI IntKind.i64 2 false 1 r17 0 0) fun n18 => bindB (resB 2 false 1 r17 1 0) fun b19 => bindR (C (k + 20) 73 [AV.agg [AV.d (D.list 1 [[D.int IntKind.i64 n18]]), AV.d (D.list 1 [[D.int IntKind.i64 (maxI (b.getD p 0) (b.getD q 0))]])], AV.agg [AV.d (D.list 3 a), AV.d (D.list 2 (A1 fs))]]) fun r20 => bindL (resO 93 3 2 true 2 r20 0 0) fun l21 => bindL (resO 90 2 2 true 2 r20 0 1) fun l22 => bindB (resB 2 false 1 r20 1 0) fun b23 => some ([(true, [RL.row 93 3 l21, RL.row 90 2 l22]), (false, [RL.d (D.int IntKind.i64 (1 : Int))])])) = pr a (subI (-1 - minI (b.getD p 0) (b.getD q 0)) (maxI (b.getD p 0) (b.getD q 0)) fs) 1 := by
            intro h
            obtain ⟨m1, m2, m3, m4⟩ := mm hp hq h
            have hn := isN_t m1
            have hn30 := hV.n30
            have e73 := c73s (k := k + 9) (a := a) (fs := fs) (-1 - minI (b.getD p 0) (b.getD q 0)) (maxI (b.getD p 0) (b.getD q 0)) (by unfold subOk; rw [m2, Bool.and_true, decide_eq_true_eq]; omega) m4 hi.ok hg.hal hg.fx (by omega) (by omega)
            unfold s1 ia at e73
            rw [c72 (k := k + 18) m3, nnB, if_pos m1, e73, aB]
            rfl
          unfold ia da at *
          rw [he, hpe, hqe] at h ⊢
          rw [F42.run, c2, c52x, h.2, bB, ite'_nt, ite'_t rfl, I1_len, ite'_t (inR_t hp5), I1_c hbp, bindI_s, ite'_t (inR_t hq5), I1_c hbq, bindI_s]
          unfold eg
          by_cases h1 : b.getD p 0 < 0
          · rw [ite'_f (decide_eq_false (by omega)), hsub (.inl h1), if_pos (.inl h1)]
            exact Sp.pr a _ 1
          · rw [ite'_t (decide_eq_true (by omega))]
            by_cases h2 : b.getD q 0 < 0
            · rw [ite'_f (decide_eq_false (by omega)), hsub (.inr h2), if_pos (.inr h2)]
              exact Sp.pr a _ 1
            · rw [ite'_t (decide_eq_true (by omega)), if_neg (by omega)]
              exact Sp.pr a fs 2
    | false =>
      obtain ⟨hh2, hht⟩ := hD.t he
      obtain ⟨ev, hev, hevl, hex⟩ := exVars d hz
      have hz2 := hz.2
      have hev4 : ∀ z ∈ ev, 0 ≤ z ∧ z ≤ 4 := fun z hzm => by
        obtain ⟨⟨h0, x, hx, hzx⟩, _⟩ := (hev z).1 hzm
        exact ⟨h0, ((hht x hx).2.2 z hzx).2⟩
      have hT : ∀ x ∈ d.head, okT x.2 := fun x hx => (hht x hx).2.2
      have h40 := nx_40 fs
      have hl3 : ∀ x ∈ d.head, x.2.length ≤ 3 := fun x hx => by
        have h1 := (hht x hx).2.1
        have h2 := hV.ar3 x.1 (hht x hx).1.1 (hht x hx).1.2
        omega
      have hevn : ev.length ≤ 1000000 := by have := terms_le3 hl3; omega
      refine ⟨true, (tg fs d b ev).1, (tg fs d b ev).2, ?_, ?_, fun k hk => ?_⟩
      · unfold tg
        by_cases h : nx fs + (ev.length : Int) > 40
        · rw [if_pos h]; simp
        · rw [if_neg h]
          by_cases h2 : ((tf fs d b ev).length : Int) > 30
          · rw [if_pos h2]; simp
          · rw [if_neg h2]; simp
      · unfold tg
        by_cases h : nx fs + (ev.length : Int) > 40
        · rw [if_pos h]; exact hg
        · rw [if_neg h]
          by_cases h2 : ((tf fs d b ev).length : Int) > 30
          · rw [if_pos h2]; exact hg
          · rw [if_neg h2]
            refine hg.of3 (fun x hx => ?_) (fun x hx => ?_) (show (tf fs d b ev).length ≤ 30 by omega)
            · rcases List.mem_append.1 ((mem_can _ _).1 hx) with hx | hx
              · exact hg.hI x hx
              · obtain ⟨y, hy, rfl⟩ := List.mem_map.1 hx
                exact hd_in _ y
            · rcases List.mem_append.1 ((mem_can _ _).1 hx) with hx | hx
              · exact hV.l3 x hx
              · obtain ⟨y, hy, rfl⟩ := List.mem_map.1 hx
                have h1 := hd_len (setE b ev (nx fs)) y
                have h2 := hl3 y hy
                omega
      · have h := hact k (by omega)
        have c2 := c39k k (by omega)
        have hx1 := (hex (k + 17) (by omega)).1
        have hx2 := (hex (k + 17) (by omega)).2
        have e94 : C (k + 20) 94 [.d (.list 1 (I1 b))] = some [(false, [.row 3 1 (I1 b)])] := by
          have : C (k + 20) 94 [.d (.list 1 (I1 b))] = cloneP 3 [.d (.list 1 (I1 b))] := by kernel_rfl
          rw [this]
          simp only [cloneP, ints_I1]
          rw [show Nat.ble b.length 1099511627776 = true from Nat.ble_eq_true_of_le (by omega)]
          rfl
        have e95 := (nextNull (k := k + 14) a fs hg.hI (by omega) (by omega)).1
        have g1 := l54 (k := k) hg hV d hT hz hh2 b ev hb5 hev4 hevn h40 (by omega)
        have g2 := l42 (k := k) hg hV d hT hz hh2 b ev hb5 hI hev4 hevn h40 (by omega)
        refine ⟨h.2, ?_, ?_⟩
        · unfold ia da at *
          rw [he] at h hx1 g1 ⊢
          rw [F54.run, h.1, bB, ite'_nt, ite'_f rfl, e94]
          simp only [bindR_s, resO_s, bindL_s]
          rw [show (C (k + 20) 95 [.agg [.d (.list 3 a), .d (.list 2 (A1 fs))]]) = io (nx fs) from e95, iB', hx1]
          simp only [bindR_s, resO_s, bindL_s]
          rw [I1_len]
          exact g1
        · unfold ia da at *
          rw [he] at h hx2 g2 ⊢
          rw [F42.run, c2, c52x, h.2, bB, ite'_nt, ite'_f rfl, I1_len, ite'_t (fits_t (by omega)), hx2]
          simp only [bindR_s, resO_s, bindL_s]
          exact g2
end Go.Proofs.YtkkaikcjcjkpbaaGreat.Q

/-! VNs -/
namespace Go.Proofs.YtkkaikcjcjkpbaaGreat.Q
open Go Ovi
variable {k : Nat}
/-! ### what the matches hold -/
theorem fitS_in : ∀ (ts vs b b' : List Int), fitS ts vs b = some b' → (∀ v ∈ vs, inI v) → (∀ v ∈ b, inI v) → ∀ v ∈ b', inI v
  | [], _, b, b', h, h1, h2 => by simp only [fitS] at h; cases h; exact h2
  | t :: ts, [], b, b', h, h1, h2 => by simp only [fitS] at h; cases h; exact h2
  | t :: ts, v :: vs, b, b', h, h1, h2 => by
    have h1' : ∀ u ∈ vs, inI u := fun u hu => h1 u (List.mem_cons_of_mem _ hu)
    rw [fitS] at h
    split at h
    · split at h
      · exact fitS_in ts vs b b' h h1' h2
      · cases h
    · split at h
      · refine fitS_in ts vs _ b' h h1' fun u hu => ?_
        rcases List.mem_or_eq_of_mem_set hu with hu | rfl
        · exact h2 u hu
        · exact h1 _ List.mem_cons_self
      · split at h
        · exact fitS_in ts vs b b' h h1' h2
        · cases h
theorem mats_in (fs : List Atom) (hf : ∀ f ∈ fs, ∀ v ∈ f.2, inI v) : ∀ (xs : List Atom) (b c : List Int), (∀ v ∈ b, inI v) → c ∈ mats fs xs b → ∀ v ∈ c, inI v
  | [], b, c, hb, h => by rw [mats, List.mem_singleton] at h; rw [h]; exact hb
  | x :: xs, b, c, hb, h => by
    rw [mats, List.mem_flatMap] at h
    obtain ⟨f, hfm, hc⟩ := h
    cases hfa : fitA x f b with
    | none => rw [hfa] at hc; simp at hc
    | some b' =>
      rw [hfa] at hc
      refine mats_in fs hf xs b' c ?_ (by simpa using hc)
      unfold fitA at hfa
      split at hfa
      · exact fitS_in _ _ _ _ hfa (hf f hfm) hb
      · cases hfa
theorem mt_in {fs xs : List Atom} (hf : ∀ f ∈ fs, ∀ v ∈ f.2, inI v) : ∀ c ∈ mt fs xs, ∀ v ∈ c, inI v := by
  intro c hc
  unfold mt at hc
  rcases (ded_mem _ _ _).1 hc with h | h
  · cases h
  · refine mats_in fs hf xs tens c (fun v hv => ?_) h
    simp [tens] at hv
    subst hv
    unfold inI; omega
/-! ### active triggers -/
theorem mtr_t {fs xs : List Atom} {f : Ovi.Rows → Option Res} : (bindR (mtr true fs xs) fun r => bindL (resO 74 1 1 false 1 r 0 0) f) = f (LL (mt fs xs)) := rfl
theorem LL_cell {l : BL} {i : Nat} {x : List Int} (h : l[i]? = some x) : cellL 1 (LL l) (i : Int).toNat 0 = some (I1 x) := by
  rw [Int.toNat_natCast, cellL_at (show (LL l)[i]? = some [.list 1 (I1 x)] by simp [LL, h])]; simp [asL_s]
/-- both ActiveTriggers answer alike -/
theorem acts {a : Ovi.Rows} {fs : List Atom} {d : Dep} (hg : Gd a fs) (hi : InstY a fs true) (hd : DepY a d) (hz : Dsz d) :
    ∃ L : BL, L.length ≤ 27000 ∧ (∀ x ∈ L, x.length = 5 ∧ ∀ v ∈ x, inI v) ∧ ∀ k, 3000000 ≤ k → C (k + 22) 100 [ia a fs, da d] = some [(false, [.row 74 1 (LL L)])] ∧ C (k + 22) 80 [ia a fs, da d] = some [(false, [.row 74 1 (LL L)])] := by
  have hmax : (1048576 : Nat) ≤ maxLen := by decide
  have hD := hd.1
  have hq : Qok a fs d.body (fun _ => true) true := hi.qok hz.1 hD.b1 (by have := hD.b2; omega) hD.bV hD.bv
  obtain ⟨m1, m2⟩ := mt_short (hq.mok rfl)
  have m3 := mt_in (fs := fs) (xs := d.body) hg.hI
  have : ∀ b : List Int, ∃ vb, b ∈ mt fs d.body → ∀ k, 2000000 ≤ k → C (k + 20) 92 [ia a fs, da d, .d (.list 1 (I1 b))] = bo vb ∧ C (k + 20) 41 [ia a fs, da d, .d (.list 1 (I1 b))] = bo vb := by
    intro b
    by_cases h : b ∈ mt fs d.body
    · obtain ⟨vb, _, hv⟩ := actv hi hd hz b (m3 b h) (by rw [m2 b h]; omega)
      exact ⟨vb, fun _ => hv⟩
    · exact ⟨false, fun h' => absurd h' h⟩
  obtain ⟨act, hact⟩ := Classical.axiomOfChoice this
  refine ⟨(mt fs d.body).filter act, ?_, fun x hx => ?_, fun k hk => ?_⟩
  · have := List.length_filter_le act (mt fs d.body)
    omega
  · have := (List.mem_filter.1 hx).1
    exact ⟨m2 x this, m3 x this⟩
  · have L100 : ∀ (m i n : Nat), i + m = (mt fs d.body).length → m < n → F100.L5 (k + 21) (C (k + 21)) n ((mt fs d.body).length : Int) (i : Int) a (A1 fs) (A1 d.body) (A1 d.head) d.egd d.l d.r (LL (((mt fs d.body).take i).filter act)) (LL (mt fs d.body)) = some [(false, [.row 74 1 (LL ((mt fs d.body).filter act))])] := by
      intro m
      induction m with
      | zero =>
        intro i n hm hn
        obtain ⟨n, rfl⟩ : ∃ j, n = j + 1 := ⟨n - 1, by omega⟩
        obtain rfl : i = (mt fs d.body).length := by omega
        rw [F100.L5.succ, ite'_f (lt_f (by omega)), List.take_length]
      | succ m ih =>
        intro i n hm hn
        obtain ⟨n, rfl⟩ : ∃ j, n = j + 1 := ⟨n - 1, by omega⟩
        have hi' : i < (mt fs d.body).length := by omega
        have hgt := List.getElem?_eq_getElem hi'
        have e := (hact _ (List.getElem_mem hi') (k + 1) (by omega)).1
        have hft := List.length_filter_le act ((mt fs d.body).take i)
        rw [List.length_take] at hft
        have := ih (i + 1) n (by omega) (by omega)
        rw [List.take_succ_eq_append_getElem hi', List.filter_append] at this
        unfold ia da at e
        rw [F100.L5.succ, ite'_t (lt_t hi'), LL_len, ite'_t (inR_t hi'), LL_cell hgt, bindL_s, show (C (k + 21) 92 [.agg [.d (.list 3 a), .d (.list 2 (A1 fs))], .agg [.d (.list 2 (A1 d.body)), .d (.list 2 (A1 d.head)), .d (.bool d.egd), .d (.int .i64 d.l), .d (.int .i64 d.r)], .d (.list 1 (I1 (mt fs d.body)[i]))]) = bo (act (mt fs d.body)[i]) from e, bB, next_i hi' (m := (mt fs d.body).length) (by omega)]
        cases hv : act (mt fs d.body)[i] with
        | true =>
          rw [ite'_t rfl, LL_len, ite'_t (fits_t (by simp only [List.length_cons, List.length_nil]; omega)), LL_snoc]
          simpa [hv] using this
        | false =>
          rw [ite'_f rfl]
          simpa [hv] using this
    have L80 : ∀ (m i n : Nat), i + m = (mt fs d.body).length → m < n → F80.L6 (k + 21) (C (k + 21)) n (i : Int) a (A1 fs) (A1 d.body) (A1 d.head) d.egd d.l d.r (LL (((mt fs d.body).take i).filter act)) (LL (mt fs d.body)) = some [(false, [.row 74 1 (LL ((mt fs d.body).filter act))])] := by
      intro m
      induction m with
      | zero =>
        intro i n hm hn
        obtain ⟨n, rfl⟩ : ∃ j, n = j + 1 := ⟨n - 1, by omega⟩
        obtain rfl : i = (mt fs d.body).length := by omega
        rw [F80.L6.succ, LL_len, ite'_f (lt_f (by omega)), List.take_length]
      | succ m ih =>
        intro i n hm hn
        obtain ⟨n, rfl⟩ : ∃ j, n = j + 1 := ⟨n - 1, by omega⟩
        have hi' : i < (mt fs d.body).length := by omega
        have hgt := List.getElem?_eq_getElem hi'
        have e := (hact _ (List.getElem_mem hi') (k + 1) (by omega)).2
        have hft := List.length_filter_le act ((mt fs d.body).take i)
        rw [List.length_take] at hft
        have := ih (i + 1) n (by omega) (by omega)
        rw [List.take_succ_eq_append_getElem hi', List.filter_append] at this
        unfold ia da at e
        rw [F80.L6.succ, LL_len, ite'_t (lt_t hi'), ite'_t (inR_t hi'), LL_cell hgt, bindL_s, show (C (k + 21) 41 [.agg [.d (.list 3 a), .d (.list 2 (A1 fs))], .agg [.d (.list 2 (A1 d.body)), .d (.list 2 (A1 d.head)), .d (.bool d.egd), .d (.int .i64 d.l), .d (.int .i64 d.r)], .d (.list 1 (I1 (mt fs d.body)[i]))]) = bo (act (mt fs d.body)[i]) from e, bB, next_i hi' (m := (mt fs d.body).length) (by omega)]
        cases hv : act (mt fs d.body)[i] with
        | true =>
          rw [ite'_t rfl, ite'_t (inR_t hi'), bindL_s, LL_len, ite'_t (fits_t (by simp only [List.length_cons, List.length_nil]; omega)), LL_snoc]
          simpa [hv] using this
        | false =>
          rw [ite'_f rfl]
          simpa [hv] using this
    obtain ⟨hd1, hd2⟩ := hd.2 (k + 9) (by omega)
    have e1 := c141 (k := k + 5) hq (by omega)
    have e2 := c116 (k := k + 4) hq (by omega)
    unfold ia da at *
    constructor
    · rw [F100.run, hd1, bB, ite'_nt, e1, mtr_t, LL_len]
      exact L100 (mt fs d.body).length 0 (k + 21) (by omega) (by omega)
    · rw [F80.run, hd2, bB, ite'_nt, e2, mtr_t]
      exact L80 (mt fs d.body).length 0 (k + 21) (by omega) (by omega)
/-! ### violations -/
def fvR (o : Option (Int × List Int)) : Option Res := match o with
  | some (i, l) => some [(false, [.d (.int .i64 i)]), (false, [.d (.list 1 (I1 l))]), (false, [.d (.bool true)])]
  | none => some [(false, [.d (.int .i64 0)]), (false, [.nil]), (false, [.d (.bool false)])]
theorem fvB {o : Option (Int × List Int)} {f : Bool → Option Res} : (bindR (fvR o) fun r => bindI (resI .i64 3 false 1 r 0 0) fun n6 => bindL (resL 1 3 false 1 r 1 0) fun l7 => bindB (resB 3 false 1 r 2 0) fun b8 => f b8) = f o.isSome := by
  cases o with
  | none => rfl
  | some p => obtain ⟨i, l⟩ := p; simp [fvR, resI, resL, resB, leafD, asI_s, D.asL, asB_s, bindI_s, bindL_s, bindB_s, bindR_s]
/-- both FirstViolation answer alike -/
theorem fviol {a : Ovi.Rows} {fs : List Atom} (hg : Gd a fs) (ds : List Dep) (hz : ∀ d ∈ ds, Dsz d) (hl : ds.length ≤ 1048576) :
    ∃ o ib db, (∀ k, 3000000 ≤ k → C (k + 24) 58 [ia a fs, .d (.list 5 (DD ds))] = fvR o ∧ C (k + 24) 45 [ia a fs, .d (.list 5 (DD ds))] = fvR o) ∧ (∀ k, 2000000 ≤ k → C (k + 8) 50 [.agg [.d (.list 3 a), .d (.list 2 (A1 fs))]] = bo ib ∧ C (k + 8) 37 [.agg [.d (.list 3 a), .d (.list 2 (A1 fs))]] = bo ib) ∧
      ∀ k, 2000000 ≤ k → C (k + 16) 51 [.d (.list 3 a), .d (.list 5 (DD ds))] = bo db ∧ C (k + 16) 38 [.d (.list 3 a), .d (.list 5 (DD ds))] = bo db := by
  have hmax : (1048576 : Nat) ≤ maxLen := by decide
  obtain ⟨ib, hi, _⟩ := hg.inst
  obtain ⟨db, hdb, hdk⟩ := deps hg.fit hg.hal ds hz hl
  have hok := hi.ok
  have hok1 : ∀ k, 2000000 ≤ k → C (k + 8) 50 [.agg [.d (.list 3 a), .d (.list 2 (A1 fs))]] = bo ib ∧ C (k + 8) 37 [.agg [.d (.list 3 a), .d (.list 2 (A1 fs))]] = bo ib := hok
  unfold ia
  by_cases hboth : ib = true ∧ db = true
  · obtain ⟨rfl, rfl⟩ := hboth
    obtain ⟨hd5, hdY⟩ := hdb rfl
    have key : ∀ (m i : Nat), i + m = ds.length → ∃ o, ∀ k n, 3000000 ≤ k → m < n → F58.L4 (k + 23) (C (k + 23)) n (DD ds) (ds.length : Int) (i : Int) a (A1 fs) = fvR o ∧ F45.L2 (k + 23) (C (k + 23)) n (DD ds) (i : Int) a (A1 fs) = fvR o := by
      intro m
      induction m with
      | zero =>
        intro i hm
        refine ⟨none, fun k n hk hn => ?_⟩
        obtain ⟨n, rfl⟩ : ∃ j, n = j + 1 := ⟨n - 1, by omega⟩
        rw [F58.L4.succ, F45.L2.succ, DD_len, ite'_f (lt_f (by omega)), ite'_f (lt_f (by omega))]
        exact ⟨rfl, rfl⟩
      | succ m ih =>
        intro i hm
        have hi' : i < ds.length := by omega
        have hgt := List.getElem?_eq_getElem hi'
        have hmem := List.getElem_mem hi'
        obtain ⟨L, hL1, hL2, hL⟩ := acts hg hi (hdY _ hmem) (hz _ hmem)
        obtain ⟨o, ho⟩ := ih (i + 1) (by omega)
        have step : ∀ k n, 3000000 ≤ k → F58.L4 (k + 23) (C (k + 23)) (n + 1) (DD ds) (ds.length : Int) (i : Int) a (A1 fs) = (ite' (decide ((L.length : Int) > (0 : Int))) (ite' (inR (0 : Int) L.length) (bindL (cellL 1 (LL L) 0 0) fun l18 => some ([(false, [RL.d (D.int IntKind.i64 (i : Int))]), (false, [RL.d (D.list 1 l18)]), (false, [RL.d (D.bool true)])])) (none)) (F58.L4 (k + 23) (C (k + 23)) n (DD ds) (ds.length : Int) ((i + 1 : Nat) : Int) a (A1 fs))) ∧
            F45.L2 (k + 23) (C (k + 23)) (n + 1) (DD ds) (i : Int) a (A1 fs) = (ite' (decide ((L.length : Int) > (0 : Int))) (ite' (inR (0 : Int) L.length) (bindL (cellL 1 (LL L) 0 0) fun l18 => some ([(false, [RL.d (D.int IntKind.i64 (i : Int))]), (false, [RL.d (D.list 1 l18)]), (false, [RL.d (D.bool true)])])) (none)) (F45.L2 (k + 23) (C (k + 23)) n (DD ds) ((i + 1 : Nat) : Int) a (A1 fs))) := by
          intro k n hk
          have e1 := (hL (k + 1) (by omega)).1
          have e2 := (hL (k + 1) (by omega)).2
          have h1 := (hok1 (k + 15) (by omega)).2
          have h2 := (hdk (k + 7) (by omega)).2
          unfold ia da at e1 e2
          rw [F58.L4.succ, F45.L2.succ, DD_len, ite'_t (lt_t hi'), ite'_t (lt_t hi'), h2, h1, bB, bB, ite'_t rfl, ite'_t rfl, ite'_t (inR_t hi'), ite'_t (inR_t hi'), DD_0 hgt, bindL_s, DD_1 hgt, bindL_s, DD_2 hgt, bindB_s, DD_3 hgt, bindI_s, DD_4 hgt, bindI_s, bindL_s, bindL_s, bindB_s, bindI_s, bindI_s]
          rw [show (C (k + 23) 100 [.agg [.d (.list 3 a), .d (.list 2 (A1 fs))], .agg [.d (.list 2 (A1 ds[i].body)), .d (.list 2 (A1 ds[i].head)), .d (.bool ds[i].egd), .d (.int .i64 ds[i].l), .d (.int .i64 ds[i].r)]]) = some [(false, [.row 74 1 (LL L)])] from e1]
          rw [show (C (k + 23) 80 [.agg [.d (.list 3 a), .d (.list 2 (A1 fs))], .agg [.d (.list 2 (A1 ds[i].body)), .d (.list 2 (A1 ds[i].head)), .d (.bool ds[i].egd), .d (.int .i64 ds[i].l), .d (.int .i64 ds[i].r)]]) = some [(false, [.row 74 1 (LL L)])] from e2]
          rw [next_i hi' (m := ds.length) (by omega)]
          simp only [bindR_s, resO_s, bindL_s, LL_len, and_self]
        by_cases hL0 : L.length = 0
        · refine ⟨o, fun k n hk hn => ?_⟩
          obtain ⟨n, rfl⟩ : ∃ j, n = j + 1 := ⟨n - 1, by omega⟩
          obtain ⟨s1, s2⟩ := step k n hk
          rw [s1, s2, ite'_f (decide_eq_false (by omega)), ite'_f (decide_eq_false (by omega))]
          exact ho k n hk (by omega)
        · have hgl : L[0]? = some L[0] := List.getElem?_eq_getElem (by omega)
          refine ⟨some ((i : Int), L[0]), fun k n hk hn => ?_⟩
          obtain ⟨n, rfl⟩ : ∃ j, n = j + 1 := ⟨n - 1, by omega⟩
          obtain ⟨s1, s2⟩ := step k n hk
          have hc : cellL 1 (LL L) 0 0 = some (I1 L[0]) := LL_cell (i := 0) hgl
          rw [s1, s2, ite'_t (decide_eq_true (by omega)), ite'_t (decide_eq_true (by omega)), show inR (0 : Int) L.length = true from inR_t (i := 0) (by omega), ite'_t rfl, hc, bindL_s]
          exact ⟨rfl, rfl⟩
    obtain ⟨o, ho⟩ := key ds.length 0 (by omega)
    refine ⟨o, true, true, fun k hk => ?_, hok1, hdk⟩
    obtain ⟨g1, g2⟩ := ho k (k + 23) hk (by omega)
    rw [F58.run, F45.run, (hok1 (k + 15) (by omega)).1, bB, ite'_nt, (hdk (k + 7) (by omega)).1, bB, ite'_nt, DD_len]
    exact ⟨g1, g2⟩
  · refine ⟨none, ib, db, fun k hk => ?_, hok1, hdk⟩
    have h1 := hok1 (k + 15) (by omega)
    have h2 := hdk (k + 7) (by omega)
    constructor
    · rw [F58.run, h1.1, bB]
      cases ib with
      | false => rfl
      | true =>
        rw [ite'_nt, h2.1, bB]
        cases db with
        | false => rfl
        | true => exact absurd ⟨rfl, rfl⟩ hboth
    · rw [F45.run, F45.L2.succ, h2.2, h1.2, bB, bB]
      cases decide ((0 : Int) < ((DD ds).length : Int)) <;> cases db <;> cases ib <;> first | rfl | exact absurd ⟨rfl, rfl⟩ hboth
/-- both Satisfies answer alike -/
theorem sats {a : Ovi.Rows} {fs : List Atom} (hg : Gd a fs) (ds : List Dep) (hz : ∀ d ∈ ds, Dsz d) (hl : ds.length ≤ 1048576) :
    ∃ s, ∀ k, 3000000 ≤ k → C (k + 25) 28 [ia a fs, .d (.list 5 (DD ds))] = bo s ∧ C (k + 25) 21 [ia a fs, .d (.list 5 (DD ds))] = bo s := by
  obtain ⟨o, ib, db, hv, hok1, hdk⟩ := fviol hg ds hz hl
  refine ⟨!o.isSome && (ib && db), fun k hk => ?_⟩
  have h1 := hok1 (k + 16) (by omega)
  have h2 := hdk (k + 8) (by omega)
  have h3 := hv k hk
  unfold ia at *
  constructor
  · rw [F28.run, h3.1, fvB, h1.1, bB, h2.1, bB]
    cases o.isSome <;> cases ib <;> cases db <;> rfl
  · rw [F21.run, h3.2, fvB, h1.2, bB, h2.2, bB]
    cases o.isSome <;> cases ib <;> cases db <;> rfl
end Go.Proofs.YtkkaikcjcjkpbaaGreat.Q

/-! VNt -/
namespace Go.Proofs.YtkkaikcjcjkpbaaGreat.Q
open Go Ovi
variable {k : Nat}
/-! ### replaying steps -/
def rpI (a : Ovi.Rows) (o : Option (List Atom × Int)) : Option Res := match o with
  | some (gs, c) => some [(true, [.row 93 3 a, .row 90 2 (A1 gs)]), (false, [.d (.int .i64 c)]), (false, [.d (.bool true)])]
  | none => some [(true, [.nil, .nil]), (false, [.d (.int .i64 0)]), (false, [.d (.bool false)])]
def rpS (a : Ovi.Rows) (o : Option (List Atom × Int)) : Option Res := match o with
  | some (gs, c) => some [(true, [.d (.list 3 a), .d (.list 2 (A1 gs))]), (false, [.d (.int .i64 c)]), (false, [.d (.bool true)])]
  | none => some [(true, [.nil, .nil]), (false, [.d (.int .i64 0)]), (false, [.d (.bool false)])]
theorem SpB {r : Option Res} {a : Ovi.Rows} {fs : List Atom} {c : Int} {f : Ovi.Rows → Ovi.Rows → Int → Option Res} (h : Sp r a fs c) : (bindR r fun r => bindL (resL 3 2 true 2 r 0 0) fun l => bindL (resL 2 2 true 2 r 0 1) fun m => bindI (resI .i64 2 false 1 r 1 0) fun n => f l m n) = f a (A1 fs) c := by
  obtain ⟨r', rfl, h1, h2, h3⟩ := h
  rw [bindR_s, h1, bindL_s, h2, bindL_s, h3, bindI_s]
/-- both ReplaySteps answer alike -/
theorem replay {a : Ovi.Rows} {fs : List Atom} (hg : Gd a fs) (ds : List Dep) (hz : ∀ d ∈ ds, Dsz d) (hl : ds.length ≤ 1048576) (st : List Atom) (hsI : ∀ x ∈ st, ∀ v ∈ x.2, inI v) (hsl : ∀ x ∈ st, x.2.length ≤ 1048576) (hst : st.length ≤ 1048576) :
    ∃ o, (∀ gs c, o = some (gs, c) → Gd a gs) ∧ ∀ k, 3000000 ≤ k → C (k + 25) 26 [ia a fs, .d (.list 5 (DD ds)), .d (.list 2 (A1 st))] = rpI a o ∧ C (k + 25) 19 [ia a fs, .d (.list 5 (DD ds)), .d (.list 2 (A1 st))] = rpS a o := by
  have hmax : (1048576 : Nat) ≤ maxLen := by decide
  obtain ⟨ib, hi, _⟩ := hg.inst
  obtain ⟨db, hdb, hdk⟩ := deps hg.fit hg.hal ds hz hl
  have hok := hi.ok
  have hok1 : ∀ k, 2000000 ≤ k → C (k + 8) 50 [.agg [.d (.list 3 a), .d (.list 2 (A1 fs))]] = bo ib ∧ C (k + 8) 37 [.agg [.d (.list 3 a), .d (.list 2 (A1 fs))]] = bo ib := hok
  have hs := hg.hs
  unfold ia
  by_cases hboth : ib = true ∧ db = true
  · obtain ⟨rfl, rfl⟩ := hboth
    obtain ⟨hd5, hdY⟩ := hdb rfl
    have key : ∀ (m i : Nat) (gs : List Atom) (c : Int), i + m = st.length → Gd a gs → ∃ o, (∀ gs c, o = some (gs, c) → Gd a gs) ∧ ∀ k n, 3000000 ≤ k → m < n → F26.L5 (k + 24) (C (k + 24)) n (DD ds) c (A1 st) (st.length : Int) (i : Int) [] [] a (A1 gs) = rpI a o ∧ F19.L6 (k + 24) (C (k + 24)) n (DD ds) (A1 st) c (i : Int) [] [] a (A1 gs) = rpS a o := by
      intro m
      induction m with
      | zero =>
        intro i gs c hm hgs
        refine ⟨some (gs, c), fun gs' c' h => (by cases h; exact hgs), fun k n hk hn => ?_⟩
        obtain ⟨n, rfl⟩ : ∃ j, n = j + 1 := ⟨n - 1, by omega⟩
        rw [F26.L5.succ, F19.L6.succ, A1_len, ite'_f (lt_f (by omega)), ite'_f (lt_f (by omega))]
        exact ⟨rfl, rfl⟩
      | succ m ih =>
        intro i gs c hm hgs
        have hi' : i < st.length := by omega
        have hgt := List.getElem?_eq_getElem hi'
        have hmem := List.getElem_mem hi'
        by_cases hc1 : c = 1
        · subst hc1
          by_cases hr : (0 : Int) ≤ st[i].1 ∧ st[i].1 ≤ (ds.length : Int) - 1
          · obtain ⟨q, hq⟩ : ∃ q : Nat, st[i].1 = (q : Int) := ⟨st[i].1.toNat, by omega⟩
            have hqd : q < ds.length := by omega
            have hgd := List.getElem?_eq_getElem hqd
            have hmd := List.getElem_mem hqd
            obtain ⟨ib', hi2, hv2⟩ := hgs.inst
            obtain ⟨vb, fs', c', hvc, hg', hap⟩ := applyT hgs hi2 hv2 (hdY _ hmd) (hz _ hmd) st[i].2 (hsI _ hmem) (hsl _ hmem)
            have e26 : ∀ k n, 3000000 ≤ k → F26.L5 (k + 24) (C (k + 24)) (n + 1) (DD ds) 1 (A1 st) (st.length : Int) (i : Int) [] [] a (A1 gs) = ite' (c' == (0 : Int)) (rpI a none) (F26.L5 (k + 24) (C (k + 24)) n (DD ds) c' (A1 st) (st.length : Int) ((i + 1 : Nat) : Int) [] [] a (A1 fs')) := by
              intro k n hk
              have e54 := (hap (k + 3) (by omega)).2.1
              unfold ia da at e54
              rw [F26.L5.succ, ite'_t (lt_t hi'), A1_len, ite'_t (inR_t hi'), A1_c0 hgt, bindI_s, A1_c1 hgt, bindL_s, ite'_f (by decide), DD_len, c53, bB, wrap_id (by omega) (by omega), decide_eq_true hr, ite'_nt, hq, ite'_t (inR_t hqd), DD_0 hgd, bindL_s, DD_1 hgd, bindL_s, DD_2 hgd, bindB_s, DD_3 hgd, bindI_s, DD_4 hgd, bindI_s]
              rw [show (C (k + 24) 54 [.agg [.d (.list 3 a), .d (.list 2 (A1 gs))], .agg [.d (.list 2 (A1 ds[q].body)), .d (.list 2 (A1 ds[q].head)), .d (.bool ds[q].egd), .d (.int .i64 ds[q].l), .d (.int .i64 ds[q].r)], .d (.list 1 (I1 st[i].2))]) = pr a fs' c' from e54, prB, next_i hi' (m := st.length) (by omega)]
              rfl
            have e19 : ∀ k n, 3000000 ≤ k → F19.L6 (k + 24) (C (k + 24)) (n + 1) (DD ds) (A1 st) 1 (i : Int) [] [] a (A1 gs) = ite' (!vb) (rpS a none) (F19.L6 (k + 24) (C (k + 24)) n (DD ds) (A1 st) c' ((i + 1 : Nat) : Int) [] [] a (A1 fs')) := by
              intro k n hk
              have e41 := (hap (k + 4) (by omega)).1
              have e42 := (hap (k + 3) (by omega)).2.2
              unfold ia da at e41 e42
              rw [F19.L6.succ, A1_len, ite'_t (lt_t hi'), ite'_f (by decide), ite'_t (inR_t hi'), A1_c0 hgt, bindI_s, DD_len, c40, bB, wrap_id (by omega) (by omega), decide_eq_true hr, ite'_nt, ite'_t (inR_t hi'), bindI_s, hq, ite'_t (inR_t hqd), DD_0 hgd, bindL_s, DD_1 hgd, bindL_s, DD_2 hgd, bindB_s, DD_3 hgd, bindI_s, DD_4 hgd, bindI_s, ite'_t (inR_t hi'), A1_c1 hgt, bindL_s]
              rw [show (C (k + 24) 41 [.agg [.d (.list 3 a), .d (.list 2 (A1 gs))], .agg [.d (.list 2 (A1 ds[q].body)), .d (.list 2 (A1 ds[q].head)), .d (.bool ds[q].egd), .d (.int .i64 ds[q].l), .d (.int .i64 ds[q].r)], .d (.list 1 (I1 st[i].2))]) = bo vb from e41, bB]
              cases vb with
              | false => rfl
              | true =>
                rw [ite'_nt, ite'_t (inR_t hi'), bindI_s, ite'_t (inR_t hqd), DD_0 hgd, bindL_s, DD_1 hgd, bindL_s, DD_2 hgd, bindB_s, DD_3 hgd, bindI_s, DD_4 hgd, bindI_s, ite'_t (inR_t hi'), bindL_s]
                rw [SpB (r := C (k + 24) 42 [.agg [.d (.list 3 a), .d (.list 2 (A1 gs))], .agg [.d (.list 2 (A1 ds[q].body)), .d (.list 2 (A1 ds[q].head)), .d (.bool ds[q].egd), .d (.int .i64 ds[q].l), .d (.int .i64 ds[q].r)], .d (.list 1 (I1 st[i].2))]) e42, next_i hi' (m := st.length) (by omega)]
                rfl
            by_cases hc0 : c' = 0
            · have hvb := hvc.2 hc0
              refine ⟨none, fun gs c h => (nomatch h), fun k n hk hn => ?_⟩
              obtain ⟨n, rfl⟩ : ∃ j, n = j + 1 := ⟨n - 1, by omega⟩
              rw [e26 k n hk, e19 k n hk, hvb, hc0]
              exact ⟨rfl, rfl⟩
            · have hvb : vb = true := by
                cases vb with
                | true => rfl
                | false => exact absurd (hvc.1 rfl) hc0
              obtain ⟨o, ho1, ho⟩ := ih (i + 1) fs' c' (by omega) hg'
              refine ⟨o, ho1, fun k n hk hn => ?_⟩
              obtain ⟨n, rfl⟩ : ∃ j, n = j + 1 := ⟨n - 1, by omega⟩
              rw [e26 k n hk, e19 k n hk, hvb, ite'_f (by simpa using hc0), ite'_nt]
              exact ho k n hk (by omega)
          · refine ⟨none, fun gs c h => (nomatch h), fun k n hk hn => ?_⟩
            obtain ⟨n, rfl⟩ : ∃ j, n = j + 1 := ⟨n - 1, by omega⟩
            constructor
            · rw [F26.L5.succ, ite'_t (lt_t hi'), A1_len, ite'_t (inR_t hi'), A1_c0 hgt, bindI_s, A1_c1 hgt, bindL_s, ite'_f (by decide), DD_len, c53, bB, wrap_id (by omega) (by omega), decide_eq_false hr]; rfl
            · rw [F19.L6.succ, A1_len, ite'_t (lt_t hi'), ite'_f (by decide), ite'_t (inR_t hi'), A1_c0 hgt, bindI_s, DD_len, c40, bB, wrap_id (by omega) (by omega), decide_eq_false hr]; rfl
        · refine ⟨none, fun gs c h => (nomatch h), fun k n hk hn => ?_⟩
          obtain ⟨n, rfl⟩ : ∃ j, n = j + 1 := ⟨n - 1, by omega⟩
          constructor
          · rw [F26.L5.succ, ite'_t (lt_t hi'), A1_len, ite'_t (inR_t hi'), A1_c0 hgt, bindI_s, A1_c1 hgt, bindL_s, ite'_t (by simpa using hc1)]; rfl
          · rw [F19.L6.succ, A1_len, ite'_t (lt_t hi'), ite'_t (by simpa using hc1)]; rfl
    obtain ⟨o, ho1, ho⟩ := key st.length 0 fs 1 (by omega) hg
    refine ⟨o, ho1, fun k hk => ?_⟩
    obtain ⟨g1, g2⟩ := ho k (k + 24) hk (by omega)
    rw [F26.run, F19.run, (hok1 (k + 16) (by omega)).1, (hok1 (k + 16) (by omega)).2, bB, bB, ite'_nt, ite'_nt, (hdk (k + 8) (by omega)).1, (hdk (k + 8) (by omega)).2, bB, bB, ite'_nt, ite'_nt, c52 (k := k + 20) hg.hal fs hg.fx (by omega) (by omega), c39 (k := k + 21) hg.hal fs hg.fx (by omega) (by omega), c52x, c52x, A1_len]
    exact ⟨g1, g2⟩
  · refine ⟨none, fun gs c h => (nomatch h), fun k hk => ?_⟩
    have h1 := hok1 (k + 16) (by omega)
    have h2 := hdk (k + 8) (by omega)
    rw [F26.run, F19.run, h1.1, h1.2, bB, bB]
    cases ib with
    | false => exact ⟨rfl, rfl⟩
    | true =>
      rw [ite'_nt, ite'_nt, h2.1, h2.2, bB, bB]
      cases db with
      | false => exact ⟨rfl, rfl⟩
      | true => exact absurd ⟨rfl, rfl⟩ hboth
/-! ### valid results -/
theorem rpIB {a : Ovi.Rows} {o : Option (List Atom × Int)} {f : Ovi.Rows → Ovi.Rows → Int → Bool → Option Res} : (bindR (rpI a o) fun r => bindL (resO 93 3 3 true 2 r 0 0) fun l => bindL (resO 90 2 3 true 2 r 0 1) fun m => bindI (resI .i64 3 false 1 r 1 0) fun n => bindB (resB 3 false 1 r 2 0) fun b => f l m n b) = (match o with | some (gs, c) => f a (A1 gs) c true | none => f [] [] 0 false) := by
  cases o with
  | none => rfl
  | some p => rfl
theorem rpSB {a : Ovi.Rows} {o : Option (List Atom × Int)} {f : Ovi.Rows → Ovi.Rows → Int → Bool → Option Res} : (bindR (rpS a o) fun r => bindL (resL 3 3 true 2 r 0 0) fun l => bindL (resL 2 3 true 2 r 0 1) fun m => bindI (resI .i64 3 false 1 r 1 0) fun n => bindB (resB 3 false 1 r 2 0) fun b => f l m n b) = (match o with | some (gs, c) => f a (A1 gs) c true | none => f [] [] 0 false) := by
  cases o with
  | none => rfl
  | some p => obtain ⟨gs, c⟩ := p; simp [rpS, resI, resL, resB, leafD, asI_s, D.asL, asB_s, bindI_s, bindL_s, bindB_s, bindR_s]
/-- both IsValidResult answer alike -/
theorem validR {a e : Ovi.Rows} {fs hs' : List Atom} (hg : Gd a fs) (he : Fit Rl (.list 3 e)) (ds : List Dep) (hz : ∀ d ∈ ds, Dsz d) (hl : ds.length ≤ 1048576) (cd : Int) (st : List Atom) (hsI : ∀ x ∈ st, ∀ v ∈ x.2, inI v) (hsl : ∀ x ∈ st, x.2.length ≤ 1048576) (hst : st.length ≤ 1048576) :
    ∃ n, ∀ k, 3000000 ≤ k → C (k + 26) 11 [ia a fs, .d (.list 5 (DD ds)), .agg [.d (.list 3 e), .d (.list 2 (A1 hs')), .d (.int .i64 cd), .d (.list 2 (A1 st))]] = bo n ∧ C (k + 26) 7 [ia a fs, .d (.list 5 (DD ds)), .agg [.d (.list 3 e), .d (.list 2 (A1 hs')), .d (.int .i64 cd), .d (.list 2 (A1 st))]] = bo n := by
  obtain ⟨o, ho1, ho⟩ := replay hg ds hz hl st hsI hsl hst
  cases o with
  | none =>
    refine ⟨false, fun k hk => ?_⟩
    obtain ⟨g1, g2⟩ := ho k hk
    unfold ia at *
    rw [F11.run, F7.run, g1, g2, rpIB, rpSB]
    exact ⟨rfl, rfl⟩
  | some p =>
    obtain ⟨gs, c⟩ := p
    have hgg := ho1 gs c rfl
    have hgs := hgg.hs
    obtain ⟨n, hn⟩ := eqInst hgg.fit he hgg.hal gs hs' hgg.fx (by omega)
    obtain ⟨s, hss⟩ := sats hgg ds hz hl
    refine ⟨n && (cond (cd == 1) (c == 1 && s) (cond (cd == 2) (c == 2) (cond (cd == 3) (c == 3 || ((A1 st).length : Int) == 60) false))), fun k hk => ?_⟩
    obtain ⟨g1, g2⟩ := ho k hk
    have g3 := hn (k + 15) (by omega)
    have g4 := hss k hk
    unfold ia at *
    rw [F11.run, F7.run, g1, g2, rpIB, rpSB]
    simp only [Bool.not_true]
    rw [ite'_f rfl, ite'_f rfl, g3.1, g3.2, bB, bB, g4.1, g4.2, bB]
    cases n <;> cases (cd == 1) <;> cases (cd == 2) <;> cases (cd == 3) <;> cases (c == 1) <;> cases (c == 2) <;> cases (c == 3) <;> cases (((A1 st).length : Int) == 60) <;> cases s <;> exact ⟨rfl, rfl⟩
end Go.Proofs.YtkkaikcjcjkpbaaGreat.Q

/-! VNu -/
namespace Go.Proofs.YtkkaikcjcjkpbaaGreat.Q
open Go Ovi
variable {k : Nat}
def Dt : Ty := .list [.list [.int .i64, .list [.int .i64]], .list [.int .i64, .list [.int .i64]], .bool, .int .i64, .int .i64]
theorem fit_deps {a : Ovi.Rows} (h : Fit Dt (.list 5 a)) : ∃ ds : List Dep, a = DD ds := by
  simp only [Fit, Dt] at h
  replace h := h.2.2
  induction a with
  | nil => exact ⟨[], rfl⟩
  | cons r rs ih =>
    obtain ⟨d0, r0, rfl, h0, hr⟩ := Fits.cons (h r List.mem_cons_self)
    obtain ⟨d1, r1, rfl, h1, hr⟩ := Fits.cons hr
    obtain ⟨d2, r2, rfl, h2, hr⟩ := Fits.cons hr
    obtain ⟨d3, r3, rfl, h3, hr⟩ := Fits.cons hr
    obtain ⟨d4, r4, rfl, h4, hr⟩ := Fits.cons hr
    obtain rfl := Fits.nil hr
    obtain ⟨b, rfl, hb⟩ := h0.list (n := 2) rfl
    obtain ⟨c, rfl, hc⟩ := h1.list (n := 2) rfl
    obtain ⟨e, rfl⟩ := h2.bool
    obtain ⟨x, rfl, _⟩ := h3.int
    obtain ⟨y, rfl, _⟩ := h4.int
    obtain ⟨bs, rfl, _⟩ := hb.atoms'
    obtain ⟨cs, rfl, _⟩ := hc.atoms'
    obtain ⟨ds, e⟩ := ih (fun x hx => h x (List.mem_cons_of_mem _ hx))
    exact ⟨⟨bs, cs, _, x, y⟩ :: ds, by rw [e]; rfl⟩
theorem dep_sz {ds : List Dep} (h : szD (.list 5 (DD ds)) ≤ 1048576) : ds.length ≤ 1048576 ∧ ∀ d ∈ ds, Dsz d := by
  simp only [szD, DD_len] at h
  refine ⟨by omega, fun d hd => ?_⟩
  obtain ⟨i, hi⟩ := List.mem_iff_getElem?.1 hd
  have := szR_at (DD_get hi)
  simp only [szC, sz_atoms] at this
  unfold Dsz
  have e1 : szD (.list 2 (A1 d.body)) = d.body.length + terms d.body := sz_atoms
  have e2 : szD (.list 2 (A1 d.head)) = d.head.length + terms d.head := sz_atoms
  omega
theorem c10x {a b c : Ovi.Rows} {n : Int} {f : Ovi.Rows → Ovi.Rows → Int → Ovi.Rows → Option Res} : (bindR (some [(true, [.row 93 3 a, .row 90 2 b, .d (.int .i64 n), .row 85 2 c])]) fun r => bindL (resO 93 3 1 true 4 r 0 0) fun l => bindL (resO 90 2 1 true 4 r 0 1) fun m => bindI (resI .i64 1 true 4 r 0 2) fun n => bindL (resO 85 2 1 true 4 r 0 3) fun o => f l m n o) = f a b n c := rfl
theorem c8x {a b : Ovi.Rows} {f : Ovi.Rows → Ovi.Rows → Option Res} : (bindR (some [(true, [.row 93 3 a, .row 90 2 b])]) fun r => bindL (resO 93 3 1 true 2 r 0 0) fun l => bindL (resO 90 2 1 true 2 r 0 1) fun m => f l m) = f a b := rfl
theorem c9x {c : Ovi.Rows} {f : Ovi.Rows → Option Res} : (bindR (some [(false, [.row 63 5 c])]) fun r => bindL (resO 63 5 1 false 1 r 0 0) fun l => f l) = f c := rfl
theorem bBt {f : Bool → Option Res} : (bindR (some [(false, [.d (.bool true)])]) fun r => bindB (resB 1 false 1 r 0 0) f) = f true := rfl
theorem law3 (hk : 4000000 ≤ k) {a b c d e g : Ovi.Rows} {n : Int} (h1 : Fit (.list [.str, .int .i64, .bool]) (.list 3 a)) (h2 : Fit (.list [.int .i64, .list [.int .i64]]) (.list 2 b)) (h3 : Fit (.list [.list [.int .i64, .list [.int .i64]], .list [.int .i64, .list [.int .i64]], .bool, .int .i64, .int .i64]) (.list 5 c)) (h4 : Fit (.list [.str, .int .i64, .bool]) (.list 3 d)) (h5 : Fit (.list [.int .i64, .list [.int .i64]]) (.list 2 e)) (h6 : Fit (.list [.int .i64, .list [.int .i64]]) (.list 2 g)) :
    C k 3 [.agg [.d (.list 3 a), .d (.list 2 b)], .d (.list 5 c), .agg [.d (.list 3 d), .d (.list 2 e), .d (.int .i64 n), .d (.list 2 g)]] = bo true := by
  obtain ⟨k, rfl⟩ : ∃ j, k = j + 27 := ⟨k - 27, by omega⟩
  rw [F3.run, c4 (k := k + 26) (by omega) h1 h2 (by omega) (by omega)]
  simp only [bindR_s, resI_s, bindI_s]
  rcases szT_cases 1048576 (szC [.list 3 a, .list 2 b]) with ⟨q1, e1⟩ | ⟨q1, e1⟩ <;> rw [e1]
  rotate_left
  · rw [ite'_t neg_t]; rfl
  have p1 := q1
  simp only [szC] at p1
  have z1 : szD (.list 3 a) ≤ 1048576 := by omega
  have z2 : szD (.list 2 b) ≤ 1048576 := by omega
  rw [ite'_f (neg_f (by omega)), c5 (k := k + 26) (by omega) h3 (by omega) (by omega)]
  simp only [bindR_s, resI_s, bindI_s]
  rcases szT_cases (1048576 - ((szC [.list 3 a, .list 2 b] : Nat) : Int)) (szD (.list 5 c)) with ⟨q2, e2⟩ | ⟨q2, e2⟩ <;> rw [e2]
  rotate_left
  · rw [ite'_t neg_t]; rfl
  have z3 : szD (.list 5 c) ≤ 1048576 := by omega
  rw [ite'_f (neg_f (by omega)), c6 (k := k + 26) (by omega) h4 h5 h6 (by omega) (by omega)]
  simp only [bindR_s, resI_s, bindI_s]
  rcases szT_cases (1048576 - ((szC [.list 3 a, .list 2 b] : Nat) : Int) - ((szD (.list 5 c) : Nat) : Int)) (szC [.list 3 d, .list 2 e, .int .i64 n, .list 2 g]) with ⟨q3, e3⟩ | ⟨q3, e3⟩ <;> rw [e3]
  rotate_left
  · rw [ite'_t neg_t]; rfl
  have p3 := q3
  simp only [szC] at p3
  have z4 : szD (.list 3 d) ≤ 1048576 := by omega
  have z5 : szD (.list 2 e) ≤ 1048576 := by omega
  have z6 : szD (.list 2 g) ≤ 1048576 := by omega
  rw [ite'_f (neg_f (by omega)), c8 (k := k + 26) (by omega) h1 h2 z1 z2, c8x, c9 (k := k + 26) (by omega) h3 z3, c9x, c10 (k := k + 26) (by omega) h4 h5 h6 z4 z5 z6, c10x]
  obtain ⟨fs, rfl, hF⟩ := h2.atoms'
  obtain ⟨gs, rfl, hG⟩ := h5.atoms'
  obtain ⟨st, rfl, hS⟩ := h6.atoms'
  obtain ⟨ds, rfl⟩ := fit_deps h3
  obtain ⟨y1, y2⟩ := dep_sz z3
  have x2 := z2
  have x6 := z6
  rw [sz_atoms] at x2 x6
  obtain ⟨v, hv⟩ := validR (a := a) (e := d) (fs := fs) (hs' := gs) ⟨h1, Nat.le_trans sz_rels z1, fun x hx => (hF x hx).2, by omega⟩ h4 ds y2 y1 n st (fun x hx => (hS x hx).2) (fun x hx => by have := len_terms hx; omega) (by omega)
  obtain ⟨g1, g2⟩ := hv k (by omega)
  unfold ia at g1 g2
  rw [g2, bB, c8x, c9x, c10x, g1, bB, ite'_f (by cases v <;> rfl), c8x, c12 (k := k + 26) (by omega) h1 h2 z1 z2, bBt, ite'_nt, c9x, c13 (k := k + 26) (by omega) h3 z3, bBt, ite'_nt, c10x, c14 (k := k + 26) (by omega) h4 h5 h6 z4 z5 z6]
  rfl
end Go.Proofs.YtkkaikcjcjkpbaaGreat.Q

/-
For every state the law FnExactIsValidSkolemState returns true, and the state reads afterwards as it read before. No condition.
-/
import Derived.Test.YtekcjghbfbfmpaaQb
import Derived.Test.YtekcjghbfbfmpaaQa
import Derived.Test.YtekcjghbfbfmpaaRows
set_option linter.unusedVariables false
set_option linter.unusedSimpArgs false
/-! Jb -/
namespace Go.Proofs.Ytekcjghbfbfmpaa.Q
open Go Ovi
variable {k : Nat}
abbrev Term := Int × Int × List Int
def T1 (ts : List Term) : Ovi.Rows := ts.map fun t => [.int .i64 t.1, .int .i64 t.2.1, .list 1 (I1 t.2.2)]
theorem T1_len (ts : List Term) : (T1 ts).length = ts.length := by simp [T1]
theorem T1_get {ts : List Term} {i : Nat} {t : Term} (h : ts[i]? = some t) : (T1 ts)[i]? = some [.int .i64 t.1, .int .i64 t.2.1, .list 1 (I1 t.2.2)] := by simp [T1, h]
theorem T1_0 {ts : List Term} {i : Nat} {t : Term} (h : ts[i]? = some t) : cellI .i64 (T1 ts) (i : Int).toNat 0 = some t.1 := by rw [Int.toNat_natCast, cellI_at (T1_get h)]; simp [asI_s]
theorem T1_1 {ts : List Term} {i : Nat} {t : Term} (h : ts[i]? = some t) : cellI .i64 (T1 ts) (i : Int).toNat 1 = some t.2.1 := by rw [Int.toNat_natCast, cellI_at (T1_get h)]; simp [asI_s]
theorem T1_2 {ts : List Term} {i : Nat} {t : Term} (h : ts[i]? = some t) : cellL 1 (T1 ts) (i : Int).toNat 2 = some (I1 t.2.2) := by rw [Int.toNat_natCast, cellL_at (T1_get h)]; simp [asL_s]
theorem I1_c {zs : List Int} {i : Nat} {z : Int} (h : zs[i]? = some z) : cellI .i64 (I1 zs) (i : Int).toNat 0 = some z := by rw [Int.toNat_natCast, cellI_at (I1_get' h)]; simp [asI_s]
theorem terms' {a : Ovi.Rows} (h : Fit (.list [.int .i64, .int .i64, .list [.int .i64]]) (.list 3 a)) : ∃ ts : List Term, a = T1 ts ∧ ∀ t ∈ ts, ∀ z ∈ t.2.2, inI z := by
  simp only [Fit] at h
  replace h := h.2.2
  induction a with
  | nil => exact ⟨[], rfl, by simp⟩
  | cons r rs ih =>
    obtain ⟨d, r', rfl, hd, hr⟩ := Fits.cons (h r List.mem_cons_self)
    obtain ⟨d1, r1, rfl, hd1, hr1⟩ := Fits.cons hr
    obtain ⟨d2, r2, rfl, hd2, hr2⟩ := Fits.cons hr1
    obtain rfl := Fits.nil hr2
    obtain ⟨z, rfl, hz⟩ := hd.int
    obtain ⟨z1, rfl, hz1⟩ := hd1.int
    obtain ⟨l, rfl, hl⟩ := hd2.list (n := 1) rfl
    obtain ⟨zs, rfl, hzs⟩ := hl.ints'
    obtain ⟨xs, e, hxs⟩ := ih (fun x hx => h x (List.mem_cons_of_mem _ hx))
    exact ⟨(z, z1, zs) :: xs, by rw [e]; rfl, fun x hx => by
      rcases List.mem_cons.1 hx with rfl | hx
      · exact hzs
      · exact hxs x hx⟩
theorem szR_T1 (ts : List Term) : szR (T1 ts) = (ts.map fun t => t.2.2.length).sum := by
  induction ts with
  | nil => rfl
  | cons t ts ih =>
    show szC [.int .i64 t.1, .int .i64 t.2.1, .list 1 (I1 t.2.2)] + szR (T1 ts) = _
    rw [ih]
    simp [szC, szD, szR_I1, I1_len]
theorem arg_len {ts : List Term} {t : Term} (h : t ∈ ts) : t.2.2.length ≤ szR (T1 ts) := by
  rw [szR_T1]
  induction ts with
  | nil => cases h
  | cons y ys ih =>
    simp only [List.map_cons, List.sum_cons]
    rcases List.mem_cons.1 h with rfl | h
    · omega
    · have := ih h; omega
/-- slices.Equal on integers -/
theorem c57 (a b : List Int) (hk : a.length < k) (ha : a.length ≤ maxLen) : C (k + 1) 57 [.d (.list 1 (I1 a)), .d (.list 1 (I1 b))] = bo (decide (a = b)) := by
  rw [F57.run, I1_len, I1_len]
  by_cases hl : a.length = b.length
  · rw [ite'_f (by simp [hl])]
    have := loop_find (xs := a) (L := fun n i => F57.L4 k (C k) n (I1 a) (I1 b) (a.length : Int) i) (stop := fun i x => x != b.getD i 0) (hit := fun _ => bo false) (fin := bo true)
      (fun n i x hx => by
        have hi := (List.getElem?_eq_some_iff.1 hx).1
        have hy : b[i]? = some (b.getD i 0) := by rw [List.getD_eq_getElem?_getD, List.getElem?_eq_getElem (by omega)]; rfl
        rw [F57.L4.succ, I1_len, I1_len, ite'_t (lt_t hi), ite'_t (inR_t hi), I1_c hx, bindI_s, ite'_t (inR_t (by omega)), I1_c hy, bindI_s, next_i hi ha]; rfl)
      (fun n => by rw [F57.L4.succ, ite'_f (lt_f (by omega))]; rfl) k hk
    rcases this with ⟨i, x, hx, hst, e⟩ | ⟨hst, e⟩
    · rw [show F57.L4 k (C k) k (I1 a) (I1 b) (a.length : Int) 0 = _ from e]
      refine bo_eq (decide_eq_false (fun h => ?_)).symm
      subst h
      rw [List.getD_eq_getElem?_getD, hx] at hst
      simp at hst
    · rw [show F57.L4 k (C k) k (I1 a) (I1 b) (a.length : Int) 0 = _ from e]
      refine bo_eq (decide_eq_true ?_).symm
      apply List.ext_getElem?
      intro i
      by_cases hi : i < a.length
      · have := hst i a[i] (List.getElem?_eq_getElem hi)
        rw [List.getD_eq_getElem?_getD, List.getElem?_eq_getElem (by omega)] at this
        rw [List.getElem?_eq_getElem hi, List.getElem?_eq_getElem (by omega)]
        simpa using this
      · rw [List.getElem?_eq_none (by omega), List.getElem?_eq_none (by omega)]
  · rw [ite'_t (by simp; omega)]
    exact bo_eq (decide_eq_false (fun h => hl (by rw [h]))).symm
def argOk (num v : Int) : Bool := okV v && !(isN v && decide (-1 - v ≥ num))
def termOk (t : Term) (num : Int) : Bool := decide (0 ≤ t.1 ∧ t.1 ≤ 4) && (decide (0 ≤ t.2.1 ∧ t.2.1 ≤ 4) && (decide ((t.2.2.length : Int) ≤ 5) && t.2.2.all (argOk num)))
theorem c167 {v num : Int} (h : inI v) : C (k + 3) 167 [.d (.int .i64 v), .cap [.int .i64 num] 0] = bo (!argOk num v) := by
  rw [F167.run, c168 h, c162]
  show (bindR (nn v) fun r => bindI (resI .i64 2 false 1 r 0 0) fun n => bindB (resB 2 false 1 r 1 0) fun b => _) = _
  rw [nnB, bB]
  unfold argOk
  cases hv : okV v with
  | false => rfl
  | true =>
    cases hn : isN v with
    | false => rfl
    | true => simp only [if_true]; cases decide (-1 - v ≥ num) <;> rfl
/-- impl.isTermOf -/
theorem c137 (t : Term) (num : Int) (hI : ∀ z ∈ t.2.2, inI z) (hk : t.2.2.length < k) (hl : t.2.2.length ≤ maxLen) : C (k + 6) 137 [.agg [.d (.int .i64 t.1), .d (.int .i64 t.2.1), .d (.list 1 (I1 t.2.2))], .d (.int .i64 num)] = bo (termOk t num) := by
  rw [F137.run, c113, bB, c113, bB, I1_len, c69 (k := k + 3) t.2.2 167 [[.int .i64 num]] (fun v => !argOk num v) (by omega) hl (fun z hz => by rw [List.map_cons, List.map_nil, c167 (hI z hz)]), bB, any_not]
  unfold termOk
  cases decide (0 ≤ t.1 ∧ t.1 ≤ 4) with
  | false => rfl
  | true =>
    cases decide (0 ≤ t.2.1 ∧ t.2.1 ≤ 4) with
    | false => rfl
    | true =>
      by_cases h : (t.2.2.length : Int) ≤ 5
      · rw [ite'_nt, ite'_nt, ite'_f (by simp; omega), decide_eq_true h]; rfl
      · rw [ite'_nt, ite'_nt, ite'_t (by simp; omega), decide_eq_false h]; rfl
theorem c170 (t c : Term) (hk : t.2.2.length < k) (hl : t.2.2.length ≤ maxLen) : C (k + 2) 170 [.agg [.d (.int .i64 t.1), .d (.int .i64 t.2.1), .d (.list 1 (I1 t.2.2))], .cap [.int .i64 c.1, .int .i64 c.2.1, .list 1 (I1 c.2.2)] 0] = bo (decide (t = c)) := by
  rw [F170.run, c57 t.2.2 c.2.2 hk hl, bB]
  have e : decide (t = c) = (decide (t.1 = c.1) && (decide (t.2.1 = c.2.1) && decide (t.2.2 = c.2.2))) := by
    rw [Bool.eq_iff_iff]
    simp only [decide_eq_true_eq, Bool.and_eq_true, Prod.ext_iff]
  rw [e]
  by_cases h1 : t.1 = c.1
  · rw [ite'_t (by simpa using h1), decide_eq_true h1]
    by_cases h2 : t.2.1 = c.2.1
    · rw [ite'_t (by simpa using h2), decide_eq_true h2]; rfl
    · rw [ite'_f (by simpa using h2), decide_eq_false h2]; rfl
  · rw [ite'_f (by simpa using h1), decide_eq_false h1]; rfl
/-- impl.termAt -/
theorem c138 (ts : List Term) (p : Nat) (t : Term) (hp : ts[p]? = some t) (hk : szR (T1 ts) + ts.length < k) (hl : szR (T1 ts) + ts.length ≤ 1048576) : ∃ n, C (k + 4) 138 [.d (.list 3 (T1 ts)), .agg [.d (.int .i64 t.1), .d (.int .i64 t.2.1), .d (.list 1 (I1 t.2.2))]] = io n ∧ (n ≠ (p : Int) ↔ t ∈ ts.take p) := by
  have hmax : (1048576 : Nat) ≤ maxLen := by decide
  rw [F138.run, F169.run, T1_len]
  have := loop_first (xs := ts) (L := fun n i => F169.L2 (k + 2) (C (k + 2)) n (T1 ts) 170 [[.int .i64 t.1, .int .i64 t.2.1, .list 1 (I1 t.2.2)]] (ts.length : Int) i) (stop := fun _ x => decide (x = t)) (hit := fun i => io (i : Int)) (fin := io (-1))
    (fun n i x hx => by
      have hi := (List.getElem?_eq_some_iff.1 hx).1
      have := arg_len (List.mem_of_getElem? hx)
      rw [F169.L2.succ, T1_len, ite'_t (lt_t hi), ite'_t (inR_t hi), T1_0 hx, T1_1 hx, T1_2 hx]
      simp only [bindI_s, bindL_s, List.map_cons, List.map_nil, List.append_eq, List.nil_append]
      rw [c170 (k := k) x t (by omega) (by omega), bB, next_i hi (m := ts.length) (by omega)]; rfl)
    (fun n => by rw [F169.L2.succ, ite'_f (lt_f (by omega))]; rfl) (k + 2) (by omega)
  rcases this with ⟨i, x, hx, hst, hf, e⟩ | ⟨hst, e⟩
  · have hxt : x = t := by simpa using hst
    subst hxt
    refine ⟨(i : Int), by rw [show F169.L2 (k + 2) (C (k + 2)) (k + 2) (T1 ts) 170 [[.int .i64 x.1, .int .i64 x.2.1, .list 1 (I1 x.2.2)]] (ts.length : Int) 0 = _ from e, iB']; rfl, ?_⟩
    have hip : i ≤ p := by
      rcases Nat.lt_or_ge p i with h | h
      · have := hf p x h hp; simp at this
      · exact h
    constructor
    · intro h
      have : i < p := by omega
      exact List.mem_iff_getElem?.2 ⟨i, by rw [List.getElem?_take_of_lt this]; exact hx⟩
    · intro h
      obtain ⟨j, hj⟩ := List.mem_iff_getElem?.1 h
      have hjl := (List.getElem?_eq_some_iff.1 hj).1
      simp only [List.length_take] at hjl
      rw [List.getElem?_take_of_lt (by omega)] at hj
      intro e
      have : i = p := by omega
      have := hf j x (by omega) hj
      simp at this
  · have := hst p t hp
    simp at this
/-! ### depths -/
def most (ds args : List Int) : Int := (args.filter isN).foldl (fun m v => maxI m (ds.getD (-1 - v).toNat 0)) 0
def deepL : List Term → List Int → List Int
  | [], ds => ds
  | t :: ts, ds => deepL ts (ds ++ [most ds t.2.2 + 1])
def DD (ts : List Term) (i : Nat) : List Int := deepL (ts.take i) []
theorem deepL_app : ∀ (ts : List Term) (t : Term) (ds : List Int), deepL (ts ++ [t]) ds = deepL ts ds ++ [most (deepL ts ds) t.2.2 + 1]
  | [], t, ds => rfl
  | x :: xs, t, ds => deepL_app xs t _
theorem DD_succ {ts : List Term} {i : Nat} {t : Term} (h : ts[i]? = some t) : DD ts (i + 1) = DD ts i ++ [most (DD ts i) t.2.2 + 1] := by
  obtain ⟨hi, e⟩ := List.getElem?_eq_some_iff.1 h
  unfold DD
  rw [List.take_succ_eq_append_getElem hi, e, deepL_app]
theorem DD_len {ts : List Term} : ∀ {i : Nat}, i ≤ ts.length → (DD ts i).length = i
  | 0, _ => rfl
  | i + 1, h => by rw [DD_succ (List.getElem?_eq_getElem (show i < ts.length by omega)), List.length_append, DD_len (by omega)]; rfl
theorem fold_max {α : Type} (f : α → Int) : ∀ (l : List α) (m0 : Int), m0 ≤ l.foldl (fun m x => maxI m (f x)) m0 ∧ (∀ x ∈ l, f x ≤ l.foldl (fun m x => maxI m (f x)) m0) ∧ (l.foldl (fun m x => maxI m (f x)) m0 = m0 ∨ ∃ x ∈ l, l.foldl (fun m x => maxI m (f x)) m0 = f x)
  | [], m0 => ⟨by simp, by simp, .inl rfl⟩
  | y :: ys, m0 => by
    obtain ⟨h1, h2, h3⟩ := fold_max f ys (maxI m0 (f y))
    have g1 : m0 ≤ maxI m0 (f y) := by unfold maxI; split <;> omega
    have g2 : f y ≤ maxI m0 (f y) := by unfold maxI; split <;> omega
    have g3 : maxI m0 (f y) = m0 ∨ maxI m0 (f y) = f y := by unfold maxI; split <;> simp
    simp only [List.foldl_cons]
    refine ⟨by omega, fun x hx => ?_, ?_⟩
    · rcases List.mem_cons.1 hx with rfl | hx
      · omega
      · exact h2 x hx
    · rcases h3 with h3 | ⟨x, hx, h3⟩
      · rcases g3 with g3 | g3
        · exact .inl (by omega)
        · exact .inr ⟨y, List.mem_cons_self, by omega⟩
      · exact .inr ⟨x, List.mem_cons_of_mem _ hx, h3⟩
theorem getD_range {ds : List Int} {B : Int} (hB : 0 ≤ B) (h : ∀ d ∈ ds, 1 ≤ d ∧ d ≤ B) (n : Nat) : 0 ≤ ds.getD n 0 ∧ ds.getD n 0 ≤ B := by
  rw [List.getD_eq_getElem?_getD]
  cases hn : ds[n]? with
  | none => exact ⟨by simp, by simpa using hB⟩
  | some d => have := h d (List.mem_of_getElem? hn); simp; omega
theorem most_range {ds args : List Int} {B : Int} (hB : 0 ≤ B) (h : ∀ d ∈ ds, 1 ≤ d ∧ d ≤ B) : 0 ≤ most ds args ∧ most ds args ≤ B := by
  obtain ⟨h1, _, h3⟩ := fold_max (fun v => ds.getD (-1 - v).toNat 0) (args.filter isN) 0
  refine ⟨h1, ?_⟩
  rcases h3 with h3 | ⟨x, _, h3⟩
  · unfold most; omega
  · have := (getD_range hB h (-1 - x).toNat).2
    unfold most; omega
theorem DD_range {ts : List Term} : ∀ {i : Nat}, i ≤ ts.length → ∀ d ∈ DD ts i, 1 ≤ d ∧ d ≤ (i : Int)
  | 0, _, d, hd => by simp [DD, deepL] at hd
  | i + 1, h, d, hd => by
    rw [DD_succ (List.getElem?_eq_getElem (show i < ts.length by omega))] at hd
    have ih := DD_range (ts := ts) (i := i) (by omega)
    rcases List.mem_append.1 hd with hd | hd
    · have := ih d hd; omega
    · obtain rfl := List.mem_singleton.1 hd
      have := most_range (args := ts[i].2.2) (by omega : (0 : Int) ≤ (i : Int)) ih
      omega
theorem most_nulls (ds args : List Int) : (nulls args).foldl (fun m n => maxI m (ds.getD n.toNat 0 + 1)) 1 = most ds args + 1 := by
  obtain ⟨h1, h2, h3⟩ := fold_max (fun v => ds.getD (-1 - v).toNat 0) (args.filter isN) 0
  obtain ⟨g1, g2, g3⟩ := fold_max (fun n : Int => ds.getD n.toNat 0 + 1) (nulls args) 1
  have hm : most ds args = (args.filter isN).foldl (fun m v => maxI m (ds.getD (-1 - v).toNat 0)) 0 := rfl
  rw [← hm] at h1 h2 h3
  have hle : (nulls args).foldl (fun m n => maxI m (ds.getD n.toNat 0 + 1)) 1 ≤ most ds args + 1 := by
    rcases g3 with g3 | ⟨n, hn, g3⟩
    · rw [g3]; omega
    · obtain ⟨v, hv, hvn, rfl⟩ := (mem_nulls _ _).1 hn
      have := h2 v (List.mem_filter.2 ⟨hv, hvn⟩)
      rw [g3]; omega
  have hge : most ds args + 1 ≤ (nulls args).foldl (fun m n => maxI m (ds.getD n.toNat 0 + 1)) 1 := by
    rcases h3 with h3 | ⟨v, hv, h3⟩
    · omega
    · have hv' := List.mem_filter.1 hv
      have := g2 (-1 - v) ((mem_nulls _ _).2 ⟨v, hv'.1, hv'.2, rfl⟩)
      omega
  omega
/-- impl.depths -/
theorem c139 (ts : List Term) (hI : ∀ t ∈ ts, ∀ z ∈ t.2.2, inI z) (hok : ∀ (i : Nat) t, ts[i]? = some t → t.2.2.all (argOk (i : Int)) = true) (hk : 2000000 ≤ k) (hl : szR (T1 ts) + ts.length ≤ 1048576) : C (k + 4) 139 [.d (.list 3 (T1 ts))] = some [(false, [.row 3 1 (I1 (DD ts ts.length))])] := by
  have hmax : (1048576 : Nat) ≤ maxLen := by decide
  rw [F139.run, T1_len]
  have inner : ∀ (i : Nat) (nl : List Int), i < ts.length → nl.length ≤ 1048576 → (∀ n ∈ nl, 0 ≤ n ∧ n < (i : Int)) → ∀ (m j n k3 : Nat) (dep : Int), j + m = nl.length → m < n →
      F139.L7 (k + 3) (C (k + 3)) k3 n dep (T1 ts) (ts.length : Int) (i : Int) (nl.length : Int) (j : Int) (I1 (DD ts i)) (I1 nl) = F139.L3 (k + 3) (C (k + 3)) k3 (T1 ts) (ts.length : Int) ((i + 1 : Nat) : Int) (I1 (DD ts i ++ [(nl.drop j).foldl (fun m n => maxI m ((DD ts i).getD n.toNat 0 + 1)) dep])) := by
    intro i nl hi hnl hr m
    have hdl := DD_len (ts := ts) (i := i) (by omega)
    induction m with
    | zero =>
      intro j n k3 dep hm hn
      obtain ⟨n, rfl⟩ : ∃ j, n = j + 1 := ⟨n - 1, by omega⟩
      rw [F139.L7.succ, ite'_f (lt_f (by omega)), ite'_t (fits_t (by rw [I1_len, hdl]; simp; omega)), next_i hi (m := ts.length) (by omega), List.drop_eq_nil_of_le (by omega)]
      simp [I1]
    | succ m ih =>
      intro j n k3 dep hm hn
      obtain ⟨n, rfl⟩ : ∃ j, n = j + 1 := ⟨n - 1, by omega⟩
      have hj : j < nl.length := by omega
      have hz := List.getElem?_eq_getElem hj
      obtain ⟨h0, h1⟩ := hr _ (List.getElem_mem hj)
      obtain ⟨q, hq⟩ : ∃ q : Nat, nl[j] = (q : Int) := ⟨nl[j].toNat, by omega⟩
      have hqd : (DD ts i)[q]? = some ((DD ts i).getD q 0) := by rw [List.getD_eq_getElem?_getD, List.getElem?_eq_getElem (by omega)]; rfl
      have hdr := getD_range (by omega : (0 : Int) ≤ (i : Int)) (DD_range (ts := ts) (i := i) (by omega)) q
      rw [F139.L7.succ, ite'_t (lt_t hj), I1_len, ite'_t (inR_t hj), I1_c hz, bindI_s, hq, I1_len, ite'_t (inR_t (by omega)), I1_c hqd, bindI_s, wrap_id (by omega) (by omega), next_i hj (m := nl.length) (by omega), ih (j + 1) n k3 _ (by omega) (by omega), List.drop_eq_getElem_cons hj, List.foldl_cons, hq, Int.toNat_natCast]
  have outer : ∀ (m i n : Nat), i + m = ts.length → m < n → F139.L3 (k + 3) (C (k + 3)) n (T1 ts) (ts.length : Int) (i : Int) (I1 (DD ts i)) = some [(false, [.row 3 1 (I1 (DD ts ts.length))])] := by
    intro m
    induction m with
    | zero =>
      intro i n hm hn
      obtain ⟨n, rfl⟩ : ∃ j, n = j + 1 := ⟨n - 1, by omega⟩
      obtain rfl : i = ts.length := by omega
      rw [F139.L3.succ, ite'_f (lt_f (by omega))]
    | succ m ih =>
      intro i n hm hn
      obtain ⟨n, rfl⟩ : ∃ j, n = j + 1 := ⟨n - 1, by omega⟩
      have hi : i < ts.length := by omega
      have ht := List.getElem?_eq_getElem hi
      have htm := List.getElem_mem hi
      have hal := arg_len htm
      have hnl := nulls_len (ts[i]).2.2
      rw [F139.L3.succ, ite'_t (lt_t hi), T1_len, ite'_t (inR_t hi), T1_0 ht, T1_1 ht, T1_2 ht]
      simp only [bindI_s, bindL_s]
      rw [c165 (k := k) (ts[i]).2.2 (hI _ htm) (by omega) (by omega)]
      simp only [bindR_s, resO_s, bindL_s, I1_len]
      have := inner i (nulls (ts[i]).2.2) hi (by omega) (fun n hn => by
        obtain ⟨v, hv, hvn, rfl⟩ := (mem_nulls _ _).1 hn
        have h1 := isN_t hvn
        have h2 := List.all_eq_true.1 (hok i _ ht) v hv
        simp only [argOk, hvn, Bool.true_and, Bool.and_eq_true, Bool.not_eq_true', decide_eq_false_iff_not] at h2
        omega) (nulls (ts[i]).2.2).length 0 (k + 3) n 1 (by omega) (by omega)
      rw [show ((0 : Nat) : Int) = 0 from rfl] at this
      rw [this, List.drop_zero, most_nulls, ← DD_succ ht]
      exact ih (i + 1) n (by omega) (by omega)
  exact outer ts.length 0 (k + 3) (by omega) (by omega)
/-- the terms are as they have to be, but for their number -/
def good (ts : List Term) (i : Nat) (t : Term) : Bool := termOk t (i : Int) && !decide (t ∈ ts.take i)
def deepOk (ts : List Term) (i : Nat) (t : Term) : Bool := decide (most (DD ts i) t.2.2 + 1 ≤ 8)
/-- impl.areTerms -/
theorem c94 (ts : List Term) (hI : ∀ t ∈ ts, ∀ z ∈ t.2.2, inI z) (hk : 2000000 ≤ k) (hl : szR (T1 ts) + ts.length ≤ 1048576) : ∃ b, C (k + 8) 94 [.d (.list 3 (T1 ts))] = bo b ∧ (b = true ↔ ts.length ≤ 30 ∧ ∀ (i : Nat) t, ts[i]? = some t → good ts i t = true ∧ deepOk ts i t = true) := by
  have hmax : (1048576 : Nat) ≤ maxLen := by decide
  rw [F94.run, T1_len]
  by_cases h30 : ts.length ≤ 30
  · rw [ite'_f (by simp; omega)]
    have hfin : (∀ (i : Nat) t, ts[i]? = some t → good ts i t = true) → ∀ n, F94.L4 (k + 7) (C (k + 7)) (n + 1) (T1 ts) (T1 ts) (ts.length : Int) (ts.length : Int) = bo ((DD ts ts.length).all fun d => !decide (d > 8)) := by
      intro hg n
      rw [F94.L4.succ, ite'_f (lt_f (by omega)), c139 (k := k + 3) ts hI (fun i t ht => by
        have := hg i t ht
        simp only [good, termOk, Bool.and_eq_true] at this
        exact this.1.2.2.2) (by omega) hl]
      simp only [bindR_s, resO_s, bindL_s]
      rw [c69 (k := k + 5) (DD ts ts.length) 140 [] (fun d => decide (d > 8)) (by rw [DD_len (Nat.le_refl _)]; omega) (by rw [DD_len (Nat.le_refl _)]; omega) (fun z _ => by rw [List.map_nil, F140.run]; rfl), bB]
      refine bo_eq ?_
      rw [← any_not]
      simp
    have main : ∀ (m i n : Nat), i + m = ts.length → m < n → (∀ (j : Nat) t, j < i → ts[j]? = some t → good ts j t = true) → ∃ b, F94.L4 (k + 7) (C (k + 7)) n (T1 ts) (T1 ts) (ts.length : Int) (i : Int) = bo b ∧ (b = true ↔ (∀ (i : Nat) t, ts[i]? = some t → good ts i t = true) ∧ ((DD ts ts.length).all fun d => !decide (d > 8)) = true) := by
      intro m
      induction m with
      | zero =>
        intro i n hm hn hg
        obtain ⟨n, rfl⟩ : ∃ j, n = j + 1 := ⟨n - 1, by omega⟩
        obtain rfl : i = ts.length := by omega
        have hg' : ∀ (i : Nat) t, ts[i]? = some t → good ts i t = true := fun j t ht => hg j t (List.getElem?_eq_some_iff.1 ht).1 ht
        exact ⟨_, hfin hg' n, fun h => ⟨hg', h⟩, fun h => h.2⟩
      | succ m ih =>
        intro i n hm hn hg
        obtain ⟨n, rfl⟩ : ∃ j, n = j + 1 := ⟨n - 1, by omega⟩
        have hi : i < ts.length := by omega
        have ht := List.getElem?_eq_getElem hi
        have htm := List.getElem_mem hi
        have hal := arg_len htm
        obtain ⟨q, e138, hq⟩ := c138 (k := k + 3) ts i _ ht (by omega) hl
        rw [F94.L4.succ, ite'_t (lt_t hi), T1_len, ite'_t (inR_t hi), T1_0 ht, T1_1 ht, T1_2 ht]
        simp only [bindI_s, bindL_s]
        rw [c137 (k := k + 1) ts[i] (i : Int) (hI _ htm) (by omega) (by omega), bB, e138, iB']
        have bad : good ts i ts[i] = false → ∃ b, bo false = bo b ∧ (b = true ↔ (∀ (i : Nat) t, ts[i]? = some t → good ts i t = true) ∧ ((DD ts ts.length).all fun d => !decide (d > 8)) = true) := fun h => ⟨false, rfl, ⟨fun h' => (by cases h'), fun h' => (by have := h'.1 i _ ht; rw [h] at this; cases this)⟩⟩
        cases hv : termOk ts[i] (i : Int) with
        | false => exact bad (by simp [good, hv])
        | true =>
          rw [ite'_nt]
          by_cases hd : ts[i] ∈ ts.take i
          · rw [ite'_t (by simpa using hq.2 hd)]
            exact bad (by simp [good, hd])
          · rw [ite'_f (by simpa using fun h => hd (hq.1 h)), next_i hi (m := ts.length) (by omega)]
            refine ih (i + 1) n (by omega) (by omega) (fun j t hj htj => ?_)
            by_cases hji : j = i
            · subst hji; rw [ht] at htj; cases htj; simp [good, hv, hd]
            · exact hg j t (by omega) htj
    obtain ⟨b, e, hb⟩ := main ts.length 0 (k + 7) (by omega) (by omega) (fun j t hj => by omega)
    refine ⟨b, e, ?_⟩
    rw [hb]
    have hdd : ((DD ts ts.length).all fun d => !decide (d > 8)) = true ↔ ∀ (i : Nat) t, ts[i]? = some t → deepOk ts i t = true := by
      have hget : ∀ (n i : Nat) t, n ≤ ts.length → i < n → ts[i]? = some t → (DD ts n)[i]? = some (most (DD ts i) t.2.2 + 1) := by
        intro n
        induction n with
        | zero => intro i t _ hi; omega
        | succ n ihn =>
          intro i t hn hi ht
          rw [DD_succ (List.getElem?_eq_getElem (show n < ts.length by omega))]
          have hdl := DD_len (ts := ts) (i := n) (by omega)
          by_cases hin : i = n
          · subst hin
            rw [List.getElem?_append_right (by omega), hdl]
            rw [List.getElem?_eq_getElem (show i < ts.length by omega)] at ht
            cases ht
            simp
          · rw [List.getElem?_append_left (by omega)]
            exact ihn i t (by omega) (by omega) ht
      constructor
      · intro h i t ht
        have hi := (List.getElem?_eq_some_iff.1 ht).1
        have := List.all_eq_true.1 h _ (List.mem_of_getElem? (hget ts.length i t (Nat.le_refl _) hi ht))
        simp only [deepOk, decide_eq_true_eq, Bool.not_eq_true', decide_eq_false_iff_not] at this ⊢
        omega
      · intro h
        rw [List.all_eq_true]
        intro d hd
        obtain ⟨i, hi⟩ := List.mem_iff_getElem?.1 hd
        have hil : i < ts.length := by have := (List.getElem?_eq_some_iff.1 hi).1; rwa [DD_len (Nat.le_refl _)] at this
        have ht := List.getElem?_eq_getElem hil
        rw [hget ts.length i _ (Nat.le_refl _) hil ht] at hi
        cases hi
        have := h i _ ht
        simp only [deepOk, decide_eq_true_eq, Bool.not_eq_true', decide_eq_false_iff_not] at this ⊢
        omega
    rw [hdd]
    exact ⟨fun h => ⟨h30, fun i t ht => ⟨h.1 i t ht, h.2 i t ht⟩⟩, fun h => ⟨fun i t ht => (h.2 i t ht).1, fun i t ht => (h.2 i t ht).2⟩⟩
  · rw [ite'_t (by simp; omega)]
    exact ⟨false, rfl, ⟨fun h => (by cases h), fun h => absurd h.1 h30⟩⟩
end Go.Proofs.Ytekcjghbfbfmpaa.Q

/-! Kb -/
namespace Go.Proofs.Ytekcjghbfbfmpaa.Q
open Go Ovi
variable {k : Nat}
theorem cmpI_zero : ∀ (a b : List Int), cmpI a b = 0 ↔ a = b
  | [], [] => by simp [cmpI]
  | [], _ :: _ => by simp [cmpI]
  | _ :: _, [] => by simp [cmpI]
  | x :: xs, y :: ys => by
    unfold cmpI
    by_cases h1 : x < y
    · rw [if_pos h1]
      constructor
      · intro h; omega
      · intro h; cases h; omega
    · rw [if_neg h1]
      by_cases h2 : x > y
      · rw [if_pos h2]
        constructor
        · intro h; omega
        · intro h; cases h; omega
      · rw [if_neg h2, cmpI_zero xs ys]
        have : x = y := by omega
        subst this
        simp
/-- the last of the nulls lies below -/
def lastOk (N : List Int) (n : Int) : Bool := N.isEmpty || decide (N.getD (N.length - 1) 0 < n)
def goodS (ts : List Term) (i : Nat) (t : Term) : Bool := good ts i t && (deepOk ts i t && decide (i < 30))
/-- one round of spec.IsValidSkolemState -/
theorem step37 (a X : Ovi.Rows) (ts : List Term) (hI : ∀ t ∈ ts, ∀ z ∈ t.2.2, inI z) (hk : 2000000 ≤ k) (hl : szR (T1 ts) + ts.length ≤ 1048576) (i : Nat) (t : Term) (ht : ts[i]? = some t) (n : Nat) :
    F37.L3 (k + 4) (C (k + 4)) (n + 1) (i : Int) a X (T1 ts) (I1 (DD ts i)) = cond (goodS ts i t) (F37.L3 (k + 4) (C (k + 4)) n ((i + 1 : Nat) : Int) a X (T1 ts) (I1 (DD ts (i + 1)))) (bo false) := by
  have hmax : (1048576 : Nat) ≤ maxLen := by decide
  have hi := (List.getElem?_eq_some_iff.1 ht).1
  have htm := List.mem_of_getElem? ht
  have hal := arg_len htm
  have hdl := DD_len (ts := ts) (i := i) (by omega)
  have hdr := DD_range (ts := ts) (i := i) (by omega)
  have hin : inR (i : Int) (T1 ts).length = true := by rw [T1_len]; exact inR_t hi
  have hmr := most_range (args := t.2.2) (by omega : (0 : Int) ≤ (i : Int)) hdr
  -- the terms before
  have l19 : ∀ (m k3 : Nat) (deep : Ovi.Rows), i < m → F37.L19 (k + 4) (C (k + 4)) k3 m (i : Int) 0 a X (T1 ts) deep =
      cond ((ts.take i).any fun x => decide (x = t)) (bo false) (cond (decide (0 ≤ t.1 ∧ t.1 ≤ 4) && decide (0 ≤ t.2.1 ∧ t.2.1 ≤ 4)) (F37.L3 (k + 4) (C (k + 4)) k3 ((i + 1 : Nat) : Int) a X (T1 ts) deep) (bo false)) := by
    intro m k3 deep hm
    have htl : (ts.take i).length = i := by simp; omega
    have := loop_any (xs := ts.take i) (L := fun n j => F37.L19 (k + 4) (C (k + 4)) k3 n (i : Int) j a X (T1 ts) deep) (stop := fun x => decide (x = t)) (hit := bo false)
      (fin := cond (decide (0 ≤ t.1 ∧ t.1 ≤ 4) && decide (0 ≤ t.2.1 ∧ t.2.1 ≤ 4)) (F37.L3 (k + 4) (C (k + 4)) k3 ((i + 1 : Nat) : Int) a X (T1 ts) deep) (bo false))
      (fun n j x hx => by
        have hj := (List.getElem?_eq_some_iff.1 hx).1
        rw [htl] at hj
        rw [List.getElem?_take_of_lt hj] at hx
        have hjl := (List.getElem?_eq_some_iff.1 hx).1
        have hxl := arg_len (List.mem_of_getElem? hx)
        have hjn : inR (j : Int) (T1 ts).length = true := by rw [T1_len]; exact inR_t hjl
        rw [F37.L19.succ, ite'_t (lt_t hj), ite'_t hjn, T1_0 hx, bindI_s, ite'_t hin, T1_0 ht, bindI_s, next_i hj (m := i) (by omega)]
        have e : decide (x = t) = (decide (x.1 = t.1) && (decide (x.2.1 = t.2.1) && decide (x.2.2 = t.2.2))) := by
          rw [Bool.eq_iff_iff]
          simp only [decide_eq_true_eq, Bool.and_eq_true, Prod.ext_iff]
        rw [e]
        by_cases h1 : x.1 = t.1
        · rw [ite'_t (by simpa using h1), decide_eq_true h1, ite'_t hjn, T1_1 hx, bindI_s, ite'_t hin, T1_1 ht, bindI_s]
          by_cases h2 : x.2.1 = t.2.1
          · rw [ite'_t (by simpa using h2), decide_eq_true h2, ite'_t hjn, T1_2 hx, bindL_s, ite'_t hin, T1_2 ht, bindL_s, c54 (k := k + 3) x.2.2 t.2.2 (by omega) (by omega), iB']
            by_cases h3 : x.2.2 = t.2.2
            · rw [ite'_t (by simpa using (cmpI_zero _ _).2 h3), decide_eq_true h3]; rfl
            · rw [ite'_f (by simpa using fun h => h3 ((cmpI_zero _ _).1 h)), decide_eq_false h3]; rfl
          · rw [ite'_f (by simpa using h2), decide_eq_false h2]; rfl
        · rw [ite'_f (by simpa using h1), decide_eq_false h1]; rfl)
      (fun n => by
        rw [htl, F37.L19.succ, ite'_f (lt_f (by omega)), ite'_t hin, T1_0 ht, bindI_s, c65, bB, ite'_t hin, T1_1 ht, bindI_s, c65, bB, next_i hi (m := ts.length) (by omega)]
        cases decide (0 ≤ t.1 ∧ t.1 ≤ 4) <;> cases decide (0 ≤ t.2.1 ∧ t.2.1 ≤ 4) <;> rfl) m (by omega)
    exact this
  have hmem : ((ts.take i).any fun x => decide (x = t)) = decide (t ∈ ts.take i) := by
    rw [Bool.eq_iff_iff, List.any_eq_true]
    simp only [decide_eq_true_eq]
    constructor
    · rintro ⟨x, hx, rfl⟩; exact hx
    · intro h; exact ⟨t, h, rfl⟩
  -- its arguments
  have l7 : ∀ (m j n' : Nat), j + m = t.2.2.length → m < n' → (∀ v ∈ t.2.2.take j, argOk (i : Int) v = true) →
      F37.L7 (k + 4) (C (k + 4)) n n' (i : Int) (((t.2.2.take j).filter isN).foldl (fun m v => maxI m ((DD ts i).getD (-1 - v).toNat 0)) 0) (j : Int) a X (T1 ts) (I1 (DD ts i)) = cond (goodS ts i t) (F37.L3 (k + 4) (C (k + 4)) n ((i + 1 : Nat) : Int) a X (T1 ts) (I1 (DD ts (i + 1)))) (bo false) := by
    intro m
    induction m with
    | zero =>
      intro j n' hm hn hok
      obtain ⟨n', rfl⟩ : ∃ j, n' = j + 1 := ⟨n' - 1, by omega⟩
      obtain rfl : j = t.2.2.length := by omega
      rw [List.take_length] at hok ⊢
      show F37.L7 (k + 4) (C (k + 4)) n (n' + 1) (i : Int) (most (DD ts i) t.2.2) _ a X (T1 ts) (I1 (DD ts i)) = _
      have hall : t.2.2.all (argOk (i : Int)) = true := List.all_eq_true.2 hok
      rw [F37.L7.succ, ite'_t hin, T1_2 ht]
      simp only [bindL_s]
      rw [I1_len, ite'_f (lt_f (by omega)), ite'_t (fits_t (by rw [I1_len, hdl]; simp; omega)), wrap_id (by omega) (by omega)]
      have hdd : I1 (DD ts i) ++ [[.int .i64 (most (DD ts i) t.2.2 + 1)]] = I1 (DD ts (i + 1)) := by rw [DD_succ ht]; simp [I1]
      rw [hdd]
      have hgs : goodS ts i t = (decide (0 ≤ t.1 ∧ t.1 ≤ 4) && (decide (0 ≤ t.2.1 ∧ t.2.1 ≤ 4) && decide ((t.2.2.length : Int) ≤ 5)) && !decide (t ∈ ts.take i) && (decide (most (DD ts i) t.2.2 + 1 ≤ 8) && decide (i < 30))) := by
        unfold goodS good termOk deepOk
        rw [hall, Bool.and_true]
      rw [hgs]
      by_cases h8 : most (DD ts i) t.2.2 ≥ 8
      · rw [ite'_t (by simpa using h8), decide_eq_false (p := most (DD ts i) t.2.2 + 1 ≤ 8) (by omega)]
        simp [bo]
      · rw [ite'_f (by simpa using h8), ite'_t hin, decide_eq_true (show most (DD ts i) t.2.2 + 1 ≤ 8 by omega)]
        by_cases h5 : (t.2.2.length : Int) ≤ 5
        · rw [ite'_f (by simp; omega), decide_eq_true h5]
          by_cases h30 : i < 30
          · rw [ite'_f (by simp; omega), decide_eq_true h30, l19 (k + 4) n _ (by omega), hmem]
            cases decide (0 ≤ t.1 ∧ t.1 ≤ 4) <;> cases decide (0 ≤ t.2.1 ∧ t.2.1 ≤ 4) <;> cases decide (t ∈ ts.take i) <;> rfl
          · rw [ite'_t (by simp; omega), decide_eq_false h30]
            simp [bo]
        · rw [ite'_t (by simp; omega), decide_eq_false h5]
          simp [bo]
    | succ m ih =>
      intro j n' hm hn hok
      obtain ⟨n', rfl⟩ : ∃ j, n' = j + 1 := ⟨n' - 1, by omega⟩
      have hj : j < t.2.2.length := by omega
      have hv := List.getElem?_eq_getElem hj
      have hvm := List.getElem_mem hj
      have hvI := hI t htm _ hvm
      rw [F37.L7.succ, ite'_t hin, T1_2 ht]
      simp only [bindL_s]
      rw [I1_len, ite'_t (lt_t hj), ite'_t hin, ite'_t (inR_t hj), I1_c hv, bindI_s, c89 hvI, nnB, c90 hvI, bB, next_i hj (m := t.2.2.length) (by omega)]
      have hbad : argOk (i : Int) t.2.2[j] = false → goodS ts i t = false := by
        intro h
        have : t.2.2.all (argOk (i : Int)) = false := List.all_eq_false.2 ⟨_, hvm, by simp [h]⟩
        simp [goodS, good, termOk, this]
      have htake : t.2.2.take (j + 1) = t.2.2.take j ++ [t.2.2[j]] := List.take_succ_eq_append_getElem hj
      have hnext : argOk (i : Int) t.2.2[j] = true → ∀ v ∈ t.2.2.take (j + 1), argOk (i : Int) v = true := by
        intro h v hv'
        rw [htake] at hv'
        rcases List.mem_append.1 hv' with hv' | hv'
        · exact hok v hv'
        · rw [List.mem_singleton.1 hv']; exact h
      cases hov : okV t.2.2[j] with
      | false => rw [hbad (by simp [argOk, hov]), ite'_nf]; rfl
      | true =>
        rw [ite'_nt]
        cases hn' : isN t.2.2[j] with
        | false =>
          rw [ite'_f rfl, ite'_f rfl]
          have := ih (j + 1) n' (by omega) (by omega) (hnext (by simp [argOk, hov, hn']))
          rw [htake, List.filter_append] at this
          simpa [hn'] using this
        | true =>
          have hnr := isN_t hn'
          rw [ite'_t rfl]
          simp only [if_true]
          by_cases hge : -1 - t.2.2[j] ≥ (i : Int)
          · rw [ite'_t (by simpa using hge), hbad (by simp [argOk, hov, hn']; omega)]; rfl
          · obtain ⟨q, hq⟩ : ∃ q : Nat, -1 - t.2.2[j] = (q : Int) := ⟨(-1 - t.2.2[j]).toNat, by omega⟩
            have hqd : (DD ts i)[q]? = some ((DD ts i).getD q 0) := by rw [List.getD_eq_getElem?_getD, List.getElem?_eq_getElem (by omega)]; rfl
            rw [ite'_f (by simpa using hge), ite'_t rfl, hq, ite'_t (by rw [I1_len]; exact inR_t (by omega)), I1_c hqd, bindI_s]
            have := ih (j + 1) n' (by omega) (by omega) (hnext (by simp [argOk, hov, hn']; omega))
            rw [htake, List.filter_append, List.foldl_append] at this
            simp only [List.filter_cons, hn', if_true, List.filter_nil, List.foldl_cons, List.foldl_nil, hq, Int.toNat_natCast] at this
            exact this
  rw [F37.L3.succ, T1_len, ite'_t (lt_t hi)]
  exact l7 t.2.2.length 0 (k + 4) (by omega) (by omega) (by simp)
/-- spec.IsValidSkolemState -/
theorem c37 {a : Ovi.Rows} (xs : List Atom) (ts : List Term) (hX : ∀ x ∈ xs, ∀ z ∈ x.2, inI z) (hI : ∀ t ∈ ts, ∀ z ∈ t.2.2, inI z) (hk : 2000000 ≤ k) (hl : szR (T1 ts) + ts.length ≤ 1048576) (hs : terms xs + xs.length ≤ 1048576) {ib : Bool}
    (hib : ∀ k, 2000000 ≤ k → C (k + 8) 74 [.agg [.d (.list 3 a), .d (.list 2 (A1 xs))]] = bo ib) :
    ∃ b, C (k + 9) 37 [.agg [.d (.list 3 a), .d (.list 2 (A1 xs)), .d (.list 3 (T1 ts))]] = bo b ∧ (b = true ↔ ib = true ∧ lastOk (nulls (vals xs)) (ts.length : Int) = true ∧ ts.length ≤ 30 ∧ ∀ (i : Nat) t, ts[i]? = some t → good ts i t = true ∧ deepOk ts i t = true) := by
  have hmax : (1048576 : Nat) ≤ maxLen := by decide
  rw [F37.run]
  have hfin : ∀ n, F37.L3 (k + 8) (C (k + 8)) (n + 1) (ts.length : Int) a (A1 xs) (T1 ts) (I1 (DD ts ts.length)) = bo (ib && (decide ((ts.length : Int) ≤ 30) && lastOk (nulls (vals xs)) (ts.length : Int))) := by
    intro n
    rw [F37.L3.succ, T1_len, ite'_f (lt_f (by omega)), c91 (k := k + 4) a xs hX (by omega) hs]
    simp only [bindR_s, resL_d, bindL_s]
    rw [hib k hk, bB, I1_len]
    have hnl := nulls_len (vals xs)
    rw [vals_len] at hnl
    generalize nulls (vals xs) = N at *
    cases ib with
    | false => rfl
    | true =>
      rw [ite'_t rfl]
      by_cases h30 : (ts.length : Int) ≤ 30
      · rw [ite'_t (by simpa using h30), decide_eq_true h30]
        by_cases hN : N.length = 0
        · rw [ite'_t (by simp [hN])]
          have := List.eq_nil_of_length_eq_zero hN
          subst this
          rfl
        · have hw : IntKind.i64.wrap ((N.length : Int) - 1) = ((N.length - 1 : Nat) : Int) := by rw [wrap_id (by omega) (by omega)]; omega
          have hget : N[N.length - 1]? = some (N.getD (N.length - 1) 0) := by rw [List.getD_eq_getElem?_getD, List.getElem?_eq_getElem (by omega)]; rfl
          rw [ite'_f (by simp; intro h; exact hN (by rw [h]; rfl)), hw, ite'_t (inR_t (by omega)), I1_c hget, bindI_s]
          have hne : N.isEmpty = false := by cases N with | nil => simp at hN | cons _ _ => rfl
          simp [lastOk, hne, bo]
      · rw [ite'_f (by simpa using h30), decide_eq_false h30]; rfl
  have main : ∀ (m i n : Nat), i + m = ts.length → m < n → (∀ (j : Nat) t, j < i → ts[j]? = some t → goodS ts j t = true) → ∃ b, F37.L3 (k + 8) (C (k + 8)) n (i : Int) a (A1 xs) (T1 ts) (I1 (DD ts i)) = bo b ∧ (b = true ↔ ib = true ∧ lastOk (nulls (vals xs)) (ts.length : Int) = true ∧ ts.length ≤ 30 ∧ ∀ (i : Nat) t, ts[i]? = some t → goodS ts i t = true) := by
    intro m
    induction m with
    | zero =>
      intro i n hm hn hg
      obtain ⟨n, rfl⟩ : ∃ j, n = j + 1 := ⟨n - 1, by omega⟩
      obtain rfl : i = ts.length := by omega
      refine ⟨_, hfin n, ?_⟩
      simp only [Bool.and_eq_true, decide_eq_true_eq]
      constructor
      · rintro ⟨h1, h2, h3⟩
        exact ⟨h1, h3, by omega, fun j t ht => hg j t (List.getElem?_eq_some_iff.1 ht).1 ht⟩
      · rintro ⟨h1, h2, h3, _⟩
        exact ⟨h1, by omega, h2⟩
    | succ m ih =>
      intro i n hm hn hg
      obtain ⟨n, rfl⟩ : ∃ j, n = j + 1 := ⟨n - 1, by omega⟩
      have hi : i < ts.length := by omega
      have ht := List.getElem?_eq_getElem hi
      rw [step37 (k := k + 4) a (A1 xs) ts hI (by omega) hl i _ ht n]
      cases hgi : goodS ts i ts[i] with
      | false =>
        refine ⟨false, rfl, ⟨fun h => (by cases h), fun h => ?_⟩⟩
        have := h.2.2.2 i _ ht
        rw [hgi] at this
        cases this
      | true =>
        refine ih (i + 1) n (by omega) (by omega) (fun j t hj htj => ?_)
        by_cases hji : j = i
        · subst hji; rw [ht] at htj; cases htj; exact hgi
        · exact hg j t (by omega) htj
  obtain ⟨b, e, hb⟩ := main ts.length 0 (k + 8) (by omega) (by omega) (fun j t hj => by omega)
  refine ⟨b, e, ?_⟩
  rw [hb]
  constructor
  · rintro ⟨h1, h2, h3, h4⟩
    refine ⟨h1, h2, h3, fun i t ht => ?_⟩
    have := h4 i t ht
    simp only [goodS, Bool.and_eq_true] at this
    exact ⟨this.1, this.2.1⟩
  · rintro ⟨h1, h2, h3, h4⟩
    refine ⟨h1, h2, h3, fun i t ht => ?_⟩
    have hi := (List.getElem?_eq_some_iff.1 ht).1
    obtain ⟨g1, g2⟩ := h4 i t ht
    simp only [goodS, g1, g2, Bool.true_and, decide_eq_true_eq]
    omega
/-- impl.NextNull -/
theorem c93 (a : Ovi.Rows) (xs : List Atom) (hI : ∀ x ∈ xs, ∀ z ∈ x.2, inI z) (hk : 2000000 ≤ k) (hs : terms xs + xs.length ≤ 1048576) (n : Nat) : ∃ q, C (k + 5) 93 [.agg [.d (.list 3 a), .d (.list 2 (A1 xs))]] = io q ∧ decide (q ≤ (n : Int)) = lastOk (nulls (vals xs)) (n : Int) := by
  have hmax : (1048576 : Nat) ≤ maxLen := by decide
  rw [F93.run, c136 a xs hI hk hs]
  simp only [bindR_s, resO_s, bindL_s, I1_len]
  have hnl := nulls_len (vals xs)
  rw [vals_len] at hnl
  have hr : ∀ m ∈ nulls (vals xs), 0 ≤ m ∧ m ≤ 39 := by
    intro m hm
    obtain ⟨v, _, hv, rfl⟩ := (mem_nulls _ _).1 hm
    have := isN_t hv
    omega
  generalize nulls (vals xs) = N at *
  by_cases hN : N.length = 0
  · rw [ite'_t (by simp [hN])]
    have := List.eq_nil_of_length_eq_zero hN
    subst this
    exact ⟨0, rfl, by simp [lastOk]⟩
  · have hw : IntKind.i64.wrap ((N.length : Int) - 1) = ((N.length - 1 : Nat) : Int) := by rw [wrap_id (by omega) (by omega)]; omega
    have hget : N[N.length - 1]? = some (N.getD (N.length - 1) 0) := by rw [List.getD_eq_getElem?_getD, List.getElem?_eq_getElem (by omega)]; rfl
    have hlr := hr _ (List.mem_of_getElem? hget)
    have hne : N.isEmpty = false := by cases N with | nil => simp at hN | cons _ _ => rfl
    rw [ite'_f (by simp; intro h; exact hN (by rw [h]; rfl)), hw, ite'_t (inR_t (by omega)), I1_c hget, bindI_s, wrap_id (by omega) (by omega)]
    refine ⟨_, rfl, ?_⟩
    unfold lastOk
    rw [hne, Bool.false_or, Bool.eq_iff_iff]
    simp only [decide_eq_true_eq]
    omega
def Tm1 : Ty := .list [.int .i64, .int .i64, .list [.int .i64]]
/-- the law of IsValidSkolemState -/
theorem law7 (hk : 3000000 ≤ k) {a b c : Ovi.Rows} (h1 : Fit Rl (.list 3 a)) (h2 : Fit At (.list 2 b)) (h3 : Fit Tm1 (.list 3 c)) : C k 7 [.agg [.d (.list 3 a), .d (.list 2 b), .d (.list 3 c)]] = bo true := by
  obtain ⟨k, rfl⟩ : ∃ j, k = j + 11 := ⟨k - 11, by omega⟩
  have hmax : (1048576 : Nat) ≤ maxLen := by decide
  rw [F7.run, c36 (k := k + 10) (by omega) h1 h2 h3 (by omega) (by omega)]
  simp only [bindR_s, resI_s, bindI_s]
  rcases szT_cases 1048576 (szC [.list 3 a, .list 2 b, .list 3 c]) with ⟨q, e⟩ | ⟨q, e⟩ <;> rw [e]
  rotate_left
  · rw [ite'_t neg_t]; rfl
  have q2 := q
  simp only [szC] at q2
  have s0 : szD (.list 3 a) ≤ 1048576 := by omega
  have s1 : szD (.list 2 b) ≤ 1048576 := by omega
  have s2 : szD (.list 3 c) ≤ 1048576 := by omega
  rw [ite'_f (neg_f (by omega)), c38 (k := k + 10) (by omega) h1 h2 h3 s0 s1 s2]
  simp only [bindR_s, F38x0, F38x1, F38x2, bindL_s]
  obtain ⟨xs, rfl, hX⟩ := h2.atoms'
  obtain ⟨ts, rfl, hI⟩ := terms' h3
  have hX2 : ∀ x ∈ xs, ∀ z ∈ x.2, inI z := fun x hx => (hX x hx).2
  have s1' := s1
  rw [sz_atoms] at s1'
  have s2' : szR (T1 ts) + ts.length ≤ 1048576 := by have := s2; simp only [szD, T1_len] at this; omega
  have s0' := Nat.le_trans sz_rels s0
  obtain ⟨ib, _, hib⟩ := instB h1 xs hX2 (by omega) s0'
  obtain ⟨sb, e37, hsb⟩ := c37 (k := k + 1) (a := a) xs ts hX2 hI (by omega) s2' (by omega) (fun k hk => (hib k hk).2)
  obtain ⟨tb, e94, htb⟩ := c94 (k := k + 1) ts hI (by omega) s2'
  obtain ⟨q9, e93, hq9⟩ := c93 (k := k + 4) a xs hX2 (by omega) (by omega) ts.length
  have e39 : C (k + 10) 39 [.agg [.d (.list 3 a), .d (.list 2 (A1 xs)), .d (.list 3 (T1 ts))]] = bo (ib && (lastOk (nulls (vals xs)) (ts.length : Int) && tb)) := by
    rw [F39.run, (hib (k + 1) (by omega)).1, bB, e93, iB', T1_len, hq9, e94, bB]
    cases ib <;> cases lastOk (nulls (vals xs)) (ts.length : Int) <;> rfl
  have heq : sb = (ib && (lastOk (nulls (vals xs)) (ts.length : Int) && tb)) := by
    rw [Bool.eq_iff_iff, hsb, Bool.and_eq_true, Bool.and_eq_true, htb]
  rw [e37, bB, e39, bB, heq, ite'_f (by simp), c40 (k := k + 10) (by omega) h1 h2 h3 s0 s1 s2]
  rfl
end Go.Proofs.Ytekcjghbfbfmpaa.Q

/-! E7 -/
namespace Go.Proofs.Ytekcjghbfbfmpaa.Q
open Go Ovi Go.ChangeShapes Go.WideShapes Go.ChangeAt Go.RowKit
theorem own : ownKnob Try.prog.godebug = none := by kernel_rfl
theorem laidOut : laidOutB Try.prog = true := by kernel_rfl
def ty7 : List (Bool × List Ty) := [(true, [.list [.str, .int .i64, .bool], .list [.int .i64, .list [.int .i64]], .list [.int .i64, .int .i64, .list [.int .i64]]])]
theorem tys7 : parTys Try.prog Try.f7.params.toList = some ty7 := by kernel_rfl
theorem readable7 : readable Try.prog Try.f7.params.toList = true := by kernel_rfl
theorem law_args7 {av : List AV} (h : ArgsFit ty7 av) : C 3000000 7 av = some yes := by
  match av, h with
  | [p0], h =>
    simp only [ty7, ArgsFit, and_true] at h
    have g0 := h
    cases p0 <;> simp only [ArgFit] at g0
    obtain ⟨ds0, rfl, g0⟩ := g0
    obtain ⟨_, _, rfl, e0_0, g0⟩ := Fits.cons g0
    obtain ⟨_, _, rfl, e0_1, g0⟩ := Fits.cons g0
    obtain ⟨_, _, rfl, e0_2, g0⟩ := Fits.cons g0
    obtain rfl := Fits.nil g0
    obtain ⟨_, rfl, e0_0⟩ := e0_0.list (n := 3) rfl
    obtain ⟨_, rfl, e0_1⟩ := e0_1.list (n := 2) rfl
    obtain ⟨_, rfl, e0_2⟩ := e0_2.list (n := 3) rfl
    exact law7 (Nat.le_refl _) e0_0 e0_1 e0_2
set_option maxRecDepth 100000 in
theorem lifted7 (os : Os) (started : os.Started) (H : Type) (enc : TypeId × Value → H) :
    ReturnsInHanded {} Try.checked os 7 .any (Rows.fnExactIsValidSkolemStateSpec.pre6 enc Try.prog Try.f7 Rows.fnExactIsValidSkolemStateRow.domain false) (Rows.fnExactIsValidSkolemStateSpec.post enc Try.prog Try.f7 false true false false) := by
  refine returnsInHanded_of_change (C := Try.checked) own started (by kernel_rfl) Try.func7
    (ChangeSpec.witness6 (enc := enc) (C := Try.checked) false ⟨#[], #[.agg #[.slice none 0 0, .slice none 0 0, .slice none 0 0]], []⟩ 8 (by kernel_rfl) (by kernel_rfl) (by kernel_rfl) (by kernel_rfl)) ?_
  intro W base args ds gs before hval0 hW hcnd _
  have hval : ∀ (j : Nat) t v, Try.f7.params[j]? = some t → args[j]? = some v → Value.okWide Try.prog W .any base t v := hval0
  have hW' := hW
  obtain ⟨p, q, hA0, hV, rfl, hfz, hnd⟩ := hW
  have hA : DataW.TrodAll enc Try.prog W 0 (fun _ => true) true Try.f7.params.toList args.toList ds p := hA0
  obtain ⟨rfl, rfl⟩ := trodVars_none hV
  obtain ⟨av, hfit, hlen, hac⟩ := args_in hA (base := base) (fun j t v h1 h2 => hval j t v (by simpa using h1) (by simpa using h2)) tys7
  refine (calls_yes (sound 3000000) (law_args7 hfit) (vs := args) ⟨by simpa using hlen, fun j a ha => by
    obtain ⟨u, hu, hc⟩ := hac j a ha
    exact ⟨u, by simpa using hu, hc⟩⟩).mono fun e W' ⟨he, bel⟩ => ?_
  subst he
  have hk := kept_all laidOut bel readable7 hA
  obtain ⟨d0, rfl⟩ : ∃ d0, ds = [d0] := by
    obtain ⟨v0, vs0, d0, ds0, p0, q0, rg0, rfl, rfl, h0, r0⟩ := trodAll_cons hA
    obtain ⟨rfl, rfl, rfl⟩ := trodAll_nil r0
    exact ⟨_, rfl⟩
  exact ⟨_, rfl, _, _, _, [], _, [], hW', trodAll_mk1 (shut_bool (show Try.prog.underlying 4 = some .bool by kernel_rfl) _), hk, rfl, bel.frame _, fun h => by cases h⟩
theorem over7 : Rows.fnExactIsValidSkolemStateRow.holds Try.pinned (OpenSpec.ofChange Rows.fnExactIsValidSkolemStateSpec) :=
  OpenClaim.holds_of_wide 7 Try.f7 rfl rfl rfl rfl rfl rfl rfl ⟨rfl, rfl, rfl, rfl, rfl⟩ rfl rfl rfl rfl rfl (by kernel_rfl) Try.func7 (by kernel_rfl)
    (of_decide_eq_true (by kernel_rfl)) (by unfold Func.isWrapper; first | (rw [if_pos (by decide +kernel)]; kernel_rfl) | (rw [if_neg (by decide +kernel)]; exact ⟨rfl, rfl⟩))
    (fun os started H enc _ => lifted7 os started H enc)
end Go.Proofs.Ytekcjghbfbfmpaa.Q
namespace Go.Proofs.Ytekcjghbfbfmpaa
theorem fnExactIsValidSkolemState_holds : Rows.FnExactIsValidSkolemStateSaid := Q.over7
#print axioms fnExactIsValidSkolemState_holds
end Go.Proofs.Ytekcjghbfbfmpaa

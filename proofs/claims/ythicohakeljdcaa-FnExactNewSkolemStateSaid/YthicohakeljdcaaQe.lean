/-
For every instance the law FnExactNewSkolemState returns true, and the instance reads afterwards as it read before. No condition.
-/
import Derived.Test.YthicohakeljdcaaQd
import Derived.Test.YthicohakeljdcaaProg
import Derived.Test.YthicohakeljdcaaQc
import Derived.Shelf.RegionOpenPlain
import Derived.Deep.LoopGhost
import Derived.WalkKit
import Derived.KernelRfl
import Derived.Shelf.Small.Wraps
import Derived.Shelf.Sort.Plain
import Derived.Ground.Names2Prog
import Derived.Shelf.Slices.Clone
import Derived.Shelf.Slices.CompactI
import Derived.Ground.SlgnProg
import Derived.Shelf.SlicesE.Clone
import Derived.Test.YthicohakeljdcaaRows
set_option linter.unusedVariables false
set_option linter.unusedSimpArgs false
/-! PKd -/
namespace Go.Proofs.Ythicohakeljdcaa.Q
open Go Ovi
variable {k : Nat}
theorem sum_const {α : Type} (c : Nat) : ∀ l : List α, (l.map fun _ => c).sum = c * l.length
  | [] => rfl
  | x :: r => by simp only [List.map_cons, List.sum_cons, List.length_cons, sum_const c r, Nat.mul_add]; omega
theorem intMark (zs : List Int) (m : Int) : ∃ ys, mkRows stepInt (I1 zs) m = some (ys, m + zs.length) := by
  obtain ⟨ys, h⟩ := mkRows_total (step := stepInt) (c := fun _ => 1) (xs := I1 zs) (fun r hr k => by
    obtain ⟨z, _, rfl⟩ := List.mem_map.1 hr
    exact ⟨_, rfl⟩) m
  refine ⟨ys, ?_⟩
  rw [h, sum_const, I1_len, Nat.one_mul]
theorem relMark {a : Ovi.Rows} (ha : Fit Rl (.list 3 a)) (m : Int) : ∃ ys, mkRows (stepRel mt) a m = some (ys, m + 3 * a.length) := by
  obtain ⟨ys, h⟩ := mkRows_total (step := stepRel mt) (c := fun _ => 3) (xs := a) (fun r hr k => by
    unfold Rl at ha
    simp only [Fit] at ha
    obtain ⟨x0, r0, rfl, h0, hf0⟩ := Fits.cons (ha.2.2 r hr)
    obtain ⟨x1, r1, rfl, h1, hf1⟩ := Fits.cons hf0
    obtain ⟨x2, r2, rfl, h2, hf2⟩ := Fits.cons hf1
    obtain rfl := Fits.nil hf2
    obtain ⟨s, rfl, _⟩ := h0.str
    obtain ⟨z, rfl, _⟩ := h1.int
    obtain ⟨t, rfl⟩ := h2.bool
    exact ⟨[.str (mt k), .int .i64 (k + 1), .bool ((k + 1 + 1) % 3 == 0)], by simp only [stepRel, Option.some.injEq, Prod.mk.injEq, true_and]; omega⟩) m
  refine ⟨ys, ?_⟩
  rw [h, sum_const]
  simp only [Option.some.injEq, Prod.mk.injEq, true_and]
  omega
theorem factMark (xs : List Atom) (m : Int) : ∃ ys, mkRows stepFact (A1 xs) m = some (ys, m + (xs.length + terms xs : Nat)) := by
  obtain ⟨ys, h⟩ := mkRows_total (step := stepFact) (c := fun r => match r with | [_, .list _ l] => 1 + l.length | _ => 0) (xs := A1 xs) (fun r hr k => by
    obtain ⟨x, _, rfl⟩ := List.mem_map.1 hr
    obtain ⟨ys, h⟩ := intMark x.2 (k + 1)
    refine ⟨[.int .i64 k, .list 1 ys], ?_⟩
    simp only [stepFact, h, Option.map_some, I1_len, Option.some.injEq, Prod.mk.injEq, true_and]
    omega) m
  refine ⟨ys, ?_⟩
  rw [h]
  congr 2
  have : ((A1 xs).map fun r => match r with | [_, .list _ l] => 1 + l.length | _ => 0).sum = xs.length + terms xs := by
    clear h
    induction xs with
    | nil => rfl
    | cons x r ih =>
      simp only [A1, List.map_cons, List.sum_cons, List.length_cons, terms, I1_len] at ih ⊢
      omega
  rw [this]
/-- the marks as the machine calls them -/
theorem e13 {a f a' f' : Ovi.Rows} {m1 m2 : Int} (h1 : mkRows (stepRel mt) a 1 = some (a', m1)) (h2 : mkRows stepFact f m1 = some (f', m2)) (hb : m2 ≤ 4611686018427387904) : C (k + 1) 13 [.var 0 0, .d (.bool true), .d (.int .i64 1), .d (.int .i64 ((86 : Nat) : Int)), .d (.list 3 a), .d (.int .i64 ((58 : Nat) : Int)), .d (.list 2 f)] = some [(false, [.row 86 3 a']), (false, [.row 58 2 f']), (false, [.d (.int .i64 m2)])] := by
  rw [C_prim (p := markP true (mkAg (stepInst mt))) rfl]
  have hs : stepInst mt [.list 3 a, .list 2 f] 1 = some ([.list 3 a', .list 2 f'], m2) := by
    simp only [stepInst, h1, Option.bind_some, h2, Option.map_some]
  have hp : parseM [.d (.int .i64 ((86 : Nat) : Int)), .d (.list 3 a), .d (.int .i64 ((58 : Nat) : Int)), .d (.list 2 f)] = some [.row 86 3 a, .row 58 2 f] := rfl
  have hm : mkAg (stepInst mt) [.row 86 3 a, .row 58 2 f] 1 = some ([.row 86 3 a', .row 58 2 f'], m2) := by
    simp only [mkAg, List.map_cons, List.map_nil, toD, hs, Option.map_some, ofD]
  simp only [markP]
  rw [show (true == true && decide ((0 : Int) ≤ 1)) = true from rfl, cond_true, hp]
  simp only [Option.bind_some, hm, decide_eq_true hb, cond_true]
  rfl
theorem e19 {a f a' f' : Ovi.Rows} {m1 m2 : Int} (h1 : mkRows (stepRel mt) a 1 = some (a', m1)) (h2 : mkRows stepFact f m1 = some (f', m2)) (hb : m2 ≤ 4611686018427387904) : C (k + 1) 19 [.var 0 0, .d (.bool true), .d (.int .i64 1), .d (.int .i64 ((86 : Nat) : Int)), .d (.list 3 a), .d (.int .i64 ((58 : Nat) : Int)), .d (.list 2 f), .d (.int .i64 ((101 : Nat) : Int)), .d (.list 3 [])] = some [(false, [.row 86 3 a']), (false, [.row 58 2 f']), (false, [.row 101 3 []]), (false, [.d (.int .i64 m2)])] := by
  rw [C_prim (p := markP true (mkAg (stepState mt))) rfl]
  have hs : stepState mt [.list 3 a, .list 2 f, .list 3 []] 1 = some ([.list 3 a', .list 2 f', .list 3 []], m2) := by
    simp only [stepState, stepInst, h1, Option.bind_some, h2, Option.map_some]
    rfl
  have hp : parseM [.d (.int .i64 ((86 : Nat) : Int)), .d (.list 3 a), .d (.int .i64 ((58 : Nat) : Int)), .d (.list 2 f), .d (.int .i64 ((101 : Nat) : Int)), .d (.list 3 [])] = some [.row 86 3 a, .row 58 2 f, .row 101 3 []] := rfl
  have hm : mkAg (stepState mt) [.row 86 3 a, .row 58 2 f, .row 101 3 []] 1 = some ([.row 86 3 a', .row 58 2 f', .row 101 3 []], m2) := by
    simp only [mkAg, List.map_cons, List.map_nil, toD, hs, Option.map_some, ofD]
  simp only [markP]
  rw [show (true == true && decide ((0 : Int) ≤ 1)) = true from rfl, cond_true, hp]
  simp only [Option.bind_some, hm, decide_eq_true hb, cond_true]
  rfl
theorem dep_rel {a : Ovi.Rows} (ha : Fit Rl (.list 3 a)) : depR 0 a = true := by
  unfold Rl at ha
  simp only [Fit] at ha
  refine List.all_eq_true.2 fun r hr => ?_
  obtain ⟨x0, r0, rfl, h0, hf0⟩ := Fits.cons (ha.2.2 r hr)
  obtain ⟨x1, r1, rfl, h1, hf1⟩ := Fits.cons hf0
  obtain ⟨x2, r2, rfl, h2, hf2⟩ := Fits.cons hf1
  obtain rfl := Fits.nil hf2
  obtain ⟨s, rfl, _⟩ := h0.str
  obtain ⟨z, rfl, _⟩ := h1.int
  obtain ⟨t, rfl⟩ := h2.bool
  rfl
theorem dep_facts (xs : List Atom) : depR 1 (A1 xs) = true := by
  refine List.all_eq_true.2 fun r hr => ?_
  obtain ⟨x, _, rfl⟩ := List.mem_map.1 hr
  simp only [List.all_cons, List.all_nil, Bool.and_true, depD, Bool.true_and, List.all_eq_true]
  intro r hr y hy
  obtain ⟨z, _, rfl⟩ := List.mem_map.1 hr
  simp only [List.mem_singleton] at hy
  subst hy
  rfl
end Go.Proofs.Ythicohakeljdcaa.Q

/-! PLa -/
namespace Go.Proofs.Ythicohakeljdcaa.Q
open Go Ovi
variable {k : Nat}
theorem sz_atoms {xs : List Atom} : szD (.list 2 (A1 xs)) = xs.length + terms xs := by
  have hI : ∀ zs : List Int, szR (I1 zs) = 0 := fun zs => by
    induction zs with
    | nil => rfl
    | cons z r ih => simpa [I1, szR, szC, szD] using ih
  simp only [szD, A1_len]
  congr 1
  induction xs with
  | nil => rfl
  | cons x r ih =>
    simp only [A1, List.map_cons, szR, szC, szD, terms, List.sum_cons, hI, I1_len] at ih ⊢
    omega
theorem sz_rels {a : Ovi.Rows} : a.length ≤ szD (.list 3 a) := by simp only [szD]; omega
def gres (g : Bool) (a : Ovi.Rows) (xs : List Atom) : Res := match g with
  | true => [(true, [.frow 86 3 0 a, .frow 58 2 1 (A1 xs), .nil]), (false, [.d (.bool true)])]
  | false => [(true, [.nil, .nil, .nil]), (false, [.d (.bool false)])]
/-- NewSkolemState: both -/
theorem newB {a : Ovi.Rows} (ha : Fit Rl (.list 3 a)) (xs : List Atom) (hI : ∀ x ∈ xs, ∀ z ∈ x.2, inI z) (hs : terms xs + xs.length ≤ 1048576) (hal : a.length ≤ 1048576) :
    ∃ g, ∀ k, 2000000 ≤ k → C (k + 11) 17 [.agg [.d (.list 3 a), .d (.list 2 (A1 xs))]] = some (gres g a xs) ∧ C (k + 11) 16 [.agg [.d (.list 3 a), .d (.list 2 (A1 xs))]] = some (gres g a xs) := by
  obtain ⟨g, hg⟩ := groundB ha xs hI hs hal
  refine ⟨g, fun k hk => ⟨?_, ?_⟩⟩
  · rw [F17.run, (hg (k + 1) (by omega)).1, bB, iB]
    cases g with
    | false => rfl
    | true =>
      rw [show (!true) = false from rfl, cond_false, c35 (k := k + 6) a xs (by omega) hs hal]
      rfl
  · rw [F16.run, (hg (k + 1) (by omega)).2, bB, iB]
    cases g with
    | false => rfl
    | true =>
      rw [show (!true) = false from rfl, cond_false, c46 (k := k + 8) a xs (by omega) hs hal]
      rfl
theorem Fit.none3 : Fit Rl (.list 3 []) := by unfold Rl; simp [Fit]
theorem I1_short {xs : List Atom} {n : Nat} (h : terms xs ≤ n) : ∀ r ∈ A1 xs, ∀ z l, r = [.int .i64 z, .list 1 l] → l.length ≤ n := by
  intro r hr z l e
  obtain ⟨x, hx, rfl⟩ := List.mem_map.1 hr
  cases e
  rw [I1_len]
  exact Nat.le_trans (len_terms hx) h
/-- FnExactNewSkolemState's law on what it calls -/
theorem law4n (call : CallF) (k : Nat) {a b : Ovi.Rows} {n : Int}
    (t6 : call 6 [.agg [.d (.list 3 a), .d (.list 2 b)], .d (.int .i64 1048576)] = some [(false, [.d (.int .i64 n)])]) (hn : decide (n < 0) = true) :
    evFnK P hs call (4 : FuncId) k Try.f4 [.agg [.s 3 a, .s 2 b]] = bo true := by
  rw [F4.eq, t6, bindR_s, resI_s, bindI_s, ite'_t hn]
  rfl
theorem law4q (call : CallF) (k : Nat) {a b U' V' a' f' U V : Ovi.Rows} {g : Bool} {n za zp : Int} {X8 R X13 X19 : Res}
    (t6 : call 6 [.agg [.d (.list 3 a), .d (.list 2 b)], .d (.int .i64 1048576)] = some [(false, [.d (.int .i64 n)])]) (hn : decide (n < 0) = false)
    (t8 : call 8 [.agg [.d (.list 3 a), .d (.list 2 b)]] = some X8) (x0 : resO 86 3 1 true 2 X8 0 0 = some a) (x1 : resF 58 2 1 1 true 2 X8 0 1 = some b)
    (t16 : call 16 [.agg [.d (.list 3 a), .d (.list 2 b)]] = some R) (t17 : call 17 [.agg [.d (.list 3 a), .d (.list 2 b)]] = some R)
    (r0 : resF 86 3 0 2 true 3 R 0 0 = some U) (r1 : resF 58 2 1 2 true 3 R 0 1 = some V) (r2 : resF 101 3 1 2 true 3 R 0 2 = some []) (r3 : resB 2 false 1 R 1 0 = some g)
    (d1 : depR 0 a = true) (d2 : depR 1 b = true) (d3 : depR 0 U = true) (d4 : depR 1 V = true)
    (t18 : call 18 [.agg [.d (.list 3 U), .d (.list 2 V), .d (.list 3 [])], .agg [.d (.list 3 U), .d (.list 2 V), .d (.list 3 [])]] = some [(false, [.d (.bool true)])])
    (t11 : call 11 [.agg [.d (.list 3 a), .d (.list 2 b)], .agg [.d (.list 3 a), .d (.list 2 b)]] = some [(false, [.d (.bool true)])])
    (m13 : call 13 [.var 0 0, .d (.bool true), .d (.int .i64 1), .d (.int .i64 86), .d (.list 3 a), .d (.int .i64 58), .d (.list 2 b)] = some X13)
    (v0 : resO 86 3 3 false 1 X13 0 0 = some a') (v1 : resO 58 2 3 false 1 X13 1 0 = some f') (v2 : resI .i64 3 false 1 X13 2 0 = some za) (hza : 0 ≤ za)
    (m19 : call 19 [.var 0 0, .d (.bool true), .d (.int .i64 1), .d (.int .i64 86), .d (.list 3 U), .d (.int .i64 58), .d (.list 2 V), .d (.int .i64 101), .d (.list 3 [])] = some X19)
    (u0 : resO 86 3 4 false 1 X19 0 0 = some U') (u1 : resO 58 2 4 false 1 X19 1 0 = some V') (u2 : resO 101 3 4 false 1 X19 2 0 = some []) (u3 : resI .i64 4 false 1 X19 3 0 = some zp) (hzp : 0 ≤ zp)
    (m20 : call 20 [.agg [.d (.list 3 U'), .d (.list 2 V'), .d (.list 3 [])], .d (.int .i64 1)] = some [(false, [.d (.int .i64 zp)])]) :
    evFnK P hs call (4 : FuncId) k Try.f4 [.agg [.s 3 a, .s 2 b]] = bo true := by
  have n1 : decide (za < 0) = false := by simp only [decide_eq_false_iff_not]; omega
  have n2 : decide (zp < 0) = false := by simp only [decide_eq_false_iff_not]; omega
  have n3 : (zp != zp) = false := bne_self _
  have n4 : (!g == g) = false := by cases g <;> rfl
  have tt : (!true) = false := rfl
  have i0 : ∀ (x y : Option Res), ite' false x y = y := fun _ _ => rfl
  have i1 : ∀ (x y : Option Res), ite' true x y = x := fun _ _ => rfl
  have d5 : depR 1 ([] : Ovi.Rows) = true := rfl
  rw [F4.eq, t6, bindR_s, resI_s, bindI_s, hn, i0]
  simp only [t8, bindR_s, x0, x1, bindL_s, t16, r0, r1, r2, r3, bindB_s, d1, d2, d3, d4, d5, i1]
  simp only [t17, bindR_s, r0, r1, r2, r3, bindL_s, bindB_s, d1, d2, d3, d4, d5, i1]
  simp only [t18, bindR_s, resB_s, bindB_s, tt, i0, n4, t11, d1, d2, d3, d4, d5, i1]
  rw [m13]
  simp only [bindR_s, v0, v1, v2, bindL_s, bindI_s, n1, i0]
  rw [m19]
  simp only [bindR_s, u0, u1, u2, u3, bindL_s, bindI_s]
  rw [m20]
  simp only [bindR_s, resI_s, bindI_s, n2, n3, i0]
  rfl
set_option maxRecDepth 1000000 in
theorem law4 (hk : 3000000 ≤ k) {a b : Ovi.Rows} (h1 : Fit Rl (.list 3 a)) (h2 : Fit (.list [.int .i64, .list [.int .i64]]) (.list 2 b)) : C k 4 [.agg [.s 3 a, .s 2 b]] = bo true := by
  obtain ⟨k, rfl⟩ : ∃ j, k = j + 12 := ⟨k - 12, by omega⟩
  have hs4 : C (k + 11 + 1) 4 [.agg [.s 3 a, .s 2 b]] = evFnK P hs (C (k + 11)) 4 (k + 11) Try.f4 [.agg [.s 3 a, .s 2 b]] := by kernel_rfl
  rw [hs4]
  have t6 := c6 (k := k + 11) (by omega) h1 h2 (left := 1048576) (by omega) (by omega)
  rcases szT_cases 1048576 (szC [.list 3 a, .list 2 b]) with ⟨q1, e1⟩ | ⟨q1, e1⟩ <;> rw [e1] at t6
  rotate_left
  · exact law4n _ _ t6 neg_t
  have p1 := q1
  simp only [szC] at p1
  have z1 : szD (.list 3 a) ≤ 1048576 := by omega
  have z2 : szD (.list 2 b) ≤ 1048576 := by omega
  have t8 := c8 (k := k + 11) (by omega) h1 h2 z1 z2
  have t11 := c11 (k := k + 11) (by omega) h1 h2 z1 z2
  obtain ⟨xs, rfl, hX⟩ := h2.atoms'
  have y2 := z2
  rw [sz_atoms] at y2
  have ya := Nat.le_trans sz_rels z1
  obtain ⟨g, hg⟩ := newB h1 xs (fun x hx => (hX x hx).2) (by omega) ya
  obtain ⟨g17, g16⟩ := hg k (by omega)
  -- what comes back
  obtain ⟨P, ys, hP, hQ, w1, w2, w3, w4, r0, r1, r2, r3⟩ : ∃ (P : Ovi.Rows) (ys : List Atom), Fit Rl (.list 3 P) ∧ Fit (.list [.int .i64, .list [.int .i64]]) (.list 2 (A1 ys)) ∧ szD (.list 3 P) ≤ 1048576 ∧ szD (.list 2 (A1 ys)) ≤ 1048576 ∧ P.length ≤ 1048576 ∧ ys.length + terms ys ≤ 1048576 ∧
      resF 86 3 0 2 true 3 (gres g a xs) 0 0 = some P ∧ resF 58 2 1 2 true 3 (gres g a xs) 0 1 = some (A1 ys) ∧ resF 101 3 1 2 true 3 (gres g a xs) 0 2 = some [] ∧ resB 2 false 1 (gres g a xs) 1 0 = some g := by
    cases g with
    | true => exact ⟨a, xs, h1, h2, z1, z2, ya, y2, rfl, rfl, rfl, rfl⟩
    | false => exact ⟨[], [], Fit.none3, by simp [Fit, A1], by simp [szD, szR], by simp [szD, szR, A1], by simp, by simp [terms], rfl, rfl, rfl, rfl⟩
  have t18 := c18 (k := k + 11) (by omega) hP hQ (a2 := []) (by simp [Fit]) w1 w2 (by simp [szD, szR])
  -- the marks
  obtain ⟨a', ha'⟩ := relMark h1 1
  obtain ⟨f', hf'⟩ := factMark xs (1 + 3 * a.length)
  have h86 : ((86 : Nat) : Int) = 86 := rfl
  have h58 : ((58 : Nat) : Int) = 58 := rfl
  have h101 : ((101 : Nat) : Int) = 101 := rfl
  have m13 := e13 (k := k + 10) ha' hf' (by omega)
  rw [h86, h58] at m13
  obtain ⟨P', hP'⟩ := relMark hP 1
  obtain ⟨Q', hQ'⟩ := factMark ys (1 + 3 * P.length)
  have m19 := e19 (k := k + 10) hP' hQ' (by omega)
  rw [h86, h58, h101] at m19
  have lP := (mkRows_up stepRel_up hP').2
  have lQ := (mkRows_up stepFact_up hQ').2
  rw [A1_len] at lQ
  have m20 := c20 (k := k + 7) hP' hQ' (by omega) (by omega) (by omega) (by omega) (I1_short (by omega)) (by omega)
  exact law4q (C (k + 11)) (k + 11) t6 (neg_f (by omega)) t8 F8x0 F8x1 g16 g17 r0 r1 r2 r3 (dep_rel h1) (dep_facts xs) (dep_rel hP) (dep_facts ys) t18 t11
    m13 rfl rfl rfl (by omega) m19 rfl rfl rfl rfl (by omega) m20
end Go.Proofs.Ythicohakeljdcaa.Q

/-! Wa -/
namespace Go.Proofs
open Go.Shelf Go.RowKit Go.Lib Ovi
set_option maxHeartbeats 4000000 in
set_option maxRecDepth 1000000 in
theorem Try.mIntS : ListC Try.prog 14 1 (mkRows stepInt) := by
  intro w v xs B n k xs' k' hd hf hr hm hk hk2 hB
  rcases Fo.rows hd hf hr with ⟨rfl, A, cap, rfl⟩ | ⟨b, cap, e, g, rfl, hle, hcap, hBb, hgB, hrow⟩
  · cases hm
    go_enter Try.func14, Try.ntmps14
    go_wp2
    go_loopg [1, 5] 0 (fun g s1 s5 wr => s1 = .int .i64 k ∧ s5 = .int .i64 0 ∧ wr = w)
    case atStart => exact ⟨rfl, rfl, rfl⟩
    case round =>
      obtain ⟨rfl, rfl, rfl⟩ := hrel
      go_wp2
      go_ret
      exact ⟨rfl, Ovi.But.refl _ _, hr, _, hd, hf⟩
  · have hcap' := hcap
    unfold maxLen at hcap'
    have hl := (mkRows_up stepInt_up hm).2
    generalize hN : xs.length = N at *
    go_enter Try.func14, Try.ntmps14
    go_wp2
    go_loopg [1, 5] N (fun gk s1 s5 wr => ∃ (i : Nat) (ys : Ovi.Rows) (k1 : Int), i ≤ N ∧ N - i ≤ gk ∧ s5 = .int .i64 i ∧ s1 = .int .i64 k1 ∧ mkN stepInt i xs k = some (ys, k1) ∧ Ovi.But B w wr ∧ RowG wr NT b cap e 1 ys g)
    case atStart => exact ⟨0, xs, k, by omega, by omega, rfl, rfl, rfl, Ovi.But.refl _ _, hrow⟩
    case round =>
      obtain ⟨i, ys, k1, hi, hg, rfl, rfl, hmk, hbut0, hrow0⟩ := hrel
      by_cases hlt : i < N
      · obtain ⟨r, r', k2, hyr, hst, hmk2, b1, b2, b3, _⟩ := mkN_next stepInt_up hm hmk (by omega)
        obtain ⟨z0, rfl, rfl, rfl⟩ := stepInt_some hst
        have hx0_0 : cellD ys i 0 = some (.int .i64 z0) := by simp [cellD, hyr]
        obtain ⟨u0, hc0, hf0, _⟩ := hrow0.at hx0_0
        have hrow1 := hrow0.set (fun h => h) hx0_0 (v := .int .i64 k1) (d := .int .i64 k1) rfl (.int _ _)
        have hbut1 : Ovi.But B w ((wr).setCell ⟨b, i * 1 + 0, none⟩ (.int .i64 k1)) := hbut0.trans (Ovi.But.setCell hBb)
        simp only [Nat.mul_one, Nat.add_zero] at hc0 hf0 hrow1 hbut1
        go_wp2
        go_roundg (N - i - 1)
        case measure => omega
        case rel => exact ⟨i + 1, _, (k1 + 1), by omega, by omega, by go_num, by first | rfl | go_num, hmk2, hbut1, by rw [setD_at hyr] at hrow1; simpa using hrow1⟩
      · obtain rfl : i = N := by omega
        go_wp2
        go_ret
        rw [← hN] at hmk
        have he : some (ys, k1) = some (xs', k') := hmk.symm.trans hm
        cases he
        obtain ⟨q1, q2⟩ := hrow0.forest hcap hBb hgB
        rw [hl] at q1 q2
        exact ⟨rfl, hbut0, q1, q2⟩
set_option maxHeartbeats 4000000 in
set_option maxRecDepth 1000000 in
theorem Try.mFactS : ListC Try.prog 42 2 (mkRows stepFact) := by
  intro w v xs B n k xs' k' hd hf hr hm hk hk2 hB
  rcases Fo.rows hd hf hr with ⟨rfl, A, cap, rfl⟩ | ⟨b, cap, e, g, rfl, hle, hcap, hBb, hgB, hrow⟩
  · cases hm
    go_enter Try.func42, Try.ntmps42
    go_wp2
    go_loopg [1, 5] 0 (fun g s1 s5 wr => s1 = .int .i64 k ∧ s5 = .int .i64 0 ∧ wr = w)
    case atStart => exact ⟨rfl, rfl, rfl⟩
    case round =>
      obtain ⟨rfl, rfl, rfl⟩ := hrel
      go_wp2
      go_ret
      exact ⟨rfl, Ovi.But.refl _ _, hr, _, hd, hf⟩
  · have hcap' := hcap
    unfold maxLen at hcap'
    have hl := (mkRows_up stepFact_up hm).2
    generalize hN : xs.length = N at *
    go_enter Try.func42, Try.ntmps42
    go_wp2
    go_loopg [1, 5] N (fun gk s1 s5 wr => ∃ (i : Nat) (ys : Ovi.Rows) (k1 : Int), i ≤ N ∧ N - i ≤ gk ∧ s5 = .int .i64 i ∧ s1 = .int .i64 k1 ∧ mkN stepFact i xs k = some (ys, k1) ∧ Ovi.But B w wr ∧ RowG wr NT b cap e 2 ys g)
    case atStart => exact ⟨0, xs, k, by omega, by omega, rfl, rfl, rfl, Ovi.But.refl _ _, hrow⟩
    case round =>
      obtain ⟨i, ys, k1, hi, hg, rfl, rfl, hmk, hbut0, hrow0⟩ := hrel
      by_cases hlt : i < N
      · obtain ⟨r, r', k2, hyr, hst, hmk2, b1, b2, b3, _⟩ := mkN_next stepFact_up hm hmk (by omega)
        obtain ⟨z0, l1, l1', rfl, hl1, rfl⟩ := stepFact_some hst
        have hx0_0 : cellD ys i 0 = some (.int .i64 z0) := by simp [cellD, hyr]
        have hx1_0 : cellD ys i 1 = some (.list 1 l1) := by simp [cellD, hyr]
        have hup1 := (mkRows_up stepInt_up hl1).1
        obtain ⟨u0, hc0, hf0, _⟩ := hrow0.at hx0_0
        have hrow1 := hrow0.set (fun h => h) hx0_0 (v := .int .i64 k1) (d := .int .i64 k1) rfl (.int _ _)
        have hbut1 : Ovi.But B w ((wr).setCell ⟨b, i * 2 + 0, none⟩ (.int .i64 k1)) := hbut0.trans (Ovi.But.setCell hBb)
        have hx1_1 := setD_other (d := .int .i64 k1) hx1_0 (by decide : 1 ≠ 0)
        obtain ⟨u1, hc1, hf1, hr1, n1, hd1, ho1⟩ := hrow1.at hx1_1
        have hglt1 : ∀ j c' k, g j c' k → k < ((wr).setCell ⟨b, i * 2 + 0, none⟩ (.int .i64 k1)).heap.size := fun j c' k hk => Nat.lt_of_lt_of_le (hB k (hgB j c' k hk)) hbut1.size
        have hcall1 := Try.mIntS _ u1 l1 (g i 1) n1 (k1 + 1) l1' k2 hd1 ho1 hr1 hl1 (by omega) (by omega) (fun k hk => hglt1 i 1 k hk)
        simp only [Nat.mul_one, Nat.add_zero] at hc0 hf0 hrow1 hbut1 hc1 hf1 hcall1 hglt1
        go_wp2_with (
          go_at_call 14
          refine hcall1.mono ?_
          rintro ex1 w1 ⟨rfl, hbc1, hrr1, nn1, hdd1, hoo1⟩
          have hrow2 := hrow1.call (fun k hk => hk.elim) hx1_1 (by omega) hc1 hbc1 hglt1 hrr1 hdd1 hoo1
          have hbut2 := hbut1.trans (hbc1.mono fun k hk => hgB i 1 k hk))
        go_roundg (N - i - 1)
        case measure => omega
        case rel => exact ⟨i + 1, _, k2, by omega, by omega, by go_num, by first | rfl | go_num, hmk2, hbut2, by rw [setD_at hyr, setD_at (set_at hyr)] at hrow2; simpa using hrow2⟩
      · obtain rfl : i = N := by omega
        go_wp2
        go_ret
        rw [← hN] at hmk
        have he : some (ys, k1) = some (xs', k') := hmk.symm.trans hm
        cases he
        obtain ⟨q1, q2⟩ := hrow0.forest hcap hBb hgB
        rw [hl] at q1 q2
        exact ⟨rfl, hbut0, q1, q2⟩
set_option maxHeartbeats 4000000 in
set_option maxRecDepth 1000000 in
theorem Try.mIntSS : ListC Try.prog 24 1 (mkRows stepInts) := by
  intro w v xs B n k xs' k' hd hf hr hm hk hk2 hB
  rcases Fo.rows hd hf hr with ⟨rfl, A, cap, rfl⟩ | ⟨b, cap, e, g, rfl, hle, hcap, hBb, hgB, hrow⟩
  · cases hm
    go_enter Try.func24, Try.ntmps24
    go_wp2
    go_loopg [1, 5] 0 (fun g s1 s5 wr => s1 = .int .i64 k ∧ s5 = .int .i64 0 ∧ wr = w)
    case atStart => exact ⟨rfl, rfl, rfl⟩
    case round =>
      obtain ⟨rfl, rfl, rfl⟩ := hrel
      go_wp2
      go_ret
      exact ⟨rfl, Ovi.But.refl _ _, hr, _, hd, hf⟩
  · have hcap' := hcap
    unfold maxLen at hcap'
    have hl := (mkRows_up stepInts_up hm).2
    generalize hN : xs.length = N at *
    go_enter Try.func24, Try.ntmps24
    go_wp2
    go_loopg [1, 5] N (fun gk s1 s5 wr => ∃ (i : Nat) (ys : Ovi.Rows) (k1 : Int), i ≤ N ∧ N - i ≤ gk ∧ s5 = .int .i64 i ∧ s1 = .int .i64 k1 ∧ mkN stepInts i xs k = some (ys, k1) ∧ Ovi.But B w wr ∧ RowG wr NT b cap e 1 ys g)
    case atStart => exact ⟨0, xs, k, by omega, by omega, rfl, rfl, rfl, Ovi.But.refl _ _, hrow⟩
    case round =>
      obtain ⟨i, ys, k1, hi, hg, rfl, rfl, hmk, hbut0, hrow0⟩ := hrel
      by_cases hlt : i < N
      · obtain ⟨r, r', k2, hyr, hst, hmk2, b1, b2, b3, _⟩ := mkN_next stepInts_up hm hmk (by omega)
        obtain ⟨l0, l0', rfl, hl0, rfl⟩ := stepInts_some hst
        have hx0_0 : cellD ys i 0 = some (.list 1 l0) := by simp [cellD, hyr]
        have hup0 := (mkRows_up stepInt_up hl0).1
        obtain ⟨u0, hc0, hf0, hr0, n0, hd0, ho0⟩ := hrow0.at hx0_0
        have hglt0 : ∀ j c' k, g j c' k → k < (wr).heap.size := fun j c' k hk => Nat.lt_of_lt_of_le (hB k (hgB j c' k hk)) hbut0.size
        have hcall0 := Try.mIntS _ u0 l0 (g i 0) n0 k1 l0' k2 hd0 ho0 hr0 hl0 (by omega) (by omega) (fun k hk => hglt0 i 0 k hk)
        simp only [Nat.mul_one, Nat.add_zero] at hc0 hf0 hcall0 hglt0
        go_wp2_with (
          go_at_call 14
          refine hcall0.mono ?_
          rintro ex0 w0 ⟨rfl, hbc0, hrr0, nn0, hdd0, hoo0⟩
          have hrow1 := hrow0.call (fun k hk => hk.elim) hx0_0 (by omega) hc0 hbc0 hglt0 hrr0 hdd0 hoo0
          have hbut1 := hbut0.trans (hbc0.mono fun k hk => hgB i 0 k hk))
        go_roundg (N - i - 1)
        case measure => omega
        case rel => exact ⟨i + 1, _, k2, by omega, by omega, by go_num, by first | rfl | go_num, hmk2, hbut1, by rw [setD_at hyr] at hrow1; simpa using hrow1⟩
      · obtain rfl : i = N := by omega
        go_wp2
        go_ret
        rw [← hN] at hmk
        have he : some (ys, k1) = some (xs', k') := hmk.symm.trans hm
        cases he
        obtain ⟨q1, q2⟩ := hrow0.forest hcap hBb hgB
        rw [hl] at q1 q2
        exact ⟨rfl, hbut0, q1, q2⟩
set_option maxHeartbeats 4000000 in
set_option maxRecDepth 1000000 in
theorem Try.mTermS : ListC Try.prog 49 3 (mkRows stepTerm) := by
  intro w v xs B n k xs' k' hd hf hr hm hk hk2 hB
  rcases Fo.rows hd hf hr with ⟨rfl, A, cap, rfl⟩ | ⟨b, cap, e, g, rfl, hle, hcap, hBb, hgB, hrow⟩
  · cases hm
    go_enter Try.func49, Try.ntmps49
    go_wp2
    go_loopg [1, 5] 0 (fun g s1 s5 wr => s1 = .int .i64 k ∧ s5 = .int .i64 0 ∧ wr = w)
    case atStart => exact ⟨rfl, rfl, rfl⟩
    case round =>
      obtain ⟨rfl, rfl, rfl⟩ := hrel
      go_wp2
      go_ret
      exact ⟨rfl, Ovi.But.refl _ _, hr, _, hd, hf⟩
  · have hcap' := hcap
    unfold maxLen at hcap'
    have hl := (mkRows_up stepTerm_up hm).2
    generalize hN : xs.length = N at *
    go_enter Try.func49, Try.ntmps49
    go_wp2
    go_loopg [1, 5] N (fun gk s1 s5 wr => ∃ (i : Nat) (ys : Ovi.Rows) (k1 : Int), i ≤ N ∧ N - i ≤ gk ∧ s5 = .int .i64 i ∧ s1 = .int .i64 k1 ∧ mkN stepTerm i xs k = some (ys, k1) ∧ Ovi.But B w wr ∧ RowG wr NT b cap e 3 ys g)
    case atStart => exact ⟨0, xs, k, by omega, by omega, rfl, rfl, rfl, Ovi.But.refl _ _, hrow⟩
    case round =>
      obtain ⟨i, ys, k1, hi, hg, rfl, rfl, hmk, hbut0, hrow0⟩ := hrel
      by_cases hlt : i < N
      · obtain ⟨r, r', k2, hyr, hst, hmk2, b1, b2, b3, _⟩ := mkN_next stepTerm_up hm hmk (by omega)
        obtain ⟨z0, z1, l2, l2', rfl, hl2, rfl⟩ := stepTerm_some hst
        have hx0_0 : cellD ys i 0 = some (.int .i64 z0) := by simp [cellD, hyr]
        have hx1_0 : cellD ys i 1 = some (.int .i64 z1) := by simp [cellD, hyr]
        have hx2_0 : cellD ys i 2 = some (.list 1 l2) := by simp [cellD, hyr]
        have hup2 := (mkRows_up stepInt_up hl2).1
        obtain ⟨u0, hc0, hf0, _⟩ := hrow0.at hx0_0
        have hrow1 := hrow0.set (fun h => h) hx0_0 (v := .int .i64 k1) (d := .int .i64 k1) rfl (.int _ _)
        have hbut1 : Ovi.But B w ((wr).setCell ⟨b, i * 3 + 0, none⟩ (.int .i64 k1)) := hbut0.trans (Ovi.But.setCell hBb)
        have hx1_1 := setD_other (d := .int .i64 k1) hx1_0 (by decide : 1 ≠ 0)
        have hx2_1 := setD_other (d := .int .i64 k1) hx2_0 (by decide : 2 ≠ 0)
        obtain ⟨u1, hc1, hf1, _⟩ := hrow1.at hx1_1
        have hrow2 := hrow1.set (fun h => h) hx1_1 (v := .int .i64 (k1 + 1)) (d := .int .i64 (k1 + 1)) rfl (.int _ _)
        have hbut2 : Ovi.But B w (((wr).setCell ⟨b, i * 3 + 0, none⟩ (.int .i64 k1)).setCell ⟨b, i * 3 + 1, none⟩ (.int .i64 (k1 + 1))) := hbut1.trans (Ovi.But.setCell hBb)
        have hx2_2 := setD_other (d := .int .i64 (k1 + 1)) hx2_1 (by decide : 2 ≠ 1)
        obtain ⟨u2, hc2, hf2, hr2, n2, hd2, ho2⟩ := hrow2.at hx2_2
        have hglt2 : ∀ j c' k, g j c' k → k < (((wr).setCell ⟨b, i * 3 + 0, none⟩ (.int .i64 k1)).setCell ⟨b, i * 3 + 1, none⟩ (.int .i64 (k1 + 1))).heap.size := fun j c' k hk => Nat.lt_of_lt_of_le (hB k (hgB j c' k hk)) hbut2.size
        have hcall2 := Try.mIntS _ u2 l2 (g i 2) n2 (k1 + 1 + 1) l2' k2 hd2 ho2 hr2 hl2 (by omega) (by omega) (fun k hk => hglt2 i 2 k hk)
        simp only [Nat.mul_one, Nat.add_zero] at hc0 hf0 hrow1 hbut1 hc1 hf1 hrow2 hbut2 hc2 hf2 hcall2 hglt2
        go_wp2_with (
          go_at_call 14
          refine hcall2.mono ?_
          rintro ex2 w2 ⟨rfl, hbc2, hrr2, nn2, hdd2, hoo2⟩
          have hrow3 := hrow2.call (fun k hk => hk.elim) hx2_2 (by omega) hc2 hbc2 hglt2 hrr2 hdd2 hoo2
          have hbut3 := hbut2.trans (hbc2.mono fun k hk => hgB i 2 k hk))
        go_roundg (N - i - 1)
        case measure => omega
        case rel => exact ⟨i + 1, _, k2, by omega, by omega, by go_num, by first | rfl | go_num, hmk2, hbut3, by rw [setD_at hyr, setD_at (set_at hyr), setD_at (set_at (set_at hyr))] at hrow3; simpa using hrow3⟩
      · obtain rfl : i = N := by omega
        go_wp2
        go_ret
        rw [← hN] at hmk
        have he : some (ys, k1) = some (xs', k') := hmk.symm.trans hm
        cases he
        obtain ⟨q1, q2⟩ := hrow0.forest hcap hBb hgB
        rw [hl] at q1 q2
        exact ⟨rfl, hbut0, q1, q2⟩
set_option maxHeartbeats 4000000 in
set_option maxRecDepth 1000000 in
theorem Try.mRelationS {mt : Int → List UInt8} (ht : ∀ (w : World) (k : Int), 0 ≤ k → k ≤ 4611686018427387904 → Calls Try.prog 79 #[.int .i64 k] w fun e w' => e = .returned (.string ⟨(mt k).toArray⟩) ∧ Below w.heap.size w w') : ListC Try.prog 41 3 (mkRows (stepRel mt)) := by
  intro w v xs B n k xs' k' hd hf hr hm hk hk2 hB
  rcases Fo.rows hd hf hr with ⟨rfl, A, cap, rfl⟩ | ⟨b, cap, e, g, rfl, hle, hcap, hBb, hgB, hrow⟩
  · cases hm
    go_enter Try.func41, Try.ntmps41
    go_wp2
    go_loopg [1, 5] 0 (fun g s1 s5 wr => s1 = .int .i64 k ∧ s5 = .int .i64 0 ∧ wr = w)
    case atStart => exact ⟨rfl, rfl, rfl⟩
    case round =>
      obtain ⟨rfl, rfl, rfl⟩ := hrel
      go_wp2
      go_ret
      exact ⟨rfl, Ovi.But.refl _ _, hr, _, hd, hf⟩
  · have hcap' := hcap
    unfold maxLen at hcap'
    have hl := (mkRows_up stepRel_up hm).2
    generalize hN : xs.length = N at *
    go_enter Try.func41, Try.ntmps41
    go_wp2
    go_loopg [1, 5] N (fun gk s1 s5 wr => ∃ (i : Nat) (ys : Ovi.Rows) (k1 : Int), i ≤ N ∧ N - i ≤ gk ∧ s5 = .int .i64 i ∧ s1 = .int .i64 k1 ∧ mkN (stepRel mt) i xs k = some (ys, k1) ∧ Ovi.But B w wr ∧ RowG wr NT b cap e 3 ys g)
    case atStart => exact ⟨0, xs, k, by omega, by omega, rfl, rfl, rfl, Ovi.But.refl _ _, hrow⟩
    case round =>
      obtain ⟨i, ys, k1, hi, hg, rfl, rfl, hmk, hbut0, hrow0⟩ := hrel
      by_cases hlt : i < N
      · obtain ⟨r, r', k2, hyr, hst, hmk2, b1, b2, b3, _⟩ := mkN_next stepRel_up hm hmk (by omega)
        obtain ⟨s0, z1, t2, rfl, rfl, rfl⟩ := stepRel_some hst
        have hx0_0 : cellD ys i 0 = some (.str s0) := by simp [cellD, hyr]
        have hx1_0 : cellD ys i 1 = some (.int .i64 z1) := by simp [cellD, hyr]
        have hx2_0 : cellD ys i 2 = some (.bool t2) := by simp [cellD, hyr]
        have ht0 := ht (wr) k1 (by omega) (by omega)
        go_wp2_with (
          go_at_call 79
          refine ht0.mono ?_
          rintro ex0 w0 ⟨rfl, hbel0⟩
          have hbut1 := hbut0.trans (Ovi.But.of_below hbel0)
          have hrow1 := hrow0.world (w' := w0) (fun k hk => hk.elim) (hbel0.block _ hrow0.lt) (fun j c' k hk => hbel0.block _ (Nat.lt_of_lt_of_le (hB k (hgB j c' k hk)) hbut0.size))
          obtain ⟨u0, hc0, hf0, _⟩ := hrow1.at hx0_0
          have hrow2 := hrow1.set (fun h => h) hx0_0 (v := .string ⟨(mt k1).toArray⟩) (d := .str (mt k1)) rfl (by have := RD.str (w := w0) (S := NT) (T := NT) ⟨(mt k1).toArray⟩; simpa using this)
          have hbut2 : Ovi.But B w ((w0).setCell ⟨b, i * 3 + 0, none⟩ (.string ⟨(mt k1).toArray⟩)) := hbut1.trans (Ovi.But.setCell hBb)
          have hx1_1 := setD_other (d := .str (mt k1)) hx1_0 (by decide : 1 ≠ 0)
          have hx2_1 := setD_other (d := .str (mt k1)) hx2_0 (by decide : 2 ≠ 0)
          obtain ⟨u1, hc1, hf1, _⟩ := hrow2.at hx1_1
          have hrow3 := hrow2.set (fun h => h) hx1_1 (v := .int .i64 (k1 + 1)) (d := .int .i64 (k1 + 1)) rfl (.int _ _)
          have hbut3 : Ovi.But B w (((w0).setCell ⟨b, i * 3 + 0, none⟩ (.string ⟨(mt k1).toArray⟩)).setCell ⟨b, i * 3 + 1, none⟩ (.int .i64 (k1 + 1))) := hbut2.trans (Ovi.But.setCell hBb)
          have hx2_2 := setD_other (d := .int .i64 (k1 + 1)) hx2_1 (by decide : 2 ≠ 1)
          obtain ⟨u2, hc2, hf2, _⟩ := hrow3.at hx2_2
          have hrow4 := hrow3.set (fun h => h) hx2_2 (v := .bool ((k1 + 1 + 1) % 3 == 0)) (d := .bool ((k1 + 1 + 1) % 3 == 0)) rfl (.bool _)
          have hbut4 : Ovi.But B w ((((w0).setCell ⟨b, i * 3 + 0, none⟩ (.string ⟨(mt k1).toArray⟩)).setCell ⟨b, i * 3 + 1, none⟩ (.int .i64 (k1 + 1))).setCell ⟨b, i * 3 + 2, none⟩ (.bool ((k1 + 1 + 1) % 3 == 0))) := hbut3.trans (Ovi.But.setCell hBb)
          simp only [Nat.mul_one, Nat.add_zero] at hc0 hf0 hrow2 hbut2 hc1 hf1 hrow3 hbut3 hc2 hf2 hrow4 hbut4)
        go_roundg (N - i - 1)
        case measure => omega
        case rel => exact ⟨i + 1, _, (k1 + 1 + 1 + 1), by omega, by omega, by go_num, by first | rfl | go_num, hmk2, hbut4, by rw [setD_at hyr, setD_at (set_at hyr), setD_at (set_at (set_at hyr))] at hrow4; simpa using hrow4⟩
      · obtain rfl : i = N := by omega
        go_wp2
        go_ret
        rw [← hN] at hmk
        have he : some (ys, k1) = some (xs', k') := hmk.symm.trans hm
        cases he
        obtain ⟨q1, q2⟩ := hrow0.forest hcap hBb hgB
        rw [hl] at q1 q2
        exact ⟨rfl, hbut0, q1, q2⟩
end Go.Proofs

/-! Wb -/
namespace Go.Proofs
open Go.Shelf Go.RowKit Go.Lib Ovi
set_option maxHeartbeats 4000000 in
set_option maxRecDepth 1000000 in
theorem Try.mInstance {mt : Int → List UInt8} (ht : ∀ (w : World) (k : Int), 0 ≤ k → k ≤ 4611686018427387904 → Calls Try.prog 79 #[.int .i64 k] w fun e w' => e = .returned (.string ⟨(mt k).toArray⟩) ∧ Below w.heap.size w w') : AggC Try.prog 13 (stepInst mt) := by
  intro w us ds G k ds' k' hsz hcells hdis hlt hm hk hk2
  obtain ⟨x0, x1, y0, k1, y1, rfl, h1, h2, rfl⟩ := stepInst_some hm
  have up1 := (mkRows_up stepRel_up h1).1
  have up2 := (mkRows_up stepFact_up h2).1
  obtain ⟨u0, hu0, c0⟩ := hcells 0 _ rfl
  obtain ⟨u1, hu1, c1⟩ := hcells 1 _ rfl
  have hus : us = #[u0, u1] := by
    apply Array.ext_getElem?
    intro i
    match i with
    | 0 => exact hu0
    | 1 => exact hu1
    | i + 2 => rw [Array.getElem?_eq_none (by rw [hsz]; simp), Array.getElem?_eq_none (by simp)]
  subst hus
  have hb0 : Ovi.But (fun _ => False) w (w.alloc (.cells #[u0, u1] 31 (0, 0))) := Ovi.But.of_below ((Below.refl _ w).alloc (Nat.le_refl _) _)
  have hnew : ∀ c k, G c k → k ≠ w.heap.size := fun c k hk he => by have := hlt c k hk; omega
  have c0 : CellF (w.alloc (.cells #[u0, u1] 31 (0, 0))) (G 0) u0 _ := CellF.but c0 hb0 (hlt 0) (fun _ _ h => h)
  have c1 : CellF (w.alloc (.cells #[u0, u1] 31 (0, 0))) (G 1) u1 _ := CellF.but c1 hb0 (hlt 1) (fun _ _ h => h)
  have hlt1 : ∀ c b, G c b → b < (w.alloc (.cells #[u0, u1] 31 (0, 0))).heap.size := fun c b hb => Nat.lt_of_lt_of_le (hlt c b hb) hb0.size
  have l0 : (w.alloc (.cells #[u0, u1] 31 (0, 0))).cell? ⟨w.heap.size, 0, none⟩ = some u0 := alloc_cell w _ _ rfl
  have l1 : (w.alloc (.cells #[u0, u1] 31 (0, 0))).cell? ⟨w.heap.size, 1, none⟩ = some u1 := alloc_cell w _ _ rfl
  obtain ⟨r0, n0, d0, f0⟩ := c0
  have hcall0 := Try.mRelationS ht _ u0 x0 (G 0) n0 k y0 k1 d0 f0 r0 h1 hk (by omega) (hlt1 0)
  clear ht
  go_enter Try.func13, Try.ntmps13
  go_wp2_with (
    go_at_call 41
    refine hcall0.mono ?_
    rintro e1 w1 ⟨rfl, b1, r1, n1, d1, f1⟩
    have l1' := b1.cell (fun h => hnew _ _ h rfl) l1
    have c1' := c1.but b1 (hlt1 1) (fun k h h' => absurd (hdis _ _ _ h h') (by decide))
    obtain ⟨r2, n2, d2, f2⟩ := c1'
    have hlt2 : ∀ c b, G c b → b < w1.heap.size := fun c b hb => Nat.lt_of_lt_of_le (hlt1 c b hb) b1.size
    have hcall1 := Try.mFactS _ u1 x1 (G 1) n2 k1 y1 k' d2 f2 r2 h2 (by omega) hk2 (hlt2 1))
  refine hcall1.mono ?_
  rintro e2 w2 ⟨rfl, b2, r3, n3, d3, f3⟩
  go_wp2
  go_ret
  have c0'' := CellF.but (B := G 0) ⟨r1, n1, d1, f1⟩ b2 (hlt2 0) (fun k h h' => absurd (hdis _ _ _ h h') (by decide))
  refine ⟨rfl, ((hb0.mono fun _ h => h.elim).trans (b1.mono fun k h => ⟨0, h⟩)).trans (b2.mono fun k h => ⟨1, h⟩), fun c x hx => ?_⟩
  match c, hx with
  | 0, hx => cases hx; exact ⟨u0, rfl, c0''⟩
  | 1, hx => cases hx; exact ⟨u1, rfl, r3, n3, d3, f3⟩
  | c + 2, hx => simp at hx
set_option maxHeartbeats 4000000 in
set_option maxRecDepth 1000000 in
theorem Try.mState {mt : Int → List UInt8} (ht : ∀ (w : World) (k : Int), 0 ≤ k → k ≤ 4611686018427387904 → Calls Try.prog 79 #[.int .i64 k] w fun e w' => e = .returned (.string ⟨(mt k).toArray⟩) ∧ Below w.heap.size w w') : AggC Try.prog 19 (stepState mt) := by
  intro w us ds G k ds' k' hsz hcells hdis hlt hm hk hk2
  obtain ⟨x0, x1, x2, y0, y1, k1, y2, rfl, h1, h2, rfl⟩ := stepState_some hm
  have up1 := (stepInst_up _ _ _ _ h1).1
  have up2 := (mkRows_up stepTerm_up h2).1
  obtain ⟨u0, hu0, c0⟩ := hcells 0 _ rfl
  obtain ⟨u1, hu1, c1⟩ := hcells 1 _ rfl
  obtain ⟨u2, hu2, c2⟩ := hcells 2 _ rfl
  have hus : us = #[u0, u1, u2] := by
    apply Array.ext_getElem?
    intro i
    match i with
    | 0 => exact hu0
    | 1 => exact hu1
    | 2 => exact hu2
    | i + 3 => rw [Array.getElem?_eq_none (by rw [hsz]; simp), Array.getElem?_eq_none (by simp)]
  subst hus
  have hb0 : Ovi.But (fun _ => False) w (w.alloc (.cells #[u0, u1, u2] 43 (0, 0))) := Ovi.But.of_below ((Below.refl _ w).alloc (Nat.le_refl _) _)
  have hnew : ∀ c k, G c k → k ≠ w.heap.size := fun c k hk he => by have := hlt c k hk; omega
  have c0 : CellF (w.alloc (.cells #[u0, u1, u2] 43 (0, 0))) (G 0) u0 _ := CellF.but c0 hb0 (hlt 0) (fun _ _ h => h)
  have c1 : CellF (w.alloc (.cells #[u0, u1, u2] 43 (0, 0))) (G 1) u1 _ := CellF.but c1 hb0 (hlt 1) (fun _ _ h => h)
  have c2 : CellF (w.alloc (.cells #[u0, u1, u2] 43 (0, 0))) (G 2) u2 _ := CellF.but c2 hb0 (hlt 2) (fun _ _ h => h)
  have hlt1 : ∀ c b, G c b → b < (w.alloc (.cells #[u0, u1, u2] 43 (0, 0))).heap.size := fun c b hb => Nat.lt_of_lt_of_le (hlt c b hb) hb0.size
  have l0 : (w.alloc (.cells #[u0, u1, u2] 43 (0, 0))).cell? ⟨w.heap.size, 0, none⟩ = some u0 := alloc_cell w _ _ rfl
  have l1 : (w.alloc (.cells #[u0, u1, u2] 43 (0, 0))).cell? ⟨w.heap.size, 1, none⟩ = some u1 := alloc_cell w _ _ rfl
  have l2 : (w.alloc (.cells #[u0, u1, u2] 43 (0, 0))).cell? ⟨w.heap.size, 2, none⟩ = some u2 := alloc_cell w _ _ rfl
  have hcall0 := Try.mInstance ht (w.alloc (.cells #[u0, u1, u2] 43 (0, 0))) #[u0, u1] [x0, x1] (fun c k => c < 2 ∧ G c k) k [y0, y1] k1 rfl (fun c x hx => by
    match c, hx with
    | 0, hx => cases hx; exact ⟨u0, rfl, CellF.sub c0 fun k hk => ⟨by decide, hk⟩⟩
    | 1, hx => cases hx; exact ⟨u1, rfl, CellF.sub c1 fun k hk => ⟨by decide, hk⟩⟩
    | c + 2, hx => simp at hx) (fun c c' k h h' => hdis c c' k h.2 h'.2) (fun c b h => hlt1 c b h.2) h1 hk (by omega)
  clear ht
  go_enter Try.func19, Try.ntmps19
  go_wp2_with (
    go_at_call 13
    refine hcall0.mono ?_
    rintro e1 w1 ⟨rfl, b1, r1⟩
    have l2' := b1.cell (fun ⟨c, _, h⟩ => hnew _ _ h rfl) l2
    have c2' := c2.but b1 (hlt1 2) (fun k h ⟨c, hc, h'⟩ => by have := hdis _ _ _ h h'; omega)
    obtain ⟨r2, n2, d2, f2⟩ := c2'
    have hlt2 : ∀ c b, G c b → b < w1.heap.size := fun c b hb => Nat.lt_of_lt_of_le (hlt1 c b hb) b1.size
    have hcall1 := Try.mTermS _ u2 x2 (G 2) n2 k1 y2 k' d2 f2 r2 h2 (by omega) hk2 (hlt2 2))
  refine hcall1.mono ?_
  rintro e2 w2 ⟨rfl, b2, r3, n3, d3, f3⟩
  go_wp2
  go_ret
  refine ⟨rfl, ((hb0.mono fun _ h => h.elim).trans (b1.mono fun k ⟨c, _, h⟩ => ⟨c, h⟩)).trans (b2.mono fun k h => ⟨2, h⟩), fun c x hx => ?_⟩
  match c, hx with
  | 0, hx =>
    obtain ⟨q, hq, hc⟩ := r1 0 x hx
    cases hq
    exact ⟨u0, rfl, CellF.but (CellF.sub hc fun k hk => hk.2) b2 (hlt2 0) (fun k h h' => absurd (hdis _ _ _ h h') (by decide))⟩
  | 1, hx =>
    obtain ⟨q, hq, hc⟩ := r1 1 x hx
    cases hq
    exact ⟨u1, rfl, CellF.but (CellF.sub hc fun k hk => hk.2) b2 (hlt2 1) (fun k h h' => absurd (hdis _ _ _ h h') (by decide))⟩
  | 2, hx => cases hx; exact ⟨u2, rfl, r3, n3, d3, f3⟩
  | c + 3, hx => simp at hx
end Go.Proofs

/-! Mkf -/
namespace Ovi
open Go Go.RowKit
/-! ### The marks of an instance and of a Skolem state keep the shape -/
theorem cell_row {c : MCell} {sz : Nat} {xs : Rows} (ho : c.ok = true) (h : toD c = .list sz xs) : ∃ e, c = .row e sz xs := by
  cases c with
  | row e s x => simp only [toD, D.list.injEq] at h; obtain ⟨rfl, rfl⟩ := h; exact ⟨e, rfl⟩
  | any x => simp only [toD] at h; subst h; cases ho
theorem mkRows_len {step : Step1} {xs ys : Rows} {k k' : Int} (h : mkRows step xs k = some (ys, k')) : ys.length = xs.length := by
  obtain ⟨_, _, _, h, _⟩ := mkRows_chain h
  exact h
theorem likeInst {mt : Int → List UInt8} (cs : List MCell) (k : Int) (ds' : List D) (k' : Int) (ho : cs.all MCell.ok = true) (h : stepInst mt (cs.map toD) k = some (ds', k')) : LikeD cs ds' := by
  obtain ⟨x0, x1, y0, k1, y1, e, h1, h2, rfl⟩ := stepInst_some h
  have hl := congrArg List.length e
  simp only [List.length_map, List.length_cons, List.length_nil] at hl
  match cs, hl with
  | [c0, c1], _ =>
    simp only [List.map_cons, List.map_nil, List.cons.injEq, and_true] at e
    simp only [List.all_cons, List.all_nil, Bool.and_true, Bool.and_eq_true] at ho
    obtain ⟨e0, rfl⟩ := cell_row ho.1 e.1
    obtain ⟨e1, rfl⟩ := cell_row ho.2 e.2
    exact ⟨rfl, mkRows_len h1, rfl, mkRows_len h2, True.intro⟩
theorem likeState {mt : Int → List UInt8} (cs : List MCell) (k : Int) (ds' : List D) (k' : Int) (ho : cs.all MCell.ok = true) (h : stepState mt (cs.map toD) k = some (ds', k')) : LikeD cs ds' := by
  obtain ⟨x0, x1, x2, y0, y1, k1, y2, e, h1, h2, rfl⟩ := stepState_some h
  obtain ⟨z0, z1, w0, k2, w1, e', h3, h4, e2⟩ := stepInst_some h1
  simp only [List.cons.injEq, and_true] at e' e2
  obtain ⟨rfl, rfl⟩ := e'
  obtain ⟨rfl, rfl⟩ := e2
  have hl := congrArg List.length e
  simp only [List.length_map, List.length_cons, List.length_nil] at hl
  match cs, hl with
  | [c0, c1, c2], _ =>
    simp only [List.map_cons, List.map_nil, List.cons.injEq, and_true] at e
    simp only [List.all_cons, List.all_nil, Bool.and_true, Bool.and_eq_true] at ho
    obtain ⟨e0, rfl⟩ := cell_row ho.1 e.1
    obtain ⟨e1, rfl⟩ := cell_row ho.2.1 e.2.1
    obtain ⟨e2, rfl⟩ := cell_row ho.2.2 e.2.2
    exact ⟨rfl, mkRows_len h3, rfl, mkRows_len h4, rfl, mkRows_len h2, True.intro⟩
end Ovi

/-! PSh -/
namespace Go.Proofs
open Go.Shelf
def Try.lays189_ren : Go.Shelf.Ren := ⟨fun | 189 => 56 | 125 => 86 | 257 => 85 | 128 => 110 | 129 => 111 | 294 => 101 | 295 => 102 | 296 => 103 | 297 => 104 | 298 => 105 | 299 => 106 | 216 => 107 | 300 => 108 | 301 => 109 | 328 => 122 | 329 => 123 | 330 => 124 | 331 => 125 | 332 => 126 | 215 => 120 | 343 => 130 | n => n, fun | 28 => 26 | 3 => 3 | 46 => 105 | 0 => 0 | 51 => 121 | 53 => 123 | 4 => 4 | 183 => 114 | 182 => 113 | 131 => 88 | 5 => 5 | 9 => 9 | 218 => 129 | 222 => 133 | 228 => 137 | 229 => 138 | n => n, fun | n => n⟩
theorem Try.lays189 : Go.Proofs.Lays.n189 Try.prog Try.lays189_ren := {
  mixed := by kernel_rfl
  f125 := Try.func86.trans (congrArg some (by kernel_rfl))
  f128 := Try.func110.trans (congrArg some (by kernel_rfl))
  f129 := Try.func111.trans (congrArg some (by kernel_rfl))
  f189 := Try.func56.trans (congrArg some (by kernel_rfl))
  f215 := Try.func120.trans (congrArg some (by kernel_rfl))
  f216 := Try.func107.trans (congrArg some (by kernel_rfl))
  f257 := Try.func85.trans (congrArg some (by kernel_rfl))
  f294 := Try.func101.trans (congrArg some (by kernel_rfl))
  f295 := Try.func102.trans (congrArg some (by kernel_rfl))
  f296 := Try.func103.trans (congrArg some (by kernel_rfl))
  f297 := Try.func104.trans (congrArg some (by kernel_rfl))
  f298 := Try.func105.trans (congrArg some (by kernel_rfl))
  f299 := Try.func106.trans (congrArg some (by kernel_rfl))
  f300 := Try.func108.trans (congrArg some (by kernel_rfl))
  f301 := Try.func109.trans (congrArg some (by kernel_rfl))
  f328 := Try.func122.trans (congrArg some (by kernel_rfl))
  f329 := Try.func123.trans (congrArg some (by kernel_rfl))
  f330 := Try.func124.trans (congrArg some (by kernel_rfl))
  f331 := Try.func125.trans (congrArg some (by kernel_rfl))
  f332 := Try.func126.trans (congrArg some (by kernel_rfl))
  f343 := Try.func130.trans (congrArg some (by kernel_rfl))
  t0 := Try.underlying0
  a0 := Try.isAgg0
  z0 := Try.sizeOf0
  v0 := Try.zeroValue0
  t3 := Try.underlying3
  a3 := Try.isAgg3
  z3 := Try.sizeOf3
  v3 := Try.zeroValue3
  t4 := Try.underlying4
  a4 := Try.isAgg4
  z4 := Try.sizeOf4
  v4 := Try.zeroValue4
  t5 := Try.underlying5
  a5 := Try.isAgg5
  z5 := Try.sizeOf5
  v5 := Try.zeroValue5
  t9 := Try.underlying9
  a9 := Try.isAgg9
  z9 := Try.sizeOf9
  v9 := Try.zeroValue9
  t28 := Try.underlying26
  a28 := Try.isAgg26
  z28 := Try.sizeOf26
  v28 := Try.zeroValue26
  t46 := Try.underlying105
  a46 := Try.isAgg105
  z46 := Try.sizeOf105
  v46 := Try.zeroValue105
  t51 := Try.underlying121
  a51 := Try.isAgg121
  z51 := Try.sizeOf121
  v51 := Try.zeroValue121
  t53 := Try.underlying123
  a53 := Try.isAgg123
  z53 := Try.sizeOf123
  v53 := Try.zeroValue123
  t131 := Try.underlying88
  a131 := Try.isAgg88
  z131 := Try.sizeOf88
  v131 := Try.zeroValue88
  t182 := Try.underlying113
  a182 := Try.isAgg113
  z182 := Try.sizeOf113
  v182 := Try.zeroValue113
  t183 := Try.underlying114
  a183 := Try.isAgg114
  z183 := Try.sizeOf114
  v183 := Try.zeroValue114
  t218 := Try.underlying129
  a218 := Try.isAgg129
  z218 := Try.sizeOf129
  v218 := Try.zeroValue129
  t222 := Try.underlying133
  a222 := Try.isAgg133
  z222 := Try.sizeOf133
  v222 := Try.zeroValue133
  t228 := Try.underlying137
  a228 := Try.isAgg137
  z228 := Try.sizeOf137
  v228 := Try.zeroValue137
  t229 := Try.underlying138
  a229 := Try.isAgg138
  z229 := Try.sizeOf138
  v229 := Try.zeroValue138 }
def Try.laysNm215_ren : Go.Shelf.Ren := ⟨fun | 15 => 121 | n => n, fun | 22 => 26 | 3 => 3 | 4 => 4 | n => n, fun | n => n⟩
theorem Try.laysNm215 : Go.Proofs.Lays2.n15 Try.prog Try.laysNm215_ren := {
  mixed := by kernel_rfl
  f15 := Try.func121.trans (congrArg some (by kernel_rfl))
  t3 := Try.underlying3
  a3 := Try.isAgg3
  z3 := Try.sizeOf3
  v3 := Try.zeroValue3
  t4 := Try.underlying4
  a4 := Try.isAgg4
  z4 := Try.sizeOf4
  v4 := Try.zeroValue4
  t22 := Try.underlying26
  a22 := Try.isAgg26
  z22 := Try.sizeOf26
  v22 := Try.zeroValue26
  i3 := by kernel_rfl }
def Try.laysNm220_ren : Go.Shelf.Ren := ⟨fun | 20 => 57 | n => n, fun | 22 => 26 | 3 => 3 | 4 => 4 | 0 => 0 | n => n, fun | n => n⟩
theorem Try.laysNm220 : Go.Proofs.Lays2.n20 Try.prog Try.laysNm220_ren := {
  mixed := by kernel_rfl
  f20 := Try.func57.trans (congrArg some (by kernel_rfl))
  t0 := Try.underlying0
  a0 := Try.isAgg0
  z0 := Try.sizeOf0
  v0 := Try.zeroValue0
  t3 := Try.underlying3
  a3 := Try.isAgg3
  z3 := Try.sizeOf3
  v3 := Try.zeroValue3
  t4 := Try.underlying4
  a4 := Try.isAgg4
  z4 := Try.sizeOf4
  v4 := Try.zeroValue4
  t22 := Try.underlying26
  a22 := Try.isAgg26
  z22 := Try.sizeOf26
  v22 := Try.zeroValue26
  i3 := by kernel_rfl }
def Try.laysSlE041_f73_ren : Go.Shelf.Ren := ⟨fun | 41 => 73 | n => n, fun | 22 => 28 | 23 => 86 | 4 => 4 | n => n, fun | n => n⟩
theorem Try.laysSlE041_f73 : Go.Proofs.SlLaysE0.n41 Try.prog Try.laysSlE041_f73_ren := {
  mixed := by kernel_rfl
  f41 := ⟨Try.f73.name, by decide, Try.func73.trans (congrArg some (by kernel_rfl))⟩
  t4 := Try.underlying4
  a4 := Try.isAgg4
  z4 := Try.sizeOf4
  v4 := Try.zeroValue4
  t22 := Try.underlying28
  a22 := Try.isAgg28
  z22 := Try.sizeOf28
  v22 := Try.zeroValue28 }
end Go.Proofs

/-! PSc -/
namespace Go.Proofs.Ythicohakeljdcaa.Q
open Go Ovi Go.RowKit Go.Proofs
theorem ok : progOk Try.prog = true := by kernel_rfl
theorem mixed : Try.prog.follows .mixedOrders = true := by kernel_rfl
theorem bare (k : Nat) : Sound Try.prog noG (C0 k) := evCall_ok (drawSound mixed) (okProg ok) (sound_none _ _) k
theorem sort_nil : evCall Try.prog hs (fun _ => none) 8 56 [.d (.list 1 [])] = some [] := by kernel_rfl
theorem sortC : SortC Try.prog 56 where
  known := ⟨Try.f56, Try.func56, rfl, by kernel_rfl⟩
  run := fun blk off cap zs w hH hb hl => Any.slices_Sort_int Try.lays189 blk off cap zs w hH hb hl
  nil := fun A w => by
    refine ((bare 8).plain 56 _ _ sort_nil w (fun _ => False) (fun _ => False) #[.slice A 0 0] (fun _ h => h.elim) (fun _ h => h.elim) ⟨rfl, fun j a ha => ?_⟩ trivial).mono fun e w' ⟨v, S', mr, he, hb, _, _, hr, _⟩ => ?_
    · cases j with
      | zero => cases ha; exact ⟨_, rfl, RD.nil A 1⟩
      | succ j => simp at ha
    · obtain ⟨⟨vs, h1, h2, _⟩, _⟩ := hr
      obtain rfl := List.eq_nil_of_length_eq_zero h2
      exact ⟨by rw [he, h1], hb⟩
theorem compactC : CompactC Try.prog 57 where
  known := ⟨Try.f57, Try.func57, rfl, by kernel_rfl⟩
  run := fun blk off cap zs w hH hb hl => Any.slices_Compact_int Try.laysNm220 blk off cap zs w hH hb hl
  nil := fun A cap w => Any.slices_Compact_int_empty Try.laysNm220 A cap w
theorem cloneC : CloneC Try.prog 121 3 where
  known := ⟨Try.f121, Try.func121, rfl, by kernel_rfl⟩
  run := fun b off n c zs w hz hb hc => Any.slices_Clone_int Try.laysNm215 b off n c zs w hz hb hc
  nil := fun n c w => Any.slices_Clone_int_nil Try.laysNm215 n c w
  zero := fun a c w => Any.slices_Clone_int_zero Try.laysNm215 a c w
theorem some86 : (Try.prog.info? 86).isSome = true := by kernel_rfl
theorem cloneZC : CloneZC Try.prog 73 86 3 where
  base := {
    known := ⟨Try.f73, Try.func73, rfl, by kernel_rfl⟩
    pos := by decide
    run := fun b off n c news w hl hn hc h1 => by
      have hmax : (1099511627776 : Nat) ≤ maxLen := by decide
      exact (AnyE.slices_Clone Try.laysSlE041_f73 ((Try.prog.info? 86).get some86) (.agg #[.string ⟨#[]⟩, .int .i64 0, .bool false]) 3 32 (Option.some_get some86).symm (by kernel_rfl) (by kernel_rfl) (by kernel_rfl) rfl (by decide) Try.sizeOf86 b off n c news w hl (by omega) (by omega) hc h1).mono fun ex w' ⟨v', q1, q2, _, q3⟩ => ⟨v', q1, q2, q3⟩}
  nil := fun n c w => AnyE.slices_Clone_nil Try.laysSlE041_f73 n c w
  zero := fun a c w => cloneE_zero Try.laysSlE041_f73 ((Try.prog.info? 86).get some86) (.agg #[.string ⟨#[]⟩, .int .i64 0, .bool false]) 3 32 (Option.some_get some86).symm (by kernel_rfl) (by kernel_rfl) (by kernel_rfl) rfl (by decide) Try.sizeOf86 a c w
/-- markText -/
theorem ht (w : World) (k : Int) (h0 : 0 ≤ k) (h1 : k ≤ 4611686018427387904) : Calls Try.prog 79 #[.int .i64 k] w fun e w' => e = .returned (.string ⟨(mt k).toArray⟩) ∧ Below w.heap.size w w' := by
  have he : C0 3000 79 [.d (.int .i64 k)] = some [(false, [.d (.str (mt k))])] := (show C0 (2999 + 1) 79 [.d (.int .i64 k)] = evFnK P hs (C0 2999) 79 2999 Try.f79 [.d (.int .i64 k)] by kernel_rfl).trans (e79 2999 (C0 2999) k h0 h1 (by omega))
  refine ((bare 3000).plain 79 _ _ he w (fun _ => False) (fun _ => False) #[.int .i64 k] (fun _ h => h.elim) (fun _ h => h.elim) ⟨rfl, fun j a ha => ?_⟩ trivial).mono fun e w' ⟨v, S', mr, he, hb, _, _, hr, _⟩ => ?_
  · cases j with
    | zero => cases ha; exact ⟨_, rfl, RD.int .i64 k⟩
    | succ j => simp at ha
  · obtain ⟨⟨us, h1, h2, h3⟩, _⟩ := hr
    obtain ⟨u, hu, hone⟩ := h3 0 _ rfl
    simp only [List.length_cons, List.length_nil] at h2
    obtain ⟨u', rfl⟩ := List.length_eq_one_iff.1 h2
    simp only [List.getElem?_cons_zero, Option.some.injEq] at hu
    subst hu
    obtain ⟨l, hl, hrl⟩ := hone
    cases hl
    have hrl : RD w' S' (fun _ => False) u' (.str (mt k)) := hrl
    refine ⟨?_, hb⟩
    rw [he, h1]
    generalize hX : mt k = X at hrl ⊢
    generalize hY : D.str X = Y at hrl
    cases hrl with
    | str b =>
      cases hY
      simp
    | _ => cases hY
theorem mark13 : PrimOk Try.prog noG 13 (markP true (mkAg (stepInst mt))) := markP_ok ⟨Try.f13, Try.func13, rfl, by kernel_rfl⟩ (AggC.cells (Try.mInstance ht) likeInst)
theorem mark19 : PrimOk Try.prog noG 19 (markP true (mkAg (stepState mt))) := markP_ok ⟨Try.f19, Try.func19, rfl, by kernel_rfl⟩ (AggC.cells (Try.mState ht) likeState)
theorem sound (k : Nat) : Sound Try.prog noG (C k) := evCall_ok (drawSound mixed) (okProg ok) (sound_prims (by
  intro x hx
  simp only [List.mem_cons, List.not_mem_nil, or_false] at hx
  rcases hx with rfl | rfl | rfl | rfl | rfl | rfl
  · exact sortC.ok
  · exact compactC.ok
  · exact cloneC.ok
  · exact cloneZC.ok
  · exact mark13
  · exact mark19)) k
end Go.Proofs.Ythicohakeljdcaa.Q

/-! Sd -/
namespace Ovi
open Go Go.RowKit
/-! ### A law's own arguments, as seeds -/
def seedL : AV → AV
  | .d (.list sz l) => .s sz l
  | a => a
def seedA : AV → AV
  | .agg l => .agg (l.map seedL)
  | a => seedL a
section
variable {w : World} {hp : Hp} {m : MapM}
theorem leaf_seed {u : Value} {a : AV} (h : leafC w (Here w) (Here w) hp m u a) : leafC w (Here w) (Here w) hp m u (seedL a) := by
  cases a with
  | d x =>
    cases x with
    | list sz l => exact ⟨h, fun _ h => h, h⟩
    | _ => exact h
  | _ => exact h
theorem AC_seed {u : Value} {a : AV} (h : AC w (Here w) (Here w) hp m u a) : AC w (Here w) (Here w) hp m u (seedA a) := by
  cases a with
  | agg l =>
    obtain ⟨vs, h1, h2, h3⟩ := h
    refine ⟨vs, h1, by simp [h2], fun j a ha => ?_⟩
    rw [List.getElem?_map] at ha
    obtain ⟨b, hb, rfl⟩ := Option.map_eq_some_iff.1 ha
    obtain ⟨v, hv, hl⟩ := h3 j b hb
    exact ⟨v, hv, leaf_seed hl⟩
  | d x =>
    cases x with
    | list sz l => exact ⟨h, fun _ h => h, h⟩
    | _ => exact h
  | _ => exact h
end
end Ovi

/-! PE4 -/
namespace Go.Proofs.Ythicohakeljdcaa.Q
open Go Ovi Go.ChangeShapes Go.WideShapes Go.ChangeAt Go.RowKit
theorem own : ownKnob Try.prog.godebug = none := by kernel_rfl
theorem laidOut : laidOutB Try.prog = true := by kernel_rfl
def ty4 : List (Bool × List Ty) := [(true, [.list [.str, .int .i64, .bool], .list [.int .i64, .list [.int .i64]]])]
theorem tys4 : parTys Try.prog Try.f4.params.toList = some ty4 := by kernel_rfl
theorem readable4 : readable Try.prog Try.f4.params.toList = true := by kernel_rfl
theorem law_args4 {av : List AV} (h : ArgsFit ty4 av) : C 3000000 4 (av.map seedA) = some yes := by
  match av, h with
  | [p0], h =>
    simp only [ty4, ArgsFit, and_true] at h
    have g0 := h
    cases p0 <;> simp only [ArgFit] at g0
    obtain ⟨ds0, rfl, g0⟩ := g0
    obtain ⟨_, _, rfl, e0_0, g0⟩ := Fits.cons g0
    obtain ⟨_, _, rfl, e0_1, g0⟩ := Fits.cons g0
    obtain rfl := Fits.nil g0
    obtain ⟨_, rfl, e0_0⟩ := e0_0.list (n := 3) rfl
    obtain ⟨_, rfl, e0_1⟩ := e0_1.list (n := 2) rfl
    refine Eq.trans ?_ (show bo true = some yes from rfl)
    simpa only [asD, List.map_cons, List.map_nil, seedA, seedL] using law4 (Nat.le_refl _) e0_0 e0_1
set_option maxRecDepth 100000 in
theorem lifted4 (os : Os) (started : os.Started) (H : Type) (enc : TypeId × Value → H) :
    ReturnsInHanded {} Try.checked os 4 .any (Rows.fnExactNewSkolemStateSpec.pre6 enc Try.prog Try.f4 Rows.fnExactNewSkolemStateRow.domain false) (Rows.fnExactNewSkolemStateSpec.post enc Try.prog Try.f4 false true false false) := by
  refine returnsInHanded_of_change (C := Try.checked) own started (by kernel_rfl) Try.func4
    (ChangeSpec.witness6 (enc := enc) (C := Try.checked) false ⟨#[], #[.agg #[.slice none 0 0, .slice none 0 0]], []⟩ 8 (by kernel_rfl) (by kernel_rfl) (by kernel_rfl) (by kernel_rfl)) ?_
  intro W base args ds gs before hval0 hW hcnd _
  have hval : ∀ (j : Nat) t v, Try.f4.params[j]? = some t → args[j]? = some v → Value.okWide Try.prog W .any base t v := hval0
  have hW' := hW
  obtain ⟨p, q, hA0, hV, rfl, hfz, hnd⟩ := hW
  have hA : DataW.TrodAll enc Try.prog W 0 (fun _ => true) true Try.f4.params.toList args.toList ds p := hA0
  obtain ⟨rfl, rfl⟩ := trodVars_none hV
  obtain ⟨av, hfit, hlen, hac⟩ := args_in hA (base := base) (fun j t v h1 h2 => hval j t v (by simpa using h1) (by simpa using h2)) tys4
  refine (calls_yes (sound 3000000) (law_args4 hfit) (vs := args) ⟨by simpa using hlen, fun j a ha => by
    rw [List.getElem?_map] at ha
    obtain ⟨b, hb, rfl⟩ := Option.map_eq_some_iff.1 ha
    obtain ⟨u, hu, hc⟩ := hac j b hb
    exact ⟨u, by simpa using hu, AC_seed hc⟩⟩ trivial).mono fun e W' ⟨he, bel⟩ => ?_
  subst he
  have hk := kept_all laidOut bel readable4 hA
  obtain ⟨d0, rfl⟩ : ∃ d0, ds = [d0] := by
    obtain ⟨v0, vs0, d0, ds0, p0, q0, rg0, rfl, rfl, h0, r0⟩ := trodAll_cons hA
    obtain ⟨rfl, rfl, rfl⟩ := trodAll_nil r0
    exact ⟨_, rfl⟩
  exact ⟨_, rfl, _, _, _, [], _, [], hW', trodAll_mk1 (shut_bool (show Try.prog.underlying 4 = some .bool by kernel_rfl) _), hk, rfl, bel.frame _, fun h => by cases h⟩
theorem over4 : Rows.fnExactNewSkolemStateRow.holds Try.pinned (OpenSpec.ofChange Rows.fnExactNewSkolemStateSpec) :=
  OpenClaim.holds_of_wide 4 Try.f4 rfl rfl rfl rfl rfl rfl rfl ⟨rfl, rfl, rfl, rfl, rfl⟩ rfl rfl rfl rfl rfl (by kernel_rfl) Try.func4 (by kernel_rfl)
    (of_decide_eq_true (by kernel_rfl)) (by unfold Func.isWrapper; first | (rw [if_pos (by decide +kernel)]; kernel_rfl) | (rw [if_neg (by decide +kernel)]; exact ⟨rfl, rfl⟩))
    (fun os started H enc _ => lifted4 os started H enc)
end Go.Proofs.Ythicohakeljdcaa.Q
namespace Go.Proofs.Ythicohakeljdcaa
theorem fnExactNewSkolemState_holds : Rows.FnExactNewSkolemStateSaid := Q.over4
#print axioms fnExactNewSkolemState_holds
end Go.Proofs.Ythicohakeljdcaa

/-
The comparison of two facts, by the walk, in every order. No condition.
-/
import Derived.Test.YtkkaikcjcjkpbaaGreatRf
set_option linter.unusedVariables false
set_option linter.unusedSimpArgs false
/-! VCb -/
namespace Go.Proofs
open Go.Shelf Go.RowKit Go.Lib Go.Sort Ovi
def cmpA (x y : Int × List Int) : Int := if x.1 < y.1 then -1 else if x.1 > y.1 then 1 else cmpL x.2 y.2
set_option maxHeartbeats 4000000 in
set_option maxRecDepth 1000000 in
theorem Tryz.or2 (b c : Nat) (x y : Int) (w : World) (h0 : w.cell? ⟨b, 0, none⟩ = some (.int .i64 x)) (h1 : w.cell? ⟨b, 1, none⟩ = some (.int .i64 y)) :
    Calls Tryz.prog 121 #[.slice (some ⟨b, 0, none⟩) 2 c] w fun e w' => e = .returned (.int .i64 (if x = 0 then y else x)) ∧ w' = w := by
  go_enter Tryz.func121, Tryz.ntmps121
  go_wp2
  go_loopg [8] 2 (fun g s8 wr => ∃ i : Nat, i ≤ 2 ∧ 2 - i ≤ g ∧ s8 = .int .i64 i ∧ wr = w ∧ (1 ≤ i → x = 0) ∧ (2 ≤ i → y = 0))
  case atStart => exact ⟨0, by omega, by omega, rfl, rfl, fun h => by omega, fun h => by omega⟩
  case round =>
    obtain ⟨i, hi, hg, rfl, rfl, hx, hy⟩ := hrel
    match i, hi with
    | 0, _ =>
      by_cases hx0 : x = 0
      · subst hx0
        go_wp2
        go_roundg 1
        case measure => omega
        case rel => exact ⟨1, by omega, by omega, by first | rfl | go_num, rfl, fun _ => by first | trivial | rfl, fun h => by omega⟩
      · go_wp2
        go_ret
        exact ⟨rfl, rfl⟩
    | 1, _ =>
      obtain rfl := hx (by omega)
      by_cases hy0 : y = 0
      · subst hy0
        go_wp2
        go_roundg 0
        case measure => omega
        case rel => exact ⟨2, by omega, by omega, by first | rfl | go_num, rfl, fun _ => by first | trivial | rfl, fun _ => by first | trivial | rfl⟩
      · go_wp2
        go_ret
        exact ⟨rfl, rfl⟩
    | 2, _ =>
      obtain rfl := hx (by omega)
      obtain rfl := hy (by omega)
      go_wp2
      go_ret
      exact ⟨rfl, rfl⟩
set_option maxHeartbeats 40000000 in
set_option maxRecDepth 1000000 in
theorem Tryz.cmpFacts (r1 r2 : Int) (u v : Value) (c : Int) (w : World) (hu : u.oneCell' = true) (hv : v.oneCell' = true)
    (h108 : ∀ o1 o2, Calls Tryz.prog 123 #[u, v] ((w.alloc o1).alloc o2).drew fun e w' => e = .returned (.int .i64 c) ∧ w' = ((w.alloc o1).alloc o2).drew) :
    Calls Tryz.prog 85 #[.agg #[.int .i64 r1, u], .agg #[.int .i64 r2, v]] w fun e w' => e = .returned (.int .i64 (if Lib.compareInt r1 r2 = 0 then c else Lib.compareInt r1 r2)) ∧ ∃ q os', w' = grow (w.drewN q) os' := by
  have mixed : Tryz.prog.follows .mixedOrders = true := by kernel_rfl
  have h116 : ∀ W, Calls Tryz.prog 122 #[.int .i64 r1, .int .i64 r2] W fun e w' => e = .returned (.int .i64 (Lib.compareInt r1 r2)) ∧ w' = W := fun W => Any.cmp_Compare_int Tryz.lays122 r1 r2 W
  obtain ⟨z, hz⟩ : ∃ z, z = if Lib.compareInt r1 r2 = 0 then c else Lib.compareInt r1 r2 := ⟨_, rfl⟩
  have hor : ∀ (b k : Nat) (W : World), W.cell? ⟨b, 0, none⟩ = some (.int .i64 (Lib.compareInt r1 r2)) → W.cell? ⟨b, 1, none⟩ = some (.int .i64 c) → Calls Tryz.prog 121 #[.slice (some ⟨b, 0, none⟩) 2 k] W fun e w' => e = .returned (.int .i64 z) ∧ w' = W := fun b k W h0 h1 => by rw [hz]; exact Tryz.or2 b k _ _ W h0 h1
  rw [← hz]
  clear hz
  generalize Lib.compareInt r1 r2 = r at *
  go_enter Tryz.func85, Tryz.ntmps85
  go_wp2
  have c0 : ((w.alloc (Obj.cells #[Value.int IntKind.i64 r1, u] 90)).alloc (Obj.cells #[Value.int IntKind.i64 r2, v] 90)).drew.cell? ⟨w.heap.size, 0, none⟩ = some (.int .i64 r1) := by go_simp
  have c1 : ((w.alloc (Obj.cells #[Value.int IntKind.i64 r1, u] 90)).alloc (Obj.cells #[Value.int IntKind.i64 r2, v] 90)).drew.cell? ⟨w.heap.size, 1, none⟩ = some u := by go_simp
  have c2 : ((w.alloc (Obj.cells #[Value.int IntKind.i64 r1, u] 90)).alloc (Obj.cells #[Value.int IntKind.i64 r2, v] 90)).drew.cell? ⟨w.heap.size + 1, 0, none⟩ = some (.int .i64 r2) := by go_simp
  have c3 : ((w.alloc (Obj.cells #[Value.int IntKind.i64 r1, u] 90)).alloc (Obj.cells #[Value.int IntKind.i64 r2, v] 90)).drew.cell? ⟨w.heap.size + 1, 1, none⟩ = some v := by go_simp
  have hg : ∀ o, (((w.alloc (Obj.cells #[Value.int IntKind.i64 r1, u] 90)).alloc (Obj.cells #[Value.int IntKind.i64 r2, v] 90)).drew.alloc o) = grow (w.drewN 1) #[Obj.cells #[Value.int IntKind.i64 r1, u] 90, Obj.cells #[Value.int IntKind.i64 r2, v] 90, o] := fun o => by
    unfold World.alloc World.drew World.drewN grow
    simp only [World.mk.injEq, and_true, true_and]
    apply Array.ext'
    simp
  have h108 := h108 (Obj.cells #[Value.int IntKind.i64 r1, u] 90) (Obj.cells #[Value.int IntKind.i64 r2, v] 90)
  have HG : Aside _ := hg
  clear hg
  generalize hW : (w.alloc (Obj.cells #[Value.int IntKind.i64 r1, u] 90)).alloc (Obj.cells #[Value.int IntKind.i64 r2, v] 90) = W at *
  have HW : Hid _ := hW
  clear hW
  go_region_with_o (first
    | (go_at_call 122; refine (h116 _).mono ?_; rintro e w' ⟨rfl, rfl⟩)
    | (go_at_call 123; refine h108.mono ?_; rintro e w' ⟨rfl, rfl⟩)
    | (go_at_call 121; refine (hor _ _ _ (by go_simp) (by go_simp)).mono ?_; rintro e w' ⟨rfl, rfl⟩))
  all_goals (
    go_wp2
    go_ret
    exact ⟨rfl, 1, _, HG.out _⟩)
end Go.Proofs

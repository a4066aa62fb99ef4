/-
The primitives are paid; the statement. No condition.
-/
import Derived.Test.YtkkaikcjcjkpbaaGreatRf
import Derived.Test.YtkkaikcjcjkpbaaGreatRg
import Derived.Test.YtkkaikcjcjkpbaaGreatRa
import Derived.Test.YtkkaikcjcjkpbaaGreatRb
import Derived.Test.YtkkaikcjcjkpbaaGreatRe
import Derived.Test.YtkkaikcjcjkpbaaGreatRows
set_option linter.unusedVariables false
set_option linter.unusedSimpArgs false
/-! VSb -/
namespace Go.Proofs
open Go Ovi Go.RowKit Go.Shelf Go.Sort Go.Lib
theorem Tryz.cfa_nil (A : Option Addr) (cap : Nat) (w : World) : Calls Tryz.prog 140 #[.slice A 0 cap, .func (.func 57) #[] #[]] w fun e w' => e = .returned (.slice A 0 cap) ∧ w' = w := by
  go_enter Tryz.func140, Tryz.ntmps140
  go_wp2
  go_ret
  exact ⟨rfl, rfl⟩
/-- slices.Compare's contract, where the lists lie -/
theorem Tryz.cmp108 {w : World} {S : Nat → Prop} {u v : Value} {xs ys : List Int} (hu : RI w S u xs) (hv : RI w S v ys) (hxl : xs.length ≤ 1099511627776) (hyl : ys.length ≤ 1099511627776) : Calls Tryz.prog 123 #[u, v] w fun e w' => e = .returned (.int .i64 (cmpL xs ys)) ∧ w' = w := by
  obtain ⟨A, c, hu, hc, hx⟩ := hu
  obtain ⟨A', c', hv, hc', hy⟩ := hv
  subst hu hv
  have fin : ∀ {z z' : Int}, z = z' → ∀ {vs : Array Value}, (Calls Tryz.prog 123 vs w fun e w' => e = .returned (.int .i64 z) ∧ w' = w) → Calls Tryz.prog 123 vs w fun e w' => e = .returned (.int .i64 z') ∧ w' = w := by
    intro z z' hz vs h
    subst hz
    exact h
  by_cases hx0 : xs = []
  · subst hx0
    refine fin ?_ (Tryz.cmp_nil A A' c ys.length c' w)
    cases ys with
    | nil => rfl
    | cons y ys => rw [if_pos (by simp)]; rfl
  · obtain ⟨b, o, rfl, hx1⟩ := RI_addr hx0 hx
    by_cases hy0 : ys = []
    · subst hy0
      cases xs with
      | nil => exact absurd rfl hx0
      | cons x xs => exact fin rfl (Tryz.cmp_one b o c _ c' A' x w (by simp) (by have := hx1 0 x rfl; simpa using this))
    · obtain ⟨b', o', rfl, hy1⟩ := RI_addr hy0 hy
      exact fin rfl (Tryz.cmp_both b o c b' o' c' xs ys w (by omega) (by omega) hx1 hy1)
theorem alloc2_heap (W : World) (o1 o2 : Obj) {k : Nat} (h : k < W.heap.size) : ((W.alloc o1).alloc o2).drew.heap[k]? = W.heap[k]? := by
  show ((W.heap.push o1).push o2)[k]? = _
  rw [Array.getElem?_push, if_neg (by simp; omega), Array.getElem?_push, if_neg (by omega)]
theorem Tryz.cmp88 {w W : World} {S : Nat → Prop} (hS : ∀ k, S k → k < w.heap.size) (hW : Stab S w W) (hsz : w.heap.size ≤ W.heap.size) (x y : HdA w S) :
    Calls Tryz.prog 85 #[.agg (encA x).toArray, .agg (encA y).toArray] W fun e w' => e = .returned (.int .i64 (cmpHA x y)) ∧ ∃ q os', w' = grow (W.drewN q) os' := by
  have one : ∀ x : HdA w S, x.v.oneCell' = true := fun x => encA_one x _ (by simp [encA])
  have := Tryz.cmpFacts x.r y.r x.v y.v (cmpL x.l y.l) W (one x) (one y) (fun o1 o2 => by
    have hst : Stab S w ((W.alloc o1).alloc o2).drew := fun k hk => by
      rw [alloc2_heap W o1 o2 (Nat.lt_of_lt_of_le (hS k hk) hsz)]
      exact hW k hk
    exact Tryz.cmp108 (x.h.stab hst) (y.h.stab hst) x.b y.b)
  refine this.mono fun e w' ⟨h1, h2⟩ => ⟨?_, h2⟩
  rw [h1]
  congr 2
  unfold cmpHA Ovi.cmpA lstA Lib.compareInt
  by_cases c1 : x.r < y.r
  · simp [c1]
  · by_cases c2 : x.r > y.r
    · simp [c1, c2]
    · simp [c1, c2]
theorem grow_alloc2 (W : World) (o1 o2 : Obj) (q : Nat) (os : Array Obj) : grow (((W.alloc o1).alloc o2).drewN q) os = grow (W.drewN q) (#[o1, o2] ++ os) := by
  unfold World.alloc World.drewN grow
  simp only [World.mk.injEq, and_true, true_and]
  apply Array.ext'
  simp
set_option maxHeartbeats 4000000 in
set_option maxRecDepth 1000000 in
theorem Tryz.same90 (r1 r2 c : Int) (u v : Value) (hu : u.oneCell' = true) (hv : v.oneCell' = true) (W : World)
    (h88 : ∀ o1 o2, Calls Tryz.prog 85 #[.agg #[.int .i64 r1, u], .agg #[.int .i64 r2, v]] ((W.alloc o1).alloc o2) fun e w' => e = .returned (.int .i64 c) ∧ ∃ q os', w' = grow (((W.alloc o1).alloc o2).drewN q) os') :
    Calls Tryz.prog 57 #[.agg #[.int .i64 r1, u], .agg #[.int .i64 r2, v]] W fun e w' => e = .returned (.bool (decide (c = 0))) ∧ ∃ q os', w' = grow (W.drewN q) os' := by
  have h := h88 (Obj.cells #[Value.int IntKind.i64 r1, u] 90) (Obj.cells #[Value.int IntKind.i64 r2, v] 90)
  have hg := grow_alloc2 W (Obj.cells #[Value.int IntKind.i64 r1, u] 90) (Obj.cells #[Value.int IntKind.i64 r2, v] 90)
  have HG : Aside _ := hg
  clear hg h88
  go_enter Tryz.func57, Tryz.ntmps57
  go_wp2_with (go_at_call 85; refine h.mono ?_; rintro e w' ⟨rfl, q, os', rfl⟩)
  go_ret
  refine ⟨?_, q, _, HG.out q os'⟩
  first | rfl | (congr 2)
theorem Tryz.eq90 {w W : World} {S : Nat → Prop} (hS : ∀ k, S k → k < w.heap.size) (hW : Stab S w W) (hsz : w.heap.size ≤ W.heap.size) (x y : HdA w S) :
    Calls Tryz.prog 57 #[.agg (encA x).toArray, .agg (encA y).toArray] W fun e w' => e = .returned (.bool (decide (lstA x = lstA y))) ∧ ∃ q os', w' = grow (W.drewN q) os' := by
  have one : ∀ x : HdA w S, x.v.oneCell' = true := fun x => encA_one x _ (by simp [encA])
  refine (Tryz.same90 x.r y.r (cmpHA x y) x.v y.v (one x) (one y) W (fun o1 o2 => by
    have hst : Stab S w ((W.alloc o1).alloc o2) := fun k hk => by
      have := alloc2_heap W o1 o2 (Nat.lt_of_lt_of_le (hS k hk) hsz)
      exact this.trans (hW k hk)
    exact Tryz.cmp88 hS hst (by show w.heap.size ≤ ((W.heap.push o1).push o2).size; rw [Array.size_push, Array.size_push]; omega) x y)).mono fun e w' ⟨h1, h2⟩ => ⟨?_, h2⟩
  rw [h1]
  congr 2
  rw [Bool.eq_iff_iff, decide_eq_true_eq, decide_eq_true_eq]
  unfold cmpHA
  constructor
  · intro h
    refine antiA _ _ ?_ ?_
    · unfold ltA; rw [h]; rfl
    · unfold ltA
      have : cmpA (lstA x) (lstA y) = 0 := h
      rw [decide_eq_false_iff_not]
      intro h'
      have h2 : ltA (lstA y) (lstA x) = true := decide_eq_true h'
      rw [ltA_iff] at h2
      have h3 : ltA (lstA x) (lstA y) = false := by unfold ltA; rw [h]; rfl
      revert this
      unfold cmpA
      rcases h2 with h2 | ⟨h2, h2'⟩
      · rw [if_neg (by omega), if_pos (by omega)]; omega
      · rw [if_neg (by omega), if_neg (by omega)]
        intro h4
        have key : ∀ a b : List Int, cmpL a b = 0 → a = b := by
          intro a
          induction a with
          | nil => intro b hb; cases b with
            | nil => rfl
            | cons y ys => simp [cmpL] at hb
          | cons z zs ih =>
            intro b hb
            cases b with
            | nil => simp [cmpL] at hb
            | cons y ys =>
              unfold cmpL at hb
              by_cases c1 : z < y
              · rw [if_pos c1] at hb; omega
              · rw [if_neg c1] at hb
                by_cases c2 : z > y
                · rw [if_pos c2] at hb; omega
                · rw [if_neg c2] at hb
                  rw [ih ys hb, show z = y by omega]
        rw [key _ _ h4] at h2'
        exact List.lt_irrefl _ h2'
  · intro h
    rw [h]
    have h1 := swoA.irrefl (lstA y)
    unfold Ovi.cmpA
    rw [if_neg (by omega), if_neg (by omega)]
    have key : ∀ a : List Int, cmpL a a = 0 := by
      intro a
      induction a with
      | nil => rfl
      | cons z zs ih => unfold cmpL; rw [if_neg (by omega), if_neg (by omega)]; exact ih
    exact key _
end Go.Proofs

/-! VSc -/
namespace Go.Proofs
open Go Ovi Go.RowKit Go.Shelf
end Go.Proofs
namespace Go.Proofs.YtkkaikcjcjkpbaaGreat.Q
open Go Ovi Go.RowKit Go.Proofs
theorem ok : progOk Tryz.prog = true := by kernel_rfl
theorem mixed : Tryz.prog.follows .mixedOrders = true := by kernel_rfl
theorem bare (k : Nat) : Sound Tryz.prog noG (evCall Tryz.prog hs (fun _ => none) k) := evCall_ok (drawSound mixed) (okProg ok) (fun _ _ => rfl) (sound_none _ _) k
theorem sort_nil : evCall Tryz.prog hs (fun _ => none) 8 147 [.d (.list 1 [])] = some [] := by kernel_rfl
theorem sortC : SortC Tryz.prog 147 where
  known := ⟨Tryz.f147, Tryz.func147, rfl, by kernel_rfl⟩
  run := fun blk off cap zs w hH hb hl => Any.slices_Sort_int Tryz.lays189 blk off cap zs w hH hb hl
  nil := fun A w => by
    refine ((bare 8).plain 147 _ _ sort_nil w (fun _ => False) (fun _ => False) #[.slice A 0 0] (fun _ h => h.elim) (fun _ h => h.elim) ⟨rfl, fun j a ha => ?_⟩ trivial).mono fun e w' ⟨v, S', mr, he, hb, _, _, hr⟩ => ?_
    · cases j with
      | zero => cases ha; exact ⟨_, rfl, RD.nil A 1⟩
      | succ j => simp at ha
    · obtain ⟨⟨vs, h1, h2, _⟩, _⟩ := hr
      obtain rfl := List.eq_nil_of_length_eq_zero h2
      exact ⟨by rw [he, h1], hb⟩
theorem compactC : CompactC Tryz.prog 148 where
  known := ⟨Tryz.f148, Tryz.func148, rfl, by kernel_rfl⟩
  run := fun blk off cap zs w hH hb hl => Any.slices_Compact_int Tryz.laysNm220 blk off cap zs w hH hb hl
  nil := fun A cap w => Any.slices_Compact_int_empty Tryz.laysNm220 A cap w
theorem cloneC : CloneC Tryz.prog 94 3 where
  known := ⟨Tryz.f94, Tryz.func94, rfl, by kernel_rfl⟩
  run := fun b off n c zs w hz hb hc => Any.slices_Clone_int Tryz.laysNm215 b off n c zs w hz hb hc
  nil := fun n c w => Any.slices_Clone_int_nil Tryz.laysNm215 n c w
  zero := fun a c w => Any.slices_Clone_int_zero Tryz.laysNm215 a c w
theorem repC : RepC Tryz.prog 178 3 where
  known := ⟨Tryz.f178, Tryz.func178, rfl, by kernel_rfl⟩
  run := fun b o c w hx hb => Tryz.repeat_walk b o c w hx hb
theorem sortA_nil : evCall Tryz.prog hs (fun _ => none) 8 139 [.d (.list 2 []), .d (.fn 85 [])] = some [] := by kernel_rfl
theorem sort87 (A : Option Addr) (w : World) : Calls Tryz.prog 139 #[.slice A 0 0, .func (.func 85) #[] #[]] w fun e w' => e = .returned (.tuple #[]) ∧ Below w.heap.size w w' := by
  refine ((bare 8).plain 139 _ _ sortA_nil w (fun _ => False) (fun _ => False) #[.slice A 0 0, .func (.func 85) #[] #[]] (fun _ h => h.elim) (fun _ h => h.elim) ⟨rfl, fun j a ha => ?_⟩ trivial).mono fun e w' ⟨v, S', mr, he, hb, _, _, hr⟩ => ?_
  · match j, ha with
    | 0, ha => cases ha; exact ⟨_, rfl, RD.nil A 2⟩
    | 1, ha => cases ha; exact ⟨_, rfl, RD.fn 85 #[] [] (fun _ _ => undef) rfl (fun j xs h => by simp at h) (fun j c x h => by simp [cellD] at h)⟩
    | j + 2, ha => simp at ha
  · obtain ⟨⟨vs, h1, h2, _⟩, _⟩ := hr
    obtain rfl := List.eq_nil_of_length_eq_zero h2
    exact ⟨by rw [he, h1], hb⟩
theorem rowKA {w : World} {S : Nat → Prop} {blk : Nat} {d : Array (HdA w S)} (hH : Go.Sort.HoldsK encA 2 w blk 0 d) (hb : blk < w.heap.size) : Go.Proofs.RowK encA 2 w blk 0 d := ⟨encA_len, encA_one, hH, hb⟩
theorem sizeK {w : World} {S : Nat → Prop} {blk m : Nat} {dk : Array (HdA w S)} {os : Array Obj} : w.heap.size ≤ (Go.Proofs.sortWorldK encA 2 w blk 0 m dk os).heap.size := size_sortWorldK_c encA 2 w blk 0 m dk os
theorem sortAC : SortAC Tryz.prog 139 85 where
  known := ⟨Tryz.f139, Tryz.func139, rfl, by kernel_rfl⟩
  run := fun w S blk cap d hS hn hH hb hsz => AnyQ.slices_SortFunc Tryz.laysSlF06_f139 2 Tryz.isAgg90 Tryz.sizeOf90 encA encA_len encA_one cmpHA swoHA 85 #[] blk 0 cap d w (enters_of Tryz.func85 (by kernel_rfl) rfl)
    (fun m os dk hs x y => Tryz.cmp88 hS (stabS (enc := id) (Go.Sort.flatK encA 2 dk) hS hn) sizeK x y) hH hb hsz
  nil := fun A w => sort87 A w
theorem compAC : CompAC Tryz.prog 140 57 where
  known := ⟨Tryz.f140, Tryz.func140, rfl, by kernel_rfl⟩
  run := fun w S blk cap d hS hn hH hb hsz hcap => (Tryz.compactFacts encA lstA (zeroA w S) rfl 57 blk 0 cap d w (rowKA hH hb) (enters_of Tryz.func57 (by kernel_rfl) rfl)
    (fun m os dk hs x y => Tryz.eq90 hS (stabS (enc := id) (Go.Sort.flatK encA 2 dk) hS hn) sizeK x y) hsz hcap).mono fun e w' ⟨dk, kk, h1, h2, ⟨n, os, h3⟩, h4, h5⟩ => ⟨dk, kk, n, os, h1, h2, h3, h4, h5⟩
  nil := fun A cap w => Tryz.cfa_nil A cap w
theorem some93 : (Tryz.prog.info? 93).isSome = true := by kernel_rfl
theorem cloneZC : CloneZC Tryz.prog 90 93 3 where
  base := {
    known := ⟨Tryz.f90, Tryz.func90, rfl, by kernel_rfl⟩
    pos := by decide
    run := fun b off n c news w hl hn hc h1 => by
      have hmax : (1099511627776 : Nat) ≤ maxLen := by decide
      exact (AnyE.slices_Clone Tryz.laysSlE041_f90 ((Tryz.prog.info? 93).get some93) (.agg #[.string ⟨#[]⟩, .int .i64 0, .bool false]) 3 32 (Option.some_get some93).symm (by kernel_rfl) (by kernel_rfl) (by kernel_rfl) rfl (by decide) Tryz.sizeOf93 b off n c news w hl (by omega) (by omega) hc h1).mono fun e w' ⟨v', k1, k2, _, k3⟩ => ⟨v', k1, k2, k3⟩ }
  nil := fun n c w => AnyE.slices_Clone_nil Tryz.laysSlE041_f90 n c w
  zero := fun a c w => cloneE_zero Tryz.laysSlE041_f90 ((Tryz.prog.info? 93).get some93) (.agg #[.string ⟨#[]⟩, .int .i64 0, .bool false]) 3 32 (Option.some_get some93).symm (by kernel_rfl) (by kernel_rfl) (by kernel_rfl) rfl (by decide) Tryz.sizeOf93 a c w
theorem sound (k : Nat) : Sound Tryz.prog noG (C k) := evCall_ok (drawSound mixed) (okProg ok) (fun _ _ => rfl) (sound_prims (by
  intro x hx
  simp only [List.mem_cons, List.not_mem_nil, or_false] at hx
  rcases hx with rfl | rfl | rfl | rfl | rfl | rfl | rfl
  · exact sortC.ok
  · exact compactC.ok
  · exact cloneC.ok
  · exact repC.ok
  · exact sortAC.ok
  · exact compAC.ok
  · exact cloneZC.ok)) k
end Go.Proofs.YtkkaikcjcjkpbaaGreat.Q

/-! VE3 -/
namespace Go.Proofs.YtkkaikcjcjkpbaaGreat.Q
open Go Ovi Go.ChangeShapes Go.WideShapes Go.ChangeAt Go.RowKit
theorem own : ownKnob Tryz.prog.godebug = none := by kernel_rfl
theorem laidOut : laidOutB Tryz.prog = true := by kernel_rfl
def ty3 : List (Bool × List Ty) := [(true, [.list [.str, .int .i64, .bool], .list [.int .i64, .list [.int .i64]]]), (false, [.list [.list [.int .i64, .list [.int .i64]], .list [.int .i64, .list [.int .i64]], .bool, .int .i64, .int .i64]]), (true, [.list [.str, .int .i64, .bool], .list [.int .i64, .list [.int .i64]], .int .i64, .list [.int .i64, .list [.int .i64]]])]
theorem tys3 : parTys Tryz.prog Tryz.f3.params.toList = some ty3 := by kernel_rfl
theorem readable3 : readable Tryz.prog Tryz.f3.params.toList = true := by kernel_rfl
theorem law_args3 {av : List AV} (h : ArgsFit ty3 av) : C 4000000 3 av = some yes := by
  match av, h with
  | [p0, p1, p2], h =>
    simp only [ty3, ArgsFit, and_true] at h
    obtain ⟨g0, g1, g2⟩ := h
    cases p0 <;> simp only [ArgFit] at g0
    obtain ⟨ds0, rfl, g0⟩ := g0
    obtain ⟨_, _, rfl, e0_0, g0⟩ := Fits.cons g0
    obtain ⟨_, _, rfl, e0_1, g0⟩ := Fits.cons g0
    obtain rfl := Fits.nil g0
    obtain ⟨_, rfl, e0_0⟩ := e0_0.list (n := 3) rfl
    obtain ⟨_, rfl, e0_1⟩ := e0_1.list (n := 2) rfl
    cases p1 <;> simp only [ArgFit] at g1
    obtain ⟨_, rfl, g1⟩ := g1.list (n := 5) rfl
    cases p2 <;> simp only [ArgFit] at g2
    obtain ⟨ds2, rfl, g2⟩ := g2
    obtain ⟨_, _, rfl, e2_0, g2⟩ := Fits.cons g2
    obtain ⟨_, _, rfl, e2_1, g2⟩ := Fits.cons g2
    obtain ⟨_, _, rfl, e2_2, g2⟩ := Fits.cons g2
    obtain ⟨_, _, rfl, e2_3, g2⟩ := Fits.cons g2
    obtain rfl := Fits.nil g2
    obtain ⟨_, rfl, e2_0⟩ := e2_0.list (n := 3) rfl
    obtain ⟨_, rfl, e2_1⟩ := e2_1.list (n := 2) rfl
    obtain ⟨_, rfl, we2_2⟩ := e2_2.int
    obtain ⟨_, rfl, e2_3⟩ := e2_3.list (n := 2) rfl
    exact law3 (Nat.le_refl _) e0_0 e0_1 g1 e2_0 e2_1 e2_3
set_option maxRecDepth 100000 in
theorem lifted3 (os : Os) (started : os.Started) (H : Type) (enc : TypeId × Value → H) :
    ReturnsInHanded {} Tryz.checked os 3 .any (Rows.fnExactIsValidResultSpec.pre6 enc Tryz.prog Tryz.f3 Rows.fnExactIsValidResultRow.domain false) (Rows.fnExactIsValidResultSpec.post enc Tryz.prog Tryz.f3 false true false false) := by
  refine returnsInHanded_of_change (C := Tryz.checked) own started (by kernel_rfl) Tryz.func3
    (ChangeSpec.witness6 (enc := enc) (C := Tryz.checked) false ⟨#[], #[.agg #[.slice none 0 0, .slice none 0 0], .slice none 0 0, .agg #[.slice none 0 0, .slice none 0 0, .int .i64 0, .slice none 0 0]], []⟩ 8 (by kernel_rfl) (by kernel_rfl) (by kernel_rfl) (by kernel_rfl)) ?_
  intro W base args ds gs before hval0 hW hcnd _
  have hval : ∀ (j : Nat) t v, Tryz.f3.params[j]? = some t → args[j]? = some v → Value.okWide Tryz.prog W .any base t v := hval0
  have hW' := hW
  obtain ⟨p, q, hA0, hV, rfl, hfz, hnd⟩ := hW
  have hA : DataW.TrodAll enc Tryz.prog W 0 (fun _ => true) true Tryz.f3.params.toList args.toList ds p := hA0
  obtain ⟨rfl, rfl⟩ := trodVars_none hV
  obtain ⟨av, hfit, hlen, hac⟩ := args_in hA (base := base) (fun j t v h1 h2 => hval j t v (by simpa using h1) (by simpa using h2)) tys3
  refine (calls_yes (sound 4000000) (law_args3 hfit) (vs := args) ⟨by simpa using hlen, fun j a ha => by
    obtain ⟨u, hu, hc⟩ := hac j a ha
    exact ⟨u, by simpa using hu, hc⟩⟩ trivial).mono fun e W' ⟨he, bel⟩ => ?_
  subst he
  have hk := kept_all laidOut bel readable3 hA
  obtain ⟨d0, d1, d2, rfl⟩ : ∃ d0 d1 d2, ds = [d0, d1, d2] := by
    obtain ⟨v0, vs0, d0, ds0, p0, q0, rg0, rfl, rfl, h0, r0⟩ := trodAll_cons hA
    obtain ⟨v1, vs1, d1, ds1, p1, q1, rg1, rfl, rfl, h1, r1⟩ := trodAll_cons r0
    obtain ⟨v2, vs2, d2, ds2, p2, q2, rg2, rfl, rfl, h2, r2⟩ := trodAll_cons r1
    obtain ⟨rfl, rfl, rfl⟩ := trodAll_nil r2
    exact ⟨_, _, _, rfl⟩
  exact ⟨_, rfl, _, _, _, [], _, [], hW', trodAll_mk1 (shut_bool (show Tryz.prog.underlying 4 = some .bool by kernel_rfl) _), hk, rfl, bel.frame _, fun h => by cases h⟩
theorem over3 : Rows.fnExactIsValidResultRow.holds Tryz.pinned (OpenSpec.ofChange Rows.fnExactIsValidResultSpec) :=
  OpenClaim.holds_of_wide 3 Tryz.f3 rfl rfl rfl rfl rfl rfl rfl ⟨rfl, rfl, rfl, rfl, rfl⟩ rfl rfl rfl rfl rfl (by kernel_rfl) Tryz.func3 (by kernel_rfl)
    (of_decide_eq_true (by kernel_rfl)) (by unfold Func.isWrapper; first | (rw [if_pos (by decide +kernel)]; kernel_rfl) | (rw [if_neg (by decide +kernel)]; exact ⟨rfl, rfl⟩))
    (fun os started H enc _ => lifted3 os started H enc)
end Go.Proofs.YtkkaikcjcjkpbaaGreat.Q
namespace Go.Proofs.YtkkaikcjcjkpbaaGreat
theorem fnExactIsValidResult_holds : Rows.FnExactIsValidResultSaid := Q.over3
#print axioms fnExactIsValidResult_holds
end Go.Proofs.YtkkaikcjcjkpbaaGreat

/-
Towards the law: a machine that runs the program's own code on plain data, its soundness, the library by its contracts, and what the functions compute: part 6 (USc). No condition.
-/
import Derived.Test.YthicohakeljdcaaGreatQe
set_option linter.unusedVariables false
set_option linter.unusedSimpArgs false
/-! USc -/
namespace Go.Proofs
open Go Ovi Go.RowKit Go.Shelf
theorem Tryz.cf_nil (A : Option Addr) (w : World) : Calls Tryz.prog 235 #[.slice A 0 0, .func (.func 236) #[] #[]] w fun e w' => e = .returned (.slice A 0 0) ∧ w' = w := by
  go_enter Tryz.func235, Tryz.ntmps235
  go_wp2
  go_ret
  exact ⟨rfl, rfl⟩
theorem Tryz.rs_nil (h : ∀ (A : Option Addr) (w : World), Calls Tryz.prog 234 #[.slice A 0 0, .func (.func 226) #[] #[]] w fun e w' => e = .returned (.tuple #[]) ∧ Below w.heap.size w w') (A : Option Addr) (w : World) : Calls Tryz.prog 181 #[.slice A 0 0] w fun e w' => e = .returned (.slice A 0 0) ∧ Below w.heap.size w w' := by
  have h1 := h A w
  have h2 := Tryz.cf_nil A
  clear h
  go_enter Tryz.func181, Tryz.ntmps181
  go_wp2_with (go_at_call 234; refine h1.mono ?_; rintro e w1 ⟨rfl, hb⟩)
  have H : Hid (Below w.heap.size w w1) := hb
  clear hb h1
  refine (h2 w1).mono ?_
  rintro e w2 ⟨rfl, rfl⟩
  go_wp2
  go_ret
  exact ⟨rfl, H.out⟩
end Go.Proofs
namespace Go.Proofs.YthicohakeljdcaaGreat.Q
open Go Ovi Go.RowKit Go.Proofs
theorem sort_nil : evCall Tryz.prog hs (fun _ => none) 8 215 [.d (.list 1 [])] = some [] := by kernel_rfl
theorem sortC : SortC Tryz.prog 215 where
  known := ⟨Tryz.f215, Tryz.func215, rfl, by kernel_rfl⟩
  run := fun blk off cap zs w hH hb hl => Any.slices_Sort_int Tryz.lays189 blk off cap zs w hH hb hl
  nil := fun A w => by
    refine ((bare 8).plain 215 _ _ sort_nil w (fun _ => False) (fun _ => False) #[.slice A 0 0] (fun _ h => h.elim) (fun _ h => h.elim) ⟨rfl, fun j a ha => ?_⟩ trivial).mono fun e w' ⟨v, S', mr, he, hb, _, _, hr, _⟩ => ?_
    · cases j with
      | zero => cases ha; exact ⟨_, rfl, RD.nil A 1⟩
      | succ j => simp at ha
    · obtain ⟨⟨vs, h1, h2, _⟩, _⟩ := hr
      obtain rfl := List.eq_nil_of_length_eq_zero h2
      exact ⟨by rw [he, h1], hb⟩
theorem compactC : CompactC Tryz.prog 216 where
  known := ⟨Tryz.f216, Tryz.func216, rfl, by kernel_rfl⟩
  run := fun blk off cap zs w hH hb hl => Any.slices_Compact_int Tryz.laysNm220 blk off cap zs w hH hb hl
  nil := fun A cap w => Any.slices_Compact_int_empty Tryz.laysNm220 A cap w
theorem cloneC : CloneC Tryz.prog 192 3 where
  known := ⟨Tryz.f192, Tryz.func192, rfl, by kernel_rfl⟩
  run := fun b off n c zs w hz hb hc => Any.slices_Clone_int Tryz.laysNm215 b off n c zs w hz hb hc
  nil := fun n c w => Any.slices_Clone_int_nil Tryz.laysNm215 n c w
  zero := fun a c w => Any.slices_Clone_int_zero Tryz.laysNm215 a c w
/-- markText -/
theorem ht (w : World) (k : Int) (h0 : 0 ≤ k) (h1 : k ≤ 4611686018427387904) : Calls Tryz.prog 103 #[.int .i64 k] w fun e w' => e = .returned (.string ⟨(mt k).toArray⟩) ∧ Below w.heap.size w w' := by
  have he : C0 3000 103 [.d (.int .i64 k)] = some [(false, [.d (.str (mt k))])] := (show C0 (2999 + 1) 103 [.d (.int .i64 k)] = evFnK P hs (C0 2999) 103 2999 Tryz.f103 [.d (.int .i64 k)] by kernel_rfl).trans (e103 2999 (C0 2999) k h0 h1 (by omega))
  refine ((bare 3000).plain 103 _ _ he w (fun _ => False) (fun _ => False) #[.int .i64 k] (fun _ h => h.elim) (fun _ h => h.elim) ⟨rfl, fun j a ha => ?_⟩ trivial).mono fun e w' ⟨v, S', mr, he, hb, _, _, hr, _⟩ => ?_
  · cases j with
    | zero => cases ha; exact ⟨_, rfl, RD.int .i64 k⟩
    | succ j => simp at ha
  · obtain ⟨⟨us, h1, h2, h3⟩, _⟩ := hr
    obtain ⟨u, hu, hone⟩ := h3 0 _ rfl
    simp only [List.length_cons, List.length_nil] at h2
    obtain ⟨u', rfl⟩ := List.length_eq_one_iff.1 h2
    simp only [List.getElem?_cons_zero, Option.some.injEq] at hu
    subst hu
    obtain ⟨l, hl, hrl⟩ := hone
    cases hl
    have hrl : RD w' S' (fun _ => False) u' (.str (mt k)) := hrl
    refine ⟨?_, hb⟩
    rw [he, h1]
    generalize hX : mt k = X at hrl ⊢
    generalize hY : D.str X = Y at hrl
    cases hrl with
    | str b =>
      cases hY
      simp
    | _ => cases hY
theorem mark17 : PrimOk Tryz.prog noG 17 (markP true (mkAg (stepInst mt))) := markP_ok ⟨Tryz.f17, Tryz.func17, rfl, by kernel_rfl⟩ (AggC.cells (Tryz.mInstance ht) likeInst)
theorem mark30 : PrimOk Tryz.prog noG 30 (markP true (mkAg stepQuery)) := markP_ok ⟨Tryz.f30, Tryz.func30, rfl, by kernel_rfl⟩ (AggC.cells Tryz.mQuery likeQuery)
theorem sortF_nil : evCall Tryz.prog hs (fun _ => none) 8 234 [.d (.list 1 []), .d (.fn 226 [])] = some [] := by kernel_rfl
/-- the comparison's contract, by the walk -/
theorem cmpC : CmpC Tryz.prog 226 := by
  intro w S u v xs ys ⟨A, c, hu, hc, hx⟩ ⟨A', c', hv, hc', hy⟩ hxl hyl
  subst hu hv
  have fin : ∀ {z z' : Int}, z = z' → ∀ {vs : Array Value}, (Calls Tryz.prog 226 vs w fun e w' => e = .returned (.int .i64 z) ∧ w' = w) → Calls Tryz.prog 226 vs w fun e w' => e = .returned (.int .i64 z') ∧ ∃ q os, w' = Go.Sort.grow (w.drewN q) os := by
    intro z z' hz vs h
    subst hz
    exact h.mono fun e w' ⟨h1, h2⟩ => ⟨h1, 0, #[], by rw [h2, Go.Sort.grow_empty]; rfl⟩
  by_cases hx0 : xs = []
  · subst hx0
    refine fin ?_ (Tryz.cmp_nil A A' c ys.length c' w)
    cases ys with
    | nil => rfl
    | cons y ys => rw [if_pos (by simp)]; rfl
  · obtain ⟨b, o, rfl, hx1⟩ := RI_addr hx0 hx
    by_cases hy0 : ys = []
    · subst hy0
      cases xs with
      | nil => exact absurd rfl hx0
      | cons x xs => exact fin rfl (Tryz.cmp_one b o c _ c' A' x w (by simp) (by have := hx1 0 x rfl; simpa using this))
    · obtain ⟨b', o', rfl, hy1⟩ := RI_addr hy0 hy
      exact fin rfl (Tryz.cmp_both b o c b' o' c' xs ys w (by omega) (by omega) hx1 hy1)
theorem sort234 (A : Option Addr) (w : World) : Calls Tryz.prog 234 #[.slice A 0 0, .func (.func 226) #[] #[]] w fun e w' => e = .returned (.tuple #[]) ∧ Below w.heap.size w w' := by
  refine ((bare 8).plain 234 _ _ sortF_nil w (fun _ => False) (fun _ => False) #[.slice A 0 0, .func (.func 226) #[] #[]] (fun _ h => h.elim) (fun _ h => h.elim) ⟨rfl, fun j a ha => ?_⟩ trivial).mono fun e w' ⟨v, S', mr, he, hb, _, _, hr, _⟩ => ?_
  · match j, ha with
    | 0, ha => cases ha; exact ⟨_, rfl, RD.nil A 1⟩
    | 1, ha => cases ha; exact ⟨_, rfl, RD.fn 226 #[] [] (fun _ _ => undef) rfl (fun j xs h => by simp at h) (fun j c x h => by simp [cellD] at h)⟩
    | j + 2, ha => simp at ha
  · obtain ⟨⟨vs, h1, h2, _⟩, _⟩ := hr
    obtain rfl := List.eq_nil_of_length_eq_zero h2
    exact ⟨by rw [he, h1], hb⟩
theorem rsI : RsI Tryz.prog 181 where
  known := ⟨Tryz.f181, Tryz.func181, rfl, by kernel_rfl⟩
  run := fun w S blk cap d hS hn hH hb hsz hcap => Tryz.rowsSet (fun w S blk cap d hS hn hH hb hsz => sortF_run Tryz.laysSlF6_f234 (enters_of Tryz.func226 (by kernel_rfl) rfl) cmpC w S blk cap d hS hn hH hb hsz) w S blk cap d hS hn hH hb hsz hcap
  nil := fun A w => Tryz.rs_nil sort234 A w
theorem repC : RepC Tryz.prog 268 3 where
  known := ⟨Tryz.f268, Tryz.func268, rfl, by kernel_rfl⟩
  run := fun b o c w hx hb => Tryz.repeat_walk b o c w hx hb
theorem mark43 : PrimOk Tryz.prog noG 43 (markP true (mkAg stepIneq)) := markP_ok ⟨Tryz.f43, Tryz.func43, rfl, by kernel_rfl⟩ (AggC.cells Tryz.mIneq likeIneq)
theorem mark34 : PrimOk Tryz.prog noG 34 (markP false (mkLs 1 (mkRows stepInts))) := markP_ok ⟨Tryz.f34, Tryz.func34, rfl, by kernel_rfl⟩ (ListC.cells Tryz.mIntSS fun xs k xs' k' h => mkRows_len h)
theorem sound (k : Nat) : Sound Tryz.prog noG (C k) := evCall_ok (drawSound mixed) (okProg ok) (sound_prims (by
  intro x hx
  simp only [List.mem_cons, List.not_mem_nil, or_false] at hx
  rcases hx with rfl | rfl | rfl | rfl | rfl | rfl | rfl | rfl | rfl | rfl
  · exact sortC.ok
  · exact compactC.ok
  · exact cloneC.ok
  · exact repC.ok
  · exact rsI.ok
  · exact groundOk
  · exact mark17
  · exact mark30
  · exact mark43
  · exact mark34)) k
end Go.Proofs.YthicohakeljdcaaGreat.Q

/-
Towards the law: a machine that runs the program's own code on plain data, its soundness, the library by its contracts, and what the functions compute: part 6 (YSc Sd). No condition.
-/
import Derived.Test.YthicohakeljdcaaGreatQe
import Derived.Test.YthicohakeljdcaaGreatQc
set_option linter.unusedVariables false
set_option linter.unusedSimpArgs false
/-! YSc -/
namespace Go.Proofs.YthicohakeljdcaaGreat.Q
open Go Ovi Go.RowKit Go.Proofs
theorem ok : progOk Tryz.prog = true := by kernel_rfl
theorem mixed : Tryz.prog.follows .mixedOrders = true := by kernel_rfl
theorem bare (k : Nat) : Sound Tryz.prog noG (C0 k) := evCall_ok (drawSound mixed) (okProg ok) (sound_none _ _) k
theorem sort_nil : evCall Tryz.prog hs (fun _ => none) 8 215 [.d (.list 1 [])] = some [] := by kernel_rfl
theorem sortC : SortC Tryz.prog 215 where
  known := ⟨Tryz.f215, Tryz.func215, rfl, by kernel_rfl⟩
  run := fun blk off cap zs w hH hb hl => Any.slices_Sort_int Tryz.lays189 blk off cap zs w hH hb hl
  nil := fun A w => by
    refine ((bare 8).plain 215 _ _ sort_nil w (fun _ => False) (fun _ => False) #[.slice A 0 0] (fun _ h => h.elim) (fun _ h => h.elim) ⟨rfl, fun j a ha => ?_⟩ trivial).mono fun e w' ⟨v, S', mr, he, hb, _, _, hr, _⟩ => ?_
    · cases j with
      | zero => cases ha; exact ⟨_, rfl, RD.nil A 1⟩
      | succ j => simp at ha
    · obtain ⟨⟨vs, h1, h2, _⟩, _⟩ := hr
      obtain rfl := List.eq_nil_of_length_eq_zero h2
      exact ⟨by rw [he, h1], hb⟩
theorem compactC : CompactC Tryz.prog 216 where
  known := ⟨Tryz.f216, Tryz.func216, rfl, by kernel_rfl⟩
  run := fun blk off cap zs w hH hb hl => Any.slices_Compact_int Tryz.laysNm220 blk off cap zs w hH hb hl
  nil := fun A cap w => Any.slices_Compact_int_empty Tryz.laysNm220 A cap w
theorem cloneC : CloneC Tryz.prog 192 3 where
  known := ⟨Tryz.f192, Tryz.func192, rfl, by kernel_rfl⟩
  run := fun b off n c zs w hz hb hc => Any.slices_Clone_int Tryz.laysNm215 b off n c zs w hz hb hc
  nil := fun n c w => Any.slices_Clone_int_nil Tryz.laysNm215 n c w
  zero := fun a c w => Any.slices_Clone_int_zero Tryz.laysNm215 a c w
theorem some133 : (Tryz.prog.info? 133).isSome = true := by kernel_rfl
theorem cloneZC : CloneZC Tryz.prog 166 133 3 where
  base := {
    known := ⟨Tryz.f166, Tryz.func166, rfl, by kernel_rfl⟩
    pos := by decide
    run := fun b off n c news w hl hn hc h1 => by
      have hmax : (1099511627776 : Nat) ≤ maxLen := by decide
      exact (AnyE.slices_Clone Tryz.laysSlE041_f166 ((Tryz.prog.info? 133).get some133) (.agg #[.string ⟨#[]⟩, .int .i64 0, .bool false]) 3 32 (Option.some_get some133).symm (by kernel_rfl) (by kernel_rfl) (by kernel_rfl) rfl (by decide) Tryz.sizeOf133 b off n c news w hl (by omega) (by omega) hc h1).mono fun ex w' ⟨v', q1, q2, _, q3⟩ => ⟨v', q1, q2, q3⟩}
  nil := fun n c w => AnyE.slices_Clone_nil Tryz.laysSlE041_f166 n c w
  zero := fun a c w => cloneE_zero Tryz.laysSlE041_f166 ((Tryz.prog.info? 133).get some133) (.agg #[.string ⟨#[]⟩, .int .i64 0, .bool false]) 3 32 (Option.some_get some133).symm (by kernel_rfl) (by kernel_rfl) (by kernel_rfl) rfl (by decide) Tryz.sizeOf133 a c w
/-- markText -/
theorem ht (w : World) (k : Int) (h0 : 0 ≤ k) (h1 : k ≤ 4611686018427387904) : Calls Tryz.prog 103 #[.int .i64 k] w fun e w' => e = .returned (.string ⟨(mt k).toArray⟩) ∧ Below w.heap.size w w' := by
  have he : C0 3000 103 [.d (.int .i64 k)] = some [(false, [.d (.str (mt k))])] := (show C0 (2999 + 1) 103 [.d (.int .i64 k)] = evFnK P hs (C0 2999) 103 2999 Tryz.f103 [.d (.int .i64 k)] by kernel_rfl).trans (e103 2999 (C0 2999) k h0 h1 (by omega))
  refine ((bare 3000).plain 103 _ _ he w (fun _ => False) (fun _ => False) #[.int .i64 k] (fun _ h => h.elim) (fun _ h => h.elim) ⟨rfl, fun j a ha => ?_⟩ trivial).mono fun e w' ⟨v, S', mr, he, hb, _, _, hr, _⟩ => ?_
  · cases j with
    | zero => cases ha; exact ⟨_, rfl, RD.int .i64 k⟩
    | succ j => simp at ha
  · obtain ⟨⟨us, h1, h2, h3⟩, _⟩ := hr
    obtain ⟨u, hu, hone⟩ := h3 0 _ rfl
    simp only [List.length_cons, List.length_nil] at h2
    obtain ⟨u', rfl⟩ := List.length_eq_one_iff.1 h2
    simp only [List.getElem?_cons_zero, Option.some.injEq] at hu
    subst hu
    obtain ⟨l, hl, hrl⟩ := hone
    cases hl
    have hrl : RD w' S' (fun _ => False) u' (.str (mt k)) := hrl
    refine ⟨?_, hb⟩
    rw [he, h1]
    generalize hX : mt k = X at hrl ⊢
    generalize hY : D.str X = Y at hrl
    cases hrl with
    | str b =>
      cases hY
      simp
    | _ => cases hY
theorem mark17 : PrimOk Tryz.prog noG 17 (markP true (mkAg (stepInst mt))) := markP_ok ⟨Tryz.f17, Tryz.func17, rfl, by kernel_rfl⟩ (AggC.cells (Tryz.mInstance ht) likeInst)
theorem sortA_nil : evCall Tryz.prog hs (fun _ => none) 8 168 [.d (.list 2 []), .d (.fn 169 [])] = some [] := by kernel_rfl
theorem sort87 (A : Option Addr) (w : World) : Calls Tryz.prog 168 #[.slice A 0 0, .func (.func 169) #[] #[]] w fun e w' => e = .returned (.tuple #[]) ∧ Below w.heap.size w w' := by
  refine ((bare 8).plain 168 _ _ sortA_nil w (fun _ => False) (fun _ => False) #[.slice A 0 0, .func (.func 169) #[] #[]] (fun _ h => h.elim) (fun _ h => h.elim) ⟨rfl, fun j a ha => ?_⟩ trivial).mono fun e w' ⟨v, S', mr, he, hb, _, _, hr, _⟩ => ?_
  · match j, ha with
    | 0, ha => cases ha; exact ⟨_, rfl, RD.nil A 2⟩
    | 1, ha => cases ha; exact ⟨_, rfl, RD.fn 169 #[] [] (fun _ _ => undef) rfl (fun j xs h => by simp at h) (fun j c x h => by simp [cellD] at h)⟩
    | j + 2, ha => simp at ha
  · obtain ⟨⟨vs, h1, h2, _⟩, _⟩ := hr
    obtain rfl := List.eq_nil_of_length_eq_zero h2
    exact ⟨by rw [he, h1], hb⟩
theorem rowKA {w : World} {S : Nat → Prop} {blk : Nat} {d : Array (HdA w S)} (hH : Go.Sort.HoldsK encA 2 w blk 0 d) (hb : blk < w.heap.size) : Go.Proofs.RowK encA 2 w blk 0 d := ⟨encA_len, encA_one, hH, hb⟩
theorem sizeK {w : World} {S : Nat → Prop} {blk m : Nat} {dk : Array (HdA w S)} {os : Array Obj} : w.heap.size ≤ (Go.Proofs.sortWorldK encA 2 w blk 0 m dk os).heap.size := size_sortWorldK_c encA 2 w blk 0 m dk os
theorem sortAC : SortAC Tryz.prog 168 169 where
  known := ⟨Tryz.f168, Tryz.func168, rfl, by kernel_rfl⟩
  run := fun w S blk cap d hS hn hH hb hsz => AnyQ.slices_SortFunc Tryz.laysSlF06_f168 2 Tryz.isAgg118 Tryz.sizeOf118 encA encA_len encA_one cmpHA swoHA 169 #[] blk 0 cap d w (enters_of Tryz.func169 (by kernel_rfl) rfl)
    (fun m os dk hs x y => Tryz.cmp88 hS (stabS (enc := id) (Go.Sort.flatK encA 2 dk) hS hn) sizeK x y) hH hb hsz
  nil := fun A w => sort87 A w
theorem compAI : CompAI Tryz.prog 170 171 where
  known := ⟨Tryz.f170, Tryz.func170, rfl, by kernel_rfl⟩
  run := fun w S blk cap d hS hn hH hb hsz hcap => by
    have hix : (ixs d).map (decX (zeroA w S) d) = d := ixs_dec _ _
    have hH' : Go.Sort.HoldsK (fun x => encA (decX (zeroA w S) d x)) 2 w blk 0 (ixs d) := by
      unfold Go.Sort.HoldsK at hH ⊢
      rw [flatK_dec, hix]
      exact hH
    have hc := Tryz.compactFacts (fun x => encA (decX (zeroA w S) d x)) (fun x => lstA (decX (zeroA w S) d x)) none rfl 171 blk 0 cap (ixs d) w ⟨fun x => encA_len _, fun x => encA_one _, hH', hb⟩ (enters_of Tryz.func171 (by kernel_rfl) rfl)
      (fun m os dk hs x y => by
        rw [sortWorldK_dec]
        exact Tryz.eq90 hS (stabS (enc := id) (Go.Sort.flatK encA 2 (dk.map (decX (zeroA w S) d))) hS hn) sizeK (decX (zeroA w S) d x) (decX (zeroA w S) d y)) (by rw [ixs_size]; exact hsz) (by rw [ixs_size]; exact hcap)
    rw [ixs_size] at hc
    refine hc.mono fun e w' ⟨dk, kk, h1, h2, ⟨n, os, h3⟩, h4, h5⟩ => ⟨dk.map (decX (zeroA w S) d), kk, n, os, h1, by rw [Array.size_map, h2, ixs_size], by rw [h3, sortWorldK_dec], by rw [ixs_size] at h4; exact h4, ?_, fun h hh => ?_⟩
    · rw [← dec_take, h5, dec_all]
    · rcases dec_mem (zeroA w S) d dk h hh with hm | rfl
      · exact .inl hm
      · exact .inr rfl
  nil := fun A cap w => Tryz.cfa_nil A cap w
theorem mark29 : PrimOk Tryz.prog noG 29 (markP false (mkLs 3 (mkRows (stepRel mt)))) := markP_ok ⟨Tryz.f29, Tryz.func29, rfl, by kernel_rfl⟩ (ListC.cells (Tryz.mRelationS ht) fun xs k xs' k' h => mkRows_len h)
theorem mark30 : PrimOk Tryz.prog noG 30 (markP true (mkAg stepQuery)) := markP_ok ⟨Tryz.f30, Tryz.func30, rfl, by kernel_rfl⟩ (AggC.cells Tryz.mQuery likeQuery)
theorem sound (k : Nat) : Sound Tryz.prog noG (C k) := evCall_ok (drawSound mixed) (okProg ok) (sound_prims (by
  intro x hx
  simp only [List.mem_cons, List.not_mem_nil, or_false] at hx
  rcases hx with rfl | rfl | rfl | rfl | rfl | rfl | rfl | rfl | rfl
  · exact sortC.ok
  · exact compactC.ok
  · exact cloneC.ok
  · exact cloneZC.ok
  · exact sortAC.okG
  · exact compAI.ok
  · exact mark17
  · exact mark29
  · exact mark30)) k
end Go.Proofs.YthicohakeljdcaaGreat.Q

/-! Sd -/
namespace Ovi
open Go Go.RowKit
/-! ### A law's own arguments, as seeds -/
def seedL : AV → AV
  | .d (.list sz l) => .s sz l
  | a => a
def seedA : AV → AV
  | .agg l => .agg (l.map seedL)
  | a => seedL a
section
variable {w : World} {hp : Hp} {m : MapM}
theorem leaf_seed {u : Value} {a : AV} (h : leafC w (Here w) (Here w) hp m u a) : leafC w (Here w) (Here w) hp m u (seedL a) := by
  cases a with
  | d x =>
    cases x with
    | list sz l => exact ⟨h, fun _ h => h, h⟩
    | _ => exact h
  | _ => exact h
theorem AC_seed {u : Value} {a : AV} (h : AC w (Here w) (Here w) hp m u a) : AC w (Here w) (Here w) hp m u (seedA a) := by
  cases a with
  | agg l =>
    obtain ⟨vs, h1, h2, h3⟩ := h
    refine ⟨vs, h1, by simp [h2], fun j a ha => ?_⟩
    rw [List.getElem?_map] at ha
    obtain ⟨b, hb, rfl⟩ := Option.map_eq_some_iff.1 ha
    obtain ⟨v, hv, hl⟩ := h3 j b hb
    exact ⟨v, hv, leaf_seed hl⟩
  | d x =>
    cases x with
    | list sz l => exact ⟨h, fun _ h => h, h⟩
    | _ => exact h
  | _ => exact h
end
end Ovi

/-
For every list of relations and every query the law FnExactCanonicalInstance returns true, and the arguments read afterwards as they read before. No condition.
-/
import Derived.Test.YthicohakeljdcaaGreatQe
import Derived.Test.YthicohakeljdcaaGreatQc
import Derived.Test.YthicohakeljdcaaGreatRows
set_option linter.unusedVariables false
set_option linter.unusedSimpArgs false
/-! YSc -/
namespace Go.Proofs.YthicohakeljdcaaGreat.Q
open Go Ovi Go.RowKit Go.Proofs
theorem ok : progOk Tryz.prog = true := by kernel_rfl
theorem mixed : Tryz.prog.follows .mixedOrders = true := by kernel_rfl
theorem bare (k : Nat) : Sound Tryz.prog noG (C0 k) := evCall_ok (drawSound mixed) (okProg ok) (sound_none _ _) k
theorem sort_nil : evCall Tryz.prog hs (fun _ => none) 8 215 [.d (.list 1 [])] = some [] := by kernel_rfl
theorem sortC : SortC Tryz.prog 215 where
  known := ⟨Tryz.f215, Tryz.func215, rfl, by kernel_rfl⟩
  run := fun blk off cap zs w hH hb hl => Any.slices_Sort_int Tryz.lays189 blk off cap zs w hH hb hl
  nil := fun A w => by
    refine ((bare 8).plain 215 _ _ sort_nil w (fun _ => False) (fun _ => False) #[.slice A 0 0] (fun _ h => h.elim) (fun _ h => h.elim) ⟨rfl, fun j a ha => ?_⟩ trivial).mono fun e w' ⟨v, S', mr, he, hb, _, _, hr, _⟩ => ?_
    · cases j with
      | zero => cases ha; exact ⟨_, rfl, RD.nil A 1⟩
      | succ j => simp at ha
    · obtain ⟨⟨vs, h1, h2, _⟩, _⟩ := hr
      obtain rfl := List.eq_nil_of_length_eq_zero h2
      exact ⟨by rw [he, h1], hb⟩
theorem compactC : CompactC Tryz.prog 216 where
  known := ⟨Tryz.f216, Tryz.func216, rfl, by kernel_rfl⟩
  run := fun blk off cap zs w hH hb hl => Any.slices_Compact_int Tryz.laysNm220 blk off cap zs w hH hb hl
  nil := fun A cap w => Any.slices_Compact_int_empty Tryz.laysNm220 A cap w
theorem cloneC : CloneC Tryz.prog 192 3 where
  known := ⟨Tryz.f192, Tryz.func192, rfl, by kernel_rfl⟩
  run := fun b off n c zs w hz hb hc => Any.slices_Clone_int Tryz.laysNm215 b off n c zs w hz hb hc
  nil := fun n c w => Any.slices_Clone_int_nil Tryz.laysNm215 n c w
  zero := fun a c w => Any.slices_Clone_int_zero Tryz.laysNm215 a c w
theorem some133 : (Tryz.prog.info? 133).isSome = true := by kernel_rfl
theorem cloneZC : CloneZC Tryz.prog 166 133 3 where
  base := {
    known := ⟨Tryz.f166, Tryz.func166, rfl, by kernel_rfl⟩
    pos := by decide
    run := fun b off n c news w hl hn hc h1 => by
      have hmax : (1099511627776 : Nat) ≤ maxLen := by decide
      exact (AnyE.slices_Clone Tryz.laysSlE041_f166 ((Tryz.prog.info? 133).get some133) (.agg #[.string ⟨#[]⟩, .int .i64 0, .bool false]) 3 32 (Option.some_get some133).symm (by kernel_rfl) (by kernel_rfl) (by kernel_rfl) rfl (by decide) Tryz.sizeOf133 b off n c news w hl (by omega) (by omega) hc h1).mono fun ex w' ⟨v', q1, q2, _, q3⟩ => ⟨v', q1, q2, q3⟩}
  nil := fun n c w => AnyE.slices_Clone_nil Tryz.laysSlE041_f166 n c w
  zero := fun a c w => cloneE_zero Tryz.laysSlE041_f166 ((Tryz.prog.info? 133).get some133) (.agg #[.string ⟨#[]⟩, .int .i64 0, .bool false]) 3 32 (Option.some_get some133).symm (by kernel_rfl) (by kernel_rfl) (by kernel_rfl) rfl (by decide) Tryz.sizeOf133 a c w
/-- markText -/
theorem ht (w : World) (k : Int) (h0 : 0 ≤ k) (h1 : k ≤ 4611686018427387904) : Calls Tryz.prog 103 #[.int .i64 k] w fun e w' => e = .returned (.string ⟨(mt k).toArray⟩) ∧ Below w.heap.size w w' := by
  have he : C0 3000 103 [.d (.int .i64 k)] = some [(false, [.d (.str (mt k))])] := (show C0 (2999 + 1) 103 [.d (.int .i64 k)] = evFnK P hs (C0 2999) 103 2999 Tryz.f103 [.d (.int .i64 k)] by kernel_rfl).trans (e103 2999 (C0 2999) k h0 h1 (by omega))
  refine ((bare 3000).plain 103 _ _ he w (fun _ => False) (fun _ => False) #[.int .i64 k] (fun _ h => h.elim) (fun _ h => h.elim) ⟨rfl, fun j a ha => ?_⟩ trivial).mono fun e w' ⟨v, S', mr, he, hb, _, _, hr, _⟩ => ?_
  · cases j with
    | zero => cases ha; exact ⟨_, rfl, RD.int .i64 k⟩
    | succ j => simp at ha
  · obtain ⟨⟨us, h1, h2, h3⟩, _⟩ := hr
    obtain ⟨u, hu, hone⟩ := h3 0 _ rfl
    simp only [List.length_cons, List.length_nil] at h2
    obtain ⟨u', rfl⟩ := List.length_eq_one_iff.1 h2
    simp only [List.getElem?_cons_zero, Option.some.injEq] at hu
    subst hu
    obtain ⟨l, hl, hrl⟩ := hone
    cases hl
    have hrl : RD w' S' (fun _ => False) u' (.str (mt k)) := hrl
    refine ⟨?_, hb⟩
    rw [he, h1]
    generalize hX : mt k = X at hrl ⊢
    generalize hY : D.str X = Y at hrl
    cases hrl with
    | str b =>
      cases hY
      simp
    | _ => cases hY
theorem mark17 : PrimOk Tryz.prog noG 17 (markP true (mkAg (stepInst mt))) := markP_ok ⟨Tryz.f17, Tryz.func17, rfl, by kernel_rfl⟩ (AggC.cells (Tryz.mInstance ht) likeInst)
theorem sortA_nil : evCall Tryz.prog hs (fun _ => none) 8 168 [.d (.list 2 []), .d (.fn 169 [])] = some [] := by kernel_rfl
theorem sort87 (A : Option Addr) (w : World) : Calls Tryz.prog 168 #[.slice A 0 0, .func (.func 169) #[] #[]] w fun e w' => e = .returned (.tuple #[]) ∧ Below w.heap.size w w' := by
  refine ((bare 8).plain 168 _ _ sortA_nil w (fun _ => False) (fun _ => False) #[.slice A 0 0, .func (.func 169) #[] #[]] (fun _ h => h.elim) (fun _ h => h.elim) ⟨rfl, fun j a ha => ?_⟩ trivial).mono fun e w' ⟨v, S', mr, he, hb, _, _, hr, _⟩ => ?_
  · match j, ha with
    | 0, ha => cases ha; exact ⟨_, rfl, RD.nil A 2⟩
    | 1, ha => cases ha; exact ⟨_, rfl, RD.fn 169 #[] [] (fun _ _ => undef) rfl (fun j xs h => by simp at h) (fun j c x h => by simp [cellD] at h)⟩
    | j + 2, ha => simp at ha
  · obtain ⟨⟨vs, h1, h2, _⟩, _⟩ := hr
    obtain rfl := List.eq_nil_of_length_eq_zero h2
    exact ⟨by rw [he, h1], hb⟩
theorem rowKA {w : World} {S : Nat → Prop} {blk : Nat} {d : Array (HdA w S)} (hH : Go.Sort.HoldsK encA 2 w blk 0 d) (hb : blk < w.heap.size) : Go.Proofs.RowK encA 2 w blk 0 d := ⟨encA_len, encA_one, hH, hb⟩
theorem sizeK {w : World} {S : Nat → Prop} {blk m : Nat} {dk : Array (HdA w S)} {os : Array Obj} : w.heap.size ≤ (Go.Proofs.sortWorldK encA 2 w blk 0 m dk os).heap.size := size_sortWorldK_c encA 2 w blk 0 m dk os
theorem sortAC : SortAC Tryz.prog 168 169 where
  known := ⟨Tryz.f168, Tryz.func168, rfl, by kernel_rfl⟩
  run := fun w S blk cap d hS hn hH hb hsz => AnyQ.slices_SortFunc Tryz.laysSlF06_f168 2 Tryz.isAgg118 Tryz.sizeOf118 encA encA_len encA_one cmpHA swoHA 169 #[] blk 0 cap d w (enters_of Tryz.func169 (by kernel_rfl) rfl)
    (fun m os dk hs x y => Tryz.cmp88 hS (stabS (enc := id) (Go.Sort.flatK encA 2 dk) hS hn) sizeK x y) hH hb hsz
  nil := fun A w => sort87 A w
theorem compAI : CompAI Tryz.prog 170 171 where
  known := ⟨Tryz.f170, Tryz.func170, rfl, by kernel_rfl⟩
  run := fun w S blk cap d hS hn hH hb hsz hcap => by
    have hix : (ixs d).map (decX (zeroA w S) d) = d := ixs_dec _ _
    have hH' : Go.Sort.HoldsK (fun x => encA (decX (zeroA w S) d x)) 2 w blk 0 (ixs d) := by
      unfold Go.Sort.HoldsK at hH ⊢
      rw [flatK_dec, hix]
      exact hH
    have hc := Tryz.compactFacts (fun x => encA (decX (zeroA w S) d x)) (fun x => lstA (decX (zeroA w S) d x)) none rfl 171 blk 0 cap (ixs d) w ⟨fun x => encA_len _, fun x => encA_one _, hH', hb⟩ (enters_of Tryz.func171 (by kernel_rfl) rfl)
      (fun m os dk hs x y => by
        rw [sortWorldK_dec]
        exact Tryz.eq90 hS (stabS (enc := id) (Go.Sort.flatK encA 2 (dk.map (decX (zeroA w S) d))) hS hn) sizeK (decX (zeroA w S) d x) (decX (zeroA w S) d y)) (by rw [ixs_size]; exact hsz) (by rw [ixs_size]; exact hcap)
    rw [ixs_size] at hc
    refine hc.mono fun e w' ⟨dk, kk, h1, h2, ⟨n, os, h3⟩, h4, h5⟩ => ⟨dk.map (decX (zeroA w S) d), kk, n, os, h1, by rw [Array.size_map, h2, ixs_size], by rw [h3, sortWorldK_dec], by rw [ixs_size] at h4; exact h4, ?_, fun h hh => ?_⟩
    · rw [← dec_take, h5, dec_all]
    · rcases dec_mem (zeroA w S) d dk h hh with hm | rfl
      · exact .inl hm
      · exact .inr rfl
  nil := fun A cap w => Tryz.cfa_nil A cap w
theorem mark29 : PrimOk Tryz.prog noG 29 (markP false (mkLs 3 (mkRows (stepRel mt)))) := markP_ok ⟨Tryz.f29, Tryz.func29, rfl, by kernel_rfl⟩ (ListC.cells (Tryz.mRelationS ht) fun xs k xs' k' h => mkRows_len h)
theorem mark30 : PrimOk Tryz.prog noG 30 (markP true (mkAg stepQuery)) := markP_ok ⟨Tryz.f30, Tryz.func30, rfl, by kernel_rfl⟩ (AggC.cells Tryz.mQuery likeQuery)
theorem sound (k : Nat) : Sound Tryz.prog noG (C k) := evCall_ok (drawSound mixed) (okProg ok) (sound_prims (by
  intro x hx
  simp only [List.mem_cons, List.not_mem_nil, or_false] at hx
  rcases hx with rfl | rfl | rfl | rfl | rfl | rfl | rfl | rfl | rfl
  · exact sortC.ok
  · exact compactC.ok
  · exact cloneC.ok
  · exact cloneZC.ok
  · exact sortAC.okG
  · exact compAI.ok
  · exact mark17
  · exact mark29
  · exact mark30)) k
end Go.Proofs.YthicohakeljdcaaGreat.Q

/-! Sd -/
namespace Ovi
open Go Go.RowKit
/-! ### A law's own arguments, as seeds -/
def seedL : AV → AV
  | .d (.list sz l) => .s sz l
  | a => a
def seedA : AV → AV
  | .agg l => .agg (l.map seedL)
  | a => seedL a
section
variable {w : World} {hp : Hp} {m : MapM}
theorem leaf_seed {u : Value} {a : AV} (h : leafC w (Here w) (Here w) hp m u a) : leafC w (Here w) (Here w) hp m u (seedL a) := by
  cases a with
  | d x =>
    cases x with
    | list sz l => exact ⟨h, fun _ h => h, h⟩
    | _ => exact h
  | _ => exact h
theorem AC_seed {u : Value} {a : AV} (h : AC w (Here w) (Here w) hp m u a) : AC w (Here w) (Here w) hp m u (seedA a) := by
  cases a with
  | agg l =>
    obtain ⟨vs, h1, h2, h3⟩ := h
    refine ⟨vs, h1, by simp [h2], fun j a ha => ?_⟩
    rw [List.getElem?_map] at ha
    obtain ⟨b, hb, rfl⟩ := Option.map_eq_some_iff.1 ha
    obtain ⟨v, hv, hl⟩ := h3 j b hb
    exact ⟨v, hv, leaf_seed hl⟩
  | d x =>
    cases x with
    | list sz l => exact ⟨h, fun _ h => h, h⟩
    | _ => exact h
  | _ => exact h
end
end Ovi

/-! YE5 -/
namespace Go.Proofs.YthicohakeljdcaaGreat.Q
open Go Ovi Go.ChangeShapes Go.WideShapes Go.ChangeAt Go.RowKit
theorem own : ownKnob Tryz.prog.godebug = none := by kernel_rfl
theorem laidOut : laidOutB Tryz.prog = true := by kernel_rfl
def ty5 : List (Bool × List Ty) := [(false, [.list [.str, .int .i64, .bool]]), (true, [.list [.int .i64], .list [.int .i64, .list [.int .i64]]])]
theorem tys5 : parTys Tryz.prog Tryz.f5.params.toList = some ty5 := by kernel_rfl
theorem readable5 : readable Tryz.prog Tryz.f5.params.toList = true := by kernel_rfl
theorem law_args5 {av : List AV} (h : ArgsFit ty5 av) : C 3000000 5 (av.map seedA) = some yes := by
  match av, h with
  | [p0, p1], h =>
    simp only [ty5, ArgsFit, and_true] at h
    obtain ⟨g0, g1⟩ := h
    cases p0 <;> simp only [ArgFit] at g0
    obtain ⟨_, rfl, g0⟩ := g0.list (n := 3) rfl
    cases p1 <;> simp only [ArgFit] at g1
    obtain ⟨ds1, rfl, g1⟩ := g1
    obtain ⟨_, _, rfl, e1_0, g1⟩ := Fits.cons g1
    obtain ⟨_, _, rfl, e1_1, g1⟩ := Fits.cons g1
    obtain rfl := Fits.nil g1
    obtain ⟨_, rfl, e1_0⟩ := e1_0.list (n := 1) rfl
    obtain ⟨_, rfl, e1_1⟩ := e1_1.list (n := 2) rfl
    refine Eq.trans ?_ (show bo true = some yes from rfl)
    simpa only [asD, List.map_cons, List.map_nil, seedA, seedL] using law5 (Nat.le_refl _) g0 e1_0 e1_1
set_option maxRecDepth 100000 in
theorem lifted5 (os : Os) (started : os.Started) (H : Type) (enc : TypeId × Value → H) :
    ReturnsInHanded {} Tryz.checked os 5 .any (Rows.fnExactCanonicalInstanceSpec.pre6 enc Tryz.prog Tryz.f5 Rows.fnExactCanonicalInstanceRow.domain false) (Rows.fnExactCanonicalInstanceSpec.post enc Tryz.prog Tryz.f5 false true false false) := by
  refine returnsInHanded_of_change (C := Tryz.checked) own started (by kernel_rfl) Tryz.func5
    (ChangeSpec.witness6 (enc := enc) (C := Tryz.checked) false ⟨#[], #[.slice none 0 0, .agg #[.slice none 0 0, .slice none 0 0]], []⟩ 8 (by kernel_rfl) (by kernel_rfl) (by kernel_rfl) (by kernel_rfl)) ?_
  intro W base args ds gs before hval0 hW hcnd _
  have hval : ∀ (j : Nat) t v, Tryz.f5.params[j]? = some t → args[j]? = some v → Value.okWide Tryz.prog W .any base t v := hval0
  have hW' := hW
  obtain ⟨p, q, hA0, hV, rfl, hfz, hnd⟩ := hW
  have hA : DataW.TrodAll enc Tryz.prog W 0 (fun _ => true) true Tryz.f5.params.toList args.toList ds p := hA0
  obtain ⟨rfl, rfl⟩ := trodVars_none hV
  obtain ⟨av, hfit, hlen, hac⟩ := args_in hA (base := base) (fun j t v h1 h2 => hval j t v (by simpa using h1) (by simpa using h2)) tys5
  refine (calls_yes (sound 3000000) (law_args5 hfit) (vs := args) ⟨by simpa using hlen, fun j a ha => by
    rw [List.getElem?_map] at ha
    obtain ⟨b, hb, rfl⟩ := Option.map_eq_some_iff.1 ha
    obtain ⟨u, hu, hc⟩ := hac j b hb
    exact ⟨u, by simpa using hu, AC_seed hc⟩⟩ trivial).mono fun e W' ⟨he, bel⟩ => ?_
  subst he
  have hk := kept_all laidOut bel readable5 hA
  obtain ⟨d0, d1, rfl⟩ : ∃ d0 d1, ds = [d0, d1] := by
    obtain ⟨v0, vs0, d0, ds0, p0, q0, rg0, rfl, rfl, h0, r0⟩ := trodAll_cons hA
    obtain ⟨v1, vs1, d1, ds1, p1, q1, rg1, rfl, rfl, h1, r1⟩ := trodAll_cons r0
    obtain ⟨rfl, rfl, rfl⟩ := trodAll_nil r1
    exact ⟨_, _, rfl⟩
  exact ⟨_, rfl, _, _, _, [], _, [], hW', trodAll_mk1 (shut_bool (show Tryz.prog.underlying 4 = some .bool by kernel_rfl) _), hk, rfl, bel.frame _, fun h => by cases h⟩
theorem andI {a b : Bool} (h1 : a = true) (h2 : b = true) : (a && b) = true := by rw [h1, h2]; rfl
theorem jf5_0 : (Rows.fnExactCanonicalInstanceRow.wf (OpenSpec.ofChange Rows.fnExactCanonicalInstanceSpec)) = true := by kernel_rfl
theorem jf5_1 : (laidOutB Tryz.prog) = true := by kernel_rfl
theorem jf5_2 : (mapsRowed Tryz.prog) = true := by kernel_rfl
theorem jf5_3 : (Tryz.f5.params.all (Tryz.prog.readableRec ·)) = true := by kernel_rfl
theorem jf5_4 : (namedTie Tryz.prog Rows.fnExactCanonicalInstanceRow.named Rows.fnExactCanonicalInstanceSpec.vars) = true := by kernel_rfl
theorem jf5_5 : ((Rows.fnExactCanonicalInstanceRow.stops == [])) = true := by kernel_rfl
theorem jf5_6 : ((Tryz.prog.stops == [])) = true := by kernel_rfl
theorem jf5_7 : ((Rows.fnExactCanonicalInstanceRow.knobs == [])) = true := by kernel_rfl
theorem jf5_8 : ((Tryz.prog.stopKnobs == [])) = true := by kernel_rfl
theorem jf5_9 : ((Rows.fnExactCanonicalInstanceRow.inPlace == Tryz.prog.inPlace 5)) = true := by kernel_rfl
theorem jf5_10 : ((Rows.fnExactCanonicalInstanceRow.unfollowed == Tryz.prog.unfollowed 5)) = true := by kernel_rfl
theorem jf5_11 : ((Rows.fnExactCanonicalInstanceRow.recurses == Tryz.prog.recurses 5)) = true := by kernel_rfl
theorem jf5_12 : ((Rows.fnExactCanonicalInstanceRow.named == Tryz.prog.varsNamed 5)) = true := by kernel_rfl
theorem jf5_13 : ((Rows.fnExactCanonicalInstanceRow.maps == (Tryz.f5.params.toList ++ Rows.fnExactCanonicalInstanceSpec.plain.varTypes Tryz.prog).any (Tryz.prog.mapsRec ·))) = true := by kernel_rfl
theorem jf5_14 : ((Rows.fnExactCanonicalInstanceRow.ifaces == (Tryz.f5.params.toList ++ Rows.fnExactCanonicalInstanceSpec.plain.varTypes Tryz.prog).any (Tryz.prog.ifacesRec ·))) = true := by kernel_rfl
theorem jf5_15 : ((Rows.fnExactCanonicalInstanceRow.mapsOut == Tryz.prog.mapsAmong Tryz.f5.resultTypes.toList)) = true := by kernel_rfl
theorem jf5_16 : ((Rows.fnExactCanonicalInstanceRow.loops == (Tryz.f5.params.toList ++ Rows.fnExactCanonicalInstanceSpec.plain.varTypes Tryz.prog).any (Tryz.prog.loopsFrom ·))) = true := by kernel_rfl
theorem jf5_17 : ((Rows.fnExactCanonicalInstanceRow.wideKeys == (Tryz.f5.params.toList ++ Rows.fnExactCanonicalInstanceSpec.plain.varTypes Tryz.prog ++ Tryz.f5.resultTypes.toList).any (Tryz.prog.wideKeysFrom ·))) = true := by kernel_rfl
theorem jf5_18 : (Rows.fnExactCanonicalInstanceSpec.vars.all (Tryz.prog.varReadable ·)) = true := by kernel_rfl
theorem jf5_19 : (Tryz.f5.resultTypes.all (fun t => Tryz.prog.readableRec t && decide (t < Tryz.prog.types.size))) = true := by kernel_rfl
theorem jf5_20 : ((Rows.fnExactCanonicalInstanceRow.ifacesOut == Tryz.f5.resultTypes.toList.any (Tryz.prog.ifacesRec ·))) = true := by kernel_rfl
theorem jf5_21 : ((Rows.fnExactCanonicalInstanceRow.loopsOut == Tryz.f5.resultTypes.toList.any (Tryz.prog.loopsFrom ·))) = true := by kernel_rfl
theorem jf5_22 : ((Rows.fnExactCanonicalInstanceRow.plainKeys == Tryz.prog.plainKeys)) = true := by kernel_rfl
theorem jf5_23 : (Rows.fnExactCanonicalInstanceRow.shortTexts.isNone) = true := by kernel_rfl
theorem jf5_24 : (Tryz.prog.stopsHeard) = true := by kernel_rfl
theorem jf5_25 : (Tryz.prog.mayEnter) = true := by kernel_rfl
theorem jf5_26 : ((Rows.fnExactCanonicalInstanceRow.lifted == Tryz.prog.liftsFinal)) = true := by kernel_rfl
theorem jf5_27 : ((Tryz.prog.make == some Rows.fnExactCanonicalInstanceRow.make)) = true := by kernel_rfl
theorem jf5_29 : ((Rows.fnExactCanonicalInstanceRow.pinned == Rows.fnExactCanonicalInstanceRow.pinnedBy)) = true := by kernel_rfl
theorem jf5_30 : ((Rows.fnExactCanonicalInstanceRow.veiled == (Tryz.f5.params.toList ++ Rows.fnExactCanonicalInstanceSpec.plain.varTypes Tryz.prog ++ Tryz.f5.resultTypes.toList).any (Tryz.prog.veiledRec ·))) = true := by kernel_rfl
theorem jf5_31 : (Rows.fnExactCanonicalInstanceRow.veiledFits Tryz.prog Tryz.f5.params.toList (Tryz.f5.params.toList ++ Rows.fnExactCanonicalInstanceSpec.plain.varTypes Tryz.prog ++ Tryz.f5.resultTypes.toList)) = true := by kernel_rfl
theorem closed5 : joinedFacts Tryz.prog 5 Tryz.f5 Rows.fnExactCanonicalInstanceSpec Rows.fnExactCanonicalInstanceRow = true := by
  unfold joinedFacts
  refine (andI (andI (andI (andI (andI (andI (andI (andI (andI (andI (andI (andI (andI (andI (andI (andI (andI (andI (andI (andI (andI (andI (andI (andI (andI (andI (andI (andI (andI (andI (andI jf5_0 jf5_1) jf5_2) jf5_3) jf5_4) jf5_5) jf5_6) jf5_7) jf5_8) jf5_9) jf5_10) jf5_11) jf5_12) jf5_13) jf5_14) jf5_15) jf5_16) jf5_17) jf5_18) jf5_19) jf5_20) jf5_21) jf5_22) jf5_23) jf5_24) jf5_25) jf5_26) jf5_27) ?_) jf5_29) jf5_30) jf5_31)
  kernel_rfl
theorem over5 : Rows.fnExactCanonicalInstanceRow.holds Tryz.pinned (OpenSpec.ofChange Rows.fnExactCanonicalInstanceSpec) :=
  OpenClaim.holds_of_wide 5 Tryz.f5 rfl rfl rfl rfl rfl rfl rfl ⟨rfl, rfl, rfl, rfl, rfl⟩ rfl rfl rfl rfl rfl (by kernel_rfl) Tryz.func5 closed5
    (of_decide_eq_true (by kernel_rfl)) (by unfold Func.isWrapper; first | (rw [if_pos (by decide +kernel)]; kernel_rfl) | (rw [if_neg (by decide +kernel)]; exact ⟨rfl, rfl⟩))
    (fun os started H enc _ => lifted5 os started H enc)
end Go.Proofs.YthicohakeljdcaaGreat.Q
namespace Go.Proofs.YthicohakeljdcaaGreat
theorem fnExactCanonicalInstance_holds : Rows.FnExactCanonicalInstanceSaid := Q.over5
#print axioms fnExactCanonicalInstance_holds
end Go.Proofs.YthicohakeljdcaaGreat

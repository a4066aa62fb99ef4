/-
For every instance and every offset the law FnExactShiftNulls returns true, and the arguments read afterwards as they read before. No condition.
-/
import Derived.Test.YthicohakeljdcaaGreatQe
import Derived.Test.YthicohakeljdcaaGreatQf
import Derived.Test.YthicohakeljdcaaGreatRows
set_option linter.unusedVariables false
set_option linter.unusedSimpArgs false
/-! YE3 -/
namespace Go.Proofs.YthicohakeljdcaaGreat.Q
open Go Ovi Go.ChangeShapes Go.WideShapes Go.ChangeAt Go.RowKit
theorem own : ownKnob Tryz.prog.godebug = none := by kernel_rfl
theorem laidOut : laidOutB Tryz.prog = true := by kernel_rfl
def ty3 : List (Bool × List Ty) := [(true, [.list [.str, .int .i64, .bool], .list [.int .i64, .list [.int .i64]]]), (false, [.int .i64])]
theorem tys3 : parTys Tryz.prog Tryz.f3.params.toList = some ty3 := by kernel_rfl
theorem readable3 : readable Tryz.prog Tryz.f3.params.toList = true := by kernel_rfl
theorem law_args3 {av : List AV} (h : ArgsFit ty3 av) : C 3000000 3 (av.map seedA) = some yes := by
  match av, h with
  | [p0, p1], h =>
    simp only [ty3, ArgsFit, and_true] at h
    obtain ⟨g0, g1⟩ := h
    cases p0 <;> simp only [ArgFit] at g0
    obtain ⟨ds0, rfl, g0⟩ := g0
    obtain ⟨_, _, rfl, e0_0, g0⟩ := Fits.cons g0
    obtain ⟨_, _, rfl, e0_1, g0⟩ := Fits.cons g0
    obtain rfl := Fits.nil g0
    obtain ⟨_, rfl, e0_0⟩ := e0_0.list (n := 3) rfl
    obtain ⟨_, rfl, e0_1⟩ := e0_1.list (n := 2) rfl
    cases p1 <;> simp only [ArgFit] at g1
    obtain ⟨_, rfl, wg1⟩ := g1.int
    refine Eq.trans ?_ (show bo true = some yes from rfl)
    simpa only [asD, List.map_cons, List.map_nil, seedA, seedL] using law3 (Nat.le_refl _) e0_0 e0_1
set_option maxRecDepth 100000 in
theorem lifted3 (os : Os) (started : os.Started) (H : Type) (enc : TypeId × Value → H) :
    ReturnsInHanded {} Tryz.checked os 3 .any (Rows.fnExactShiftNullsSpec.pre6 enc Tryz.prog Tryz.f3 Rows.fnExactShiftNullsRow.domain false) (Rows.fnExactShiftNullsSpec.post enc Tryz.prog Tryz.f3 false true false false) := by
  refine returnsInHanded_of_change (C := Tryz.checked) own started (by kernel_rfl) Tryz.func3
    (ChangeSpec.witness6 (enc := enc) (C := Tryz.checked) false ⟨#[], #[.agg #[.slice none 0 0, .slice none 0 0], .int .i64 0], []⟩ 8 (by kernel_rfl) (by kernel_rfl) (by kernel_rfl) (by kernel_rfl)) ?_
  intro W base args ds gs before hval0 hW hcnd _
  have hval : ∀ (j : Nat) t v, Tryz.f3.params[j]? = some t → args[j]? = some v → Value.okWide Tryz.prog W .any base t v := hval0
  have hW' := hW
  obtain ⟨p, q, hA0, hV, rfl, hfz, hnd⟩ := hW
  have hA : DataW.TrodAll enc Tryz.prog W 0 (fun _ => true) true Tryz.f3.params.toList args.toList ds p := hA0
  obtain ⟨rfl, rfl⟩ := trodVars_none hV
  obtain ⟨av, hfit, hlen, hac⟩ := args_in hA (base := base) (fun j t v h1 h2 => hval j t v (by simpa using h1) (by simpa using h2)) tys3
  refine (calls_yes (sound 3000000) (law_args3 hfit) (vs := args) ⟨by simpa using hlen, fun j a ha => by
    rw [List.getElem?_map] at ha
    obtain ⟨b, hb, rfl⟩ := Option.map_eq_some_iff.1 ha
    obtain ⟨u, hu, hc⟩ := hac j b hb
    exact ⟨u, by simpa using hu, AC_seed hc⟩⟩ trivial).mono fun e W' ⟨he, bel⟩ => ?_
  subst he
  have hk := kept_all laidOut bel readable3 hA
  obtain ⟨d0, d1, rfl⟩ : ∃ d0 d1, ds = [d0, d1] := by
    obtain ⟨v0, vs0, d0, ds0, p0, q0, rg0, rfl, rfl, h0, r0⟩ := trodAll_cons hA
    obtain ⟨v1, vs1, d1, ds1, p1, q1, rg1, rfl, rfl, h1, r1⟩ := trodAll_cons r0
    obtain ⟨rfl, rfl, rfl⟩ := trodAll_nil r1
    exact ⟨_, _, rfl⟩
  exact ⟨_, rfl, _, _, _, [], _, [], hW', trodAll_mk1 (shut_bool (show Tryz.prog.underlying 4 = some .bool by kernel_rfl) _), hk, rfl, bel.frame _, fun h => by cases h⟩
theorem andI {a b : Bool} (h1 : a = true) (h2 : b = true) : (a && b) = true := by rw [h1, h2]; rfl
theorem jf3_0 : (Rows.fnExactShiftNullsRow.wf (OpenSpec.ofChange Rows.fnExactShiftNullsSpec)) = true := by kernel_rfl
theorem jf3_1 : (laidOutB Tryz.prog) = true := by kernel_rfl
theorem jf3_2 : (mapsRowed Tryz.prog) = true := by kernel_rfl
theorem jf3_3 : (Tryz.f3.params.all (Tryz.prog.readableRec ·)) = true := by kernel_rfl
theorem jf3_4 : (namedTie Tryz.prog Rows.fnExactShiftNullsRow.named Rows.fnExactShiftNullsSpec.vars) = true := by kernel_rfl
theorem jf3_5 : ((Rows.fnExactShiftNullsRow.stops == [])) = true := by kernel_rfl
theorem jf3_6 : ((Tryz.prog.stops == [])) = true := by kernel_rfl
theorem jf3_7 : ((Rows.fnExactShiftNullsRow.knobs == [])) = true := by kernel_rfl
theorem jf3_8 : ((Tryz.prog.stopKnobs == [])) = true := by kernel_rfl
theorem jf3_9 : ((Rows.fnExactShiftNullsRow.inPlace == Tryz.prog.inPlace 3)) = true := by kernel_rfl
theorem jf3_10 : ((Rows.fnExactShiftNullsRow.unfollowed == Tryz.prog.unfollowed 3)) = true := by kernel_rfl
theorem jf3_11 : ((Rows.fnExactShiftNullsRow.recurses == Tryz.prog.recurses 3)) = true := by kernel_rfl
theorem jf3_12 : ((Rows.fnExactShiftNullsRow.named == Tryz.prog.varsNamed 3)) = true := by kernel_rfl
theorem jf3_13 : ((Rows.fnExactShiftNullsRow.maps == (Tryz.f3.params.toList ++ Rows.fnExactShiftNullsSpec.plain.varTypes Tryz.prog).any (Tryz.prog.mapsRec ·))) = true := by kernel_rfl
theorem jf3_14 : ((Rows.fnExactShiftNullsRow.ifaces == (Tryz.f3.params.toList ++ Rows.fnExactShiftNullsSpec.plain.varTypes Tryz.prog).any (Tryz.prog.ifacesRec ·))) = true := by kernel_rfl
theorem jf3_15 : ((Rows.fnExactShiftNullsRow.mapsOut == Tryz.prog.mapsAmong Tryz.f3.resultTypes.toList)) = true := by kernel_rfl
theorem jf3_16 : ((Rows.fnExactShiftNullsRow.loops == (Tryz.f3.params.toList ++ Rows.fnExactShiftNullsSpec.plain.varTypes Tryz.prog).any (Tryz.prog.loopsFrom ·))) = true := by kernel_rfl
theorem jf3_17 : ((Rows.fnExactShiftNullsRow.wideKeys == (Tryz.f3.params.toList ++ Rows.fnExactShiftNullsSpec.plain.varTypes Tryz.prog ++ Tryz.f3.resultTypes.toList).any (Tryz.prog.wideKeysFrom ·))) = true := by kernel_rfl
theorem jf3_18 : (Rows.fnExactShiftNullsSpec.vars.all (Tryz.prog.varReadable ·)) = true := by kernel_rfl
theorem jf3_19 : (Tryz.f3.resultTypes.all (fun t => Tryz.prog.readableRec t && decide (t < Tryz.prog.types.size))) = true := by kernel_rfl
theorem jf3_20 : ((Rows.fnExactShiftNullsRow.ifacesOut == Tryz.f3.resultTypes.toList.any (Tryz.prog.ifacesRec ·))) = true := by kernel_rfl
theorem jf3_21 : ((Rows.fnExactShiftNullsRow.loopsOut == Tryz.f3.resultTypes.toList.any (Tryz.prog.loopsFrom ·))) = true := by kernel_rfl
theorem jf3_22 : ((Rows.fnExactShiftNullsRow.plainKeys == Tryz.prog.plainKeys)) = true := by kernel_rfl
theorem jf3_23 : (Rows.fnExactShiftNullsRow.shortTexts.isNone) = true := by kernel_rfl
theorem jf3_24 : (Tryz.prog.stopsHeard) = true := by kernel_rfl
theorem jf3_25 : (Tryz.prog.mayEnter) = true := by kernel_rfl
theorem jf3_26 : ((Rows.fnExactShiftNullsRow.lifted == Tryz.prog.liftsFinal)) = true := by kernel_rfl
theorem jf3_27 : ((Tryz.prog.make == some Rows.fnExactShiftNullsRow.make)) = true := by kernel_rfl
theorem jf3_29 : ((Rows.fnExactShiftNullsRow.pinned == Rows.fnExactShiftNullsRow.pinnedBy)) = true := by kernel_rfl
theorem jf3_30 : ((Rows.fnExactShiftNullsRow.veiled == (Tryz.f3.params.toList ++ Rows.fnExactShiftNullsSpec.plain.varTypes Tryz.prog ++ Tryz.f3.resultTypes.toList).any (Tryz.prog.veiledRec ·))) = true := by kernel_rfl
theorem jf3_31 : (Rows.fnExactShiftNullsRow.veiledFits Tryz.prog Tryz.f3.params.toList (Tryz.f3.params.toList ++ Rows.fnExactShiftNullsSpec.plain.varTypes Tryz.prog ++ Tryz.f3.resultTypes.toList)) = true := by kernel_rfl
theorem closed3 : joinedFacts Tryz.prog 3 Tryz.f3 Rows.fnExactShiftNullsSpec Rows.fnExactShiftNullsRow = true := by
  unfold joinedFacts
  refine (andI (andI (andI (andI (andI (andI (andI (andI (andI (andI (andI (andI (andI (andI (andI (andI (andI (andI (andI (andI (andI (andI (andI (andI (andI (andI (andI (andI (andI (andI (andI jf3_0 jf3_1) jf3_2) jf3_3) jf3_4) jf3_5) jf3_6) jf3_7) jf3_8) jf3_9) jf3_10) jf3_11) jf3_12) jf3_13) jf3_14) jf3_15) jf3_16) jf3_17) jf3_18) jf3_19) jf3_20) jf3_21) jf3_22) jf3_23) jf3_24) jf3_25) jf3_26) jf3_27) ?_) jf3_29) jf3_30) jf3_31)
  kernel_rfl
theorem over3 : Rows.fnExactShiftNullsRow.holds Tryz.pinned (OpenSpec.ofChange Rows.fnExactShiftNullsSpec) :=
  OpenClaim.holds_of_wide 3 Tryz.f3 rfl rfl rfl rfl rfl rfl rfl ⟨rfl, rfl, rfl, rfl, rfl⟩ rfl rfl rfl rfl rfl (by kernel_rfl) Tryz.func3 closed3
    (of_decide_eq_true (by kernel_rfl)) (by unfold Func.isWrapper; first | (rw [if_pos (by decide +kernel)]; kernel_rfl) | (rw [if_neg (by decide +kernel)]; exact ⟨rfl, rfl⟩))
    (fun os started H enc _ => lifted3 os started H enc)
end Go.Proofs.YthicohakeljdcaaGreat.Q
namespace Go.Proofs.YthicohakeljdcaaGreat
theorem fnExactShiftNulls_holds : Rows.FnExactShiftNullsSaid := Q.over3
#print axioms fnExactShiftNulls_holds
end Go.Proofs.YthicohakeljdcaaGreat

/-
For every instance the law FnExactRenumberNulls returns true, and the instance reads afterwards as it read before. No condition.
-/
import Derived.Test.YthicohakeljdcaaGreatQe
import Derived.Test.YthicohakeljdcaaGreatQf
import Derived.Test.YthicohakeljdcaaGreatRows
set_option linter.unusedVariables false
set_option linter.unusedSimpArgs false
/-! YE4 -/
namespace Go.Proofs.YthicohakeljdcaaGreat.Q
open Go Ovi Go.ChangeShapes Go.WideShapes Go.ChangeAt Go.RowKit
theorem own : ownKnob Tryz.prog.godebug = none := by kernel_rfl
theorem laidOut : laidOutB Tryz.prog = true := by kernel_rfl
def ty4 : List (Bool × List Ty) := [(true, [.list [.str, .int .i64, .bool], .list [.int .i64, .list [.int .i64]]])]
theorem tys4 : parTys Tryz.prog Tryz.f4.params.toList = some ty4 := by kernel_rfl
theorem readable4 : readable Tryz.prog Tryz.f4.params.toList = true := by kernel_rfl
theorem law_args4 {av : List AV} (h : ArgsFit ty4 av) : C 3000000 4 (av.map seedA) = some yes := by
  match av, h with
  | [p0], h =>
    simp only [ty4, ArgsFit, and_true] at h
    have g0 := h
    cases p0 <;> simp only [ArgFit] at g0
    obtain ⟨ds0, rfl, g0⟩ := g0
    obtain ⟨_, _, rfl, e0_0, g0⟩ := Fits.cons g0
    obtain ⟨_, _, rfl, e0_1, g0⟩ := Fits.cons g0
    obtain rfl := Fits.nil g0
    obtain ⟨_, rfl, e0_0⟩ := e0_0.list (n := 3) rfl
    obtain ⟨_, rfl, e0_1⟩ := e0_1.list (n := 2) rfl
    refine Eq.trans ?_ (show bo true = some yes from rfl)
    simpa only [asD, List.map_cons, List.map_nil, seedA, seedL] using law4 (Nat.le_refl _) e0_0 e0_1
set_option maxRecDepth 100000 in
theorem lifted4 (os : Os) (started : os.Started) (H : Type) (enc : TypeId × Value → H) :
    ReturnsInHanded {} Tryz.checked os 4 .any (Rows.fnExactRenumberNullsSpec.pre6 enc Tryz.prog Tryz.f4 Rows.fnExactRenumberNullsRow.domain false) (Rows.fnExactRenumberNullsSpec.post enc Tryz.prog Tryz.f4 false true false false) := by
  refine returnsInHanded_of_change (C := Tryz.checked) own started (by kernel_rfl) Tryz.func4
    (ChangeSpec.witness6 (enc := enc) (C := Tryz.checked) false ⟨#[], #[.agg #[.slice none 0 0, .slice none 0 0]], []⟩ 8 (by kernel_rfl) (by kernel_rfl) (by kernel_rfl) (by kernel_rfl)) ?_
  intro W base args ds gs before hval0 hW hcnd _
  have hval : ∀ (j : Nat) t v, Tryz.f4.params[j]? = some t → args[j]? = some v → Value.okWide Tryz.prog W .any base t v := hval0
  have hW' := hW
  obtain ⟨p, q, hA0, hV, rfl, hfz, hnd⟩ := hW
  have hA : DataW.TrodAll enc Tryz.prog W 0 (fun _ => true) true Tryz.f4.params.toList args.toList ds p := hA0
  obtain ⟨rfl, rfl⟩ := trodVars_none hV
  obtain ⟨av, hfit, hlen, hac⟩ := args_in hA (base := base) (fun j t v h1 h2 => hval j t v (by simpa using h1) (by simpa using h2)) tys4
  refine (calls_yes (sound 3000000) (law_args4 hfit) (vs := args) ⟨by simpa using hlen, fun j a ha => by
    rw [List.getElem?_map] at ha
    obtain ⟨b, hb, rfl⟩ := Option.map_eq_some_iff.1 ha
    obtain ⟨u, hu, hc⟩ := hac j b hb
    exact ⟨u, by simpa using hu, AC_seed hc⟩⟩ trivial).mono fun e W' ⟨he, bel⟩ => ?_
  subst he
  have hk := kept_all laidOut bel readable4 hA
  obtain ⟨d0, rfl⟩ : ∃ d0, ds = [d0] := by
    obtain ⟨v0, vs0, d0, ds0, p0, q0, rg0, rfl, rfl, h0, r0⟩ := trodAll_cons hA
    obtain ⟨rfl, rfl, rfl⟩ := trodAll_nil r0
    exact ⟨_, rfl⟩
  exact ⟨_, rfl, _, _, _, [], _, [], hW', trodAll_mk1 (shut_bool (show Tryz.prog.underlying 4 = some .bool by kernel_rfl) _), hk, rfl, bel.frame _, fun h => by cases h⟩
theorem andI {a b : Bool} (h1 : a = true) (h2 : b = true) : (a && b) = true := by rw [h1, h2]; rfl
theorem jf4_0 : (Rows.fnExactRenumberNullsRow.wf (OpenSpec.ofChange Rows.fnExactRenumberNullsSpec)) = true := by kernel_rfl
theorem jf4_1 : (laidOutB Tryz.prog) = true := by kernel_rfl
theorem jf4_2 : (mapsRowed Tryz.prog) = true := by kernel_rfl
theorem jf4_3 : (Tryz.f4.params.all (Tryz.prog.readableRec ·)) = true := by kernel_rfl
theorem jf4_4 : (namedTie Tryz.prog Rows.fnExactRenumberNullsRow.named Rows.fnExactRenumberNullsSpec.vars) = true := by kernel_rfl
theorem jf4_5 : ((Rows.fnExactRenumberNullsRow.stops == [])) = true := by kernel_rfl
theorem jf4_6 : ((Tryz.prog.stops == [])) = true := by kernel_rfl
theorem jf4_7 : ((Rows.fnExactRenumberNullsRow.knobs == [])) = true := by kernel_rfl
theorem jf4_8 : ((Tryz.prog.stopKnobs == [])) = true := by kernel_rfl
theorem jf4_9 : ((Rows.fnExactRenumberNullsRow.inPlace == Tryz.prog.inPlace 4)) = true := by kernel_rfl
theorem jf4_10 : ((Rows.fnExactRenumberNullsRow.unfollowed == Tryz.prog.unfollowed 4)) = true := by kernel_rfl
theorem jf4_11 : ((Rows.fnExactRenumberNullsRow.recurses == Tryz.prog.recurses 4)) = true := by kernel_rfl
theorem jf4_12 : ((Rows.fnExactRenumberNullsRow.named == Tryz.prog.varsNamed 4)) = true := by kernel_rfl
theorem jf4_13 : ((Rows.fnExactRenumberNullsRow.maps == (Tryz.f4.params.toList ++ Rows.fnExactRenumberNullsSpec.plain.varTypes Tryz.prog).any (Tryz.prog.mapsRec ·))) = true := by kernel_rfl
theorem jf4_14 : ((Rows.fnExactRenumberNullsRow.ifaces == (Tryz.f4.params.toList ++ Rows.fnExactRenumberNullsSpec.plain.varTypes Tryz.prog).any (Tryz.prog.ifacesRec ·))) = true := by kernel_rfl
theorem jf4_15 : ((Rows.fnExactRenumberNullsRow.mapsOut == Tryz.prog.mapsAmong Tryz.f4.resultTypes.toList)) = true := by kernel_rfl
theorem jf4_16 : ((Rows.fnExactRenumberNullsRow.loops == (Tryz.f4.params.toList ++ Rows.fnExactRenumberNullsSpec.plain.varTypes Tryz.prog).any (Tryz.prog.loopsFrom ·))) = true := by kernel_rfl
theorem jf4_17 : ((Rows.fnExactRenumberNullsRow.wideKeys == (Tryz.f4.params.toList ++ Rows.fnExactRenumberNullsSpec.plain.varTypes Tryz.prog ++ Tryz.f4.resultTypes.toList).any (Tryz.prog.wideKeysFrom ·))) = true := by kernel_rfl
theorem jf4_18 : (Rows.fnExactRenumberNullsSpec.vars.all (Tryz.prog.varReadable ·)) = true := by kernel_rfl
theorem jf4_19 : (Tryz.f4.resultTypes.all (fun t => Tryz.prog.readableRec t && decide (t < Tryz.prog.types.size))) = true := by kernel_rfl
theorem jf4_20 : ((Rows.fnExactRenumberNullsRow.ifacesOut == Tryz.f4.resultTypes.toList.any (Tryz.prog.ifacesRec ·))) = true := by kernel_rfl
theorem jf4_21 : ((Rows.fnExactRenumberNullsRow.loopsOut == Tryz.f4.resultTypes.toList.any (Tryz.prog.loopsFrom ·))) = true := by kernel_rfl
theorem jf4_22 : ((Rows.fnExactRenumberNullsRow.plainKeys == Tryz.prog.plainKeys)) = true := by kernel_rfl
theorem jf4_23 : (Rows.fnExactRenumberNullsRow.shortTexts.isNone) = true := by kernel_rfl
theorem jf4_24 : (Tryz.prog.stopsHeard) = true := by kernel_rfl
theorem jf4_25 : (Tryz.prog.mayEnter) = true := by kernel_rfl
theorem jf4_26 : ((Rows.fnExactRenumberNullsRow.lifted == Tryz.prog.liftsFinal)) = true := by kernel_rfl
theorem jf4_27 : ((Tryz.prog.make == some Rows.fnExactRenumberNullsRow.make)) = true := by kernel_rfl
theorem jf4_29 : ((Rows.fnExactRenumberNullsRow.pinned == Rows.fnExactRenumberNullsRow.pinnedBy)) = true := by kernel_rfl
theorem jf4_30 : ((Rows.fnExactRenumberNullsRow.veiled == (Tryz.f4.params.toList ++ Rows.fnExactRenumberNullsSpec.plain.varTypes Tryz.prog ++ Tryz.f4.resultTypes.toList).any (Tryz.prog.veiledRec ·))) = true := by kernel_rfl
theorem jf4_31 : (Rows.fnExactRenumberNullsRow.veiledFits Tryz.prog Tryz.f4.params.toList (Tryz.f4.params.toList ++ Rows.fnExactRenumberNullsSpec.plain.varTypes Tryz.prog ++ Tryz.f4.resultTypes.toList)) = true := by kernel_rfl
theorem closed4 : joinedFacts Tryz.prog 4 Tryz.f4 Rows.fnExactRenumberNullsSpec Rows.fnExactRenumberNullsRow = true := by
  unfold joinedFacts
  refine (andI (andI (andI (andI (andI (andI (andI (andI (andI (andI (andI (andI (andI (andI (andI (andI (andI (andI (andI (andI (andI (andI (andI (andI (andI (andI (andI (andI (andI (andI (andI jf4_0 jf4_1) jf4_2) jf4_3) jf4_4) jf4_5) jf4_6) jf4_7) jf4_8) jf4_9) jf4_10) jf4_11) jf4_12) jf4_13) jf4_14) jf4_15) jf4_16) jf4_17) jf4_18) jf4_19) jf4_20) jf4_21) jf4_22) jf4_23) jf4_24) jf4_25) jf4_26) jf4_27) ?_) jf4_29) jf4_30) jf4_31)
  kernel_rfl
theorem over4 : Rows.fnExactRenumberNullsRow.holds Tryz.pinned (OpenSpec.ofChange Rows.fnExactRenumberNullsSpec) :=
  OpenClaim.holds_of_wide 4 Tryz.f4 rfl rfl rfl rfl rfl rfl rfl ⟨rfl, rfl, rfl, rfl, rfl⟩ rfl rfl rfl rfl rfl (by kernel_rfl) Tryz.func4 closed4
    (of_decide_eq_true (by kernel_rfl)) (by unfold Func.isWrapper; first | (rw [if_pos (by decide +kernel)]; kernel_rfl) | (rw [if_neg (by decide +kernel)]; exact ⟨rfl, rfl⟩))
    (fun os started H enc _ => lifted4 os started H enc)
end Go.Proofs.YthicohakeljdcaaGreat.Q
namespace Go.Proofs.YthicohakeljdcaaGreat
theorem fnExactRenumberNulls_holds : Rows.FnExactRenumberNullsSaid := Q.over4
#print axioms fnExactRenumberNulls_holds
end Go.Proofs.YthicohakeljdcaaGreat

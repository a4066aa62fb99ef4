/-
  No cell of these rows narrows 'for every input' (looked for: loops, veiled, ifaces, maps, wideKeys, modest, calm, conditions, laid).
  DERIVED. THE GIVEN ROWS OF THIS SEAT. 9 by the template 'for every input the law returns true; each argument reads behind the call as it read before'; 0 by the template 'total and deterministic' (their statements: YthicohakeljdcaaGreatTotals.lean).
  GIVEN WITH THE SEED: the statements are not yours to turn. If you find one false, say at which input.
  Laid BY PROGRAM, IN A SANDBOX (cutbox-rows.mjs): the forced cells as the released guide's own fill.sh prints them over the translation 8d198ba4c6d96e78… (all of the seat's roots in one cut). By AI agents, Wed Nov 11 2026. No macro, syntax, notation, axiom, sorry.
-/
import Derived.Test.YthicohakeljdcaaGreatChecked
import GoSem.Claim
import GoSem.ClaimJoined
import GoSem.ClaimMapViews
import Derived.JoinedTies
import Derived.KernelRfl
namespace Go.Proofs.YthicohakeljdcaaGreat
/- THE CELL 'sum', in the pinned program and in every row, IS THE sha256 OF THE DUMP (.gsa) THAT YthicohakeljdcaaGreatProg.lean LOADS. Nothing in Lean hashes anything: it is a label: what it is worth is what the hold of that sum in a sandbox is worth. -/
noncomputable def Tryz.pinned : Pinned := { name := "ythicohakeljdcaagreat", sum := "8d198ba4c6d96e78496bf27e9cada6cadac8dc97cd07d2c6471f619725d702cc", checked := Tryz.checked }
namespace Rows
def none {H : Type} : Left H := { results := [], args := [] }

/-- 'laws.FnExactShiftNulls': WHATEVER THE INPUT: true; the input reads as it did. -/
def fnExactShiftNullsSpec : ChangeSpec := { name := "fnExactShiftNulls", fn := fun _ => fun
  | [d1, d2] => { results := [.lit (.bool true)], args := [d1, d2] }
  | _ => none }
def fnExactShiftNullsRow : OpenClaim := { program := "ythicohakeljdcaagreat", sum := "8d198ba4c6d96e78496bf27e9cada6cadac8dc97cd07d2c6471f619725d702cc", func := "loop.example/g01919/laws.FnExactShiftNulls", spec := "fnExactShiftNulls", unfollowed := true, recurses := true, apart := false }
def FnExactShiftNullsSaid : Prop := fnExactShiftNullsRow.holds Tryz.pinned (OpenSpec.ofChange fnExactShiftNullsSpec)

/-- ITS FALSE NEIGHBOUR: 'it returns false'. Refute it at one input. -/
def fnExactShiftNullsWrong : ChangeSpec := { name := "fnExactShiftNulls", fn := fun _ => fun
  | [d1, d2] => { results := [.lit (.bool false)], args := [d1, d2] }
  | _ => none }
def FnExactShiftNullsWrongFalsely : Prop := fnExactShiftNullsRow.holds Tryz.pinned (OpenSpec.ofChange fnExactShiftNullsWrong)

/-- 'laws.FnExactRenumberNulls': WHATEVER THE INPUT: true; the input reads as it did. -/
def fnExactRenumberNullsSpec : ChangeSpec := { name := "fnExactRenumberNulls", fn := fun _ => fun
  | [d] => { results := [.lit (.bool true)], args := [d] }
  | _ => none }
def fnExactRenumberNullsRow : OpenClaim := { program := "ythicohakeljdcaagreat", sum := "8d198ba4c6d96e78496bf27e9cada6cadac8dc97cd07d2c6471f619725d702cc", func := "loop.example/g01919/laws.FnExactRenumberNulls", spec := "fnExactRenumberNulls", unfollowed := true, recurses := true, apart := false }
def FnExactRenumberNullsSaid : Prop := fnExactRenumberNullsRow.holds Tryz.pinned (OpenSpec.ofChange fnExactRenumberNullsSpec)

/-- ITS FALSE NEIGHBOUR: 'it returns false'. Refute it at one input. -/
def fnExactRenumberNullsWrong : ChangeSpec := { name := "fnExactRenumberNulls", fn := fun _ => fun
  | [d] => { results := [.lit (.bool false)], args := [d] }
  | _ => none }
def FnExactRenumberNullsWrongFalsely : Prop := fnExactRenumberNullsRow.holds Tryz.pinned (OpenSpec.ofChange fnExactRenumberNullsWrong)

/-- 'laws.FnExactCanonicalInstance': WHATEVER THE INPUT: true; the input reads as it did. -/
def fnExactCanonicalInstanceSpec : ChangeSpec := { name := "fnExactCanonicalInstance", fn := fun _ => fun
  | [d1, d2] => { results := [.lit (.bool true)], args := [d1, d2] }
  | _ => none }
def fnExactCanonicalInstanceRow : OpenClaim := { program := "ythicohakeljdcaagreat", sum := "8d198ba4c6d96e78496bf27e9cada6cadac8dc97cd07d2c6471f619725d702cc", func := "loop.example/g01919/laws.FnExactCanonicalInstance", spec := "fnExactCanonicalInstance", unfollowed := true, recurses := true, apart := false }
def FnExactCanonicalInstanceSaid : Prop := fnExactCanonicalInstanceRow.holds Tryz.pinned (OpenSpec.ofChange fnExactCanonicalInstanceSpec)

/-- ITS FALSE NEIGHBOUR: 'it returns false'. Refute it at one input. -/
def fnExactCanonicalInstanceWrong : ChangeSpec := { name := "fnExactCanonicalInstance", fn := fun _ => fun
  | [d1, d2] => { results := [.lit (.bool false)], args := [d1, d2] }
  | _ => none }
def FnExactCanonicalInstanceWrongFalsely : Prop := fnExactCanonicalInstanceRow.holds Tryz.pinned (OpenSpec.ofChange fnExactCanonicalInstanceWrong)

/-- 'laws.FnExactEvaluate': WHATEVER THE INPUT: true; the input reads as it did. -/
def fnExactEvaluateSpec : ChangeSpec := { name := "fnExactEvaluate", fn := fun _ => fun
  | [d1, d2] => { results := [.lit (.bool true)], args := [d1, d2] }
  | _ => none }
def fnExactEvaluateRow : OpenClaim := { program := "ythicohakeljdcaagreat", sum := "8d198ba4c6d96e78496bf27e9cada6cadac8dc97cd07d2c6471f619725d702cc", func := "loop.example/g01919/laws.FnExactEvaluate", spec := "fnExactEvaluate", unfollowed := true, recurses := true, apart := false }
def FnExactEvaluateSaid : Prop := fnExactEvaluateRow.holds Tryz.pinned (OpenSpec.ofChange fnExactEvaluateSpec)

/-- ITS FALSE NEIGHBOUR: 'it returns false'. Refute it at one input. -/
def fnExactEvaluateWrong : ChangeSpec := { name := "fnExactEvaluate", fn := fun _ => fun
  | [d1, d2] => { results := [.lit (.bool false)], args := [d1, d2] }
  | _ => none }
def FnExactEvaluateWrongFalsely : Prop := fnExactEvaluateRow.holds Tryz.pinned (OpenSpec.ofChange fnExactEvaluateWrong)

/-- 'laws.FnExactEvaluateGround': WHATEVER THE INPUT: true; the input reads as it did. -/
def fnExactEvaluateGroundSpec : ChangeSpec := { name := "fnExactEvaluateGround", fn := fun _ => fun
  | [d1, d2] => { results := [.lit (.bool true)], args := [d1, d2] }
  | _ => none }
def fnExactEvaluateGroundRow : OpenClaim := { program := "ythicohakeljdcaagreat", sum := "8d198ba4c6d96e78496bf27e9cada6cadac8dc97cd07d2c6471f619725d702cc", func := "loop.example/g01919/laws.FnExactEvaluateGround", spec := "fnExactEvaluateGround", unfollowed := true, recurses := true, apart := false }
def FnExactEvaluateGroundSaid : Prop := fnExactEvaluateGroundRow.holds Tryz.pinned (OpenSpec.ofChange fnExactEvaluateGroundSpec)

/-- ITS FALSE NEIGHBOUR: 'it returns false'. Refute it at one input. -/
def fnExactEvaluateGroundWrong : ChangeSpec := { name := "fnExactEvaluateGround", fn := fun _ => fun
  | [d1, d2] => { results := [.lit (.bool false)], args := [d1, d2] }
  | _ => none }
def FnExactEvaluateGroundWrongFalsely : Prop := fnExactEvaluateGroundRow.holds Tryz.pinned (OpenSpec.ofChange fnExactEvaluateGroundWrong)

/-- 'laws.FnExactEvaluateInequality': WHATEVER THE INPUT: true; the input reads as it did. -/
def fnExactEvaluateInequalitySpec : ChangeSpec := { name := "fnExactEvaluateInequality", fn := fun _ => fun
  | [d1, d2] => { results := [.lit (.bool true)], args := [d1, d2] }
  | _ => none }
def fnExactEvaluateInequalityRow : OpenClaim := { program := "ythicohakeljdcaagreat", sum := "8d198ba4c6d96e78496bf27e9cada6cadac8dc97cd07d2c6471f619725d702cc", func := "loop.example/g01919/laws.FnExactEvaluateInequality", spec := "fnExactEvaluateInequality", unfollowed := true, recurses := true, apart := false }
def FnExactEvaluateInequalitySaid : Prop := fnExactEvaluateInequalityRow.holds Tryz.pinned (OpenSpec.ofChange fnExactEvaluateInequalitySpec)

/-- ITS FALSE NEIGHBOUR: 'it returns false'. Refute it at one input. -/
def fnExactEvaluateInequalityWrong : ChangeSpec := { name := "fnExactEvaluateInequality", fn := fun _ => fun
  | [d1, d2] => { results := [.lit (.bool false)], args := [d1, d2] }
  | _ => none }
def FnExactEvaluateInequalityWrongFalsely : Prop := fnExactEvaluateInequalityRow.holds Tryz.pinned (OpenSpec.ofChange fnExactEvaluateInequalityWrong)

/-- 'laws.FnExactReplaySteps': WHATEVER THE INPUT: true; the input reads as it did. -/
def fnExactReplayStepsSpec : ChangeSpec := { name := "fnExactReplaySteps", fn := fun _ => fun
  | [d1, d2, d3] => { results := [.lit (.bool true)], args := [d1, d2, d3] }
  | _ => none }
def fnExactReplayStepsRow : OpenClaim := { program := "ythicohakeljdcaagreat", sum := "8d198ba4c6d96e78496bf27e9cada6cadac8dc97cd07d2c6471f619725d702cc", func := "loop.example/g01919/laws.FnExactReplaySteps", spec := "fnExactReplaySteps", unfollowed := true, recurses := true, apart := false }
def FnExactReplayStepsSaid : Prop := fnExactReplayStepsRow.holds Tryz.pinned (OpenSpec.ofChange fnExactReplayStepsSpec)

/-- ITS FALSE NEIGHBOUR: 'it returns false'. Refute it at one input. -/
def fnExactReplayStepsWrong : ChangeSpec := { name := "fnExactReplaySteps", fn := fun _ => fun
  | [d1, d2, d3] => { results := [.lit (.bool false)], args := [d1, d2, d3] }
  | _ => none }
def FnExactReplayStepsWrongFalsely : Prop := fnExactReplayStepsRow.holds Tryz.pinned (OpenSpec.ofChange fnExactReplayStepsWrong)

/-- 'laws.FnExactApplySkolem': WHATEVER THE INPUT: true; the input reads as it did. -/
def fnExactApplySkolemSpec : ChangeSpec := { name := "fnExactApplySkolem", fn := fun _ => fun
  | [d1, d2, d3, d4] => { results := [.lit (.bool true)], args := [d1, d2, d3, d4] }
  | _ => none }
def fnExactApplySkolemRow : OpenClaim := { program := "ythicohakeljdcaagreat", sum := "8d198ba4c6d96e78496bf27e9cada6cadac8dc97cd07d2c6471f619725d702cc", func := "loop.example/g01919/laws.FnExactApplySkolem", spec := "fnExactApplySkolem", unfollowed := true, recurses := true, apart := false }
def FnExactApplySkolemSaid : Prop := fnExactApplySkolemRow.holds Tryz.pinned (OpenSpec.ofChange fnExactApplySkolemSpec)

/-- ITS FALSE NEIGHBOUR: 'it returns false'. Refute it at one input. -/
def fnExactApplySkolemWrong : ChangeSpec := { name := "fnExactApplySkolem", fn := fun _ => fun
  | [d1, d2, d3, d4] => { results := [.lit (.bool false)], args := [d1, d2, d3, d4] }
  | _ => none }
def FnExactApplySkolemWrongFalsely : Prop := fnExactApplySkolemRow.holds Tryz.pinned (OpenSpec.ofChange fnExactApplySkolemWrong)

/-- 'laws.FnExactCertainAnswers': WHATEVER THE INPUT: true; the input reads as it did. -/
def fnExactCertainAnswersSpec : ChangeSpec := { name := "fnExactCertainAnswers", fn := fun _ => fun
  | [d1, d2, d3] => { results := [.lit (.bool true)], args := [d1, d2, d3] }
  | _ => none }
def fnExactCertainAnswersRow : OpenClaim := { program := "ythicohakeljdcaagreat", sum := "8d198ba4c6d96e78496bf27e9cada6cadac8dc97cd07d2c6471f619725d702cc", func := "loop.example/g01919/laws.FnExactCertainAnswers", spec := "fnExactCertainAnswers", unfollowed := true, recurses := true, apart := false }
def FnExactCertainAnswersSaid : Prop := fnExactCertainAnswersRow.holds Tryz.pinned (OpenSpec.ofChange fnExactCertainAnswersSpec)

/-- ITS FALSE NEIGHBOUR: 'it returns false'. Refute it at one input. -/
def fnExactCertainAnswersWrong : ChangeSpec := { name := "fnExactCertainAnswers", fn := fun _ => fun
  | [d1, d2, d3] => { results := [.lit (.bool false)], args := [d1, d2, d3] }
  | _ => none }
def FnExactCertainAnswersWrongFalsely : Prop := fnExactCertainAnswersRow.holds Tryz.pinned (OpenSpec.ofChange fnExactCertainAnswersWrong)

/- THE SECOND FORM. 'bulk': how many values and letters a reading holds, each counted each time it is reached (what is shared counts as often as it is met; a slice's spare places count too). A statement '..UptoSaid' is the law's where the arguments, and the package variables that the reading takes, are together of bulk at most 1048576: NARROWER than '..Said'. Prove '..Said' where nothing that the law and all that it calls make is longer than what came in: it says more and counts as full. Else prove '..UptoSaid'. A law counts once. -/
mutual
def uptoBulk {H : Type} : DataW H → Nat
  | .lit (.string bytes) => bytes.length + 1
  | .lit _ => 1
  | .nil => 1
  | .ptr d => uptoBulk d + 1
  | .slice elems spare => uptoBulkAll elems + uptoBulkAll spare + 1
  | .agg parts => uptoBulkAll parts + 1
  | .iface _ d => uptoBulk d + 1
  | .map entries => uptoBulkEntries entries + 1
  | .held _ => 1
def uptoBulkAll {H : Type} : List (DataW H) → Nat
  | [] => 0
  | d :: r => uptoBulk d + uptoBulkAll r
def uptoBulkEntries {H : Type} : List (Lit × DataW H) → Nat
  | [] => 0
  | x :: r => uptoBulkEntry x + uptoBulkEntries r
def uptoBulkEntry {H : Type} : Lit × DataW H → Nat
  | (.string bytes, d) => bytes.length + uptoBulk d + 1
  | (_, d) => uptoBulk d + 1
 end
def uptoSmall : (H : Type) → List (DataW H) → Bool := fun _ ds => decide (uptoBulkAll ds ≤ 1048576)
def OpenSpec.upto (s : _root_.Go.ChangeSpec) : _root_.Go.OpenSpec := { _root_.Go.OpenSpec.ofChange s with cond := some uptoSmall }

/-- 'laws.FnExactShiftNulls', WHERE WHAT IT READS IS OF BULK AT MOST 1048576: true; the input reads as it did. -/
def fnExactShiftNullsUptoRow : OpenClaim := { program := "ythicohakeljdcaagreat", sum := "8d198ba4c6d96e78496bf27e9cada6cadac8dc97cd07d2c6471f619725d702cc", func := "loop.example/g01919/laws.FnExactShiftNulls", spec := "fnExactShiftNulls", unfollowed := true, recurses := true, apart := false, narrowed := true }
def FnExactShiftNullsUptoSaid : Prop := fnExactShiftNullsUptoRow.holds Tryz.pinned (OpenSpec.upto fnExactShiftNullsSpec)

/-- 'laws.FnExactRenumberNulls', WHERE WHAT IT READS IS OF BULK AT MOST 1048576: true; the input reads as it did. -/
def fnExactRenumberNullsUptoRow : OpenClaim := { program := "ythicohakeljdcaagreat", sum := "8d198ba4c6d96e78496bf27e9cada6cadac8dc97cd07d2c6471f619725d702cc", func := "loop.example/g01919/laws.FnExactRenumberNulls", spec := "fnExactRenumberNulls", unfollowed := true, recurses := true, apart := false, narrowed := true }
def FnExactRenumberNullsUptoSaid : Prop := fnExactRenumberNullsUptoRow.holds Tryz.pinned (OpenSpec.upto fnExactRenumberNullsSpec)

/-- 'laws.FnExactCanonicalInstance', WHERE WHAT IT READS IS OF BULK AT MOST 1048576: true; the input reads as it did. -/
def fnExactCanonicalInstanceUptoRow : OpenClaim := { program := "ythicohakeljdcaagreat", sum := "8d198ba4c6d96e78496bf27e9cada6cadac8dc97cd07d2c6471f619725d702cc", func := "loop.example/g01919/laws.FnExactCanonicalInstance", spec := "fnExactCanonicalInstance", unfollowed := true, recurses := true, apart := false, narrowed := true }
def FnExactCanonicalInstanceUptoSaid : Prop := fnExactCanonicalInstanceUptoRow.holds Tryz.pinned (OpenSpec.upto fnExactCanonicalInstanceSpec)

/-- 'laws.FnExactEvaluate', WHERE WHAT IT READS IS OF BULK AT MOST 1048576: true; the input reads as it did. -/
def fnExactEvaluateUptoRow : OpenClaim := { program := "ythicohakeljdcaagreat", sum := "8d198ba4c6d96e78496bf27e9cada6cadac8dc97cd07d2c6471f619725d702cc", func := "loop.example/g01919/laws.FnExactEvaluate", spec := "fnExactEvaluate", unfollowed := true, recurses := true, apart := false, narrowed := true }
def FnExactEvaluateUptoSaid : Prop := fnExactEvaluateUptoRow.holds Tryz.pinned (OpenSpec.upto fnExactEvaluateSpec)

/-- 'laws.FnExactEvaluateGround', WHERE WHAT IT READS IS OF BULK AT MOST 1048576: true; the input reads as it did. -/
def fnExactEvaluateGroundUptoRow : OpenClaim := { program := "ythicohakeljdcaagreat", sum := "8d198ba4c6d96e78496bf27e9cada6cadac8dc97cd07d2c6471f619725d702cc", func := "loop.example/g01919/laws.FnExactEvaluateGround", spec := "fnExactEvaluateGround", unfollowed := true, recurses := true, apart := false, narrowed := true }
def FnExactEvaluateGroundUptoSaid : Prop := fnExactEvaluateGroundUptoRow.holds Tryz.pinned (OpenSpec.upto fnExactEvaluateGroundSpec)

/-- 'laws.FnExactEvaluateInequality', WHERE WHAT IT READS IS OF BULK AT MOST 1048576: true; the input reads as it did. -/
def fnExactEvaluateInequalityUptoRow : OpenClaim := { program := "ythicohakeljdcaagreat", sum := "8d198ba4c6d96e78496bf27e9cada6cadac8dc97cd07d2c6471f619725d702cc", func := "loop.example/g01919/laws.FnExactEvaluateInequality", spec := "fnExactEvaluateInequality", unfollowed := true, recurses := true, apart := false, narrowed := true }
def FnExactEvaluateInequalityUptoSaid : Prop := fnExactEvaluateInequalityUptoRow.holds Tryz.pinned (OpenSpec.upto fnExactEvaluateInequalitySpec)

/-- 'laws.FnExactReplaySteps', WHERE WHAT IT READS IS OF BULK AT MOST 1048576: true; the input reads as it did. -/
def fnExactReplayStepsUptoRow : OpenClaim := { program := "ythicohakeljdcaagreat", sum := "8d198ba4c6d96e78496bf27e9cada6cadac8dc97cd07d2c6471f619725d702cc", func := "loop.example/g01919/laws.FnExactReplaySteps", spec := "fnExactReplaySteps", unfollowed := true, recurses := true, apart := false, narrowed := true }
def FnExactReplayStepsUptoSaid : Prop := fnExactReplayStepsUptoRow.holds Tryz.pinned (OpenSpec.upto fnExactReplayStepsSpec)

/-- 'laws.FnExactApplySkolem', WHERE WHAT IT READS IS OF BULK AT MOST 1048576: true; the input reads as it did. -/
def fnExactApplySkolemUptoRow : OpenClaim := { program := "ythicohakeljdcaagreat", sum := "8d198ba4c6d96e78496bf27e9cada6cadac8dc97cd07d2c6471f619725d702cc", func := "loop.example/g01919/laws.FnExactApplySkolem", spec := "fnExactApplySkolem", unfollowed := true, recurses := true, apart := false, narrowed := true }
def FnExactApplySkolemUptoSaid : Prop := fnExactApplySkolemUptoRow.holds Tryz.pinned (OpenSpec.upto fnExactApplySkolemSpec)

/-- 'laws.FnExactCertainAnswers', WHERE WHAT IT READS IS OF BULK AT MOST 1048576: true; the input reads as it did. -/
def fnExactCertainAnswersUptoRow : OpenClaim := { program := "ythicohakeljdcaagreat", sum := "8d198ba4c6d96e78496bf27e9cada6cadac8dc97cd07d2c6471f619725d702cc", func := "loop.example/g01919/laws.FnExactCertainAnswers", spec := "fnExactCertainAnswers", unfollowed := true, recurses := true, apart := false, narrowed := true }
def FnExactCertainAnswersUptoSaid : Prop := fnExactCertainAnswersUptoRow.holds Tryz.pinned (OpenSpec.upto fnExactCertainAnswersSpec)

end Rows
end Go.Proofs.YthicohakeljdcaaGreat

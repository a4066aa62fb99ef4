/-
  No cell of these rows narrows 'for every input' (looked for: loops, veiled, ifaces, maps, wideKeys, modest, calm, conditions, laid).
  DERIVED. THE GIVEN ROWS OF THIS SEAT. 3 by the template 'for every input the law returns true; each argument reads behind the call as it read before'; 0 by the template 'total and deterministic' (their statements: YthicohakeljdcaaTotals.lean).
  GIVEN WITH THE SEED: the statements are not yours to turn. If you find one false, say at which input.
  Laid BY PROGRAM, IN A SANDBOX (cutbox-rows.mjs): the forced cells as the released guide's own fill.sh prints them over the translation 2a6f4b0d245b24c4… (all of the seat's roots in one cut). By AI agents, Wed Nov 11 2026. No macro, syntax, notation, axiom, sorry.
-/
import Derived.Test.YthicohakeljdcaaChecked
import GoSem.Claim
import GoSem.ClaimJoined
import GoSem.ClaimMapViews
import Derived.JoinedTies
import Derived.KernelRfl
namespace Go.Proofs.Ythicohakeljdcaa
/- THE CELL 'sum', in the pinned program and in every row, IS THE sha256 OF THE DUMP (.gsa) THAT YthicohakeljdcaaProg.lean LOADS. Nothing in Lean hashes anything: it is a label: what it is worth is what the hold of that sum in a sandbox is worth. -/
noncomputable def Try.pinned : Pinned := { name := "ythicohakeljdcaa", sum := "2a6f4b0d245b24c4c97260b967f809dc5a0df309f617e60c3cb08e79cdec9ea0", checked := Try.checked }
namespace Rows
def none {H : Type} : Left H := { results := [], args := [] }

/-- 'laws.FnExactFactsOfBlock': WHATEVER THE INPUT: true; the input reads as it did. -/
def fnExactFactsOfBlockSpec : ChangeSpec := { name := "fnExactFactsOfBlock", fn := fun _ => fun
  | [d1, d2] => { results := [.lit (.bool true)], args := [d1, d2] }
  | _ => none }
def fnExactFactsOfBlockRow : OpenClaim := { program := "ythicohakeljdcaa", sum := "2a6f4b0d245b24c4c97260b967f809dc5a0df309f617e60c3cb08e79cdec9ea0", func := "loop.example/g01919/laws.FnExactFactsOfBlock", spec := "fnExactFactsOfBlock", unfollowed := true, recurses := true, apart := false }
def FnExactFactsOfBlockSaid : Prop := fnExactFactsOfBlockRow.holds Try.pinned (OpenSpec.ofChange fnExactFactsOfBlockSpec)

/-- ITS FALSE NEIGHBOUR: 'it returns false'. Refute it at one input. -/
def fnExactFactsOfBlockWrong : ChangeSpec := { name := "fnExactFactsOfBlock", fn := fun _ => fun
  | [d1, d2] => { results := [.lit (.bool false)], args := [d1, d2] }
  | _ => none }
def FnExactFactsOfBlockWrongFalsely : Prop := fnExactFactsOfBlockRow.holds Try.pinned (OpenSpec.ofChange fnExactFactsOfBlockWrong)

/-- 'laws.FnExactNewSkolemState': WHATEVER THE INPUT: true; the input reads as it did. -/
def fnExactNewSkolemStateSpec : ChangeSpec := { name := "fnExactNewSkolemState", fn := fun _ => fun
  | [d] => { results := [.lit (.bool true)], args := [d] }
  | _ => none }
def fnExactNewSkolemStateRow : OpenClaim := { program := "ythicohakeljdcaa", sum := "2a6f4b0d245b24c4c97260b967f809dc5a0df309f617e60c3cb08e79cdec9ea0", func := "loop.example/g01919/laws.FnExactNewSkolemState", spec := "fnExactNewSkolemState", unfollowed := true, recurses := true, apart := false }
def FnExactNewSkolemStateSaid : Prop := fnExactNewSkolemStateRow.holds Try.pinned (OpenSpec.ofChange fnExactNewSkolemStateSpec)

/-- ITS FALSE NEIGHBOUR: 'it returns false'. Refute it at one input. -/
def fnExactNewSkolemStateWrong : ChangeSpec := { name := "fnExactNewSkolemState", fn := fun _ => fun
  | [d] => { results := [.lit (.bool false)], args := [d] }
  | _ => none }
def FnExactNewSkolemStateWrongFalsely : Prop := fnExactNewSkolemStateRow.holds Try.pinned (OpenSpec.ofChange fnExactNewSkolemStateWrong)

/-- 'laws.FnExactNullBlocks': WHATEVER THE INPUT: true; the input reads as it did. -/
def fnExactNullBlocksSpec : ChangeSpec := { name := "fnExactNullBlocks", fn := fun _ => fun
  | [d] => { results := [.lit (.bool true)], args := [d] }
  | _ => none }
def fnExactNullBlocksRow : OpenClaim := { program := "ythicohakeljdcaa", sum := "2a6f4b0d245b24c4c97260b967f809dc5a0df309f617e60c3cb08e79cdec9ea0", func := "loop.example/g01919/laws.FnExactNullBlocks", spec := "fnExactNullBlocks", unfollowed := true, recurses := true, apart := false }
def FnExactNullBlocksSaid : Prop := fnExactNullBlocksRow.holds Try.pinned (OpenSpec.ofChange fnExactNullBlocksSpec)

/-- ITS FALSE NEIGHBOUR: 'it returns false'. Refute it at one input. -/
def fnExactNullBlocksWrong : ChangeSpec := { name := "fnExactNullBlocks", fn := fun _ => fun
  | [d] => { results := [.lit (.bool false)], args := [d] }
  | _ => none }
def FnExactNullBlocksWrongFalsely : Prop := fnExactNullBlocksRow.holds Try.pinned (OpenSpec.ofChange fnExactNullBlocksWrong)

/- THE SECOND FORM. 'bulk': how many values and letters a reading holds, each counted each time it is reached (what is shared counts as often as it is met; a slice's spare places count too). A statement '..UptoSaid' is the law's where the arguments, and the package variables that the reading takes, are together of bulk at most 1048576: NARROWER than '..Said'. Prove '..Said' where nothing that the law and all that it calls make is longer than what came in: it says more and counts as full. Else prove '..UptoSaid'. A law counts once. -/
mutual
def uptoBulk {H : Type} : DataW H → Nat
  | .lit (.string bytes) => bytes.length + 1
  | .lit _ => 1
  | .nil => 1
  | .ptr d => uptoBulk d + 1
  | .slice elems spare => uptoBulkAll elems + uptoBulkAll spare + 1
  | .agg parts => uptoBulkAll parts + 1
  | .iface _ d => uptoBulk d + 1
  | .map entries => uptoBulkEntries entries + 1
  | .held _ => 1
def uptoBulkAll {H : Type} : List (DataW H) → Nat
  | [] => 0
  | d :: r => uptoBulk d + uptoBulkAll r
def uptoBulkEntries {H : Type} : List (Lit × DataW H) → Nat
  | [] => 0
  | x :: r => uptoBulkEntry x + uptoBulkEntries r
def uptoBulkEntry {H : Type} : Lit × DataW H → Nat
  | (.string bytes, d) => bytes.length + uptoBulk d + 1
  | (_, d) => uptoBulk d + 1
 end
def uptoSmall : (H : Type) → List (DataW H) → Bool := fun _ ds => decide (uptoBulkAll ds ≤ 1048576)
def OpenSpec.upto (s : _root_.Go.ChangeSpec) : _root_.Go.OpenSpec := { _root_.Go.OpenSpec.ofChange s with cond := some uptoSmall }

/-- 'laws.FnExactFactsOfBlock', WHERE WHAT IT READS IS OF BULK AT MOST 1048576: true; the input reads as it did. -/
def fnExactFactsOfBlockUptoRow : OpenClaim := { program := "ythicohakeljdcaa", sum := "2a6f4b0d245b24c4c97260b967f809dc5a0df309f617e60c3cb08e79cdec9ea0", func := "loop.example/g01919/laws.FnExactFactsOfBlock", spec := "fnExactFactsOfBlock", unfollowed := true, recurses := true, apart := false, narrowed := true }
def FnExactFactsOfBlockUptoSaid : Prop := fnExactFactsOfBlockUptoRow.holds Try.pinned (OpenSpec.upto fnExactFactsOfBlockSpec)

/-- 'laws.FnExactNewSkolemState', WHERE WHAT IT READS IS OF BULK AT MOST 1048576: true; the input reads as it did. -/
def fnExactNewSkolemStateUptoRow : OpenClaim := { program := "ythicohakeljdcaa", sum := "2a6f4b0d245b24c4c97260b967f809dc5a0df309f617e60c3cb08e79cdec9ea0", func := "loop.example/g01919/laws.FnExactNewSkolemState", spec := "fnExactNewSkolemState", unfollowed := true, recurses := true, apart := false, narrowed := true }
def FnExactNewSkolemStateUptoSaid : Prop := fnExactNewSkolemStateUptoRow.holds Try.pinned (OpenSpec.upto fnExactNewSkolemStateSpec)

/-- 'laws.FnExactNullBlocks', WHERE WHAT IT READS IS OF BULK AT MOST 1048576: true; the input reads as it did. -/
def fnExactNullBlocksUptoRow : OpenClaim := { program := "ythicohakeljdcaa", sum := "2a6f4b0d245b24c4c97260b967f809dc5a0df309f617e60c3cb08e79cdec9ea0", func := "loop.example/g01919/laws.FnExactNullBlocks", spec := "fnExactNullBlocks", unfollowed := true, recurses := true, apart := false, narrowed := true }
def FnExactNullBlocksUptoSaid : Prop := fnExactNullBlocksUptoRow.holds Try.pinned (OpenSpec.upto fnExactNullBlocksSpec)

end Rows
end Go.Proofs.Ythicohakeljdcaa

/-
  No cell of these rows narrows 'for every input' (looked for: loops, veiled, ifaces, maps, wideKeys, modest, calm, conditions, laid).
  DERIVED. THE GIVEN ROWS OF THIS SEAT. 3 by the template 'for every input the law returns true; each argument reads behind the call as it read before'; 0 by the template 'total and deterministic' (their statements: YtcagegpgalambaaTotals.lean).
  GIVEN WITH THE SEED: the statements are not yours to turn. If you find one false, say at which input.
  Laid BY PROGRAM, IN A SANDBOX (cutbox-rows.mjs): the forced cells as the released guide's own fill.sh prints them over the translation 8110ec07b860c9ea… (all of the seat's roots in one cut). By AI agents, Wed Nov 11 2026. No macro, syntax, notation, axiom, sorry.
-/
import Derived.Test.YtcagegpgalambaaChecked
import GoSem.Claim
import GoSem.ClaimJoined
import GoSem.ClaimMapViews
import Derived.JoinedTies
import Derived.KernelRfl
namespace Go.Proofs.Ytcagegpgalambaa
/- THE CELL 'sum', in the pinned program and in every row, IS THE sha256 OF THE DUMP (.gsa) THAT YtcagegpgalambaaProg.lean LOADS. Nothing in Lean hashes anything: it is a label: what it is worth is what the hold of that sum in a sandbox is worth. -/
noncomputable def Try.pinned : Pinned := { name := "ytcagegpgalambaa", sum := "8110ec07b860c9ea4ec73b8bd876e25c93bd237825ae38d3aad766d69630acde", checked := Try.checked }
namespace Rows
def none {H : Type} : Left H := { results := [], args := [] }

/-- 'privitylaw05.InterpolateWeightsSumToOne': WHATEVER THE INPUT: true; the input reads as it did. -/
def interpolateWeightsSumToOneSpec : ChangeSpec := { name := "interpolateWeightsSumToOne", fn := fun _ => fun
  | [d1, d2, d3] => { results := [.lit (.bool true)], args := [d1, d2, d3] }
  | _ => none }
def interpolateWeightsSumToOneRow : OpenClaim := { program := "ytcagegpgalambaa", sum := "8110ec07b860c9ea4ec73b8bd876e25c93bd237825ae38d3aad766d69630acde", func := "privity/privitylaw05.InterpolateWeightsSumToOne", spec := "interpolateWeightsSumToOne", inPlace := ["math/bits.Add64"], unfollowed := true, recurses := true, apart := false }
def InterpolateWeightsSumToOneSaid : Prop := interpolateWeightsSumToOneRow.holds Try.pinned (OpenSpec.ofChange interpolateWeightsSumToOneSpec)

/-- ITS FALSE NEIGHBOUR: 'it returns false'. Refute it at one input. -/
def interpolateWeightsSumToOneWrong : ChangeSpec := { name := "interpolateWeightsSumToOne", fn := fun _ => fun
  | [d1, d2, d3] => { results := [.lit (.bool false)], args := [d1, d2, d3] }
  | _ => none }
def InterpolateWeightsSumToOneWrongFalsely : Prop := interpolateWeightsSumToOneRow.holds Try.pinned (OpenSpec.ofChange interpolateWeightsSumToOneWrong)

/-- 'privitylaw05.InterpolatePassesThroughPoints': WHATEVER THE INPUT: true; the input reads as it did. -/
def interpolatePassesThroughPointsSpec : ChangeSpec := { name := "interpolatePassesThroughPoints", fn := fun _ => fun
  | [d1, d2] => { results := [.lit (.bool true)], args := [d1, d2] }
  | _ => none }
def interpolatePassesThroughPointsRow : OpenClaim := { program := "ytcagegpgalambaa", sum := "8110ec07b860c9ea4ec73b8bd876e25c93bd237825ae38d3aad766d69630acde", func := "privity/privitylaw05.InterpolatePassesThroughPoints", spec := "interpolatePassesThroughPoints", inPlace := ["math/bits.Add64"], unfollowed := true, recurses := true, apart := false }
def InterpolatePassesThroughPointsSaid : Prop := interpolatePassesThroughPointsRow.holds Try.pinned (OpenSpec.ofChange interpolatePassesThroughPointsSpec)

/-- ITS FALSE NEIGHBOUR: 'it returns false'. Refute it at one input. -/
def interpolatePassesThroughPointsWrong : ChangeSpec := { name := "interpolatePassesThroughPoints", fn := fun _ => fun
  | [d1, d2] => { results := [.lit (.bool false)], args := [d1, d2] }
  | _ => none }
def InterpolatePassesThroughPointsWrongFalsely : Prop := interpolatePassesThroughPointsRow.holds Try.pinned (OpenSpec.ofChange interpolatePassesThroughPointsWrong)

/-- 'privitylaw05.InterpolateVandermondeEvaluates': WHATEVER THE INPUT: true; the input reads as it did. -/
def interpolateVandermondeEvaluatesSpec : ChangeSpec := { name := "interpolateVandermondeEvaluates", fn := fun _ => fun
  | [d1, d2, d3] => { results := [.lit (.bool true)], args := [d1, d2, d3] }
  | _ => none }
def interpolateVandermondeEvaluatesRow : OpenClaim := { program := "ytcagegpgalambaa", sum := "8110ec07b860c9ea4ec73b8bd876e25c93bd237825ae38d3aad766d69630acde", func := "privity/privitylaw05.InterpolateVandermondeEvaluates", spec := "interpolateVandermondeEvaluates", inPlace := ["math/bits.Add64"], unfollowed := true, recurses := true, apart := false }
def InterpolateVandermondeEvaluatesSaid : Prop := interpolateVandermondeEvaluatesRow.holds Try.pinned (OpenSpec.ofChange interpolateVandermondeEvaluatesSpec)

/-- ITS FALSE NEIGHBOUR: 'it returns false'. Refute it at one input. -/
def interpolateVandermondeEvaluatesWrong : ChangeSpec := { name := "interpolateVandermondeEvaluates", fn := fun _ => fun
  | [d1, d2, d3] => { results := [.lit (.bool false)], args := [d1, d2, d3] }
  | _ => none }
def InterpolateVandermondeEvaluatesWrongFalsely : Prop := interpolateVandermondeEvaluatesRow.holds Try.pinned (OpenSpec.ofChange interpolateVandermondeEvaluatesWrong)

/- THE SECOND FORM. 'bulk': how many values and letters a reading holds, each counted each time it is reached (what is shared counts as often as it is met; a slice's spare places count too). A statement '..UptoSaid' is the law's where the arguments, and the package variables that the reading takes, are together of bulk at most 1048576: NARROWER than '..Said'. Prove '..Said' where nothing that the law and all that it calls make is longer than what came in: it says more and counts as full. Else prove '..UptoSaid'. A law counts once. -/
mutual
def uptoBulk {H : Type} : DataW H → Nat
  | .lit (.string bytes) => bytes.length + 1
  | .lit _ => 1
  | .nil => 1
  | .ptr d => uptoBulk d + 1
  | .slice elems spare => uptoBulkAll elems + uptoBulkAll spare + 1
  | .agg parts => uptoBulkAll parts + 1
  | .iface _ d => uptoBulk d + 1
  | .map entries => uptoBulkEntries entries + 1
  | .held _ => 1
def uptoBulkAll {H : Type} : List (DataW H) → Nat
  | [] => 0
  | d :: r => uptoBulk d + uptoBulkAll r
def uptoBulkEntries {H : Type} : List (Lit × DataW H) → Nat
  | [] => 0
  | x :: r => uptoBulkEntry x + uptoBulkEntries r
def uptoBulkEntry {H : Type} : Lit × DataW H → Nat
  | (.string bytes, d) => bytes.length + uptoBulk d + 1
  | (_, d) => uptoBulk d + 1
 end
def uptoSmall : (H : Type) → List (DataW H) → Bool := fun _ ds => decide (uptoBulkAll ds ≤ 1048576)
def OpenSpec.upto (s : _root_.Go.ChangeSpec) : _root_.Go.OpenSpec := { _root_.Go.OpenSpec.ofChange s with cond := some uptoSmall }

/-- 'privitylaw05.InterpolateWeightsSumToOne', WHERE WHAT IT READS IS OF BULK AT MOST 1048576: true; the input reads as it did. -/
def interpolateWeightsSumToOneUptoRow : OpenClaim := { program := "ytcagegpgalambaa", sum := "8110ec07b860c9ea4ec73b8bd876e25c93bd237825ae38d3aad766d69630acde", func := "privity/privitylaw05.InterpolateWeightsSumToOne", spec := "interpolateWeightsSumToOne", inPlace := ["math/bits.Add64"], unfollowed := true, recurses := true, apart := false, narrowed := true }
def InterpolateWeightsSumToOneUptoSaid : Prop := interpolateWeightsSumToOneUptoRow.holds Try.pinned (OpenSpec.upto interpolateWeightsSumToOneSpec)

/-- 'privitylaw05.InterpolatePassesThroughPoints', WHERE WHAT IT READS IS OF BULK AT MOST 1048576: true; the input reads as it did. -/
def interpolatePassesThroughPointsUptoRow : OpenClaim := { program := "ytcagegpgalambaa", sum := "8110ec07b860c9ea4ec73b8bd876e25c93bd237825ae38d3aad766d69630acde", func := "privity/privitylaw05.InterpolatePassesThroughPoints", spec := "interpolatePassesThroughPoints", inPlace := ["math/bits.Add64"], unfollowed := true, recurses := true, apart := false, narrowed := true }
def InterpolatePassesThroughPointsUptoSaid : Prop := interpolatePassesThroughPointsUptoRow.holds Try.pinned (OpenSpec.upto interpolatePassesThroughPointsSpec)

/-- 'privitylaw05.InterpolateVandermondeEvaluates', WHERE WHAT IT READS IS OF BULK AT MOST 1048576: true; the input reads as it did. -/
def interpolateVandermondeEvaluatesUptoRow : OpenClaim := { program := "ytcagegpgalambaa", sum := "8110ec07b860c9ea4ec73b8bd876e25c93bd237825ae38d3aad766d69630acde", func := "privity/privitylaw05.InterpolateVandermondeEvaluates", spec := "interpolateVandermondeEvaluates", inPlace := ["math/bits.Add64"], unfollowed := true, recurses := true, apart := false, narrowed := true }
def InterpolateVandermondeEvaluatesUptoSaid : Prop := interpolateVandermondeEvaluatesUptoRow.holds Try.pinned (OpenSpec.upto interpolateVandermondeEvaluatesSpec)

end Rows
end Go.Proofs.Ytcagegpgalambaa

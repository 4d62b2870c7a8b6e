/-
  No cell of these rows narrows 'for every input' (looked for: loops, veiled, ifaces, maps, wideKeys, modest, calm, conditions, laid).
  DERIVED. THE GIVEN ROWS OF THIS SEAT. 4 by the template 'for every input the law returns true; each argument reads behind the call as it read before'; 0 by the template 'total and deterministic' (their statements: YtfddoegcbpinkaaTotals.lean).
  GIVEN WITH THE SEED: the statements are not yours to turn. If you find one false, say at which input.
  Laid BY PROGRAM, IN A SANDBOX (cutbox-rows.mjs): the forced cells as the released guide's own fill.sh prints them over the translation 095a5934c6afcb45… (all of the seat's roots in one cut). By AI agents, Wed Nov 11 2026. No macro, syntax, notation, axiom, sorry.
-/
import Derived.Test.YtfddoegcbpinkaaChecked
import GoSem.Claim
import GoSem.ClaimJoined
import GoSem.ClaimMapViews
import Derived.JoinedTies
import Derived.KernelRfl
namespace Go.Proofs.Ytfddoegcbpinkaa
/- THE CELL 'sum', in the pinned program and in every row, IS THE sha256 OF THE DUMP (.gsa) THAT YtfddoegcbpinkaaProg.lean LOADS. Nothing in Lean hashes anything: it is a label: what it is worth is what the hold of that sum in a sandbox is worth. -/
noncomputable def Try.pinned : Pinned := { name := "ytfddoegcbpinkaa", sum := "095a5934c6afcb45e9f2bd57a84a1ff8546287191f8af316547b6493044f6537", checked := Try.checked }
namespace Rows
def none {H : Type} : Left H := { results := [], args := [] }

/-- 'privitylaw43.TapeshiftSharingPrivacy': WHATEVER THE INPUT: true; the input reads as it did. -/
def tapeshiftSharingPrivacySpec : ChangeSpec := { name := "tapeshiftSharingPrivacy", fn := fun _ => fun
  | [d] => { results := [.lit (.bool true)], args := [d] }
  | _ => none }
def tapeshiftSharingPrivacyRow : OpenClaim := { program := "ytfddoegcbpinkaa", sum := "095a5934c6afcb45e9f2bd57a84a1ff8546287191f8af316547b6493044f6537", func := "privity/privitylaw43.TapeshiftSharingPrivacy", spec := "tapeshiftSharingPrivacy", inPlace := ["math/bits.Add64"], unfollowed := true, recurses := true, apart := false }
def TapeshiftSharingPrivacySaid : Prop := tapeshiftSharingPrivacyRow.holds Try.pinned (OpenSpec.ofChange tapeshiftSharingPrivacySpec)

/-- ITS FALSE NEIGHBOUR: 'it returns false'. Refute it at one input. -/
def tapeshiftSharingPrivacyWrong : ChangeSpec := { name := "tapeshiftSharingPrivacy", fn := fun _ => fun
  | [d] => { results := [.lit (.bool false)], args := [d] }
  | _ => none }
def TapeshiftSharingPrivacyWrongFalsely : Prop := tapeshiftSharingPrivacyRow.holds Try.pinned (OpenSpec.ofChange tapeshiftSharingPrivacyWrong)

/-- 'privitylaw43.TapeshiftComplete': WHATEVER THE INPUT: true; the input reads as it did. -/
def tapeshiftCompleteSpec : ChangeSpec := { name := "tapeshiftComplete", fn := fun _ => fun
  | [d1, d2] => { results := [.lit (.bool true)], args := [d1, d2] }
  | _ => none }
def tapeshiftCompleteRow : OpenClaim := { program := "ytfddoegcbpinkaa", sum := "095a5934c6afcb45e9f2bd57a84a1ff8546287191f8af316547b6493044f6537", func := "privity/privitylaw43.TapeshiftComplete", spec := "tapeshiftComplete", inPlace := ["math/bits.Add64"], unfollowed := true, recurses := true, apart := false }
def TapeshiftCompleteSaid : Prop := tapeshiftCompleteRow.holds Try.pinned (OpenSpec.ofChange tapeshiftCompleteSpec)

/-- ITS FALSE NEIGHBOUR: 'it returns false'. Refute it at one input. -/
def tapeshiftCompleteWrong : ChangeSpec := { name := "tapeshiftComplete", fn := fun _ => fun
  | [d1, d2] => { results := [.lit (.bool false)], args := [d1, d2] }
  | _ => none }
def TapeshiftCompleteWrongFalsely : Prop := tapeshiftCompleteRow.holds Try.pinned (OpenSpec.ofChange tapeshiftCompleteWrong)

/-- 'privitylaw43.TapeshiftShift': WHATEVER THE INPUT: true; the input reads as it did. -/
def tapeshiftShiftSpec : ChangeSpec := { name := "tapeshiftShift", fn := fun _ => fun
  | [d] => { results := [.lit (.bool true)], args := [d] }
  | _ => none }
def tapeshiftShiftRow : OpenClaim := { program := "ytfddoegcbpinkaa", sum := "095a5934c6afcb45e9f2bd57a84a1ff8546287191f8af316547b6493044f6537", func := "privity/privitylaw43.TapeshiftShift", spec := "tapeshiftShift", inPlace := ["math/bits.Add64"], unfollowed := true, recurses := true, apart := false }
def TapeshiftShiftSaid : Prop := tapeshiftShiftRow.holds Try.pinned (OpenSpec.ofChange tapeshiftShiftSpec)

/-- ITS FALSE NEIGHBOUR: 'it returns false'. Refute it at one input. -/
def tapeshiftShiftWrong : ChangeSpec := { name := "tapeshiftShift", fn := fun _ => fun
  | [d] => { results := [.lit (.bool false)], args := [d] }
  | _ => none }
def TapeshiftShiftWrongFalsely : Prop := tapeshiftShiftRow.holds Try.pinned (OpenSpec.ofChange tapeshiftShiftWrong)

/-- 'privitylaw43.TapeshiftTriplePrivacy': WHATEVER THE INPUT: true; the input reads as it did. -/
def tapeshiftTriplePrivacySpec : ChangeSpec := { name := "tapeshiftTriplePrivacy", fn := fun _ => fun
  | [d] => { results := [.lit (.bool true)], args := [d] }
  | _ => none }
def tapeshiftTriplePrivacyRow : OpenClaim := { program := "ytfddoegcbpinkaa", sum := "095a5934c6afcb45e9f2bd57a84a1ff8546287191f8af316547b6493044f6537", func := "privity/privitylaw43.TapeshiftTriplePrivacy", spec := "tapeshiftTriplePrivacy", inPlace := ["math/bits.Add64"], unfollowed := true, recurses := true, apart := false }
def TapeshiftTriplePrivacySaid : Prop := tapeshiftTriplePrivacyRow.holds Try.pinned (OpenSpec.ofChange tapeshiftTriplePrivacySpec)

/-- ITS FALSE NEIGHBOUR: 'it returns false'. Refute it at one input. -/
def tapeshiftTriplePrivacyWrong : ChangeSpec := { name := "tapeshiftTriplePrivacy", fn := fun _ => fun
  | [d] => { results := [.lit (.bool false)], args := [d] }
  | _ => none }
def TapeshiftTriplePrivacyWrongFalsely : Prop := tapeshiftTriplePrivacyRow.holds Try.pinned (OpenSpec.ofChange tapeshiftTriplePrivacyWrong)

/- THE SECOND FORM. 'bulk': how many values and letters a reading holds, each counted each time it is reached (what is shared counts as often as it is met; a slice's spare places count too). A statement '..UptoSaid' is the law's where the arguments, and the package variables that the reading takes, are together of bulk at most 1048576: NARROWER than '..Said'. Prove '..Said' where nothing that the law and all that it calls make is longer than what came in: it says more and counts as full. Else prove '..UptoSaid'. A law counts once. -/
mutual
def uptoBulk {H : Type} : DataW H → Nat
  | .lit (.string bytes) => bytes.length + 1
  | .lit _ => 1
  | .nil => 1
  | .ptr d => uptoBulk d + 1
  | .slice elems spare => uptoBulkAll elems + uptoBulkAll spare + 1
  | .agg parts => uptoBulkAll parts + 1
  | .iface _ d => uptoBulk d + 1
  | .map entries => uptoBulkEntries entries + 1
  | .held _ => 1
def uptoBulkAll {H : Type} : List (DataW H) → Nat
  | [] => 0
  | d :: r => uptoBulk d + uptoBulkAll r
def uptoBulkEntries {H : Type} : List (Lit × DataW H) → Nat
  | [] => 0
  | x :: r => uptoBulkEntry x + uptoBulkEntries r
def uptoBulkEntry {H : Type} : Lit × DataW H → Nat
  | (.string bytes, d) => bytes.length + uptoBulk d + 1
  | (_, d) => uptoBulk d + 1
 end
def uptoSmall : (H : Type) → List (DataW H) → Bool := fun _ ds => decide (uptoBulkAll ds ≤ 1048576)
def OpenSpec.upto (s : _root_.Go.ChangeSpec) : _root_.Go.OpenSpec := { _root_.Go.OpenSpec.ofChange s with cond := some uptoSmall }

/-- 'privitylaw43.TapeshiftSharingPrivacy', WHERE WHAT IT READS IS OF BULK AT MOST 1048576: true; the input reads as it did. -/
def tapeshiftSharingPrivacyUptoRow : OpenClaim := { program := "ytfddoegcbpinkaa", sum := "095a5934c6afcb45e9f2bd57a84a1ff8546287191f8af316547b6493044f6537", func := "privity/privitylaw43.TapeshiftSharingPrivacy", spec := "tapeshiftSharingPrivacy", inPlace := ["math/bits.Add64"], unfollowed := true, recurses := true, apart := false, narrowed := true }
def TapeshiftSharingPrivacyUptoSaid : Prop := tapeshiftSharingPrivacyUptoRow.holds Try.pinned (OpenSpec.upto tapeshiftSharingPrivacySpec)

/-- 'privitylaw43.TapeshiftComplete', WHERE WHAT IT READS IS OF BULK AT MOST 1048576: true; the input reads as it did. -/
def tapeshiftCompleteUptoRow : OpenClaim := { program := "ytfddoegcbpinkaa", sum := "095a5934c6afcb45e9f2bd57a84a1ff8546287191f8af316547b6493044f6537", func := "privity/privitylaw43.TapeshiftComplete", spec := "tapeshiftComplete", inPlace := ["math/bits.Add64"], unfollowed := true, recurses := true, apart := false, narrowed := true }
def TapeshiftCompleteUptoSaid : Prop := tapeshiftCompleteUptoRow.holds Try.pinned (OpenSpec.upto tapeshiftCompleteSpec)

/-- 'privitylaw43.TapeshiftShift', WHERE WHAT IT READS IS OF BULK AT MOST 1048576: true; the input reads as it did. -/
def tapeshiftShiftUptoRow : OpenClaim := { program := "ytfddoegcbpinkaa", sum := "095a5934c6afcb45e9f2bd57a84a1ff8546287191f8af316547b6493044f6537", func := "privity/privitylaw43.TapeshiftShift", spec := "tapeshiftShift", inPlace := ["math/bits.Add64"], unfollowed := true, recurses := true, apart := false, narrowed := true }
def TapeshiftShiftUptoSaid : Prop := tapeshiftShiftUptoRow.holds Try.pinned (OpenSpec.upto tapeshiftShiftSpec)

/-- 'privitylaw43.TapeshiftTriplePrivacy', WHERE WHAT IT READS IS OF BULK AT MOST 1048576: true; the input reads as it did. -/
def tapeshiftTriplePrivacyUptoRow : OpenClaim := { program := "ytfddoegcbpinkaa", sum := "095a5934c6afcb45e9f2bd57a84a1ff8546287191f8af316547b6493044f6537", func := "privity/privitylaw43.TapeshiftTriplePrivacy", spec := "tapeshiftTriplePrivacy", inPlace := ["math/bits.Add64"], unfollowed := true, recurses := true, apart := false, narrowed := true }
def TapeshiftTriplePrivacyUptoSaid : Prop := tapeshiftTriplePrivacyUptoRow.holds Try.pinned (OpenSpec.upto tapeshiftTriplePrivacySpec)

end Rows
end Go.Proofs.Ytfddoegcbpinkaa

/-
  No cell of these rows narrows 'for every input' (looked for: loops, veiled, ifaces, maps, wideKeys, modest, calm, conditions, laid).
  DERIVED. THE GIVEN ROWS OF THIS SEAT. 5 by the template 'for every input the law returns true; each argument reads behind the call as it read before'; 0 by the template 'total and deterministic' (their statements: YtoghjpoblbdnpaaTotals.lean).
  GIVEN WITH THE SEED: the statements are not yours to turn. If you find one false, say at which input.
  Laid BY PROGRAM, IN A SANDBOX (cutbox-rows.mjs): the forced cells as the released guide's own fill.sh prints them over the translation e0ec76f1b028f906… (all of the seat's roots in one cut). By AI agents, Wed Nov 11 2026. No macro, syntax, notation, axiom, sorry.
-/
import Derived.Test.YtoghjpoblbdnpaaChecked
import GoSem.Claim
import GoSem.ClaimJoined
import GoSem.ClaimMapViews
import Derived.JoinedTies
import Derived.KernelRfl
namespace Go.Proofs.Ytoghjpoblbdnpaa
/- THE CELL 'sum', in the pinned program and in every row, IS THE sha256 OF THE DUMP (.gsa) THAT YtoghjpoblbdnpaaProg.lean LOADS. Nothing in Lean hashes anything: it is a label: what it is worth is what the hold of that sum in a sandbox is worth. -/
noncomputable def Try.pinned : Pinned := { name := "ytoghjpoblbdnpaa", sum := "e0ec76f1b028f906a7ed031a3c06072fcf97c029d4e954893fd307a7a5c75af6", checked := Try.checked }
namespace Rows
def none {H : Type} : Left H := { results := [], args := [] }

/-- 'bellwetherlaw22.WatchSilence': WHATEVER THE INPUT: true; the input reads as it did. -/
def watchSilenceSpec : ChangeSpec := { name := "watchSilence", fn := fun _ => fun
  | [d1, d2, d3] => { results := [.lit (.bool true)], args := [d1, d2, d3] }
  | _ => none }
def watchSilenceRow : OpenClaim := { program := "ytoghjpoblbdnpaa", sum := "e0ec76f1b028f906a7ed031a3c06072fcf97c029d4e954893fd307a7a5c75af6", func := "bellwether/bellwetherlaw22.WatchSilence", spec := "watchSilence", inPlace := ["slices.overlaps[bellwether/api.Watch]", "math/bits.Add64"], unfollowed := true, recurses := true, named := ["math/bits.divideError", "math/bits.overflowError"], apart := false }
def WatchSilenceSaid : Prop := watchSilenceRow.holds Try.pinned (OpenSpec.ofChange watchSilenceSpec)

/-- ITS FALSE NEIGHBOUR: 'it returns false'. Refute it at one input. -/
def watchSilenceWrong : ChangeSpec := { name := "watchSilence", fn := fun _ => fun
  | [d1, d2, d3] => { results := [.lit (.bool false)], args := [d1, d2, d3] }
  | _ => none }
def WatchSilenceWrongFalsely : Prop := watchSilenceRow.holds Try.pinned (OpenSpec.ofChange watchSilenceWrong)

/-- 'bellwetherlaw22.WatchNews': WHATEVER THE INPUT: true; the input reads as it did. -/
def watchNewsSpec : ChangeSpec := { name := "watchNews", fn := fun _ => fun
  | [d1, d2, d3] => { results := [.lit (.bool true)], args := [d1, d2, d3] }
  | _ => none }
def watchNewsRow : OpenClaim := { program := "ytoghjpoblbdnpaa", sum := "e0ec76f1b028f906a7ed031a3c06072fcf97c029d4e954893fd307a7a5c75af6", func := "bellwether/bellwetherlaw22.WatchNews", spec := "watchNews", inPlace := ["slices.overlaps[bellwether/api.Watch]", "math/bits.Add64"], unfollowed := true, recurses := true, named := ["math/bits.divideError", "math/bits.overflowError"], apart := false }
def WatchNewsSaid : Prop := watchNewsRow.holds Try.pinned (OpenSpec.ofChange watchNewsSpec)

/-- ITS FALSE NEIGHBOUR: 'it returns false'. Refute it at one input. -/
def watchNewsWrong : ChangeSpec := { name := "watchNews", fn := fun _ => fun
  | [d1, d2, d3] => { results := [.lit (.bool false)], args := [d1, d2, d3] }
  | _ => none }
def WatchNewsWrongFalsely : Prop := watchNewsRow.holds Try.pinned (OpenSpec.ofChange watchNewsWrong)

/-- 'bellwetherlaw22.WatchBirth': WHATEVER THE INPUT: true; the input reads as it did. -/
def watchBirthSpec : ChangeSpec := { name := "watchBirth", fn := fun _ => fun
  | [d1, d2, d3] => { results := [.lit (.bool true)], args := [d1, d2, d3] }
  | _ => none }
def watchBirthRow : OpenClaim := { program := "ytoghjpoblbdnpaa", sum := "e0ec76f1b028f906a7ed031a3c06072fcf97c029d4e954893fd307a7a5c75af6", func := "bellwether/bellwetherlaw22.WatchBirth", spec := "watchBirth", inPlace := ["slices.overlaps[bellwether/api.Watch]", "math/bits.Add64"], unfollowed := true, recurses := true, named := ["math/bits.divideError", "math/bits.overflowError"], apart := false }
def WatchBirthSaid : Prop := watchBirthRow.holds Try.pinned (OpenSpec.ofChange watchBirthSpec)

/-- ITS FALSE NEIGHBOUR: 'it returns false'. Refute it at one input. -/
def watchBirthWrong : ChangeSpec := { name := "watchBirth", fn := fun _ => fun
  | [d1, d2, d3] => { results := [.lit (.bool false)], args := [d1, d2, d3] }
  | _ => none }
def WatchBirthWrongFalsely : Prop := watchBirthRow.holds Try.pinned (OpenSpec.ofChange watchBirthWrong)

/-- 'bellwetherlaw22.WatchParts': WHATEVER THE INPUT: true; the input reads as it did. -/
def watchPartsSpec : ChangeSpec := { name := "watchParts", fn := fun _ => fun
  | [d1, d2] => { results := [.lit (.bool true)], args := [d1, d2] }
  | _ => none }
def watchPartsRow : OpenClaim := { program := "ytoghjpoblbdnpaa", sum := "e0ec76f1b028f906a7ed031a3c06072fcf97c029d4e954893fd307a7a5c75af6", func := "bellwether/bellwetherlaw22.WatchParts", spec := "watchParts", inPlace := ["slices.overlaps[bellwether/api.Watch]", "math/bits.Add64"], unfollowed := true, recurses := true, named := ["math/bits.divideError", "math/bits.overflowError"], apart := false }
def WatchPartsSaid : Prop := watchPartsRow.holds Try.pinned (OpenSpec.ofChange watchPartsSpec)

/-- ITS FALSE NEIGHBOUR: 'it returns false'. Refute it at one input. -/
def watchPartsWrong : ChangeSpec := { name := "watchParts", fn := fun _ => fun
  | [d1, d2] => { results := [.lit (.bool false)], args := [d1, d2] }
  | _ => none }
def WatchPartsWrongFalsely : Prop := watchPartsRow.holds Try.pinned (OpenSpec.ofChange watchPartsWrong)

/-- 'bellwetherlaw22.WatchHears': WHATEVER THE INPUT: true; the input reads as it did. -/
def watchHearsSpec : ChangeSpec := { name := "watchHears", fn := fun _ => fun
  | [d1, d2, d3] => { results := [.lit (.bool true)], args := [d1, d2, d3] }
  | _ => none }
def watchHearsRow : OpenClaim := { program := "ytoghjpoblbdnpaa", sum := "e0ec76f1b028f906a7ed031a3c06072fcf97c029d4e954893fd307a7a5c75af6", func := "bellwether/bellwetherlaw22.WatchHears", spec := "watchHears", inPlace := ["slices.overlaps[bellwether/api.Watch]", "math/bits.Add64"], unfollowed := true, recurses := true, named := ["math/bits.divideError", "math/bits.overflowError"], apart := false }
def WatchHearsSaid : Prop := watchHearsRow.holds Try.pinned (OpenSpec.ofChange watchHearsSpec)

/-- ITS FALSE NEIGHBOUR: 'it returns false'. Refute it at one input. -/
def watchHearsWrong : ChangeSpec := { name := "watchHears", fn := fun _ => fun
  | [d1, d2, d3] => { results := [.lit (.bool false)], args := [d1, d2, d3] }
  | _ => none }
def WatchHearsWrongFalsely : Prop := watchHearsRow.holds Try.pinned (OpenSpec.ofChange watchHearsWrong)

/- THE SECOND FORM. 'bulk': how many values and letters a reading holds, each counted each time it is reached (what is shared counts as often as it is met; a slice's spare places count too). A statement '..UptoSaid' is the law's where the arguments, and the package variables that the reading takes, are together of bulk at most 1048576: NARROWER than '..Said'. Prove '..Said' where nothing that the law and all that it calls make is longer than what came in: it says more and counts as full. Else prove '..UptoSaid'. A law counts once. -/
mutual
def uptoBulk {H : Type} : DataW H → Nat
  | .lit (.string bytes) => bytes.length + 1
  | .lit _ => 1
  | .nil => 1
  | .ptr d => uptoBulk d + 1
  | .slice elems spare => uptoBulkAll elems + uptoBulkAll spare + 1
  | .agg parts => uptoBulkAll parts + 1
  | .iface _ d => uptoBulk d + 1
  | .map entries => uptoBulkEntries entries + 1
  | .held _ => 1
def uptoBulkAll {H : Type} : List (DataW H) → Nat
  | [] => 0
  | d :: r => uptoBulk d + uptoBulkAll r
def uptoBulkEntries {H : Type} : List (Lit × DataW H) → Nat
  | [] => 0
  | x :: r => uptoBulkEntry x + uptoBulkEntries r
def uptoBulkEntry {H : Type} : Lit × DataW H → Nat
  | (.string bytes, d) => bytes.length + uptoBulk d + 1
  | (_, d) => uptoBulk d + 1
 end
def uptoSmall : (H : Type) → List (DataW H) → Bool := fun _ ds => decide (uptoBulkAll ds ≤ 1048576)
def OpenSpec.upto (s : _root_.Go.ChangeSpec) : _root_.Go.OpenSpec := { _root_.Go.OpenSpec.ofChange s with cond := some uptoSmall }

/-- 'bellwetherlaw22.WatchSilence', WHERE WHAT IT READS IS OF BULK AT MOST 1048576: true; the input reads as it did. -/
def watchSilenceUptoRow : OpenClaim := { program := "ytoghjpoblbdnpaa", sum := "e0ec76f1b028f906a7ed031a3c06072fcf97c029d4e954893fd307a7a5c75af6", func := "bellwether/bellwetherlaw22.WatchSilence", spec := "watchSilence", inPlace := ["slices.overlaps[bellwether/api.Watch]", "math/bits.Add64"], unfollowed := true, recurses := true, named := ["math/bits.divideError", "math/bits.overflowError"], apart := false, narrowed := true }
def WatchSilenceUptoSaid : Prop := watchSilenceUptoRow.holds Try.pinned (OpenSpec.upto watchSilenceSpec)

/-- 'bellwetherlaw22.WatchNews', WHERE WHAT IT READS IS OF BULK AT MOST 1048576: true; the input reads as it did. -/
def watchNewsUptoRow : OpenClaim := { program := "ytoghjpoblbdnpaa", sum := "e0ec76f1b028f906a7ed031a3c06072fcf97c029d4e954893fd307a7a5c75af6", func := "bellwether/bellwetherlaw22.WatchNews", spec := "watchNews", inPlace := ["slices.overlaps[bellwether/api.Watch]", "math/bits.Add64"], unfollowed := true, recurses := true, named := ["math/bits.divideError", "math/bits.overflowError"], apart := false, narrowed := true }
def WatchNewsUptoSaid : Prop := watchNewsUptoRow.holds Try.pinned (OpenSpec.upto watchNewsSpec)

/-- 'bellwetherlaw22.WatchBirth', WHERE WHAT IT READS IS OF BULK AT MOST 1048576: true; the input reads as it did. -/
def watchBirthUptoRow : OpenClaim := { program := "ytoghjpoblbdnpaa", sum := "e0ec76f1b028f906a7ed031a3c06072fcf97c029d4e954893fd307a7a5c75af6", func := "bellwether/bellwetherlaw22.WatchBirth", spec := "watchBirth", inPlace := ["slices.overlaps[bellwether/api.Watch]", "math/bits.Add64"], unfollowed := true, recurses := true, named := ["math/bits.divideError", "math/bits.overflowError"], apart := false, narrowed := true }
def WatchBirthUptoSaid : Prop := watchBirthUptoRow.holds Try.pinned (OpenSpec.upto watchBirthSpec)

/-- 'bellwetherlaw22.WatchParts', WHERE WHAT IT READS IS OF BULK AT MOST 1048576: true; the input reads as it did. -/
def watchPartsUptoRow : OpenClaim := { program := "ytoghjpoblbdnpaa", sum := "e0ec76f1b028f906a7ed031a3c06072fcf97c029d4e954893fd307a7a5c75af6", func := "bellwether/bellwetherlaw22.WatchParts", spec := "watchParts", inPlace := ["slices.overlaps[bellwether/api.Watch]", "math/bits.Add64"], unfollowed := true, recurses := true, named := ["math/bits.divideError", "math/bits.overflowError"], apart := false, narrowed := true }
def WatchPartsUptoSaid : Prop := watchPartsUptoRow.holds Try.pinned (OpenSpec.upto watchPartsSpec)

/-- 'bellwetherlaw22.WatchHears', WHERE WHAT IT READS IS OF BULK AT MOST 1048576: true; the input reads as it did. -/
def watchHearsUptoRow : OpenClaim := { program := "ytoghjpoblbdnpaa", sum := "e0ec76f1b028f906a7ed031a3c06072fcf97c029d4e954893fd307a7a5c75af6", func := "bellwether/bellwetherlaw22.WatchHears", spec := "watchHears", inPlace := ["slices.overlaps[bellwether/api.Watch]", "math/bits.Add64"], unfollowed := true, recurses := true, named := ["math/bits.divideError", "math/bits.overflowError"], apart := false, narrowed := true }
def WatchHearsUptoSaid : Prop := watchHearsUptoRow.holds Try.pinned (OpenSpec.upto watchHearsSpec)

end Rows
end Go.Proofs.Ytoghjpoblbdnpaa

/-
  No cell of these rows narrows 'for every input' (looked for: loops, veiled, ifaces, maps, wideKeys, modest, calm, conditions, laid).
  DERIVED. THE GIVEN ROWS OF THIS SEAT. 6 by the template 'for every input the law returns true; each argument reads behind the call as it read before'; 0 by the template 'total and deterministic' (their statements: YtfoeahjbkmdgfaaTotals.lean).
  GIVEN WITH THE SEED: the statements are not yours to turn. If you find one false, say at which input.
  Laid BY PROGRAM, IN A SANDBOX (cutbox-rows.mjs): the forced cells as the released guide's own fill.sh prints them over the translation 883d0125850a7aa1… (all of the seat's roots in one cut). By AI agents, Wed Nov 11 2026. No macro, syntax, notation, axiom, sorry.
-/
import Derived.Test.YtfoeahjbkmdgfaaChecked
import GoSem.Claim
import GoSem.ClaimJoined
import GoSem.ClaimMapViews
import Derived.JoinedTies
import Derived.KernelRfl
namespace Go.Proofs.Ytfoeahjbkmdgfaa
/- THE CELL 'sum', in the pinned program and in every row, IS THE sha256 OF THE DUMP (.gsa) THAT YtfoeahjbkmdgfaaProg.lean LOADS. Nothing in Lean hashes anything: it is a label: what it is worth is what the hold of that sum in a sandbox is worth. -/
noncomputable def Try.pinned : Pinned := { name := "ytfoeahjbkmdgfaa", sum := "883d0125850a7aa118af15fac62323bfe0f9058bbe792b35f47e85f59b7a958e", checked := Try.checked }
namespace Rows
def none {H : Type} : Left H := { results := [], args := [] }

/-- 'bellwetherlaw05.StateSets': WHATEVER THE INPUT: true; the input reads as it did. -/
def stateSetsSpec : ChangeSpec := { name := "stateSets", fn := fun _ => fun
  | [d1, d2, d3] => { results := [.lit (.bool true)], args := [d1, d2, d3] }
  | _ => none }
def stateSetsRow : OpenClaim := { program := "ytfoeahjbkmdgfaa", sum := "883d0125850a7aa118af15fac62323bfe0f9058bbe792b35f47e85f59b7a958e", func := "bellwether/bellwetherlaw05.StateSets", spec := "stateSets", inPlace := ["slices.overlaps[bellwether/api.Entry]"], unfollowed := true, recurses := true, apart := false }
def StateSetsSaid : Prop := stateSetsRow.holds Try.pinned (OpenSpec.ofChange stateSetsSpec)

/-- ITS FALSE NEIGHBOUR: 'it returns false'. Refute it at one input. -/
def stateSetsWrong : ChangeSpec := { name := "stateSets", fn := fun _ => fun
  | [d1, d2, d3] => { results := [.lit (.bool false)], args := [d1, d2, d3] }
  | _ => none }
def StateSetsWrongFalsely : Prop := stateSetsRow.holds Try.pinned (OpenSpec.ofChange stateSetsWrong)

/-- 'bellwetherlaw05.StateLattice': WHATEVER THE INPUT: true; the input reads as it did. -/
def stateLatticeSpec : ChangeSpec := { name := "stateLattice", fn := fun _ => fun
  | [d1, d2, d3] => { results := [.lit (.bool true)], args := [d1, d2, d3] }
  | _ => none }
def stateLatticeRow : OpenClaim := { program := "ytfoeahjbkmdgfaa", sum := "883d0125850a7aa118af15fac62323bfe0f9058bbe792b35f47e85f59b7a958e", func := "bellwether/bellwetherlaw05.StateLattice", spec := "stateLattice", inPlace := ["slices.overlaps[bellwether/api.Entry]"], unfollowed := true, recurses := true, apart := false }
def StateLatticeSaid : Prop := stateLatticeRow.holds Try.pinned (OpenSpec.ofChange stateLatticeSpec)

/-- ITS FALSE NEIGHBOUR: 'it returns false'. Refute it at one input. -/
def stateLatticeWrong : ChangeSpec := { name := "stateLattice", fn := fun _ => fun
  | [d1, d2, d3] => { results := [.lit (.bool false)], args := [d1, d2, d3] }
  | _ => none }
def StateLatticeWrongFalsely : Prop := stateLatticeRow.holds Try.pinned (OpenSpec.ofChange stateLatticeWrong)

/-- 'bellwetherlaw05.StateForward': WHATEVER THE INPUT: true; the input reads as it did. -/
def stateForwardSpec : ChangeSpec := { name := "stateForward", fn := fun _ => fun
  | [d1, d2, d3] => { results := [.lit (.bool true)], args := [d1, d2, d3] }
  | _ => none }
def stateForwardRow : OpenClaim := { program := "ytfoeahjbkmdgfaa", sum := "883d0125850a7aa118af15fac62323bfe0f9058bbe792b35f47e85f59b7a958e", func := "bellwether/bellwetherlaw05.StateForward", spec := "stateForward", inPlace := ["slices.overlaps[bellwether/api.Entry]"], unfollowed := true, recurses := true, apart := false }
def StateForwardSaid : Prop := stateForwardRow.holds Try.pinned (OpenSpec.ofChange stateForwardSpec)

/-- ITS FALSE NEIGHBOUR: 'it returns false'. Refute it at one input. -/
def stateForwardWrong : ChangeSpec := { name := "stateForward", fn := fun _ => fun
  | [d1, d2, d3] => { results := [.lit (.bool false)], args := [d1, d2, d3] }
  | _ => none }
def StateForwardWrongFalsely : Prop := stateForwardRow.holds Try.pinned (OpenSpec.ofChange stateForwardWrong)

/-- 'bellwetherlaw05.StateOvers': WHATEVER THE INPUT: true; the input reads as it did. -/
def stateOversSpec : ChangeSpec := { name := "stateOvers", fn := fun _ => fun
  | [d1, d2] => { results := [.lit (.bool true)], args := [d1, d2] }
  | _ => none }
def stateOversRow : OpenClaim := { program := "ytfoeahjbkmdgfaa", sum := "883d0125850a7aa118af15fac62323bfe0f9058bbe792b35f47e85f59b7a958e", func := "bellwether/bellwetherlaw05.StateOvers", spec := "stateOvers", inPlace := ["slices.overlaps[bellwether/api.Entry]"], unfollowed := true, recurses := true, apart := false }
def StateOversSaid : Prop := stateOversRow.holds Try.pinned (OpenSpec.ofChange stateOversSpec)

/-- ITS FALSE NEIGHBOUR: 'it returns false'. Refute it at one input. -/
def stateOversWrong : ChangeSpec := { name := "stateOvers", fn := fun _ => fun
  | [d1, d2] => { results := [.lit (.bool false)], args := [d1, d2] }
  | _ => none }
def StateOversWrongFalsely : Prop := stateOversRow.holds Try.pinned (OpenSpec.ofChange stateOversWrong)

/-- 'bellwetherlaw05.StateParts': WHATEVER THE INPUT: true; the input reads as it did. -/
def statePartsSpec : ChangeSpec := { name := "stateParts", fn := fun _ => fun
  | [d1, d2] => { results := [.lit (.bool true)], args := [d1, d2] }
  | _ => none }
def statePartsRow : OpenClaim := { program := "ytfoeahjbkmdgfaa", sum := "883d0125850a7aa118af15fac62323bfe0f9058bbe792b35f47e85f59b7a958e", func := "bellwether/bellwetherlaw05.StateParts", spec := "stateParts", inPlace := ["slices.overlaps[bellwether/api.Entry]"], unfollowed := true, recurses := true, apart := false }
def StatePartsSaid : Prop := statePartsRow.holds Try.pinned (OpenSpec.ofChange statePartsSpec)

/-- ITS FALSE NEIGHBOUR: 'it returns false'. Refute it at one input. -/
def statePartsWrong : ChangeSpec := { name := "stateParts", fn := fun _ => fun
  | [d1, d2] => { results := [.lit (.bool false)], args := [d1, d2] }
  | _ => none }
def StatePartsWrongFalsely : Prop := statePartsRow.holds Try.pinned (OpenSpec.ofChange statePartsWrong)

/-- 'bellwetherlaw05.StateAsks': WHATEVER THE INPUT: true; the input reads as it did. -/
def stateAsksSpec : ChangeSpec := { name := "stateAsks", fn := fun _ => fun
  | [d1, d2, d3] => { results := [.lit (.bool true)], args := [d1, d2, d3] }
  | _ => none }
def stateAsksRow : OpenClaim := { program := "ytfoeahjbkmdgfaa", sum := "883d0125850a7aa118af15fac62323bfe0f9058bbe792b35f47e85f59b7a958e", func := "bellwether/bellwetherlaw05.StateAsks", spec := "stateAsks", inPlace := ["slices.overlaps[bellwether/api.Entry]"], unfollowed := true, recurses := true, apart := false }
def StateAsksSaid : Prop := stateAsksRow.holds Try.pinned (OpenSpec.ofChange stateAsksSpec)

/-- ITS FALSE NEIGHBOUR: 'it returns false'. Refute it at one input. -/
def stateAsksWrong : ChangeSpec := { name := "stateAsks", fn := fun _ => fun
  | [d1, d2, d3] => { results := [.lit (.bool false)], args := [d1, d2, d3] }
  | _ => none }
def StateAsksWrongFalsely : Prop := stateAsksRow.holds Try.pinned (OpenSpec.ofChange stateAsksWrong)

/- THE SECOND FORM. 'bulk': how many values and letters a reading holds, each counted each time it is reached (what is shared counts as often as it is met; a slice's spare places count too). A statement '..UptoSaid' is the law's where the arguments, and the package variables that the reading takes, are together of bulk at most 1048576: NARROWER than '..Said'. Prove '..Said' where nothing that the law and all that it calls make is longer than what came in: it says more and counts as full. Else prove '..UptoSaid'. A law counts once. -/
mutual
def uptoBulk {H : Type} : DataW H → Nat
  | .lit (.string bytes) => bytes.length + 1
  | .lit _ => 1
  | .nil => 1
  | .ptr d => uptoBulk d + 1
  | .slice elems spare => uptoBulkAll elems + uptoBulkAll spare + 1
  | .agg parts => uptoBulkAll parts + 1
  | .iface _ d => uptoBulk d + 1
  | .map entries => uptoBulkEntries entries + 1
  | .held _ => 1
def uptoBulkAll {H : Type} : List (DataW H) → Nat
  | [] => 0
  | d :: r => uptoBulk d + uptoBulkAll r
def uptoBulkEntries {H : Type} : List (Lit × DataW H) → Nat
  | [] => 0
  | x :: r => uptoBulkEntry x + uptoBulkEntries r
def uptoBulkEntry {H : Type} : Lit × DataW H → Nat
  | (.string bytes, d) => bytes.length + uptoBulk d + 1
  | (_, d) => uptoBulk d + 1
 end
def uptoSmall : (H : Type) → List (DataW H) → Bool := fun _ ds => decide (uptoBulkAll ds ≤ 1048576)
def OpenSpec.upto (s : _root_.Go.ChangeSpec) : _root_.Go.OpenSpec := { _root_.Go.OpenSpec.ofChange s with cond := some uptoSmall }

/-- 'bellwetherlaw05.StateSets', WHERE WHAT IT READS IS OF BULK AT MOST 1048576: true; the input reads as it did. -/
def stateSetsUptoRow : OpenClaim := { program := "ytfoeahjbkmdgfaa", sum := "883d0125850a7aa118af15fac62323bfe0f9058bbe792b35f47e85f59b7a958e", func := "bellwether/bellwetherlaw05.StateSets", spec := "stateSets", inPlace := ["slices.overlaps[bellwether/api.Entry]"], unfollowed := true, recurses := true, apart := false, narrowed := true }
def StateSetsUptoSaid : Prop := stateSetsUptoRow.holds Try.pinned (OpenSpec.upto stateSetsSpec)

/-- 'bellwetherlaw05.StateLattice', WHERE WHAT IT READS IS OF BULK AT MOST 1048576: true; the input reads as it did. -/
def stateLatticeUptoRow : OpenClaim := { program := "ytfoeahjbkmdgfaa", sum := "883d0125850a7aa118af15fac62323bfe0f9058bbe792b35f47e85f59b7a958e", func := "bellwether/bellwetherlaw05.StateLattice", spec := "stateLattice", inPlace := ["slices.overlaps[bellwether/api.Entry]"], unfollowed := true, recurses := true, apart := false, narrowed := true }
def StateLatticeUptoSaid : Prop := stateLatticeUptoRow.holds Try.pinned (OpenSpec.upto stateLatticeSpec)

/-- 'bellwetherlaw05.StateForward', WHERE WHAT IT READS IS OF BULK AT MOST 1048576: true; the input reads as it did. -/
def stateForwardUptoRow : OpenClaim := { program := "ytfoeahjbkmdgfaa", sum := "883d0125850a7aa118af15fac62323bfe0f9058bbe792b35f47e85f59b7a958e", func := "bellwether/bellwetherlaw05.StateForward", spec := "stateForward", inPlace := ["slices.overlaps[bellwether/api.Entry]"], unfollowed := true, recurses := true, apart := false, narrowed := true }
def StateForwardUptoSaid : Prop := stateForwardUptoRow.holds Try.pinned (OpenSpec.upto stateForwardSpec)

/-- 'bellwetherlaw05.StateOvers', WHERE WHAT IT READS IS OF BULK AT MOST 1048576: true; the input reads as it did. -/
def stateOversUptoRow : OpenClaim := { program := "ytfoeahjbkmdgfaa", sum := "883d0125850a7aa118af15fac62323bfe0f9058bbe792b35f47e85f59b7a958e", func := "bellwether/bellwetherlaw05.StateOvers", spec := "stateOvers", inPlace := ["slices.overlaps[bellwether/api.Entry]"], unfollowed := true, recurses := true, apart := false, narrowed := true }
def StateOversUptoSaid : Prop := stateOversUptoRow.holds Try.pinned (OpenSpec.upto stateOversSpec)

/-- 'bellwetherlaw05.StateParts', WHERE WHAT IT READS IS OF BULK AT MOST 1048576: true; the input reads as it did. -/
def statePartsUptoRow : OpenClaim := { program := "ytfoeahjbkmdgfaa", sum := "883d0125850a7aa118af15fac62323bfe0f9058bbe792b35f47e85f59b7a958e", func := "bellwether/bellwetherlaw05.StateParts", spec := "stateParts", inPlace := ["slices.overlaps[bellwether/api.Entry]"], unfollowed := true, recurses := true, apart := false, narrowed := true }
def StatePartsUptoSaid : Prop := statePartsUptoRow.holds Try.pinned (OpenSpec.upto statePartsSpec)

/-- 'bellwetherlaw05.StateAsks', WHERE WHAT IT READS IS OF BULK AT MOST 1048576: true; the input reads as it did. -/
def stateAsksUptoRow : OpenClaim := { program := "ytfoeahjbkmdgfaa", sum := "883d0125850a7aa118af15fac62323bfe0f9058bbe792b35f47e85f59b7a958e", func := "bellwether/bellwetherlaw05.StateAsks", spec := "stateAsks", inPlace := ["slices.overlaps[bellwether/api.Entry]"], unfollowed := true, recurses := true, apart := false, narrowed := true }
def StateAsksUptoSaid : Prop := stateAsksUptoRow.holds Try.pinned (OpenSpec.upto stateAsksSpec)

end Rows
end Go.Proofs.Ytfoeahjbkmdgfaa

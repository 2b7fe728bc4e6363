/-
  No cell of these rows narrows 'for every input' (looked for: loops, veiled, ifaces, maps, wideKeys, modest, calm, conditions, laid).
  DERIVED. THE GIVEN ROWS OF THIS SEAT. 4 by the template 'for every input the law returns true; each argument reads behind the call as it read before'; 0 by the template 'total and deterministic' (their statements: YtonggencfnaheaaTotals.lean).
  GIVEN WITH THE SEED: the statements are not yours to turn. If you find one false, say at which input.
  Laid BY PROGRAM, IN A SANDBOX (cutbox-rows.mjs): the forced cells as the released guide's own fill.sh prints them over the translation b9d96aa4cb710053… (all of the seat's roots in one cut). By AI agents, Wed Nov 11 2026. No macro, syntax, notation, axiom, sorry.
-/
import Derived.Test.YtonggencfnaheaaChecked
import GoSem.Claim
import GoSem.ClaimJoined
import GoSem.ClaimMapViews
import Derived.JoinedTies
import Derived.KernelRfl
namespace Go.Proofs.Ytonggencfnaheaa
/- THE CELL 'sum', in the pinned program and in every row, IS THE sha256 OF THE DUMP (.gsa) THAT YtonggencfnaheaaProg.lean LOADS. Nothing in Lean hashes anything: it is a label: what it is worth is what the hold of that sum in a sandbox is worth. -/
noncomputable def Try.pinned : Pinned := { name := "ytonggencfnaheaa", sum := "b9d96aa4cb71005338aba4ef4d722b1f9294b711040f007d75d765d95be9f375", checked := Try.checked }
namespace Rows
def none {H : Type} : Left H := { results := [], args := [] }

/-- 'bellwetherlaw21.WardSplits': WHATEVER THE INPUT: true; the input reads as it did. -/
def wardSplitsSpec : ChangeSpec := { name := "wardSplits", fn := fun _ => fun
  | [d1, d2, d3] => { results := [.lit (.bool true)], args := [d1, d2, d3] }
  | _ => none }
def wardSplitsRow : OpenClaim := { program := "ytonggencfnaheaa", sum := "b9d96aa4cb71005338aba4ef4d722b1f9294b711040f007d75d765d95be9f375", func := "bellwether/bellwetherlaw21.WardSplits", spec := "wardSplits", inPlace := ["slices.overlaps[bellwether/api.Ward]"], unfollowed := true, recurses := true, apart := false }
def WardSplitsSaid : Prop := wardSplitsRow.holds Try.pinned (OpenSpec.ofChange wardSplitsSpec)

/-- ITS FALSE NEIGHBOUR: 'it returns false'. Refute it at one input. -/
def wardSplitsWrong : ChangeSpec := { name := "wardSplits", fn := fun _ => fun
  | [d1, d2, d3] => { results := [.lit (.bool false)], args := [d1, d2, d3] }
  | _ => none }
def WardSplitsWrongFalsely : Prop := wardSplitsRow.holds Try.pinned (OpenSpec.ofChange wardSplitsWrong)

/-- 'bellwetherlaw21.WardUntil': WHATEVER THE INPUT: true; the input reads as it did. -/
def wardUntilSpec : ChangeSpec := { name := "wardUntil", fn := fun _ => fun
  | [d1, d2, d3] => { results := [.lit (.bool true)], args := [d1, d2, d3] }
  | _ => none }
def wardUntilRow : OpenClaim := { program := "ytonggencfnaheaa", sum := "b9d96aa4cb71005338aba4ef4d722b1f9294b711040f007d75d765d95be9f375", func := "bellwether/bellwetherlaw21.WardUntil", spec := "wardUntil", inPlace := ["slices.overlaps[bellwether/api.Ward]"], unfollowed := true, recurses := true, apart := false }
def WardUntilSaid : Prop := wardUntilRow.holds Try.pinned (OpenSpec.ofChange wardUntilSpec)

/-- ITS FALSE NEIGHBOUR: 'it returns false'. Refute it at one input. -/
def wardUntilWrong : ChangeSpec := { name := "wardUntil", fn := fun _ => fun
  | [d1, d2, d3] => { results := [.lit (.bool false)], args := [d1, d2, d3] }
  | _ => none }
def WardUntilWrongFalsely : Prop := wardUntilRow.holds Try.pinned (OpenSpec.ofChange wardUntilWrong)

/-- 'bellwetherlaw21.WardTwice': WHATEVER THE INPUT: true; the input reads as it did. -/
def wardTwiceSpec : ChangeSpec := { name := "wardTwice", fn := fun _ => fun
  | [d1, d2, d3] => { results := [.lit (.bool true)], args := [d1, d2, d3] }
  | _ => none }
def wardTwiceRow : OpenClaim := { program := "ytonggencfnaheaa", sum := "b9d96aa4cb71005338aba4ef4d722b1f9294b711040f007d75d765d95be9f375", func := "bellwether/bellwetherlaw21.WardTwice", spec := "wardTwice", inPlace := ["slices.overlaps[bellwether/api.Ward]"], unfollowed := true, recurses := true, apart := false }
def WardTwiceSaid : Prop := wardTwiceRow.holds Try.pinned (OpenSpec.ofChange wardTwiceSpec)

/-- ITS FALSE NEIGHBOUR: 'it returns false'. Refute it at one input. -/
def wardTwiceWrong : ChangeSpec := { name := "wardTwice", fn := fun _ => fun
  | [d1, d2, d3] => { results := [.lit (.bool false)], args := [d1, d2, d3] }
  | _ => none }
def WardTwiceWrongFalsely : Prop := wardTwiceRow.holds Try.pinned (OpenSpec.ofChange wardTwiceWrong)

/-- 'bellwetherlaw21.WardAsks': WHATEVER THE INPUT: true; the input reads as it did. -/
def wardAsksSpec : ChangeSpec := { name := "wardAsks", fn := fun _ => fun
  | [d1, d2, d3] => { results := [.lit (.bool true)], args := [d1, d2, d3] }
  | _ => none }
def wardAsksRow : OpenClaim := { program := "ytonggencfnaheaa", sum := "b9d96aa4cb71005338aba4ef4d722b1f9294b711040f007d75d765d95be9f375", func := "bellwether/bellwetherlaw21.WardAsks", spec := "wardAsks", inPlace := ["slices.overlaps[bellwether/api.Ward]"], unfollowed := true, recurses := true, apart := false }
def WardAsksSaid : Prop := wardAsksRow.holds Try.pinned (OpenSpec.ofChange wardAsksSpec)

/-- ITS FALSE NEIGHBOUR: 'it returns false'. Refute it at one input. -/
def wardAsksWrong : ChangeSpec := { name := "wardAsks", fn := fun _ => fun
  | [d1, d2, d3] => { results := [.lit (.bool false)], args := [d1, d2, d3] }
  | _ => none }
def WardAsksWrongFalsely : Prop := wardAsksRow.holds Try.pinned (OpenSpec.ofChange wardAsksWrong)

/- THE SECOND FORM. 'bulk': how many values and letters a reading holds, each counted each time it is reached (what is shared counts as often as it is met; a slice's spare places count too). A statement '..UptoSaid' is the law's where the arguments, and the package variables that the reading takes, are together of bulk at most 1048576: NARROWER than '..Said'. Prove '..Said' where nothing that the law and all that it calls make is longer than what came in: it says more and counts as full. Else prove '..UptoSaid'. A law counts once. -/
mutual
def uptoBulk {H : Type} : DataW H → Nat
  | .lit (.string bytes) => bytes.length + 1
  | .lit _ => 1
  | .nil => 1
  | .ptr d => uptoBulk d + 1
  | .slice elems spare => uptoBulkAll elems + uptoBulkAll spare + 1
  | .agg parts => uptoBulkAll parts + 1
  | .iface _ d => uptoBulk d + 1
  | .map entries => uptoBulkEntries entries + 1
  | .held _ => 1
def uptoBulkAll {H : Type} : List (DataW H) → Nat
  | [] => 0
  | d :: r => uptoBulk d + uptoBulkAll r
def uptoBulkEntries {H : Type} : List (Lit × DataW H) → Nat
  | [] => 0
  | x :: r => uptoBulkEntry x + uptoBulkEntries r
def uptoBulkEntry {H : Type} : Lit × DataW H → Nat
  | (.string bytes, d) => bytes.length + uptoBulk d + 1
  | (_, d) => uptoBulk d + 1
 end
def uptoSmall : (H : Type) → List (DataW H) → Bool := fun _ ds => decide (uptoBulkAll ds ≤ 1048576)
def OpenSpec.upto (s : _root_.Go.ChangeSpec) : _root_.Go.OpenSpec := { _root_.Go.OpenSpec.ofChange s with cond := some uptoSmall }

/-- 'bellwetherlaw21.WardSplits', WHERE WHAT IT READS IS OF BULK AT MOST 1048576: true; the input reads as it did. -/
def wardSplitsUptoRow : OpenClaim := { program := "ytonggencfnaheaa", sum := "b9d96aa4cb71005338aba4ef4d722b1f9294b711040f007d75d765d95be9f375", func := "bellwether/bellwetherlaw21.WardSplits", spec := "wardSplits", inPlace := ["slices.overlaps[bellwether/api.Ward]"], unfollowed := true, recurses := true, apart := false, narrowed := true }
def WardSplitsUptoSaid : Prop := wardSplitsUptoRow.holds Try.pinned (OpenSpec.upto wardSplitsSpec)

/-- 'bellwetherlaw21.WardUntil', WHERE WHAT IT READS IS OF BULK AT MOST 1048576: true; the input reads as it did. -/
def wardUntilUptoRow : OpenClaim := { program := "ytonggencfnaheaa", sum := "b9d96aa4cb71005338aba4ef4d722b1f9294b711040f007d75d765d95be9f375", func := "bellwether/bellwetherlaw21.WardUntil", spec := "wardUntil", inPlace := ["slices.overlaps[bellwether/api.Ward]"], unfollowed := true, recurses := true, apart := false, narrowed := true }
def WardUntilUptoSaid : Prop := wardUntilUptoRow.holds Try.pinned (OpenSpec.upto wardUntilSpec)

/-- 'bellwetherlaw21.WardTwice', WHERE WHAT IT READS IS OF BULK AT MOST 1048576: true; the input reads as it did. -/
def wardTwiceUptoRow : OpenClaim := { program := "ytonggencfnaheaa", sum := "b9d96aa4cb71005338aba4ef4d722b1f9294b711040f007d75d765d95be9f375", func := "bellwether/bellwetherlaw21.WardTwice", spec := "wardTwice", inPlace := ["slices.overlaps[bellwether/api.Ward]"], unfollowed := true, recurses := true, apart := false, narrowed := true }
def WardTwiceUptoSaid : Prop := wardTwiceUptoRow.holds Try.pinned (OpenSpec.upto wardTwiceSpec)

/-- 'bellwetherlaw21.WardAsks', WHERE WHAT IT READS IS OF BULK AT MOST 1048576: true; the input reads as it did. -/
def wardAsksUptoRow : OpenClaim := { program := "ytonggencfnaheaa", sum := "b9d96aa4cb71005338aba4ef4d722b1f9294b711040f007d75d765d95be9f375", func := "bellwether/bellwetherlaw21.WardAsks", spec := "wardAsks", inPlace := ["slices.overlaps[bellwether/api.Ward]"], unfollowed := true, recurses := true, apart := false, narrowed := true }
def WardAsksUptoSaid : Prop := wardAsksUptoRow.holds Try.pinned (OpenSpec.upto wardAsksSpec)

end Rows
end Go.Proofs.Ytonggencfnaheaa

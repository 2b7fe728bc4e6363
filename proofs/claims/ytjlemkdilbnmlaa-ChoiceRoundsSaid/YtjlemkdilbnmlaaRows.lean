/-
  No cell of these rows narrows 'for every input' (looked for: loops, veiled, ifaces, maps, wideKeys, modest, calm, conditions, laid).
  DERIVED. THE GIVEN ROWS OF THIS SEAT. 4 by the template 'for every input the law returns true; each argument reads behind the call as it read before'; 0 by the template 'total and deterministic' (their statements: YtjlemkdilbnmlaaTotals.lean).
  GIVEN WITH THE SEED: the statements are not yours to turn. If you find one false, say at which input.
  Laid BY PROGRAM, IN A SANDBOX (cutbox-rows.mjs): the forced cells as the released guide's own fill.sh prints them over the translation 7f666a4061af6e33… (all of the seat's roots in one cut). By AI agents, Wed Nov 11 2026. No macro, syntax, notation, axiom, sorry.
-/
import Derived.Test.YtjlemkdilbnmlaaChecked
import GoSem.Claim
import GoSem.ClaimJoined
import GoSem.ClaimMapViews
import Derived.JoinedTies
import Derived.KernelRfl
namespace Go.Proofs.Ytjlemkdilbnmlaa
/- THE CELL 'sum', in the pinned program and in every row, IS THE sha256 OF THE DUMP (.gsa) THAT YtjlemkdilbnmlaaProg.lean LOADS. Nothing in Lean hashes anything: it is a label: what it is worth is what the hold of that sum in a sandbox is worth. -/
noncomputable def Try.pinned : Pinned := { name := "ytjlemkdilbnmlaa", sum := "7f666a4061af6e33ce86f40d73a81ddf873f14c42af512b49d23681bfeea29df", checked := Try.checked }
namespace Rows
def none {H : Type} : Left H := { results := [], args := [] }

/-- 'bellwetherlaw14.ChoiceRounds': WHATEVER THE INPUT: true; the input reads as it did. -/
def choiceRoundsSpec : ChangeSpec := { name := "choiceRounds", fn := fun _ => fun
  | [d1, d2, d3] => { results := [.lit (.bool true)], args := [d1, d2, d3] }
  | _ => none }
def choiceRoundsRow : OpenClaim := { program := "ytjlemkdilbnmlaa", sum := "7f666a4061af6e33ce86f40d73a81ddf873f14c42af512b49d23681bfeea29df", func := "bellwether/bellwetherlaw14.ChoiceRounds", spec := "choiceRounds", unfollowed := true, recurses := true, apart := false }
def ChoiceRoundsSaid : Prop := choiceRoundsRow.holds Try.pinned (OpenSpec.ofChange choiceRoundsSpec)

/-- ITS FALSE NEIGHBOUR: 'it returns false'. Refute it at one input. -/
def choiceRoundsWrong : ChangeSpec := { name := "choiceRounds", fn := fun _ => fun
  | [d1, d2, d3] => { results := [.lit (.bool false)], args := [d1, d2, d3] }
  | _ => none }
def ChoiceRoundsWrongFalsely : Prop := choiceRoundsRow.holds Try.pinned (OpenSpec.ofChange choiceRoundsWrong)

/-- 'bellwetherlaw14.ChoiceThree': WHATEVER THE INPUT: true; the input reads as it did. -/
def choiceThreeSpec : ChangeSpec := { name := "choiceThree", fn := fun _ => fun
  | [d1, d2] => { results := [.lit (.bool true)], args := [d1, d2] }
  | _ => none }
def choiceThreeRow : OpenClaim := { program := "ytjlemkdilbnmlaa", sum := "7f666a4061af6e33ce86f40d73a81ddf873f14c42af512b49d23681bfeea29df", func := "bellwether/bellwetherlaw14.ChoiceThree", spec := "choiceThree", unfollowed := true, recurses := true, apart := false }
def ChoiceThreeSaid : Prop := choiceThreeRow.holds Try.pinned (OpenSpec.ofChange choiceThreeSpec)

/-- ITS FALSE NEIGHBOUR: 'it returns false'. Refute it at one input. -/
def choiceThreeWrong : ChangeSpec := { name := "choiceThree", fn := fun _ => fun
  | [d1, d2] => { results := [.lit (.bool false)], args := [d1, d2] }
  | _ => none }
def ChoiceThreeWrongFalsely : Prop := choiceThreeRow.holds Try.pinned (OpenSpec.ofChange choiceThreeWrong)

/-- 'bellwetherlaw14.ChoiceFair': WHATEVER THE INPUT: true; the input reads as it did. -/
def choiceFairSpec : ChangeSpec := { name := "choiceFair", fn := fun _ => fun
  | [d1, d2] => { results := [.lit (.bool true)], args := [d1, d2] }
  | _ => none }
def choiceFairRow : OpenClaim := { program := "ytjlemkdilbnmlaa", sum := "7f666a4061af6e33ce86f40d73a81ddf873f14c42af512b49d23681bfeea29df", func := "bellwether/bellwetherlaw14.ChoiceFair", spec := "choiceFair", unfollowed := true, recurses := true, apart := false }
def ChoiceFairSaid : Prop := choiceFairRow.holds Try.pinned (OpenSpec.ofChange choiceFairSpec)

/-- ITS FALSE NEIGHBOUR: 'it returns false'. Refute it at one input. -/
def choiceFairWrong : ChangeSpec := { name := "choiceFair", fn := fun _ => fun
  | [d1, d2] => { results := [.lit (.bool false)], args := [d1, d2] }
  | _ => none }
def ChoiceFairWrongFalsely : Prop := choiceFairRow.holds Try.pinned (OpenSpec.ofChange choiceFairWrong)

/-- 'bellwetherlaw14.ChoiceSorts': WHATEVER THE INPUT: true; the input reads as it did. -/
def choiceSortsSpec : ChangeSpec := { name := "choiceSorts", fn := fun _ => fun
  | [d1, d2] => { results := [.lit (.bool true)], args := [d1, d2] }
  | _ => none }
def choiceSortsRow : OpenClaim := { program := "ytjlemkdilbnmlaa", sum := "7f666a4061af6e33ce86f40d73a81ddf873f14c42af512b49d23681bfeea29df", func := "bellwether/bellwetherlaw14.ChoiceSorts", spec := "choiceSorts", unfollowed := true, recurses := true, apart := false }
def ChoiceSortsSaid : Prop := choiceSortsRow.holds Try.pinned (OpenSpec.ofChange choiceSortsSpec)

/-- ITS FALSE NEIGHBOUR: 'it returns false'. Refute it at one input. -/
def choiceSortsWrong : ChangeSpec := { name := "choiceSorts", fn := fun _ => fun
  | [d1, d2] => { results := [.lit (.bool false)], args := [d1, d2] }
  | _ => none }
def ChoiceSortsWrongFalsely : Prop := choiceSortsRow.holds Try.pinned (OpenSpec.ofChange choiceSortsWrong)

/- THE SECOND FORM. 'bulk': how many values and letters a reading holds, each counted each time it is reached (what is shared counts as often as it is met; a slice's spare places count too). A statement '..UptoSaid' is the law's where the arguments, and the package variables that the reading takes, are together of bulk at most 1048576: NARROWER than '..Said'. Prove '..Said' where nothing that the law and all that it calls make is longer than what came in: it says more and counts as full. Else prove '..UptoSaid'. A law counts once. -/
mutual
def uptoBulk {H : Type} : DataW H → Nat
  | .lit (.string bytes) => bytes.length + 1
  | .lit _ => 1
  | .nil => 1
  | .ptr d => uptoBulk d + 1
  | .slice elems spare => uptoBulkAll elems + uptoBulkAll spare + 1
  | .agg parts => uptoBulkAll parts + 1
  | .iface _ d => uptoBulk d + 1
  | .map entries => uptoBulkEntries entries + 1
  | .held _ => 1
def uptoBulkAll {H : Type} : List (DataW H) → Nat
  | [] => 0
  | d :: r => uptoBulk d + uptoBulkAll r
def uptoBulkEntries {H : Type} : List (Lit × DataW H) → Nat
  | [] => 0
  | x :: r => uptoBulkEntry x + uptoBulkEntries r
def uptoBulkEntry {H : Type} : Lit × DataW H → Nat
  | (.string bytes, d) => bytes.length + uptoBulk d + 1
  | (_, d) => uptoBulk d + 1
 end
def uptoSmall : (H : Type) → List (DataW H) → Bool := fun _ ds => decide (uptoBulkAll ds ≤ 1048576)
def OpenSpec.upto (s : _root_.Go.ChangeSpec) : _root_.Go.OpenSpec := { _root_.Go.OpenSpec.ofChange s with cond := some uptoSmall }

/-- 'bellwetherlaw14.ChoiceRounds', WHERE WHAT IT READS IS OF BULK AT MOST 1048576: true; the input reads as it did. -/
def choiceRoundsUptoRow : OpenClaim := { program := "ytjlemkdilbnmlaa", sum := "7f666a4061af6e33ce86f40d73a81ddf873f14c42af512b49d23681bfeea29df", func := "bellwether/bellwetherlaw14.ChoiceRounds", spec := "choiceRounds", unfollowed := true, recurses := true, apart := false, narrowed := true }
def ChoiceRoundsUptoSaid : Prop := choiceRoundsUptoRow.holds Try.pinned (OpenSpec.upto choiceRoundsSpec)

/-- 'bellwetherlaw14.ChoiceThree', WHERE WHAT IT READS IS OF BULK AT MOST 1048576: true; the input reads as it did. -/
def choiceThreeUptoRow : OpenClaim := { program := "ytjlemkdilbnmlaa", sum := "7f666a4061af6e33ce86f40d73a81ddf873f14c42af512b49d23681bfeea29df", func := "bellwether/bellwetherlaw14.ChoiceThree", spec := "choiceThree", unfollowed := true, recurses := true, apart := false, narrowed := true }
def ChoiceThreeUptoSaid : Prop := choiceThreeUptoRow.holds Try.pinned (OpenSpec.upto choiceThreeSpec)

/-- 'bellwetherlaw14.ChoiceFair', WHERE WHAT IT READS IS OF BULK AT MOST 1048576: true; the input reads as it did. -/
def choiceFairUptoRow : OpenClaim := { program := "ytjlemkdilbnmlaa", sum := "7f666a4061af6e33ce86f40d73a81ddf873f14c42af512b49d23681bfeea29df", func := "bellwether/bellwetherlaw14.ChoiceFair", spec := "choiceFair", unfollowed := true, recurses := true, apart := false, narrowed := true }
def ChoiceFairUptoSaid : Prop := choiceFairUptoRow.holds Try.pinned (OpenSpec.upto choiceFairSpec)

/-- 'bellwetherlaw14.ChoiceSorts', WHERE WHAT IT READS IS OF BULK AT MOST 1048576: true; the input reads as it did. -/
def choiceSortsUptoRow : OpenClaim := { program := "ytjlemkdilbnmlaa", sum := "7f666a4061af6e33ce86f40d73a81ddf873f14c42af512b49d23681bfeea29df", func := "bellwether/bellwetherlaw14.ChoiceSorts", spec := "choiceSorts", unfollowed := true, recurses := true, apart := false, narrowed := true }
def ChoiceSortsUptoSaid : Prop := choiceSortsUptoRow.holds Try.pinned (OpenSpec.upto choiceSortsSpec)

end Rows
end Go.Proofs.Ytjlemkdilbnmlaa

/-
  No cell of these rows narrows 'for every input' (looked for: loops, veiled, ifaces, maps, wideKeys, modest, calm, conditions, laid).
  DERIVED. THE GIVEN ROWS OF THIS SEAT. 4 by the template 'for every input the law returns true; each argument reads behind the call as it read before'; 0 by the template 'total and deterministic' (their statements: YtfaiapmckimjeaaTotals.lean).
  GIVEN WITH THE SEED: the statements are not yours to turn. If you find one false, say at which input.
  Laid BY PROGRAM, IN A SANDBOX (cutbox-rows.mjs): the forced cells as the released guide's own fill.sh prints them over the translation f7f40e2179a4bc3e… (all of the seat's roots in one cut). By AI agents, Wed Nov 11 2026. No macro, syntax, notation, axiom, sorry.
-/
import Derived.Test.YtfaiapmckimjeaaChecked
import GoSem.Claim
import GoSem.ClaimJoined
import GoSem.ClaimMapViews
import Derived.JoinedTies
import Derived.KernelRfl
namespace Go.Proofs.Ytfaiapmckimjeaa
/- THE CELL 'sum', in the pinned program and in every row, IS THE sha256 OF THE DUMP (.gsa) THAT YtfaiapmckimjeaaProg.lean LOADS. Nothing in Lean hashes anything: it is a label: what it is worth is what the hold of that sum in a sandbox is worth. -/
noncomputable def Try.pinned : Pinned := { name := "ytfaiapmckimjeaa", sum := "f7f40e2179a4bc3e18b4262564ad4303f98467f80e05327aac2e49bd90f7252a", checked := Try.checked }
namespace Rows
def none {H : Type} : Left H := { results := [], args := [] }

/-- 'bellwetherlaw02.SealSums': WHATEVER THE INPUT: true; the input reads as it did. -/
def sealSumsSpec : ChangeSpec := { name := "sealSums", fn := fun _ => fun
  | [d1, d2] => { results := [.lit (.bool true)], args := [d1, d2] }
  | _ => none }
def sealSumsRow : OpenClaim := { program := "ytfaiapmckimjeaa", sum := "f7f40e2179a4bc3e18b4262564ad4303f98467f80e05327aac2e49bd90f7252a", func := "bellwether/bellwetherlaw02.SealSums", spec := "sealSums", apart := false }
def SealSumsSaid : Prop := sealSumsRow.holds Try.pinned (OpenSpec.ofChange sealSumsSpec)

/-- ITS FALSE NEIGHBOUR: 'it returns false'. Refute it at one input. -/
def sealSumsWrong : ChangeSpec := { name := "sealSums", fn := fun _ => fun
  | [d1, d2] => { results := [.lit (.bool false)], args := [d1, d2] }
  | _ => none }
def SealSumsWrongFalsely : Prop := sealSumsRow.holds Try.pinned (OpenSpec.ofChange sealSumsWrong)

/-- 'bellwetherlaw02.SealBursts': WHATEVER THE INPUT: true; the input reads as it did. -/
def sealBurstsSpec : ChangeSpec := { name := "sealBursts", fn := fun _ => fun
  | [d1, d2, d3] => { results := [.lit (.bool true)], args := [d1, d2, d3] }
  | _ => none }
def sealBurstsRow : OpenClaim := { program := "ytfaiapmckimjeaa", sum := "f7f40e2179a4bc3e18b4262564ad4303f98467f80e05327aac2e49bd90f7252a", func := "bellwether/bellwetherlaw02.SealBursts", spec := "sealBursts", apart := false }
def SealBurstsSaid : Prop := sealBurstsRow.holds Try.pinned (OpenSpec.ofChange sealBurstsSpec)

/-- ITS FALSE NEIGHBOUR: 'it returns false'. Refute it at one input. -/
def sealBurstsWrong : ChangeSpec := { name := "sealBursts", fn := fun _ => fun
  | [d1, d2, d3] => { results := [.lit (.bool false)], args := [d1, d2, d3] }
  | _ => none }
def SealBurstsWrongFalsely : Prop := sealBurstsRow.holds Try.pinned (OpenSpec.ofChange sealBurstsWrong)

/-- 'bellwetherlaw02.SealLinear': WHATEVER THE INPUT: true; the input reads as it did. -/
def sealLinearSpec : ChangeSpec := { name := "sealLinear", fn := fun _ => fun
  | [d1, d2, d3] => { results := [.lit (.bool true)], args := [d1, d2, d3] }
  | _ => none }
def sealLinearRow : OpenClaim := { program := "ytfaiapmckimjeaa", sum := "f7f40e2179a4bc3e18b4262564ad4303f98467f80e05327aac2e49bd90f7252a", func := "bellwether/bellwetherlaw02.SealLinear", spec := "sealLinear", apart := false }
def SealLinearSaid : Prop := sealLinearRow.holds Try.pinned (OpenSpec.ofChange sealLinearSpec)

/-- ITS FALSE NEIGHBOUR: 'it returns false'. Refute it at one input. -/
def sealLinearWrong : ChangeSpec := { name := "sealLinear", fn := fun _ => fun
  | [d1, d2, d3] => { results := [.lit (.bool false)], args := [d1, d2, d3] }
  | _ => none }
def SealLinearWrongFalsely : Prop := sealLinearRow.holds Try.pinned (OpenSpec.ofChange sealLinearWrong)

/-- 'bellwetherlaw02.SealTwice': WHATEVER THE INPUT: true; the input reads as it did. -/
def sealTwiceSpec : ChangeSpec := { name := "sealTwice", fn := fun _ => fun
  | [d1, d2] => { results := [.lit (.bool true)], args := [d1, d2] }
  | _ => none }
def sealTwiceRow : OpenClaim := { program := "ytfaiapmckimjeaa", sum := "f7f40e2179a4bc3e18b4262564ad4303f98467f80e05327aac2e49bd90f7252a", func := "bellwether/bellwetherlaw02.SealTwice", spec := "sealTwice", apart := false }
def SealTwiceSaid : Prop := sealTwiceRow.holds Try.pinned (OpenSpec.ofChange sealTwiceSpec)

/-- ITS FALSE NEIGHBOUR: 'it returns false'. Refute it at one input. -/
def sealTwiceWrong : ChangeSpec := { name := "sealTwice", fn := fun _ => fun
  | [d1, d2] => { results := [.lit (.bool false)], args := [d1, d2] }
  | _ => none }
def SealTwiceWrongFalsely : Prop := sealTwiceRow.holds Try.pinned (OpenSpec.ofChange sealTwiceWrong)

/- THE SECOND FORM. 'bulk': how many values and letters a reading holds, each counted each time it is reached (what is shared counts as often as it is met; a slice's spare places count too). A statement '..UptoSaid' is the law's where the arguments, and the package variables that the reading takes, are together of bulk at most 1048576: NARROWER than '..Said'. Prove '..Said' where nothing that the law and all that it calls make is longer than what came in: it says more and counts as full. Else prove '..UptoSaid'. A law counts once. -/
mutual
def uptoBulk {H : Type} : DataW H → Nat
  | .lit (.string bytes) => bytes.length + 1
  | .lit _ => 1
  | .nil => 1
  | .ptr d => uptoBulk d + 1
  | .slice elems spare => uptoBulkAll elems + uptoBulkAll spare + 1
  | .agg parts => uptoBulkAll parts + 1
  | .iface _ d => uptoBulk d + 1
  | .map entries => uptoBulkEntries entries + 1
  | .held _ => 1
def uptoBulkAll {H : Type} : List (DataW H) → Nat
  | [] => 0
  | d :: r => uptoBulk d + uptoBulkAll r
def uptoBulkEntries {H : Type} : List (Lit × DataW H) → Nat
  | [] => 0
  | x :: r => uptoBulkEntry x + uptoBulkEntries r
def uptoBulkEntry {H : Type} : Lit × DataW H → Nat
  | (.string bytes, d) => bytes.length + uptoBulk d + 1
  | (_, d) => uptoBulk d + 1
 end
def uptoSmall : (H : Type) → List (DataW H) → Bool := fun _ ds => decide (uptoBulkAll ds ≤ 1048576)
def OpenSpec.upto (s : _root_.Go.ChangeSpec) : _root_.Go.OpenSpec := { _root_.Go.OpenSpec.ofChange s with cond := some uptoSmall }

/-- 'bellwetherlaw02.SealSums', WHERE WHAT IT READS IS OF BULK AT MOST 1048576: true; the input reads as it did. -/
def sealSumsUptoRow : OpenClaim := { program := "ytfaiapmckimjeaa", sum := "f7f40e2179a4bc3e18b4262564ad4303f98467f80e05327aac2e49bd90f7252a", func := "bellwether/bellwetherlaw02.SealSums", spec := "sealSums", apart := false, narrowed := true }
def SealSumsUptoSaid : Prop := sealSumsUptoRow.holds Try.pinned (OpenSpec.upto sealSumsSpec)

/-- 'bellwetherlaw02.SealBursts', WHERE WHAT IT READS IS OF BULK AT MOST 1048576: true; the input reads as it did. -/
def sealBurstsUptoRow : OpenClaim := { program := "ytfaiapmckimjeaa", sum := "f7f40e2179a4bc3e18b4262564ad4303f98467f80e05327aac2e49bd90f7252a", func := "bellwether/bellwetherlaw02.SealBursts", spec := "sealBursts", apart := false, narrowed := true }
def SealBurstsUptoSaid : Prop := sealBurstsUptoRow.holds Try.pinned (OpenSpec.upto sealBurstsSpec)

/-- 'bellwetherlaw02.SealLinear', WHERE WHAT IT READS IS OF BULK AT MOST 1048576: true; the input reads as it did. -/
def sealLinearUptoRow : OpenClaim := { program := "ytfaiapmckimjeaa", sum := "f7f40e2179a4bc3e18b4262564ad4303f98467f80e05327aac2e49bd90f7252a", func := "bellwether/bellwetherlaw02.SealLinear", spec := "sealLinear", apart := false, narrowed := true }
def SealLinearUptoSaid : Prop := sealLinearUptoRow.holds Try.pinned (OpenSpec.upto sealLinearSpec)

/-- 'bellwetherlaw02.SealTwice', WHERE WHAT IT READS IS OF BULK AT MOST 1048576: true; the input reads as it did. -/
def sealTwiceUptoRow : OpenClaim := { program := "ytfaiapmckimjeaa", sum := "f7f40e2179a4bc3e18b4262564ad4303f98467f80e05327aac2e49bd90f7252a", func := "bellwether/bellwetherlaw02.SealTwice", spec := "sealTwice", apart := false, narrowed := true }
def SealTwiceUptoSaid : Prop := sealTwiceUptoRow.holds Try.pinned (OpenSpec.upto sealTwiceSpec)

end Rows
end Go.Proofs.Ytfaiapmckimjeaa

/-
  No cell of these rows narrows 'for every input' (looked for: loops, veiled, ifaces, maps, wideKeys, modest, calm, conditions, laid).
  DERIVED. THE GIVEN ROWS OF THIS SEAT. 5 by the template 'for every input the law returns true; each argument reads behind the call as it read before'; 0 by the template 'total and deterministic' (their statements: YtckodbfjihcddaaTotals.lean).
  GIVEN WITH THE SEED: the statements are not yours to turn. If you find one false, say at which input.
  Laid BY PROGRAM, IN A SANDBOX (cutbox-rows.mjs): the forced cells as the released guide's own fill.sh prints them over the translation 4f9dc11084ec1bb1… (all of the seat's roots in one cut). By AI agents, Wed Nov 11 2026. No macro, syntax, notation, axiom, sorry.
-/
import Derived.Test.YtckodbfjihcddaaChecked
import GoSem.Claim
import GoSem.ClaimJoined
import GoSem.ClaimMapViews
import Derived.JoinedTies
import Derived.KernelRfl
namespace Go.Proofs.Ytckodbfjihcddaa
/- THE CELL 'sum', in the pinned program and in every row, IS THE sha256 OF THE DUMP (.gsa) THAT YtckodbfjihcddaaProg.lean LOADS. Nothing in Lean hashes anything: it is a label: what it is worth is what the hold of that sum in a sandbox is worth. -/
noncomputable def Try.pinned : Pinned := { name := "ytckodbfjihcddaa", sum := "4f9dc11084ec1bb1b1042a1e56e30cf11b53c6fef21647825017ccd653581596", checked := Try.checked }
namespace Rows
def none {H : Type} : Left H := { results := [], args := [] }

/-- 'bellwetherlaw12.BlockDeeds': WHATEVER THE INPUT: true; the input reads as it did. -/
def blockDeedsSpec : ChangeSpec := { name := "blockDeeds", fn := fun _ => fun
  | [d1, d2, d3] => { results := [.lit (.bool true)], args := [d1, d2, d3] }
  | _ => none }
def blockDeedsRow : OpenClaim := { program := "ytckodbfjihcddaa", sum := "4f9dc11084ec1bb1b1042a1e56e30cf11b53c6fef21647825017ccd653581596", func := "bellwether/bellwetherlaw12.BlockDeeds", spec := "blockDeeds", apart := false }
def BlockDeedsSaid : Prop := blockDeedsRow.holds Try.pinned (OpenSpec.ofChange blockDeedsSpec)

/-- ITS FALSE NEIGHBOUR: 'it returns false'. Refute it at one input. -/
def blockDeedsWrong : ChangeSpec := { name := "blockDeeds", fn := fun _ => fun
  | [d1, d2, d3] => { results := [.lit (.bool false)], args := [d1, d2, d3] }
  | _ => none }
def BlockDeedsWrongFalsely : Prop := blockDeedsRow.holds Try.pinned (OpenSpec.ofChange blockDeedsWrong)

/-- 'bellwetherlaw12.BlockTears': WHATEVER THE INPUT: true; the input reads as it did. -/
def blockTearsSpec : ChangeSpec := { name := "blockTears", fn := fun _ => fun
  | [d1, d2] => { results := [.lit (.bool true)], args := [d1, d2] }
  | _ => none }
def blockTearsRow : OpenClaim := { program := "ytckodbfjihcddaa", sum := "4f9dc11084ec1bb1b1042a1e56e30cf11b53c6fef21647825017ccd653581596", func := "bellwether/bellwetherlaw12.BlockTears", spec := "blockTears", apart := false }
def BlockTearsSaid : Prop := blockTearsRow.holds Try.pinned (OpenSpec.ofChange blockTearsSpec)

/-- ITS FALSE NEIGHBOUR: 'it returns false'. Refute it at one input. -/
def blockTearsWrong : ChangeSpec := { name := "blockTears", fn := fun _ => fun
  | [d1, d2] => { results := [.lit (.bool false)], args := [d1, d2] }
  | _ => none }
def BlockTearsWrongFalsely : Prop := blockTearsRow.holds Try.pinned (OpenSpec.ofChange blockTearsWrong)

/-- 'bellwetherlaw12.BlockReads': WHATEVER THE INPUT: true; the input reads as it did. -/
def blockReadsSpec : ChangeSpec := { name := "blockReads", fn := fun _ => fun
  | [d1, d2, d3] => { results := [.lit (.bool true)], args := [d1, d2, d3] }
  | _ => none }
def blockReadsRow : OpenClaim := { program := "ytckodbfjihcddaa", sum := "4f9dc11084ec1bb1b1042a1e56e30cf11b53c6fef21647825017ccd653581596", func := "bellwether/bellwetherlaw12.BlockReads", spec := "blockReads", apart := false }
def BlockReadsSaid : Prop := blockReadsRow.holds Try.pinned (OpenSpec.ofChange blockReadsSpec)

/-- ITS FALSE NEIGHBOUR: 'it returns false'. Refute it at one input. -/
def blockReadsWrong : ChangeSpec := { name := "blockReads", fn := fun _ => fun
  | [d1, d2, d3] => { results := [.lit (.bool false)], args := [d1, d2, d3] }
  | _ => none }
def BlockReadsWrongFalsely : Prop := blockReadsRow.holds Try.pinned (OpenSpec.ofChange blockReadsWrong)

/-- 'bellwetherlaw12.BlockWakes': WHATEVER THE INPUT: true; the input reads as it did. -/
def blockWakesSpec : ChangeSpec := { name := "blockWakes", fn := fun _ => fun
  | [d1, d2] => { results := [.lit (.bool true)], args := [d1, d2] }
  | _ => none }
def blockWakesRow : OpenClaim := { program := "ytckodbfjihcddaa", sum := "4f9dc11084ec1bb1b1042a1e56e30cf11b53c6fef21647825017ccd653581596", func := "bellwether/bellwetherlaw12.BlockWakes", spec := "blockWakes", apart := false }
def BlockWakesSaid : Prop := blockWakesRow.holds Try.pinned (OpenSpec.ofChange blockWakesSpec)

/-- ITS FALSE NEIGHBOUR: 'it returns false'. Refute it at one input. -/
def blockWakesWrong : ChangeSpec := { name := "blockWakes", fn := fun _ => fun
  | [d1, d2] => { results := [.lit (.bool false)], args := [d1, d2] }
  | _ => none }
def BlockWakesWrongFalsely : Prop := blockWakesRow.holds Try.pinned (OpenSpec.ofChange blockWakesWrong)

/-- 'bellwetherlaw12.BlockAsks': WHATEVER THE INPUT: true; the input reads as it did. -/
def blockAsksSpec : ChangeSpec := { name := "blockAsks", fn := fun _ => fun
  | [d1, d2, d3] => { results := [.lit (.bool true)], args := [d1, d2, d3] }
  | _ => none }
def blockAsksRow : OpenClaim := { program := "ytckodbfjihcddaa", sum := "4f9dc11084ec1bb1b1042a1e56e30cf11b53c6fef21647825017ccd653581596", func := "bellwether/bellwetherlaw12.BlockAsks", spec := "blockAsks", apart := false }
def BlockAsksSaid : Prop := blockAsksRow.holds Try.pinned (OpenSpec.ofChange blockAsksSpec)

/-- ITS FALSE NEIGHBOUR: 'it returns false'. Refute it at one input. -/
def blockAsksWrong : ChangeSpec := { name := "blockAsks", fn := fun _ => fun
  | [d1, d2, d3] => { results := [.lit (.bool false)], args := [d1, d2, d3] }
  | _ => none }
def BlockAsksWrongFalsely : Prop := blockAsksRow.holds Try.pinned (OpenSpec.ofChange blockAsksWrong)

/- THE SECOND FORM. 'bulk': how many values and letters a reading holds, each counted each time it is reached (what is shared counts as often as it is met; a slice's spare places count too). A statement '..UptoSaid' is the law's where the arguments, and the package variables that the reading takes, are together of bulk at most 1048576: NARROWER than '..Said'. Prove '..Said' where nothing that the law and all that it calls make is longer than what came in: it says more and counts as full. Else prove '..UptoSaid'. A law counts once. -/
mutual
def uptoBulk {H : Type} : DataW H → Nat
  | .lit (.string bytes) => bytes.length + 1
  | .lit _ => 1
  | .nil => 1
  | .ptr d => uptoBulk d + 1
  | .slice elems spare => uptoBulkAll elems + uptoBulkAll spare + 1
  | .agg parts => uptoBulkAll parts + 1
  | .iface _ d => uptoBulk d + 1
  | .map entries => uptoBulkEntries entries + 1
  | .held _ => 1
def uptoBulkAll {H : Type} : List (DataW H) → Nat
  | [] => 0
  | d :: r => uptoBulk d + uptoBulkAll r
def uptoBulkEntries {H : Type} : List (Lit × DataW H) → Nat
  | [] => 0
  | x :: r => uptoBulkEntry x + uptoBulkEntries r
def uptoBulkEntry {H : Type} : Lit × DataW H → Nat
  | (.string bytes, d) => bytes.length + uptoBulk d + 1
  | (_, d) => uptoBulk d + 1
 end
def uptoSmall : (H : Type) → List (DataW H) → Bool := fun _ ds => decide (uptoBulkAll ds ≤ 1048576)
def OpenSpec.upto (s : _root_.Go.ChangeSpec) : _root_.Go.OpenSpec := { _root_.Go.OpenSpec.ofChange s with cond := some uptoSmall }

/-- 'bellwetherlaw12.BlockDeeds', WHERE WHAT IT READS IS OF BULK AT MOST 1048576: true; the input reads as it did. -/
def blockDeedsUptoRow : OpenClaim := { program := "ytckodbfjihcddaa", sum := "4f9dc11084ec1bb1b1042a1e56e30cf11b53c6fef21647825017ccd653581596", func := "bellwether/bellwetherlaw12.BlockDeeds", spec := "blockDeeds", apart := false, narrowed := true }
def BlockDeedsUptoSaid : Prop := blockDeedsUptoRow.holds Try.pinned (OpenSpec.upto blockDeedsSpec)

/-- 'bellwetherlaw12.BlockTears', WHERE WHAT IT READS IS OF BULK AT MOST 1048576: true; the input reads as it did. -/
def blockTearsUptoRow : OpenClaim := { program := "ytckodbfjihcddaa", sum := "4f9dc11084ec1bb1b1042a1e56e30cf11b53c6fef21647825017ccd653581596", func := "bellwether/bellwetherlaw12.BlockTears", spec := "blockTears", apart := false, narrowed := true }
def BlockTearsUptoSaid : Prop := blockTearsUptoRow.holds Try.pinned (OpenSpec.upto blockTearsSpec)

/-- 'bellwetherlaw12.BlockReads', WHERE WHAT IT READS IS OF BULK AT MOST 1048576: true; the input reads as it did. -/
def blockReadsUptoRow : OpenClaim := { program := "ytckodbfjihcddaa", sum := "4f9dc11084ec1bb1b1042a1e56e30cf11b53c6fef21647825017ccd653581596", func := "bellwether/bellwetherlaw12.BlockReads", spec := "blockReads", apart := false, narrowed := true }
def BlockReadsUptoSaid : Prop := blockReadsUptoRow.holds Try.pinned (OpenSpec.upto blockReadsSpec)

/-- 'bellwetherlaw12.BlockWakes', WHERE WHAT IT READS IS OF BULK AT MOST 1048576: true; the input reads as it did. -/
def blockWakesUptoRow : OpenClaim := { program := "ytckodbfjihcddaa", sum := "4f9dc11084ec1bb1b1042a1e56e30cf11b53c6fef21647825017ccd653581596", func := "bellwether/bellwetherlaw12.BlockWakes", spec := "blockWakes", apart := false, narrowed := true }
def BlockWakesUptoSaid : Prop := blockWakesUptoRow.holds Try.pinned (OpenSpec.upto blockWakesSpec)

/-- 'bellwetherlaw12.BlockAsks', WHERE WHAT IT READS IS OF BULK AT MOST 1048576: true; the input reads as it did. -/
def blockAsksUptoRow : OpenClaim := { program := "ytckodbfjihcddaa", sum := "4f9dc11084ec1bb1b1042a1e56e30cf11b53c6fef21647825017ccd653581596", func := "bellwether/bellwetherlaw12.BlockAsks", spec := "blockAsks", apart := false, narrowed := true }
def BlockAsksUptoSaid : Prop := blockAsksUptoRow.holds Try.pinned (OpenSpec.upto blockAsksSpec)

end Rows
end Go.Proofs.Ytckodbfjihcddaa

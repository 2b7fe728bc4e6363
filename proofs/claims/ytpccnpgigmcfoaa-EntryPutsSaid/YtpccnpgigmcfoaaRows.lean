/-
  No cell of these rows narrows 'for every input' (looked for: loops, veiled, ifaces, maps, wideKeys, modest, calm, conditions, laid).
  DERIVED. THE GIVEN ROWS OF THIS SEAT. 5 by the template 'for every input the law returns true; each argument reads behind the call as it read before'; 0 by the template 'total and deterministic' (their statements: YtpccnpgigmcfoaaTotals.lean).
  GIVEN WITH THE SEED: the statements are not yours to turn. If you find one false, say at which input.
  Laid BY PROGRAM, IN A SANDBOX (cutbox-rows.mjs): the forced cells as the released guide's own fill.sh prints them over the translation 113630c2236bd9f0… (all of the seat's roots in one cut). By AI agents, Wed Nov 11 2026. No macro, syntax, notation, axiom, sorry.
-/
import Derived.Test.YtpccnpgigmcfoaaChecked
import GoSem.Claim
import GoSem.ClaimJoined
import GoSem.ClaimMapViews
import Derived.JoinedTies
import Derived.KernelRfl
namespace Go.Proofs.Ytpccnpgigmcfoaa
/- THE CELL 'sum', in the pinned program and in every row, IS THE sha256 OF THE DUMP (.gsa) THAT YtpccnpgigmcfoaaProg.lean LOADS. Nothing in Lean hashes anything: it is a label: what it is worth is what the hold of that sum in a sandbox is worth. -/
noncomputable def Try.pinned : Pinned := { name := "ytpccnpgigmcfoaa", sum := "113630c2236bd9f09fae9c9316f635b636248fd2d3f2ad9672f5299be607f468", checked := Try.checked }
namespace Rows
def none {H : Type} : Left H := { results := [], args := [] }

/-- 'bellwetherlaw04.EntryLattice': WHATEVER THE INPUT: true; the input reads as it did. -/
def entryLatticeSpec : ChangeSpec := { name := "entryLattice", fn := fun _ => fun
  | [d1, d2, d3] => { results := [.lit (.bool true)], args := [d1, d2, d3] }
  | _ => none }
def entryLatticeRow : OpenClaim := { program := "ytpccnpgigmcfoaa", sum := "113630c2236bd9f09fae9c9316f635b636248fd2d3f2ad9672f5299be607f468", func := "bellwether/bellwetherlaw04.EntryLattice", spec := "entryLattice", unfollowed := true, recurses := true, apart := false }
def EntryLatticeSaid : Prop := entryLatticeRow.holds Try.pinned (OpenSpec.ofChange entryLatticeSpec)

/-- ITS FALSE NEIGHBOUR: 'it returns false'. Refute it at one input. -/
def entryLatticeWrong : ChangeSpec := { name := "entryLattice", fn := fun _ => fun
  | [d1, d2, d3] => { results := [.lit (.bool false)], args := [d1, d2, d3] }
  | _ => none }
def EntryLatticeWrongFalsely : Prop := entryLatticeRow.holds Try.pinned (OpenSpec.ofChange entryLatticeWrong)

/-- 'bellwetherlaw04.EntryOvers': WHATEVER THE INPUT: true; the input reads as it did. -/
def entryOversSpec : ChangeSpec := { name := "entryOvers", fn := fun _ => fun
  | [d1, d2] => { results := [.lit (.bool true)], args := [d1, d2] }
  | _ => none }
def entryOversRow : OpenClaim := { program := "ytpccnpgigmcfoaa", sum := "113630c2236bd9f09fae9c9316f635b636248fd2d3f2ad9672f5299be607f468", func := "bellwether/bellwetherlaw04.EntryOvers", spec := "entryOvers", unfollowed := true, recurses := true, apart := false }
def EntryOversSaid : Prop := entryOversRow.holds Try.pinned (OpenSpec.ofChange entryOversSpec)

/-- ITS FALSE NEIGHBOUR: 'it returns false'. Refute it at one input. -/
def entryOversWrong : ChangeSpec := { name := "entryOvers", fn := fun _ => fun
  | [d1, d2] => { results := [.lit (.bool false)], args := [d1, d2] }
  | _ => none }
def EntryOversWrongFalsely : Prop := entryOversRow.holds Try.pinned (OpenSpec.ofChange entryOversWrong)

/-- 'bellwetherlaw04.EntryAsks': WHATEVER THE INPUT: true; the input reads as it did. -/
def entryAsksSpec : ChangeSpec := { name := "entryAsks", fn := fun _ => fun
  | [d1, d2, d3] => { results := [.lit (.bool true)], args := [d1, d2, d3] }
  | _ => none }
def entryAsksRow : OpenClaim := { program := "ytpccnpgigmcfoaa", sum := "113630c2236bd9f09fae9c9316f635b636248fd2d3f2ad9672f5299be607f468", func := "bellwether/bellwetherlaw04.EntryAsks", spec := "entryAsks", unfollowed := true, recurses := true, apart := false }
def EntryAsksSaid : Prop := entryAsksRow.holds Try.pinned (OpenSpec.ofChange entryAsksSpec)

/-- ITS FALSE NEIGHBOUR: 'it returns false'. Refute it at one input. -/
def entryAsksWrong : ChangeSpec := { name := "entryAsks", fn := fun _ => fun
  | [d1, d2, d3] => { results := [.lit (.bool false)], args := [d1, d2, d3] }
  | _ => none }
def EntryAsksWrongFalsely : Prop := entryAsksRow.holds Try.pinned (OpenSpec.ofChange entryAsksWrong)

/-- 'bellwetherlaw04.EntryJoins': WHATEVER THE INPUT: true; the input reads as it did. -/
def entryJoinsSpec : ChangeSpec := { name := "entryJoins", fn := fun _ => fun
  | [d1, d2, d3] => { results := [.lit (.bool true)], args := [d1, d2, d3] }
  | _ => none }
def entryJoinsRow : OpenClaim := { program := "ytpccnpgigmcfoaa", sum := "113630c2236bd9f09fae9c9316f635b636248fd2d3f2ad9672f5299be607f468", func := "bellwether/bellwetherlaw04.EntryJoins", spec := "entryJoins", inPlace := ["slices.overlaps[bellwether/api.Entry]"], unfollowed := true, recurses := true, apart := false }
def EntryJoinsSaid : Prop := entryJoinsRow.holds Try.pinned (OpenSpec.ofChange entryJoinsSpec)

/-- ITS FALSE NEIGHBOUR: 'it returns false'. Refute it at one input. -/
def entryJoinsWrong : ChangeSpec := { name := "entryJoins", fn := fun _ => fun
  | [d1, d2, d3] => { results := [.lit (.bool false)], args := [d1, d2, d3] }
  | _ => none }
def EntryJoinsWrongFalsely : Prop := entryJoinsRow.holds Try.pinned (OpenSpec.ofChange entryJoinsWrong)

/-- 'bellwetherlaw04.EntryPuts': WHATEVER THE INPUT: true; the input reads as it did. -/
def entryPutsSpec : ChangeSpec := { name := "entryPuts", fn := fun _ => fun
  | [d1, d2, d3] => { results := [.lit (.bool true)], args := [d1, d2, d3] }
  | _ => none }
def entryPutsRow : OpenClaim := { program := "ytpccnpgigmcfoaa", sum := "113630c2236bd9f09fae9c9316f635b636248fd2d3f2ad9672f5299be607f468", func := "bellwether/bellwetherlaw04.EntryPuts", spec := "entryPuts", inPlace := ["slices.overlaps[bellwether/api.Entry]"], unfollowed := true, recurses := true, apart := false }
def EntryPutsSaid : Prop := entryPutsRow.holds Try.pinned (OpenSpec.ofChange entryPutsSpec)

/-- ITS FALSE NEIGHBOUR: 'it returns false'. Refute it at one input. -/
def entryPutsWrong : ChangeSpec := { name := "entryPuts", fn := fun _ => fun
  | [d1, d2, d3] => { results := [.lit (.bool false)], args := [d1, d2, d3] }
  | _ => none }
def EntryPutsWrongFalsely : Prop := entryPutsRow.holds Try.pinned (OpenSpec.ofChange entryPutsWrong)

/- THE SECOND FORM. 'bulk': how many values and letters a reading holds, each counted each time it is reached (what is shared counts as often as it is met; a slice's spare places count too). A statement '..UptoSaid' is the law's where the arguments, and the package variables that the reading takes, are together of bulk at most 1048576: NARROWER than '..Said'. Prove '..Said' where nothing that the law and all that it calls make is longer than what came in: it says more and counts as full. Else prove '..UptoSaid'. A law counts once. -/
mutual
def uptoBulk {H : Type} : DataW H → Nat
  | .lit (.string bytes) => bytes.length + 1
  | .lit _ => 1
  | .nil => 1
  | .ptr d => uptoBulk d + 1
  | .slice elems spare => uptoBulkAll elems + uptoBulkAll spare + 1
  | .agg parts => uptoBulkAll parts + 1
  | .iface _ d => uptoBulk d + 1
  | .map entries => uptoBulkEntries entries + 1
  | .held _ => 1
def uptoBulkAll {H : Type} : List (DataW H) → Nat
  | [] => 0
  | d :: r => uptoBulk d + uptoBulkAll r
def uptoBulkEntries {H : Type} : List (Lit × DataW H) → Nat
  | [] => 0
  | x :: r => uptoBulkEntry x + uptoBulkEntries r
def uptoBulkEntry {H : Type} : Lit × DataW H → Nat
  | (.string bytes, d) => bytes.length + uptoBulk d + 1
  | (_, d) => uptoBulk d + 1
 end
def uptoSmall : (H : Type) → List (DataW H) → Bool := fun _ ds => decide (uptoBulkAll ds ≤ 1048576)
def OpenSpec.upto (s : _root_.Go.ChangeSpec) : _root_.Go.OpenSpec := { _root_.Go.OpenSpec.ofChange s with cond := some uptoSmall }

/-- 'bellwetherlaw04.EntryLattice', WHERE WHAT IT READS IS OF BULK AT MOST 1048576: true; the input reads as it did. -/
def entryLatticeUptoRow : OpenClaim := { program := "ytpccnpgigmcfoaa", sum := "113630c2236bd9f09fae9c9316f635b636248fd2d3f2ad9672f5299be607f468", func := "bellwether/bellwetherlaw04.EntryLattice", spec := "entryLattice", unfollowed := true, recurses := true, apart := false, narrowed := true }
def EntryLatticeUptoSaid : Prop := entryLatticeUptoRow.holds Try.pinned (OpenSpec.upto entryLatticeSpec)

/-- 'bellwetherlaw04.EntryOvers', WHERE WHAT IT READS IS OF BULK AT MOST 1048576: true; the input reads as it did. -/
def entryOversUptoRow : OpenClaim := { program := "ytpccnpgigmcfoaa", sum := "113630c2236bd9f09fae9c9316f635b636248fd2d3f2ad9672f5299be607f468", func := "bellwether/bellwetherlaw04.EntryOvers", spec := "entryOvers", unfollowed := true, recurses := true, apart := false, narrowed := true }
def EntryOversUptoSaid : Prop := entryOversUptoRow.holds Try.pinned (OpenSpec.upto entryOversSpec)

/-- 'bellwetherlaw04.EntryAsks', WHERE WHAT IT READS IS OF BULK AT MOST 1048576: true; the input reads as it did. -/
def entryAsksUptoRow : OpenClaim := { program := "ytpccnpgigmcfoaa", sum := "113630c2236bd9f09fae9c9316f635b636248fd2d3f2ad9672f5299be607f468", func := "bellwether/bellwetherlaw04.EntryAsks", spec := "entryAsks", unfollowed := true, recurses := true, apart := false, narrowed := true }
def EntryAsksUptoSaid : Prop := entryAsksUptoRow.holds Try.pinned (OpenSpec.upto entryAsksSpec)

/-- 'bellwetherlaw04.EntryJoins', WHERE WHAT IT READS IS OF BULK AT MOST 1048576: true; the input reads as it did. -/
def entryJoinsUptoRow : OpenClaim := { program := "ytpccnpgigmcfoaa", sum := "113630c2236bd9f09fae9c9316f635b636248fd2d3f2ad9672f5299be607f468", func := "bellwether/bellwetherlaw04.EntryJoins", spec := "entryJoins", inPlace := ["slices.overlaps[bellwether/api.Entry]"], unfollowed := true, recurses := true, apart := false, narrowed := true }
def EntryJoinsUptoSaid : Prop := entryJoinsUptoRow.holds Try.pinned (OpenSpec.upto entryJoinsSpec)

/-- 'bellwetherlaw04.EntryPuts', WHERE WHAT IT READS IS OF BULK AT MOST 1048576: true; the input reads as it did. -/
def entryPutsUptoRow : OpenClaim := { program := "ytpccnpgigmcfoaa", sum := "113630c2236bd9f09fae9c9316f635b636248fd2d3f2ad9672f5299be607f468", func := "bellwether/bellwetherlaw04.EntryPuts", spec := "entryPuts", inPlace := ["slices.overlaps[bellwether/api.Entry]"], unfollowed := true, recurses := true, apart := false, narrowed := true }
def EntryPutsUptoSaid : Prop := entryPutsUptoRow.holds Try.pinned (OpenSpec.upto entryPutsSpec)

end Rows
end Go.Proofs.Ytpccnpgigmcfoaa

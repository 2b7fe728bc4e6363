/-
  No cell of these rows narrows 'for every input' (looked for: loops, veiled, ifaces, maps, wideKeys, modest, calm, conditions, laid).
  DERIVED. THE GIVEN ROWS OF THIS SEAT. 5 by the template 'for every input the law returns true; each argument reads behind the call as it read before'; 0 by the template 'total and deterministic' (their statements: YthpbggknfhchlaaTotals.lean).
  GIVEN WITH THE SEED: the statements are not yours to turn. If you find one false, say at which input.
  Laid BY PROGRAM, IN A SANDBOX (cutbox-rows.mjs): the forced cells as the released guide's own fill.sh prints them over the translation 5017dcec5093edd9… (all of the seat's roots in one cut). By AI agents, Wed Nov 11 2026. No macro, syntax, notation, axiom, sorry.
-/
import Derived.Test.YthpbggknfhchlaaChecked
import GoSem.Claim
import GoSem.ClaimJoined
import GoSem.ClaimMapViews
import Derived.JoinedTies
import Derived.KernelRfl
namespace Go.Proofs.Ythpbggknfhchlaa
/- THE CELL 'sum', in the pinned program and in every row, IS THE sha256 OF THE DUMP (.gsa) THAT YthpbggknfhchlaaProg.lean LOADS. Nothing in Lean hashes anything: it is a label: what it is worth is what the hold of that sum in a sandbox is worth. -/
noncomputable def Try.pinned : Pinned := { name := "ythpbggknfhchlaa", sum := "5017dcec5093edd90d4caf40379a53f68f0666ae30e069ac1104edab815bec3f", checked := Try.checked }
namespace Rows
def none {H : Type} : Left H := { results := [], args := [] }

/-- 'bellwetherlaw06.ViewPuts': WHATEVER THE INPUT: true; the input reads as it did. -/
def viewPutsSpec : ChangeSpec := { name := "viewPuts", fn := fun _ => fun
  | [d1, d2, d3] => { results := [.lit (.bool true)], args := [d1, d2, d3] }
  | _ => none }
def viewPutsRow : OpenClaim := { program := "ythpbggknfhchlaa", sum := "5017dcec5093edd90d4caf40379a53f68f0666ae30e069ac1104edab815bec3f", func := "bellwether/bellwetherlaw06.ViewPuts", spec := "viewPuts", unfollowed := true, recurses := true, apart := false }
def ViewPutsSaid : Prop := viewPutsRow.holds Try.pinned (OpenSpec.ofChange viewPutsSpec)

/-- ITS FALSE NEIGHBOUR: 'it returns false'. Refute it at one input. -/
def viewPutsWrong : ChangeSpec := { name := "viewPuts", fn := fun _ => fun
  | [d1, d2, d3] => { results := [.lit (.bool false)], args := [d1, d2, d3] }
  | _ => none }
def ViewPutsWrongFalsely : Prop := viewPutsRow.holds Try.pinned (OpenSpec.ofChange viewPutsWrong)

/-- 'bellwetherlaw06.ViewLattice': WHATEVER THE INPUT: true; the input reads as it did. -/
def viewLatticeSpec : ChangeSpec := { name := "viewLattice", fn := fun _ => fun
  | [d1, d2, d3] => { results := [.lit (.bool true)], args := [d1, d2, d3] }
  | _ => none }
def viewLatticeRow : OpenClaim := { program := "ythpbggknfhchlaa", sum := "5017dcec5093edd90d4caf40379a53f68f0666ae30e069ac1104edab815bec3f", func := "bellwether/bellwetherlaw06.ViewLattice", spec := "viewLattice", unfollowed := true, recurses := true, apart := false }
def ViewLatticeSaid : Prop := viewLatticeRow.holds Try.pinned (OpenSpec.ofChange viewLatticeSpec)

/-- ITS FALSE NEIGHBOUR: 'it returns false'. Refute it at one input. -/
def viewLatticeWrong : ChangeSpec := { name := "viewLattice", fn := fun _ => fun
  | [d1, d2, d3] => { results := [.lit (.bool false)], args := [d1, d2, d3] }
  | _ => none }
def ViewLatticeWrongFalsely : Prop := viewLatticeRow.holds Try.pinned (OpenSpec.ofChange viewLatticeWrong)

/-- 'bellwetherlaw06.ViewWithout': WHATEVER THE INPUT: true; the input reads as it did. -/
def viewWithoutSpec : ChangeSpec := { name := "viewWithout", fn := fun _ => fun
  | [d1, d2] => { results := [.lit (.bool true)], args := [d1, d2] }
  | _ => none }
def viewWithoutRow : OpenClaim := { program := "ythpbggknfhchlaa", sum := "5017dcec5093edd90d4caf40379a53f68f0666ae30e069ac1104edab815bec3f", func := "bellwether/bellwetherlaw06.ViewWithout", spec := "viewWithout", unfollowed := true, recurses := true, apart := false }
def ViewWithoutSaid : Prop := viewWithoutRow.holds Try.pinned (OpenSpec.ofChange viewWithoutSpec)

/-- ITS FALSE NEIGHBOUR: 'it returns false'. Refute it at one input. -/
def viewWithoutWrong : ChangeSpec := { name := "viewWithout", fn := fun _ => fun
  | [d1, d2] => { results := [.lit (.bool false)], args := [d1, d2] }
  | _ => none }
def ViewWithoutWrongFalsely : Prop := viewWithoutRow.holds Try.pinned (OpenSpec.ofChange viewWithoutWrong)

/-- 'bellwetherlaw06.ViewOvers': WHATEVER THE INPUT: true; the input reads as it did. -/
def viewOversSpec : ChangeSpec := { name := "viewOvers", fn := fun _ => fun
  | [d1, d2] => { results := [.lit (.bool true)], args := [d1, d2] }
  | _ => none }
def viewOversRow : OpenClaim := { program := "ythpbggknfhchlaa", sum := "5017dcec5093edd90d4caf40379a53f68f0666ae30e069ac1104edab815bec3f", func := "bellwether/bellwetherlaw06.ViewOvers", spec := "viewOvers", unfollowed := true, recurses := true, apart := false }
def ViewOversSaid : Prop := viewOversRow.holds Try.pinned (OpenSpec.ofChange viewOversSpec)

/-- ITS FALSE NEIGHBOUR: 'it returns false'. Refute it at one input. -/
def viewOversWrong : ChangeSpec := { name := "viewOvers", fn := fun _ => fun
  | [d1, d2] => { results := [.lit (.bool false)], args := [d1, d2] }
  | _ => none }
def ViewOversWrongFalsely : Prop := viewOversRow.holds Try.pinned (OpenSpec.ofChange viewOversWrong)

/-- 'bellwetherlaw06.ViewAsks': WHATEVER THE INPUT: true; the input reads as it did. -/
def viewAsksSpec : ChangeSpec := { name := "viewAsks", fn := fun _ => fun
  | [d1, d2, d3] => { results := [.lit (.bool true)], args := [d1, d2, d3] }
  | _ => none }
def viewAsksRow : OpenClaim := { program := "ythpbggknfhchlaa", sum := "5017dcec5093edd90d4caf40379a53f68f0666ae30e069ac1104edab815bec3f", func := "bellwether/bellwetherlaw06.ViewAsks", spec := "viewAsks", unfollowed := true, recurses := true, apart := false }
def ViewAsksSaid : Prop := viewAsksRow.holds Try.pinned (OpenSpec.ofChange viewAsksSpec)

/-- ITS FALSE NEIGHBOUR: 'it returns false'. Refute it at one input. -/
def viewAsksWrong : ChangeSpec := { name := "viewAsks", fn := fun _ => fun
  | [d1, d2, d3] => { results := [.lit (.bool false)], args := [d1, d2, d3] }
  | _ => none }
def ViewAsksWrongFalsely : Prop := viewAsksRow.holds Try.pinned (OpenSpec.ofChange viewAsksWrong)

/- THE SECOND FORM. 'bulk': how many values and letters a reading holds, each counted each time it is reached (what is shared counts as often as it is met; a slice's spare places count too). A statement '..UptoSaid' is the law's where the arguments, and the package variables that the reading takes, are together of bulk at most 1048576: NARROWER than '..Said'. Prove '..Said' where nothing that the law and all that it calls make is longer than what came in: it says more and counts as full. Else prove '..UptoSaid'. A law counts once. -/
mutual
def uptoBulk {H : Type} : DataW H → Nat
  | .lit (.string bytes) => bytes.length + 1
  | .lit _ => 1
  | .nil => 1
  | .ptr d => uptoBulk d + 1
  | .slice elems spare => uptoBulkAll elems + uptoBulkAll spare + 1
  | .agg parts => uptoBulkAll parts + 1
  | .iface _ d => uptoBulk d + 1
  | .map entries => uptoBulkEntries entries + 1
  | .held _ => 1
def uptoBulkAll {H : Type} : List (DataW H) → Nat
  | [] => 0
  | d :: r => uptoBulk d + uptoBulkAll r
def uptoBulkEntries {H : Type} : List (Lit × DataW H) → Nat
  | [] => 0
  | x :: r => uptoBulkEntry x + uptoBulkEntries r
def uptoBulkEntry {H : Type} : Lit × DataW H → Nat
  | (.string bytes, d) => bytes.length + uptoBulk d + 1
  | (_, d) => uptoBulk d + 1
 end
def uptoSmall : (H : Type) → List (DataW H) → Bool := fun _ ds => decide (uptoBulkAll ds ≤ 1048576)
def OpenSpec.upto (s : _root_.Go.ChangeSpec) : _root_.Go.OpenSpec := { _root_.Go.OpenSpec.ofChange s with cond := some uptoSmall }

/-- 'bellwetherlaw06.ViewPuts', WHERE WHAT IT READS IS OF BULK AT MOST 1048576: true; the input reads as it did. -/
def viewPutsUptoRow : OpenClaim := { program := "ythpbggknfhchlaa", sum := "5017dcec5093edd90d4caf40379a53f68f0666ae30e069ac1104edab815bec3f", func := "bellwether/bellwetherlaw06.ViewPuts", spec := "viewPuts", unfollowed := true, recurses := true, apart := false, narrowed := true }
def ViewPutsUptoSaid : Prop := viewPutsUptoRow.holds Try.pinned (OpenSpec.upto viewPutsSpec)

/-- 'bellwetherlaw06.ViewLattice', WHERE WHAT IT READS IS OF BULK AT MOST 1048576: true; the input reads as it did. -/
def viewLatticeUptoRow : OpenClaim := { program := "ythpbggknfhchlaa", sum := "5017dcec5093edd90d4caf40379a53f68f0666ae30e069ac1104edab815bec3f", func := "bellwether/bellwetherlaw06.ViewLattice", spec := "viewLattice", unfollowed := true, recurses := true, apart := false, narrowed := true }
def ViewLatticeUptoSaid : Prop := viewLatticeUptoRow.holds Try.pinned (OpenSpec.upto viewLatticeSpec)

/-- 'bellwetherlaw06.ViewWithout', WHERE WHAT IT READS IS OF BULK AT MOST 1048576: true; the input reads as it did. -/
def viewWithoutUptoRow : OpenClaim := { program := "ythpbggknfhchlaa", sum := "5017dcec5093edd90d4caf40379a53f68f0666ae30e069ac1104edab815bec3f", func := "bellwether/bellwetherlaw06.ViewWithout", spec := "viewWithout", unfollowed := true, recurses := true, apart := false, narrowed := true }
def ViewWithoutUptoSaid : Prop := viewWithoutUptoRow.holds Try.pinned (OpenSpec.upto viewWithoutSpec)

/-- 'bellwetherlaw06.ViewOvers', WHERE WHAT IT READS IS OF BULK AT MOST 1048576: true; the input reads as it did. -/
def viewOversUptoRow : OpenClaim := { program := "ythpbggknfhchlaa", sum := "5017dcec5093edd90d4caf40379a53f68f0666ae30e069ac1104edab815bec3f", func := "bellwether/bellwetherlaw06.ViewOvers", spec := "viewOvers", unfollowed := true, recurses := true, apart := false, narrowed := true }
def ViewOversUptoSaid : Prop := viewOversUptoRow.holds Try.pinned (OpenSpec.upto viewOversSpec)

/-- 'bellwetherlaw06.ViewAsks', WHERE WHAT IT READS IS OF BULK AT MOST 1048576: true; the input reads as it did. -/
def viewAsksUptoRow : OpenClaim := { program := "ythpbggknfhchlaa", sum := "5017dcec5093edd90d4caf40379a53f68f0666ae30e069ac1104edab815bec3f", func := "bellwether/bellwetherlaw06.ViewAsks", spec := "viewAsks", unfollowed := true, recurses := true, apart := false, narrowed := true }
def ViewAsksUptoSaid : Prop := viewAsksUptoRow.holds Try.pinned (OpenSpec.upto viewAsksSpec)

end Rows
end Go.Proofs.Ythpbggknfhchlaa

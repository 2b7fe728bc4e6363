/-
  No cell of these rows narrows 'for every input' (looked for: loops, veiled, ifaces, maps, wideKeys, modest, calm, conditions, laid).
  DERIVED. THE GIVEN ROWS OF THIS SEAT. 4 by the template 'for every input the law returns true; each argument reads behind the call as it read before'; 0 by the template 'total and deterministic' (their statements: YtgipbmjkgciccaaTotals.lean).
  GIVEN WITH THE SEED: the statements are not yours to turn. If you find one false, say at which input.
  Laid BY PROGRAM, IN A SANDBOX (cutbox-rows.mjs): the forced cells as the released guide's own fill.sh prints them over the translation 2488018a13265449… (all of the seat's roots in one cut). By AI agents, Wed Nov 11 2026. No macro, syntax, notation, axiom, sorry.
-/
import Derived.Test.YtgipbmjkgciccaaChecked
import GoSem.Claim
import GoSem.ClaimJoined
import GoSem.ClaimMapViews
import Derived.JoinedTies
import Derived.KernelRfl
namespace Go.Proofs.Ytgipbmjkgciccaa
/- THE CELL 'sum', in the pinned program and in every row, IS THE sha256 OF THE DUMP (.gsa) THAT YtgipbmjkgciccaaProg.lean LOADS. Nothing in Lean hashes anything: it is a label: what it is worth is what the hold of that sum in a sandbox is worth. -/
noncomputable def Try.pinned : Pinned := { name := "ytgipbmjkgciccaa", sum := "2488018a1326544973769b3571bb5913dcc4ee4b8da8027b73ef030febef805d", checked := Try.checked }
namespace Rows
def none {H : Type} : Left H := { results := [], args := [] }

/-- 'bellwetherlaw08.DeltaPicks': WHATEVER THE INPUT: true; the input reads as it did. -/
def deltaPicksSpec : ChangeSpec := { name := "deltaPicks", fn := fun _ => fun
  | [d1, d2] => { results := [.lit (.bool true)], args := [d1, d2] }
  | _ => none }
def deltaPicksRow : OpenClaim := { program := "ytgipbmjkgciccaa", sum := "2488018a1326544973769b3571bb5913dcc4ee4b8da8027b73ef030febef805d", func := "bellwether/bellwetherlaw08.DeltaPicks", spec := "deltaPicks", unfollowed := true, recurses := true, apart := false }
def DeltaPicksSaid : Prop := deltaPicksRow.holds Try.pinned (OpenSpec.ofChange deltaPicksSpec)

/-- ITS FALSE NEIGHBOUR: 'it returns false'. Refute it at one input. -/
def deltaPicksWrong : ChangeSpec := { name := "deltaPicks", fn := fun _ => fun
  | [d1, d2] => { results := [.lit (.bool false)], args := [d1, d2] }
  | _ => none }
def DeltaPicksWrongFalsely : Prop := deltaPicksRow.holds Try.pinned (OpenSpec.ofChange deltaPicksWrong)

/-- 'bellwetherlaw08.DeltaWhole': WHATEVER THE INPUT: true; the input reads as it did. -/
def deltaWholeSpec : ChangeSpec := { name := "deltaWhole", fn := fun _ => fun
  | [d1, d2] => { results := [.lit (.bool true)], args := [d1, d2] }
  | _ => none }
def deltaWholeRow : OpenClaim := { program := "ytgipbmjkgciccaa", sum := "2488018a1326544973769b3571bb5913dcc4ee4b8da8027b73ef030febef805d", func := "bellwether/bellwetherlaw08.DeltaWhole", spec := "deltaWhole", unfollowed := true, recurses := true, apart := false }
def DeltaWholeSaid : Prop := deltaWholeRow.holds Try.pinned (OpenSpec.ofChange deltaWholeSpec)

/-- ITS FALSE NEIGHBOUR: 'it returns false'. Refute it at one input. -/
def deltaWholeWrong : ChangeSpec := { name := "deltaWhole", fn := fun _ => fun
  | [d1, d2] => { results := [.lit (.bool false)], args := [d1, d2] }
  | _ => none }
def DeltaWholeWrongFalsely : Prop := deltaWholeRow.holds Try.pinned (OpenSpec.ofChange deltaWholeWrong)

/-- 'bellwetherlaw08.DeltaTwice': WHATEVER THE INPUT: true; the input reads as it did. -/
def deltaTwiceSpec : ChangeSpec := { name := "deltaTwice", fn := fun _ => fun
  | [d1, d2, d3] => { results := [.lit (.bool true)], args := [d1, d2, d3] }
  | _ => none }
def deltaTwiceRow : OpenClaim := { program := "ytgipbmjkgciccaa", sum := "2488018a1326544973769b3571bb5913dcc4ee4b8da8027b73ef030febef805d", func := "bellwether/bellwetherlaw08.DeltaTwice", spec := "deltaTwice", unfollowed := true, recurses := true, apart := false }
def DeltaTwiceSaid : Prop := deltaTwiceRow.holds Try.pinned (OpenSpec.ofChange deltaTwiceSpec)

/-- ITS FALSE NEIGHBOUR: 'it returns false'. Refute it at one input. -/
def deltaTwiceWrong : ChangeSpec := { name := "deltaTwice", fn := fun _ => fun
  | [d1, d2, d3] => { results := [.lit (.bool false)], args := [d1, d2, d3] }
  | _ => none }
def DeltaTwiceWrongFalsely : Prop := deltaTwiceRow.holds Try.pinned (OpenSpec.ofChange deltaTwiceWrong)

/-- 'bellwetherlaw08.DeltaApplies': WHATEVER THE INPUT: true; the input reads as it did. -/
def deltaAppliesSpec : ChangeSpec := { name := "deltaApplies", fn := fun _ => fun
  | [d1, d2, d3] => { results := [.lit (.bool true)], args := [d1, d2, d3] }
  | _ => none }
def deltaAppliesRow : OpenClaim := { program := "ytgipbmjkgciccaa", sum := "2488018a1326544973769b3571bb5913dcc4ee4b8da8027b73ef030febef805d", func := "bellwether/bellwetherlaw08.DeltaApplies", spec := "deltaApplies", unfollowed := true, recurses := true, apart := false }
def DeltaAppliesSaid : Prop := deltaAppliesRow.holds Try.pinned (OpenSpec.ofChange deltaAppliesSpec)

/-- ITS FALSE NEIGHBOUR: 'it returns false'. Refute it at one input. -/
def deltaAppliesWrong : ChangeSpec := { name := "deltaApplies", fn := fun _ => fun
  | [d1, d2, d3] => { results := [.lit (.bool false)], args := [d1, d2, d3] }
  | _ => none }
def DeltaAppliesWrongFalsely : Prop := deltaAppliesRow.holds Try.pinned (OpenSpec.ofChange deltaAppliesWrong)

/- THE SECOND FORM. 'bulk': how many values and letters a reading holds, each counted each time it is reached (what is shared counts as often as it is met; a slice's spare places count too). A statement '..UptoSaid' is the law's where the arguments, and the package variables that the reading takes, are together of bulk at most 1048576: NARROWER than '..Said'. Prove '..Said' where nothing that the law and all that it calls make is longer than what came in: it says more and counts as full. Else prove '..UptoSaid'. A law counts once. -/
mutual
def uptoBulk {H : Type} : DataW H → Nat
  | .lit (.string bytes) => bytes.length + 1
  | .lit _ => 1
  | .nil => 1
  | .ptr d => uptoBulk d + 1
  | .slice elems spare => uptoBulkAll elems + uptoBulkAll spare + 1
  | .agg parts => uptoBulkAll parts + 1
  | .iface _ d => uptoBulk d + 1
  | .map entries => uptoBulkEntries entries + 1
  | .held _ => 1
def uptoBulkAll {H : Type} : List (DataW H) → Nat
  | [] => 0
  | d :: r => uptoBulk d + uptoBulkAll r
def uptoBulkEntries {H : Type} : List (Lit × DataW H) → Nat
  | [] => 0
  | x :: r => uptoBulkEntry x + uptoBulkEntries r
def uptoBulkEntry {H : Type} : Lit × DataW H → Nat
  | (.string bytes, d) => bytes.length + uptoBulk d + 1
  | (_, d) => uptoBulk d + 1
 end
def uptoSmall : (H : Type) → List (DataW H) → Bool := fun _ ds => decide (uptoBulkAll ds ≤ 1048576)
def OpenSpec.upto (s : _root_.Go.ChangeSpec) : _root_.Go.OpenSpec := { _root_.Go.OpenSpec.ofChange s with cond := some uptoSmall }

/-- 'bellwetherlaw08.DeltaPicks', WHERE WHAT IT READS IS OF BULK AT MOST 1048576: true; the input reads as it did. -/
def deltaPicksUptoRow : OpenClaim := { program := "ytgipbmjkgciccaa", sum := "2488018a1326544973769b3571bb5913dcc4ee4b8da8027b73ef030febef805d", func := "bellwether/bellwetherlaw08.DeltaPicks", spec := "deltaPicks", unfollowed := true, recurses := true, apart := false, narrowed := true }
def DeltaPicksUptoSaid : Prop := deltaPicksUptoRow.holds Try.pinned (OpenSpec.upto deltaPicksSpec)

/-- 'bellwetherlaw08.DeltaWhole', WHERE WHAT IT READS IS OF BULK AT MOST 1048576: true; the input reads as it did. -/
def deltaWholeUptoRow : OpenClaim := { program := "ytgipbmjkgciccaa", sum := "2488018a1326544973769b3571bb5913dcc4ee4b8da8027b73ef030febef805d", func := "bellwether/bellwetherlaw08.DeltaWhole", spec := "deltaWhole", unfollowed := true, recurses := true, apart := false, narrowed := true }
def DeltaWholeUptoSaid : Prop := deltaWholeUptoRow.holds Try.pinned (OpenSpec.upto deltaWholeSpec)

/-- 'bellwetherlaw08.DeltaTwice', WHERE WHAT IT READS IS OF BULK AT MOST 1048576: true; the input reads as it did. -/
def deltaTwiceUptoRow : OpenClaim := { program := "ytgipbmjkgciccaa", sum := "2488018a1326544973769b3571bb5913dcc4ee4b8da8027b73ef030febef805d", func := "bellwether/bellwetherlaw08.DeltaTwice", spec := "deltaTwice", unfollowed := true, recurses := true, apart := false, narrowed := true }
def DeltaTwiceUptoSaid : Prop := deltaTwiceUptoRow.holds Try.pinned (OpenSpec.upto deltaTwiceSpec)

/-- 'bellwetherlaw08.DeltaApplies', WHERE WHAT IT READS IS OF BULK AT MOST 1048576: true; the input reads as it did. -/
def deltaAppliesUptoRow : OpenClaim := { program := "ytgipbmjkgciccaa", sum := "2488018a1326544973769b3571bb5913dcc4ee4b8da8027b73ef030febef805d", func := "bellwether/bellwetherlaw08.DeltaApplies", spec := "deltaApplies", unfollowed := true, recurses := true, apart := false, narrowed := true }
def DeltaAppliesUptoSaid : Prop := deltaAppliesUptoRow.holds Try.pinned (OpenSpec.upto deltaAppliesSpec)

end Rows
end Go.Proofs.Ytgipbmjkgciccaa

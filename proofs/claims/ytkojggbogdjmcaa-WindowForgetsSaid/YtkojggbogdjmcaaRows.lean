/-
  No cell of these rows narrows 'for every input' (looked for: loops, veiled, ifaces, maps, wideKeys, modest, calm, conditions, laid).
  DERIVED. THE GIVEN ROWS OF THIS SEAT. 4 by the template 'for every input the law returns true; each argument reads behind the call as it read before'; 0 by the template 'total and deterministic' (their statements: YtkojggbogdjmcaaTotals.lean).
  GIVEN WITH THE SEED: the statements are not yours to turn. If you find one false, say at which input.
  Laid BY PROGRAM, IN A SANDBOX (cutbox-rows.mjs): the forced cells as the released guide's own fill.sh prints them over the translation e0f11663dc95acc3… (all of the seat's roots in one cut). By AI agents, Wed Nov 11 2026. No macro, syntax, notation, axiom, sorry.
-/
import Derived.Test.YtkojggbogdjmcaaChecked
import GoSem.Claim
import GoSem.ClaimJoined
import GoSem.ClaimMapViews
import Derived.JoinedTies
import Derived.KernelRfl
namespace Go.Proofs.Ytkojggbogdjmcaa
/- THE CELL 'sum', in the pinned program and in every row, IS THE sha256 OF THE DUMP (.gsa) THAT YtkojggbogdjmcaaProg.lean LOADS. Nothing in Lean hashes anything: it is a label: what it is worth is what the hold of that sum in a sandbox is worth. -/
noncomputable def Try.pinned : Pinned := { name := "ytkojggbogdjmcaa", sum := "e0f11663dc95acc33d7fcaaaa46255f521e26b597b531b6dd116bc7fd01e4f94", checked := Try.checked }
namespace Rows
def none {H : Type} : Left H := { results := [], args := [] }

/-- 'bellwetherlaw10.WindowBounds': WHATEVER THE INPUT: true; the input reads as it did. -/
def windowBoundsSpec : ChangeSpec := { name := "windowBounds", fn := fun _ => fun
  | [d1, d2] => { results := [.lit (.bool true)], args := [d1, d2] }
  | _ => none }
def windowBoundsRow : OpenClaim := { program := "ytkojggbogdjmcaa", sum := "e0f11663dc95acc33d7fcaaaa46255f521e26b597b531b6dd116bc7fd01e4f94", func := "bellwether/bellwetherlaw10.WindowBounds", spec := "windowBounds", inPlace := ["math/bits.Add64"], unfollowed := true, recurses := true, named := ["math/bits.divideError", "math/bits.overflowError"], apart := false }
def WindowBoundsSaid : Prop := windowBoundsRow.holds Try.pinned (OpenSpec.ofChange windowBoundsSpec)

/-- ITS FALSE NEIGHBOUR: 'it returns false'. Refute it at one input. -/
def windowBoundsWrong : ChangeSpec := { name := "windowBounds", fn := fun _ => fun
  | [d1, d2] => { results := [.lit (.bool false)], args := [d1, d2] }
  | _ => none }
def WindowBoundsWrongFalsely : Prop := windowBoundsRow.holds Try.pinned (OpenSpec.ofChange windowBoundsWrong)

/-- 'bellwetherlaw10.WindowForgets': WHATEVER THE INPUT: true; the input reads as it did. -/
def windowForgetsSpec : ChangeSpec := { name := "windowForgets", fn := fun _ => fun
  | [d1, d2] => { results := [.lit (.bool true)], args := [d1, d2] }
  | _ => none }
def windowForgetsRow : OpenClaim := { program := "ytkojggbogdjmcaa", sum := "e0f11663dc95acc33d7fcaaaa46255f521e26b597b531b6dd116bc7fd01e4f94", func := "bellwether/bellwetherlaw10.WindowForgets", spec := "windowForgets", inPlace := ["math/bits.Add64"], unfollowed := true, recurses := true, named := ["math/bits.divideError", "math/bits.overflowError"], apart := false }
def WindowForgetsSaid : Prop := windowForgetsRow.holds Try.pinned (OpenSpec.ofChange windowForgetsSpec)

/-- ITS FALSE NEIGHBOUR: 'it returns false'. Refute it at one input. -/
def windowForgetsWrong : ChangeSpec := { name := "windowForgets", fn := fun _ => fun
  | [d1, d2] => { results := [.lit (.bool false)], args := [d1, d2] }
  | _ => none }
def WindowForgetsWrongFalsely : Prop := windowForgetsRow.holds Try.pinned (OpenSpec.ofChange windowForgetsWrong)

/-- 'bellwetherlaw10.WindowSteady': WHATEVER THE INPUT: true; the input reads as it did. -/
def windowSteadySpec : ChangeSpec := { name := "windowSteady", fn := fun _ => fun
  | [d1, d2, d3] => { results := [.lit (.bool true)], args := [d1, d2, d3] }
  | _ => none }
def windowSteadyRow : OpenClaim := { program := "ytkojggbogdjmcaa", sum := "e0f11663dc95acc33d7fcaaaa46255f521e26b597b531b6dd116bc7fd01e4f94", func := "bellwether/bellwetherlaw10.WindowSteady", spec := "windowSteady", inPlace := ["math/bits.Add64"], unfollowed := true, recurses := true, named := ["math/bits.divideError", "math/bits.overflowError"], apart := false }
def WindowSteadySaid : Prop := windowSteadyRow.holds Try.pinned (OpenSpec.ofChange windowSteadySpec)

/-- ITS FALSE NEIGHBOUR: 'it returns false'. Refute it at one input. -/
def windowSteadyWrong : ChangeSpec := { name := "windowSteady", fn := fun _ => fun
  | [d1, d2, d3] => { results := [.lit (.bool false)], args := [d1, d2, d3] }
  | _ => none }
def WindowSteadyWrongFalsely : Prop := windowSteadyRow.holds Try.pinned (OpenSpec.ofChange windowSteadyWrong)

/-- 'bellwetherlaw10.WindowArrives': WHATEVER THE INPUT: true; the input reads as it did. -/
def windowArrivesSpec : ChangeSpec := { name := "windowArrives", fn := fun _ => fun
  | [d1, d2, d3] => { results := [.lit (.bool true)], args := [d1, d2, d3] }
  | _ => none }
def windowArrivesRow : OpenClaim := { program := "ytkojggbogdjmcaa", sum := "e0f11663dc95acc33d7fcaaaa46255f521e26b597b531b6dd116bc7fd01e4f94", func := "bellwether/bellwetherlaw10.WindowArrives", spec := "windowArrives", inPlace := ["math/bits.Add64"], unfollowed := true, recurses := true, named := ["math/bits.divideError", "math/bits.overflowError"], apart := false }
def WindowArrivesSaid : Prop := windowArrivesRow.holds Try.pinned (OpenSpec.ofChange windowArrivesSpec)

/-- ITS FALSE NEIGHBOUR: 'it returns false'. Refute it at one input. -/
def windowArrivesWrong : ChangeSpec := { name := "windowArrives", fn := fun _ => fun
  | [d1, d2, d3] => { results := [.lit (.bool false)], args := [d1, d2, d3] }
  | _ => none }
def WindowArrivesWrongFalsely : Prop := windowArrivesRow.holds Try.pinned (OpenSpec.ofChange windowArrivesWrong)

/- THE SECOND FORM. 'bulk': how many values and letters a reading holds, each counted each time it is reached (what is shared counts as often as it is met; a slice's spare places count too). A statement '..UptoSaid' is the law's where the arguments, and the package variables that the reading takes, are together of bulk at most 1048576: NARROWER than '..Said'. Prove '..Said' where nothing that the law and all that it calls make is longer than what came in: it says more and counts as full. Else prove '..UptoSaid'. A law counts once. -/
mutual
def uptoBulk {H : Type} : DataW H → Nat
  | .lit (.string bytes) => bytes.length + 1
  | .lit _ => 1
  | .nil => 1
  | .ptr d => uptoBulk d + 1
  | .slice elems spare => uptoBulkAll elems + uptoBulkAll spare + 1
  | .agg parts => uptoBulkAll parts + 1
  | .iface _ d => uptoBulk d + 1
  | .map entries => uptoBulkEntries entries + 1
  | .held _ => 1
def uptoBulkAll {H : Type} : List (DataW H) → Nat
  | [] => 0
  | d :: r => uptoBulk d + uptoBulkAll r
def uptoBulkEntries {H : Type} : List (Lit × DataW H) → Nat
  | [] => 0
  | x :: r => uptoBulkEntry x + uptoBulkEntries r
def uptoBulkEntry {H : Type} : Lit × DataW H → Nat
  | (.string bytes, d) => bytes.length + uptoBulk d + 1
  | (_, d) => uptoBulk d + 1
 end
def uptoSmall : (H : Type) → List (DataW H) → Bool := fun _ ds => decide (uptoBulkAll ds ≤ 1048576)
def OpenSpec.upto (s : _root_.Go.ChangeSpec) : _root_.Go.OpenSpec := { _root_.Go.OpenSpec.ofChange s with cond := some uptoSmall }

/-- 'bellwetherlaw10.WindowBounds', WHERE WHAT IT READS IS OF BULK AT MOST 1048576: true; the input reads as it did. -/
def windowBoundsUptoRow : OpenClaim := { program := "ytkojggbogdjmcaa", sum := "e0f11663dc95acc33d7fcaaaa46255f521e26b597b531b6dd116bc7fd01e4f94", func := "bellwether/bellwetherlaw10.WindowBounds", spec := "windowBounds", inPlace := ["math/bits.Add64"], unfollowed := true, recurses := true, named := ["math/bits.divideError", "math/bits.overflowError"], apart := false, narrowed := true }
def WindowBoundsUptoSaid : Prop := windowBoundsUptoRow.holds Try.pinned (OpenSpec.upto windowBoundsSpec)

/-- 'bellwetherlaw10.WindowForgets', WHERE WHAT IT READS IS OF BULK AT MOST 1048576: true; the input reads as it did. -/
def windowForgetsUptoRow : OpenClaim := { program := "ytkojggbogdjmcaa", sum := "e0f11663dc95acc33d7fcaaaa46255f521e26b597b531b6dd116bc7fd01e4f94", func := "bellwether/bellwetherlaw10.WindowForgets", spec := "windowForgets", inPlace := ["math/bits.Add64"], unfollowed := true, recurses := true, named := ["math/bits.divideError", "math/bits.overflowError"], apart := false, narrowed := true }
def WindowForgetsUptoSaid : Prop := windowForgetsUptoRow.holds Try.pinned (OpenSpec.upto windowForgetsSpec)

/-- 'bellwetherlaw10.WindowSteady', WHERE WHAT IT READS IS OF BULK AT MOST 1048576: true; the input reads as it did. -/
def windowSteadyUptoRow : OpenClaim := { program := "ytkojggbogdjmcaa", sum := "e0f11663dc95acc33d7fcaaaa46255f521e26b597b531b6dd116bc7fd01e4f94", func := "bellwether/bellwetherlaw10.WindowSteady", spec := "windowSteady", inPlace := ["math/bits.Add64"], unfollowed := true, recurses := true, named := ["math/bits.divideError", "math/bits.overflowError"], apart := false, narrowed := true }
def WindowSteadyUptoSaid : Prop := windowSteadyUptoRow.holds Try.pinned (OpenSpec.upto windowSteadySpec)

/-- 'bellwetherlaw10.WindowArrives', WHERE WHAT IT READS IS OF BULK AT MOST 1048576: true; the input reads as it did. -/
def windowArrivesUptoRow : OpenClaim := { program := "ytkojggbogdjmcaa", sum := "e0f11663dc95acc33d7fcaaaa46255f521e26b597b531b6dd116bc7fd01e4f94", func := "bellwether/bellwetherlaw10.WindowArrives", spec := "windowArrives", inPlace := ["math/bits.Add64"], unfollowed := true, recurses := true, named := ["math/bits.divideError", "math/bits.overflowError"], apart := false, narrowed := true }
def WindowArrivesUptoSaid : Prop := windowArrivesUptoRow.holds Try.pinned (OpenSpec.upto windowArrivesSpec)

end Rows
end Go.Proofs.Ytkojggbogdjmcaa

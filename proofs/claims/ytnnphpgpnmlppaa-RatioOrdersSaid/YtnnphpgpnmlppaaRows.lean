/-
  No cell of these rows narrows 'for every input' (looked for: loops, veiled, ifaces, maps, wideKeys, modest, calm, conditions, laid).
  DERIVED. THE GIVEN ROWS OF THIS SEAT. 5 by the template 'for every input the law returns true; each argument reads behind the call as it read before'; 0 by the template 'total and deterministic' (their statements: YtnnphpgpnmlppaaTotals.lean).
  GIVEN WITH THE SEED: the statements are not yours to turn. If you find one false, say at which input.
  Laid BY PROGRAM, IN A SANDBOX (cutbox-rows.mjs): the forced cells as the released guide's own fill.sh prints them over the translation 43a88348c6076147… (all of the seat's roots in one cut). By AI agents, Wed Nov 11 2026. No macro, syntax, notation, axiom, sorry.
-/
import Derived.Test.YtnnphpgpnmlppaaChecked
import GoSem.Claim
import GoSem.ClaimJoined
import GoSem.ClaimMapViews
import Derived.JoinedTies
import Derived.KernelRfl
namespace Go.Proofs.Ytnnphpgpnmlppaa
/- THE CELL 'sum', in the pinned program and in every row, IS THE sha256 OF THE DUMP (.gsa) THAT YtnnphpgpnmlppaaProg.lean LOADS. Nothing in Lean hashes anything: it is a label: what it is worth is what the hold of that sum in a sandbox is worth. -/
noncomputable def Try.pinned : Pinned := { name := "ytnnphpgpnmlppaa", sum := "43a88348c6076147c0c7c6a7417b4d4d237d4732c9237e737a116c1ce684a04a", checked := Try.checked }
namespace Rows
def none {H : Type} : Left H := { results := [], args := [] }

/-- 'bellwetherlaw09.RatioAnswers': WHATEVER THE INPUT: true; the input reads as it did. -/
def ratioAnswersSpec : ChangeSpec := { name := "ratioAnswers", fn := fun _ => fun
  | [d1, d2, d3] => { results := [.lit (.bool true)], args := [d1, d2, d3] }
  | _ => none }
def ratioAnswersRow : OpenClaim := { program := "ytnnphpgpnmlppaa", sum := "43a88348c6076147c0c7c6a7417b4d4d237d4732c9237e737a116c1ce684a04a", func := "bellwether/bellwetherlaw09.RatioAnswers", spec := "ratioAnswers", inPlace := ["math/bits.Add64"], named := ["math/bits.divideError", "math/bits.overflowError"], apart := false }
def RatioAnswersSaid : Prop := ratioAnswersRow.holds Try.pinned (OpenSpec.ofChange ratioAnswersSpec)

/-- ITS FALSE NEIGHBOUR: 'it returns false'. Refute it at one input. -/
def ratioAnswersWrong : ChangeSpec := { name := "ratioAnswers", fn := fun _ => fun
  | [d1, d2, d3] => { results := [.lit (.bool false)], args := [d1, d2, d3] }
  | _ => none }
def RatioAnswersWrongFalsely : Prop := ratioAnswersRow.holds Try.pinned (OpenSpec.ofChange ratioAnswersWrong)

/-- 'bellwetherlaw09.RatioRounds': WHATEVER THE INPUT: true; the input reads as it did. -/
def ratioRoundsSpec : ChangeSpec := { name := "ratioRounds", fn := fun _ => fun
  | [d1, d2, d3] => { results := [.lit (.bool true)], args := [d1, d2, d3] }
  | _ => none }
def ratioRoundsRow : OpenClaim := { program := "ytnnphpgpnmlppaa", sum := "43a88348c6076147c0c7c6a7417b4d4d237d4732c9237e737a116c1ce684a04a", func := "bellwether/bellwetherlaw09.RatioRounds", spec := "ratioRounds", inPlace := ["math/bits.Add64"], named := ["math/bits.divideError", "math/bits.overflowError"], apart := false }
def RatioRoundsSaid : Prop := ratioRoundsRow.holds Try.pinned (OpenSpec.ofChange ratioRoundsSpec)

/-- ITS FALSE NEIGHBOUR: 'it returns false'. Refute it at one input. -/
def ratioRoundsWrong : ChangeSpec := { name := "ratioRounds", fn := fun _ => fun
  | [d1, d2, d3] => { results := [.lit (.bool false)], args := [d1, d2, d3] }
  | _ => none }
def RatioRoundsWrongFalsely : Prop := ratioRoundsRow.holds Try.pinned (OpenSpec.ofChange ratioRoundsWrong)

/-- 'bellwetherlaw09.RatioMeans': WHATEVER THE INPUT: true; the input reads as it did. -/
def ratioMeansSpec : ChangeSpec := { name := "ratioMeans", fn := fun _ => fun
  | [d] => { results := [.lit (.bool true)], args := [d] }
  | _ => none }
def ratioMeansRow : OpenClaim := { program := "ytnnphpgpnmlppaa", sum := "43a88348c6076147c0c7c6a7417b4d4d237d4732c9237e737a116c1ce684a04a", func := "bellwether/bellwetherlaw09.RatioMeans", spec := "ratioMeans", inPlace := ["math/bits.Add64"], named := ["math/bits.divideError", "math/bits.overflowError"], apart := false }
def RatioMeansSaid : Prop := ratioMeansRow.holds Try.pinned (OpenSpec.ofChange ratioMeansSpec)

/-- ITS FALSE NEIGHBOUR: 'it returns false'. Refute it at one input. -/
def ratioMeansWrong : ChangeSpec := { name := "ratioMeans", fn := fun _ => fun
  | [d] => { results := [.lit (.bool false)], args := [d] }
  | _ => none }
def RatioMeansWrongFalsely : Prop := ratioMeansRow.holds Try.pinned (OpenSpec.ofChange ratioMeansWrong)

/-- 'bellwetherlaw09.RatioOrders': WHATEVER THE INPUT: true; the input reads as it did. -/
def ratioOrdersSpec : ChangeSpec := { name := "ratioOrders", fn := fun _ => fun
  | [d] => { results := [.lit (.bool true)], args := [d] }
  | _ => none }
def ratioOrdersRow : OpenClaim := { program := "ytnnphpgpnmlppaa", sum := "43a88348c6076147c0c7c6a7417b4d4d237d4732c9237e737a116c1ce684a04a", func := "bellwether/bellwetherlaw09.RatioOrders", spec := "ratioOrders", inPlace := ["math/bits.Add64"], named := ["math/bits.divideError", "math/bits.overflowError"], apart := false }
def RatioOrdersSaid : Prop := ratioOrdersRow.holds Try.pinned (OpenSpec.ofChange ratioOrdersSpec)

/-- ITS FALSE NEIGHBOUR: 'it returns false'. Refute it at one input. -/
def ratioOrdersWrong : ChangeSpec := { name := "ratioOrders", fn := fun _ => fun
  | [d] => { results := [.lit (.bool false)], args := [d] }
  | _ => none }
def RatioOrdersWrongFalsely : Prop := ratioOrdersRow.holds Try.pinned (OpenSpec.ofChange ratioOrdersWrong)

/-- 'bellwetherlaw09.RatioExact': WHATEVER THE INPUT: true; the input reads as it did. -/
def ratioExactSpec : ChangeSpec := { name := "ratioExact", fn := fun _ => fun
  | [d1, d2, d3] => { results := [.lit (.bool true)], args := [d1, d2, d3] }
  | _ => none }
def ratioExactRow : OpenClaim := { program := "ytnnphpgpnmlppaa", sum := "43a88348c6076147c0c7c6a7417b4d4d237d4732c9237e737a116c1ce684a04a", func := "bellwether/bellwetherlaw09.RatioExact", spec := "ratioExact", inPlace := ["math/bits.Add64"], named := ["math/bits.divideError", "math/bits.overflowError"], apart := false }
def RatioExactSaid : Prop := ratioExactRow.holds Try.pinned (OpenSpec.ofChange ratioExactSpec)

/-- ITS FALSE NEIGHBOUR: 'it returns false'. Refute it at one input. -/
def ratioExactWrong : ChangeSpec := { name := "ratioExact", fn := fun _ => fun
  | [d1, d2, d3] => { results := [.lit (.bool false)], args := [d1, d2, d3] }
  | _ => none }
def RatioExactWrongFalsely : Prop := ratioExactRow.holds Try.pinned (OpenSpec.ofChange ratioExactWrong)

/- THE SECOND FORM. 'bulk': how many values and letters a reading holds, each counted each time it is reached (what is shared counts as often as it is met; a slice's spare places count too). A statement '..UptoSaid' is the law's where the arguments, and the package variables that the reading takes, are together of bulk at most 1048576: NARROWER than '..Said'. Prove '..Said' where nothing that the law and all that it calls make is longer than what came in: it says more and counts as full. Else prove '..UptoSaid'. A law counts once. -/
mutual
def uptoBulk {H : Type} : DataW H → Nat
  | .lit (.string bytes) => bytes.length + 1
  | .lit _ => 1
  | .nil => 1
  | .ptr d => uptoBulk d + 1
  | .slice elems spare => uptoBulkAll elems + uptoBulkAll spare + 1
  | .agg parts => uptoBulkAll parts + 1
  | .iface _ d => uptoBulk d + 1
  | .map entries => uptoBulkEntries entries + 1
  | .held _ => 1
def uptoBulkAll {H : Type} : List (DataW H) → Nat
  | [] => 0
  | d :: r => uptoBulk d + uptoBulkAll r
def uptoBulkEntries {H : Type} : List (Lit × DataW H) → Nat
  | [] => 0
  | x :: r => uptoBulkEntry x + uptoBulkEntries r
def uptoBulkEntry {H : Type} : Lit × DataW H → Nat
  | (.string bytes, d) => bytes.length + uptoBulk d + 1
  | (_, d) => uptoBulk d + 1
 end
def uptoSmall : (H : Type) → List (DataW H) → Bool := fun _ ds => decide (uptoBulkAll ds ≤ 1048576)
def OpenSpec.upto (s : _root_.Go.ChangeSpec) : _root_.Go.OpenSpec := { _root_.Go.OpenSpec.ofChange s with cond := some uptoSmall }

/-- 'bellwetherlaw09.RatioAnswers', WHERE WHAT IT READS IS OF BULK AT MOST 1048576: true; the input reads as it did. -/
def ratioAnswersUptoRow : OpenClaim := { program := "ytnnphpgpnmlppaa", sum := "43a88348c6076147c0c7c6a7417b4d4d237d4732c9237e737a116c1ce684a04a", func := "bellwether/bellwetherlaw09.RatioAnswers", spec := "ratioAnswers", inPlace := ["math/bits.Add64"], named := ["math/bits.divideError", "math/bits.overflowError"], apart := false, narrowed := true }
def RatioAnswersUptoSaid : Prop := ratioAnswersUptoRow.holds Try.pinned (OpenSpec.upto ratioAnswersSpec)

/-- 'bellwetherlaw09.RatioRounds', WHERE WHAT IT READS IS OF BULK AT MOST 1048576: true; the input reads as it did. -/
def ratioRoundsUptoRow : OpenClaim := { program := "ytnnphpgpnmlppaa", sum := "43a88348c6076147c0c7c6a7417b4d4d237d4732c9237e737a116c1ce684a04a", func := "bellwether/bellwetherlaw09.RatioRounds", spec := "ratioRounds", inPlace := ["math/bits.Add64"], named := ["math/bits.divideError", "math/bits.overflowError"], apart := false, narrowed := true }
def RatioRoundsUptoSaid : Prop := ratioRoundsUptoRow.holds Try.pinned (OpenSpec.upto ratioRoundsSpec)

/-- 'bellwetherlaw09.RatioMeans', WHERE WHAT IT READS IS OF BULK AT MOST 1048576: true; the input reads as it did. -/
def ratioMeansUptoRow : OpenClaim := { program := "ytnnphpgpnmlppaa", sum := "43a88348c6076147c0c7c6a7417b4d4d237d4732c9237e737a116c1ce684a04a", func := "bellwether/bellwetherlaw09.RatioMeans", spec := "ratioMeans", inPlace := ["math/bits.Add64"], named := ["math/bits.divideError", "math/bits.overflowError"], apart := false, narrowed := true }
def RatioMeansUptoSaid : Prop := ratioMeansUptoRow.holds Try.pinned (OpenSpec.upto ratioMeansSpec)

/-- 'bellwetherlaw09.RatioOrders', WHERE WHAT IT READS IS OF BULK AT MOST 1048576: true; the input reads as it did. -/
def ratioOrdersUptoRow : OpenClaim := { program := "ytnnphpgpnmlppaa", sum := "43a88348c6076147c0c7c6a7417b4d4d237d4732c9237e737a116c1ce684a04a", func := "bellwether/bellwetherlaw09.RatioOrders", spec := "ratioOrders", inPlace := ["math/bits.Add64"], named := ["math/bits.divideError", "math/bits.overflowError"], apart := false, narrowed := true }
def RatioOrdersUptoSaid : Prop := ratioOrdersUptoRow.holds Try.pinned (OpenSpec.upto ratioOrdersSpec)

/-- 'bellwetherlaw09.RatioExact', WHERE WHAT IT READS IS OF BULK AT MOST 1048576: true; the input reads as it did. -/
def ratioExactUptoRow : OpenClaim := { program := "ytnnphpgpnmlppaa", sum := "43a88348c6076147c0c7c6a7417b4d4d237d4732c9237e737a116c1ce684a04a", func := "bellwether/bellwetherlaw09.RatioExact", spec := "ratioExact", inPlace := ["math/bits.Add64"], named := ["math/bits.divideError", "math/bits.overflowError"], apart := false, narrowed := true }
def RatioExactUptoSaid : Prop := ratioExactUptoRow.holds Try.pinned (OpenSpec.upto ratioExactSpec)

end Rows
end Go.Proofs.Ytnnphpgpnmlppaa

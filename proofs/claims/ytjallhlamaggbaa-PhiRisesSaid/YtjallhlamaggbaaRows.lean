/-
  No cell of these rows narrows 'for every input' (looked for: loops, veiled, ifaces, maps, wideKeys, modest, calm, conditions, laid).
  DERIVED. THE GIVEN ROWS OF THIS SEAT. 5 by the template 'for every input the law returns true; each argument reads behind the call as it read before'; 0 by the template 'total and deterministic' (their statements: YtjallhlamaggbaaTotals.lean).
  GIVEN WITH THE SEED: the statements are not yours to turn. If you find one false, say at which input.
  Laid BY PROGRAM, IN A SANDBOX (cutbox-rows.mjs): the forced cells as the released guide's own fill.sh prints them over the translation 9f9cf96b94aeddf5… (all of the seat's roots in one cut). By AI agents, Wed Nov 11 2026. No macro, syntax, notation, axiom, sorry.
-/
import Derived.Test.YtjallhlamaggbaaChecked
import GoSem.Claim
import GoSem.ClaimJoined
import GoSem.ClaimMapViews
import Derived.JoinedTies
import Derived.KernelRfl
namespace Go.Proofs.Ytjallhlamaggbaa
/- THE CELL 'sum', in the pinned program and in every row, IS THE sha256 OF THE DUMP (.gsa) THAT YtjallhlamaggbaaProg.lean LOADS. Nothing in Lean hashes anything: it is a label: what it is worth is what the hold of that sum in a sandbox is worth. -/
noncomputable def Try.pinned : Pinned := { name := "ytjallhlamaggbaa", sum := "9f9cf96b94aeddf5c2c7a268134e74c8f970966dcc174bd0f52a0ada3dfcf2c2", checked := Try.checked }
namespace Rows
def none {H : Type} : Left H := { results := [], args := [] }

/-- 'bellwetherlaw11.PhiRises': WHATEVER THE INPUT: true; the input reads as it did. -/
def phiRisesSpec : ChangeSpec := { name := "phiRises", fn := fun _ => fun
  | [d1, d2, d3] => { results := [.lit (.bool true)], args := [d1, d2, d3] }
  | _ => none }
def phiRisesRow : OpenClaim := { program := "ytjallhlamaggbaa", sum := "9f9cf96b94aeddf5c2c7a268134e74c8f970966dcc174bd0f52a0ada3dfcf2c2", func := "bellwether/bellwetherlaw11.PhiRises", spec := "phiRises", inPlace := ["math/bits.Add64"], unfollowed := true, recurses := true, named := ["math/bits.divideError", "math/bits.overflowError"], apart := false }
def PhiRisesSaid : Prop := phiRisesRow.holds Try.pinned (OpenSpec.ofChange phiRisesSpec)

/-- ITS FALSE NEIGHBOUR: 'it returns false'. Refute it at one input. -/
def phiRisesWrong : ChangeSpec := { name := "phiRises", fn := fun _ => fun
  | [d1, d2, d3] => { results := [.lit (.bool false)], args := [d1, d2, d3] }
  | _ => none }
def PhiRisesWrongFalsely : Prop := phiRisesRow.holds Try.pinned (OpenSpec.ofChange phiRisesWrong)

/-- 'bellwetherlaw11.PhiFirst': WHATEVER THE INPUT: true; the input reads as it did. -/
def phiFirstSpec : ChangeSpec := { name := "phiFirst", fn := fun _ => fun
  | [d1, d2, d3] => { results := [.lit (.bool true)], args := [d1, d2, d3] }
  | _ => none }
def phiFirstRow : OpenClaim := { program := "ytjallhlamaggbaa", sum := "9f9cf96b94aeddf5c2c7a268134e74c8f970966dcc174bd0f52a0ada3dfcf2c2", func := "bellwether/bellwetherlaw11.PhiFirst", spec := "phiFirst", inPlace := ["math/bits.Add64"], unfollowed := true, recurses := true, named := ["math/bits.divideError", "math/bits.overflowError"], apart := false }
def PhiFirstSaid : Prop := phiFirstRow.holds Try.pinned (OpenSpec.ofChange phiFirstSpec)

/-- ITS FALSE NEIGHBOUR: 'it returns false'. Refute it at one input. -/
def phiFirstWrong : ChangeSpec := { name := "phiFirst", fn := fun _ => fun
  | [d1, d2, d3] => { results := [.lit (.bool false)], args := [d1, d2, d3] }
  | _ => none }
def PhiFirstWrongFalsely : Prop := phiFirstRow.holds Try.pinned (OpenSpec.ofChange phiFirstWrong)

/-- 'bellwetherlaw11.PhiCalm': WHATEVER THE INPUT: true; the input reads as it did. -/
def phiCalmSpec : ChangeSpec := { name := "phiCalm", fn := fun _ => fun
  | [d1, d2] => { results := [.lit (.bool true)], args := [d1, d2] }
  | _ => none }
def phiCalmRow : OpenClaim := { program := "ytjallhlamaggbaa", sum := "9f9cf96b94aeddf5c2c7a268134e74c8f970966dcc174bd0f52a0ada3dfcf2c2", func := "bellwether/bellwetherlaw11.PhiCalm", spec := "phiCalm", inPlace := ["math/bits.Add64"], unfollowed := true, recurses := true, named := ["math/bits.divideError", "math/bits.overflowError"], apart := false }
def PhiCalmSaid : Prop := phiCalmRow.holds Try.pinned (OpenSpec.ofChange phiCalmSpec)

/-- ITS FALSE NEIGHBOUR: 'it returns false'. Refute it at one input. -/
def phiCalmWrong : ChangeSpec := { name := "phiCalm", fn := fun _ => fun
  | [d1, d2] => { results := [.lit (.bool false)], args := [d1, d2] }
  | _ => none }
def PhiCalmWrongFalsely : Prop := phiCalmRow.holds Try.pinned (OpenSpec.ofChange phiCalmWrong)

/-- 'bellwetherlaw11.PhiBounds': WHATEVER THE INPUT: true; the input reads as it did. -/
def phiBoundsSpec : ChangeSpec := { name := "phiBounds", fn := fun _ => fun
  | [d1, d2] => { results := [.lit (.bool true)], args := [d1, d2] }
  | _ => none }
def phiBoundsRow : OpenClaim := { program := "ytjallhlamaggbaa", sum := "9f9cf96b94aeddf5c2c7a268134e74c8f970966dcc174bd0f52a0ada3dfcf2c2", func := "bellwether/bellwetherlaw11.PhiBounds", spec := "phiBounds", inPlace := ["math/bits.Add64"], unfollowed := true, recurses := true, named := ["math/bits.divideError", "math/bits.overflowError"], apart := false }
def PhiBoundsSaid : Prop := phiBoundsRow.holds Try.pinned (OpenSpec.ofChange phiBoundsSpec)

/-- ITS FALSE NEIGHBOUR: 'it returns false'. Refute it at one input. -/
def phiBoundsWrong : ChangeSpec := { name := "phiBounds", fn := fun _ => fun
  | [d1, d2] => { results := [.lit (.bool false)], args := [d1, d2] }
  | _ => none }
def PhiBoundsWrongFalsely : Prop := phiBoundsRow.holds Try.pinned (OpenSpec.ofChange phiBoundsWrong)

/-- 'bellwetherlaw11.PhiNews': WHATEVER THE INPUT: true; the input reads as it did. -/
def phiNewsSpec : ChangeSpec := { name := "phiNews", fn := fun _ => fun
  | [d1, d2, d3] => { results := [.lit (.bool true)], args := [d1, d2, d3] }
  | _ => none }
def phiNewsRow : OpenClaim := { program := "ytjallhlamaggbaa", sum := "9f9cf96b94aeddf5c2c7a268134e74c8f970966dcc174bd0f52a0ada3dfcf2c2", func := "bellwether/bellwetherlaw11.PhiNews", spec := "phiNews", inPlace := ["math/bits.Add64"], unfollowed := true, recurses := true, named := ["math/bits.divideError", "math/bits.overflowError"], apart := false }
def PhiNewsSaid : Prop := phiNewsRow.holds Try.pinned (OpenSpec.ofChange phiNewsSpec)

/-- ITS FALSE NEIGHBOUR: 'it returns false'. Refute it at one input. -/
def phiNewsWrong : ChangeSpec := { name := "phiNews", fn := fun _ => fun
  | [d1, d2, d3] => { results := [.lit (.bool false)], args := [d1, d2, d3] }
  | _ => none }
def PhiNewsWrongFalsely : Prop := phiNewsRow.holds Try.pinned (OpenSpec.ofChange phiNewsWrong)

/- THE SECOND FORM. 'bulk': how many values and letters a reading holds, each counted each time it is reached (what is shared counts as often as it is met; a slice's spare places count too). A statement '..UptoSaid' is the law's where the arguments, and the package variables that the reading takes, are together of bulk at most 1048576: NARROWER than '..Said'. Prove '..Said' where nothing that the law and all that it calls make is longer than what came in: it says more and counts as full. Else prove '..UptoSaid'. A law counts once. -/
mutual
def uptoBulk {H : Type} : DataW H → Nat
  | .lit (.string bytes) => bytes.length + 1
  | .lit _ => 1
  | .nil => 1
  | .ptr d => uptoBulk d + 1
  | .slice elems spare => uptoBulkAll elems + uptoBulkAll spare + 1
  | .agg parts => uptoBulkAll parts + 1
  | .iface _ d => uptoBulk d + 1
  | .map entries => uptoBulkEntries entries + 1
  | .held _ => 1
def uptoBulkAll {H : Type} : List (DataW H) → Nat
  | [] => 0
  | d :: r => uptoBulk d + uptoBulkAll r
def uptoBulkEntries {H : Type} : List (Lit × DataW H) → Nat
  | [] => 0
  | x :: r => uptoBulkEntry x + uptoBulkEntries r
def uptoBulkEntry {H : Type} : Lit × DataW H → Nat
  | (.string bytes, d) => bytes.length + uptoBulk d + 1
  | (_, d) => uptoBulk d + 1
 end
def uptoSmall : (H : Type) → List (DataW H) → Bool := fun _ ds => decide (uptoBulkAll ds ≤ 1048576)
def OpenSpec.upto (s : _root_.Go.ChangeSpec) : _root_.Go.OpenSpec := { _root_.Go.OpenSpec.ofChange s with cond := some uptoSmall }

/-- 'bellwetherlaw11.PhiRises', WHERE WHAT IT READS IS OF BULK AT MOST 1048576: true; the input reads as it did. -/
def phiRisesUptoRow : OpenClaim := { program := "ytjallhlamaggbaa", sum := "9f9cf96b94aeddf5c2c7a268134e74c8f970966dcc174bd0f52a0ada3dfcf2c2", func := "bellwether/bellwetherlaw11.PhiRises", spec := "phiRises", inPlace := ["math/bits.Add64"], unfollowed := true, recurses := true, named := ["math/bits.divideError", "math/bits.overflowError"], apart := false, narrowed := true }
def PhiRisesUptoSaid : Prop := phiRisesUptoRow.holds Try.pinned (OpenSpec.upto phiRisesSpec)

/-- 'bellwetherlaw11.PhiFirst', WHERE WHAT IT READS IS OF BULK AT MOST 1048576: true; the input reads as it did. -/
def phiFirstUptoRow : OpenClaim := { program := "ytjallhlamaggbaa", sum := "9f9cf96b94aeddf5c2c7a268134e74c8f970966dcc174bd0f52a0ada3dfcf2c2", func := "bellwether/bellwetherlaw11.PhiFirst", spec := "phiFirst", inPlace := ["math/bits.Add64"], unfollowed := true, recurses := true, named := ["math/bits.divideError", "math/bits.overflowError"], apart := false, narrowed := true }
def PhiFirstUptoSaid : Prop := phiFirstUptoRow.holds Try.pinned (OpenSpec.upto phiFirstSpec)

/-- 'bellwetherlaw11.PhiCalm', WHERE WHAT IT READS IS OF BULK AT MOST 1048576: true; the input reads as it did. -/
def phiCalmUptoRow : OpenClaim := { program := "ytjallhlamaggbaa", sum := "9f9cf96b94aeddf5c2c7a268134e74c8f970966dcc174bd0f52a0ada3dfcf2c2", func := "bellwether/bellwetherlaw11.PhiCalm", spec := "phiCalm", inPlace := ["math/bits.Add64"], unfollowed := true, recurses := true, named := ["math/bits.divideError", "math/bits.overflowError"], apart := false, narrowed := true }
def PhiCalmUptoSaid : Prop := phiCalmUptoRow.holds Try.pinned (OpenSpec.upto phiCalmSpec)

/-- 'bellwetherlaw11.PhiBounds', WHERE WHAT IT READS IS OF BULK AT MOST 1048576: true; the input reads as it did. -/
def phiBoundsUptoRow : OpenClaim := { program := "ytjallhlamaggbaa", sum := "9f9cf96b94aeddf5c2c7a268134e74c8f970966dcc174bd0f52a0ada3dfcf2c2", func := "bellwether/bellwetherlaw11.PhiBounds", spec := "phiBounds", inPlace := ["math/bits.Add64"], unfollowed := true, recurses := true, named := ["math/bits.divideError", "math/bits.overflowError"], apart := false, narrowed := true }
def PhiBoundsUptoSaid : Prop := phiBoundsUptoRow.holds Try.pinned (OpenSpec.upto phiBoundsSpec)

/-- 'bellwetherlaw11.PhiNews', WHERE WHAT IT READS IS OF BULK AT MOST 1048576: true; the input reads as it did. -/
def phiNewsUptoRow : OpenClaim := { program := "ytjallhlamaggbaa", sum := "9f9cf96b94aeddf5c2c7a268134e74c8f970966dcc174bd0f52a0ada3dfcf2c2", func := "bellwether/bellwetherlaw11.PhiNews", spec := "phiNews", inPlace := ["math/bits.Add64"], unfollowed := true, recurses := true, named := ["math/bits.divideError", "math/bits.overflowError"], apart := false, narrowed := true }
def PhiNewsUptoSaid : Prop := phiNewsUptoRow.holds Try.pinned (OpenSpec.upto phiNewsSpec)

end Rows
end Go.Proofs.Ytjallhlamaggbaa

/- What this function of the program comes to, and that the machine's call does it. No condition. -/
import Derived.Test.YtfoeahjbkmdgfaaPLaw05StateLatticeWA
import Derived.Test.YtfoeahjbkmdgfaaPLaw05StateLatticeWB
import Derived.Test.YtfoeahjbkmdgfaaPLaw05StateLatticeWC
namespace Go.Proofs.Ytfoeahjbkmdgfaa.P
open Go.RowKit Go.Proofs.YtfoeahjbkmdgfaaW.PrintWords Go.Proofs.YtfoeahjbkmdgfaaW.PrintLast Go.Proofs.YtfoeahjbkmdgfaaW.PrintMore
attribute [local go_sem] qw_ qu_ va_ qz_ qq_ qp_ qv_ qt_ Go.Proofs.YtfoeahjbkmdgfaaW.Hw.string_gtr
set_option linter.unusedVariables false
set_option linter.unusedSimpArgs false
theorem law05_StateLattice.calls (k : Nat) (aL : Int) (aK : Int) (aH : Nat → Prop) (aR : Option Addr) (aO : Nat) (aC : List (S40)) (aJ : Int) (aI : Int) (aG : Nat → Prop) (aQ : Option Addr) (aN : Nat) (aB : List (S40)) (aE : Int) (aD : Int) (aF : Nat → Prop) (aP : Option Addr) (aM : Nat) (aA : List (S40)) (r : Bool) (w : World) (hs0_2 : Kd.V k40 40 w w.heap.size (fun k_ => aH k_) (.slice aR aC.length aO) aC) (hs1_2 : Kd.V k40 40 w w.heap.size (fun k_ => aG k_) (.slice aQ aB.length aN) aB) (hs2_2 : Kd.V k40 40 w w.heap.size (fun k_ => aF k_) (.slice aP aA.length aM) aA) (h : law05_StateLattice.f k aL aK aC aJ aI aB aE aD aA = some r) (hrt : r = true) :
  Calls Try.prog 4 #[.agg #[.int .i64 aL, .int .i64 aK, .slice aR aC.length aO], .agg #[.int .i64 aJ, .int .i64 aI, .slice aQ aB.length aN], .agg #[.int .i64 aE, .int .i64 aD, .slice aP aA.length aM]] w fun e w' => e = .returned (.bool r) ∧ Below w.heap.size w w' := by
 by_cases hw0 : state_Over.f aE aD aA aL aK aC = some true
 rotate_left; (focus exact law05_StateLattice.callsWA k aL aK aH aR aO aC aJ aI aG aQ aN aB aE aD aF aP aM aA r w hs0_2 hs1_2 hs2_2 h hrt hw0)
 by_cases hw1 : state_Over.f aE aD aA aJ aI aB = some true
 rotate_left; (focus exact law05_StateLattice.callsWB k aL aK aH aR aO aC aJ aI aG aQ aN aB aE aD aF aP aM aA r w hs0_2 hs1_2 hs2_2 h hrt hw0 hw1); exact law05_StateLattice.callsWC k aL aK aH aR aO aC aJ aI aG aQ aN aB aE aD aF aP aM aA r w hs0_2 hs1_2 hs2_2 h hrt hw0 hw1
end Go.Proofs.Ytfoeahjbkmdgfaa.P

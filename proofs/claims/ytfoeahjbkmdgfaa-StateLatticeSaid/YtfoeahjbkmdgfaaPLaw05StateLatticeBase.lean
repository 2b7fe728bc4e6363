/- What this function of the program comes to, and that the machine's call does it. No condition. -/
import Derived.Test.YtfoeahjbkmdgfaaPLaw05Alive
import Derived.Test.YtfoeahjbkmdgfaaPStateCopy
import Derived.Test.YtfoeahjbkmdgfaaPStateRight
namespace Go.Proofs.Ytfoeahjbkmdgfaa.P
open Go.RowKit Go.Proofs.YtfoeahjbkmdgfaaW.PrintWords Go.Proofs.YtfoeahjbkmdgfaaW.PrintLast Go.Proofs.YtfoeahjbkmdgfaaW.PrintMore
attribute [local go_sem] qw_ qu_ va_ qz_ qq_ qp_ qv_ qt_ Go.Proofs.YtfoeahjbkmdgfaaW.Hw.string_gtr
set_option linter.unusedVariables false
set_option linter.unusedSimpArgs false
def law05_StateLattice.j0 : Nat → Bool → Int → Int → List (S40) → Int → Int → List (S40) → Int → Int → List (S40) → Option (Bool)
 | 0, _, _, _, _, _, _, _, _, _, _ => none
 | k + 1, x31, aG, aF, aE, aD, aC, aB, aJ, aI, aH => if x31 = true then (some true) else ((state_Join.f k aG aF aE aD aC aB).bind fun aA => ((state_Join.f k aA.1 aA.2.1 aA.2.2 aJ aI aH).bind fun aY => ((state_Join.f k aJ aI aH aD aC aB).bind fun aX => ((state_Join.f k aG aF aE aX.1 aX.2.1 aX.2.2).bind fun aW => ((ref05_Join.f k aG aF aE aD aC aB).bind fun aV => ((ref05_Same.f k aA.1 aA.2.1 aA.2.2 aV.1 aV.2.1 aV.2.2).bind fun t140 => (if t140 = true then ((state_Join.f k aD aC aB aG aF aE).bind fun aU => ((ref05_Same.f k aA.1 aA.2.1 aA.2.2 aU.1 aU.2.1 aU.2.2).bind fun t146 => (if t146 = true then ((ref05_Same.f k aY.1 aY.2.1 aY.2.2 aW.1 aW.2.1 aW.2.2).bind fun t147 => (if t147 = true then ((state_Join.f k aA.1 aA.2.1 aA.2.2 aA.1 aA.2.1 aA.2.2).bind fun aT => ((ref05_Same.f k aT.1 aT.2.1 aT.2.2 aA.1 aA.2.1 aA.2.2).bind fun t153 => (if t153 = true then ((state_Over.f aA.1 aA.2.1 aA.2.2 aG aF aE).bind fun t154 => (if t154 = true then ((state_Over.f aA.1 aA.2.1 aA.2.2 aD aC aB).bind fun t155 => (if t155 = true then ((state_Right.f k aA.1 aA.2.1 aA.2.2).bind fun t156 => (if t156 = true then ((state_Over.f aG aF aE aD aC aB).bind fun t157 => ((ref05_Over.f k aG aF aE aD aC aB).bind fun t158 => (if (t157 == t158) = true then ((state_Over.f aJ aI aH aG aF aE).bind fun t159 => (if t159 = true then ((state_Over.f aJ aI aH aD aC aB).bind fun t160 => (if t160 = true then ((state_Over.f aJ aI aH aA.1 aA.2.1 aA.2.2).bind fun t161 => (some t161)) else (some true))) else (some true))) else (some false)))) else (some false))) else (some false))) else (some false))) else (some false)))) else (some false))) else (some false)))) else (some false))))))))
def law05_StateLattice.f (k : Nat) (aS : Int) (aR : Int) (aM : List (S40)) (aQ : Int) (aP : Int) (aL : List (S40)) (aO : Int) (aN : Int) (aK : List (S40)) : Option (Bool) := (law05_alive.f k).bind fun t104 => (if t104 = true then ((law05_great.f k (([(⟨aS, aR, aM⟩ : S24), (⟨aQ, aP, aL⟩ : S24), (⟨aO, aN, aK⟩ : S24)] : List (S24)))).bind fun t108 => (if t108 = true then (law05_StateLattice.j0 k true aS aR aM aQ aP aL aO aN aK) else ((ref05_Right.f k aS aR aM).bind fun t109 => (if t109 = true then ((ref05_Right.f k aQ aP aL).bind fun t110 => (if t110 = true then ((ref05_Right.f k aO aN aK).bind fun t111 => (law05_StateLattice.j0 k (!t111) aS aR aM aQ aP aL aO aN aK)) else (law05_StateLattice.j0 k true aS aR aM aQ aP aL aO aN aK))) else (law05_StateLattice.j0 k true aS aR aM aQ aP aL aO aN aK))))) else (some false))
theorem law05_StateLattice.mono_l : ∀ k, (∀ y0 y1 y2 y3 y4 y5 y6 y7 y8 y9, LeO (law05_StateLattice.j0 k y0 y1 y2 y3 y4 y5 y6 y7 y8 y9) (law05_StateLattice.j0 (k + 1) y0 y1 y2 y3 y4 y5 y6 y7 y8 y9))
 | 0 => fun _ _ _ _ _ _ _ _ _ _ r h => by simp [law05_StateLattice.j0] at h
 | k + 1 => by
  have ih0 := law05_StateLattice.mono_l k
  ·intro y0 y1 y2 y3 y4 y5 y6 y7 y8 y9
   unfold law05_StateLattice.j0
   repeat' first
   | (with_reducible exact ih0 _ _ _ _ _ _ _ _ _ _)
   | (with_reducible exact law05_alive.mono _)
   | (with_reducible exact law05_great.mono _ _)
   | (with_reducible exact ref05_Join.mono _ _ _ _ _ _ _)
   | (with_reducible exact ref05_Over.mono _ _ _ _ _ _ _)
   | (with_reducible exact ref05_Right.mono _ _ _ _)
   | (with_reducible exact ref05_Same.mono _ _ _ _ _ _ _)
   | (with_reducible exact state_Join.mono _ _ _ _ _ _ _)
   | (with_reducible exact state_Right.mono _ _ _ _)
   | (with_reducible exact LeO.refl _)
   | (with_reducible exact LeO.none _)
   | (with_reducible refine LeO.ite ?_ ?_)
   | (with_reducible refine LeO.bind ?_ (fun _ => ?_))
   | exact ih0 _ _ _ _ _ _ _ _ _ _
   | exact law05_alive.mono _
   | exact law05_great.mono _ _
   | exact ref05_Join.mono _ _ _ _ _ _ _
   | exact ref05_Over.mono _ _ _ _ _ _ _
   | exact ref05_Right.mono _ _ _ _
   | exact ref05_Same.mono _ _ _ _ _ _ _
   | exact state_Join.mono _ _ _ _ _ _ _
   | exact state_Right.mono _ _ _ _
   | exact LeO.none _
   | refine LeO.ite ?_ ?_
   | refine LeO.bind ?_ (fun _ => ?_)
theorem law05_StateLattice.mono : ∀ a0 a1 a2 a3 a4 a5 a6 a7 a8 k, LeO (law05_StateLattice.f k a0 a1 a2 a3 a4 a5 a6 a7 a8) (law05_StateLattice.f (k + 1) a0 a1 a2 a3 a4 a5 a6 a7 a8) := by
 intro a0 a1 a2 a3 a4 a5 a6 a7 a8 k; have ih0 := law05_StateLattice.mono_l k
 unfold law05_StateLattice.f
 repeat' first
   | (with_reducible exact ih0 _ _ _ _ _ _ _ _ _ _)
   | (with_reducible exact law05_alive.mono _)
   | (with_reducible exact law05_great.mono _ _)
   | (with_reducible exact ref05_Join.mono _ _ _ _ _ _ _)
   | (with_reducible exact ref05_Over.mono _ _ _ _ _ _ _)
   | (with_reducible exact ref05_Right.mono _ _ _ _)
   | (with_reducible exact ref05_Same.mono _ _ _ _ _ _ _)
   | (with_reducible exact state_Join.mono _ _ _ _ _ _ _)
   | (with_reducible exact state_Right.mono _ _ _ _)
   | (with_reducible exact LeO.refl _)
   | (with_reducible exact LeO.none _)
   | (with_reducible refine LeO.ite ?_ ?_)
   | (with_reducible refine LeO.bind ?_ (fun _ => ?_))
   | exact ih0 _ _ _ _ _ _ _ _ _ _
   | exact law05_alive.mono _
   | exact law05_great.mono _ _
   | exact ref05_Join.mono _ _ _ _ _ _ _
   | exact ref05_Over.mono _ _ _ _ _ _ _
   | exact ref05_Right.mono _ _ _ _
   | exact ref05_Same.mono _ _ _ _ _ _ _
   | exact state_Join.mono _ _ _ _ _ _ _
   | exact state_Right.mono _ _ _ _
   | exact LeO.none _
   | refine LeO.ite ?_ ?_
   | refine LeO.bind ?_ (fun _ => ?_)
def law05_StateLattice.T8 : Bool × List (List Nat × List Nat) := (true, [([], []), ([], []), ([], []), ([1, 2], [1, 2]), ([0, 3, 3], [0, 3]), ([4, 4], [4]), ([5], [5]), ([5], [5]), ([5], [5]), ([7, 8, 5, 5], [5, 7, 8]), ([6, 9, 9, 5], [5, 6, 9]), ([5, 10], [5, 10]), ([11, 10], [11]), ([12], [12]), ([12], [12]), ([13, 14, 12, 12], [12, 13, 14]), ([12, 15], [12, 15]), ([16, 15], [16]), ([17], [17]), ([17], [17]), ([18, 19, 17, 17], [17, 18, 19]), ([17], [17]), ([20, 21, 20, 17], [17, 20, 21]), ([17, 22], [17, 22]), ([23, 22], [23]), ([24], [24]), ([24], [24]), ([25, 26, 24, 24], [24, 25, 26]), ([24, 27], [24, 27]), ([28, 27], [28]), ([29], [29]), ([29], [29]), ([30, 31, 29, 29], [29, 30, 31]), ([29, 32], [29, 32]), ([33, 32], [33]), ([34], [34]), ([35, 34, 34], [34, 35]), ([34, 36], [34, 36]), ([37, 36], [37]), ([38], [38]), ([38], [38]), ([39, 40, 38, 38], [38, 39, 40]), ([38], [38]), ([38], [38]), ([42, 43, 41, 38], [38, 42, 43]), ([41, 44, 38], [38, 41, 44]), ([38, 45], [38, 45]), ([46, 44], [46]), ([47], [47]), ([47], [47]), ([48, 49, 47, 47], [47, 48, 49]), ([50, 47], [47, 50]), ([51, 50, 47], [47, 51]), ([52], [52]), ([52], [52]), ([53, 54, 52, 52], [52, 53, 54]), ([55, 52], [52, 55]), ([52, 56, 47], [47, 52, 56]), ([57, 55, 47], [47, 57]), ([58], [58]), ([58], [58]), ([59, 60, 58, 58], [58, 59, 60]), ([58, 61, 47], [47, 58, 61]), ([47, 62], [47, 62]), ([63, 61, 0, 1, 2, 3, 4, 5, 6, 7, 8, 9, 10, 11, 12, 13, 14, 15, 16, 17, 18, 19, 20, 21, 22, 23, 24, 25, 26, 27, 28, 29, 30, 31, 32, 33, 34, 35, 36, 37, 38, 39, 40, 41, 42, 43, 44, 45, 46, 47, 48, 49, 50, 51, 52, 53, 54, 55, 56, 57, 58, 59, 60, 61, 62, 63], [63])])
def law05_StateLattice.B8 : List Nat := [0, 0, 0, 6, 15, 31, 63, 63, 63, 447, 1023, 2047, 4095, 8191, 8191, 32767, 65535, 131071, 262143, 262143, 1048575, 262143, 4194303, 8388607, 16777215, 33554431, 33554431, 134217727, 268435455, 536870911, 1073741823, 1073741823, 4294967295, 8589934591, 17179869183, 34359738367, 68719476735, 137438953471, 274877906943, 549755813887, 549755813887, 2199023255551, 549755813887, 549755813887, 17592186044415, 35184372088831, 70368744177663, 140737488355327, 281474976710655, 281474976710655, 1125899906842623, 2251799813685247, 4503599627370495, 9007199254740991, 9007199254740991, 36028797018963967, 72057594037927935, 144115188075855871, 288230376151711743, 576460752303423487, 576460752303423487, 2305843009213693951, 4611686018427387903, 9223372036854775807, 18446744073709551615]
theorem law05_StateLattice.tab8 : rtab .any (opsOf Try.f4 8) = law05_StateLattice.T8 := by kernel_rfl
theorem law05_StateLattice.bits8 : waitsOk law05_StateLattice.T8.2 law05_StateLattice.B8 = true := by kernel_rfl
end Go.Proofs.Ytfoeahjbkmdgfaa.P

/- What printed functions come to, and that the machine's calls do it. No condition. -/
import Derived.Test.YtoghjpoblbdnpaaPRef22Copy
namespace Go.Proofs.Ytoghjpoblbdnpaa.P
set_option maxHeartbeats 8000000
set_option maxRecDepth 100000
open Go.RowKit Go.Proofs.YtoghjpoblbdnpaaW.PrintWords Go.Proofs.YtoghjpoblbdnpaaW.PrintLast Go.Proofs.YtoghjpoblbdnpaaW.PrintMore
attribute [local go_sem] qt_ qr_ qx_ qw_ qn_ qm_ qs_ qq_ Go.Proofs.YtoghjpoblbdnpaaW.Hw.string_gtr
set_option linter.unusedVariables false
set_option linter.unusedSimpArgs false
mutual
def bits_Div64.j2 : Nat → Int → Int → Int → Int → Int → Int → Int → Int → Option (Int × Int)
 | 0, _, _, _, _, _, _, _, _ => none
 | k + 1, x2, x8, x9, x10, x11, x13, x14, x15 => if x9 = 0 then (none) else (bits_Div64.l1 k x2 x8 x9 x10 x14 x15 (IntKind.u64.wrap ((IntKind.u64.wrap ((IntKind.u64.wrap ((IntKind.u64.wrap (x11 * 4294967296)) + x13)) - (IntKind.u64.wrap (x15 * x2)))) - (IntKind.u64.wrap ((IntKind.u64.wrap (Int.tdiv (IntKind.u64.wrap ((IntKind.u64.wrap ((IntKind.u64.wrap (x11 * 4294967296)) + x13)) - (IntKind.u64.wrap (x15 * x2)))) x9)) * x9)))) (IntKind.u64.wrap ((IntKind.u64.wrap ((IntKind.u64.wrap (x11 * 4294967296)) + x13)) - (IntKind.u64.wrap (x15 * x2)))) (IntKind.u64.wrap (Int.tdiv (IntKind.u64.wrap ((IntKind.u64.wrap ((IntKind.u64.wrap (x11 * 4294967296)) + x13)) - (IntKind.u64.wrap (x15 * x2)))) x9)))
def bits_Div64.l1 : Nat → Int → Int → Int → Int → Int → Int → Int → Int → Int → Option (Int × Int)
 | 0, _, _, _, _, _, _, _, _, _ => none
 | k + 1, x2, x8, x9, x10, x14, x15, x16, x17, x18 => if x18 ≥ 4294967296 then (bits_Div64.j4 k x2 x8 x9 x10 x14 x15 x16 x17 x18 true) else (bits_Div64.j4 k x2 x8 x9 x10 x14 x15 x16 x17 x18 (decide ((IntKind.u64.wrap (x18 * x10)) > (IntKind.u64.wrap ((IntKind.u64.wrap (4294967296 * x16)) + x14)))))
def bits_Div64.j4 : Nat → Int → Int → Int → Int → Int → Int → Int → Int → Int → Bool → Option (Int × Int)
 | 0, _, _, _, _, _, _, _, _, _, _ => none
 | k + 1, x2, x8, x9, x10, x14, x15, x16, x17, x18, x113 => if x113 = true then (if (IntKind.u64.wrap (x16 + x9)) ≥ 4294967296 then (if 0 ≤ x8 then (some (IntKind.u64.wrap ((IntKind.u64.wrap (x15 * 4294967296)) + (IntKind.u64.wrap (x18 - 1))), shr .u64 (IntKind.u64.wrap ((IntKind.u64.wrap ((IntKind.u64.wrap (x17 * 4294967296)) + x14)) - (IntKind.u64.wrap ((IntKind.u64.wrap (x18 - 1)) * x2)))) x8)) else (none)) else (bits_Div64.l1 k x2 x8 x9 x10 x14 x15 (IntKind.u64.wrap (x16 + x9)) x17 (IntKind.u64.wrap (x18 - 1)))) else (if 0 ≤ x8 then (some (IntKind.u64.wrap ((IntKind.u64.wrap (x15 * 4294967296)) + x18), shr .u64 (IntKind.u64.wrap ((IntKind.u64.wrap ((IntKind.u64.wrap (x17 * 4294967296)) + x14)) - (IntKind.u64.wrap (x18 * x2)))) x8)) else (none))
def bits_Div64.l0 : Nat → Int → Int → Int → Int → Int → Int → Int → Int → Int → Option (Int × Int)
 | 0, _, _, _, _, _, _, _, _, _ => none
 | k + 1, x2, x8, x9, x10, x11, x13, x14, x15, x16 => if x15 ≥ 4294967296 then (bits_Div64.j1 k x2 x8 x9 x10 x11 x13 x14 x15 x16 true) else (bits_Div64.j1 k x2 x8 x9 x10 x11 x13 x14 x15 x16 (decide ((IntKind.u64.wrap (x15 * x10)) > (IntKind.u64.wrap ((IntKind.u64.wrap (4294967296 * x16)) + x13)))))
def bits_Div64.j1 : Nat → Int → Int → Int → Int → Int → Int → Int → Int → Int → Bool → Option (Int × Int)
 | 0, _, _, _, _, _, _, _, _, _, _ => none
 | k + 1, x2, x8, x9, x10, x11, x13, x14, x15, x16, x78 => if x78 = true then (if (IntKind.u64.wrap (x16 + x9)) ≥ 4294967296 then (bits_Div64.j2 k x2 x8 x9 x10 x11 x13 x14 (IntKind.u64.wrap (x15 - 1))) else (bits_Div64.l0 k x2 x8 x9 x10 x11 x13 x14 (IntKind.u64.wrap (x15 - 1)) (IntKind.u64.wrap (x16 + x9)))) else (bits_Div64.j2 k x2 x8 x9 x10 x11 x13 x14 x15)
end
def bits_Div64.f (k : Nat) (a0 : Int) (a1 : Int) (a2 : Int) : Option (Int × Int) := if a2 = 0 then (none) else (if a2 ≤ a0 then (none) else (if a0 = 0 then (some (IntKind.u64.wrap (Int.tdiv a1 a2), Int.tmod a1 a2)) else ((bits_LeadingZeros64.f a2).bind fun aB => (if 0 ≤ (IntKind.u64.wrap (aB)) then (if 0 ≤ (IntKind.u64.wrap (64 - (IntKind.u64.wrap (aB)))) then (if ((shl .u64 a2 (IntKind.u64.wrap (aB))) / 4294967296) = 0 then (none) else (bits_Div64.l0 k (shl .u64 a2 (IntKind.u64.wrap (aB))) (IntKind.u64.wrap (aB)) ((shl .u64 a2 (IntKind.u64.wrap (aB))) / 4294967296) (Go.bits .and .u64 (shl .u64 a2 (IntKind.u64.wrap (aB))) 4294967295) (Go.bits .or .u64 (shl .u64 a0 (IntKind.u64.wrap (aB))) (shr .u64 a1 (IntKind.u64.wrap (64 - (IntKind.u64.wrap (aB)))))) ((shl .u64 a1 (IntKind.u64.wrap (aB))) / 4294967296) (Go.bits .and .u64 (shl .u64 a1 (IntKind.u64.wrap (aB))) 4294967295) (IntKind.u64.wrap (Int.tdiv (Go.bits .or .u64 (shl .u64 a0 (IntKind.u64.wrap (aB))) (shr .u64 a1 (IntKind.u64.wrap (64 - (IntKind.u64.wrap (aB)))))) ((shl .u64 a2 (IntKind.u64.wrap (aB))) / 4294967296))) (IntKind.u64.wrap ((Go.bits .or .u64 (shl .u64 a0 (IntKind.u64.wrap (aB))) (shr .u64 a1 (IntKind.u64.wrap (64 - (IntKind.u64.wrap (aB)))))) - (IntKind.u64.wrap ((IntKind.u64.wrap (Int.tdiv (Go.bits .or .u64 (shl .u64 a0 (IntKind.u64.wrap (aB))) (shr .u64 a1 (IntKind.u64.wrap (64 - (IntKind.u64.wrap (aB)))))) ((shl .u64 a2 (IntKind.u64.wrap (aB))) / 4294967296))) * ((shl .u64 a2 (IntKind.u64.wrap (aB))) / 4294967296))))))) else (none)) else (none)))))
theorem bits_Div64.mono_l : ∀ k, (∀ y0 y1 y2 y3 y4 y5 y6 y7, LeO (bits_Div64.j2 k y0 y1 y2 y3 y4 y5 y6 y7) (bits_Div64.j2 (k + 1) y0 y1 y2 y3 y4 y5 y6 y7)) ∧ (∀ y0 y1 y2 y3 y4 y5 y6 y7 y8, LeO (bits_Div64.l1 k y0 y1 y2 y3 y4 y5 y6 y7 y8) (bits_Div64.l1 (k + 1) y0 y1 y2 y3 y4 y5 y6 y7 y8)) ∧ (∀ y0 y1 y2 y3 y4 y5 y6 y7 y8 y9, LeO (bits_Div64.j4 k y0 y1 y2 y3 y4 y5 y6 y7 y8 y9) (bits_Div64.j4 (k + 1) y0 y1 y2 y3 y4 y5 y6 y7 y8 y9)) ∧ (∀ y0 y1 y2 y3 y4 y5 y6 y7 y8, LeO (bits_Div64.l0 k y0 y1 y2 y3 y4 y5 y6 y7 y8) (bits_Div64.l0 (k + 1) y0 y1 y2 y3 y4 y5 y6 y7 y8)) ∧ (∀ y0 y1 y2 y3 y4 y5 y6 y7 y8 y9, LeO (bits_Div64.j1 k y0 y1 y2 y3 y4 y5 y6 y7 y8 y9) (bits_Div64.j1 (k + 1) y0 y1 y2 y3 y4 y5 y6 y7 y8 y9))
 | 0 => ⟨fun _ _ _ _ _ _ _ _ r h => by simp [bits_Div64.j2] at h, fun _ _ _ _ _ _ _ _ _ r h => by simp [bits_Div64.l1] at h, fun _ _ _ _ _ _ _ _ _ _ r h => by simp [bits_Div64.j4] at h, fun _ _ _ _ _ _ _ _ _ r h => by simp [bits_Div64.l0] at h, fun _ _ _ _ _ _ _ _ _ _ r h => by simp [bits_Div64.j1] at h⟩
 | k + 1 => by
  obtain ⟨ih0, ih1, ih2, ih3, ih4⟩ := bits_Div64.mono_l k; refine ⟨?_, ?_, ?_, ?_, ?_⟩
  ·intro y0 y1 y2 y3 y4 y5 y6 y7
   unfold bits_Div64.j2
   with_reducible repeat' first | exact ih0 _ _ _ _ _ _ _ _ | exact ih1 _ _ _ _ _ _ _ _ _ | exact ih2 _ _ _ _ _ _ _ _ _ _ | exact ih3 _ _ _ _ _ _ _ _ _ | exact ih4 _ _ _ _ _ _ _ _ _ _ | exact LeO.refl _ | exact LeO.none _ | refine LeO.ite ?_ ?_ | refine LeO.bind ?_ (fun _ => ?_)
  ·intro y0 y1 y2 y3 y4 y5 y6 y7 y8
   unfold bits_Div64.l1
   with_reducible repeat' first | exact ih0 _ _ _ _ _ _ _ _ | exact ih1 _ _ _ _ _ _ _ _ _ | exact ih2 _ _ _ _ _ _ _ _ _ _ | exact ih3 _ _ _ _ _ _ _ _ _ | exact ih4 _ _ _ _ _ _ _ _ _ _ | exact LeO.refl _ | exact LeO.none _ | refine LeO.ite ?_ ?_ | refine LeO.bind ?_ (fun _ => ?_)
  ·intro y0 y1 y2 y3 y4 y5 y6 y7 y8 y9
   unfold bits_Div64.j4
   with_reducible repeat' first | exact ih0 _ _ _ _ _ _ _ _ | exact ih1 _ _ _ _ _ _ _ _ _ | exact ih2 _ _ _ _ _ _ _ _ _ _ | exact ih3 _ _ _ _ _ _ _ _ _ | exact ih4 _ _ _ _ _ _ _ _ _ _ | exact LeO.refl _ | exact LeO.none _ | refine LeO.ite ?_ ?_ | refine LeO.bind ?_ (fun _ => ?_)
  ·intro y0 y1 y2 y3 y4 y5 y6 y7 y8
   unfold bits_Div64.l0
   with_reducible repeat' first | exact ih0 _ _ _ _ _ _ _ _ | exact ih1 _ _ _ _ _ _ _ _ _ | exact ih2 _ _ _ _ _ _ _ _ _ _ | exact ih3 _ _ _ _ _ _ _ _ _ | exact ih4 _ _ _ _ _ _ _ _ _ _ | exact LeO.refl _ | exact LeO.none _ | refine LeO.ite ?_ ?_ | refine LeO.bind ?_ (fun _ => ?_)
  ·intro y0 y1 y2 y3 y4 y5 y6 y7 y8 y9
   unfold bits_Div64.j1
   with_reducible repeat' first | exact ih0 _ _ _ _ _ _ _ _ | exact ih1 _ _ _ _ _ _ _ _ _ | exact ih2 _ _ _ _ _ _ _ _ _ _ | exact ih3 _ _ _ _ _ _ _ _ _ | exact ih4 _ _ _ _ _ _ _ _ _ _ | exact LeO.refl _ | exact LeO.none _ | refine LeO.ite ?_ ?_ | refine LeO.bind ?_ (fun _ => ?_)
theorem bits_Div64.mono : ∀ a0 a1 a2 k, LeO (bits_Div64.f k a0 a1 a2) (bits_Div64.f (k + 1) a0 a1 a2) := by
 intro a0 a1 a2 k; obtain ⟨ih0, ih1, ih2, ih3, ih4⟩ := bits_Div64.mono_l k
 unfold bits_Div64.f
 with_reducible repeat' first | exact ih0 _ _ _ _ _ _ _ _ | exact ih1 _ _ _ _ _ _ _ _ _ | exact ih2 _ _ _ _ _ _ _ _ _ _ | exact ih3 _ _ _ _ _ _ _ _ _ | exact ih4 _ _ _ _ _ _ _ _ _ _ | exact LeO.refl _ | exact LeO.none _ | refine LeO.ite ?_ ?_ | refine LeO.bind ?_ (fun _ => ?_)
theorem bits_Div64.calls (k : Nat) (a0 : Int) (a1 : Int) (a2 : Int) (r1 : Int) (r2 : Int) (w : World) (h : bits_Div64.f k a0 a1 a2 = some (r1, r2)) :
  Calls Try.prog 75 #[.int .u64 a0, .int .u64 a1, .int .u64 a2] w fun e w' => e = .returned (.tuple #[.int .u64 r1, .int .u64 r2]) ∧ Drawn0 w w' := by
 have H : (if a2 = 0 then (none) else (if a2 ≤ a0 then (none) else (if a0 = 0 then (some (IntKind.u64.wrap (Int.tdiv a1 a2), Int.tmod a1 a2)) else ((bits_LeadingZeros64.f a2).bind fun aB => (if 0 ≤ (IntKind.u64.wrap (aB)) then (if 0 ≤ (IntKind.u64.wrap (64 - (IntKind.u64.wrap (aB)))) then (if ((shl .u64 a2 (IntKind.u64.wrap (aB))) / 4294967296) = 0 then (none) else (bits_Div64.l0 k (shl .u64 a2 (IntKind.u64.wrap (aB))) (IntKind.u64.wrap (aB)) ((shl .u64 a2 (IntKind.u64.wrap (aB))) / 4294967296) (Go.bits .and .u64 (shl .u64 a2 (IntKind.u64.wrap (aB))) 4294967295) (Go.bits .or .u64 (shl .u64 a0 (IntKind.u64.wrap (aB))) (shr .u64 a1 (IntKind.u64.wrap (64 - (IntKind.u64.wrap (aB)))))) ((shl .u64 a1 (IntKind.u64.wrap (aB))) / 4294967296) (Go.bits .and .u64 (shl .u64 a1 (IntKind.u64.wrap (aB))) 4294967295) (IntKind.u64.wrap (Int.tdiv (Go.bits .or .u64 (shl .u64 a0 (IntKind.u64.wrap (aB))) (shr .u64 a1 (IntKind.u64.wrap (64 - (IntKind.u64.wrap (aB)))))) ((shl .u64 a2 (IntKind.u64.wrap (aB))) / 4294967296))) (IntKind.u64.wrap ((Go.bits .or .u64 (shl .u64 a0 (IntKind.u64.wrap (aB))) (shr .u64 a1 (IntKind.u64.wrap (64 - (IntKind.u64.wrap (aB)))))) - (IntKind.u64.wrap ((IntKind.u64.wrap (Int.tdiv (Go.bits .or .u64 (shl .u64 a0 (IntKind.u64.wrap (aB))) (shr .u64 a1 (IntKind.u64.wrap (64 - (IntKind.u64.wrap (aB)))))) ((shl .u64 a2 (IntKind.u64.wrap (aB))) / 4294967296))) * ((shl .u64 a2 (IntKind.u64.wrap (aB))) / 4294967296))))))) else (none)) else (none)))))) = some (r1, r2) := h; clear h
 by_cases c4 : a2 = 0
 ·rw [if_pos c4] at H; exact absurd H (by simp)
 ·rw [if_neg c4] at H; have bK : (a2 == 0) = false := beq_eq_false_iff_ne.mpr c4; have bJ : (a2 != 0) = true := bne_iff_ne.mpr c4
  by_cases c5 : a2 ≤ a0
  ·rw [if_pos c5] at H; exact absurd H (by simp)
  ·rw [if_neg c5] at H; have bI : decide (a2 ≤ a0) = false := decide_eq_false c5; clear c5
   by_cases c6 : a0 = 0
   ·rw [if_pos c6] at H; have bE : (a0 == 0) = true := beq_iff_eq.mpr c6; have bD : (a0 != 0) = false := bne_eq_false_iff_eq.mpr c6; clear c6; simp only [Option.some.injEq, Prod.mk.injEq] at H; obtain ⟨rfl, rfl⟩ := H
    go_enter Try.func75, Try.ntmps75
    go_wp2
    repeat (go_quiet (fail); try go_wp2)
    go_ret2
    exact ⟨by first | rfl | (simp; done) | (simp [*]; done), by repeat (first | exact Drawn0.refl _ | apply Drawn0.step)⟩
   ·rw [if_neg c6] at H; have bE : (a0 == 0) = false := beq_eq_false_iff_ne.mpr c6; have bD : (a0 != 0) = true := bne_iff_ne.mpr c6; replace H := ob_ H; obtain ⟨aB, A70, H⟩ := H; replace H : (if 0 ≤ (IntKind.u64.wrap (aB)) then (if 0 ≤ (IntKind.u64.wrap (64 - (IntKind.u64.wrap (aB)))) then (if ((shl .u64 a2 (IntKind.u64.wrap (aB))) / 4294967296) = 0 then (none) else (bits_Div64.l0 k (shl .u64 a2 (IntKind.u64.wrap (aB))) (IntKind.u64.wrap (aB)) ((shl .u64 a2 (IntKind.u64.wrap (aB))) / 4294967296) (Go.bits .and .u64 (shl .u64 a2 (IntKind.u64.wrap (aB))) 4294967295) (Go.bits .or .u64 (shl .u64 a0 (IntKind.u64.wrap (aB))) (shr .u64 a1 (IntKind.u64.wrap (64 - (IntKind.u64.wrap (aB)))))) ((shl .u64 a1 (IntKind.u64.wrap (aB))) / 4294967296) (Go.bits .and .u64 (shl .u64 a1 (IntKind.u64.wrap (aB))) 4294967295) (IntKind.u64.wrap (Int.tdiv (Go.bits .or .u64 (shl .u64 a0 (IntKind.u64.wrap (aB))) (shr .u64 a1 (IntKind.u64.wrap (64 - (IntKind.u64.wrap (aB)))))) ((shl .u64 a2 (IntKind.u64.wrap (aB))) / 4294967296))) (IntKind.u64.wrap ((Go.bits .or .u64 (shl .u64 a0 (IntKind.u64.wrap (aB))) (shr .u64 a1 (IntKind.u64.wrap (64 - (IntKind.u64.wrap (aB)))))) - (IntKind.u64.wrap ((IntKind.u64.wrap (Int.tdiv (Go.bits .or .u64 (shl .u64 a0 (IntKind.u64.wrap (aB))) (shr .u64 a1 (IntKind.u64.wrap (64 - (IntKind.u64.wrap (aB)))))) ((shl .u64 a2 (IntKind.u64.wrap (aB))) / 4294967296))) * ((shl .u64 a2 (IntKind.u64.wrap (aB))) / 4294967296))))))) else (none)) else (none)) = some (r1, r2) := H; have A7 := Zq_.mk A70; clear A70; obtain ⟨ji8, bF⟩ : ∃ j_ : Int, (IntKind.u64.wrap (aB)) = j_ := ⟨_, rfl⟩
    replace H : (if 0 ≤ (ji8) then (if 0 ≤ (IntKind.u64.wrap (64 - (ji8))) then (if ((shl .u64 a2 (ji8)) / 4294967296) = 0 then (none) else (bits_Div64.l0 k (shl .u64 a2 (ji8)) ji8 ((shl .u64 a2 (ji8)) / 4294967296) (Go.bits .and .u64 (shl .u64 a2 (ji8)) 4294967295) (Go.bits .or .u64 (shl .u64 a0 (ji8)) (shr .u64 a1 (IntKind.u64.wrap (64 - (ji8))))) ((shl .u64 a1 (ji8)) / 4294967296) (Go.bits .and .u64 (shl .u64 a1 (ji8)) 4294967295) (IntKind.u64.wrap (Int.tdiv (Go.bits .or .u64 (shl .u64 a0 (ji8)) (shr .u64 a1 (IntKind.u64.wrap (64 - (ji8))))) ((shl .u64 a2 (ji8)) / 4294967296))) (IntKind.u64.wrap ((Go.bits .or .u64 (shl .u64 a0 (ji8)) (shr .u64 a1 (IntKind.u64.wrap (64 - (ji8))))) - (IntKind.u64.wrap ((IntKind.u64.wrap (Int.tdiv (Go.bits .or .u64 (shl .u64 a0 (ji8)) (shr .u64 a1 (IntKind.u64.wrap (64 - (ji8))))) ((shl .u64 a2 (ji8)) / 4294967296))) * ((shl .u64 a2 (ji8)) / 4294967296))))))) else (none)) else (none)) = some (r1, r2) := by first | (rw [bF] at H; exact H) | (simp only [bF] at H ⊢; exact H)
    (try rw [bF] at A7)
    by_cases c9 : 0 ≤ (ji8)
    ·rw [if_pos c9] at H; have bH := eq_true c9; have bG : decide (0 ≤ (ji8)) = true := decide_eq_true c9; clear c9; obtain ⟨aA, aH⟩ : ∃ j_ : Int, (shl .u64 a2 (ji8)) = j_ := ⟨_, rfl⟩
     replace H : (if 0 ≤ (IntKind.u64.wrap (64 - (ji8))) then (if ((aA) / 4294967296) = 0 then (none) else (bits_Div64.l0 k aA ji8 ((aA) / 4294967296) (Go.bits .and .u64 (aA) 4294967295) (Go.bits .or .u64 (shl .u64 a0 (ji8)) (shr .u64 a1 (IntKind.u64.wrap (64 - (ji8))))) ((shl .u64 a1 (ji8)) / 4294967296) (Go.bits .and .u64 (shl .u64 a1 (ji8)) 4294967295) (IntKind.u64.wrap (Int.tdiv (Go.bits .or .u64 (shl .u64 a0 (ji8)) (shr .u64 a1 (IntKind.u64.wrap (64 - (ji8))))) ((aA) / 4294967296))) (IntKind.u64.wrap ((Go.bits .or .u64 (shl .u64 a0 (ji8)) (shr .u64 a1 (IntKind.u64.wrap (64 - (ji8))))) - (IntKind.u64.wrap ((IntKind.u64.wrap (Int.tdiv (Go.bits .or .u64 (shl .u64 a0 (ji8)) (shr .u64 a1 (IntKind.u64.wrap (64 - (ji8))))) ((aA) / 4294967296))) * ((aA) / 4294967296))))))) else (none)) = some (r1, r2) := by first | (rw [aH] at H; exact H) | (simp only [aH] at H ⊢; exact H)
     (try rw [aH] at A7); have hji10_ : (IntKind.u64.wrap (a2 * 2 ^ min (ji8).toNat 64)) = aA := aH; have hji10z : (ji8) ≤ 64 → (IntKind.u64.wrap (a2 * 2 ^ (ji8).toNat)) = aA := shl_small aH; have bB := eq_true (dA_ : 0 ≤ (ji8)); obtain ⟨aE, aN⟩ : ∃ j_ : Int, (shl .u64 a0 (ji8)) = j_ := ⟨_, rfl⟩
     replace H : (if 0 ≤ (IntKind.u64.wrap (64 - (ji8))) then (if ((aA) / 4294967296) = 0 then (none) else (bits_Div64.l0 k aA ji8 ((aA) / 4294967296) (Go.bits .and .u64 (aA) 4294967295) (Go.bits .or .u64 (aE) (shr .u64 a1 (IntKind.u64.wrap (64 - (ji8))))) ((shl .u64 a1 (ji8)) / 4294967296) (Go.bits .and .u64 (shl .u64 a1 (ji8)) 4294967295) (IntKind.u64.wrap (Int.tdiv (Go.bits .or .u64 (aE) (shr .u64 a1 (IntKind.u64.wrap (64 - (ji8))))) ((aA) / 4294967296))) (IntKind.u64.wrap ((Go.bits .or .u64 (aE) (shr .u64 a1 (IntKind.u64.wrap (64 - (ji8))))) - (IntKind.u64.wrap ((IntKind.u64.wrap (Int.tdiv (Go.bits .or .u64 (aE) (shr .u64 a1 (IntKind.u64.wrap (64 - (ji8))))) ((aA) / 4294967296))) * ((aA) / 4294967296))))))) else (none)) = some (r1, r2) := by first | (rw [aN] at H; exact H) | (simp only [aN] at H ⊢; exact H)
     (try rw [aN] at A7); have hji12_ : (IntKind.u64.wrap (a0 * 2 ^ min (ji8).toNat 64)) = aE := aN; have hji12z : (ji8) ≤ 64 → (IntKind.u64.wrap (a0 * 2 ^ (ji8).toNat)) = aE := shl_small aN; obtain ⟨aQ, aV⟩ : ∃ j_ : Int, (IntKind.u64.wrap (64 - (ji8))) = j_ := ⟨_, rfl⟩
     replace H : (if 0 ≤ (aQ) then (if ((aA) / 4294967296) = 0 then (none) else (bits_Div64.l0 k aA ji8 ((aA) / 4294967296) (Go.bits .and .u64 (aA) 4294967295) (Go.bits .or .u64 (aE) (shr .u64 a1 (aQ))) ((shl .u64 a1 (ji8)) / 4294967296) (Go.bits .and .u64 (shl .u64 a1 (ji8)) 4294967295) (IntKind.u64.wrap (Int.tdiv (Go.bits .or .u64 (aE) (shr .u64 a1 (aQ))) ((aA) / 4294967296))) (IntKind.u64.wrap ((Go.bits .or .u64 (aE) (shr .u64 a1 (aQ))) - (IntKind.u64.wrap ((IntKind.u64.wrap (Int.tdiv (Go.bits .or .u64 (aE) (shr .u64 a1 (aQ))) ((aA) / 4294967296))) * ((aA) / 4294967296))))))) else (none)) = some (r1, r2) := by first | (rw [aV] at H; exact H) | (simp only [aV] at H ⊢; exact H)
     (try rw [aV] at A7)
     by_cases c14 : 0 ≤ (aQ)
     ·rw [if_pos c14] at H; have bA := eq_true c14; have aZ : decide (0 ≤ (aQ)) = true := decide_eq_true c14; clear c14; obtain ⟨aG, aM⟩ : ∃ j_ : Int, (shr .u64 a1 (aQ)) = j_ := ⟨_, rfl⟩
      replace H : (if ((aA) / 4294967296) = 0 then (none) else (bits_Div64.l0 k aA ji8 ((aA) / 4294967296) (Go.bits .and .u64 (aA) 4294967295) (Go.bits .or .u64 (aE) (aG)) ((shl .u64 a1 (ji8)) / 4294967296) (Go.bits .and .u64 (shl .u64 a1 (ji8)) 4294967295) (IntKind.u64.wrap (Int.tdiv (Go.bits .or .u64 (aE) (aG)) ((aA) / 4294967296))) (IntKind.u64.wrap ((Go.bits .or .u64 (aE) (aG)) - (IntKind.u64.wrap ((IntKind.u64.wrap (Int.tdiv (Go.bits .or .u64 (aE) (aG)) ((aA) / 4294967296))) * ((aA) / 4294967296))))))) = some (r1, r2) := by first | (rw [aM] at H; exact H) | (simp only [aM] at H ⊢; exact H)
      (try rw [aM] at A7); have hji15_ : (a1 / 2 ^ min (aQ).toNat 64) = aG := aM; have hji15z : (aQ) ≤ 64 → (a1 / 2 ^ (aQ).toNat) = aG := shr_small aM; have aY := eq_true (dA_ : 0 ≤ (ji8)); obtain ⟨aD, aL⟩ : ∃ j_ : Int, (shl .u64 a1 (ji8)) = j_ := ⟨_, rfl⟩
      replace H : (if ((aA) / 4294967296) = 0 then (none) else (bits_Div64.l0 k aA ji8 ((aA) / 4294967296) (Go.bits .and .u64 (aA) 4294967295) (Go.bits .or .u64 (aE) (aG)) ((aD) / 4294967296) (Go.bits .and .u64 (aD) 4294967295) (IntKind.u64.wrap (Int.tdiv (Go.bits .or .u64 (aE) (aG)) ((aA) / 4294967296))) (IntKind.u64.wrap ((Go.bits .or .u64 (aE) (aG)) - (IntKind.u64.wrap ((IntKind.u64.wrap (Int.tdiv (Go.bits .or .u64 (aE) (aG)) ((aA) / 4294967296))) * ((aA) / 4294967296))))))) = some (r1, r2) := by first | (rw [aL] at H; exact H) | (simp only [aL] at H ⊢; exact H)
      (try rw [aL] at A7); have hji17_ : (IntKind.u64.wrap (a1 * 2 ^ min (ji8).toNat 64)) = aD := aL; have hji17z : (ji8) ≤ 64 → (IntKind.u64.wrap (a1 * 2 ^ (ji8).toNat)) = aD := shl_small aL
      by_cases c18 : ((aA) / 4294967296) = 0
      ·rw [if_pos c18] at H; exact absurd H (by simp)
      ·rw [if_neg c18] at H; have aX : (((aA) / 4294967296) == 0) = false := beq_eq_false_iff_ne.mpr c18; have aW : (((aA) / 4294967296) != 0) = true := bne_iff_ne.mpr c18; have bT := Zq_.mk H; clear H
       go_enter Try.func75, Try.ntmps75
       go_upto_block 0 with (first | (go_at_call 79; (with_reducible refine (bits_LeadingZeros64.calls a2 aB _ A7.out).mono ?_); rintro e w' ⟨rfl, ⟨nd, rfl⟩⟩; (try first | exact ⟨rfl, _, World.drewN_drewN _ _ _⟩ | exact ⟨rfl, _, Eq.trans (World.drewN_drewN _ _ _) (congrArg (World.drewN _) (Nat.add_assoc _ _ _))⟩)))
       repeat (go_quiet (first | (go_at_call 79; (with_reducible refine (bits_LeadingZeros64.calls a2 aB _ A7.out).mono ?_); rintro e w' ⟨rfl, ⟨nd, rfl⟩⟩; (try first | exact ⟨rfl, _, World.drewN_drewN _ _ _⟩ | exact ⟨rfl, _, Eq.trans (World.drewN_drewN _ _ _) (congrArg (World.drewN _) (Nat.add_assoc _ _ _))⟩))); go_upto_block 0 with (first | (go_at_call 79; (with_reducible refine (bits_LeadingZeros64.calls a2 aB _ A7.out).mono ?_); rintro e w' ⟨rfl, ⟨nd, rfl⟩⟩; (try first | exact ⟨rfl, _, World.drewN_drewN _ _ _⟩ | exact ⟨rfl, _, Eq.trans (World.drewN_drewN _ _ _) (congrArg (World.drewN _) (Nat.add_assoc _ _ _))⟩))))
       (try simp only [Act.put, sa_, sb_, sc_])
       go_cut [15] (fun v15 wc => ∃ (kq : Nat) (aC : Int), v15 = .int .u64 aC ∧ Zq_ (bits_Div64.j2 kq aA ji8 ((aA) / 4294967296) (Go.bits .and .u64 (aA) 4294967295) (Go.bits .or .u64 (aE) (aG)) ((aD) / 4294967296) (Go.bits .and .u64 (aD) 4294967295) aC = some (r1, r2)) ∧ Zq_ (kq ≤ k) ∧ Drawn0 w wc)
       case first =>
        have H := bT.out; clear bT; have H' := Zq_.mk H; clear H
        go_wp2
        repeat (go_quiet (fail); try go_wp2)
        go_loopg [15, 16] k (fun kq v15 v16 w' => ∃ (aI : Int) (aK : Int), v15 = .int .u64 aI ∧ v16 = .int .u64 aK ∧ Zq_ (bits_Div64.l0 kq aA ji8 ((aA) / 4294967296) (Go.bits .and .u64 (aA) 4294967295) (Go.bits .or .u64 (aE) (aG)) ((aD) / 4294967296) (Go.bits .and .u64 (aD) 4294967295) aI aK = some (r1, r2)) ∧ Zq_ (kq ≤ k) ∧ Drawn0 w w')
        case atStart => exact ⟨(IntKind.u64.wrap (Int.tdiv (Go.bits .or .u64 (aE) (aG)) ((aA) / 4294967296))), (IntKind.u64.wrap ((Go.bits .or .u64 (aE) (aG)) - (IntKind.u64.wrap ((IntKind.u64.wrap (Int.tdiv (Go.bits .or .u64 (aE) (aG)) ((aA) / 4294967296))) * ((aA) / 4294967296))))), (by first | rfl | (simp; done) | (simp only [← aH, ← aN, ← aM] <;> (first | rfl | simp)) | (simp [*]; done)), (by first | rfl | (simp; done) | (simp only [← aH, ← aN, ← aM] <;> (first | rfl | simp)) | (simp [*]; done)), H', ⟨Nat.le_refl _⟩, by repeat (first | exact Drawn0.refl _ | apply Drawn0.step)⟩
        case round =>
         clear H'
         try clear c1
         try clear p2
         try clear c4
         try clear bK
         try clear bJ
         try clear c5
         try clear bI
         try clear c6
         try clear bE
         try clear bD
         try clear c7
         try clear c9
         try clear bH
         try clear bG
         try clear c11
         try clear bB
         try clear c14
         try clear bA
         try clear aZ
         try clear c16
         try clear aY
         try clear c18
         try clear aX
         try clear aW
         obtain ⟨aI, aK, rfl, rfl, HA, HK1, ⟨m1, rfl⟩⟩ := hrel
         cases gk with
         | zero => exact absurd HA.out (by simp [bits_Div64.l0])
         | succ k1 =>
          have H := HA.out; clear HA; simp only [bits_Div64.l0] at H; have bS := Zq_.mk H; clear H
          go_upto_region 17 with (fail)
          repeat (go_quiet (fail); go_upto_region 17 with (fail))
          go_cut [78] (fun v78 wc => ∃ (kq : Nat) (aS : Bool), v78 = .bool aS ∧ Zq_ (bits_Div64.j1 kq aA ji8 ((aA) / 4294967296) (Go.bits .and .u64 (aA) 4294967295) (Go.bits .or .u64 (aE) (aG)) ((aD) / 4294967296) (Go.bits .and .u64 (aD) 4294967295) aI aK aS = some (r1, r2)) ∧ Zq_ (kq ≤ k1) ∧ Drawn0 w wc)
          case first =>
           have H := bS.out; clear bS
           by_cases c21 : aI ≥ 4294967296
           ·rw [if_pos c21] at H; have aO : decide (4294967296 ≤ aI) = true := decide_eq_true c21; clear c21; (first | rw [aO] | (simp only [i64_w, i32_w]; rw [aO]) | skip); have H' := Zq_.mk H; clear H
            go_wp2
            repeat (go_quiet (fail); try go_wp2)
            go_meet
            case rel => exact ⟨_, (true), eS_, H', ⟨by have := HK1.out; first | omega | exact Nat.le_refl _⟩, by repeat (first | exact Drawn0.refl _ | apply Drawn0.step)⟩
           ·rw [if_neg c21] at H; have aO : decide (4294967296 ≤ aI) = false := decide_eq_false c21; clear c21; (first | rw [aO] | (simp only [i64_w, i32_w]; rw [aO]) | skip); have H' := Zq_.mk H; clear H
            go_wp2
            repeat (go_quiet (fail); try go_wp2)
            go_meet
            case rel => exact ⟨_, (decide ((IntKind.u64.wrap (aI * (Go.bits .and .u64 (aA) 4294967295))) > (IntKind.u64.wrap ((IntKind.u64.wrap (4294967296 * aK)) + ((aD) / 4294967296))))), (by first | rfl | (simp; done) | (simp only [← aH, ← aL] <;> (first | rfl | simp)) | (simp [*]; done)), H', ⟨by have := HK1.out; first | omega | exact Nat.le_refl _⟩, by repeat (first | exact Drawn0.refl _ | apply Drawn0.step)⟩
          case rest =>
           clear bS
           try clear c1
           try clear c2
           try clear p2
           try clear c4
           try clear bK
           try clear bJ
           try clear c5
           try clear bI
           try clear c6
           try clear bE
           try clear bD
           try clear c7
           try clear c9
           try clear bH
           try clear bG
           try clear c11
           try clear bB
           try clear c14
           try clear bA
           try clear aZ
           try clear c16
           try clear aY
           try clear c18
           try clear aX
           try clear aW
           try clear c21
           try clear aO
           try clear p2
           obtain ⟨kq, aS, rfl, HA, bL, ⟨mc19, rfl⟩⟩ := hcut
           cases kq with
           | zero => exact absurd HA.out (by simp [bits_Div64.j1])
           | succ kj19 =>
            have H := HA.out; clear HA; simp only [bits_Div64.j1] at H
            by_cases c22 : aS = true
            ·subst c22
             have H1 : (if (IntKind.u64.wrap (aK + ((aA) / 4294967296))) ≥ 4294967296 then (bits_Div64.j2 kj19 aA ji8 ((aA) / 4294967296) (Go.bits .and .u64 (aA) 4294967295) (Go.bits .or .u64 (aE) (aG)) ((aD) / 4294967296) (Go.bits .and .u64 (aD) 4294967295) (IntKind.u64.wrap (aI - 1))) else (bits_Div64.l0 kj19 aA ji8 ((aA) / 4294967296) (Go.bits .and .u64 (aA) 4294967295) (Go.bits .or .u64 (aE) (aG)) ((aD) / 4294967296) (Go.bits .and .u64 (aD) 4294967295) (IntKind.u64.wrap (aI - 1)) (IntKind.u64.wrap (aK + ((aA) / 4294967296))))) = some (r1, r2) := by rw [if_pos rfl] at H; exact H
             clear H; have H := H1; clear H1
             by_cases c23 : (IntKind.u64.wrap (aK + ((aA) / 4294967296))) ≥ 4294967296
             ·rw [if_pos c23] at H; have bC : decide (4294967296 ≤ (IntKind.u64.wrap (aK + ((aA) / 4294967296)))) = true := decide_eq_true c23; clear c23; have H' := Zq_.mk H; clear H
              go_wp2
              repeat (go_quiet (fail); try go_wp2)
              go_meet
              case rel => exact ⟨_, (IntKind.u64.wrap (aI - 1)), eS_, H', ⟨by have := HK1.out; have := bL.out; first | omega | exact Nat.le_refl _⟩, by repeat (first | exact Drawn0.refl _ | apply Drawn0.step)⟩
             ·rw [if_neg c23] at H; have bC : decide (4294967296 ≤ (IntKind.u64.wrap (aK + ((aA) / 4294967296)))) = false := decide_eq_false c23; clear c23; have H' := Zq_.mk H; clear H
              go_wp2
              repeat (go_quiet (fail); try go_wp2)
              go_roundg kj19
              case measure => have := HK1.out; have := bL.out; omega
              case rel => exact ⟨(IntKind.u64.wrap (aI - 1)), (IntKind.u64.wrap (aK + ((aA) / 4294967296))), eS_, (by first | rfl | (simp; done) | (simp only [← aH] <;> (first | rfl | simp)) | (simp [*]; done)), H', ⟨by have := HK1.out; have := bL.out; omega⟩, by repeat (first | exact Drawn0.refl _ | apply Drawn0.step)⟩
            ·replace c22 := Bool.eq_false_iff.mpr c22; subst c22
             have H1 : (bits_Div64.j2 kj19 aA ji8 ((aA) / 4294967296) (Go.bits .and .u64 (aA) 4294967295) (Go.bits .or .u64 (aE) (aG)) ((aD) / 4294967296) (Go.bits .and .u64 (aD) 4294967295) aI) = some (r1, r2) := by rw [if_neg (show ¬ (false = true) by decide)] at H; exact H
             clear H; have H := H1; clear H1; have H' := Zq_.mk H; clear H
             go_wp2
             repeat (go_quiet (fail); try go_wp2)
             go_meet
             case rel => exact ⟨_, (aI), eS_, H', ⟨by have := HK1.out; have := bL.out; first | omega | exact Nat.le_refl _⟩, by repeat (first | exact Drawn0.refl _ | apply Drawn0.step)⟩
       case rest =>
        clear bT
        try clear c1
        try clear c2
        try clear p2
        try clear c4
        try clear bK
        try clear bJ
        try clear c5
        try clear bI
        try clear c6
        try clear bE
        try clear bD
        try clear c7
        try clear c9
        try clear bH
        try clear bG
        try clear c11
        try clear bB
        try clear c14
        try clear bA
        try clear aZ
        try clear c16
        try clear aY
        try clear c18
        try clear aX
        try clear aW
        try clear c19
        try clear c21
        try clear aO
        try clear c22
        try clear c23
        try clear bC
        try clear p2
        obtain ⟨kq, aC, rfl, HA, bM, ⟨mc18, rfl⟩⟩ := hcut
        cases kq with
        | zero => exact absurd HA.out (by simp [bits_Div64.j2])
        | succ kj18 =>
         have H := HA.out; clear HA; simp only [bits_Div64.j2] at H
         by_cases c24 : ((aA) / 4294967296) = 0
         ·rw [if_pos c24] at H; exact absurd H (by simp)
         ·rw [if_neg c24] at H; have bO : (((aA) / 4294967296) == 0) = false := beq_eq_false_iff_ne.mpr c24; have bN : (((aA) / 4294967296) != 0) = true := bne_iff_ne.mpr c24; have H' := Zq_.mk H; clear H
          go_wp2
          repeat (go_quiet (fail); try go_wp2)
          go_loopg [16, 18] kj18 (fun kq v16 v18 w' => ∃ (aJ : Int) (aF : Int), v16 = .int .u64 aJ ∧ v18 = .int .u64 aF ∧ Zq_ (bits_Div64.l1 kq aA ji8 ((aA) / 4294967296) (Go.bits .and .u64 (aA) 4294967295) (Go.bits .and .u64 (aD) 4294967295) aC aJ (IntKind.u64.wrap ((IntKind.u64.wrap ((IntKind.u64.wrap ((Go.bits .or .u64 (aE) (aG)) * 4294967296)) + ((aD) / 4294967296))) - (IntKind.u64.wrap (aC * aA)))) aF = some (r1, r2)) ∧ Zq_ (kq ≤ kj18) ∧ Drawn0 w w')
          case atStart => exact ⟨(IntKind.u64.wrap ((IntKind.u64.wrap ((IntKind.u64.wrap ((IntKind.u64.wrap ((Go.bits .or .u64 (aE) (aG)) * 4294967296)) + ((aD) / 4294967296))) - (IntKind.u64.wrap (aC * aA)))) - (IntKind.u64.wrap ((IntKind.u64.wrap (Int.tdiv (IntKind.u64.wrap ((IntKind.u64.wrap ((IntKind.u64.wrap ((Go.bits .or .u64 (aE) (aG)) * 4294967296)) + ((aD) / 4294967296))) - (IntKind.u64.wrap (aC * aA)))) ((aA) / 4294967296))) * ((aA) / 4294967296))))), (IntKind.u64.wrap (Int.tdiv (IntKind.u64.wrap ((IntKind.u64.wrap ((IntKind.u64.wrap ((Go.bits .or .u64 (aE) (aG)) * 4294967296)) + ((aD) / 4294967296))) - (IntKind.u64.wrap (aC * aA)))) ((aA) / 4294967296))), (by first | rfl | (simp; done) | (simp only [← aH, ← aN, ← aM, ← aL] <;> (first | rfl | simp)) | (simp [*]; done)), (by first | rfl | (simp; done) | (simp only [← aH, ← aN, ← aM, ← aL] <;> (first | rfl | simp)) | (simp [*]; done)), H', ⟨Nat.le_refl _⟩, by repeat (first | exact Drawn0.refl _ | apply Drawn0.step)⟩
          case round =>
           clear H'
           try clear c1
           try clear c2
           try clear p2
           try clear c4
           try clear bK
           try clear bJ
           try clear c5
           try clear bI
           try clear c6
           try clear bE
           try clear bD
           try clear c7
           try clear c9
           try clear bH
           try clear bG
           try clear c11
           try clear bB
           try clear c14
           try clear bA
           try clear aZ
           try clear c16
           try clear aY
           try clear c18
           try clear aX
           try clear aW
           try clear c19
           try clear c21
           try clear aO
           try clear c22
           try clear c23
           try clear bC
           try clear c24
           try clear bO
           try clear bN
           try clear p2
           obtain ⟨aJ, aF, rfl, rfl, HA, HK2, ⟨m2, rfl⟩⟩ := hrel
           cases gk with
           | zero => exact absurd HA.out (by simp [bits_Div64.l1])
           | succ k2 =>
            have H := HA.out; clear HA; simp only [bits_Div64.l1] at H; have bR := Zq_.mk H; clear H
            go_upto_region 24 with (fail)
            repeat (go_quiet (fail); go_upto_region 24 with (fail))
            go_cut [113] (fun v113 wc => ∃ (kq : Nat) (aP : Bool), v113 = .bool aP ∧ Zq_ (bits_Div64.j4 kq aA ji8 ((aA) / 4294967296) (Go.bits .and .u64 (aA) 4294967295) (Go.bits .and .u64 (aD) 4294967295) aC aJ (IntKind.u64.wrap ((IntKind.u64.wrap ((IntKind.u64.wrap ((Go.bits .or .u64 (aE) (aG)) * 4294967296)) + ((aD) / 4294967296))) - (IntKind.u64.wrap (aC * aA)))) aF aP = some (r1, r2)) ∧ Zq_ (kq ≤ k2) ∧ Drawn0 w wc)
            case first =>
             have H := bR.out; clear bR
             by_cases c26 : aF ≥ 4294967296
             ·rw [if_pos c26] at H; have aR : decide (4294967296 ≤ aF) = true := decide_eq_true c26; clear c26; (first | rw [aR] | (simp only [i64_w, i32_w]; rw [aR]) | skip); have H' := Zq_.mk H; clear H
              go_wp2
              repeat (go_quiet (fail); try go_wp2)
              go_meet
              case rel => exact ⟨_, (true), eS_, H', ⟨by have := bM.out; have := HK2.out; first | omega | exact Nat.le_refl _⟩, by repeat (first | exact Drawn0.refl _ | apply Drawn0.step)⟩
             ·rw [if_neg c26] at H; have aR : decide (4294967296 ≤ aF) = false := decide_eq_false c26; clear c26; (first | rw [aR] | (simp only [i64_w, i32_w]; rw [aR]) | skip); have H' := Zq_.mk H; clear H
              go_wp2
              repeat (go_quiet (fail); try go_wp2)
              go_meet
              case rel => exact ⟨_, (decide ((IntKind.u64.wrap (aF * (Go.bits .and .u64 (aA) 4294967295))) > (IntKind.u64.wrap ((IntKind.u64.wrap (4294967296 * aJ)) + (Go.bits .and .u64 (aD) 4294967295))))), (by first | rfl | (simp; done) | (simp only [← aH, ← aL] <;> (first | rfl | simp)) | (simp [*]; done)), H', ⟨by have := bM.out; have := HK2.out; first | omega | exact Nat.le_refl _⟩, by repeat (first | exact Drawn0.refl _ | apply Drawn0.step)⟩
            case rest =>
             clear bR
             try clear c1
             try clear c2
             try clear p2
             try clear c4
             try clear bK
             try clear bJ
             try clear c5
             try clear bI
             try clear c6
             try clear bE
             try clear bD
             try clear c7
             try clear c9
             try clear bH
             try clear bG
             try clear c11
             try clear bB
             try clear c14
             try clear bA
             try clear aZ
             try clear c16
             try clear aY
             try clear c18
             try clear aX
             try clear aW
             try clear c19
             try clear c21
             try clear aO
             try clear c22
             try clear c23
             try clear bC
             try clear c24
             try clear bO
             try clear bN
             try clear c26
             try clear aR
             try clear p2
             obtain ⟨kq, aP, rfl, HA, bV, ⟨mc24, rfl⟩⟩ := hcut
             cases kq with
             | zero => exact absurd HA.out (by simp [bits_Div64.j4])
             | succ kj24 =>
              have H := HA.out; clear HA; simp only [bits_Div64.j4] at H
              by_cases c27 : aP = true
              ·subst c27
               have H1 : (if (IntKind.u64.wrap (aJ + ((aA) / 4294967296))) ≥ 4294967296 then (if 0 ≤ ji8 then (some (IntKind.u64.wrap ((IntKind.u64.wrap (aC * 4294967296)) + (IntKind.u64.wrap (aF - 1))), shr .u64 (IntKind.u64.wrap ((IntKind.u64.wrap ((IntKind.u64.wrap ((IntKind.u64.wrap ((IntKind.u64.wrap ((IntKind.u64.wrap ((Go.bits .or .u64 (aE) (aG)) * 4294967296)) + ((aD) / 4294967296))) - (IntKind.u64.wrap (aC * aA)))) * 4294967296)) + (Go.bits .and .u64 (aD) 4294967295))) - (IntKind.u64.wrap ((IntKind.u64.wrap (aF - 1)) * aA)))) ji8)) else (none)) else (bits_Div64.l1 kj24 aA ji8 ((aA) / 4294967296) (Go.bits .and .u64 (aA) 4294967295) (Go.bits .and .u64 (aD) 4294967295) aC (IntKind.u64.wrap (aJ + ((aA) / 4294967296))) (IntKind.u64.wrap ((IntKind.u64.wrap ((IntKind.u64.wrap ((Go.bits .or .u64 (aE) (aG)) * 4294967296)) + ((aD) / 4294967296))) - (IntKind.u64.wrap (aC * aA)))) (IntKind.u64.wrap (aF - 1)))) = some (r1, r2) := by rw [if_pos rfl] at H; exact H
               clear H; have H := H1; clear H1
               by_cases c28 : (IntKind.u64.wrap (aJ + ((aA) / 4294967296))) ≥ 4294967296
               ·rw [if_pos c28] at H; have bU : decide (4294967296 ≤ (IntKind.u64.wrap (aJ + ((aA) / 4294967296)))) = true := decide_eq_true c28; clear c28
                by_cases c29 : 0 ≤ ji8
                ·rw [if_pos c29] at H; have c29b0 := eq_true c29; have c29b1 : decide (0 ≤ ji8) = true := decide_eq_true c29; clear c29; obtain ⟨bQ, aU⟩ : ∃ j_ : Int, (shr .u64 (IntKind.u64.wrap ((IntKind.u64.wrap ((IntKind.u64.wrap ((IntKind.u64.wrap ((IntKind.u64.wrap ((IntKind.u64.wrap ((Go.bits .or .u64 (aE) (aG)) * 4294967296)) + ((aD) / 4294967296))) - (IntKind.u64.wrap (aC * aA)))) * 4294967296)) + (Go.bits .and .u64 (aD) 4294967295))) - (IntKind.u64.wrap ((IntKind.u64.wrap (aF - 1)) * aA)))) ji8) = j_ := ⟨_, rfl⟩
                 replace H : (some (IntKind.u64.wrap ((IntKind.u64.wrap (aC * 4294967296)) + (IntKind.u64.wrap (aF - 1))), bQ)) = some (r1, r2) := by first | (rw [aU] at H; exact H) | (simp only [aU] at H ⊢; exact H)
                 have hji30_ : ((IntKind.u64.wrap ((IntKind.u64.wrap ((IntKind.u64.wrap ((IntKind.u64.wrap ((IntKind.u64.wrap ((IntKind.u64.wrap ((Go.bits .or .u64 (aE) (aG)) * 4294967296)) + ((aD) / 4294967296))) - (IntKind.u64.wrap (aC * aA)))) * 4294967296)) + (Go.bits .and .u64 (aD) 4294967295))) - (IntKind.u64.wrap ((IntKind.u64.wrap (aF - 1)) * aA)))) / 2 ^ min ji8.toNat 64) = bQ := aU; have hji30z : ji8 ≤ 64 → ((IntKind.u64.wrap ((IntKind.u64.wrap ((IntKind.u64.wrap ((IntKind.u64.wrap ((IntKind.u64.wrap ((IntKind.u64.wrap ((Go.bits .or .u64 (aE) (aG)) * 4294967296)) + ((aD) / 4294967296))) - (IntKind.u64.wrap (aC * aA)))) * 4294967296)) + (Go.bits .and .u64 (aD) 4294967295))) - (IntKind.u64.wrap ((IntKind.u64.wrap (aF - 1)) * aA)))) / 2 ^ ji8.toNat) = bQ := shr_small aU; simp only [Option.some.injEq, Prod.mk.injEq] at H; obtain ⟨rfl, rfl⟩ := H
                 go_wp2
                 repeat (go_quiet (fail); try go_wp2)
                 go_ret2
                 exact ⟨by first | rfl | (simp; done) | (simp only [← bF, ← aH, ← aN, ← aV, ← aM, ← aL, ← aU] <;> (first | rfl | simp)) | (simp [*]; done), by repeat (first | exact Drawn0.refl _ | apply Drawn0.step)⟩
                ·rw [if_neg c29] at H; exact absurd H (by simp)
               ·rw [if_neg c28] at H; have bU : decide (4294967296 ≤ (IntKind.u64.wrap (aJ + ((aA) / 4294967296)))) = false := decide_eq_false c28; clear c28; have H' := Zq_.mk H; clear H
                go_wp2
                repeat (go_quiet (fail); try go_wp2)
                go_roundg kj24
                case measure => have := bM.out; have := HK2.out; have := bV.out; omega
                case rel => exact ⟨(IntKind.u64.wrap (aJ + ((aA) / 4294967296))), (IntKind.u64.wrap (aF - 1)), (by first | rfl | (simp; done) | (simp only [← aH] <;> (first | rfl | simp)) | (simp [*]; done)), eS_, H', ⟨by have := bM.out; have := HK2.out; have := bV.out; omega⟩, by repeat (first | exact Drawn0.refl _ | apply Drawn0.step)⟩
              ·replace c27 := Bool.eq_false_iff.mpr c27; subst c27
               have H1 : (if 0 ≤ ji8 then (some (IntKind.u64.wrap ((IntKind.u64.wrap (aC * 4294967296)) + aF), shr .u64 (IntKind.u64.wrap ((IntKind.u64.wrap ((IntKind.u64.wrap ((IntKind.u64.wrap ((IntKind.u64.wrap ((IntKind.u64.wrap ((Go.bits .or .u64 (aE) (aG)) * 4294967296)) + ((aD) / 4294967296))) - (IntKind.u64.wrap (aC * aA)))) * 4294967296)) + (Go.bits .and .u64 (aD) 4294967295))) - (IntKind.u64.wrap (aF * aA)))) ji8)) else (none)) = some (r1, r2) := by rw [if_neg (show ¬ (false = true) by decide)] at H; exact H
               clear H; have H := H1; clear H1
               by_cases c31 : 0 ≤ ji8
               ·rw [if_pos c31] at H; have c31b0 := eq_true c31; have c31b1 : decide (0 ≤ ji8) = true := decide_eq_true c31; clear c31; obtain ⟨bP, aT⟩ : ∃ j_ : Int, (shr .u64 (IntKind.u64.wrap ((IntKind.u64.wrap ((IntKind.u64.wrap ((IntKind.u64.wrap ((IntKind.u64.wrap ((IntKind.u64.wrap ((Go.bits .or .u64 (aE) (aG)) * 4294967296)) + ((aD) / 4294967296))) - (IntKind.u64.wrap (aC * aA)))) * 4294967296)) + (Go.bits .and .u64 (aD) 4294967295))) - (IntKind.u64.wrap (aF * aA)))) ji8) = j_ := ⟨_, rfl⟩
                replace H : (some (IntKind.u64.wrap ((IntKind.u64.wrap (aC * 4294967296)) + aF), bP)) = some (r1, r2) := by first | (rw [aT] at H; exact H) | (simp only [aT] at H ⊢; exact H)
                have hji32_ : ((IntKind.u64.wrap ((IntKind.u64.wrap ((IntKind.u64.wrap ((IntKind.u64.wrap ((IntKind.u64.wrap ((IntKind.u64.wrap ((Go.bits .or .u64 (aE) (aG)) * 4294967296)) + ((aD) / 4294967296))) - (IntKind.u64.wrap (aC * aA)))) * 4294967296)) + (Go.bits .and .u64 (aD) 4294967295))) - (IntKind.u64.wrap (aF * aA)))) / 2 ^ min ji8.toNat 64) = bP := aT; have hji32z : ji8 ≤ 64 → ((IntKind.u64.wrap ((IntKind.u64.wrap ((IntKind.u64.wrap ((IntKind.u64.wrap ((IntKind.u64.wrap ((IntKind.u64.wrap ((Go.bits .or .u64 (aE) (aG)) * 4294967296)) + ((aD) / 4294967296))) - (IntKind.u64.wrap (aC * aA)))) * 4294967296)) + (Go.bits .and .u64 (aD) 4294967295))) - (IntKind.u64.wrap (aF * aA)))) / 2 ^ ji8.toNat) = bP := shr_small aT; simp only [Option.some.injEq, Prod.mk.injEq] at H; obtain ⟨rfl, rfl⟩ := H
                go_wp2
                repeat (go_quiet (fail); try go_wp2)
                go_ret2
                exact ⟨by first | rfl | (simp; done) | (simp only [← bF, ← aH, ← aN, ← aV, ← aM, ← aL, ← aT] <;> (first | rfl | simp)) | (simp [*]; done), by repeat (first | exact Drawn0.refl _ | apply Drawn0.step)⟩
               ·rw [if_neg c31] at H; exact absurd H (by simp)
     ·rw [if_neg c14] at H; exact absurd H (by simp)
    ·rw [if_neg c9] at H; exact absurd H (by simp)
end Go.Proofs.Ytoghjpoblbdnpaa.P

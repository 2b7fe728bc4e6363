/- What printed functions come to, and that the machine's calls do it. No condition. -/
import Derived.Test.YtnnphpgpnmlppaaPBitsAdd64
import Derived.Test.YtnnphpgpnmlppaaPBitsDiv64
namespace Go.Proofs.Ytnnphpgpnmlppaa.P
set_option maxHeartbeats 8000000
set_option maxRecDepth 100000
open Go.RowKit Go.Proofs.YtnnphpgpnmlppaaW.PrintWords Go.Proofs.YtnnphpgpnmlppaaW.PrintLast Go.Proofs.YtnnphpgpnmlppaaW.PrintMore
attribute [local go_sem] max2_int min2_int max_two min_two max_three min_three max_four min_four Go.Proofs.YtnnphpgpnmlppaaW.Hw.string_gtr
set_option linter.unusedVariables false
set_option linter.unusedSimpArgs false
def ratio_MulDiv.j0 : Nat → Int → Int → Int → Bool → Option (Int × Int)
 | 0, _, _, _, _ => none
 | k + 1, x0, x1, x2, x21 => if x21 = true then (some (0, 1)) else ((bits_Mul64.f (IntKind.u64.wrap (x0)) (IntKind.u64.wrap (x1))).bind fun aC => (if aC.1 ≥ (IntKind.u64.wrap (x2)) then (some (0, 8)) else ((bits_Div64.f k aC.1 aC.2 (IntKind.u64.wrap (x2))).bind fun aA => (if aA.1 > 4611686018427387904 then (some (0, 8)) else (some (wrap64 (aA.1), 0))))))
def ratio_MulDiv.f (k : Nat) (a0 : Int) (a1 : Int) (a2 : Int) : Option (Int × Int) := if a0 < 0 then (ratio_MulDiv.j0 k a0 a1 a2 true) else (if a1 < 0 then (ratio_MulDiv.j0 k a0 a1 a2 true) else (ratio_MulDiv.j0 k a0 a1 a2 (decide (a2 < 1))))
theorem ratio_MulDiv.mono_l : ∀ k, (∀ y0 y1 y2 y3, LeO (ratio_MulDiv.j0 k y0 y1 y2 y3) (ratio_MulDiv.j0 (k + 1) y0 y1 y2 y3))
 | 0 => fun _ _ _ _ r h => by simp [ratio_MulDiv.j0] at h
 | k + 1 => by
  have ih0 := ratio_MulDiv.mono_l k
  ·intro y0 y1 y2 y3
   unfold ratio_MulDiv.j0
   with_reducible repeat' first | exact ih0 _ _ _ _ | exact bits_Div64.mono _ _ _ _ | exact LeO.refl _ | exact LeO.none _ | refine LeO.ite ?_ ?_ | refine LeO.bind ?_ (fun _ => ?_)
theorem ratio_MulDiv.mono : ∀ a0 a1 a2 k, LeO (ratio_MulDiv.f k a0 a1 a2) (ratio_MulDiv.f (k + 1) a0 a1 a2) := by
 intro a0 a1 a2 k; have ih0 := ratio_MulDiv.mono_l k
 unfold ratio_MulDiv.f
 with_reducible repeat' first | exact ih0 _ _ _ _ | exact bits_Div64.mono _ _ _ _ | exact LeO.refl _ | exact LeO.none _ | refine LeO.ite ?_ ?_ | refine LeO.bind ?_ (fun _ => ?_)
theorem ratio_MulDiv.calls (k : Nat) (a0 : Int) (a1 : Int) (a2 : Int) (r1 : Int) (r2 : Int) (w : World) (h : ratio_MulDiv.f k a0 a1 a2 = some (r1, r2)) :
  Calls Try.prog 9 #[.int .i64 a0, .int .i64 a1, .int .i64 a2] w fun e w' => e = .returned (.tuple #[.int .i64 r1, .int .i64 r2]) ∧ Drawn0 w w' := by
 have H : (if a0 < 0 then (ratio_MulDiv.j0 k a0 a1 a2 true) else (if a1 < 0 then (ratio_MulDiv.j0 k a0 a1 a2 true) else (ratio_MulDiv.j0 k a0 a1 a2 (decide (a2 < 1))))) = some (r1, r2) := h; clear h; have HC4 := Zq_.mk H; clear H
 go_enter Try.func9, Try.ntmps9
 go_upto_region 1 with (fail)
 go_cut [21] (fun v21 wc => ∃ (kq : Nat) (aF : Bool), v21 = .bool aF ∧ Zq_ (ratio_MulDiv.j0 kq a0 a1 a2 aF = some (r1, r2)) ∧ Zq_ (kq ≤ k) ∧ Drawn0 w wc)
 case first =>
  have H := HC4.out; clear HC4
  by_cases c5 : a0 < 0
  ·rw [if_pos c5] at H; have aG : decide (a0 < 0) = true := decide_eq_true c5; clear c5; (first | rw [aG] | (simp only [i64_w, i32_w]; rw [aG]) | skip); have H' := Zq_.mk H; clear H
   go_wp2
   go_meet
   case rel => exact ⟨_, (true), eS_, H', ⟨by first | omega | exact Nat.le_refl _⟩, by repeat (first | exact Drawn0.refl _ | apply Drawn0.step)⟩
  ·rw [if_neg c5] at H; have aG : decide (a0 < 0) = false := decide_eq_false c5; clear c5; (first | rw [aG] | (simp only [i64_w, i32_w]; rw [aG]) | skip)
   by_cases c6 : a1 < 0
   ·rw [if_pos c6] at H; have aI : decide (a1 < 0) = true := decide_eq_true c6; clear c6; have H' := Zq_.mk H; clear H
    go_wp2
    go_meet
    case rel => exact ⟨_, (true), eS_, H', ⟨by first | omega | exact Nat.le_refl _⟩, by repeat (first | exact Drawn0.refl _ | apply Drawn0.step)⟩
   ·rw [if_neg c6] at H; have aI : decide (a1 < 0) = false := decide_eq_false c6; clear c6; have H' := Zq_.mk H; clear H
    go_wp2
    go_meet
    case rel => exact ⟨_, (decide (a2 < 1)), eS_, H', ⟨by first | omega | exact Nat.le_refl _⟩, by repeat (first | exact Drawn0.refl _ | apply Drawn0.step)⟩
 case rest =>
  clear HC4
  try clear p2
  try clear c5
  try clear aG
  try clear c6
  try clear aI
  obtain ⟨kq, aF, rfl, HA, HJ3, ⟨mc3, rfl⟩⟩ := hcut
  cases kq with
  | zero => exact absurd HA.out (by simp [ratio_MulDiv.j0])
  | succ kj3 =>
   have H := HA.out; clear HA; simp only [ratio_MulDiv.j0] at H
   by_cases c7 : aF = true
   ·subst c7
    have H1 : (some (0, 1)) = some (r1, r2) := by rw [if_pos rfl] at H; exact H
    clear H; have H := H1; clear H1; simp only [Option.some.injEq, Prod.mk.injEq] at H; obtain ⟨rfl, rfl⟩ := H
    go_wp2
    go_ret2
    exact ⟨by first | rfl | (simp; done) | (simp [*]; done), by repeat (first | exact Drawn0.refl _ | apply Drawn0.step)⟩
   ·replace c7 := Bool.eq_false_iff.mpr c7; subst c7
    have H1 : ((bits_Mul64.f (IntKind.u64.wrap (a0)) (IntKind.u64.wrap (a1))).bind fun aC => (if aC.1 ≥ (IntKind.u64.wrap (a2)) then (some (0, 8)) else ((bits_Div64.f kj3 aC.1 aC.2 (IntKind.u64.wrap (a2))).bind fun aA => (if aA.1 > 4611686018427387904 then (some (0, 8)) else (some (wrap64 (aA.1), 0)))))) = some (r1, r2) := by rw [if_neg (show ¬ (false = true) by decide)] at H; exact H
    clear H; have H := H1; clear H1; replace H := ob_ H; obtain ⟨⟨aB, aD⟩, A80, H⟩ := H; replace H : (if aB ≥ (IntKind.u64.wrap (a2)) then (some (0, 8)) else ((bits_Div64.f kj3 aB aD (IntKind.u64.wrap (a2))).bind fun aA => (if aA.1 > 4611686018427387904 then (some (0, 8)) else (some (wrap64 (aA.1), 0))))) = some (r1, r2) := H; have A8 := Zq_.mk A80; clear A80
    by_cases c9 : aB ≥ (IntKind.u64.wrap (a2))
    ·rw [if_pos c9] at H; have c9b0 : decide ((IntKind.u64.wrap (a2)) ≤ aB) = true := decide_eq_true c9; clear c9; simp only [Option.some.injEq, Prod.mk.injEq] at H; obtain ⟨rfl, rfl⟩ := H
     go_wp2_with (first | ((with_reducible refine qb_ (f := 17) rfl ?_); refine goesL_ (some 27) rfl rfl Try.func17 (by kernel_rfl) rfl #[.int .u64 (IntKind.u64.wrap (a0)), .int .u64 (IntKind.u64.wrap (a1))] rfl aR_ ?_; (with_reducible refine (bits_Mul64.calls (IntKind.u64.wrap (a0)) (IntKind.u64.wrap (a1)) aB aD _ A8.out).mono ?_); rintro e w' ⟨rfl, ⟨nd, rfl⟩⟩; refine ⟨_, rfl, ?_⟩))
     go_ret2
     exact ⟨by first | rfl | (simp; done) | (simp [*]; done), by repeat (first | exact Drawn0.refl _ | apply Drawn0.step)⟩
    ·rw [if_neg c9] at H; have c9b0 : decide ((IntKind.u64.wrap (a2)) ≤ aB) = false := decide_eq_false c9; clear c9; replace H := ob_ H; obtain ⟨⟨aE, aH⟩, aK, H⟩ := H; replace H : (if aE > 4611686018427387904 then (some (0, 8)) else (some (wrap64 (aE), 0))) = some (r1, r2) := H; have A10 := Zq_.mk aK; clear aK
     by_cases c11 : aE > 4611686018427387904
     ·rw [if_pos c11] at H; have aJ : decide (4611686018427387904 < aE) = true := decide_eq_true c11; clear c11; simp only [Option.some.injEq, Prod.mk.injEq] at H; obtain ⟨rfl, rfl⟩ := H
      go_wp2_with (first | ((with_reducible refine qb_ (f := 17) rfl ?_); refine goesL_ (some 27) rfl rfl Try.func17 (by kernel_rfl) rfl #[.int .u64 (IntKind.u64.wrap (a0)), .int .u64 (IntKind.u64.wrap (a1))] rfl aR_ ?_; (with_reducible refine (bits_Mul64.calls (IntKind.u64.wrap (a0)) (IntKind.u64.wrap (a1)) aB aD _ A8.out).mono ?_); rintro e w' ⟨rfl, ⟨nd, rfl⟩⟩; refine ⟨_, rfl, ?_⟩) | ((with_reducible refine qb_ (f := 18) rfl ?_); refine goesL_ (some 39) rfl rfl Try.func18 (by kernel_rfl) rfl #[.int .u64 aB, .int .u64 aD, .int .u64 (IntKind.u64.wrap (a2))] rfl aR_ ?_; (with_reducible refine (bits_Div64.calls kj3 aB aD (IntKind.u64.wrap (a2)) aE aH _ A10.out).mono ?_); rintro e w' ⟨rfl, ⟨nd, rfl⟩⟩; refine ⟨_, rfl, ?_⟩))
      go_ret2
      exact ⟨by first | rfl | (simp; done) | (simp [*]; done), by repeat (first | exact Drawn0.refl _ | apply Drawn0.step)⟩
     ·rw [if_neg c11] at H; have aJ : decide (4611686018427387904 < aE) = false := decide_eq_false c11; clear c11; simp only [Option.some.injEq, Prod.mk.injEq] at H; obtain ⟨rfl, rfl⟩ := H
      go_wp2_with (first | ((with_reducible refine qb_ (f := 17) rfl ?_); refine goesL_ (some 27) rfl rfl Try.func17 (by kernel_rfl) rfl #[.int .u64 (IntKind.u64.wrap (a0)), .int .u64 (IntKind.u64.wrap (a1))] rfl aR_ ?_; (with_reducible refine (bits_Mul64.calls (IntKind.u64.wrap (a0)) (IntKind.u64.wrap (a1)) aB aD _ A8.out).mono ?_); rintro e w' ⟨rfl, ⟨nd, rfl⟩⟩; refine ⟨_, rfl, ?_⟩) | ((with_reducible refine qb_ (f := 18) rfl ?_); refine goesL_ (some 39) rfl rfl Try.func18 (by kernel_rfl) rfl #[.int .u64 aB, .int .u64 aD, .int .u64 (IntKind.u64.wrap (a2))] rfl aR_ ?_; (with_reducible refine (bits_Div64.calls kj3 aB aD (IntKind.u64.wrap (a2)) aE aH _ A10.out).mono ?_); rintro e w' ⟨rfl, ⟨nd, rfl⟩⟩; refine ⟨_, rfl, ?_⟩))
      go_ret2
      exact ⟨by first | rfl | (simp; done) | (simp [*]; done), by repeat (first | exact Drawn0.refl _ | apply Drawn0.step)⟩
def ratio_Mean.l0 : Nat → List Int → Int → Int → List Int → Int → Int → Option (Int)
 | 0, _, _, _, _, _, _ => none
 | k + 1, x0, x3, x4, x13, x14, x15 => if x15 < x14 then (if 0 ≤ x15 then (if x15 < (x13.length : Int) then ((ratio_Clamp.f (rd x13 x15) 0 1125899906842624).bind fun aD => ((bits_Add64.f x4 (IntKind.u64.wrap (aD)) 0).bind fun aE => (ratio_Mean.l0 k x0 (IntKind.u64.wrap (x3 + aE.2)) aE.1 x13 x14 (wrap64 (x15 + 1))))) else (none)) else (none)) else ((bits_Div64.f k x3 x4 (IntKind.u64.wrap ((x0.length : Int)))).bind fun aL => (some (wrap64 (aL.1))))
def ratio_Mean.f (k : Nat) (l0 : List Int) : Option (Int) := if (l0.length : Int) = 0 then (some 0) else (ratio_Mean.l0 k l0 0 0 l0 (l0.length : Int) 0)
theorem ratio_Mean.mono_l : ∀ k, (∀ y0 y1 y2 y3 y4 y5, LeO (ratio_Mean.l0 k y0 y1 y2 y3 y4 y5) (ratio_Mean.l0 (k + 1) y0 y1 y2 y3 y4 y5))
 | 0 => fun _ _ _ _ _ _ r h => by simp [ratio_Mean.l0] at h
 | k + 1 => by
  have ih0 := ratio_Mean.mono_l k
  ·intro y0 y1 y2 y3 y4 y5
   unfold ratio_Mean.l0
   with_reducible repeat' first | exact ih0 _ _ _ _ _ _ | exact bits_Div64.mono _ _ _ _ | exact LeO.refl _ | exact LeO.none _ | refine LeO.ite ?_ ?_ | refine LeO.bind ?_ (fun _ => ?_)
theorem ratio_Mean.mono : ∀ a0 k, LeO (ratio_Mean.f k a0) (ratio_Mean.f (k + 1) a0) := by
 intro a0 k; have ih0 := ratio_Mean.mono_l k
 unfold ratio_Mean.f
 with_reducible repeat' first | exact ih0 _ _ _ _ _ _ | exact bits_Div64.mono _ _ _ _ | exact LeO.refl _ | exact LeO.none _ | refine LeO.ite ?_ ?_ | refine LeO.bind ?_ (fun _ => ?_)
theorem ratio_Mean.calls (k : Nat) (A0 : Option Addr) (c0 : Nat) (l0 : List Int) (r : Int) (w : World) (hr0 : Kd.C (Kd.int .i64) w A0 l0.length l0) (hc0 : l0.length ≤ c0) (h : ratio_Mean.f k l0 = some r) :
  Calls Try.prog 11 #[.slice A0 l0.length c0] w fun e w' => e = .returned (.int .i64 r) ∧ Drawn0 w w' := by
 have HR0 := Zq_.mk hr0; have HC0 := Zq_.mk hc0; clear hr0 hc0; have H : (if (l0.length : Int) = 0 then (some 0) else (ratio_Mean.l0 k l0 0 0 l0 (l0.length : Int) 0)) = some r := h; clear h
 by_cases c2 : (l0.length : Int) = 0
 ·rw [if_pos c2] at H; have aK : ((l0.length : Int) == 0) = true := beq_iff_eq.mpr c2; have aJ : ((l0.length : Int) != 0) = false := bne_eq_false_iff_eq.mpr c2; clear c2; obtain rfl := Option.some.inj H
  go_enter Try.func11, Try.ntmps11
  go_wp2
  go_ret
  exact ⟨by first | rfl | (simp; done) | (simp [*]; done), by repeat (first | exact Drawn0.refl _ | apply Drawn0.step)⟩
 ·rw [if_neg c2] at H; have aK : ((l0.length : Int) == 0) = false := beq_eq_false_iff_ne.mpr c2; have aJ : ((l0.length : Int) != 0) = true := bne_iff_ne.mpr c2
  have c2b2 : ¬ (l0 = []) := fun h_ => c2 (by rw [h_]; rfl)
  have H' := Zq_.mk H; clear H
  go_enter Try.func11, Try.ntmps11
  go_wp2
  go_loopg [3, 4, 15] k (fun kq v3 v4 v15 w' => ∃ (aC : Int) (aB : Int) (aA : Int), v3 = .int .u64 aC ∧ v4 = .int .u64 aB ∧ v15 = .int .i64 aA ∧ Zq_ (ratio_Mean.l0 kq l0 aC aB l0 (l0.length : Int) aA = some r) ∧ Zq_ (kq ≤ k) ∧ Drawn0 w w')
  case atStart => exact ⟨(0), (0), (0), eS_, eS_, eS_, H', ⟨Nat.le_refl _⟩, by repeat (first | exact Drawn0.refl _ | apply Drawn0.step)⟩
  case round =>
   clear H'
   try clear c1
   try clear c2
   try clear aK
   try clear aJ
   try clear c2b2
   try clear p2
   obtain ⟨aC, aB, aA, rfl, rfl, rfl, HA, HK1, ⟨m1, rfl⟩⟩ := hrel
   cases gk with
   | zero => exact absurd HA.out (by simp [ratio_Mean.l0])
   | succ k1 =>
    have H := HA.out; clear HA; simp only [ratio_Mean.l0] at H
    by_cases c3 : aA < (l0.length : Int)
    ·rw [if_pos c3] at H; have c3b0 : decide (aA < (l0.length : Int)) = true := decide_eq_true c3; clear c3
     by_cases c4 : 0 ≤ aA
     ·rw [if_pos c4] at H; have c4b0 : decide (0 ≤ aA) = true := decide_eq_true c4; clear c4
      by_cases c5 : aA < (l0.length : Int)
      ·rw [if_pos c5] at H; have c5b0 : decide (aA < (l0.length : Int)) = true := decide_eq_true c5; clear c5; replace H := ob_ H; obtain ⟨aD, A60, H⟩ := H; (try dsimp only at H); have A6 := Zq_.mk A60; clear A60; replace H := ob_ H; obtain ⟨⟨aI, aH⟩, A70, H⟩ := H; (try dsimp only at H); have A7 := Zq_.mk A70; clear A70; have H' := Zq_.mk H; clear H; have aG : 0 ≤ (aA : Int) := dA_; have aF : aA < (l0.length : Int) := dA_; obtain ⟨ad101, e101, hx101_0⟩ := Kd.at_int HR0.out aA aG aF; cases e101; replace aG := eq_true aG; replace aF := eq_true aF
       go_wp2_with (first | ((with_reducible refine qb_ (f := 13) rfl ?_); refine goesL_ (some 22) rfl rfl Try.func13 (by kernel_rfl) rfl #[.int .i64 (rd l0 aA), .int .i64 0, .int .i64 1125899906842624] rfl aR_ ?_; (with_reducible refine (ratio_Clamp.calls (rd l0 aA) 0 1125899906842624 aD _ A6.out).mono ?_); rintro e w' ⟨rfl, ⟨nd, rfl⟩⟩; refine ⟨_, rfl, ?_⟩) | (simp only [bits_Add64.run aB (IntKind.u64.wrap (aD)) 0 aI aH _ A7.out]))
       go_roundg k1
       case measure => have := HK1.out; omega
       case rel => exact ⟨(IntKind.u64.wrap (aC + aH)), (aI), (wrap64 (aA + 1)), eS_, eS_, eS_, H', ⟨by have := HK1.out; omega⟩, by repeat (first | exact Drawn0.refl _ | apply Drawn0.step)⟩
      ·rw [if_neg c5] at H; exact absurd H (by simp)
     ·rw [if_neg c4] at H; exact absurd H (by simp)
    ·rw [if_neg c3] at H; have c3b0 : decide (aA < (l0.length : Int)) = false := decide_eq_false c3; clear c3; replace H := ob_ H; obtain ⟨⟨t105, t106⟩, A80, H⟩ := H; (try dsimp only at H); have A8 := Zq_.mk A80; clear A80; obtain rfl := Option.some.inj H
     go_wp2_with (first | ((with_reducible refine qb_ (f := 18) rfl ?_); refine goesL_ (some 37) rfl rfl Try.func18 (by kernel_rfl) rfl #[.int .u64 aC, .int .u64 aB, .int .u64 (IntKind.u64.wrap ((l0.length : Int)))] rfl aR_ ?_; (with_reducible refine (bits_Div64.calls k1 aC aB (IntKind.u64.wrap ((l0.length : Int))) t105 t106 _ A8.out).mono ?_); rintro e w' ⟨rfl, ⟨nd, rfl⟩⟩; refine ⟨_, rfl, ?_⟩))
     go_ret
     exact ⟨by first | rfl | (simp; done) | (simp [*]; done), by repeat (first | exact Drawn0.refl _ | apply Drawn0.step)⟩
def law09_alive.f (k : Nat)  : Option (Bool) := (ratio_MulDiv.f k 1099511627776 1099511627776 1073741824).bind fun aC => ((ratio_MulDiv.f k 1099511627776 1099511627776 3).bind fun aH => (if aC.1 = 1125899906842624 then (if aC.2 = 0 then (if aH.2 = 8 then ((ratio_Mean.f k (([1, 2, 4] : List Int))).bind fun aB => (if aB = 2 then ((ratio_Clamp.f 9 1 5).bind fun aA => (if aA = 5 then ((ratio_Cmp.f k 1 2 1 3).bind fun aE => (some (aE == 1))) else (some false))) else (some false))) else (some false)) else (some false)) else (some false)))
theorem law09_alive.mono : ∀ k, LeO (law09_alive.f k ) (law09_alive.f (k + 1) ) := by
 intro  k
 unfold law09_alive.f
 with_reducible repeat' first | exact ratio_Cmp.mono _ _ _ _ _ | exact ratio_Mean.mono _ _ | exact ratio_MulDiv.mono _ _ _ _ | exact LeO.refl _ | exact LeO.none _ | refine LeO.ite ?_ ?_ | refine LeO.bind ?_ (fun _ => ?_)
theorem law09_alive.yes (k : Nat) (r : Bool) (h : law09_alive.f k = some r) : r = true := by
 have h60 : law09_alive.f 60 = some true := by decide +kernel
 rcases Nat.le_total k 60 with hk | hk
 ·have := at_rounds (fun k => law09_alive.mono k) hk h; rw [h60] at this; exact (Option.some.inj this).symm
 ·have := at_rounds (fun k => law09_alive.mono k) hk h60; rw [h] at this; exact Option.some.inj this
theorem law09_alive.calls (k : Nat)  (r : Bool) (w : World) (h : law09_alive.f k  = some r) :
  Calls Try.prog 8 #[] w fun e w' => e = .returned (.bool r) ∧ Below w.heap.size w w' := by
 have HRT := Zq_.mk (law09_alive.yes k r h); have HB := Zq_.mk (Below.refl w.heap.size w); have H : ((ratio_MulDiv.f k 1099511627776 1099511627776 1073741824).bind fun aC => ((ratio_MulDiv.f k 1099511627776 1099511627776 3).bind fun aH => (if aC.1 = 1125899906842624 then (if aC.2 = 0 then (if aH.2 = 8 then ((ratio_Mean.f k (([1, 2, 4] : List Int))).bind fun aB => (if aB = 2 then ((ratio_Clamp.f 9 1 5).bind fun aA => (if aA = 5 then ((ratio_Cmp.f k 1 2 1 3).bind fun aE => (some (aE == 1))) else (some false))) else (some false))) else (some false)) else (some false)) else (some false)))) = some r := h; clear h; replace H := ob_ H; obtain ⟨⟨aK, aJ⟩, A10, H⟩ := H; (try dsimp only at H); have A1 := Zq_.mk A10; clear A10; replace H := ob_ H; obtain ⟨⟨t103, aI⟩, A20, H⟩ := H; (try dsimp only at H); have A2 := Zq_.mk A20; clear A20
 by_cases c3 : aK = 1125899906842624
 ·rw [if_pos c3] at H; have c3b0 : (aK == 1125899906842624) = true := beq_iff_eq.mpr c3; have c3b1 : (aK != 1125899906842624) = false := bne_eq_false_iff_eq.mpr c3; clear c3
  by_cases c4 : aJ = 0
  ·rw [if_pos c4] at H; have c4b0 : (aJ == 0) = true := beq_iff_eq.mpr c4; have c4b1 : (aJ != 0) = false := bne_eq_false_iff_eq.mpr c4; clear c4
   by_cases c5 : aI = 8
   ·rw [if_pos c5] at H; have c5b0 : (aI == 8) = true := beq_iff_eq.mpr c5; have c5b1 : (aI != 8) = false := bne_eq_false_iff_eq.mpr c5; clear c5; obtain ⟨aM, aF⟩ : ∃ y_ : List Int, y_ = (([1, 2, 4] : List Int)) := ⟨_, rfl⟩
    replace H : ((ratio_Mean.f k aM).bind fun aB => (if aB = 2 then ((ratio_Clamp.f 9 1 5).bind fun aA => (if aA = 5 then ((ratio_Cmp.f k 1 2 1 3).bind fun aE => (some (aE == 1))) else (some false))) else (some false))) = some r := hY_ aF H
    have aL := Zq_.mk aF; clear aF; replace H := ob_ H; obtain ⟨aB, A60, H⟩ := H; (try dsimp only at H); have A6 := Zq_.mk A60; clear A60
    by_cases c7 : aB = 2
    ·rw [if_pos c7] at H; have c7b0 : (aB == 2) = true := beq_iff_eq.mpr c7; have c7b1 : (aB != 2) = false := bne_eq_false_iff_eq.mpr c7; clear c7; replace H := ob_ H; obtain ⟨aA, A80, H⟩ := H; (try dsimp only at H); have A8 := Zq_.mk A80; clear A80
     by_cases c9 : aA = 5
     ·rw [if_pos c9] at H; have c9b0 : (aA == 5) = true := beq_iff_eq.mpr c9; have c9b1 : (aA != 5) = false := bne_eq_false_iff_eq.mpr c9; clear c9; replace H := ob_ H; obtain ⟨aE, aN, H⟩ := H; (try dsimp only at H); have A10 := Zq_.mk aN; clear aN; obtain rfl := Option.some.inj H
      go_enter Try.func8, Try.ntmps8
      go_wp2_with (first | ((with_reducible refine qb_ (f := 9) rfl ?_); refine goesL_ (some 6) rfl rfl Try.func9 (by kernel_rfl) rfl #[.int .i64 1099511627776, .int .i64 1099511627776, .int .i64 1073741824] rfl aR_ ?_; (with_reducible refine (ratio_MulDiv.calls k 1099511627776 1099511627776 1073741824 aK aJ _ A1.out).mono ?_); rintro e w' ⟨rfl, ⟨nd, rfl⟩⟩; refine ⟨_, rfl, ?_⟩) | ((with_reducible refine qb_ (f := 9) rfl ?_); refine goesL_ (some 10) rfl rfl Try.func9 (by kernel_rfl) rfl #[.int .i64 1099511627776, .int .i64 1099511627776, .int .i64 3] rfl aR_ ?_; (with_reducible refine (ratio_MulDiv.calls k 1099511627776 1099511627776 3 t103 aI _ A2.out).mono ?_); rintro e w' ⟨rfl, ⟨nd, rfl⟩⟩; refine ⟨_, rfl, ?_⟩) | ((with_reducible refine gate_dst (N := 24) rfl ?_); (try (refine gate_guard (by rfl) ?_; dsimp only)); refine Kd.R_lit (Kd.int .i64) _ 3 ?hg (N := 24) ?hd (xs := ([1, 2, 4] : List Int)) (inner := [.int .i64 1, .int .i64 2, .int .i64 4]) (ok := fun _ => True) (okp := fun _ => True) ?hr ?hp (fun _ hk => hk) trivial (Below.refl _ _) (Nat.le_refl _) (by simp) ?_; (case hd => rfl); (case hg => rfl); (case hr => first | (go_simp; done) | (go_simp; rfl)); (case hp => exact (Reps.one (show Kd.M (Kd.int .i64) _ _ _ 1 [.int .i64 1] from rfl) (Reps.one (show Kd.M (Kd.int .i64) _ _ _ 2 [.int .i64 2] from rfl) (Reps.one (show Kd.M (Kd.int .i64) _ _ _ 4 [.int .i64 4] from rfl) (Reps.none _ _))))); intro v106 w11 aG hb hg_ hnew_; clear hg_ hnew_; (first | rw [← aL.out] at aG | (simp only [Int.reduceToNat] at aG; rw [← aL.out] at aG)); have aD := Zq_.mk (Kd.R_lower aG (below_size (hB_ HB))); replace HB := sB_ HB hb; clear hb aG; obtain ⟨Ao13, co13, eo13⟩ := Kd.R_slice aD.out; subst eo13) | (go_at_call 11; (with_reducible refine (ratio_Mean.calls k _ _ aM aB _ ?side1 ?side2 A6.out).mono ?_); (case side1 => exact cX_ ((Kd.R_reads' aD.out).2.2)); (case side2 => exact (Kd.R_reads' aD.out).2.1); rintro e w' ⟨rfl, ⟨nd, rfl⟩⟩) | (go_at_call 13; (with_reducible refine (ratio_Clamp.calls 9 1 5 aA _ A8.out).mono ?_); rintro e w' ⟨rfl, ⟨nd, rfl⟩⟩) | (go_at_call 15; (with_reducible refine (ratio_Cmp.calls k 1 2 1 3 aE _ A10.out).mono ?_); rintro e w14 ⟨rfl, hb⟩; replace aD := vV_ Kd.R_below aD hb; replace HB := sB_ HB hb; (try clear hb)))
      go_ret
      exact ⟨by exact eW_, hB_ HB⟩
     ·rw [if_neg c9] at H; exact absurd ((Option.some.inj H).trans HRT.out) (by decide)
    ·rw [if_neg c7] at H; exact absurd ((Option.some.inj H).trans HRT.out) (by decide)
   ·rw [if_neg c5] at H; exact absurd ((Option.some.inj H).trans HRT.out) (by decide)
  ·rw [if_neg c4] at H; exact absurd ((Option.some.inj H).trans HRT.out) (by decide)
 ·rw [if_neg c3] at H; exact absurd ((Option.some.inj H).trans HRT.out) (by decide)
end Go.Proofs.Ytnnphpgpnmlppaa.P

/- What this function of the program comes to, and that the machine's call does it. No condition. -/
import Derived.Test.YtgipbmjkgciccaaPApiEntry61
import Derived.Test.YtgipbmjkgciccaaPRef06Copy
import Derived.Test.YtgipbmjkgciccaaPRef06Great
namespace Go.Proofs.Ytgipbmjkgciccaa.P
set_option maxHeartbeats 8000000
set_option maxRecDepth 100000
open Go.RowKit Go.Proofs.YtgipbmjkgciccaaW.PrintWords Go.Proofs.YtgipbmjkgciccaaW.PrintLast Go.Proofs.YtgipbmjkgciccaaW.PrintMore
attribute [local go_sem] qz_ qx_ vf_ ve_ qr_ qq_ qy_ qw_ Go.Proofs.YtgipbmjkgciccaaW.Hw.string_gtr
set_option linter.unusedVariables false
set_option linter.unusedSimpArgs false
section
attribute [local go_sem high] eqA58
def ref04_Same.l0 : Nat → List (S58) → List (S58) → Int → Option (Bool)
 | 0, _, _, _ => none
 | k + 1, x0, x1, x5 => if x5 < (x0.length : Int) then (if 0 ≤ x5 then (if x5 < (x1.length : Int) then (if (!(((rd_T58 x0 x5).f0) == ((rd_T58 x1 x5).f0)) || (!(((rd_T58 x0 x5).f1) == ((rd_T58 x1 x5).f1)) || (!((((rd_T58 x0 x5).f2).toList) == (((rd_T58 x1 x5).f2).toList))))) = true then (some false) else (ref04_Same.l0 k x0 x1 (wrap64 (x5 + 1)))) else (none)) else (none)) else (some true)
def ref04_Same.f (k : Nat) (l0 : List (S58)) (l1 : List (S58)) : Option (Bool) := if (l0.length : Int) = (l1.length : Int) then (ref04_Same.l0 k l0 l1 0) else (some false)
theorem ref04_Same.mono_l : ∀ k, (∀ y0 y1 y2, LeO (ref04_Same.l0 k y0 y1 y2) (ref04_Same.l0 (k + 1) y0 y1 y2))
 | 0 => fun _ _ _ r h => by simp [ref04_Same.l0] at h
 | k + 1 => by
  have ih0 := ref04_Same.mono_l k
  ·intro y0 y1 y2
   unfold ref04_Same.l0
   repeat' first
   | (with_reducible exact ih0 _ _ _)
   | (with_reducible exact LeO.refl _)
   | (with_reducible exact LeO.none _)
   | (with_reducible refine LeO.ite ?_ ?_)
   | (with_reducible refine LeO.bind ?_ (fun _ => ?_))
   | exact ih0 _ _ _
   | exact LeO.none _
   | refine LeO.ite ?_ ?_
   | refine LeO.bind ?_ (fun _ => ?_)
theorem ref04_Same.mono : ∀ a0 a1 k, LeO (ref04_Same.f k a0 a1) (ref04_Same.f (k + 1) a0 a1) := by
 intro a0 a1 k; have ih0 := ref04_Same.mono_l k
 unfold ref04_Same.f
 repeat' first
   | (with_reducible exact ih0 _ _ _)
   | (with_reducible exact LeO.refl _)
   | (with_reducible exact LeO.none _)
   | (with_reducible refine LeO.ite ?_ ?_)
   | (with_reducible refine LeO.bind ?_ (fun _ => ?_))
   | exact ih0 _ _ _
   | exact LeO.none _
   | refine LeO.ite ?_ ?_
   | refine LeO.bind ?_ (fun _ => ?_)
theorem ref04_Same.calls (k : Nat) (A0 : Option Addr) (c0 : Nat) (l0 : List (S58)) (A1 : Option Addr) (c1 : Nat) (l1 : List (S58)) (r : Bool) (w : World) (hr0 : Kd.C k58 w A0 l0.length l0) (hc0 : l0.length ≤ c0) (hr1 : Kd.C k58 w A1 l1.length l1) (hc1 : l1.length ≤ c1) (h : ref04_Same.f k l0 l1 = some r) :
  Calls Try.prog 59 #[.slice A0 l0.length c0, .slice A1 l1.length c1] w fun e w' => e = .returned (.bool r) ∧ Drawn0 w w' := by
 have hu58 := Try.underlying58; have HR0 := Zq_.mk hr0; have HC0 := Zq_.mk hc0; clear hr0 hc0; have HR1 := Zq_.mk hr1; have HC1 := Zq_.mk hc1; clear hr1 hc1; have H : (if (l0.length : Int) = (l1.length : Int) then (ref04_Same.l0 k l0 l1 0) else (some false)) = some r := h; clear h
 by_cases c3 : (l0.length : Int) = (l1.length : Int)
 ·rw [if_pos c3] at H; have bD : ((l0.length : Int) == (l1.length : Int)) = true := beq_iff_eq.mpr c3; have bC : ((l0.length : Int) != (l1.length : Int)) = false := bne_eq_false_iff_eq.mpr c3
  have bP : (l0.length == l1.length) = true := by first | simpa using c3 | (simp at c3 ⊢; omega)
  clear c3; have H' := Zq_.mk H; clear H
  go_enter Try.func59, Try.ntmps59
  go_wp2
  repeat (go_quiet (fail); try go_wp2)
  go_loopg [5] k (fun kq v5 w' => ∃ (aA : Int), v5 = .int .i64 aA ∧ Zq_ (ref04_Same.l0 kq l0 l1 aA = some r) ∧ Zq_ (kq ≤ k) ∧ Drawn0 w w')
  case atStart => exact ⟨(0), eS_, H', ⟨Nat.le_refl _⟩, by repeat (first | exact Drawn0.refl _ | apply Drawn0.step)⟩
  case round =>
   clear H'
   try clear c1
   try clear p2
   try clear c3
   try clear bD
   try clear bC
   try clear bP
   obtain ⟨aA, rfl, HA, HK1, ⟨m1, rfl⟩⟩ := hrel
   cases gk with
   | zero => exact absurd HA.out (by simp [ref04_Same.l0])
   | succ k1 =>
    have H := HA.out; clear HA; simp only [ref04_Same.l0] at H
    by_cases c4 : aA < (l0.length : Int)
    ·rw [if_pos c4] at H; have bO : decide (aA < (l0.length : Int)) = true := decide_eq_true c4; clear c4
     by_cases c5 : 0 ≤ aA
     ·rw [if_pos c5] at H; have c5b0 : decide (0 ≤ aA) = true := decide_eq_true c5; clear c5
      by_cases c6 : aA < (l1.length : Int)
      ·rw [if_pos c6] at H; have c6b0 : decide (aA < (l1.length : Int)) = true := decide_eq_true c6; clear c6
       by_cases c7 : (!(((rd_T58 l0 aA).f0) == ((rd_T58 l1 aA).f0)) || (!(((rd_T58 l0 aA).f1) == ((rd_T58 l1 aA).f1)) || (!((((rd_T58 l0 aA).f2).toList) == (((rd_T58 l1 aA).f2).toList))))) = true
       ·rw [if_pos c7] at H; have c7b0 : (!(((rd_T58 l0 aA).f0) == ((rd_T58 l1 aA).f0)) || (!(((rd_T58 l0 aA).f1) == ((rd_T58 l1 aA).f1)) || (!((((rd_T58 l0 aA).f2).toList) == (((rd_T58 l1 aA).f2).toList))))) = true := c7; clear c7; obtain rfl := Option.some.inj H; have aS : 0 ≤ (aA : Int) := dA_; have aQ : aA < (l0.length : Int) := dA_; obtain ⟨bR, bN, bB, bA, aZ⟩ := at_T58 HR0.out aA aS aQ; cases bN; replace aS := eq_true aS; replace aQ := eq_true aQ; have aR : 0 ≤ (aA : Int) := dA_; have aP : aA < (l1.length : Int) := dA_; obtain ⟨bQ, bM, aY, aX, aW⟩ := at_T58 HR1.out aA aR aP; cases bM; replace aR := eq_true aR; replace aP := eq_true aP
        go_wp2
        repeat (go_quiet (fail); try go_wp2)
        go_ret
        exact ⟨by first | rfl | (simp; done) | (simp [*]; done), by repeat (first | exact Drawn0.refl _ | apply Drawn0.step)⟩
       ·rw [if_neg c7] at H
        have c7b0 : (!(((rd_T58 l0 aA).f0) == ((rd_T58 l1 aA).f0)) || (!(((rd_T58 l0 aA).f1) == ((rd_T58 l1 aA).f1)) || (!((((rd_T58 l0 aA).f2).toList) == (((rd_T58 l1 aA).f2).toList))))) = false := by simpa using c7
        clear c7; have H' := Zq_.mk H; clear H; have aS : 0 ≤ (aA : Int) := dA_; have aQ : aA < (l0.length : Int) := dA_; obtain ⟨bR, bN, bB, bA, aZ⟩ := at_T58 HR0.out aA aS aQ; cases bN; replace aS := eq_true aS; replace aQ := eq_true aQ; have aR : 0 ≤ (aA : Int) := dA_; have aP : aA < (l1.length : Int) := dA_; obtain ⟨bQ, bM, aY, aX, aW⟩ := at_T58 HR1.out aA aR aP; cases bM; replace aR := eq_true aR; replace aP := eq_true aP
        go_wp2
        repeat (go_quiet (fail); try go_wp2)
        go_roundg k1
        case measure => have := HK1.out; omega
        case rel => exact ⟨(wrap64 (aA + 1)), eS_, H', ⟨by have := HK1.out; omega⟩, by repeat (first | exact Drawn0.refl _ | apply Drawn0.step)⟩
      ·rw [if_neg c6] at H; exact absurd H (by simp)
     ·rw [if_neg c5] at H; exact absurd H (by simp)
    ·rw [if_neg c4] at H; have bO : decide (aA < (l0.length : Int)) = false := decide_eq_false c4; clear c4; obtain rfl := Option.some.inj H
     go_wp2
     repeat (go_quiet (fail); try go_wp2)
     go_ret
     exact ⟨by first | rfl | (simp; done) | (simp [*]; done), by repeat (first | exact Drawn0.refl _ | apply Drawn0.step)⟩
 ·rw [if_neg c3] at H; have bD : ((l0.length : Int) == (l1.length : Int)) = false := beq_eq_false_iff_ne.mpr c3; have bC : ((l0.length : Int) != (l1.length : Int)) = true := bne_iff_ne.mpr c3
  have bP : (l0.length == l1.length) = false := by first | simpa using c3 | (simp at c3 ⊢; omega)
  obtain rfl := Option.some.inj H
  go_enter Try.func59, Try.ntmps59
  go_wp2
  repeat (go_quiet (fail); try go_wp2)
  go_ret
  exact ⟨by first | rfl | (simp; done) | (simp [*]; done), by repeat (first | exact Drawn0.refl _ | apply Drawn0.step)⟩
def ref05_Same.f (k : Nat) (aE : Int) (aD : Int) (aF : List (S58)) (aL : Int) (aK : Int) (aO : List (S58)) : Option (Bool) := if aE = aL then (if aD = aK then ((ref04_Same.f k aF aO).bind fun aT => (some aT)) else (some false)) else (some false)
theorem ref05_Same.mono : ∀ a0 a1 a2 a3 a4 a5 k, LeO (ref05_Same.f k a0 a1 a2 a3 a4 a5) (ref05_Same.f (k + 1) a0 a1 a2 a3 a4 a5) := by
 intro a0 a1 a2 a3 a4 a5 k
 unfold ref05_Same.f
 repeat' first
   | (with_reducible exact ref04_Same.mono _ _ _)
   | (with_reducible exact LeO.refl _)
   | (with_reducible exact LeO.none _)
   | (with_reducible refine LeO.ite ?_ ?_)
   | (with_reducible refine LeO.bind ?_ (fun _ => ?_))
   | exact ref04_Same.mono _ _ _
   | exact LeO.none _
   | refine LeO.ite ?_ ?_
   | refine LeO.bind ?_ (fun _ => ?_)
theorem ref05_Same.calls (k : Nat) (aE : Int) (aD : Int) (aJ : Option Addr) (aI : Nat) (aF : List (S58)) (aL : Int) (aK : Int) (aV : Option Addr) (aU : Nat) (aO : List (S58)) (r : Bool) (w : World) (bF : Kd.C k58 w aJ aF.length aF) (bH : aF.length ≤ aI) (bE : Kd.C k58 w aV aO.length aO) (bG : aO.length ≤ aU) (h : ref05_Same.f k aE aD aF aL aK aO = some r) :
  Calls Try.prog 38 #[.agg #[.int .i64 aE, .int .i64 aD, .slice aJ aF.length aI], .agg #[.int .i64 aL, .int .i64 aK, .slice aV aO.length aU]] w fun e w' => e = .returned (.bool r) ∧ Below w.heap.size w w' := by
 have hu35 := Try.underlying35; have bT := Zq_.mk bF; have bV := Zq_.mk bH; clear bF bH; have bS := Zq_.mk bE; have bU := Zq_.mk bG; clear bE bG; have HB := Zq_.mk (Below.refl w.heap.size w); have H : (if aE = aL then (if aD = aK then ((ref04_Same.f k aF aO).bind fun aT => (some aT)) else (some false)) else (some false)) = some r := h; clear h
 by_cases c3 : aE = aL
 ·rw [if_pos c3] at H; have bD : (aE == aL) = true := beq_iff_eq.mpr c3; have bC : (aE != aL) = false := bne_eq_false_iff_eq.mpr c3; clear c3
  by_cases c4 : aD = aK
  ·rw [if_pos c4] at H; have bO : (aD == aK) = true := beq_iff_eq.mpr c4; have c4b1 : (aD != aK) = false := bne_eq_false_iff_eq.mpr c4; clear c4; replace H := ob_ H; obtain ⟨aT, A50, H⟩ := H; replace H : (some aT) = some r := H; have A5 := Zq_.mk A50; clear A50; obtain rfl := Option.some.inj H
   go_enter Try.func38, Try.ntmps38
   go_wp2_with (first | ((with_reducible refine qe_ (N := 2) rfl ?_); refine bE_ 2 #[.int .i64 aE, .int .i64 aD, .slice aJ aF.length aI] 35 ?_; intro aC hg w6 hbox hb; have aB := Zq_.mk (hbox); have bJ := gW_ (w := w) hg (hB_ HB); have bL := gW_ (w := w) hg (hB_ HB); replace HB := Zq_.mk (qa_ (hB_ HB) hb); clear hb hbox hg) | ((with_reducible refine qe_ (N := 3) rfl ?_); refine bE_ 3 #[.int .i64 aL, .int .i64 aK, .slice aV aO.length aU] 35 ?_; intro aM hg w7 hbox hb; have aN := Zq_.mk (hbox); have bI := gW_ (w := w) hg (by exact hSet_ HB); have bK := gW_ (w := w) hg (by exact hSet_ HB); replace HB := Zq_.mk (qa_ (by exact hSet_ HB) hb); have aH := Zq_.mk ((by rw [hg]; exact Nat.ne_of_lt (blk_lt (g := aC) (o := .cells #[.int .i64 aE, .int .i64 aD, .slice aJ aF.length aI] 35 (0, 0)) (by exact bK_ aB)) : aC ≠ aM)); have aG := Zq_.mk ((by rw [hg]; exact Nat.ne_of_gt (blk_lt (g := aC) (o := .cells #[.int .i64 aE, .int .i64 aD, .slice aJ aF.length aI] 35 (0, 0)) (by exact bK_ aB)) : aM ≠ aC)); replace aB := Zq_.mk (qd_ (g := aC) (o := .cells #[.int .i64 aE, .int .i64 aD, .slice aJ aF.length aI] 35 (0, 0)) (by exact bK_ aB) hb); clear hb hbox hg; have hnb8 := aH.out; have hnc8 := aG.out; obtain ⟨hcz9_0, hcz9_1, hcz9_2⟩ := c3_ aB; obtain ⟨hfz9_0, hfz9_1, hfz9_2⟩ := f3_ aB; obtain ⟨hcz10_0, hcz10_1, hcz10_2⟩ := c3_ aN; obtain ⟨hfz10_0, hfz10_1, hfz10_2⟩ := f3_ aN) | (go_at_call 59; (with_reducible refine (ref04_Same.calls k _ _ aF _ _ aO aT _ ?side1 ?side2 ?side3 ?side4 A5.out).mono ?_); (case side1 => exact cX_ (Kd.qk_ bT.out HB.out)); (case side2 => exact bV.out); (case side3 => exact cX_ (Kd.qk_ bS.out HB.out)); (case side4 => exact bU.out); rintro e w' ⟨rfl, ⟨nd, rfl⟩⟩))
   go_ret
   exact ⟨by exact eW_, by exact hSet_ HB⟩
  ·rw [if_neg c4] at H; have bO : (aD == aK) = false := beq_eq_false_iff_ne.mpr c4; have c4b1 : (aD != aK) = true := bne_iff_ne.mpr c4; obtain rfl := Option.some.inj H
   go_enter Try.func38, Try.ntmps38
   go_wp2_with (first | ((with_reducible refine qe_ (N := 2) rfl ?_); refine bE_ 2 #[.int .i64 aE, .int .i64 aD, .slice aJ aF.length aI] 35 ?_; intro aC hg w11 hbox hb; have aB := Zq_.mk (hbox); have bJ := gW_ (w := w) hg (hB_ HB); have bL := gW_ (w := w) hg (hB_ HB); replace HB := Zq_.mk (qa_ (hB_ HB) hb); clear hb hbox hg) | ((with_reducible refine qe_ (N := 3) rfl ?_); refine bE_ 3 #[.int .i64 aL, .int .i64 aK, .slice aV aO.length aU] 35 ?_; intro aM hg w12 hbox hb; have aN := Zq_.mk (hbox); have bI := gW_ (w := w) hg (by exact hSet_ HB); have bK := gW_ (w := w) hg (by exact hSet_ HB); replace HB := Zq_.mk (qa_ (by exact hSet_ HB) hb); have aH := Zq_.mk ((by rw [hg]; exact Nat.ne_of_lt (blk_lt (g := aC) (o := .cells #[.int .i64 aE, .int .i64 aD, .slice aJ aF.length aI] 35 (0, 0)) (by exact bK_ aB)) : aC ≠ aM)); have aG := Zq_.mk ((by rw [hg]; exact Nat.ne_of_gt (blk_lt (g := aC) (o := .cells #[.int .i64 aE, .int .i64 aD, .slice aJ aF.length aI] 35 (0, 0)) (by exact bK_ aB)) : aM ≠ aC)); replace aB := Zq_.mk (qd_ (g := aC) (o := .cells #[.int .i64 aE, .int .i64 aD, .slice aJ aF.length aI] 35 (0, 0)) (by exact bK_ aB) hb); clear hb hbox hg; have hnb13 := aH.out; have hnc13 := aG.out; obtain ⟨hcz14_0, hcz14_1, hcz14_2⟩ := c3_ aB; obtain ⟨hfz14_0, hfz14_1, hfz14_2⟩ := f3_ aB; obtain ⟨hcz15_0, hcz15_1, hcz15_2⟩ := c3_ aN; obtain ⟨hfz15_0, hfz15_1, hfz15_2⟩ := f3_ aN))
   go_ret
   exact ⟨by exact eW_, by exact hSet_ HB⟩
 ·rw [if_neg c3] at H; have bD : (aE == aL) = false := beq_eq_false_iff_ne.mpr c3; have bC : (aE != aL) = true := bne_iff_ne.mpr c3; obtain rfl := Option.some.inj H
  go_enter Try.func38, Try.ntmps38
  go_wp2_with (first | ((with_reducible refine qe_ (N := 2) rfl ?_); refine bE_ 2 #[.int .i64 aE, .int .i64 aD, .slice aJ aF.length aI] 35 ?_; intro aC hg w16 hbox hb; have aB := Zq_.mk (hbox); have bJ := gW_ (w := w) hg (hB_ HB); have bL := gW_ (w := w) hg (hB_ HB); replace HB := Zq_.mk (qa_ (hB_ HB) hb); clear hb hbox hg) | ((with_reducible refine qe_ (N := 3) rfl ?_); refine bE_ 3 #[.int .i64 aL, .int .i64 aK, .slice aV aO.length aU] 35 ?_; intro aM hg w17 hbox hb; have aN := Zq_.mk (hbox); have bI := gW_ (w := w) hg (by exact hSet_ HB); have bK := gW_ (w := w) hg (by exact hSet_ HB); replace HB := Zq_.mk (qa_ (by exact hSet_ HB) hb); have aH := Zq_.mk ((by rw [hg]; exact Nat.ne_of_lt (blk_lt (g := aC) (o := .cells #[.int .i64 aE, .int .i64 aD, .slice aJ aF.length aI] 35 (0, 0)) (by exact bK_ aB)) : aC ≠ aM)); have aG := Zq_.mk ((by rw [hg]; exact Nat.ne_of_gt (blk_lt (g := aC) (o := .cells #[.int .i64 aE, .int .i64 aD, .slice aJ aF.length aI] 35 (0, 0)) (by exact bK_ aB)) : aM ≠ aC)); replace aB := Zq_.mk (qd_ (g := aC) (o := .cells #[.int .i64 aE, .int .i64 aD, .slice aJ aF.length aI] 35 (0, 0)) (by exact bK_ aB) hb); clear hb hbox hg; have hnb18 := aH.out; have hnc18 := aG.out; obtain ⟨hcz19_0, hcz19_1, hcz19_2⟩ := c3_ aB; obtain ⟨hfz19_0, hfz19_1, hfz19_2⟩ := f3_ aB; obtain ⟨hcz20_0, hcz20_1, hcz20_2⟩ := c3_ aN; obtain ⟨hfz20_0, hfz20_1, hfz20_2⟩ := f3_ aN))
  go_ret
  exact ⟨by exact eW_, by exact hSet_ HB⟩
end
def ref06_Get.l0 : Nat → List (S39) → Int → Int → Option (Int × Int × (List (S58)) × Bool)
 | 0, _, _, _ => none
 | k + 1, x0, x1, x6 => if x6 < (x0.length : Int) then (if 0 ≤ x6 then (if ((rd_T39 x0 x6).f0) = x1 then ((ref05_Copy.f ((rd_T39 x0 x6).f1.f0) ((rd_T39 x0 x6).f1.f1) ((rd_T39 x0 x6).f1.f2)).bind fun aV => (some (aV.1, aV.2.1, aV.2.2, true))) else (ref06_Get.l0 k x0 x1 (wrap64 (x6 + 1)))) else (none)) else (some (0, 0, ([] : List (S58)), false))
def ref06_Get.f (k : Nat) (l0 : List (S39)) (a1 : Int) : Option (Int × Int × (List (S58)) × Bool) := ref06_Get.l0 k l0 a1 0
theorem ref06_Get.mono_l : ∀ k, (∀ y0 y1 y2, LeO (ref06_Get.l0 k y0 y1 y2) (ref06_Get.l0 (k + 1) y0 y1 y2))
 | 0 => fun _ _ _ r h => by simp [ref06_Get.l0] at h
 | k + 1 => by
  have ih0 := ref06_Get.mono_l k
  ·intro y0 y1 y2
   unfold ref06_Get.l0
   repeat' first
   | (with_reducible exact ih0 _ _ _)
   | (with_reducible exact LeO.refl _)
   | (with_reducible exact LeO.none _)
   | (with_reducible refine LeO.ite ?_ ?_)
   | (with_reducible refine LeO.bind ?_ (fun _ => ?_))
   | exact ih0 _ _ _
   | exact LeO.none _
   | refine LeO.ite ?_ ?_
   | refine LeO.bind ?_ (fun _ => ?_)
theorem ref06_Get.mono : ∀ a0 a1 k, LeO (ref06_Get.f k a0 a1) (ref06_Get.f (k + 1) a0 a1) := by
 intro a0 a1 k; have ih0 := ref06_Get.mono_l k
 unfold ref06_Get.f
 repeat' first
   | (with_reducible exact ih0 _ _ _)
   | (with_reducible exact LeO.refl _)
   | (with_reducible exact LeO.none _)
   | (with_reducible refine LeO.ite ?_ ?_)
   | (with_reducible refine LeO.bind ?_ (fun _ => ?_))
   | exact ih0 _ _ _
   | exact LeO.none _
   | refine LeO.ite ?_ ?_
   | refine LeO.bind ?_ (fun _ => ?_)
theorem ref06_Get.calls (k : Nat) (A0 : Option Addr) (c0 : Nat) (l0 : List (S39)) (a1 : Int) (r1 : Int) (r2 : Int) (r3 : List (S58)) (r4 : Bool) (w : World) (hr0 : Kd.C k39 w A0 l0.length l0) (hc0 : l0.length ≤ c0) (h : ref06_Get.f k l0 a1 = some (r1, r2, r3, r4)) :
  Calls Try.prog 17 #[.slice A0 l0.length c0, .int .i64 a1] w fun e w' => ∃ v2_ : Value, e = .returned (.tuple #[.agg #[.int .i64 r1, .int .i64 r2, v2_], .bool r4]) ∧ Kd.R k58 58 w' w.heap.size (fun _ => True) v2_ r3 ∧ Below w.heap.size w w' := by
 have hu35 := Try.underlying35; have HR0 := Zq_.mk hr0; have HC0 := Zq_.mk hc0; clear hr0 hc0; have HB := Zq_.mk (Below.refl w.heap.size w); have H : (ref06_Get.l0 k l0 a1 0) = some (r1, r2, r3, r4) := h; clear h; have H' := Zq_.mk H; clear H
 go_enter Try.func17, Try.ntmps17
 go_wp2_with (first | ((with_reducible refine qe_ (N := 4) rfl ?_); refine bE_ 4 #[.int .i64 0, .int .i64 0, .slice none 0 0] 35 ?_; intro aK hg w3 hbox hb; have aD := Zq_.mk (hbox); have GW101 := gW_ (w := w) hg (hB_ HB); have GE101 := gW_ (w := w) hg (hB_ HB); replace HB := Zq_.mk (qa_ (hB_ HB) hb); clear hb hbox hg))
 go_loopg [6] k (fun kq v6 w' => ∃ (aB : Int) (aC : Int) (aA : Int), v6 = .int .i64 aB ∧ Zq_ (ref06_Get.l0 kq l0 a1 aB = some (r1, r2, r3, r4)) ∧ Zq_ (kq ≤ k) ∧ Zq_ (w'.heap[aK]? = some (.cells #[.int .i64 aC, .int .i64 aA, (.slice none 0 0)] 35 (0, 0))) ∧ Zq_ (Below w.heap.size w w'))
 case atStart => exact ⟨(0), (0), (0), eS_, H', ⟨Nat.le_refl _⟩, ⟨by (with_reducible repeat (first | refine qh_ ?_ _ | refine qf_ ?_ | refine qg_ ?_ _)); exact aD.out⟩, ⟨by exact hSet_ HB⟩⟩
 case round =>
  clear H'
  try clear c1
  try clear p2
  obtain ⟨aB, aC, aA, rfl, HA, HK1, aD, HB⟩ := hrel
  cases gk with
  | zero => exact absurd HA.out (by simp [ref06_Get.l0])
  | succ k1 =>
   have H := HA.out; clear HA; simp only [ref06_Get.l0] at H
   by_cases c4 : aB < (l0.length : Int)
   ·rw [if_pos c4] at H; have c4b0 : decide (aB < (l0.length : Int)) = true := decide_eq_true c4; clear c4
    by_cases c5 : 0 ≤ aB
    ·rw [if_pos c5] at H; have c5b0 : decide (0 ≤ aB) = true := decide_eq_true c5; clear c5
     by_cases c6 : ((rd_T39 l0 aB).f0) = a1
     ·rw [if_pos c6] at H; have c6b0 : (((rd_T39 l0 aB).f0) == a1) = true := beq_iff_eq.mpr c6; have c6b1 : (((rd_T39 l0 aB).f0) != a1) = false := bne_eq_false_iff_eq.mpr c6; clear c6; replace H := ob_ H; obtain ⟨⟨aT, aX, bE⟩, A70, H⟩ := H; replace H : (some (aT, aX, bE, true)) = some (r1, r2, r3, r4) := H; have A7 := Zq_.mk A70; clear A70; simp only [Option.some.injEq, Prod.mk.injEq] at H; obtain ⟨rfl, rfl, rfl, rfl⟩ := H; have aN : 0 ≤ (aB : Int) := dA_; have aM : aB < (l0.length : Int) := dA_; obtain ⟨bC, aW, aU, bH, aH, aG, aF, aE, aI, aJ⟩ := at_T39 HR0.out aB aN aM; cases bH; replace aH := hC_ HB aH; replace aG := hC_ HB aG; replace aF := hC_ HB aF; replace aE := hC_ HB aE; have aZ := Zq_.mk aJ; have bB := Zq_.mk aI; clear aJ aI; replace aN := eq_true aN; replace aM := eq_true aM; have bG : 0 ≤ (aB : Int) := dA_; have bF : aB < (l0.length : Int) := dA_; obtain ⟨bI, A103_3, c103_3, e103, aQ, aP, aO, aL, aR, aS⟩ := at_T39 HR0.out aB bG bF; obtain rfl : bC = bI := (by injection e103); replace aQ := hC_ HB aQ; replace aP := hC_ HB aP; replace aO := hC_ HB aO; replace aL := hC_ HB aL; have aY := Zq_.mk aS; have bA := Zq_.mk aR; clear aS aR; replace bG := eq_true bG; replace bF := eq_true bF; have ea_ := Option.some.inj (aE.symm.trans aL)
      injection ea_ with ea_ en_ ec_
      subst ea_; subst ec_; clear en_
      go_wp2_with (first | ((with_reducible refine qi_ (f := 41) rfl ?_); refine goesL_ (some 25) rfl rfl Try.func41 (by kernel_rfl) rfl #[.agg #[.int .i64 ((rd_T39 l0 aB).f1.f0), .int .i64 ((rd_T39 l0 aB).f1.f1), .slice aW ((rd_T39 l0 aB).f1.f2).length aU]] rfl (by (try simp only [List.map_toArray, List.map_cons, List.map_nil]); first | done | rfl | (simp only [List.length_drop, List.length_take]; rfl)) ?_; (with_reducible refine (ref05_Copy.calls ((rd_T39 l0 aB).f1.f0) ((rd_T39 l0 aB).f1.f1) _ _ ((rd_T39 l0 aB).f1.f2) aT aX bE _ ?side1 ?side2 A7.out).mono ?_); (case side1 => exact cX_ (Kd.qk_ aY.out HB.out)); (case side2 => exact bA.out); rintro e w8 ⟨v107, rfl, ho0, hb⟩; refine ⟨_, rfl, ?_⟩; have bD := Zq_.mk (Kd.vd_ ho0 (qb_ (by exact hSet_ HB))); replace aD := Zq_.mk (qd_ (g := aK) (o := .cells #[.int .i64 aC, .int .i64 aA, .slice none 0 0] 35 (0, 0)) (by exact bK_ aD) hb); replace HB := Zq_.mk (qa_ (by exact hSet_ HB) hb); (try clear hb); (try clear ho0); obtain ⟨hcz9_0, hcz9_1, hcz9_2⟩ := c3_ aD; obtain ⟨hfz9_0, hfz9_1, hfz9_2⟩ := f3_ aD; obtain ⟨Ao10, co10, eo10⟩ := Kd.vh_ bD.out; subst eo10))
      refine bodyPost_ret (results_ct rfl _ _ aK 35 #[.int .i64 aT, .int .i64 aX, .slice Ao10 bE.length co10] (0, 0) _ rfl (by refine bP_ (cs := #[.int .i64 aT, .int .i64 aX, .slice none 0 0]) 2 ?_; refine bP_ (cs := #[.int .i64 aT, .int .i64 aA, .slice none 0 0]) 1 ?_; refine bP_ (cs := #[.int .i64 aC, .int .i64 aA, .slice none 0 0]) 0 ?_; (with_reducible repeat (first | refine qh_ ?_ _ | refine qf_ ?_ | refine qg_ ?_ _)); exact aD.out) Try.underlying35 rfl (by kernel_rfl)) rfl ?_; exact ⟨_, by exact eW_, by (with_reducible repeat (first | apply Kd.qu_ | apply Kd.qt_ | apply Kd.R_drew)); exact Kd.R_mono (Kd.R_far (Kd.R_far (Kd.R_far (Kd.vg_ bD.out aD.out (by decide)) (fun _ hk => hk.2) _) (fun _ hk => hk.2) _) (fun _ hk => hk.2) _) (fun _ hk => trivial), by exact hSet_ HB⟩
     ·rw [if_neg c6] at H; have c6b0 : (((rd_T39 l0 aB).f0) == a1) = false := beq_eq_false_iff_ne.mpr c6; have c6b1 : (((rd_T39 l0 aB).f0) != a1) = true := bne_iff_ne.mpr c6; have H' := Zq_.mk H; clear H; have aN : 0 ≤ (aB : Int) := dA_; have aM : aB < (l0.length : Int) := dA_; obtain ⟨bC, aW, aU, bH, aH, aG, aF, aE, aI, aJ⟩ := at_T39 HR0.out aB aN aM; cases bH; replace aH := hC_ HB aH; replace aG := hC_ HB aG; replace aF := hC_ HB aF; replace aE := hC_ HB aE; have aZ := Zq_.mk aJ; have bB := Zq_.mk aI; clear aJ aI; replace aN := eq_true aN; replace aM := eq_true aM
      go_wp2
      go_roundg k1
      case measure => have := HK1.out; omega
      case rel => exact ⟨(wrap64 (aB + 1)), (aC), (aA), eS_, H', ⟨by have := HK1.out; omega⟩, ⟨by (with_reducible repeat (first | refine qh_ ?_ _ | refine qf_ ?_ | refine qg_ ?_ _)); exact aD.out⟩, ⟨by exact hSet_ HB⟩⟩
    ·rw [if_neg c5] at H; exact absurd H (by simp)
   ·rw [if_neg c4] at H; have c4b0 : decide (aB < (l0.length : Int)) = false := decide_eq_false c4; clear c4; simp only [Option.some.injEq, Prod.mk.injEq] at H; obtain ⟨rfl, rfl, rfl, rfl⟩ := H; have hcz11_0 : wr.cell? ⟨aK, 0, none⟩ = some (.int .i64 aC) := (qc_ aD.out 0).trans rfl; have hcz11_1 : wr.cell? ⟨aK, 1, none⟩ = some (.int .i64 aA) := (qc_ aD.out 1).trans rfl; have hcz11_2 : wr.cell? ⟨aK, 2, none⟩ = some (.slice none 0 0) := (qc_ aD.out 2).trans rfl; obtain ⟨hfz11_0, hfz11_1, hfz11_2⟩ := f3_ aD
    go_wp2
    refine bodyPost_ret (results_ct rfl _ _ aK 35 #[.int .i64 0, .int .i64 0, .slice none 0 0] (0, 0) _ rfl (by refine bP_ (cs := #[.int .i64 0, .int .i64 0, .slice none 0 0]) 2 ?_; refine bP_ (cs := #[.int .i64 0, .int .i64 aA, .slice none 0 0]) 1 ?_; refine bP_ (cs := #[.int .i64 aC, .int .i64 aA, .slice none 0 0]) 0 ?_; (with_reducible repeat (first | refine qh_ ?_ _ | refine qf_ ?_ | refine qg_ ?_ _)); exact aD.out) Try.underlying35 rfl (by kernel_rfl)) rfl ?_; exact ⟨_, by exact eW_, by first | exact Kd.R_nil _ _ _ _ _ | exact Kd.N_nil _ _ _ _ _ | exact Kd.V_nil _ _ _ _ _ | exact Kd.Q_nil _ _ _ _ _ | exact Kd.S_nil _ _ _ _ _, by exact hSet_ HB⟩
def ref06_Without.l0 : Nat → List (S39) → Int → List (S39) → Int → Option ((List (S39)))
 | 0, _, _, _, _ => none
 | k + 1, x0, x1, x5, x6 => if x6 < (x0.length : Int) then (if 0 ≤ x6 then (if ((rd_T39 x0 x6).f0) = x1 then (ref06_Without.l0 k x0 x1 x5 (wrap64 (x6 + 1))) else (if x5.length < 2932031007402 then (ref06_Without.l0 k x0 x1 (x5 ++ [(⟨(rd_T39 x0 x6).f0, (⟨(rd_T39 x0 x6).f1.f0, (rd_T39 x0 x6).f1.f1, (rd_T39 x0 x6).f1.f2⟩ : S35)⟩ : S39)]) (wrap64 (x6 + 1))) else (none))) else (none)) else ((ref06_Copy.f k x5).bind fun bG => (some bG))
def ref06_Without.f (k : Nat) (l0 : List (S39)) (a1 : Int) : Option ((List (S39))) := ref06_Without.l0 k l0 a1 ([] : List (S39)) 0
theorem ref06_Without.mono_l : ∀ k, (∀ y0 y1 y2 y3, LeO (ref06_Without.l0 k y0 y1 y2 y3) (ref06_Without.l0 (k + 1) y0 y1 y2 y3))
 | 0 => fun _ _ _ _ r h => by simp [ref06_Without.l0] at h
 | k + 1 => by
  have ih0 := ref06_Without.mono_l k
  ·intro y0 y1 y2 y3
   unfold ref06_Without.l0
   repeat' first
   | (with_reducible exact ih0 _ _ _ _)
   | (with_reducible exact ref06_Copy.mono _ _)
   | (with_reducible exact LeO.refl _)
   | (with_reducible exact LeO.none _)
   | (with_reducible refine LeO.ite ?_ ?_)
   | (with_reducible refine LeO.bind ?_ (fun _ => ?_))
   | exact ih0 _ _ _ _
   | exact ref06_Copy.mono _ _
   | exact LeO.none _
   | refine LeO.ite ?_ ?_
   | refine LeO.bind ?_ (fun _ => ?_)
theorem ref06_Without.mono : ∀ a0 a1 k, LeO (ref06_Without.f k a0 a1) (ref06_Without.f (k + 1) a0 a1) := by
 intro a0 a1 k; have ih0 := ref06_Without.mono_l k
 unfold ref06_Without.f
 repeat' first
   | (with_reducible exact ih0 _ _ _ _)
   | (with_reducible exact ref06_Copy.mono _ _)
   | (with_reducible exact LeO.refl _)
   | (with_reducible exact LeO.none _)
   | (with_reducible refine LeO.ite ?_ ?_)
   | (with_reducible refine LeO.bind ?_ (fun _ => ?_))
   | exact ih0 _ _ _ _
   | exact ref06_Copy.mono _ _
   | exact LeO.none _
   | refine LeO.ite ?_ ?_
   | refine LeO.bind ?_ (fun _ => ?_)
theorem ref06_Without.calls (k : Nat) (P0_ : Nat → Prop) (A0 : Option Addr) (c0 : Nat) (l0 : List (S39)) (a1 : Int) (r : List (S39)) (w : World) (hs0 : Kd.V k39 39 w w.heap.size (fun k_ => P0_ k_) (.slice A0 l0.length c0) l0) (h : ref06_Without.f k l0 a1 = some r) :
  Calls Try.prog 54 #[.slice A0 l0.length c0, .int .i64 a1] w fun e w' => ∃ v0_ : Value, e = .returned (v0_) ∧ Kd.N k39 39 w' w.heap.size (fun k_ => (P0_ k_ ∨ w.heap.size ≤ k_)) v0_ r ∧ Below w.heap.size w w' := by
 have hu39 := Try.underlying39; have HO0 := Zq_.mk (show Kd.V k39 39 w w.heap.size (fun k_ => (P0_ k_ ∨ w.heap.size ≤ k_)) (.slice A0 l0.length c0) l0 from Kd.V_mono hs0 (fun k_ hk => .inl hk)); have HB := Zq_.mk (Below.refl w.heap.size w); have H : (ref06_Without.l0 k l0 a1 ([] : List (S39)) 0) = some r := h; clear h; have H' := Zq_.mk H; clear H
 go_enter Try.func54, Try.ntmps54
 go_wp2
 go_loopg [5, 6] k (fun kq v5 v6 w' => ∃ (aQ : List (S39)) (aA : Int), v6 = .int .i64 aA ∧ Zq_ (ref06_Without.l0 kq l0 a1 aQ aA = some r) ∧ Zq_ (kq ≤ k) ∧ Zq_ (Kd.V k39 39 w' w.heap.size (fun k_ => (P0_ k_ ∨ w.heap.size ≤ k_) ∧ some k_ ≠ (v5 : Value).ownBlock) (.slice A0 l0.length c0) l0) ∧ Zq_ (Kd.N k39 39 w' w.heap.size (fun k_ => (P0_ k_ ∨ w.heap.size ≤ k_)) v5 aQ) ∧ Zq_ (Below w.heap.size w w'))
 case atStart => exact ⟨(([] : List (S39))), (0), eS_, H', ⟨Nat.le_refl _⟩, ⟨by refine vM_ ?_; exact Kd.V_mono HO0.out (fun _ hk => ⟨hk, (by simp [Value.ownBlock])⟩)⟩, ⟨by first | exact Kd.S_nil _ _ _ _ _ | exact Kd.N_nil _ _ _ _ _ | exact Kd.V_nil _ _ _ _ _ | exact Kd.Q_nil _ _ _ _ _ | exact Kd.R_nil _ _ _ _ _⟩, ⟨hB_ HB⟩⟩
 case round =>
  clear H'
  try clear p2
  obtain ⟨aQ, aA, rfl, HA, HK1, aG, aW, HB⟩ := hrel
  cases gk with
  | zero => exact absurd HA.out (by simp [ref06_Without.l0])
  | succ k1 =>
   have H := HA.out; clear HA; simp only [ref06_Without.l0] at H
   by_cases c3 : aA < (l0.length : Int)
   ·rw [if_pos c3] at H; have c3b0 : decide (aA < (l0.length : Int)) = true := decide_eq_true c3; clear c3
    by_cases c4 : 0 ≤ aA
    ·rw [if_pos c4] at H; have c4b0 : decide (0 ≤ aA) = true := decide_eq_true c4; clear c4
     by_cases c5 : ((rd_T39 l0 aA).f0) = a1
     ·rw [if_pos c5] at H; have c5b0 : (((rd_T39 l0 aA).f0) == a1) = true := beq_iff_eq.mpr c5; have c5b1 : (((rd_T39 l0 aA).f0) != a1) = false := bne_eq_false_iff_eq.mpr c5; clear c5; have H' := Zq_.mk H; clear H; have aU : 0 ≤ (aA : Int) := dA_; have aT : aA < (l0.length : Int) := dA_; obtain ⟨bO, bF, bE, bQ, bL, bK, bJ, aJ, aH, aI⟩ := at_T39 (Kd.V_reads' aG.out).2.2 aA aU aT; cases bQ; obtain ⟨ce101, aZ, hMe101, aN⟩ := Kd.V_get aG.out z39 aA aU (by first | exact aT | exact dA_ | (have e_ := (Kd.V_reads' aG.out).1; omega)); obtain ⟨ua101_3, uc101_3, rfl, aD, aE⟩ := k39_openF hMe101; have aC := aN 3 _ rfl; rw [vi_ _ _ 3 (by omega)] at aC; replace aC := Option.some.inj (aC.symm.trans aJ)
      injection aC with hva_ hvn_ hvc_
      rw [hva_] at aE; rw [hvc_] at aD; have aX := Zq_.mk (show Kd.V k58 58 _ w.heap.size _ _ ((rd_T39 l0 aA).f1.f2) from Kd.V_mk aD aE); clear hva_ hvn_ hvc_ aE aD; clear aN aZ; have bM := Zq_.mk aI; have bN := Zq_.mk aH; clear aI aH; replace aU := eq_true aU; replace aT := eq_true aT
      go_wp2
      go_roundg k1
      case measure => have := HK1.out; omega
      case rel => exact ⟨(aQ), (wrap64 (aA + 1)), eS_, H', ⟨by have := HK1.out; omega⟩, ⟨by refine vM_ ?_; exact aG.out⟩, ⟨by (with_reducible repeat (first | apply Kd.vk_ | apply Kd.vj_ | apply Kd.N_drew)); exact aW.out⟩, ⟨hB_ HB⟩⟩
     ·rw [if_neg c5] at H; have c5b0 : (((rd_T39 l0 aA).f0) == a1) = false := beq_eq_false_iff_ne.mpr c5; have c5b1 : (((rd_T39 l0 aA).f0) != a1) = true := bne_iff_ne.mpr c5
      by_cases c6 : aQ.length < 2932031007402
      ·rw [if_pos c6] at H; have LMc6 := Zq_.mk c6; clear c6; obtain ⟨bR, aY⟩ : ∃ y_ : List (S39), y_ = (aQ ++ [(⟨(rd_T39 l0 aA).f0, (⟨(rd_T39 l0 aA).f1.f0, (rd_T39 l0 aA).f1.f1, (rd_T39 l0 aA).f1.f2⟩ : S35)⟩ : S39)]) := ⟨_, rfl⟩
       replace H : (ref06_Without.l0 k1 l0 a1 bR (wrap64 (aA + 1))) = some r := by first | (rw [aY]; with_reducible exact H) | (have H2_ := (Option.bind_some _ _).symm.trans H; rw [aY]; with_reducible exact H2_) | (have H2_ := (Option.bind_some _ _).symm.trans H; with_reducible exact H2_) | with_reducible exact H | (rw [aY]; exact H) | exact H
       have bT := Zq_.mk aY; clear aY; have H' := Zq_.mk H; clear H; have aU : 0 ≤ (aA : Int) := dA_; have aT : aA < (l0.length : Int) := dA_; obtain ⟨bO, bF, bE, bQ, bL, bK, bJ, aJ, aH, aI⟩ := at_T39 (Kd.V_reads' aG.out).2.2 aA aU aT; cases bQ; obtain ⟨ce101, aZ, hMe101, aN⟩ := Kd.V_get aG.out z39 aA aU (by first | exact aT | exact dA_ | (have e_ := (Kd.V_reads' aG.out).1; omega)); obtain ⟨ua101_3, uc101_3, rfl, aD, aE⟩ := k39_openF hMe101; have aC := aN 3 _ rfl; rw [vi_ _ _ 3 (by omega)] at aC; replace aC := Option.some.inj (aC.symm.trans aJ)
       injection aC with hva_ hvn_ hvc_
       rw [hva_] at aE; rw [hvc_] at aD; have aX := Zq_.mk (show Kd.V k58 58 _ w.heap.size _ _ ((rd_T39 l0 aA).f1.f2) from Kd.V_mk aD aE); clear hva_ hvn_ hvc_ aE aD; clear aN aZ; have bM := Zq_.mk aI; have bN := Zq_.mk aH; clear aI aH; replace aU := eq_true aU; replace aT := eq_true aT; have bI : 0 ≤ (aA : Int) := dA_; have bH : aA < (l0.length : Int) := dA_; obtain ⟨bS, A102_3, c102_3, e102, hx102_0, hx102_1, hx102_2, bA, bB, bC⟩ := at_T39 (Kd.V_reads' aG.out).2.2 aA bI bH; obtain rfl : bO = bS := (by injection e102); obtain ⟨ce102, bP, hMe102, bD⟩ := Kd.V_get aG.out z39 aA bI (by first | exact bH | exact dA_ | (have e_ := (Kd.V_reads' aG.out).1; omega)); obtain ⟨ua102_3, uc102_3, rfl, aR, aV⟩ := k39_openF hMe102; have aK := bD 3 _ rfl; rw [vi_ _ _ 3 (by omega)] at aK; replace aK := Option.some.inj (aK.symm.trans bA)
       injection aK with hva_ hvn_ hvc_
       rw [hva_] at aV; rw [hvc_] at aR; have aM := Zq_.mk (show Kd.V k58 58 _ w.heap.size _ _ ((rd_T39 l0 aA).f1.f2) from Kd.V_mk aR aV); clear hva_ hvn_ hvc_ aV aR; clear bD bP; have HR102_3 := Zq_.mk bC; have HC102_3 := Zq_.mk bB; clear bC bB; replace bI := eq_true bI; replace bH := eq_true bH; have ea_ := Option.some.inj (aJ.symm.trans bA)
       injection ea_ with ea_ en_ ec_
       subst ea_; subst ec_; clear en_
       go_wp2_with (first | ((with_reducible refine qs_ (b := .append) (xs := #[.tmp 20, .tmp 25]) rfl ?_); at_builtin; refine Kd.N_append k39 (w0 := w) w.heap.size rfl (.tmp 20) (.tmp 25) 22 39 (.agg #[(.int .i64 0), (.int .i64 0), (.int .i64 0), (.slice none 0 0)]) 48 rfl Try.underlying22 info39 rfl (by decide) (by omega) u5 aQ (⟨(rd_T39 l0 aA).f0, (⟨(rd_T39 l0 aA).f1.f0, (rd_T39 l0 aA).f1.f1, (rd_T39 l0 aA).f1.f2⟩ : S35)⟩ : S39) [.int .i64 ((rd_T39 l0 aA).f0), .int .i64 ((rd_T39 l0 aA).f1.f0), .int .i64 ((rd_T39 l0 aA).f1.f1), .slice bF ((rd_T39 l0 aA).f1.f2).length bE] (fun k_ => (P0_ k_ ∨ w.heap.size ≤ k_)) (fun k_ => ((fun k_ => (P0_ k_ ∨ w.heap.size ≤ k_))) k_ ∧ some k_ ≠ (u5 : Value).ownBlock) rfl rfl ?aP (fun _ hk => hk) ?aF ?aO ?aB ?aS ?aL ?_; (case aP => exact (k39_mkF _ _ (⟨(rd_T39 l0 aA).f0, (⟨(rd_T39 l0 aA).f1.f0, (rd_T39 l0 aA).f1.f1, (rd_T39 l0 aA).f1.f2⟩ : S35)⟩ : S39) (Kd.V_reads' (Kd.V_mono (ok' := (fun k_ => ((fun k_ => (P0_ k_ ∨ w.heap.size ≤ k_))) k_ ∧ some k_ ≠ (u5 : Value).ownBlock)) (aM.out) (fun k_ hk => ⟨hk.1, hk.2⟩))).2.1 (Kd.V_F (Kd.V_mono (ok' := (fun k_ => ((fun k_ => (P0_ k_ ∨ w.heap.size ≤ k_))) k_ ∧ some k_ ≠ (u5 : Value).ownBlock)) (aM.out) (fun k_ hk => ⟨hk.1, hk.2⟩))))); (case aB => exact (hB_ HB)); (case aF => exact (fun k_ hk => (.inr (Nat.le_trans (qb_ (hB_ HB)) hk)))); (case aO => exact (vX_ aW)); (case aS => exact (qb_ (hB_ HB))); (case aL => have := LMc6.out; omega); intro v104 w7 ho hb hg hat; rw [← bT.out] at ho; replace aG := Zq_.mk (Kd.vc_ (ok := (fun k_ => (P0_ k_ ∨ w.heap.size ≤ k_))) (by (with_reducible repeat (first | apply Kd.V_alloc | apply Kd.V_drewN | apply Kd.V_drew)); first | exact aG.out | exact Kd.V_mono aG.out (fun _ hk => ⟨⟨hk.1, hk.2.2⟩, hk.2.1⟩)) hg hat); replace aX := Zq_.mk (Kd.vc_ (ok := (fun k_ => (P0_ k_ ∨ w.heap.size ≤ k_))) (vX_ aX) hg hat); replace aM := Zq_.mk (Kd.vc_ (ok := (fun k_ => (P0_ k_ ∨ w.heap.size ≤ k_))) (vX_ aM) hg hat); replace HB := Zq_.mk (hb); have bV := Zq_.mk (ho); clear aW; clear ho hb hg hat))
       go_roundg k1
       case measure => have := HK1.out; omega
       case rel => exact ⟨(bR), (wrap64 (aA + 1)), eS_, H', ⟨by have := HK1.out; omega⟩, ⟨by refine vM_ ?_; exact aG.out⟩, ⟨by (with_reducible repeat (first | apply Kd.vk_ | apply Kd.vj_ | apply Kd.N_drew)); exact bV.out⟩, ⟨hB_ HB⟩⟩
      ·rw [if_neg c6] at H; exact absurd H (by simp)
    ·rw [if_neg c4] at H; exact absurd H (by simp)
   ·rw [if_neg c3] at H; have c3b0 : decide (aA < (l0.length : Int)) = false := decide_eq_false c3; clear c3; replace H := ob_ H; obtain ⟨bG, A80, H⟩ := H; replace H : (some bG) = some r := H; have A8 := Zq_.mk A80; clear A80; obtain rfl := Option.some.inj H; obtain ⟨Ao9, co9, eo9⟩ := Kd.N_slice aW.out; subst eo9
    go_wp2_with (first | ((with_reducible refine qi_ (f := 27) rfl ?_); refine goesL_ (some 28) rfl rfl Try.func27 (by kernel_rfl) rfl #[.slice Ao9 aQ.length co9] rfl (by (try simp only [List.map_toArray, List.map_cons, List.map_nil]); first | done | rfl | (simp only [List.length_drop, List.length_take]; rfl)) ?_; (with_reducible refine (ref06_Copy.calls k1 _ _ aQ bG _ ?side1 ?side2 A8.out).mono ?_); (case side1 => exact cX_ ((Kd.N_reads' aW.out).2.2)); (case side2 => exact (Kd.N_reads' aW.out).2.1); rintro e w10 ⟨v107, rfl, ho0, hb⟩; refine ⟨_, rfl, ?_⟩; replace aG := Zq_.mk (Kd.V_elder' (vX_ aG) (by first | exact Kd.N_base ho0 | exact Kd.S_base ho0) hb); have bU := Zq_.mk (Kd.N_lower (Kd.N_mono (ok' := fun k_ => (P0_ k_ ∨ w.heap.size ≤ k_) ∧ some k_ ≠ (.slice Ao9 aQ.length co9 : Value).ownBlock) (Kd.S_N (Kd.S_bound ho0)) (fun k_ hk_ => ⟨(.inr (Nat.le_trans (qb_ (hB_ HB)) hk_.2.1)), (Kd.fresh' (Kd.N_lt (vX_ aW)) k_ hk_.2.1)⟩)) (qb_ (hB_ HB))); replace aW := Zq_.mk (Kd.N_elder' (vX_ aW) (by first | exact Kd.N_base ho0 | exact Kd.S_base ho0) hb); replace HB := Zq_.mk (qa_ (hB_ HB) hb); (try clear hb); (try clear ho0)))
    go_ret
    exact ⟨_, by exact eW_, by (with_reducible repeat (first | apply Kd.vk_ | apply Kd.vj_ | apply Kd.N_drew)); exact Kd.N_mono bU.out (fun _ hk => hk.1), hB_ HB⟩
mutual
def ref08_Great.l0 : Nat → List (S53) → Int → Option (Bool)
 | 0, _, _ => none
 | k + 1, x0, x3 => if x3 < (x0.length : Int) then (ref08_Great.j1 k x0 x3 (decide (x3 < 41))) else (ref08_Great.j1 k x0 x3 false)
def ref08_Great.j1 : Nat → List (S53) → Int → Bool → Option (Bool)
 | 0, _, _, _ => none
 | k + 1, x0, x3, x11 => if x11 = true then (if 0 ≤ x3 then (if x3 < (x0.length : Int) then ((ref05_Great.f k ((rd_T53 x0 x3).f2.f0) ((rd_T53 x0 x3).f2.f1) ((rd_T53 x0 x3).f2.f2)).bind fun aP => (if aP = true then (some true) else (ref08_Great.l0 k x0 (wrap64 (x3 + 1))))) else (none)) else (none)) else (some (decide ((x0.length : Int) > 40)))
end
def ref08_Great.f (k : Nat) (l0 : List (S53)) : Option (Bool) := ref08_Great.l0 k l0 0
theorem ref08_Great.mono_l : ∀ k, (∀ y0 y1, LeO (ref08_Great.l0 k y0 y1) (ref08_Great.l0 (k + 1) y0 y1)) ∧ (∀ y0 y1 y2, LeO (ref08_Great.j1 k y0 y1 y2) (ref08_Great.j1 (k + 1) y0 y1 y2))
 | 0 => ⟨fun _ _ r h => by simp [ref08_Great.l0] at h, fun _ _ _ r h => by simp [ref08_Great.j1] at h⟩
 | k + 1 => by
  obtain ⟨ih0, ih1⟩ := ref08_Great.mono_l k; refine ⟨?_, ?_⟩
  ·intro y0 y1
   unfold ref08_Great.l0
   repeat' first
   | (with_reducible exact ih0 _ _)
   | (with_reducible exact ih1 _ _ _)
   | (with_reducible exact ref05_Great.mono _ _ _ _)
   | (with_reducible exact LeO.refl _)
   | (with_reducible exact LeO.none _)
   | (with_reducible refine LeO.ite ?_ ?_)
   | (with_reducible refine LeO.bind ?_ (fun _ => ?_))
   | exact ih0 _ _
   | exact ih1 _ _ _
   | exact ref05_Great.mono _ _ _ _
   | exact LeO.none _
   | refine LeO.ite ?_ ?_
   | refine LeO.bind ?_ (fun _ => ?_)
  ·intro y0 y1 y2
   unfold ref08_Great.j1
   repeat' first
   | (with_reducible exact ih0 _ _)
   | (with_reducible exact ih1 _ _ _)
   | (with_reducible exact ref05_Great.mono _ _ _ _)
   | (with_reducible exact LeO.refl _)
   | (with_reducible exact LeO.none _)
   | (with_reducible refine LeO.ite ?_ ?_)
   | (with_reducible refine LeO.bind ?_ (fun _ => ?_))
   | exact ih0 _ _
   | exact ih1 _ _ _
   | exact ref05_Great.mono _ _ _ _
   | exact LeO.none _
   | refine LeO.ite ?_ ?_
   | refine LeO.bind ?_ (fun _ => ?_)
theorem ref08_Great.mono : ∀ a0 k, LeO (ref08_Great.f k a0) (ref08_Great.f (k + 1) a0) := by
 intro a0 k; obtain ⟨ih0, ih1⟩ := ref08_Great.mono_l k
 unfold ref08_Great.f
 repeat' first
   | (with_reducible exact ih0 _ _)
   | (with_reducible exact ih1 _ _ _)
   | (with_reducible exact ref05_Great.mono _ _ _ _)
   | (with_reducible exact LeO.refl _)
   | (with_reducible exact LeO.none _)
   | (with_reducible refine LeO.ite ?_ ?_)
   | (with_reducible refine LeO.bind ?_ (fun _ => ?_))
   | exact ih0 _ _
   | exact ih1 _ _ _
   | exact ref05_Great.mono _ _ _ _
   | exact LeO.none _
   | refine LeO.ite ?_ ?_
   | refine LeO.bind ?_ (fun _ => ?_)
theorem ref08_Great.calls (k : Nat) (A0 : Option Addr) (c0 : Nat) (l0 : List (S53)) (r : Bool) (w : World) (hr0 : Kd.C k53 w A0 l0.length l0) (hc0 : l0.length ≤ c0) (h : ref08_Great.f k l0 = some r) :
  Calls Try.prog 24 #[.slice A0 l0.length c0] w fun e w' => e = .returned (.bool r) ∧ Below w.heap.size w w' := by
 have hu35 := Try.underlying35; have HR0 := Zq_.mk hr0; have HC0 := Zq_.mk hc0; clear hr0 hc0; have HB := Zq_.mk (Below.refl w.heap.size w); have H : (ref08_Great.l0 k l0 0) = some r := h; clear h; have H' := Zq_.mk H; clear H
 go_enter Try.func24, Try.ntmps24
 go_wp2
 go_loopg [3] k (fun kq v3 w' => ∃ (aA : Int), v3 = .int .i64 aA ∧ Zq_ (ref08_Great.l0 kq l0 aA = some r) ∧ Zq_ (kq ≤ k) ∧ Zq_ (Below w.heap.size w w'))
 case atStart => exact ⟨(0), eS_, H', ⟨Nat.le_refl _⟩, ⟨hB_ HB⟩⟩
 case round =>
  clear H'; obtain ⟨aA, rfl, HA, HK1, HB⟩ := hrel
  cases gk with
  | zero => exact absurd HA.out (by simp [ref08_Great.l0])
  | succ k1 =>
   have H := HA.out; clear HA; simp only [ref08_Great.l0] at H; have HC2 := Zq_.mk H; clear H
   go_upto_region 2 with (fail)
   go_cut [11] (fun v11 wc => ∃ (kq : Nat) (aO : Bool), v11 = .bool aO ∧ Zq_ (ref08_Great.j1 kq l0 aA aO = some r) ∧ Zq_ (kq ≤ k1) ∧ Zq_ (Below w.heap.size w wc))
   case first =>
    have H := HC2.out; clear HC2
    by_cases c3 : aA < (l0.length : Int)
    ·rw [if_pos c3] at H; have aQ : decide (aA < (l0.length : Int)) = true := decide_eq_true c3; clear c3; (first | rw [aQ] | (simp only [i64_w, i32_w]; rw [aQ]) | skip); have H' := Zq_.mk H; clear H
     go_wp2
     go_meet
     case rel => exact ⟨_, (decide (aA < 41)), eS_, H', ⟨by have := HK1.out; first | omega | exact Nat.le_refl _⟩, ⟨hB_ HB⟩⟩
    ·rw [if_neg c3] at H; have aQ : decide (aA < (l0.length : Int)) = false := decide_eq_false c3; clear c3; (first | rw [aQ] | (simp only [i64_w, i32_w]; rw [aQ]) | skip); have H' := Zq_.mk H; clear H
     go_wp2
     go_meet
     case rel => exact ⟨_, (false), eS_, H', ⟨by have := HK1.out; first | omega | exact Nat.le_refl _⟩, ⟨hB_ HB⟩⟩
   case rest =>
    clear HC2
    try clear c2
    try clear p2
    try clear c3
    try clear aQ
    obtain ⟨kq, aO, rfl, HA, HJ1, HB⟩ := hcut
    cases kq with
    | zero => exact absurd HA.out (by simp [ref08_Great.j1])
    | succ kj1 =>
     have H := HA.out; clear HA; simp only [ref08_Great.j1] at H
     by_cases c4 : aO = true
     ·subst c4
      have H1 : (if 0 ≤ aA then (if aA < (l0.length : Int) then ((ref05_Great.f kj1 ((rd_T53 l0 aA).f2.f0) ((rd_T53 l0 aA).f2.f1) ((rd_T53 l0 aA).f2.f2)).bind fun aP => (if aP = true then (some true) else (ref08_Great.l0 kj1 l0 (wrap64 (aA + 1))))) else (none)) else (none)) = some r := by rw [if_pos rfl] at H; exact H
      clear H; have H := H1; clear H1
      by_cases c5 : 0 ≤ aA
      ·rw [if_pos c5] at H; have c5b0 : decide (0 ≤ aA) = true := decide_eq_true c5; clear c5
       by_cases c6 : aA < (l0.length : Int)
       ·rw [if_pos c6] at H; have c6b0 : decide (aA < (l0.length : Int)) = true := decide_eq_true c6; clear c6; replace H := ob_ H; obtain ⟨aP, A70, H⟩ := H; replace H : (if aP = true then (some true) else (ref08_Great.l0 kj1 l0 (wrap64 (aA + 1)))) = some r := H; have A7 := Zq_.mk A70; clear A70
        by_cases c8 : aP = true
        ·subst c8
         have H1 : (some true) = some r := by rw [if_pos rfl] at H; exact H
         clear H; have H := H1; clear H1; obtain rfl := Option.some.inj H; have aL : 0 ≤ (aA : Int) := dA_; have aK : aA < (l0.length : Int) := dA_; obtain ⟨aS, aN, aM, aR, aF, aE, aD, aC, aB, aG, aH⟩ := at_T53 HR0.out aA aL aK; cases aR; replace aF := hC_ HB aF; replace aE := hC_ HB aE; replace aD := hC_ HB aD; replace aC := hC_ HB aC; replace aB := hC_ HB aB; have aI := Zq_.mk aH; have aJ := Zq_.mk aG; clear aH aG; replace aL := eq_true aL; replace aK := eq_true aK
         go_wp2_with (first | ((with_reducible refine qi_ (f := 34) rfl ?_); refine goesL_ (some 19) rfl rfl Try.func34 (by kernel_rfl) rfl #[.agg #[.int .i64 ((rd_T53 l0 aA).f2.f0), .int .i64 ((rd_T53 l0 aA).f2.f1), .slice aN ((rd_T53 l0 aA).f2.f2).length aM]] rfl (by (try simp only [List.map_toArray, List.map_cons, List.map_nil]); first | done | rfl | (simp only [List.length_drop, List.length_take]; rfl)) ?_; (with_reducible refine (ref05_Great.calls kj1 ((rd_T53 l0 aA).f2.f0) ((rd_T53 l0 aA).f2.f1) _ _ ((rd_T53 l0 aA).f2.f2) true _ ?side1 ?side2 A7.out).mono ?_); (case side1 => exact cX_ (Kd.qk_ aI.out HB.out)); (case side2 => exact aJ.out); rintro e w9 ⟨rfl, hb⟩; refine ⟨_, rfl, ?_⟩; replace HB := Zq_.mk (qa_ (hB_ HB) hb); (try clear hb)))
         go_ret
         exact ⟨by exact eW_, hB_ HB⟩
        ·replace c8 := Bool.eq_false_iff.mpr c8; subst c8
         have H1 : (ref08_Great.l0 kj1 l0 (wrap64 (aA + 1))) = some r := by rw [if_neg (show ¬ (false = true) by decide)] at H; exact H
         clear H; have H := H1; clear H1; have H' := Zq_.mk H; clear H; have aL : 0 ≤ (aA : Int) := dA_; have aK : aA < (l0.length : Int) := dA_; obtain ⟨aS, aN, aM, aR, aF, aE, aD, aC, aB, aG, aH⟩ := at_T53 HR0.out aA aL aK; cases aR; replace aF := hC_ HB aF; replace aE := hC_ HB aE; replace aD := hC_ HB aD; replace aC := hC_ HB aC; replace aB := hC_ HB aB; have aI := Zq_.mk aH; have aJ := Zq_.mk aG; clear aH aG; replace aL := eq_true aL; replace aK := eq_true aK
         go_wp2_with (first | ((with_reducible refine qi_ (f := 34) rfl ?_); refine goesL_ (some 19) rfl rfl Try.func34 (by kernel_rfl) rfl #[.agg #[.int .i64 ((rd_T53 l0 aA).f2.f0), .int .i64 ((rd_T53 l0 aA).f2.f1), .slice aN ((rd_T53 l0 aA).f2.f2).length aM]] rfl (by (try simp only [List.map_toArray, List.map_cons, List.map_nil]); first | done | rfl | (simp only [List.length_drop, List.length_take]; rfl)) ?_; (with_reducible refine (ref05_Great.calls kj1 ((rd_T53 l0 aA).f2.f0) ((rd_T53 l0 aA).f2.f1) _ _ ((rd_T53 l0 aA).f2.f2) false _ ?side1 ?side2 A7.out).mono ?_); (case side1 => exact cX_ (Kd.qk_ aI.out HB.out)); (case side2 => exact aJ.out); rintro e w10 ⟨rfl, hb⟩; refine ⟨_, rfl, ?_⟩; replace HB := Zq_.mk (qa_ (hB_ HB) hb); (try clear hb)))
         go_roundg kj1
         case measure => have := HK1.out; have := HJ1.out; omega
         case rel => exact ⟨(wrap64 (aA + 1)), eS_, H', ⟨by have := HK1.out; have := HJ1.out; omega⟩, ⟨hB_ HB⟩⟩
       ·rw [if_neg c6] at H; exact absurd H (by simp)
      ·rw [if_neg c5] at H; exact absurd H (by simp)
     ·replace c4 := Bool.eq_false_iff.mpr c4; subst c4
      have H1 : (some (decide ((l0.length : Int) > 40))) = some r := by rw [if_neg (show ¬ (false = true) by decide)] at H; exact H
      clear H; have H := H1; clear H1; obtain rfl := Option.some.inj H
      go_wp2
      go_ret
      exact ⟨by exact eW_, hB_ HB⟩
end Go.Proofs.Ytgipbmjkgciccaa.P

/- What printed functions come to, and that the machine's calls do it. No condition. -/
import Derived.Test.YtgipbmjkgciccaaP0
import Derived.Test.YtgipbmjkgciccaaHw
import Derived.Test.YtgipbmjkgciccaaPApiEntry61
namespace Go.Proofs.Ytgipbmjkgciccaa.P
set_option maxHeartbeats 16000000
set_option maxRecDepth 100000
open Go.RowKit Go.Proofs.YtgipbmjkgciccaaW.PrintWords Go.Proofs.YtgipbmjkgciccaaW.PrintLast Go.Proofs.YtgipbmjkgciccaaW.PrintMore
attribute [local go_sem] qw_ qu_ vb_ va_ qp_ qo_ qv_ qt_ Go.Proofs.YtgipbmjkgciccaaW.Hw.string_gtr
set_option linter.unusedVariables false
set_option linter.unusedSimpArgs false
def ref04_Great.l0 : Nat → List (S58) → Int → Int → Option (Bool)
 | 0, _, _, _ => none
 | k + 1, x0, x3, x4 => if x4 < (x0.length : Int) then (if x3 ≤ 4000 then (if 0 ≤ x4 then (ref04_Great.l0 k x0 (wrap64 (x3 + (((rd_T58 x0 x4).f2).size : Int))) (wrap64 (x4 + 1))) else (none)) else (some (decide (x3 > 4000)))) else (some (decide (x3 > 4000)))
def ref04_Great.f (k : Nat) (l0 : List (S58)) : Option (Bool) := ref04_Great.l0 k l0 (l0.length : Int) 0
theorem ref04_Great.mono_l : ∀ k, (∀ y0 y1 y2, LeO (ref04_Great.l0 k y0 y1 y2) (ref04_Great.l0 (k + 1) y0 y1 y2))
 | 0 => fun _ _ _ r h => by simp [ref04_Great.l0] at h
 | k + 1 => by
  have ih0 := ref04_Great.mono_l k
  ·intro y0 y1 y2
   unfold ref04_Great.l0
   with_reducible repeat' first | exact ih0 _ _ _ | exact LeO.refl _ | exact LeO.none _ | refine LeO.ite ?_ ?_ | refine LeO.bind ?_ (fun _ => ?_)
theorem ref04_Great.mono : ∀ a0 k, LeO (ref04_Great.f k a0) (ref04_Great.f (k + 1) a0) := by
 intro a0 k; have ih0 := ref04_Great.mono_l k
 unfold ref04_Great.f
 with_reducible repeat' first | exact ih0 _ _ _ | exact LeO.refl _ | exact LeO.none _ | refine LeO.ite ?_ ?_ | refine LeO.bind ?_ (fun _ => ?_)
theorem ref04_Great.calls (k : Nat) (A0 : Option Addr) (c0 : Nat) (l0 : List (S58)) (r : Bool) (w : World) (hr0 : Kd.C k58 w A0 l0.length l0) (hc0 : l0.length ≤ c0) (h : ref04_Great.f k l0 = some r) :
  Calls Try.prog 55 #[.slice A0 l0.length c0] w fun e w' => e = .returned (.bool r) ∧ Drawn0 w w' := by
 have HR0 := Zq_.mk hr0; have HC0 := Zq_.mk hc0; clear hr0 hc0; have H : (ref04_Great.l0 k l0 (l0.length : Int) 0) = some r := h; clear h; have H' := Zq_.mk H; clear H
 go_enter Try.func55, Try.ntmps55
 go_wp2
 go_loopg [3, 4] k (fun kq v3 v4 w' => ∃ (aA : Int) (aH : Int), v3 = .int .i64 aA ∧ v4 = .int .i64 aH ∧ Zq_ (ref04_Great.l0 kq l0 aA aH = some r) ∧ Zq_ (kq ≤ k) ∧ Drawn0 w w')
 case atStart => exact ⟨((l0.length : Int)), (0), eS_, eS_, H', ⟨Nat.le_refl _⟩, by repeat (first | exact Drawn0.refl _ | apply Drawn0.step)⟩
 case round =>
  clear H'; obtain ⟨aA, aH, rfl, rfl, HA, HK1, ⟨m1, rfl⟩⟩ := hrel
  cases gk with
  | zero => exact absurd HA.out (by simp [ref04_Great.l0])
  | succ k1 =>
   have H := HA.out; clear HA; simp only [ref04_Great.l0] at H
   by_cases c2 : aH < (l0.length : Int)
   ·rw [if_pos c2] at H; have c2b0 : decide (aH < (l0.length : Int)) = true := decide_eq_true c2; clear c2
    by_cases c3 : aA ≤ 4000
    ·rw [if_pos c3] at H; have aO : decide (aA ≤ 4000) = true := decide_eq_true c3; clear c3
     by_cases c4 : 0 ≤ aH
     ·rw [if_pos c4] at H; have c4b0 : decide (0 ≤ aH) = true := decide_eq_true c4; clear c4; have H' := Zq_.mk H; clear H; have aJ : 0 ≤ (aH : Int) := dA_; have aI : aH < (l0.length : Int) := dA_; obtain ⟨aZ, aS, aD, aC, aB⟩ := at_T58 HR0.out aH aJ aI; cases aS; replace aJ := eq_true aJ; replace aI := eq_true aI
      go_wp2
      go_roundg k1
      case measure => have := HK1.out; omega
      case rel => exact ⟨(wrap64 (aA + (((rd_T58 l0 aH).f2).size : Int))), (wrap64 (aH + 1)), eS_, eS_, H', ⟨by have := HK1.out; omega⟩, by repeat (first | exact Drawn0.refl _ | apply Drawn0.step)⟩
     ·rw [if_neg c4] at H; exact absurd H (by simp)
    ·rw [if_neg c3] at H; have aO : decide (aA ≤ 4000) = false := decide_eq_false c3; clear c3; obtain rfl := Option.some.inj H
     go_wp2
     go_ret
     exact ⟨by first | rfl | (simp; done) | (simp [*]; done), by repeat (first | exact Drawn0.refl _ | apply Drawn0.step)⟩
   ·rw [if_neg c2] at H; have c2b0 : decide (aH < (l0.length : Int)) = false := decide_eq_false c2; clear c2; obtain rfl := Option.some.inj H
    go_wp2
    go_ret
    exact ⟨by first | rfl | (simp; done) | (simp [*]; done), by repeat (first | exact Drawn0.refl _ | apply Drawn0.step)⟩
def ref05_Great.f (k : Nat) (aV : Int) (aU : Int) (aK : List (S58)) : Option (Bool) := (ref04_Great.f k aK).bind fun aL => (some aL)
theorem ref05_Great.mono : ∀ a0 a1 a2 k, LeO (ref05_Great.f k a0 a1 a2) (ref05_Great.f (k + 1) a0 a1 a2) := by
 intro a0 a1 a2 k
 unfold ref05_Great.f
 with_reducible repeat' first | exact ref04_Great.mono _ _ | exact LeO.refl _ | exact LeO.none _ | refine LeO.ite ?_ ?_ | refine LeO.bind ?_ (fun _ => ?_)
theorem ref05_Great.calls (k : Nat) (aV : Int) (aU : Int) (aW : Option Addr) (aT : Nat) (aK : List (S58)) (r : Bool) (w : World) (aX : Kd.C k58 w aW aK.length aK) (aY : aK.length ≤ aT) (h : ref05_Great.f k aV aU aK = some r) :
  Calls Try.prog 34 #[.agg #[.int .i64 aV, .int .i64 aU, .slice aW aK.length aT]] w fun e w' => e = .returned (.bool r) ∧ Below w.heap.size w w' := by
 have hu35 := Try.underlying35; have bB := Zq_.mk aX; have bC := Zq_.mk aY; clear aX aY; have HB := Zq_.mk (Below.refl w.heap.size w); have H : ((ref04_Great.f k aK).bind fun aL => (some aL)) = some r := h; clear h; replace H := ob_ H; obtain ⟨aL, A20, H⟩ := H; (try dsimp only at H); have A2 := Zq_.mk A20; clear A20; obtain rfl := Option.some.inj H
 go_enter Try.func34, Try.ntmps34
 go_wp2_with (first | ((with_reducible refine qb_ (N := 1) rfl ?_); refine bE_ 1 #[.int .i64 aV, .int .i64 aU, .slice aW aK.length aT] 35 ?_; intro gb101 hg w3 hbox hb; have bA := Zq_.mk (hbox); have GW101 := gW_ (w := w) hg (hB_ HB); have GE101 := gW_ (w := w) hg (hB_ HB); replace HB := sB_ HB hb; clear hb hbox hg; obtain ⟨hcz4_0, hcz4_1, hcz4_2⟩ := c3_ bA; obtain ⟨hfz4_0, hfz4_1, hfz4_2⟩ := f3_ bA) | ((with_reducible refine qd_ (f := 55) rfl ?_); refine goesL_ (some 5) rfl rfl Try.func55 (by kernel_rfl) rfl #[.slice aW aK.length aT] rfl aR_ ?_; (with_reducible refine (ref04_Great.calls k _ _ aK aL _ ?side1 ?side2 A2.out).mono ?_); (case side1 => exact cX_ (Kd.qf_ bB.out HB.out)); (case side2 => exact bC.out); rintro e w' ⟨rfl, ⟨nd, rfl⟩⟩; refine ⟨_, rfl, ?_⟩))
 go_ret
 exact ⟨by exact eW_, by exact hSet_ HB⟩
mutual
def ref06_Great.l0 : Nat → List (S39) → Int → Option (Bool)
 | 0, _, _ => none
 | k + 1, x0, x3 => if x3 < (x0.length : Int) then (ref06_Great.j1 k x0 x3 (decide (x3 < 41))) else (ref06_Great.j1 k x0 x3 false)
def ref06_Great.j1 : Nat → List (S39) → Int → Bool → Option (Bool)
 | 0, _, _, _ => none
 | k + 1, x0, x3, x11 => if x11 = true then (if 0 ≤ x3 then (if x3 < (x0.length : Int) then ((ref05_Great.f k ((rd_T39 x0 x3).f1.f0) ((rd_T39 x0 x3).f1.f1) ((rd_T39 x0 x3).f1.f2)).bind fun aL => (if aL = true then (some true) else (ref06_Great.l0 k x0 (wrap64 (x3 + 1))))) else (none)) else (none)) else (some (decide ((x0.length : Int) > 40)))
end
def ref06_Great.f (k : Nat) (l0 : List (S39)) : Option (Bool) := ref06_Great.l0 k l0 0
theorem ref06_Great.mono_l : ∀ k, (∀ y0 y1, LeO (ref06_Great.l0 k y0 y1) (ref06_Great.l0 (k + 1) y0 y1)) ∧ (∀ y0 y1 y2, LeO (ref06_Great.j1 k y0 y1 y2) (ref06_Great.j1 (k + 1) y0 y1 y2))
 | 0 => ⟨fun _ _ r h => by simp [ref06_Great.l0] at h, fun _ _ _ r h => by simp [ref06_Great.j1] at h⟩
 | k + 1 => by
  obtain ⟨ih0, ih1⟩ := ref06_Great.mono_l k; refine ⟨?_, ?_⟩
  ·intro y0 y1
   unfold ref06_Great.l0
   with_reducible repeat' first | exact ih0 _ _ | exact ih1 _ _ _ | exact ref05_Great.mono _ _ _ _ | exact LeO.refl _ | exact LeO.none _ | refine LeO.ite ?_ ?_ | refine LeO.bind ?_ (fun _ => ?_)
  ·intro y0 y1 y2
   unfold ref06_Great.j1
   with_reducible repeat' first | exact ih0 _ _ | exact ih1 _ _ _ | exact ref05_Great.mono _ _ _ _ | exact LeO.refl _ | exact LeO.none _ | refine LeO.ite ?_ ?_ | refine LeO.bind ?_ (fun _ => ?_)
theorem ref06_Great.mono : ∀ a0 k, LeO (ref06_Great.f k a0) (ref06_Great.f (k + 1) a0) := by
 intro a0 k; obtain ⟨ih0, ih1⟩ := ref06_Great.mono_l k
 unfold ref06_Great.f
 with_reducible repeat' first | exact ih0 _ _ | exact ih1 _ _ _ | exact ref05_Great.mono _ _ _ _ | exact LeO.refl _ | exact LeO.none _ | refine LeO.ite ?_ ?_ | refine LeO.bind ?_ (fun _ => ?_)
theorem ref06_Great.calls (k : Nat) (A0 : Option Addr) (c0 : Nat) (l0 : List (S39)) (r : Bool) (w : World) (hr0 : Kd.C k39 w A0 l0.length l0) (hc0 : l0.length ≤ c0) (h : ref06_Great.f k l0 = some r) :
  Calls Try.prog 8 #[.slice A0 l0.length c0] w fun e w' => e = .returned (.bool r) ∧ Below w.heap.size w w' := by
 have hu35 := Try.underlying35; have HR0 := Zq_.mk hr0; have HC0 := Zq_.mk hc0; clear hr0 hc0; have HB := Zq_.mk (Below.refl w.heap.size w); have H : (ref06_Great.l0 k l0 0) = some r := h; clear h; have H' := Zq_.mk H; clear H
 go_enter Try.func8, Try.ntmps8
 go_wp2
 go_loopg [3] k (fun kq v3 w' => ∃ (aA : Int), v3 = .int .i64 aA ∧ Zq_ (ref06_Great.l0 kq l0 aA = some r) ∧ Zq_ (kq ≤ k) ∧ Zq_ (Below w.heap.size w w'))
 case atStart => exact ⟨(0), eS_, H', ⟨Nat.le_refl _⟩, ⟨hB_ HB⟩⟩
 case round =>
  clear H'; obtain ⟨aA, rfl, HA, HK1, HB⟩ := hrel
  cases gk with
  | zero => exact absurd HA.out (by simp [ref06_Great.l0])
  | succ k1 =>
   have H := HA.out; clear HA; simp only [ref06_Great.l0] at H; have HC2 := Zq_.mk H; clear H
   go_upto_region 2 with (fail)
   go_cut [11] (fun v11 wc => ∃ (kq : Nat) (aR : Bool), v11 = .bool aR ∧ Zq_ (ref06_Great.j1 kq l0 aA aR = some r) ∧ Zq_ (kq ≤ k1) ∧ Zq_ (Below w.heap.size w wc))
   case first =>
    have H := HC2.out; clear HC2
    by_cases c3 : aA < (l0.length : Int)
    ·rw [if_pos c3] at H; have aO : decide (aA < (l0.length : Int)) = true := decide_eq_true c3; clear c3; (first | rw [aO] | (simp only [i64_w, i32_w]; rw [aO]) | skip); have H' := Zq_.mk H; clear H
     go_wp2
     go_meet
     case rel => exact ⟨_, (decide (aA < 41)), eS_, H', ⟨by have := HK1.out; first | omega | exact Nat.le_refl _⟩, ⟨hB_ HB⟩⟩
    ·rw [if_neg c3] at H; have aO : decide (aA < (l0.length : Int)) = false := decide_eq_false c3; clear c3; (first | rw [aO] | (simp only [i64_w, i32_w]; rw [aO]) | skip); have H' := Zq_.mk H; clear H
     go_wp2
     go_meet
     case rel => exact ⟨_, (false), eS_, H', ⟨by have := HK1.out; first | omega | exact Nat.le_refl _⟩, ⟨hB_ HB⟩⟩
   case rest =>
    clear HC2
    try clear p2
    try clear c3
    try clear aO
    obtain ⟨kq, aR, rfl, HA, HJ1, HB⟩ := hcut
    cases kq with
    | zero => exact absurd HA.out (by simp [ref06_Great.j1])
    | succ kj1 =>
     have H := HA.out; clear HA; simp only [ref06_Great.j1] at H
     by_cases c4 : aR = true
     ·subst c4
      rw [if_pos rfl] at H
      by_cases c5 : 0 ≤ aA
      ·rw [if_pos c5] at H; have c5b0 : decide (0 ≤ aA) = true := decide_eq_true c5; clear c5
       by_cases c6 : aA < (l0.length : Int)
       ·rw [if_pos c6] at H; have c6b0 : decide (aA < (l0.length : Int)) = true := decide_eq_true c6; clear c6; replace H := ob_ H; obtain ⟨aL, A70, H⟩ := H; (try dsimp only at H); have A7 := Zq_.mk A70; clear A70
        by_cases c8 : aL = true
        ·subst c8
         rw [if_pos rfl] at H; obtain rfl := Option.some.inj H; have aJ : 0 ≤ (aA : Int) := dA_; have aI : aA < (l0.length : Int) := dA_; obtain ⟨aZ, aQ, aP, aS, aD, aC, aB, aE, aF, aG⟩ := at_T39 HR0.out aA aJ aI; cases aS; replace aD := hC_ HB aD; replace aC := hC_ HB aC; replace aB := hC_ HB aB; replace aE := hC_ HB aE; have aM := Zq_.mk aG; have aN := Zq_.mk aF; clear aG aF; replace aJ := eq_true aJ; replace aI := eq_true aI
         go_wp2_with (first | ((with_reducible refine qd_ (f := 34) rfl ?_); refine goesL_ (some 19) rfl rfl Try.func34 (by kernel_rfl) rfl #[.agg #[.int .i64 ((rd_T39 l0 aA).f1.f0), .int .i64 ((rd_T39 l0 aA).f1.f1), .slice aQ ((rd_T39 l0 aA).f1.f2).length aP]] rfl aR_ ?_; (with_reducible refine (ref05_Great.calls kj1 ((rd_T39 l0 aA).f1.f0) ((rd_T39 l0 aA).f1.f1) _ _ ((rd_T39 l0 aA).f1.f2) true _ ?side1 ?side2 A7.out).mono ?_); (case side1 => exact cX_ (Kd.qf_ aM.out HB.out)); (case side2 => exact aN.out); rintro e w9 ⟨rfl, hb⟩; refine ⟨_, rfl, ?_⟩; replace HB := sB_ HB hb; (try clear hb)))
         go_ret
         exact ⟨by exact eW_, hB_ HB⟩
        ·replace c8 := Bool.eq_false_iff.mpr c8; subst c8
         have H1 : (ref06_Great.l0 kj1 l0 (wrap64 (aA + 1))) = some r := by rw [if_neg (show ¬ (false = true) by decide)] at H; exact H
         clear H; have H := H1; clear H1; have H' := Zq_.mk H; clear H; have aJ : 0 ≤ (aA : Int) := dA_; have aI : aA < (l0.length : Int) := dA_; obtain ⟨aZ, aQ, aP, aS, aD, aC, aB, aE, aF, aG⟩ := at_T39 HR0.out aA aJ aI; cases aS; replace aD := hC_ HB aD; replace aC := hC_ HB aC; replace aB := hC_ HB aB; replace aE := hC_ HB aE; have aM := Zq_.mk aG; have aN := Zq_.mk aF; clear aG aF; replace aJ := eq_true aJ; replace aI := eq_true aI
         go_wp2_with (first | ((with_reducible refine qd_ (f := 34) rfl ?_); refine goesL_ (some 19) rfl rfl Try.func34 (by kernel_rfl) rfl #[.agg #[.int .i64 ((rd_T39 l0 aA).f1.f0), .int .i64 ((rd_T39 l0 aA).f1.f1), .slice aQ ((rd_T39 l0 aA).f1.f2).length aP]] rfl aR_ ?_; (with_reducible refine (ref05_Great.calls kj1 ((rd_T39 l0 aA).f1.f0) ((rd_T39 l0 aA).f1.f1) _ _ ((rd_T39 l0 aA).f1.f2) false _ ?side1 ?side2 A7.out).mono ?_); (case side1 => exact cX_ (Kd.qf_ aM.out HB.out)); (case side2 => exact aN.out); rintro e w10 ⟨rfl, hb⟩; refine ⟨_, rfl, ?_⟩; replace HB := sB_ HB hb; (try clear hb)))
         go_roundg kj1
         case measure => have := HK1.out; have := HJ1.out; omega
         case rel => exact ⟨(wrap64 (aA + 1)), eS_, H', ⟨by have := HK1.out; have := HJ1.out; omega⟩, ⟨hB_ HB⟩⟩
       ·rw [if_neg c6] at H; exact absurd H (by simp)
      ·rw [if_neg c5] at H; exact absurd H (by simp)
     ·replace c4 := Bool.eq_false_iff.mpr c4; subst c4
      have H1 : (some (decide ((l0.length : Int) > 40))) = some r := by rw [if_neg (show ¬ (false = true) by decide)] at H; exact H
      clear H; have H := H1; clear H1; obtain rfl := Option.some.inj H
      go_wp2
      go_ret
      exact ⟨by exact eW_, hB_ HB⟩
def ref07_find.l0 : Nat → List (S60) → Int → Int → Option (Int × Int × Int × Bool)
 | 0, _, _, _ => none
 | k + 1, x0, x1, x6 => if x6 < (x0.length : Int) then (if 0 ≤ x6 then (if ((rd_T60 x0 x6).f0) = x1 then (some ((rd_T60 x0 x6).f0, (rd_T60 x0 x6).f1, (rd_T60 x0 x6).f2, true)) else (ref07_find.l0 k x0 x1 (wrap64 (x6 + 1)))) else (none)) else (some (0, 0, 0, false))
def ref07_find.f (k : Nat) (l0 : List (S60)) (a1 : Int) : Option (Int × Int × Int × Bool) := ref07_find.l0 k l0 a1 0
theorem ref07_find.mono_l : ∀ k, (∀ y0 y1 y2, LeO (ref07_find.l0 k y0 y1 y2) (ref07_find.l0 (k + 1) y0 y1 y2))
 | 0 => fun _ _ _ r h => by simp [ref07_find.l0] at h
 | k + 1 => by
  have ih0 := ref07_find.mono_l k
  ·intro y0 y1 y2
   unfold ref07_find.l0
   with_reducible repeat' first | exact ih0 _ _ _ | exact LeO.refl _ | exact LeO.none _ | refine LeO.ite ?_ ?_ | refine LeO.bind ?_ (fun _ => ?_)
theorem ref07_find.mono : ∀ a0 a1 k, LeO (ref07_find.f k a0 a1) (ref07_find.f (k + 1) a0 a1) := by
 intro a0 a1 k; have ih0 := ref07_find.mono_l k
 unfold ref07_find.f
 with_reducible repeat' first | exact ih0 _ _ _ | exact LeO.refl _ | exact LeO.none _ | refine LeO.ite ?_ ?_ | refine LeO.bind ?_ (fun _ => ?_)
theorem ref07_find.calls (k : Nat) (A0 : Option Addr) (c0 : Nat) (l0 : List (S60)) (a1 : Int) (r1 : Int) (r2 : Int) (r3 : Int) (r4 : Bool) (w : World) (hr0 : Kd.C k60 w A0 l0.length l0) (hc0 : l0.length ≤ c0) (h : ref07_find.f k l0 a1 = some (r1, r2, r3, r4)) :
  Calls Try.prog 46 #[.slice A0 l0.length c0, .int .i64 a1] w fun e w' => e = .returned (.tuple #[.agg #[.int .i64 r1, .int .i64 r2, .int .i64 r3], .bool r4]) ∧ Below w.heap.size w w' := by
 have hu60 := Try.underlying60; have HR0 := Zq_.mk hr0; have HC0 := Zq_.mk hc0; clear hr0 hc0; have HB := Zq_.mk (Below.refl w.heap.size w); have H : (ref07_find.l0 k l0 a1 0) = some (r1, r2, r3, r4) := h; clear h; have H' := Zq_.mk H; clear H
 go_enter Try.func46, Try.ntmps46
 go_wp2_with (first | ((with_reducible refine qb_ (N := 4) rfl ?_); refine bE_ 4 #[.int .i64 0, .int .i64 0, .int .i64 0] 60 ?_; intro aN hg w3 hbox hb; have aE := Zq_.mk (hbox); have GW101 := gW_ (w := w) hg (hB_ HB); have GE101 := gW_ (w := w) hg (hB_ HB); replace HB := sB_ HB hb; clear hb hbox hg))
 go_loopg [6] k (fun kq v6 w' => ∃ (aA : Int) (aH : Int) (aG : Int) (aF : Int), v6 = .int .i64 aA ∧ Zq_ (ref07_find.l0 kq l0 a1 aA = some (r1, r2, r3, r4)) ∧ Zq_ (kq ≤ k) ∧ Zq_ (w'.heap[aN]? = some (.cells #[.int .i64 aH, .int .i64 aG, .int .i64 aF] 60 (0, 0))) ∧ Zq_ (Below w.heap.size w w'))
 case atStart => exact ⟨(0), (0), (0), (0), eS_, H', ⟨Nat.le_refl _⟩, ⟨by (with_reducible repeat (first | refine qq_ ?_ _ | refine qc_ ?_ | refine ql_ ?_ _)); exact aE.out⟩, ⟨by exact hSet_ HB⟩⟩
 case round =>
  clear H'
  try clear p2
  obtain ⟨aA, aH, aG, aF, rfl, HA, HK1, aE, HB⟩ := hrel
  cases gk with
  | zero => exact absurd HA.out (by simp [ref07_find.l0])
  | succ k1 =>
   have H := HA.out; clear HA; simp only [ref07_find.l0] at H
   by_cases c4 : aA < (l0.length : Int)
   ·rw [if_pos c4] at H; have c4b0 : decide (aA < (l0.length : Int)) = true := decide_eq_true c4; clear c4
    by_cases c5 : 0 ≤ aA
    ·rw [if_pos c5] at H; have c5b0 : decide (0 ≤ aA) = true := decide_eq_true c5; clear c5
     by_cases c6 : ((rd_T60 l0 aA).f0) = a1
     ·rw [if_pos c6] at H; have c6b0 : (((rd_T60 l0 aA).f0) == a1) = true := beq_iff_eq.mpr c6; have c6b1 : (((rd_T60 l0 aA).f0) != a1) = false := bne_eq_false_iff_eq.mpr c6; clear c6; simp only [Option.some.injEq, Prod.mk.injEq] at H; obtain ⟨rfl, rfl, rfl, rfl⟩ := H; have aJ : 0 ≤ (aA : Int) := dA_; have aI : aA < (l0.length : Int) := dA_; obtain ⟨aO, aR, aD, aC, aB⟩ := at_T60 HR0.out aA aJ aI; cases aR; replace aD := hC_ HB aD; replace aC := hC_ HB aC; replace aB := hC_ HB aB; replace aJ := eq_true aJ; replace aI := eq_true aI; have aQ : 0 ≤ (aA : Int) := dA_; have aP : aA < (l0.length : Int) := dA_; obtain ⟨aS, e103, aM, aL, aK⟩ := at_T60 HR0.out aA aQ aP; obtain rfl : aO = aS := (by injection e103); replace aM := hC_ HB aM; replace aL := hC_ HB aL; replace aK := hC_ HB aK; replace aQ := eq_true aQ; replace aP := eq_true aP; obtain ⟨hcz7_0, hcz7_1, hcz7_2⟩ := c3_ aE; obtain ⟨hfz7_0, hfz7_1, hfz7_2⟩ := f3_ aE
      go_wp2
      refine bodyPost_ret (results_ct rfl _ _ aN 60 #[.int .i64 ((rd_T60 l0 aA).f0), .int .i64 ((rd_T60 l0 aA).f1), .int .i64 ((rd_T60 l0 aA).f2)] (0, 0) _ rfl (by exact bW3_ (bK_ aE)) Try.underlying60 rfl (by kernel_rfl)) rfl ?_; exact ⟨by exact eW_, by exact hSet_ HB⟩
     ·rw [if_neg c6] at H; have c6b0 : (((rd_T60 l0 aA).f0) == a1) = false := beq_eq_false_iff_ne.mpr c6; have c6b1 : (((rd_T60 l0 aA).f0) != a1) = true := bne_iff_ne.mpr c6; have H' := Zq_.mk H; clear H; have aJ : 0 ≤ (aA : Int) := dA_; have aI : aA < (l0.length : Int) := dA_; obtain ⟨aO, aR, aD, aC, aB⟩ := at_T60 HR0.out aA aJ aI; cases aR; replace aD := hC_ HB aD; replace aC := hC_ HB aC; replace aB := hC_ HB aB; replace aJ := eq_true aJ; replace aI := eq_true aI
      go_wp2
      go_roundg k1
      case measure => have := HK1.out; omega
      case rel => exact ⟨(wrap64 (aA + 1)), (aH), (aG), (aF), eS_, H', ⟨by have := HK1.out; omega⟩, ⟨by (with_reducible repeat (first | refine qq_ ?_ _ | refine qc_ ?_ | refine ql_ ?_ _)); exact aE.out⟩, ⟨by exact hSet_ HB⟩⟩
    ·rw [if_neg c5] at H; exact absurd H (by simp)
   ·rw [if_neg c4] at H; have c4b0 : decide (aA < (l0.length : Int)) = false := decide_eq_false c4; clear c4; simp only [Option.some.injEq, Prod.mk.injEq] at H; obtain ⟨rfl, rfl, rfl, rfl⟩ := H; obtain ⟨hcz8_0, hcz8_1, hcz8_2⟩ := c3_ aE; obtain ⟨hfz8_0, hfz8_1, hfz8_2⟩ := f3_ aE
    go_wp2
    refine bodyPost_ret (results_ct rfl _ _ aN 60 #[.int .i64 0, .int .i64 0, .int .i64 0] (0, 0) _ rfl (by exact bW3_ (bK_ aE)) Try.underlying60 rfl (by kernel_rfl)) rfl ?_; exact ⟨by exact eW_, by exact hSet_ HB⟩
def entry_May.f (aD : Int) (aC : Int) (aO : ByteArray) : Option (Bool) := if aD ≥ 0 then (if aD < 12 then (if aC ≥ 1 then (if aC ≤ 1099511627776 then (some (decide ((aO.size : Int) ≤ 200))) else (some false)) else (some false)) else (some false)) else (some false)
theorem entry_May.calls (aD : Int) (aC : Int) (aO : ByteArray) (r : Bool) (w : World) (h : entry_May.f aD aC aO = some r) :
  Calls Try.prog 82 #[.agg #[.int .i64 aD, .int .i64 aC, .string aO]] w fun e w' => e = .returned (.bool r) ∧ Below w.heap.size w w' := by
 have hu58 := Try.underlying58; have HB := Zq_.mk (Below.refl w.heap.size w); have H : (if aD ≥ 0 then (if aD < 12 then (if aC ≥ 1 then (if aC ≤ 1099511627776 then (some (decide ((aO.size : Int) ≤ 200))) else (some false)) else (some false)) else (some false)) else (some false)) = some r := h; clear h
 by_cases c2 : aD ≥ 0
 ·rw [if_pos c2] at H; have bO : decide (0 ≤ aD) = true := decide_eq_true c2; clear c2
  by_cases c3 : aD < 12
  ·rw [if_pos c3] at H; have bQ : decide (aD < 12) = true := decide_eq_true c3; clear c3
   by_cases c4 : aC ≥ 1
   ·rw [if_pos c4] at H; have bP : decide (1 ≤ aC) = true := decide_eq_true c4; clear c4
    by_cases c5 : aC ≤ 1099511627776
    ·rw [if_pos c5] at H; have bN : decide (aC ≤ 1099511627776) = true := decide_eq_true c5; clear c5; obtain rfl := Option.some.inj H
     go_enter Try.func82, Try.ntmps82
     go_wp2_with (first | ((with_reducible refine qb_ (N := 1) rfl ?_); (try (refine vd_ (by rfl) ?_; dsimp only)); refine bE_ 1 #[.int .i64 aD, .int .i64 aC, .string aO] 58 ?_; intro aJ hg w6 hbox hb; have aA := Zq_.mk (hbox); have aK := gW_ (w := w) hg (hB_ HB); have aL := gW_ (w := w) hg (hB_ HB); replace HB := sB_ HB hb; clear hb hbox hg; obtain ⟨cC, cB, cA⟩ := c3_ aA; obtain ⟨bZ, bY, bX⟩ := f3_ aA))
     go_ret
     exact ⟨by exact eW_, by exact hSet_ HB⟩
    ·rw [if_neg c5] at H; have bN : decide (aC ≤ 1099511627776) = false := decide_eq_false c5; clear c5; obtain rfl := Option.some.inj H
     go_enter Try.func82, Try.ntmps82
     go_wp2_with (first | ((with_reducible refine qb_ (N := 1) rfl ?_); (try (refine vd_ (by rfl) ?_; dsimp only)); refine bE_ 1 #[.int .i64 aD, .int .i64 aC, .string aO] 58 ?_; intro aJ hg w8 hbox hb; have aA := Zq_.mk (hbox); have aK := gW_ (w := w) hg (hB_ HB); have aL := gW_ (w := w) hg (hB_ HB); replace HB := sB_ HB hb; clear hb hbox hg; obtain ⟨hcz9_0, hcz9_1, hcz9_2⟩ := c3_ aA; obtain ⟨hfz9_0, hfz9_1, hfz9_2⟩ := f3_ aA))
     go_ret
     exact ⟨by exact eW_, by exact hSet_ HB⟩
   ·rw [if_neg c4] at H; have bP : decide (1 ≤ aC) = false := decide_eq_false c4; clear c4; obtain rfl := Option.some.inj H
    go_enter Try.func82, Try.ntmps82
    go_wp2_with (first | ((with_reducible refine qb_ (N := 1) rfl ?_); (try (refine vd_ (by rfl) ?_; dsimp only)); refine bE_ 1 #[.int .i64 aD, .int .i64 aC, .string aO] 58 ?_; intro aJ hg w10 hbox hb; have aA := Zq_.mk (hbox); have aK := gW_ (w := w) hg (hB_ HB); have aL := gW_ (w := w) hg (hB_ HB); replace HB := sB_ HB hb; clear hb hbox hg; obtain ⟨bI, bH, bG⟩ := c3_ aA; obtain ⟨aZ, aY, aX⟩ := f3_ aA))
    go_ret
    exact ⟨by exact eW_, by exact hSet_ HB⟩
  ·rw [if_neg c3] at H; have bQ : decide (aD < 12) = false := decide_eq_false c3; clear c3; obtain rfl := Option.some.inj H
   go_enter Try.func82, Try.ntmps82
   go_wp2_with (first | ((with_reducible refine qb_ (N := 1) rfl ?_); (try (refine vd_ (by rfl) ?_; dsimp only)); refine bE_ 1 #[.int .i64 aD, .int .i64 aC, .string aO] 58 ?_; intro aJ hg w12 hbox hb; have aA := Zq_.mk (hbox); have aK := gW_ (w := w) hg (hB_ HB); have aL := gW_ (w := w) hg (hB_ HB); replace HB := sB_ HB hb; clear hb hbox hg; obtain ⟨bF, bE, bD⟩ := c3_ aA; obtain ⟨aW, aV, aU⟩ := f3_ aA))
   go_ret
   exact ⟨by exact eW_, by exact hSet_ HB⟩
 ·rw [if_neg c2] at H; have bO : decide (0 ≤ aD) = false := decide_eq_false c2; clear c2; obtain rfl := Option.some.inj H
  go_enter Try.func82, Try.ntmps82
  go_wp2_with (first | ((with_reducible refine qb_ (N := 1) rfl ?_); (try (refine vd_ (by rfl) ?_; dsimp only)); refine bE_ 1 #[.int .i64 aD, .int .i64 aC, .string aO] 58 ?_; intro aJ hg w14 hbox hb; have aA := Zq_.mk (hbox); have aK := gW_ (w := w) hg (hB_ HB); have aL := gW_ (w := w) hg (hB_ HB); replace HB := sB_ HB hb; clear hb hbox hg; obtain ⟨bC, bB, bA⟩ := c3_ aA; obtain ⟨aT, aS, aR⟩ := f3_ aA))
  go_ret
  exact ⟨by exact eW_, by exact hSet_ HB⟩
def entry_Right.l0 : Nat → Int → List (S58) → Int → Int → Option (Bool)
 | 0, _, _, _, _ => none
 | k + 1, x3, x6, x7, x8 => if x8 < x7 then (if 0 ≤ x8 then (if x8 < (x6.length : Int) then (if ((rd_T58 x6 x8).f0) ≤ x3 then (some false) else ((entry_May.f ((rd_T58 x6 x8).f0) ((rd_T58 x6 x8).f1) ((rd_T58 x6 x8).f2)).bind fun bW => (if bW = true then (entry_Right.l0 k ((rd_T58 x6 x8).f0) x6 x7 (wrap64 (x8 + 1))) else (some false)))) else (none)) else (none)) else (some true)
def entry_Right.f (k : Nat) (l0 : List (S58)) : Option (Bool) := entry_Right.l0 k (-1) l0 (l0.length : Int) 0
theorem entry_Right.mono_l : ∀ k, (∀ y0 y1 y2 y3, LeO (entry_Right.l0 k y0 y1 y2 y3) (entry_Right.l0 (k + 1) y0 y1 y2 y3))
 | 0 => fun _ _ _ _ r h => by simp [entry_Right.l0] at h
 | k + 1 => by
  have ih0 := entry_Right.mono_l k
  ·intro y0 y1 y2 y3
   unfold entry_Right.l0
   with_reducible repeat' first | exact ih0 _ _ _ _ | exact LeO.refl _ | exact LeO.none _ | refine LeO.ite ?_ ?_ | refine LeO.bind ?_ (fun _ => ?_)
theorem entry_Right.mono : ∀ a0 k, LeO (entry_Right.f k a0) (entry_Right.f (k + 1) a0) := by
 intro a0 k; have ih0 := entry_Right.mono_l k
 unfold entry_Right.f
 with_reducible repeat' first | exact ih0 _ _ _ _ | exact LeO.refl _ | exact LeO.none _ | refine LeO.ite ?_ ?_ | refine LeO.bind ?_ (fun _ => ?_)
theorem entry_Right.calls (k : Nat) (A0 : Option Addr) (c0 : Nat) (l0 : List (S58)) (r : Bool) (w : World) (hr0 : Kd.C k58 w A0 l0.length l0) (hc0 : l0.length ≤ c0) (h : entry_Right.f k l0 = some r) :
  Calls Try.prog 76 #[.slice A0 l0.length c0] w fun e w' => e = .returned (.bool r) ∧ Below w.heap.size w w' := by
 have hu58 := Try.underlying58; have HR0 := Zq_.mk hr0; have HC0 := Zq_.mk hc0; clear hr0 hc0; have HB := Zq_.mk (Below.refl w.heap.size w); have H : (entry_Right.l0 k (-1) l0 (l0.length : Int) 0) = some r := h; clear h; have H' := Zq_.mk H; clear H
 go_enter Try.func76, Try.ntmps76
 go_wp2
 go_loopg [3, 8] k (fun kq v3 v8 w' => ∃ (bK : Int) (aB : Int), v3 = .int .i64 bK ∧ v8 = .int .i64 aB ∧ Zq_ (entry_Right.l0 kq bK l0 (l0.length : Int) aB = some r) ∧ Zq_ (kq ≤ k) ∧ Zq_ (Below w.heap.size w w'))
 case atStart => exact ⟨((-1)), (0), eS_, eS_, H', ⟨Nat.le_refl _⟩, ⟨hB_ HB⟩⟩
 case round =>
  clear H'; obtain ⟨bK, aB, rfl, rfl, HA, HK1, HB⟩ := hrel
  cases gk with
  | zero => exact absurd HA.out (by simp [entry_Right.l0])
  | succ k1 =>
   have H := HA.out; clear HA; simp only [entry_Right.l0] at H
   by_cases c2 : aB < (l0.length : Int)
   ·rw [if_pos c2] at H; have bO : decide (aB < (l0.length : Int)) = true := decide_eq_true c2; clear c2
    by_cases c3 : 0 ≤ aB
    ·rw [if_pos c3] at H; have bQ : decide (0 ≤ aB) = true := decide_eq_true c3; clear c3
     by_cases c4 : aB < (l0.length : Int)
     ·rw [if_pos c4] at H; have bP : decide (aB < (l0.length : Int)) = true := decide_eq_true c4; clear c4
      by_cases c5 : ((rd_T58 l0 aB).f0) ≤ bK
      ·rw [if_pos c5] at H; have bN : decide (((rd_T58 l0 aB).f0) ≤ bK) = true := decide_eq_true c5; clear c5; obtain rfl := Option.some.inj H; have aN : 0 ≤ (aB : Int) := dA_; have aM : aB < (l0.length : Int) := dA_; obtain ⟨bT, bM, aG, aF, aE⟩ := at_T58 HR0.out aB aN aM; cases bM; replace aG := hC_ HB aG; replace aF := hC_ HB aF; replace aE := hC_ HB aE; replace aN := eq_true aN; replace aM := eq_true aM
       go_wp2_with (first | ((with_reducible refine qb_ (N := 5) rfl ?_); refine bE_ 5 #[.int .i64 0, .int .i64 0, .string (⟨#[]⟩ : ByteArray)] 58 ?_; intro bJ hg w6 hbox hb; have aH := Zq_.mk (hbox); have bU := gW_ (w := w) hg (hB_ HB); have bV := gW_ (w := w) hg (hB_ HB); replace HB := sB_ HB hb; clear hb hbox hg; obtain ⟨cC, cB, cA⟩ := c3_ aH; obtain ⟨bZ, bY, bX⟩ := f3_ aH))
       go_ret
       exact ⟨by exact eW_, by exact hSet_ HB⟩
      ·rw [if_neg c5] at H; have bN : decide (((rd_T58 l0 aB).f0) ≤ bK) = false := decide_eq_false c5; clear c5; replace H := ob_ H; obtain ⟨bW, A80, H⟩ := H; (try dsimp only at H); have A8 := Zq_.mk A80; clear A80
       by_cases c9 : bW = true
       ·subst c9
        rw [if_pos rfl] at H; have H' := Zq_.mk H; clear H; have aN : 0 ≤ (aB : Int) := dA_; have aM : aB < (l0.length : Int) := dA_; obtain ⟨bT, bM, aG, aF, aE⟩ := at_T58 HR0.out aB aN aM; cases bM; replace aG := hC_ HB aG; replace aF := hC_ HB aF; replace aE := hC_ HB aE; replace aN := eq_true aN; replace aM := eq_true aM
        go_wp2_with (first | ((with_reducible refine qb_ (N := 5) rfl ?_); refine bE_ 5 #[.int .i64 0, .int .i64 0, .string (⟨#[]⟩ : ByteArray)] 58 ?_; intro bJ hg w10 hbox hb; have aH := Zq_.mk (hbox); have bU := gW_ (w := w) hg (hB_ HB); have bV := gW_ (w := w) hg (hB_ HB); replace HB := sB_ HB hb; clear hb hbox hg; obtain ⟨bI, bH, bG⟩ := c3_ aH; obtain ⟨aZ, aY, aX⟩ := f3_ aH) | (go_at_call 82; (with_reducible refine (entry_May.calls ((rd_T58 l0 aB).f0) ((rd_T58 l0 aB).f1) ((rd_T58 l0 aB).f2) true _ A8.out).mono ?_); rintro e w12 ⟨rfl, hb⟩; replace aH := Zq_.mk (blk_below (g := bJ) (o := .cells #[.int .i64 ((rd_T58 l0 aB).f0), .int .i64 ((rd_T58 l0 aB).f1), .string ((rd_T58 l0 aB).f2)] 58 (0, 0)) (by refine bP_ (cs := #[.int .i64 ((rd_T58 l0 aB).f0), .int .i64 ((rd_T58 l0 aB).f1), .string (⟨#[]⟩ : ByteArray)]) 2 ?_; refine bP_ (cs := #[.int .i64 ((rd_T58 l0 aB).f0), .int .i64 0, .string (⟨#[]⟩ : ByteArray)]) 1 ?_; refine bP_ (cs := #[.int .i64 0, .int .i64 0, .string (⟨#[]⟩ : ByteArray)]) 0 ?_; exact bK_ aH) hb); replace HB := sB_ HB hb; (try clear hb); obtain ⟨bF, bE, bD⟩ := c3_ aH; obtain ⟨aW, aV, aU⟩ := f3_ aH))
        go_roundg k1
        case measure => have := HK1.out; omega
        case rel => exact ⟨((rd_T58 l0 aB).f0), (wrap64 (aB + 1)), eS_, eS_, H', ⟨by have := HK1.out; omega⟩, ⟨by exact hSet_ HB⟩⟩
       ·replace c9 := Bool.eq_false_iff.mpr c9; subst c9
        have H1 : (some false) = some r := by rw [if_neg (show ¬ (false = true) by decide)] at H; exact H
        clear H; have H := H1; clear H1; obtain rfl := Option.some.inj H; have aN : 0 ≤ (aB : Int) := dA_; have aM : aB < (l0.length : Int) := dA_; obtain ⟨bT, bM, aG, aF, aE⟩ := at_T58 HR0.out aB aN aM; cases bM; replace aG := hC_ HB aG; replace aF := hC_ HB aF; replace aE := hC_ HB aE; replace aN := eq_true aN; replace aM := eq_true aM
        go_wp2_with (first | ((with_reducible refine qb_ (N := 5) rfl ?_); refine bE_ 5 #[.int .i64 0, .int .i64 0, .string (⟨#[]⟩ : ByteArray)] 58 ?_; intro bJ hg w14 hbox hb; have aH := Zq_.mk (hbox); have bU := gW_ (w := w) hg (hB_ HB); have bV := gW_ (w := w) hg (hB_ HB); replace HB := sB_ HB hb; clear hb hbox hg; obtain ⟨bC, bB, bA⟩ := c3_ aH; obtain ⟨aT, aS, aR⟩ := f3_ aH) | (go_at_call 82; (with_reducible refine (entry_May.calls ((rd_T58 l0 aB).f0) ((rd_T58 l0 aB).f1) ((rd_T58 l0 aB).f2) false _ A8.out).mono ?_); rintro e w16 ⟨rfl, hb⟩; replace aH := Zq_.mk (blk_below (g := bJ) (o := .cells #[.int .i64 ((rd_T58 l0 aB).f0), .int .i64 ((rd_T58 l0 aB).f1), .string ((rd_T58 l0 aB).f2)] 58 (0, 0)) (by refine bP_ (cs := #[.int .i64 ((rd_T58 l0 aB).f0), .int .i64 ((rd_T58 l0 aB).f1), .string (⟨#[]⟩ : ByteArray)]) 2 ?_; refine bP_ (cs := #[.int .i64 ((rd_T58 l0 aB).f0), .int .i64 0, .string (⟨#[]⟩ : ByteArray)]) 1 ?_; refine bP_ (cs := #[.int .i64 0, .int .i64 0, .string (⟨#[]⟩ : ByteArray)]) 0 ?_; exact bK_ aH) hb); replace HB := sB_ HB hb; (try clear hb)))
        go_ret
        exact ⟨by exact eW_, by exact hSet_ HB⟩
     ·rw [if_neg c4] at H; exact absurd H (by simp)
    ·rw [if_neg c3] at H; exact absurd H (by simp)
   ·rw [if_neg c2] at H; have bO : decide (aB < (l0.length : Int)) = false := decide_eq_false c2; clear c2; obtain rfl := Option.some.inj H
    go_wp2
    go_ret
    exact ⟨by exact eW_, hB_ HB⟩
def state_Right.f (k : Nat) (aD : Int) (aC : Int) (aI : List (S58)) : Option (Bool) := if aD ≥ 1 then (if aD ≤ 1099511627776 then (if aC ≥ 0 then (if aC ≤ 1099511627776 then ((entry_Right.f k aI).bind fun bL => (some bL)) else (some false)) else (some false)) else (some false)) else (some false)
theorem state_Right.mono : ∀ a0 a1 a2 k, LeO (state_Right.f k a0 a1 a2) (state_Right.f (k + 1) a0 a1 a2) := by
 intro a0 a1 a2 k
 unfold state_Right.f
 with_reducible repeat' first | exact entry_Right.mono _ _ | exact LeO.refl _ | exact LeO.none _ | refine LeO.ite ?_ ?_ | refine LeO.bind ?_ (fun _ => ?_)
theorem state_Right.calls (k : Nat) (aD : Int) (aC : Int) (aQ : Option Addr) (aP : Nat) (aI : List (S58)) (r : Bool) (w : World) (bR : Kd.C k58 w aQ aI.length aI) (bS : aI.length ≤ aP) (h : state_Right.f k aD aC aI = some r) :
  Calls Try.prog 63 #[.agg #[.int .i64 aD, .int .i64 aC, .slice aQ aI.length aP]] w fun e w' => e = .returned (.bool r) ∧ Below w.heap.size w w' := by
 have hu35 := Try.underlying35; have cD := Zq_.mk bR; have cE := Zq_.mk bS; clear bR bS; have HB := Zq_.mk (Below.refl w.heap.size w); have H : (if aD ≥ 1 then (if aD ≤ 1099511627776 then (if aC ≥ 0 then (if aC ≤ 1099511627776 then ((entry_Right.f k aI).bind fun bL => (some bL)) else (some false)) else (some false)) else (some false)) else (some false)) = some r := h; clear h
 by_cases c2 : aD ≥ 1
 ·rw [if_pos c2] at H; have bO : decide (1 ≤ aD) = true := decide_eq_true c2; clear c2
  by_cases c3 : aD ≤ 1099511627776
  ·rw [if_pos c3] at H; have bQ : decide (aD ≤ 1099511627776) = true := decide_eq_true c3; clear c3
   by_cases c4 : aC ≥ 0
   ·rw [if_pos c4] at H; have bP : decide (0 ≤ aC) = true := decide_eq_true c4; clear c4
    by_cases c5 : aC ≤ 1099511627776
    ·rw [if_pos c5] at H; have bN : decide (aC ≤ 1099511627776) = true := decide_eq_true c5; clear c5; replace H := ob_ H; obtain ⟨bL, A60, H⟩ := H; (try dsimp only at H); have A6 := Zq_.mk A60; clear A60; obtain rfl := Option.some.inj H
     go_enter Try.func63, Try.ntmps63
     go_wp2_with (first | ((with_reducible refine qb_ (N := 1) rfl ?_); refine bE_ 1 #[.int .i64 aD, .int .i64 aC, .slice aQ aI.length aP] 35 ?_; intro aJ hg w7 hbox hb; have aA := Zq_.mk (hbox); have aK := gW_ (w := w) hg (hB_ HB); have aL := gW_ (w := w) hg (hB_ HB); replace HB := sB_ HB hb; clear hb hbox hg; obtain ⟨hcz8_0, hcz8_1, hcz8_2⟩ := c3_ aA; obtain ⟨hfz8_0, hfz8_1, hfz8_2⟩ := f3_ aA) | (go_at_call 76; (with_reducible refine (entry_Right.calls k _ _ aI bL _ ?side1 ?side2 A6.out).mono ?_); (case side1 => exact cX_ (Kd.qf_ cD.out HB.out)); (case side2 => exact cE.out); rintro e w9 ⟨rfl, hb⟩; replace aA := kB_ aA hb; replace HB := sB_ HB hb; (try clear hb)))
     go_ret
     exact ⟨by exact eW_, by exact hSet_ HB⟩
    ·rw [if_neg c5] at H; have bN : decide (aC ≤ 1099511627776) = false := decide_eq_false c5; clear c5; obtain rfl := Option.some.inj H
     go_enter Try.func63, Try.ntmps63
     go_wp2_with (first | ((with_reducible refine qb_ (N := 1) rfl ?_); refine bE_ 1 #[.int .i64 aD, .int .i64 aC, .slice aQ aI.length aP] 35 ?_; intro aJ hg w10 hbox hb; have aA := Zq_.mk (hbox); have aK := gW_ (w := w) hg (hB_ HB); have aL := gW_ (w := w) hg (hB_ HB); replace HB := sB_ HB hb; clear hb hbox hg; obtain ⟨bI, bH, bG⟩ := c3_ aA; obtain ⟨aZ, aY, aX⟩ := f3_ aA))
     go_ret
     exact ⟨by exact eW_, by exact hSet_ HB⟩
   ·rw [if_neg c4] at H; have bP : decide (0 ≤ aC) = false := decide_eq_false c4; clear c4; obtain rfl := Option.some.inj H
    go_enter Try.func63, Try.ntmps63
    go_wp2_with (first | ((with_reducible refine qb_ (N := 1) rfl ?_); refine bE_ 1 #[.int .i64 aD, .int .i64 aC, .slice aQ aI.length aP] 35 ?_; intro aJ hg w12 hbox hb; have aA := Zq_.mk (hbox); have aK := gW_ (w := w) hg (hB_ HB); have aL := gW_ (w := w) hg (hB_ HB); replace HB := sB_ HB hb; clear hb hbox hg; obtain ⟨bF, bE, bD⟩ := c3_ aA; obtain ⟨aW, aV, aU⟩ := f3_ aA))
    go_ret
    exact ⟨by exact eW_, by exact hSet_ HB⟩
  ·rw [if_neg c3] at H; have bQ : decide (aD ≤ 1099511627776) = false := decide_eq_false c3; clear c3; obtain rfl := Option.some.inj H
   go_enter Try.func63, Try.ntmps63
   go_wp2_with (first | ((with_reducible refine qb_ (N := 1) rfl ?_); refine bE_ 1 #[.int .i64 aD, .int .i64 aC, .slice aQ aI.length aP] 35 ?_; intro aJ hg w14 hbox hb; have aA := Zq_.mk (hbox); have aK := gW_ (w := w) hg (hB_ HB); have aL := gW_ (w := w) hg (hB_ HB); replace HB := sB_ HB hb; clear hb hbox hg; obtain ⟨bC, bB, bA⟩ := c3_ aA; obtain ⟨aT, aS, aR⟩ := f3_ aA))
   go_ret
   exact ⟨by exact eW_, by exact hSet_ HB⟩
 ·rw [if_neg c2] at H; have bO : decide (1 ≤ aD) = false := decide_eq_false c2; clear c2; obtain rfl := Option.some.inj H
  go_enter Try.func63, Try.ntmps63
  go_wp2_with (first | ((with_reducible refine qb_ (N := 1) rfl ?_); refine bE_ 1 #[.int .i64 aD, .int .i64 aC, .slice aQ aI.length aP] 35 ?_; intro aJ hg w16 hbox hb; have aA := Zq_.mk (hbox); have aK := gW_ (w := w) hg (hB_ HB); have aL := gW_ (w := w) hg (hB_ HB); replace HB := sB_ HB hb; clear hb hbox hg; obtain ⟨hcz17_0, hcz17_1, hcz17_2⟩ := c3_ aA; obtain ⟨hfz17_0, hfz17_1, hfz17_2⟩ := f3_ aA))
  go_ret
  exact ⟨by exact eW_, by exact hSet_ HB⟩
def entry_Top.l0 : Nat → Int → List (S58) → Int → Int → Option (Int)
 | 0, _, _, _, _ => none
 | k + 1, x3, x6, x7, x8 => if x8 < x7 then (if 0 ≤ x8 then (if x8 < (x6.length : Int) then (entry_Top.l0 k (mx x3 ((rd_T58 x6 x8).f1)) x6 x7 (wrap64 (x8 + 1))) else (none)) else (none)) else (some x3)
def entry_Top.f (k : Nat) (l0 : List (S58)) : Option (Int) := entry_Top.l0 k 0 l0 (l0.length : Int) 0
theorem entry_Top.mono_l : ∀ k, (∀ y0 y1 y2 y3, LeO (entry_Top.l0 k y0 y1 y2 y3) (entry_Top.l0 (k + 1) y0 y1 y2 y3))
 | 0 => fun _ _ _ _ r h => by simp [entry_Top.l0] at h
 | k + 1 => by
  have ih0 := entry_Top.mono_l k
  ·intro y0 y1 y2 y3
   unfold entry_Top.l0
   with_reducible repeat' first | exact ih0 _ _ _ _ | exact LeO.refl _ | exact LeO.none _ | refine LeO.ite ?_ ?_ | refine LeO.bind ?_ (fun _ => ?_)
theorem entry_Top.mono : ∀ a0 k, LeO (entry_Top.f k a0) (entry_Top.f (k + 1) a0) := by
 intro a0 k; have ih0 := entry_Top.mono_l k
 unfold entry_Top.f
 with_reducible repeat' first | exact ih0 _ _ _ _ | exact LeO.refl _ | exact LeO.none _ | refine LeO.ite ?_ ?_ | refine LeO.bind ?_ (fun _ => ?_)
theorem entry_Top.calls (k : Nat) (A0 : Option Addr) (c0 : Nat) (l0 : List (S58)) (r : Int) (w : World) (hr0 : Kd.C k58 w A0 l0.length l0) (hc0 : l0.length ≤ c0) (h : entry_Top.f k l0 = some r) :
  Calls Try.prog 70 #[.slice A0 l0.length c0] w fun e w' => e = .returned (.int .i64 r) ∧ Below w.heap.size w w' := by
 have hu58 := Try.underlying58; have HR0 := Zq_.mk hr0; have HC0 := Zq_.mk hc0; clear hr0 hc0; have HB := Zq_.mk (Below.refl w.heap.size w); have H : (entry_Top.l0 k 0 l0 (l0.length : Int) 0) = some r := h; clear h; have H' := Zq_.mk H; clear H
 go_enter Try.func70, Try.ntmps70
 go_wp2
 go_loopg [3, 8] k (fun kq v3 v8 w' => ∃ (aI : Int) (aA : Int), v3 = .int .i64 aI ∧ v8 = .int .i64 aA ∧ Zq_ (entry_Top.l0 kq aI l0 (l0.length : Int) aA = some r) ∧ Zq_ (kq ≤ k) ∧ Zq_ (Below w.heap.size w w'))
 case atStart => exact ⟨(0), (0), eS_, eS_, H', ⟨Nat.le_refl _⟩, ⟨hB_ HB⟩⟩
 case round =>
  clear H'; obtain ⟨aI, aA, rfl, rfl, HA, HK1, HB⟩ := hrel
  cases gk with
  | zero => exact absurd HA.out (by simp [entry_Top.l0])
  | succ k1 =>
   have H := HA.out; clear HA; simp only [entry_Top.l0] at H
   by_cases c2 : aA < (l0.length : Int)
   ·rw [if_pos c2] at H; have c2b0 : decide (aA < (l0.length : Int)) = true := decide_eq_true c2; clear c2
    by_cases c3 : 0 ≤ aA
    ·rw [if_pos c3] at H; have c3b0 : decide (0 ≤ aA) = true := decide_eq_true c3; clear c3
     by_cases c4 : aA < (l0.length : Int)
     ·rw [if_pos c4] at H; have c4b0 : decide (aA < (l0.length : Int)) = true := decide_eq_true c4; clear c4; obtain ⟨ji5, aK⟩ : ∃ j_ : Int, (mx aI ((rd_T58 l0 aA).f1)) = j_ := ⟨_, rfl⟩
      replace H : (entry_Top.l0 k1 ji5 l0 (l0.length : Int) (wrap64 (aA + 1))) = some r := by first | (rw [aK] at H; exact H) | (simp only [aK] at H ⊢; exact H)
      have hji5_ : (if aI < ((rd_T58 l0 aA).f1) then ((rd_T58 l0 aA).f1) else aI) = ji5 := aK; have H' := Zq_.mk H; clear H; have aS : 0 ≤ (aA : Int) := dA_; have aR : aA < (l0.length : Int) := dA_; obtain ⟨ad101, e101, aH, aG, aF⟩ := at_T58 HR0.out aA aS aR; cases e101; replace aH := hC_ HB aH; replace aG := hC_ HB aG; replace aF := hC_ HB aF; replace aS := eq_true aS; replace aR := eq_true aR
      go_wp2_with (first | ((with_reducible refine qb_ (N := 5) rfl ?_); refine bE_ 5 #[.int .i64 0, .int .i64 0, .string (⟨#[]⟩ : ByteArray)] 58 ?_; intro gb102 hg w6 hbox hb; have aQ := Zq_.mk (hbox); have GW102 := gW_ (w := w) hg (hB_ HB); have GE102 := gW_ (w := w) hg (hB_ HB); replace HB := sB_ HB hb; clear hb hbox hg; obtain ⟨hcz7_0, hcz7_1, hcz7_2⟩ := c3_ aQ; obtain ⟨hfz7_0, hfz7_1, hfz7_2⟩ := f3_ aQ))
      go_roundg k1
      case measure => have := HK1.out; omega
      case rel => exact ⟨(ji5), (wrap64 (aA + 1)), (by first | rfl | (simp; done) | (simp only [← aK] <;> (first | rfl | simp)) | (simp [*]; done)), eS_, H', ⟨by have := HK1.out; omega⟩, ⟨by exact hSet_ HB⟩⟩
     ·rw [if_neg c4] at H; exact absurd H (by simp)
    ·rw [if_neg c3] at H; exact absurd H (by simp)
   ·rw [if_neg c2] at H; have c2b0 : decide (aA < (l0.length : Int)) = false := decide_eq_false c2; clear c2; obtain rfl := Option.some.inj H
    go_wp2
    go_ret
    exact ⟨by exact eW_, hB_ HB⟩
def state_Top.f (k : Nat) (aM : Int) (aD : Int) (aC : List (S58)) : Option (Int) := (entry_Top.f k aC).bind fun aE => (some (mx aD aE))
theorem state_Top.mono : ∀ a0 a1 a2 k, LeO (state_Top.f k a0 a1 a2) (state_Top.f (k + 1) a0 a1 a2) := by
 intro a0 a1 a2 k
 unfold state_Top.f
 with_reducible repeat' first | exact entry_Top.mono _ _ | exact LeO.refl _ | exact LeO.none _ | refine LeO.ite ?_ ?_ | refine LeO.bind ?_ (fun _ => ?_)
theorem state_Top.calls (k : Nat) (aM : Int) (aD : Int) (aN : Option Addr) (aL : Nat) (aC : List (S58)) (r : Int) (w : World) (aO : Kd.C k58 w aN aC.length aC) (aP : aC.length ≤ aL) (h : state_Top.f k aM aD aC = some r) :
  Calls Try.prog 53 #[.agg #[.int .i64 aM, .int .i64 aD, .slice aN aC.length aL]] w fun e w' => e = .returned (.int .i64 r) ∧ Below w.heap.size w w' := by
 have hu35 := Try.underlying35; have aT := Zq_.mk aO; have aU := Zq_.mk aP; clear aO aP; have HB := Zq_.mk (Below.refl w.heap.size w); have H : ((entry_Top.f k aC).bind fun aE => (some (mx aD aE))) = some r := h; clear h; replace H := ob_ H; obtain ⟨aE, A20, H⟩ := H; (try dsimp only at H); have A2 := Zq_.mk A20; clear A20; obtain ⟨ji3, aJ⟩ : ∃ j_ : Int, (mx aD aE) = j_ := ⟨_, rfl⟩
 replace H : (some ji3) = some r := by first | (rw [aJ] at H; exact H) | (simp only [aJ] at H ⊢; exact H)
 (try rw [aJ] at A2); have hji3_ : (if aD < aE then aE else aD) = ji3 := aJ; obtain rfl := Option.some.inj H
 go_enter Try.func53, Try.ntmps53
 try go_wp2_with (first | ((with_reducible refine qb_ (N := 1) rfl ?_); refine bE_ 1 #[.int .i64 aM, .int .i64 aD, .slice aN aC.length aL] 35 ?_; intro gb101 hg w4 hbox hb; have aB := Zq_.mk (hbox); have GW101 := gW_ (w := w) hg (hB_ HB); have GE101 := gW_ (w := w) hg (hB_ HB); replace HB := sB_ HB hb; clear hb hbox hg))
 replace aB := Zq_.mk (qc_ aB.out); replace HB := Zq_.mk (qe_ HB.out); refine gS_ 7 (hA_ (b0_ aB) (hA_ (b1_ aB) (hZ_ (b2_ aB)))) (fun hHeld => ?_); generalize w4.drew = w5 at aB HB hHeld ⊢; refine pure_ (i := 0) (N := some 3) (v := ?_) (a' := ?_) (bz_ 7 1) rfl rfl (by kernel_rfl) (fun _ _ _ h => h) (Or.inl ⟨by rfl, ?_⟩) ?_ ?_; rotate_left; (focus intro w'; go_simp; (with_reducible rfl)); rotate_left; (focus simp only [Act.put, sa_, sb_, sc_, i64_w, i32_w]; rfl); refine pure_ (i := 2) (N := some 5) (v := ?_) (a' := ?_) (bz_ 7 5) rfl rfl (by kernel_rfl) (fun _ _ _ h => h) (Or.inl ⟨by rfl, ?_⟩) ?_ ?_; rotate_left; (focus intro w'; go_simp; (with_reducible rfl)); rotate_left; (focus simp only [Act.put, sa_, sb_, sc_, i64_w, i32_w]; rfl); refine take_ (i := 1) (N := some 4) (v := ?_) (a' := ?_) (bz_ 7 7) rfl rfl (by kernel_rfl) (fun _ _ _ h => h) (Or.inl ⟨by rfl, ?_⟩) hHeld ?_ ?_; rotate_left; (focus rintro w' ⟨s0, s1, s2⟩; go_simp; (with_reducible rfl)); rotate_left; (focus simp only [Act.put, sa_, sb_, sc_, i64_w, i32_w]; rfl); refine take_ (i := 3) (N := some 6) (v := ?_) (a' := ?_) (bz_ 7 15) rfl rfl (by kernel_rfl) (fun _ _ _ h => h) (Or.inl ⟨by rfl, ?_⟩) hHeld ?_ ?_; rotate_left; (focus rintro w' ⟨s0, s1, s2⟩; go_simp; (with_reducible rfl)); rotate_left; (focus simp only [Act.put, sa_, sb_, sc_, i64_w, i32_w]; rfl); refine one_ (i := 4) (N := some 7) (bz_ 7 31) rfl rfl (by kernel_rfl) (by decide) (fun K hK => ?_); refine goes_ Try.func70 (by kernel_rfl) rfl #[.slice aN aC.length aL] (by rfl) rfl rfl aR_ ?_
 with_reducible refine (entry_Top.calls k _ _ aC aE _ ?side1 ?side2 A2.out).mono ?_
 (case side1 => exact cX_ (Kd.qf_ aT.out HB.out)); (case side2 => exact aU.out); rintro e w6 ⟨rfl, hb⟩; refine ⟨_, rfl, ?_⟩; replace aB := kB_ aB hb; replace HB := sB_ HB hb; (try clear hb); refine hK.out _ _ (c3_ aB) (fun hHeld => ?_); clear hK K; refine norm_ (a' := ?_) ?_ ?_; rotate_left
 ·show Act.put _ (some 7) _ = _
  simp only [Act.put, sa_, sb_, sc_, i64_w, i32_w]; rfl
 refine pure_ (i := 5) (N := some 8) (v := ?_) (a' := ?_) (bz_ 7 63) rfl rfl (by kernel_rfl) (fun _ _ _ h => h) (Or.inl ⟨by rfl, ?_⟩) ?_ ?_; rotate_left; (focus intro w'; go_simp; (with_reducible rfl)); rotate_left; (focus simp only [Act.put, sa_, sb_, sc_, i64_w, i32_w]; rfl); refine pure_ (i := 6) (N := some 2) (v := ?_) (a' := ?_) (bz_ 7 127) rfl rfl (by kernel_rfl) (fun _ _ _ h => h) (Or.inl ⟨by rfl, ?_⟩) ?_ ?_; rotate_left; (focus intro w'; go_simp; (with_reducible rfl)); rotate_left; (focus simp only [Act.put, sa_, sb_, sc_, i64_w, i32_w]; rfl); refine done_ (by kernel_rfl) ?_; (try go_wp2)
 go_ret
 exact ⟨by first | rfl | (simp [errW_none, errW_some] <;> rfl) | (simp only [← aJ]; first | rfl | (simp [errW_none, errW_some] <;> rfl)) | (simp [*, errW_none, errW_some] <;> rfl), by exact hSet_ HB⟩
open Go.Proofs.YtgipbmjkgciccaaW.Hw in
theorem DeleteFuncE.calls (p : S58 → Bool) (g : Nat) (lb : Array Value) (eg : ∀ args w, (callFunc g args).run Try.prog w = .ok (.enter g args) w) (v : Value) (l0 : List S58) (base : Nat) (ok : Nat → Prop) (w : World)
  (hp : PredR Try.prog k58 g lb aggOf p w v.ownBlock) (hR : Kd.R k58 58 w base ok v l0) (hbase : base ≤ w.heap.size) :
  Calls Try.prog 74 #[v, .func (.func g) #[] lb] w fun e w' => ∃ v', e = .returned v' ∧ Kd.R k58 58 w' base ok v' (l0.filter (fun x => !p x)) ∧ w.grownBy w' v.ownBlock ∧ v'.ownBlock = v.ownBlock := by
 obtain ⟨A0, c0, rfl, hlc, hC⟩ := Kd.R_reads hR; have hcall := IndexFuncE.calls p g lb eg A0 c0 l0 w hp.k hC; have hrange := idxI_range p l0; generalize hix : idxI p l0 = ix at hcall hrange
 by_cases hm : ix = -1
 ·subst hm; have hfin := filter_miss hix; have HR := Zq_.mk hR; have HF := Zq_.mk hfin; clear hR hp hC hix hfin hlc hrange hbase
  go_enter Try.func74, Try.ntmps74
  go_wp2_with fail
  refine hcall.mono ?_; rintro e w1 ⟨rfl, hb1⟩
  go_wp2_with fail
  go_ret
  refine ⟨_, rfl, ?_, grown_of_below hb1 _, rfl⟩; rw [HF.out]; exact Kd.qk_ HR.out hb1
 ·obtain ⟨i0, rfl⟩ := Int.eq_ofNat_of_zero_le (show 0 ≤ ix by omega); have hmb : decide ((i0 : Int) = -1) = false := decide_eq_false hm; have hme : ((i0 : Int) == -1) = false := beq_false_of_ne hm
  have hlen : 0 < l0.length := by omega
  obtain ⟨gr, cap, hv, hgb, hglt, _, _⟩ := Kd.R_form hR hlen
  injection hv with hA _ hc
  subst hA; subst hc; have HR0 := Zq_.mk hR; have HP := Zq_.mk hp; have HS := Zq_.mk (Filt.start hix); have HM := Zq_.mk (Kd.C_max hC); have HLC := Zq_.mk hlc; have HG := Zq_.mk hglt; have HGB := Zq_.mk hgb; have HBS := Zq_.mk hbase; have HI0 := Zq_.mk hrange; have hw0 := Zq_.mk (show wrap64 ((i0 : Int) + 1) = ((i0 + 1 : Nat) : Int) by have := HM.out; have := HI0.out; unfold wrap64; omega); clear hR hp hC hix hlc hrange hbase hglt hgb hlen hm
  go_enter Try.func74, Try.ntmps74
  go_wp2_with fail
  refine hcall.mono ?_; rintro e w1 ⟨rfl, hb1⟩; have HB1 := Zq_.mk hb1; clear hb1 hcall
  go_wp2_with fail
  go_loopg [5, 6, 7] l0.length (fun gg s5 s6 _ wr => ∃ (i j : Int) (cur : List S58), s5 = .int .i64 i ∧ s6 = .int .i64 j ∧ Zq_ (0 ≤ i ∧ 0 ≤ j ∧ l0.length - j.toNat ≤ gg) ∧ Zq_ (Filt (fun x => !p x) l0 cur i.toNat j.toNat) ∧ Zq_ (w.grownBy wr (some gr)) ∧ Zq_ (Kd.R k58 58 wr base ok (.slice (some ⟨gr, 0, none⟩) l0.length c0) cur))
  case atStart => exact ⟨(i0 : Int), wrap64 ((i0 : Int) + 1), l0, rfl, rfl, ⟨by rw [hw0.out]; omega⟩, ⟨by rw [hw0.out]; simpa using HS.out⟩, ⟨grown_of_below HB1.out _⟩, ⟨Kd.qk_ HR0.out HB1.out⟩⟩
  case round =>
   obtain ⟨i, j, cur, rfl, rfl, HI, HF, HW, HR⟩ := hrel; have hlen := HF.out.len
   by_cases hlt : j < (l0.length : Int)
   ·have hltb : decide (j < (l0.length : Int)) = true := decide_eq_true hlt; have p1 := HI.out.2.1; have q1 := HI.out.1
    have hil : i < (l0.length : Int) := by have := HF.out.ij; have := HF.out.jn; omega
    obtain ⟨c, hcl, hM, hcc, hfr⟩ := Kd.R_elem HR.out z58 j p1 hlt; obtain ⟨x, hx⟩ : ∃ x, x = cur.getD j.toNat z58 := ⟨_, rfl⟩; rw [← hx] at hM; obtain rfl := k58_openM hM; obtain ⟨co, hclo, hMo, hcco, hfro⟩ := Kd.R_elem HR.out z58 i q1 hil; obtain rfl := k58_openM hMo; have hx_0 := hcc 0 _ rfl; have hx_1 := hcc 1 _ rfl; have hx_2 := hcc 2 _ rfl; simp only [show (k58).sz = 3 from rfl, Nat.add_zero] at hx_0 hx_1 hx_2
    have hcl2 : ∀ W, w.grownBy W (some gr) → Calls Try.prog g (#[.agg #[.int .i64 x.f0, .int .i64 x.f1, .string x.f2]] ++ lb) W (fun e w1 => e = .returned (.bool (p x)) ∧ Below W.heap.size W w1) := fun W hW => HP.out W x [.int .i64 x.f0, .int .i64 x.f1, .string x.f2] hW (k58_mk W x)
    have HL := Zq_.mk hlt; have HIL := Zq_.mk hil; have HX := Zq_.mk hx; have HN := Zq_.mk hlen; have HCC := Zq_.mk hcco; replace p1 := eq_true p1; replace q1 := eq_true q1; replace hlt := eq_true hlt; replace hil := eq_true hil; have hwj := Zq_.mk (show wrap64 (j + 1) = j + 1 by have := HI.out; have := HM.out; have := HL.out; unfold wrap64; omega); have hwi := Zq_.mk (show wrap64 (i + 1) = i + 1 by have := HI.out; have := HM.out; have := HIL.out; unfold wrap64; omega); clear hcl hM hcc hfr hclo hMo hcco hfro hx hlen
    go_wp2_with (first | ((with_reducible refine qb_ (N := 7) rfl ?_); refine bE_ 7 #[.int .i64 0, .int .i64 0, .string (⟨#[]⟩ : ByteArray)] 58 ?_; intro gb hgb w2 hbox hb2; have HBX := Zq_.mk hbox; have HB2 := Zq_.mk hb2; have HGE := Zq_.mk hgb; have hcz_0 : w2.cell? ⟨gb, 0, none⟩ = some (.int .i64 0) := (qg_ hbox 0).trans rfl; have hcz_1 : w2.cell? ⟨gb, 1, none⟩ = some (.int .i64 0) := (qg_ hbox 1).trans rfl; have hcz_2 : w2.cell? ⟨gb, 2, none⟩ = some (.string (⟨#[]⟩ : ByteArray)) := (qg_ hbox 2).trans rfl; have hfz_0 := qh_ hbox 0; have hfz_1 := qh_ hbox 1; have hfz_2 := qh_ hbox 2; clear hgb hbox hb2))
    have hge : wr.heap.size ≤ gb := by rw [HGE.out]; exact Nat.le_refl _
    have HBT := below_set (below_set (below_set HB2.out hge (j := 0) (v := .int .i64 x.f0)) hge (j := 1) (v := .int .i64 x.f1)) hge (j := 2) (v := .string x.f2); have hcl3 := hcl2 _ (grown_bel HW.out HBT); have HB0 := Zq_.mk HBT; have BK0 := Zq_.mk (blk_set (blk_set (blk_set HBX.out 0 (.int .i64 x.f0)) 1 (.int .i64 x.f1)) 2 (.string x.f2)); clear hcl2 HBT
    cases hq : p x with
    | true =>
     rw [hq] at hcl3; have HQ := Zq_.mk hq; clear hq; refine hcl3.mono ?_; rintro e w3 ⟨rfl, hb3⟩; have HB3 := Zq_.mk (vf_ HB0.out hb3); clear hb3 hcl3
     go_wp2_with fail
     go_roundg (l0.length - (j.toNat + 1))
     case measure => have h1 := HI.out; have h2 := HL.out; omega
     case rel => exact ⟨i, wrap64 (j + 1), cur, eS_, eS_, ⟨by rw [hwj.out]; have h1 := HI.out; have h2 := HL.out; omega⟩, ⟨by rw [hwj.out, show (j + 1).toNat = j.toNat + 1 by have h1 := HI.out; omega]; exact HF.out.skip z58 (by have h1 := HI.out; have h2 := HL.out; omega) (by simp only [← HX.out, HQ.out, Bool.not_true])⟩, ⟨grown_bel HW.out HB3.out⟩, ⟨Kd.qk_ HR.out HB3.out⟩⟩
    | false =>
     rw [hq] at hcl3; have HQ := Zq_.mk hq; clear hq; refine hcl3.mono ?_; rintro e w3 ⟨rfl, hb3⟩; have HB3 := Zq_.mk (vf_ HB0.out hb3); have BK3 := Zq_.mk (blk_bel BK0.out hb3); have hy_0 : w3.cell? ⟨gb, 0, none⟩ = some (.int .i64 x.f0) := (qg_ BK3.out 0).trans rfl; have hy_1 : w3.cell? ⟨gb, 1, none⟩ = some (.int .i64 x.f1) := (qg_ BK3.out 1).trans rfl; have hy_2 : w3.cell? ⟨gb, 2, none⟩ = some (.string x.f2) := (qg_ BK3.out 2).trans rfl; have HR3 := Zq_.mk (Kd.qk_ HR.out HB3.out); have HW3 := Zq_.mk (grown_bel HW.out HB3.out); have HBb := Zq_.mk (show Below base w w3 from (Below.refl base w).grown HW3.out HBS.out (fun k hk => by cases hk; exact HGB.out)); clear hb3 hcl3
     go_wp2_with (first | ((with_reducible refine gate_store (t := 58) (p := 33) rfl ?_); refine Kd.R_store k58 (w0 := w) (W := w3) base rfl rfl 58 (.tmp 33) (.tmp 32) rfl 58 (g := gr) (n := l0.length) (cap := c0) (o' := i.toNat * 3) i 0 cur x (.agg #[.int .i64 x.f0, .int .i64 x.f1, .string x.f2]) [.int .i64 x.f0, .int .i64 x.f1, .string x.f2] [.int .i64 (cur.getD i.toNat z58).f0, .int .i64 (cur.getD i.toNat z58).f1, .string (cur.getD i.toNat z58).f2] ok (fun k => ok k ∧ k ≠ gr) ?ha ?ho ?hx rfl (by kernel_rfl) ?h1 HR3.out (of_eq_true q1) (of_eq_true hil) rfl ?hcc (show (3 : Nat) ≤ 3 from Nat.le_refl 3) (k58_mkM w3 base _ x) (fun _ hk => hk) HBb.out ?_; (case ha => first | rfl | (go_simp; done) | (go_simp; rfl)); (case ho => first | rfl | (simp; done)); (case hx => first | rfl | (go_simp; done) | (go_simp; rfl)); (case h1 => intro q hq_; simp only [List.mem_cons, List.not_mem_nil, or_false] at hq_; rcases hq_ with rfl | rfl | rfl <;> rfl); (case hcc => intro jj u hu; rw [show w3.cell? ⟨gr, i.toNat * (k58).sz + jj, none⟩ = wr.cell? ⟨gr, i.toNat * (k58).sz + jj, none⟩ from HB3.out.cell (p := ⟨gr, i.toNat * (k58).sz + jj, none⟩) (wb_ wr _ (HCC.out jj u hu))]; exact HCC.out jj u hu); intro w4 hR4 hB4 hg4; have HR4 := Zq_.mk hR4; have HW4 := Zq_.mk (World.grownBy.trans HW3.out hg4); clear hR4 hB4 hg4))
     go_roundg (l0.length - (j.toNat + 1))
     case measure => have h1 := HI.out; have h2 := HL.out; omega
     case rel => exact ⟨wrap64 (i + 1), wrap64 (j + 1), cur.set i.toNat x, eS_, eS_, ⟨by rw [hwj.out, hwi.out]; have h1 := HI.out; have h2 := HL.out; omega⟩, ⟨by rw [hwj.out, hwi.out, show (j + 1).toNat = j.toNat + 1 by have h1 := HI.out; omega, show (i + 1).toNat = i.toNat + 1 by have h1 := HI.out; omega, HX.out]; exact HF.out.keep z58 (by have h1 := HI.out; have h2 := HL.out; omega) (by simp only [← HX.out, HQ.out, Bool.not_false])⟩, HW4, HR4⟩
   ·have hltb : decide (j < (l0.length : Int)) = false := decide_eq_false hlt; have HL := Zq_.mk hlt; have q1 := HI.out.1
    have hil : i < (l0.length : Int) := by have := HF.out.ij; have := HF.out.jn; have := HI.out; omega
    have hcap : (l0.length : Int) ≤ (c0 : Int) := by have := HLC.out; omega
    have HIL := Zq_.mk hil; have hlen := HF.out.len
    have hcells : ∀ q, q < (l0.length - i.toNat) * 3 → (wr.cell? ⟨gr, i.toNat * 3 + q, none⟩).isSome = true ∧ wr.frozen? ⟨gr, i.toNat * 3 + q, none⟩ = false := by
     intro q hq; obtain ⟨c, hcl, hM, hcc, hfr⟩ := Kd.R_elem HR.out z58 ((i.toNat + q / 3 : Nat) : Int) (by omega) (by omega); obtain rfl := k58_openM hM
     have e : i.toNat * 3 + q = ((i.toNat + q / 3 : Nat) : Int).toNat * (k58).sz + q % 3 := by rw [Int.toNat_natCast, show (k58).sz = 3 from rfl]; omega
     rw [e]; refine ⟨?_, hfr _⟩
     have h3 : q % 3 = 0 ∨ q % 3 = 1 ∨ q % 3 = 2 := by omega
     rcases h3 with h3 | h3 | h3 <;> rw [h3, hcc _ _ rfl] <;> rfl
    have hcl : ∀ ty, (Builtin.clear_ #[33] ty #[.slice (some ⟨gr, i.toNat * 3, none⟩) (l0.length - i.toNat) (c0 - i.toNat)]).run Try.prog wr = .ok (.tuple #[]) (wr.setCells gr (i.toNat * 3) (Builtin.zeroCells #[.int .i64 0, .int .i64 0, .string ⟨#[]⟩] (l0.length - i.toNat)).toList) := fun ty =>
     run_clear_rows wr 33 58 ty (.agg #[.int .i64 0, .int .i64 0, .string ⟨#[]⟩]) Try.underlying33 (fun _ => by kernel_rfl) (by intro u hu; simp only [Value.cells, List.mem_cons, List.not_mem_nil, or_false] at hu; rcases hu with rfl | rfl | rfl <;> rfl) gr (i.toNat * 3) _ _ (by omega) (fun q hq => (hcells q hq).1) (fun q hq => (hcells q hq).2)
    have HFIN := Zq_.mk (Kd.R_rest HR.out i.toNat (by omega) (Builtin.zeroCells #[.int .i64 0, .int .i64 0, .string ⟨#[]⟩] (l0.length - i.toNat)).toList (by rw [zero_len]; show _ * 3 = _ * 3; rw [hlen])); have HN := Zq_.mk hlen
    have hi2 : i ≤ (l0.length : Int) := by omega
    have hi3 : i ≤ (c0 : Int) := by omega
    have hne : (c0 = i.toNat) = False := eq_false (by omega); clear hcells hlt hlen; replace q1 := eq_true q1; replace hil := eq_true hil; replace hi2 := eq_true hi2; replace hi3 := eq_true hi3; replace hcap := eq_true hcap
    go_wp2_with fail
    go_ret
    refine ⟨_, rfl, ?_, World.grownBy.trans HW.out HFIN.out.2, rfl⟩; have h1 := HFIN.out.1; rw [HF.out.done (by have := HL.out; have := HI.out; omega)] at h1; exact h1
/-- How long rows are, all together. -/
def api_Named_79.tot (l0 : List (List S39)) : Nat := (l0.map List.length).sum
def api_Named_79.f (l0 : List (List S39)) : Option (List S39) := if api_Named_79.tot l0 < 1099511627776 then some l0.flatten else none
theorem api_Named_79.tot_take (l0 : List (List S39)) (i : Nat) (h : i < l0.length) : api_Named_79.tot (l0.take (i + 1)) = api_Named_79.tot (l0.take i) + (l0.getD i []).length := by
 unfold api_Named_79.tot
 rw [List.take_succ_eq_append_getElem h, List.map_append, List.sum_append, List.getD_eq_getElem?_getD, List.getElem?_eq_getElem h]
 simp
theorem api_Named_79.tot_le (l0 : List (List S39)) (i : Nat) : api_Named_79.tot (l0.take i) ≤ api_Named_79.tot l0 := by
 have h : api_Named_79.tot l0 = api_Named_79.tot (l0.take i) + api_Named_79.tot (l0.drop i) := by
  unfold api_Named_79.tot
  rw [← List.sum_append, ← List.map_append, List.take_append_drop]
 omega
theorem api_Named_79.flat_take (l0 : List (List S39)) (i : Nat) (h : i < l0.length) : (l0.take (i + 1)).flatten = (l0.take i).flatten ++ l0.getD i [] := by
 rw [List.take_succ_eq_append_getElem h, List.flatten_append, List.getD_eq_getElem?_getD, List.getElem?_eq_getElem h]
 simp
theorem api_Named_79.flat_len (l0 : List (List S39)) : l0.flatten.length = api_Named_79.tot l0 := by
 unfold api_Named_79.tot
 rw [List.length_flatten]
open Go.Proofs.YtgipbmjkgciccaaW.Hw in
theorem api_Named_79.calls (P0_ : Nat → Prop) (A0 : Option Addr) (c0 : Nat) (l0 : List (List S39)) (r : List S39) (w : World) (hs0 : Kd.V (Kd.slice 39 k39) 22 w w.heap.size (fun k_ => P0_ k_) (.slice A0 l0.length c0) l0) (h : api_Named_79.f l0 = some r) :
  Calls Try.prog 79 #[.slice A0 l0.length c0] w fun e w' => ∃ v0_ : Value, e = .returned v0_ ∧ Kd.V k39 39 w' w.heap.size (fun k_ => (P0_ k_ ∨ w.heap.size ≤ k_)) v0_ r ∧ Below w.heap.size w w' := by
 unfold api_Named_79.f at h
 by_cases hl : api_Named_79.tot l0 < 1099511627776
 case neg => rw [if_neg hl] at h; cases h
 rw [if_pos hl] at h; obtain rfl := Option.some.inj h; have hF0 := Kd.F_bound (Kd.V_F hs0); have HT := Zq_.mk hl; have HR := Zq_.mk hF0; have HL := Zq_.mk (Kd.F_max hF0); clear h hl hs0 hF0; have HB0 := Zq_.mk (Below.refl w.heap.size w)
 go_enter Try.func79, Try.ntmps79
 go_wp2
 go_loopg [3, 11] l0.length (fun kx s3 s11 wr => ∃ i : Nat, s3 = .int .i64 ((api_Named_79.tot (l0.take i) : Nat) : Int) ∧ s11 = .int .i64 (i : Int) ∧ Zq_ (i ≤ l0.length ∧ l0.length - i ≤ kx) ∧ Zq_ (Below w.heap.size w wr))
 case atStart => exact ⟨0, rfl, rfl, ⟨by omega⟩, HB0⟩
 case round =>
  obtain ⟨i, rfl, rfl, HI, BW⟩ := hrel
  by_cases hlt : i < l0.length
  ·have p1 : (0 : Int) ≤ (i : Int) := by omega
   have p2 : (i : Int) < (l0.length : Int) := by omega
   obtain ⟨ad, c, e_, hcl, hK, hcell, _⟩ := Kd.F_get HR.out ([] : List S39) (i : Int) p1 p2; cases e_; obtain ⟨Ai, ci, rfl, hli, hCi⟩ := Kd.FK_slice_open hK
   have hx_0 : wr.cell? (ad.add i) = some (.slice Ai (l0.getD i []).length ci) := by
    have h0 := hcell 0 _ rfl
    have e9 : ((i : Int).toNat * (Kd.slice 39 k39).sz + 0) = i := by show i * 1 + 0 = i; omega
    rw [e9] at h0; exact (BW.out.cell (wb_ w _ h0)).trans h0
   have hT := api_Named_79.tot_take l0 i hlt; have hT2 := api_Named_79.tot_le l0 (i + 1); have hT3 := HT.out
   have hw1 : wrap64 (((api_Named_79.tot (l0.take i) : Nat) : Int) + ((l0.getD i []).length : Int)) = ((api_Named_79.tot (l0.take (i + 1)) : Nat) : Int) := by unfold wrap64; omega
   have hlw := HL.out
   have hw2 : wrap64 ((i : Int) + 1) = ((i + 1 : Nat) : Int) := by unfold wrap64; omega
   have hneg : decide (((api_Named_79.tot (l0.take (i + 1)) : Nat) : Int) < 0) = false := decide_eq_false (Int.not_lt.2 (Int.natCast_nonneg _)); have p3 := decide_eq_true p2; have p5 := decide_eq_true hlt; have p6 := eq_true hlt; replace p1 := eq_true p1; replace p2 := eq_true p2; have HLT := Zq_.mk hlt; clear hcl hcell hK hli hCi hT hT2 hT3 hlw hlt; generalize (l0.getD i []).length = len at hx_0 hw1
   go_wp2
   go_roundg (l0.length - (i + 1))
   case measure => have h1 := HI.out; have h2 := HLT.out; omega
   case rel => exact ⟨i + 1, eS_, eS_, ⟨by have h1 := HI.out; have h2 := HLT.out; omega⟩, BW⟩
  ·obtain rfl : i = l0.length := by have := HI.out; omega
   have hT3 := HT.out
   have hG := fun W => GrowN.calls (api_Named_79.tot l0) (by omega) W
   rw [List.take_length]; have HG := Zq_.mk hG; clear hG hT3 hlt
   go_wp2_with (go_at_call 84; refine (HG.out _).mono ?_; rintro e w3 ⟨v3, rfl, ho3, hb3⟩; have HO3 := Zq_.mk (Kd.N_mono (Kd.R_N (Kd.qz_ (Kd.R_bound ho3) (qa_ BW.out))) (ok' := fun k_ => ((P0_ k_ ∧ k_ < w.heap.size) ∨ w.heap.size ≤ k_)) (fun k hk => Or.inr (Nat.le_trans (qa_ BW.out) hk.2.1))); have HB3 := Zq_.mk (vf_ BW.out hb3); clear ho3 hb3)
   go_loopg [6, 27] l0.length (fun kx s6 s27 wr => ∃ (i : Nat) (v : Value), s27 = .int .i64 (i : Int) ∧ v = s6 ∧ Zq_ (i ≤ l0.length ∧ l0.length - i ≤ kx) ∧ Zq_ (Below w.heap.size w wr) ∧ Zq_ (Kd.N k39 39 wr w.heap.size (fun k_ => ((P0_ k_ ∧ k_ < w.heap.size) ∨ w.heap.size ≤ k_)) v (l0.take i).flatten))
   case atStart => exact ⟨0, v3, rfl, rfl, ⟨by omega⟩, HB3, HO3⟩
   case round =>
    obtain ⟨i, v6, rfl, hv6, HI2, BW2, HO⟩ := hrel; subst hv6
    by_cases hlt : i < l0.length
    ·have p1 : (0 : Int) ≤ (i : Int) := by omega
     have p2 : (i : Int) < (l0.length : Int) := by omega
     obtain ⟨ad, c, e_, hcl, hK, hcell, _⟩ := Kd.F_get HR.out ([] : List S39) (i : Int) p1 p2; cases e_; obtain ⟨Ai, ci, rfl, hli, hCi⟩ := Kd.FK_slice_open hK
     have hx_0 : wr.cell? (ad.add i) = some (.slice Ai (l0.getD i []).length ci) := by
      have h0 := hcell 0 _ rfl
      have e9 : ((i : Int).toNat * (Kd.slice 39 k39).sz + 0) = i := by show i * 1 + 0 = i; omega
      rw [e9] at h0; exact (BW2.out.cell (wb_ w _ h0)).trans h0
     have HCI := Zq_.mk (show Kd.F k39 w (fun k_ => P0_ k_ ∧ k_ < w.heap.size) Ai (l0.getD i []).length (l0.getD i []) from hCi); have hlw := HL.out
     have hw2 : wrap64 ((i : Int) + 1) = ((i + 1 : Nat) : Int) := by unfold wrap64; omega
     have HTL := Zq_.mk (show ((l0.take i).flatten.length + (l0.getD i []).length) * 48 ≤ 140737488355328 by
      have h1 := api_Named_79.tot_take l0 i hlt; have h2 := api_Named_79.tot_le l0 (i + 1); have h3 := HT.out
      rw [api_Named_79.flat_len]; omega)
     have HF := Zq_.mk (api_Named_79.flat_take l0 i hlt); generalize l0.getD i [] = row at hx_0 HCI HTL HF; have p3 := decide_eq_true p2; have p5 := decide_eq_true hlt; have p6 := eq_true hlt; replace p1 := eq_true p1; replace p2 := eq_true p2; have HLT := Zq_.mk hlt; have NB6 := Zq_.mk (Kd.N_base HO.out); clear hcl hK hcell hli hCi hlw hlt
     go_wp2_with (first | ((with_reducible refine qr_ (b := .append) (xs := #[.tmp 31, .tmp 32]) rfl ?_); at_builtin; refine Kd.N_append_rows k39 (w0 := w) w.heap.size rfl (.tmp 31) (.tmp 32) 22 39 (.agg #[.int .i64 0, .int .i64 0, .int .i64 0, .slice none 0 0]) 48 rfl Try.underlying22 info39 rfl (by decide) (by omega) v6 (l0.take i).flatten row _ _ _ (fun k_ => ((P0_ k_ ∧ k_ < w.heap.size) ∨ w.heap.size ≤ k_)) (fun k_ => P0_ k_ ∧ k_ < w.heap.size) rfl rfl ?aO ?aR ?aK ?aF ?aB ?aS ?aL ?_; (case aR => exact (Kd.F_below HCI.out BW2.out)); (case aK => exact (fun k hk => ⟨Or.inl hk, fun e_ => by have h1 := NB6.out k e_.symm; have h2 := hk.2; omega⟩)); (case aB => exact BW2.out); (case aF => exact (fun k hk => Or.inr (Nat.le_trans (qa_ BW2.out) hk))); (case aO => exact HO.out); (case aS => exact (qa_ BW2.out)); (case aL => exact HTL.out); intro v7 w9 ho hb hg hat; rw [← HF.out] at ho; have HO2 := Zq_.mk ho; have HB2 := Zq_.mk hb; clear ho hb hg hat))
     go_roundg (l0.length - (i + 1))
     case measure => have h1 := HI2.out; have h2 := HLT.out; omega
     case rel => exact ⟨i + 1, v7, eS_, rfl, ⟨by have h1 := HI2.out; have h2 := HLT.out; omega⟩, HB2, HO2⟩
    ·obtain rfl : i = l0.length := by have := HI2.out; omega
     have HO2 := Zq_.mk (show Kd.V k39 39 wr w.heap.size (fun k_ => (P0_ k_ ∨ w.heap.size ≤ k_)) v6 l0.flatten by have h1 := HO.out; rw [List.take_length] at h1; exact Kd.V_mono (Kd.N_V h1) (fun k hk => hk.imp (fun h => h.1) id)); clear hlt
     go_wp2
     go_ret
     exact ⟨_, rfl, HO2.out, BW2.out⟩
section
attribute [local go_sem high] eqA58
def ref04_Same.l0 : Nat → List (S58) → List (S58) → Int → Option (Bool)
 | 0, _, _, _ => none
 | k + 1, x0, x1, x5 => if x5 < (x0.length : Int) then (if 0 ≤ x5 then (if x5 < (x1.length : Int) then (if (!(((rd_T58 x0 x5).f0) == ((rd_T58 x1 x5).f0)) || (!(((rd_T58 x0 x5).f1) == ((rd_T58 x1 x5).f1)) || (!((((rd_T58 x0 x5).f2).toList) == (((rd_T58 x1 x5).f2).toList))))) = true then (some false) else (ref04_Same.l0 k x0 x1 (wrap64 (x5 + 1)))) else (none)) else (none)) else (some true)
def ref04_Same.f (k : Nat) (l0 : List (S58)) (l1 : List (S58)) : Option (Bool) := if (l0.length : Int) = (l1.length : Int) then (ref04_Same.l0 k l0 l1 0) else (some false)
theorem ref04_Same.mono_l : ∀ k, (∀ y0 y1 y2, LeO (ref04_Same.l0 k y0 y1 y2) (ref04_Same.l0 (k + 1) y0 y1 y2))
 | 0 => fun _ _ _ r h => by simp [ref04_Same.l0] at h
 | k + 1 => by
  have ih0 := ref04_Same.mono_l k
  ·intro y0 y1 y2
   unfold ref04_Same.l0
   with_reducible repeat' first | exact ih0 _ _ _ | exact LeO.refl _ | exact LeO.none _ | refine LeO.ite ?_ ?_ | refine LeO.bind ?_ (fun _ => ?_)
theorem ref04_Same.mono : ∀ a0 a1 k, LeO (ref04_Same.f k a0 a1) (ref04_Same.f (k + 1) a0 a1) := by
 intro a0 a1 k; have ih0 := ref04_Same.mono_l k
 unfold ref04_Same.f
 with_reducible repeat' first | exact ih0 _ _ _ | exact LeO.refl _ | exact LeO.none _ | refine LeO.ite ?_ ?_ | refine LeO.bind ?_ (fun _ => ?_)
theorem ref04_Same.calls (k : Nat) (A0 : Option Addr) (c0 : Nat) (l0 : List (S58)) (A1 : Option Addr) (c1 : Nat) (l1 : List (S58)) (r : Bool) (w : World) (hr0 : Kd.C k58 w A0 l0.length l0) (hc0 : l0.length ≤ c0) (hr1 : Kd.C k58 w A1 l1.length l1) (hc1 : l1.length ≤ c1) (h : ref04_Same.f k l0 l1 = some r) :
  Calls Try.prog 59 #[.slice A0 l0.length c0, .slice A1 l1.length c1] w fun e w' => e = .returned (.bool r) ∧ Drawn0 w w' := by
 have hu58 := Try.underlying58; have HR0 := Zq_.mk hr0; have HC0 := Zq_.mk hc0; clear hr0 hc0; have HR1 := Zq_.mk hr1; have HC1 := Zq_.mk hc1; clear hr1 hc1; have H : (if (l0.length : Int) = (l1.length : Int) then (ref04_Same.l0 k l0 l1 0) else (some false)) = some r := h; clear h
 by_cases c3 : (l0.length : Int) = (l1.length : Int)
 ·rw [if_pos c3] at H; have bB : ((l0.length : Int) == (l1.length : Int)) = true := beq_iff_eq.mpr c3; have bA : ((l0.length : Int) != (l1.length : Int)) = false := bne_eq_false_iff_eq.mpr c3
  have bP : (l0.length == l1.length) = true := by first | simpa using c3 | (simp at c3 ⊢; omega)
  clear c3; have H' := Zq_.mk H; clear H
  go_enter Try.func59, Try.ntmps59
  go_wp2
  repeat (go_quiet (fail); try go_wp2)
  go_loopg [5] k (fun kq v5 w' => ∃ (aA : Int), v5 = .int .i64 aA ∧ Zq_ (ref04_Same.l0 kq l0 l1 aA = some r) ∧ Zq_ (kq ≤ k) ∧ Drawn0 w w')
  case atStart => exact ⟨(0), eS_, H', ⟨Nat.le_refl _⟩, by repeat (first | exact Drawn0.refl _ | apply Drawn0.step)⟩
  case round =>
   clear H'
   try clear c1
   try clear p2
   try clear c3
   try clear bB
   try clear bA
   try clear bP
   obtain ⟨aA, rfl, HA, HK1, ⟨m1, rfl⟩⟩ := hrel
   cases gk with
   | zero => exact absurd HA.out (by simp [ref04_Same.l0])
   | succ k1 =>
    have H := HA.out; clear HA; simp only [ref04_Same.l0] at H
    by_cases c4 : aA < (l0.length : Int)
    ·rw [if_pos c4] at H; have bO : decide (aA < (l0.length : Int)) = true := decide_eq_true c4; clear c4
     by_cases c5 : 0 ≤ aA
     ·rw [if_pos c5] at H; have c5b0 : decide (0 ≤ aA) = true := decide_eq_true c5; clear c5
      by_cases c6 : aA < (l1.length : Int)
      ·rw [if_pos c6] at H; have c6b0 : decide (aA < (l1.length : Int)) = true := decide_eq_true c6; clear c6
       by_cases c7 : (!(((rd_T58 l0 aA).f0) == ((rd_T58 l1 aA).f0)) || (!(((rd_T58 l0 aA).f1) == ((rd_T58 l1 aA).f1)) || (!((((rd_T58 l0 aA).f2).toList) == (((rd_T58 l1 aA).f2).toList))))) = true
       ·rw [if_pos c7] at H; have c7b0 : (!(((rd_T58 l0 aA).f0) == ((rd_T58 l1 aA).f0)) || (!(((rd_T58 l0 aA).f1) == ((rd_T58 l1 aA).f1)) || (!((((rd_T58 l0 aA).f2).toList) == (((rd_T58 l1 aA).f2).toList))))) = true := c7; clear c7; obtain rfl := Option.some.inj H; have aO : 0 ≤ (aA : Int) := dA_; have aM : aA < (l0.length : Int) := dA_; obtain ⟨bR, bN, aZ, aY, aX⟩ := at_T58 HR0.out aA aO aM; cases bN; replace aO := eq_true aO; replace aM := eq_true aM; have aN : 0 ≤ (aA : Int) := dA_; have aL : aA < (l1.length : Int) := dA_; obtain ⟨bQ, bM, aW, aV, aU⟩ := at_T58 HR1.out aA aN aL; cases bM; replace aN := eq_true aN; replace aL := eq_true aL
        go_wp2
        repeat (go_quiet (fail); try go_wp2)
        go_ret
        exact ⟨by first | rfl | (simp; done) | (simp [*]; done), by repeat (first | exact Drawn0.refl _ | apply Drawn0.step)⟩
       ·rw [if_neg c7] at H
        have c7b0 : (!(((rd_T58 l0 aA).f0) == ((rd_T58 l1 aA).f0)) || (!(((rd_T58 l0 aA).f1) == ((rd_T58 l1 aA).f1)) || (!((((rd_T58 l0 aA).f2).toList) == (((rd_T58 l1 aA).f2).toList))))) = false := by simpa using c7
        clear c7; have H' := Zq_.mk H; clear H; have aO : 0 ≤ (aA : Int) := dA_; have aM : aA < (l0.length : Int) := dA_; obtain ⟨bR, bN, aZ, aY, aX⟩ := at_T58 HR0.out aA aO aM; cases bN; replace aO := eq_true aO; replace aM := eq_true aM; have aN : 0 ≤ (aA : Int) := dA_; have aL : aA < (l1.length : Int) := dA_; obtain ⟨bQ, bM, aW, aV, aU⟩ := at_T58 HR1.out aA aN aL; cases bM; replace aN := eq_true aN; replace aL := eq_true aL
        go_wp2
        repeat (go_quiet (fail); try go_wp2)
        go_roundg k1
        case measure => have := HK1.out; omega
        case rel => exact ⟨(wrap64 (aA + 1)), eS_, H', ⟨by have := HK1.out; omega⟩, by repeat (first | exact Drawn0.refl _ | apply Drawn0.step)⟩
      ·rw [if_neg c6] at H; exact absurd H (by simp)
     ·rw [if_neg c5] at H; exact absurd H (by simp)
    ·rw [if_neg c4] at H; have bO : decide (aA < (l0.length : Int)) = false := decide_eq_false c4; clear c4; obtain rfl := Option.some.inj H
     go_wp2
     repeat (go_quiet (fail); try go_wp2)
     go_ret
     exact ⟨by first | rfl | (simp; done) | (simp [*]; done), by repeat (first | exact Drawn0.refl _ | apply Drawn0.step)⟩
 ·rw [if_neg c3] at H; have bB : ((l0.length : Int) == (l1.length : Int)) = false := beq_eq_false_iff_ne.mpr c3; have bA : ((l0.length : Int) != (l1.length : Int)) = true := bne_iff_ne.mpr c3
  have bP : (l0.length == l1.length) = false := by first | simpa using c3 | (simp at c3 ⊢; omega)
  obtain rfl := Option.some.inj H
  go_enter Try.func59, Try.ntmps59
  go_wp2
  repeat (go_quiet (fail); try go_wp2)
  go_ret
  exact ⟨by first | rfl | (simp; done) | (simp [*]; done), by repeat (first | exact Drawn0.refl _ | apply Drawn0.step)⟩
def ref05_Same.f (k : Nat) (aH : Int) (aG : Int) (aK : List (S58)) (aF : Int) (aE : Int) (aJ : List (S58)) : Option (Bool) := if aH = aF then (if aG = aE then ((ref04_Same.f k aK aJ).bind fun aP => (some aP)) else (some false)) else (some false)
theorem ref05_Same.mono : ∀ a0 a1 a2 a3 a4 a5 k, LeO (ref05_Same.f k a0 a1 a2 a3 a4 a5) (ref05_Same.f (k + 1) a0 a1 a2 a3 a4 a5) := by
 intro a0 a1 a2 a3 a4 a5 k
 unfold ref05_Same.f
 with_reducible repeat' first | exact ref04_Same.mono _ _ _ | exact LeO.refl _ | exact LeO.none _ | refine LeO.ite ?_ ?_ | refine LeO.bind ?_ (fun _ => ?_)
theorem ref05_Same.calls (k : Nat) (aH : Int) (aG : Int) (aT : Option Addr) (aR : Nat) (aK : List (S58)) (aF : Int) (aE : Int) (aS : Option Addr) (aQ : Nat) (aJ : List (S58)) (r : Bool) (w : World) (bD : Kd.C k58 w aT aK.length aK) (bF : aK.length ≤ aR) (bC : Kd.C k58 w aS aJ.length aJ) (bE : aJ.length ≤ aQ) (h : ref05_Same.f k aH aG aK aF aE aJ = some r) :
  Calls Try.prog 38 #[.agg #[.int .i64 aH, .int .i64 aG, .slice aT aK.length aR], .agg #[.int .i64 aF, .int .i64 aE, .slice aS aJ.length aQ]] w fun e w' => e = .returned (.bool r) ∧ Below w.heap.size w w' := by
 have hu35 := Try.underlying35; have bT := Zq_.mk bD; have bV := Zq_.mk bF; clear bD bF; have bS := Zq_.mk bC; have bU := Zq_.mk bE; clear bC bE; have HB := Zq_.mk (Below.refl w.heap.size w); have H : (if aH = aF then (if aG = aE then ((ref04_Same.f k aK aJ).bind fun aP => (some aP)) else (some false)) else (some false)) = some r := h; clear h
 by_cases c3 : aH = aF
 ·rw [if_pos c3] at H; have bB : (aH == aF) = true := beq_iff_eq.mpr c3; have bA : (aH != aF) = false := bne_eq_false_iff_eq.mpr c3; clear c3
  by_cases c4 : aG = aE
  ·rw [if_pos c4] at H; have bO : (aG == aE) = true := beq_iff_eq.mpr c4; have c4b1 : (aG != aE) = false := bne_eq_false_iff_eq.mpr c4; clear c4; replace H := ob_ H; obtain ⟨aP, A50, H⟩ := H; (try dsimp only at H); have A5 := Zq_.mk A50; clear A50; obtain rfl := Option.some.inj H
   go_enter Try.func38, Try.ntmps38
   go_wp2_with (first | ((with_reducible refine qb_ (N := 2) rfl ?_); refine bE_ 2 #[.int .i64 aH, .int .i64 aG, .slice aT aK.length aR] 35 ?_; intro bH hg w6 hbox hb; have aB := Zq_.mk (hbox); have bJ := gW_ (w := w) hg (hB_ HB); have bL := gW_ (w := w) hg (hB_ HB); replace HB := sB_ HB hb; clear hb hbox hg) | ((with_reducible refine qb_ (N := 3) rfl ?_); refine bE_ 3 #[.int .i64 aF, .int .i64 aE, .slice aS aJ.length aQ] 35 ?_; intro bG hg w7 hbox hb; have aI := Zq_.mk (hbox); have bI := gW_ (w := w) hg (by exact hSet_ HB); have bK := gW_ (w := w) hg (by exact hSet_ HB); replace HB := sB_ HB hb; have aD := nL_ aB hg; have aC := nG_ aB hg; replace aB := kB_ aB hb; clear hb hbox hg; have hnb8 := aD.out; have hnc8 := aC.out; obtain ⟨hcz9_0, hcz9_1, hcz9_2⟩ := c3_ aB; obtain ⟨hfz9_0, hfz9_1, hfz9_2⟩ := f3_ aB; obtain ⟨hcz10_0, hcz10_1, hcz10_2⟩ := c3_ aI; obtain ⟨hfz10_0, hfz10_1, hfz10_2⟩ := f3_ aI) | (go_at_call 59; (with_reducible refine (ref04_Same.calls k _ _ aK _ _ aJ aP _ ?side1 ?side2 ?side3 ?side4 A5.out).mono ?_); (case side1 => exact cX_ (Kd.qf_ bT.out HB.out)); (case side2 => exact bV.out); (case side3 => exact cX_ (Kd.qf_ bS.out HB.out)); (case side4 => exact bU.out); rintro e w' ⟨rfl, ⟨nd, rfl⟩⟩))
   go_ret
   exact ⟨by exact eW_, by exact hSet_ HB⟩
  ·rw [if_neg c4] at H; have bO : (aG == aE) = false := beq_eq_false_iff_ne.mpr c4; have c4b1 : (aG != aE) = true := bne_iff_ne.mpr c4; obtain rfl := Option.some.inj H
   go_enter Try.func38, Try.ntmps38
   go_wp2_with (first | ((with_reducible refine qb_ (N := 2) rfl ?_); refine bE_ 2 #[.int .i64 aH, .int .i64 aG, .slice aT aK.length aR] 35 ?_; intro bH hg w11 hbox hb; have aB := Zq_.mk (hbox); have bJ := gW_ (w := w) hg (hB_ HB); have bL := gW_ (w := w) hg (hB_ HB); replace HB := sB_ HB hb; clear hb hbox hg) | ((with_reducible refine qb_ (N := 3) rfl ?_); refine bE_ 3 #[.int .i64 aF, .int .i64 aE, .slice aS aJ.length aQ] 35 ?_; intro bG hg w12 hbox hb; have aI := Zq_.mk (hbox); have bI := gW_ (w := w) hg (by exact hSet_ HB); have bK := gW_ (w := w) hg (by exact hSet_ HB); replace HB := sB_ HB hb; have aD := nL_ aB hg; have aC := nG_ aB hg; replace aB := kB_ aB hb; clear hb hbox hg; have hnb13 := aD.out; have hnc13 := aC.out; obtain ⟨hcz14_0, hcz14_1, hcz14_2⟩ := c3_ aB; obtain ⟨hfz14_0, hfz14_1, hfz14_2⟩ := f3_ aB; obtain ⟨hcz15_0, hcz15_1, hcz15_2⟩ := c3_ aI; obtain ⟨hfz15_0, hfz15_1, hfz15_2⟩ := f3_ aI))
   go_ret
   exact ⟨by exact eW_, by exact hSet_ HB⟩
 ·rw [if_neg c3] at H; have bB : (aH == aF) = false := beq_eq_false_iff_ne.mpr c3; have bA : (aH != aF) = true := bne_iff_ne.mpr c3; obtain rfl := Option.some.inj H
  go_enter Try.func38, Try.ntmps38
  go_wp2_with (first | ((with_reducible refine qb_ (N := 2) rfl ?_); refine bE_ 2 #[.int .i64 aH, .int .i64 aG, .slice aT aK.length aR] 35 ?_; intro bH hg w16 hbox hb; have aB := Zq_.mk (hbox); have bJ := gW_ (w := w) hg (hB_ HB); have bL := gW_ (w := w) hg (hB_ HB); replace HB := sB_ HB hb; clear hb hbox hg) | ((with_reducible refine qb_ (N := 3) rfl ?_); refine bE_ 3 #[.int .i64 aF, .int .i64 aE, .slice aS aJ.length aQ] 35 ?_; intro bG hg w17 hbox hb; have aI := Zq_.mk (hbox); have bI := gW_ (w := w) hg (by exact hSet_ HB); have bK := gW_ (w := w) hg (by exact hSet_ HB); replace HB := sB_ HB hb; have aD := nL_ aB hg; have aC := nG_ aB hg; replace aB := kB_ aB hb; clear hb hbox hg; have hnb18 := aD.out; have hnc18 := aC.out; obtain ⟨hcz19_0, hcz19_1, hcz19_2⟩ := c3_ aB; obtain ⟨hfz19_0, hfz19_1, hfz19_2⟩ := f3_ aB; obtain ⟨hcz20_0, hcz20_1, hcz20_2⟩ := c3_ aI; obtain ⟨hfz20_0, hfz20_1, hfz20_2⟩ := f3_ aI))
  go_ret
  exact ⟨by exact eW_, by exact hSet_ HB⟩
end
def ref05_Top.f (k : Nat) (aG : Int) (aC : Int) (aB : List (S58)) : Option (Int) := (ref04_Top.f k aB).bind fun aD => (some (mx aC aD))
theorem ref05_Top.mono : ∀ a0 a1 a2 k, LeO (ref05_Top.f k a0 a1 a2) (ref05_Top.f (k + 1) a0 a1 a2) := by
 intro a0 a1 a2 k
 unfold ref05_Top.f
 with_reducible repeat' first | exact ref04_Top.mono _ _ | exact LeO.refl _ | exact LeO.none _ | refine LeO.ite ?_ ?_ | refine LeO.bind ?_ (fun _ => ?_)
theorem ref05_Top.calls (k : Nat) (aG : Int) (aC : Int) (aH : Option Addr) (aF : Nat) (aB : List (S58)) (r : Int) (w : World) (aI : Kd.C k58 w aH aB.length aB) (aJ : aB.length ≤ aF) (h : ref05_Top.f k aG aC aB = some r) :
  Calls Try.prog 43 #[.agg #[.int .i64 aG, .int .i64 aC, .slice aH aB.length aF]] w fun e w' => e = .returned (.int .i64 r) ∧ Below w.heap.size w w' := by
 have hu35 := Try.underlying35; have aK := Zq_.mk aI; have aL := Zq_.mk aJ; clear aI aJ; have HB := Zq_.mk (Below.refl w.heap.size w); have H : ((ref04_Top.f k aB).bind fun aD => (some (mx aC aD))) = some r := h; clear h; replace H := ob_ H; obtain ⟨aD, A20, H⟩ := H; (try dsimp only at H); have A2 := Zq_.mk A20; clear A20; obtain ⟨ji3, aE⟩ : ∃ j_ : Int, (mx aC aD) = j_ := ⟨_, rfl⟩
 replace H : (some ji3) = some r := by first | (rw [aE] at H; exact H) | (simp only [aE] at H ⊢; exact H)
 (try rw [aE] at A2); have hji3_ : (if aC < aD then aD else aC) = ji3 := aE; obtain rfl := Option.some.inj H
 go_enter Try.func43, Try.ntmps43
 try go_wp2_with (first | ((with_reducible refine qb_ (N := 1) rfl ?_); refine bE_ 1 #[.int .i64 aG, .int .i64 aC, .slice aH aB.length aF] 35 ?_; intro gb101 hg w4 hbox hb; have aA := Zq_.mk (hbox); have GW101 := gW_ (w := w) hg (hB_ HB); have GE101 := gW_ (w := w) hg (hB_ HB); replace HB := sB_ HB hb; clear hb hbox hg))
 replace aA := Zq_.mk (qc_ aA.out); replace HB := Zq_.mk (qe_ HB.out); refine gS_ 7 (hA_ (b0_ aA) (hA_ (b1_ aA) (hZ_ (b2_ aA)))) (fun hHeld => ?_); generalize w4.drew = w5 at aA HB hHeld ⊢; refine pure_ (i := 0) (N := some 3) (v := ?_) (a' := ?_) (bz_ 7 1) rfl rfl (by kernel_rfl) (fun _ _ _ h => h) (Or.inl ⟨by rfl, ?_⟩) ?_ ?_; rotate_left; (focus intro w'; go_simp; (with_reducible rfl)); rotate_left; (focus simp only [Act.put, sa_, sb_, sc_, i64_w, i32_w]; rfl); refine pure_ (i := 2) (N := some 5) (v := ?_) (a' := ?_) (bz_ 7 5) rfl rfl (by kernel_rfl) (fun _ _ _ h => h) (Or.inl ⟨by rfl, ?_⟩) ?_ ?_; rotate_left; (focus intro w'; go_simp; (with_reducible rfl)); rotate_left; (focus simp only [Act.put, sa_, sb_, sc_, i64_w, i32_w]; rfl); refine take_ (i := 1) (N := some 4) (v := ?_) (a' := ?_) (bz_ 7 7) rfl rfl (by kernel_rfl) (fun _ _ _ h => h) (Or.inl ⟨by rfl, ?_⟩) hHeld ?_ ?_; rotate_left; (focus rintro w' ⟨s0, s1, s2⟩; go_simp; (with_reducible rfl)); rotate_left; (focus simp only [Act.put, sa_, sb_, sc_, i64_w, i32_w]; rfl); refine take_ (i := 3) (N := some 6) (v := ?_) (a' := ?_) (bz_ 7 15) rfl rfl (by kernel_rfl) (fun _ _ _ h => h) (Or.inl ⟨by rfl, ?_⟩) hHeld ?_ ?_; rotate_left; (focus rintro w' ⟨s0, s1, s2⟩; go_simp; (with_reducible rfl)); rotate_left; (focus simp only [Act.put, sa_, sb_, sc_, i64_w, i32_w]; rfl); refine one_ (i := 4) (N := some 7) (bz_ 7 31) rfl rfl (by kernel_rfl) (by decide) (fun K hK => ?_); refine goes_ Try.func65 (by kernel_rfl) rfl #[.slice aH aB.length aF] (by rfl) rfl rfl aR_ ?_
 with_reducible refine (ref04_Top.calls k _ _ aB aD _ ?side1 ?side2 A2.out).mono ?_
 (case side1 => exact cX_ (Kd.qf_ aK.out HB.out)); (case side2 => exact aL.out); rintro e w6 ⟨rfl, hb⟩; refine ⟨_, rfl, ?_⟩; replace aA := kB_ aA hb; replace HB := sB_ HB hb; (try clear hb); refine hK.out _ _ (c3_ aA) (fun hHeld => ?_); clear hK K; refine norm_ (a' := ?_) ?_ ?_; rotate_left
 ·show Act.put _ (some 7) _ = _
  simp only [Act.put, sa_, sb_, sc_, i64_w, i32_w]; rfl
 refine pure_ (i := 5) (N := some 8) (v := ?_) (a' := ?_) (bz_ 7 63) rfl rfl (by kernel_rfl) (fun _ _ _ h => h) (Or.inl ⟨by rfl, ?_⟩) ?_ ?_; rotate_left; (focus intro w'; go_simp; (with_reducible rfl)); rotate_left; (focus simp only [Act.put, sa_, sb_, sc_, i64_w, i32_w]; rfl); refine pure_ (i := 6) (N := some 2) (v := ?_) (a' := ?_) (bz_ 7 127) rfl rfl (by kernel_rfl) (fun _ _ _ h => h) (Or.inl ⟨by rfl, ?_⟩) ?_ ?_; rotate_left; (focus intro w'; go_simp; (with_reducible rfl)); rotate_left; (focus simp only [Act.put, sa_, sb_, sc_, i64_w, i32_w]; rfl); refine done_ (by kernel_rfl) ?_; (try go_wp2)
 go_ret
 exact ⟨by first | rfl | (simp [errW_none, errW_some] <;> rfl) | (simp only [← aE]; first | rfl | (simp [errW_none, errW_some] <;> rfl)) | (simp [*, errW_none, errW_some] <;> rfl), by exact hSet_ HB⟩
end Go.Proofs.Ytgipbmjkgciccaa.P

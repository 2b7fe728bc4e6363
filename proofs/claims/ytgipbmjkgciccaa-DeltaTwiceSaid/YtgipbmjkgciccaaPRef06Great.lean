/- What this function of the program comes to, and that the machine's call does it. No condition. -/
import Derived.Test.YtgipbmjkgciccaaP0
import Derived.Test.YtgipbmjkgciccaaHw
namespace Go.Proofs.Ytgipbmjkgciccaa.P
set_option maxHeartbeats 8000000
set_option maxRecDepth 100000
open Go.RowKit Go.Proofs.YtgipbmjkgciccaaW.PrintWords Go.Proofs.YtgipbmjkgciccaaW.PrintLast Go.Proofs.YtgipbmjkgciccaaW.PrintMore
attribute [local go_sem] qz_ qx_ vf_ ve_ qr_ qq_ qy_ qw_ Go.Proofs.YtgipbmjkgciccaaW.Hw.string_gtr
set_option linter.unusedVariables false
set_option linter.unusedSimpArgs false
def ref04_Great.l0 : Nat → List (S58) → Int → Int → Option (Bool)
 | 0, _, _, _ => none
 | k + 1, x0, x3, x4 => if x4 < (x0.length : Int) then (if x3 ≤ 4000 then (if 0 ≤ x4 then (ref04_Great.l0 k x0 (wrap64 (x3 + (((rd_T58 x0 x4).f2).size : Int))) (wrap64 (x4 + 1))) else (none)) else (some (decide (x3 > 4000)))) else (some (decide (x3 > 4000)))
def ref04_Great.f (k : Nat) (l0 : List (S58)) : Option (Bool) := ref04_Great.l0 k l0 (l0.length : Int) 0
theorem ref04_Great.mono_l : ∀ k, (∀ y0 y1 y2, LeO (ref04_Great.l0 k y0 y1 y2) (ref04_Great.l0 (k + 1) y0 y1 y2))
 | 0 => fun _ _ _ r h => by simp [ref04_Great.l0] at h
 | k + 1 => by
  have ih0 := ref04_Great.mono_l k
  ·intro y0 y1 y2
   unfold ref04_Great.l0
   repeat' first
   | (with_reducible exact ih0 _ _ _)
   | (with_reducible exact LeO.refl _)
   | (with_reducible exact LeO.none _)
   | (with_reducible refine LeO.ite ?_ ?_)
   | (with_reducible refine LeO.bind ?_ (fun _ => ?_))
   | exact ih0 _ _ _
   | exact LeO.none _
   | refine LeO.ite ?_ ?_
   | refine LeO.bind ?_ (fun _ => ?_)
theorem ref04_Great.mono : ∀ a0 k, LeO (ref04_Great.f k a0) (ref04_Great.f (k + 1) a0) := by
 intro a0 k; have ih0 := ref04_Great.mono_l k
 unfold ref04_Great.f
 repeat' first
   | (with_reducible exact ih0 _ _ _)
   | (with_reducible exact LeO.refl _)
   | (with_reducible exact LeO.none _)
   | (with_reducible refine LeO.ite ?_ ?_)
   | (with_reducible refine LeO.bind ?_ (fun _ => ?_))
   | exact ih0 _ _ _
   | exact LeO.none _
   | refine LeO.ite ?_ ?_
   | refine LeO.bind ?_ (fun _ => ?_)
theorem ref04_Great.calls (k : Nat) (A0 : Option Addr) (c0 : Nat) (l0 : List (S58)) (r : Bool) (w : World) (hr0 : Kd.C k58 w A0 l0.length l0) (hc0 : l0.length ≤ c0) (h : ref04_Great.f k l0 = some r) :
  Calls Try.prog 55 #[.slice A0 l0.length c0] w fun e w' => e = .returned (.bool r) ∧ Drawn0 w w' := by
 have HR0 := Zq_.mk hr0; have HC0 := Zq_.mk hc0; clear hr0 hc0; have H : (ref04_Great.l0 k l0 (l0.length : Int) 0) = some r := h; clear h; have H' := Zq_.mk H; clear H
 go_enter Try.func55, Try.ntmps55
 go_wp2
 go_loopg [3, 4] k (fun kq v3 v4 w' => ∃ (aA : Int) (aH : Int), v3 = .int .i64 aA ∧ v4 = .int .i64 aH ∧ Zq_ (ref04_Great.l0 kq l0 aA aH = some r) ∧ Zq_ (kq ≤ k) ∧ Drawn0 w w')
 case atStart => exact ⟨((l0.length : Int)), (0), eS_, eS_, H', ⟨Nat.le_refl _⟩, by repeat (first | exact Drawn0.refl _ | apply Drawn0.step)⟩
 case round =>
  clear H'; obtain ⟨aA, aH, rfl, rfl, HA, HK1, ⟨m1, rfl⟩⟩ := hrel
  cases gk with
  | zero => exact absurd HA.out (by simp [ref04_Great.l0])
  | succ k1 =>
   have H := HA.out; clear HA; simp only [ref04_Great.l0] at H
   by_cases c2 : aH < (l0.length : Int)
   ·rw [if_pos c2] at H; have c2b0 : decide (aH < (l0.length : Int)) = true := decide_eq_true c2; clear c2
    by_cases c3 : aA ≤ 4000
    ·rw [if_pos c3] at H; have aO : decide (aA ≤ 4000) = true := decide_eq_true c3; clear c3
     by_cases c4 : 0 ≤ aH
     ·rw [if_pos c4] at H; have c4b0 : decide (0 ≤ aH) = true := decide_eq_true c4; clear c4; have H' := Zq_.mk H; clear H; have aK : 0 ≤ (aH : Int) := dA_; have aJ : aH < (l0.length : Int) := dA_; obtain ⟨aZ, aS, aD, aC, aB⟩ := at_T58 HR0.out aH aK aJ; cases aS; replace aK := eq_true aK; replace aJ := eq_true aJ
      go_wp2
      go_roundg k1
      case measure => have := HK1.out; omega
      case rel => exact ⟨(wrap64 (aA + (((rd_T58 l0 aH).f2).size : Int))), (wrap64 (aH + 1)), eS_, eS_, H', ⟨by have := HK1.out; omega⟩, by repeat (first | exact Drawn0.refl _ | apply Drawn0.step)⟩
     ·rw [if_neg c4] at H; exact absurd H (by simp)
    ·rw [if_neg c3] at H; have aO : decide (aA ≤ 4000) = false := decide_eq_false c3; clear c3; obtain rfl := Option.some.inj H
     go_wp2
     go_ret
     exact ⟨by first | rfl | (simp; done) | (simp [*]; done), by repeat (first | exact Drawn0.refl _ | apply Drawn0.step)⟩
   ·rw [if_neg c2] at H; have c2b0 : decide (aH < (l0.length : Int)) = false := decide_eq_false c2; clear c2; obtain rfl := Option.some.inj H
    go_wp2
    go_ret
    exact ⟨by first | rfl | (simp; done) | (simp [*]; done), by repeat (first | exact Drawn0.refl _ | apply Drawn0.step)⟩
def ref05_Great.f (k : Nat) (aV : Int) (aU : Int) (aL : List (S58)) : Option (Bool) := (ref04_Great.f k aL).bind fun aI => (some aI)
theorem ref05_Great.mono : ∀ a0 a1 a2 k, LeO (ref05_Great.f k a0 a1 a2) (ref05_Great.f (k + 1) a0 a1 a2) := by
 intro a0 a1 a2 k
 unfold ref05_Great.f
 repeat' first
   | (with_reducible exact ref04_Great.mono _ _)
   | (with_reducible exact LeO.refl _)
   | (with_reducible exact LeO.none _)
   | (with_reducible refine LeO.ite ?_ ?_)
   | (with_reducible refine LeO.bind ?_ (fun _ => ?_))
   | exact ref04_Great.mono _ _
   | exact LeO.none _
   | refine LeO.ite ?_ ?_
   | refine LeO.bind ?_ (fun _ => ?_)
theorem ref05_Great.calls (k : Nat) (aV : Int) (aU : Int) (aW : Option Addr) (aT : Nat) (aL : List (S58)) (r : Bool) (w : World) (aX : Kd.C k58 w aW aL.length aL) (aY : aL.length ≤ aT) (h : ref05_Great.f k aV aU aL = some r) :
  Calls Try.prog 34 #[.agg #[.int .i64 aV, .int .i64 aU, .slice aW aL.length aT]] w fun e w' => e = .returned (.bool r) ∧ Below w.heap.size w w' := by
 have hu35 := Try.underlying35; have bB := Zq_.mk aX; have bC := Zq_.mk aY; clear aX aY; have HB := Zq_.mk (Below.refl w.heap.size w); have H : ((ref04_Great.f k aL).bind fun aI => (some aI)) = some r := h; clear h; replace H := ob_ H; obtain ⟨aI, A20, H⟩ := H; replace H : (some aI) = some r := H; have A2 := Zq_.mk A20; clear A20; obtain rfl := Option.some.inj H
 go_enter Try.func34, Try.ntmps34
 go_wp2_with (first | ((with_reducible refine qe_ (N := 1) rfl ?_); refine bE_ 1 #[.int .i64 aV, .int .i64 aU, .slice aW aL.length aT] 35 ?_; intro gb101 hg w3 hbox hb; have bA := Zq_.mk (hbox); have GW101 := gW_ (w := w) hg (hB_ HB); have GE101 := gW_ (w := w) hg (hB_ HB); replace HB := Zq_.mk (qa_ (hB_ HB) hb); clear hb hbox hg; obtain ⟨hcz4_0, hcz4_1, hcz4_2⟩ := c3_ bA; obtain ⟨hfz4_0, hfz4_1, hfz4_2⟩ := f3_ bA) | ((with_reducible refine qi_ (f := 55) rfl ?_); refine goesL_ (some 5) rfl rfl Try.func55 (by kernel_rfl) rfl #[.slice aW aL.length aT] rfl (by (try simp only [List.map_toArray, List.map_cons, List.map_nil]); first | done | rfl | (simp only [List.length_drop, List.length_take]; rfl)) ?_; (with_reducible refine (ref04_Great.calls k _ _ aL aI _ ?side1 ?side2 A2.out).mono ?_); (case side1 => exact cX_ (Kd.qk_ bB.out HB.out)); (case side2 => exact bC.out); rintro e w' ⟨rfl, ⟨nd, rfl⟩⟩; refine ⟨_, rfl, ?_⟩))
 go_ret
 exact ⟨by exact eW_, by exact hSet_ HB⟩
mutual
def ref06_Great.l0 : Nat → List (S39) → Int → Option (Bool)
 | 0, _, _ => none
 | k + 1, x0, x3 => if x3 < (x0.length : Int) then (ref06_Great.j1 k x0 x3 (decide (x3 < 41))) else (ref06_Great.j1 k x0 x3 false)
def ref06_Great.j1 : Nat → List (S39) → Int → Bool → Option (Bool)
 | 0, _, _, _ => none
 | k + 1, x0, x3, x11 => if x11 = true then (if 0 ≤ x3 then (if x3 < (x0.length : Int) then ((ref05_Great.f k ((rd_T39 x0 x3).f1.f0) ((rd_T39 x0 x3).f1.f1) ((rd_T39 x0 x3).f1.f2)).bind fun aI => (if aI = true then (some true) else (ref06_Great.l0 k x0 (wrap64 (x3 + 1))))) else (none)) else (none)) else (some (decide ((x0.length : Int) > 40)))
end
def ref06_Great.f (k : Nat) (l0 : List (S39)) : Option (Bool) := ref06_Great.l0 k l0 0
theorem ref06_Great.mono_l : ∀ k, (∀ y0 y1, LeO (ref06_Great.l0 k y0 y1) (ref06_Great.l0 (k + 1) y0 y1)) ∧ (∀ y0 y1 y2, LeO (ref06_Great.j1 k y0 y1 y2) (ref06_Great.j1 (k + 1) y0 y1 y2))
 | 0 => ⟨fun _ _ r h => by simp [ref06_Great.l0] at h, fun _ _ _ r h => by simp [ref06_Great.j1] at h⟩
 | k + 1 => by
  obtain ⟨ih0, ih1⟩ := ref06_Great.mono_l k; refine ⟨?_, ?_⟩
  ·intro y0 y1
   unfold ref06_Great.l0
   repeat' first
   | (with_reducible exact ih0 _ _)
   | (with_reducible exact ih1 _ _ _)
   | (with_reducible exact ref05_Great.mono _ _ _ _)
   | (with_reducible exact LeO.refl _)
   | (with_reducible exact LeO.none _)
   | (with_reducible refine LeO.ite ?_ ?_)
   | (with_reducible refine LeO.bind ?_ (fun _ => ?_))
   | exact ih0 _ _
   | exact ih1 _ _ _
   | exact ref05_Great.mono _ _ _ _
   | exact LeO.none _
   | refine LeO.ite ?_ ?_
   | refine LeO.bind ?_ (fun _ => ?_)
  ·intro y0 y1 y2
   unfold ref06_Great.j1
   repeat' first
   | (with_reducible exact ih0 _ _)
   | (with_reducible exact ih1 _ _ _)
   | (with_reducible exact ref05_Great.mono _ _ _ _)
   | (with_reducible exact LeO.refl _)
   | (with_reducible exact LeO.none _)
   | (with_reducible refine LeO.ite ?_ ?_)
   | (with_reducible refine LeO.bind ?_ (fun _ => ?_))
   | exact ih0 _ _
   | exact ih1 _ _ _
   | exact ref05_Great.mono _ _ _ _
   | exact LeO.none _
   | refine LeO.ite ?_ ?_
   | refine LeO.bind ?_ (fun _ => ?_)
theorem ref06_Great.mono : ∀ a0 k, LeO (ref06_Great.f k a0) (ref06_Great.f (k + 1) a0) := by
 intro a0 k; obtain ⟨ih0, ih1⟩ := ref06_Great.mono_l k
 unfold ref06_Great.f
 repeat' first
   | (with_reducible exact ih0 _ _)
   | (with_reducible exact ih1 _ _ _)
   | (with_reducible exact ref05_Great.mono _ _ _ _)
   | (with_reducible exact LeO.refl _)
   | (with_reducible exact LeO.none _)
   | (with_reducible refine LeO.ite ?_ ?_)
   | (with_reducible refine LeO.bind ?_ (fun _ => ?_))
   | exact ih0 _ _
   | exact ih1 _ _ _
   | exact ref05_Great.mono _ _ _ _
   | exact LeO.none _
   | refine LeO.ite ?_ ?_
   | refine LeO.bind ?_ (fun _ => ?_)
theorem ref06_Great.calls (k : Nat) (A0 : Option Addr) (c0 : Nat) (l0 : List (S39)) (r : Bool) (w : World) (hr0 : Kd.C k39 w A0 l0.length l0) (hc0 : l0.length ≤ c0) (h : ref06_Great.f k l0 = some r) :
  Calls Try.prog 8 #[.slice A0 l0.length c0] w fun e w' => e = .returned (.bool r) ∧ Below w.heap.size w w' := by
 have hu35 := Try.underlying35; have HR0 := Zq_.mk hr0; have HC0 := Zq_.mk hc0; clear hr0 hc0; have HB := Zq_.mk (Below.refl w.heap.size w); have H : (ref06_Great.l0 k l0 0) = some r := h; clear h; have H' := Zq_.mk H; clear H
 go_enter Try.func8, Try.ntmps8
 go_wp2
 go_loopg [3] k (fun kq v3 w' => ∃ (aA : Int), v3 = .int .i64 aA ∧ Zq_ (ref06_Great.l0 kq l0 aA = some r) ∧ Zq_ (kq ≤ k) ∧ Zq_ (Below w.heap.size w w'))
 case atStart => exact ⟨(0), eS_, H', ⟨Nat.le_refl _⟩, ⟨hB_ HB⟩⟩
 case round =>
  clear H'; obtain ⟨aA, rfl, HA, HK1, HB⟩ := hrel
  cases gk with
  | zero => exact absurd HA.out (by simp [ref06_Great.l0])
  | succ k1 =>
   have H := HA.out; clear HA; simp only [ref06_Great.l0] at H; have HC2 := Zq_.mk H; clear H
   go_upto_region 2 with (fail)
   go_cut [11] (fun v11 wc => ∃ (kq : Nat) (aR : Bool), v11 = .bool aR ∧ Zq_ (ref06_Great.j1 kq l0 aA aR = some r) ∧ Zq_ (kq ≤ k1) ∧ Zq_ (Below w.heap.size w wc))
   case first =>
    have H := HC2.out; clear HC2
    by_cases c3 : aA < (l0.length : Int)
    ·rw [if_pos c3] at H; have aO : decide (aA < (l0.length : Int)) = true := decide_eq_true c3; clear c3; (first | rw [aO] | (simp only [i64_w, i32_w]; rw [aO]) | skip); have H' := Zq_.mk H; clear H
     go_wp2
     go_meet
     case rel => exact ⟨_, (decide (aA < 41)), eS_, H', ⟨by have := HK1.out; first | omega | exact Nat.le_refl _⟩, ⟨hB_ HB⟩⟩
    ·rw [if_neg c3] at H; have aO : decide (aA < (l0.length : Int)) = false := decide_eq_false c3; clear c3; (first | rw [aO] | (simp only [i64_w, i32_w]; rw [aO]) | skip); have H' := Zq_.mk H; clear H
     go_wp2
     go_meet
     case rel => exact ⟨_, (false), eS_, H', ⟨by have := HK1.out; first | omega | exact Nat.le_refl _⟩, ⟨hB_ HB⟩⟩
   case rest =>
    clear HC2
    try clear p2
    try clear c3
    try clear aO
    obtain ⟨kq, aR, rfl, HA, HJ1, HB⟩ := hcut
    cases kq with
    | zero => exact absurd HA.out (by simp [ref06_Great.j1])
    | succ kj1 =>
     have H := HA.out; clear HA; simp only [ref06_Great.j1] at H
     by_cases c4 : aR = true
     ·subst c4
      have H1 : (if 0 ≤ aA then (if aA < (l0.length : Int) then ((ref05_Great.f kj1 ((rd_T39 l0 aA).f1.f0) ((rd_T39 l0 aA).f1.f1) ((rd_T39 l0 aA).f1.f2)).bind fun aI => (if aI = true then (some true) else (ref06_Great.l0 kj1 l0 (wrap64 (aA + 1))))) else (none)) else (none)) = some r := by rw [if_pos rfl] at H; exact H
      clear H; have H := H1; clear H1
      by_cases c5 : 0 ≤ aA
      ·rw [if_pos c5] at H; have c5b0 : decide (0 ≤ aA) = true := decide_eq_true c5; clear c5
       by_cases c6 : aA < (l0.length : Int)
       ·rw [if_pos c6] at H; have c6b0 : decide (aA < (l0.length : Int)) = true := decide_eq_true c6; clear c6; replace H := ob_ H; obtain ⟨aI, A70, H⟩ := H; replace H : (if aI = true then (some true) else (ref06_Great.l0 kj1 l0 (wrap64 (aA + 1)))) = some r := H; have A7 := Zq_.mk A70; clear A70
        by_cases c8 : aI = true
        ·subst c8
         have H1 : (some true) = some r := by rw [if_pos rfl] at H; exact H
         clear H; have H := H1; clear H1; obtain rfl := Option.some.inj H; have aK : 0 ≤ (aA : Int) := dA_; have aJ : aA < (l0.length : Int) := dA_; obtain ⟨aZ, aQ, aP, aS, aD, aC, aB, aE, aF, aG⟩ := at_T39 HR0.out aA aK aJ; cases aS; replace aD := hC_ HB aD; replace aC := hC_ HB aC; replace aB := hC_ HB aB; replace aE := hC_ HB aE; have aM := Zq_.mk aG; have aN := Zq_.mk aF; clear aG aF; replace aK := eq_true aK; replace aJ := eq_true aJ
         go_wp2_with (first | ((with_reducible refine qi_ (f := 34) rfl ?_); refine goesL_ (some 19) rfl rfl Try.func34 (by kernel_rfl) rfl #[.agg #[.int .i64 ((rd_T39 l0 aA).f1.f0), .int .i64 ((rd_T39 l0 aA).f1.f1), .slice aQ ((rd_T39 l0 aA).f1.f2).length aP]] rfl (by (try simp only [List.map_toArray, List.map_cons, List.map_nil]); first | done | rfl | (simp only [List.length_drop, List.length_take]; rfl)) ?_; (with_reducible refine (ref05_Great.calls kj1 ((rd_T39 l0 aA).f1.f0) ((rd_T39 l0 aA).f1.f1) _ _ ((rd_T39 l0 aA).f1.f2) true _ ?side1 ?side2 A7.out).mono ?_); (case side1 => exact cX_ (Kd.qk_ aM.out HB.out)); (case side2 => exact aN.out); rintro e w9 ⟨rfl, hb⟩; refine ⟨_, rfl, ?_⟩; replace HB := Zq_.mk (qa_ (hB_ HB) hb); (try clear hb)))
         go_ret
         exact ⟨by exact eW_, hB_ HB⟩
        ·replace c8 := Bool.eq_false_iff.mpr c8; subst c8
         have H1 : (ref06_Great.l0 kj1 l0 (wrap64 (aA + 1))) = some r := by rw [if_neg (show ¬ (false = true) by decide)] at H; exact H
         clear H; have H := H1; clear H1; have H' := Zq_.mk H; clear H; have aK : 0 ≤ (aA : Int) := dA_; have aJ : aA < (l0.length : Int) := dA_; obtain ⟨aZ, aQ, aP, aS, aD, aC, aB, aE, aF, aG⟩ := at_T39 HR0.out aA aK aJ; cases aS; replace aD := hC_ HB aD; replace aC := hC_ HB aC; replace aB := hC_ HB aB; replace aE := hC_ HB aE; have aM := Zq_.mk aG; have aN := Zq_.mk aF; clear aG aF; replace aK := eq_true aK; replace aJ := eq_true aJ
         go_wp2_with (first | ((with_reducible refine qi_ (f := 34) rfl ?_); refine goesL_ (some 19) rfl rfl Try.func34 (by kernel_rfl) rfl #[.agg #[.int .i64 ((rd_T39 l0 aA).f1.f0), .int .i64 ((rd_T39 l0 aA).f1.f1), .slice aQ ((rd_T39 l0 aA).f1.f2).length aP]] rfl (by (try simp only [List.map_toArray, List.map_cons, List.map_nil]); first | done | rfl | (simp only [List.length_drop, List.length_take]; rfl)) ?_; (with_reducible refine (ref05_Great.calls kj1 ((rd_T39 l0 aA).f1.f0) ((rd_T39 l0 aA).f1.f1) _ _ ((rd_T39 l0 aA).f1.f2) false _ ?side1 ?side2 A7.out).mono ?_); (case side1 => exact cX_ (Kd.qk_ aM.out HB.out)); (case side2 => exact aN.out); rintro e w10 ⟨rfl, hb⟩; refine ⟨_, rfl, ?_⟩; replace HB := Zq_.mk (qa_ (hB_ HB) hb); (try clear hb)))
         go_roundg kj1
         case measure => have := HK1.out; have := HJ1.out; omega
         case rel => exact ⟨(wrap64 (aA + 1)), eS_, H', ⟨by have := HK1.out; have := HJ1.out; omega⟩, ⟨hB_ HB⟩⟩
       ·rw [if_neg c6] at H; exact absurd H (by simp)
      ·rw [if_neg c5] at H; exact absurd H (by simp)
     ·replace c4 := Bool.eq_false_iff.mpr c4; subst c4
      have H1 : (some (decide ((l0.length : Int) > 40))) = some r := by rw [if_neg (show ¬ (false = true) by decide)] at H; exact H
      clear H; have H := H1; clear H1; obtain rfl := Option.some.inj H
      go_wp2
      go_ret
      exact ⟨by exact eW_, hB_ HB⟩
end Go.Proofs.Ytgipbmjkgciccaa.P

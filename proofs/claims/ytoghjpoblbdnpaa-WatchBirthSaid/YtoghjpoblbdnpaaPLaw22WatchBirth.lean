/- What printed functions come to, and that the machine's calls do it. No condition. -/
import Derived.Test.YtoghjpoblbdnpaaPLaw22Alive
import Derived.Test.YtoghjpoblbdnpaaPRef22Without
import Derived.Test.YtoghjpoblbdnpaaPRef22Same
namespace Go.Proofs.Ytoghjpoblbdnpaa.P
set_option maxHeartbeats 8000000
set_option maxRecDepth 100000
open Go.RowKit Go.Proofs.YtoghjpoblbdnpaaW.PrintWords Go.Proofs.YtoghjpoblbdnpaaW.PrintLast Go.Proofs.YtoghjpoblbdnpaaW.PrintMore
attribute [local go_sem] qt_ qr_ qx_ qw_ qn_ qm_ qs_ qq_ Go.Proofs.YtoghjpoblbdnpaaW.Hw.string_gtr
set_option linter.unusedVariables false
set_option linter.unusedSimpArgs false
mutual
def law22_WatchBirth.j0 : Nat → List (S36) → Int → Int → Bool → Int → Int → Option (Bool)
 | 0, _, _, _, _, _, _ => none
 | k + 1, x0, x1, x7, x27, aW, aB => if x27 = true then (some true) else (if (x0.length : Int) = 0 then (none) else (if 0 ≤ (Int.tmod (wrap64 (aB)) (x0.length : Int)) then (if (Int.tmod (wrap64 (aB)) (x0.length : Int)) < (x0.length : Int) then (if ((rd_T36 x0 (Int.tmod (wrap64 (aB)) (x0.length : Int))).f1) = 1099511627776 then (law22_WatchBirth.j1 k x0 x1 x7 true aW aB ((rd_T36 x0 (Int.tmod (wrap64 (aB)) (x0.length : Int))).f0) ((rd_T36 x0 (Int.tmod (wrap64 (aB)) (x0.length : Int))).f1) ((rd_T36 x0 (Int.tmod (wrap64 (aB)) (x0.length : Int))).f2) ((rd_T36 x0 (Int.tmod (wrap64 (aB)) (x0.length : Int))).f3.f0) ((rd_T36 x0 (Int.tmod (wrap64 (aB)) (x0.length : Int))).f3.f1) ((rd_T36 x0 (Int.tmod (wrap64 (aB)) (x0.length : Int))).f4) ((rd_T36 x0 (Int.tmod (wrap64 (aB)) (x0.length : Int))).f5)) else (law22_WatchBirth.j1 k x0 x1 x7 (decide (((rd_T36 x0 (Int.tmod (wrap64 (aB)) (x0.length : Int))).f3.f0) > x7)) aW aB ((rd_T36 x0 (Int.tmod (wrap64 (aB)) (x0.length : Int))).f0) ((rd_T36 x0 (Int.tmod (wrap64 (aB)) (x0.length : Int))).f1) ((rd_T36 x0 (Int.tmod (wrap64 (aB)) (x0.length : Int))).f2) ((rd_T36 x0 (Int.tmod (wrap64 (aB)) (x0.length : Int))).f3.f0) ((rd_T36 x0 (Int.tmod (wrap64 (aB)) (x0.length : Int))).f3.f1) ((rd_T36 x0 (Int.tmod (wrap64 (aB)) (x0.length : Int))).f4) ((rd_T36 x0 (Int.tmod (wrap64 (aB)) (x0.length : Int))).f5))) else (none)) else (none)))
def law22_WatchBirth.j1 : Nat → List (S36) → Int → Int → Bool → Int → Int → Int → Int → Int → Int → List Int → Bool → Int → Option (Bool)
 | 0, _, _, _, _, _, _, _, _, _, _, _, _, _ => none
 | k + 1, x0, x1, x7, x46, aW, aB, aV, aU, x106002, x106003, x106004, x106005, x106006 => if x46 = true then (some true) else ((watch_Heard.f k x0 aV (wrap64 (aU + 1)) (wrap64 (x1)) x7 50).bind fun aI => ((watch_Heard.f k aI.1 aV aU 1099511627776 (wrap64 (x7 + 1)) 50).bind fun bH => (if aI.2 = true then (if bH.2 = true then (some false) else (if (aI.1.length : Int) = (x0.length : Int) then ((ref22_Same.f k aI.1 bH.1).bind fun bI => (if bI = true then (if (x0.length : Int) = 0 then (none) else (if 0 ≤ (Int.tmod (wrap64 (aB)) (x0.length : Int)) then (if (Int.tmod (wrap64 (aB)) (x0.length : Int)) < (aI.1.length : Int) then (if ((rd_T36 aI.1 (Int.tmod (wrap64 (aB)) (x0.length : Int))).f0) = aV then (if ((rd_T36 aI.1 (Int.tmod (wrap64 (aB)) (x0.length : Int))).f1) = (wrap64 (aU + 1)) then (if ((rd_T36 aI.1 (Int.tmod (wrap64 (aB)) (x0.length : Int))).f2) = (wrap64 (x1)) then (if (rd_T36 aI.1 (Int.tmod (wrap64 (aB)) (x0.length : Int))).f4 = true then (if ((rd_T36 aI.1 (Int.tmod (wrap64 (aB)) (x0.length : Int))).f3.f0) = x7 then (some ((((rd_T36 aI.1 (Int.tmod (wrap64 (aB)) (x0.length : Int))).f3.f1).length : Int) == 0)) else (some false)) else (some false)) else (some false)) else (some false)) else (some false)) else (none)) else (none))) else (some false))) else (some false))) else (some false))))
end
def law22_WatchBirth.f (k : Nat) (l0 : List (S36)) (a1 : Int) (aE : Int) (aD : Int) : Option (Bool) := (law22_alive.f k).bind fun bU => (if bU = true then ((law22_out.f k l0 (wrap64 (1073741824 + (wrap64 (aE))))).bind fun bT => (if bT = true then (law22_WatchBirth.j0 k l0 a1 (wrap64 (1073741824 + (wrap64 (aE)))) true aE aD) else (law22_WatchBirth.j0 k l0 a1 (wrap64 (1073741824 + (wrap64 (aE)))) ((l0.length : Int) == 0) aE aD))) else (some false))
theorem law22_WatchBirth.mono_l : ∀ k, (∀ y0 y1 y2 y3 y4 y5, LeO (law22_WatchBirth.j0 k y0 y1 y2 y3 y4 y5) (law22_WatchBirth.j0 (k + 1) y0 y1 y2 y3 y4 y5)) ∧ (∀ y0 y1 y2 y3 y4 y5 y6 y7 y8 y9 y10 y11 y12, LeO (law22_WatchBirth.j1 k y0 y1 y2 y3 y4 y5 y6 y7 y8 y9 y10 y11 y12) (law22_WatchBirth.j1 (k + 1) y0 y1 y2 y3 y4 y5 y6 y7 y8 y9 y10 y11 y12))
 | 0 => ⟨fun _ _ _ _ _ _ r h => by simp [law22_WatchBirth.j0] at h, fun _ _ _ _ _ _ _ _ _ _ _ _ _ r h => by simp [law22_WatchBirth.j1] at h⟩
 | k + 1 => by
  obtain ⟨ih0, ih1⟩ := law22_WatchBirth.mono_l k; refine ⟨?_, ?_⟩
  ·intro y0 y1 y2 y3 y4 y5
   unfold law22_WatchBirth.j0
   with_reducible repeat' first | exact ih0 _ _ _ _ _ _ | exact ih1 _ _ _ _ _ _ _ _ _ _ _ _ _ | exact law22_alive.mono _ | exact law22_out.mono _ _ _ | exact ref22_Same.mono _ _ _ | exact watch_Heard.mono _ _ _ _ _ _ _ | exact LeO.refl _ | exact LeO.none _ | refine LeO.ite ?_ ?_ | refine LeO.bind ?_ (fun _ => ?_)
  ·intro y0 y1 y2 y3 y4 y5 y6 y7 y8 y9 y10 y11 y12
   unfold law22_WatchBirth.j1
   with_reducible repeat' first | exact ih0 _ _ _ _ _ _ | exact ih1 _ _ _ _ _ _ _ _ _ _ _ _ _ | exact law22_alive.mono _ | exact law22_out.mono _ _ _ | exact ref22_Same.mono _ _ _ | exact watch_Heard.mono _ _ _ _ _ _ _ | exact LeO.refl _ | exact LeO.none _ | refine LeO.ite ?_ ?_ | refine LeO.bind ?_ (fun _ => ?_)
theorem law22_WatchBirth.mono : ∀ a0 a1 a2 a3 k, LeO (law22_WatchBirth.f k a0 a1 a2 a3) (law22_WatchBirth.f (k + 1) a0 a1 a2 a3) := by
 intro a0 a1 a2 a3 k; obtain ⟨ih0, ih1⟩ := law22_WatchBirth.mono_l k
 unfold law22_WatchBirth.f
 with_reducible repeat' first | exact ih0 _ _ _ _ _ _ | exact ih1 _ _ _ _ _ _ _ _ _ _ _ _ _ | exact law22_alive.mono _ | exact law22_out.mono _ _ _ | exact ref22_Same.mono _ _ _ | exact watch_Heard.mono _ _ _ _ _ _ _ | exact LeO.refl _ | exact LeO.none _ | refine LeO.ite ?_ ?_ | refine LeO.bind ?_ (fun _ => ?_)
theorem law22_WatchBirth.calls (k : Nat) (A0 : Option Addr) (c0 : Nat) (l0 : List (S36)) (a1 : Int) (aE : Int) (aD : Int) (r : Bool) (w : World) (hr0 : Kd.C k36 w A0 l0.length l0) (hc0 : l0.length ≤ c0) (h : law22_WatchBirth.f k l0 a1 aE aD = some r) (hrt : r = true) :
  Calls Try.prog 5 #[.slice A0 l0.length c0, .int .u16 a1, .agg #[.int .u16 aE, .int .u16 aD]] w fun e w' => e = .returned (.bool r) ∧ Below w.heap.size w w' := by
 have HRT := Zq_.mk hrt; clear hrt; have hu24 := Try.underlying24; have hu36 := Try.underlying36; have hu42 := Try.underlying42; have HR0 := Zq_.mk hr0; have HC0 := Zq_.mk hc0; clear hr0 hc0; have HB := Zq_.mk (Below.refl w.heap.size w); have H : ((law22_alive.f k).bind fun bU => (if bU = true then ((law22_out.f k l0 (wrap64 (1073741824 + (wrap64 (aE))))).bind fun bT => (if bT = true then (law22_WatchBirth.j0 k l0 a1 (wrap64 (1073741824 + (wrap64 (aE)))) true aE aD) else (law22_WatchBirth.j0 k l0 a1 (wrap64 (1073741824 + (wrap64 (aE)))) ((l0.length : Int) == 0) aE aD))) else (some false))) = some r := h; clear h; replace H := ob_ H; obtain ⟨bU, A40, H⟩ := H; (try dsimp only at H); have A4 := Zq_.mk A40; clear A40
 by_cases c5 : bU = true
 ·subst c5
  rw [if_pos rfl] at H; have HC6 := Zq_.mk H; clear H
  go_enter Try.func5, Try.ntmps5
  go_upto_region 4 with (first | ((with_reducible refine qc_ (N := 5) rfl ?_); (try (refine qo_ (by rfl) ?_; dsimp only)); refine bE_ 5 #[.int .u16 aE, .int .u16 aD] 24 ?_; intro aP hg w7 hbox hb; have aF := Zq_.mk (hbox); have eN := gW_ (w := w) hg (hB_ HB); have GE101 := gW_ (w := w) hg (hB_ HB); replace HB := sB_ HB hb; clear hb hbox hg) | ((with_reducible refine qg_ (f := 8) rfl ?_); refine goesL_ (some 14) rfl rfl Try.func8 (by kernel_rfl) rfl #[] rfl aR_ ?_; (with_reducible refine (law22_alive.calls k  true _ A4.out).mono ?_); rintro e w8 ⟨rfl, hb⟩; refine ⟨_, rfl, ?_⟩; replace aF := kB_ aF hb; replace HB := sB_ HB hb; (try clear hb); obtain ⟨bY, bX⟩ := c2_ aF; obtain ⟨bW, bV⟩ := f2_ aF))
  (try simp only [Act.put, sa_, sb_, sc_])
  go_cut [27] (fun v27 wc => ∃ (kq : Nat) (bJ : Bool), v27 = .bool bJ ∧ Zq_ (law22_WatchBirth.j0 kq l0 a1 (wrap64 (1073741824 + (wrap64 (aE)))) bJ aE aD = some r) ∧ Zq_ (kq ≤ k) ∧ Zq_ (wc.heap[aP]? = some (.cells #[.int .u16 aE, .int .u16 aD] 24 (0, 0))) ∧ Zq_ (Below w.heap.size w wc))
  case first =>
   have H := HC6.out; clear HC6; replace H := ob_ H; obtain ⟨bT, eR, H⟩ := H; (try dsimp only at H); have A10 := Zq_.mk eR; clear eR
   by_cases c11 : bT = true
   ·subst c11
    rw [if_pos rfl] at H; have H' := Zq_.mk H; clear H
    go_wp2_with (first | ((with_reducible refine qg_ (f := 9) rfl ?_); refine goesL_ (some 22) rfl rfl Try.func9 (by kernel_rfl) rfl #[.slice A0 l0.length c0, .int .i64 (wrap64 (1073741824 + (wrap64 (aE))))] rfl aR_ ?_; (with_reducible refine (law22_out.calls k _ _ l0 (wrap64 (1073741824 + (wrap64 (aE)))) true _ ?side1 ?side2 A10.out).mono ?_); (case side1 => exact cX_ (Kd.qi_ HR0.out HB.out)); (case side2 => exact HC0.out); rintro e w12 ⟨rfl, hb⟩; refine ⟨_, rfl, ?_⟩; replace aF := kB_ aF hb; replace HB := sB_ HB hb; (try clear hb)))
    go_meet
    case rel => exact ⟨_, (true), eS_, H', ⟨by first | omega | exact Nat.le_refl _⟩, ⟨by (with_reducible repeat (first | refine qk_ ?_ _ | refine qh_ ?_ | refine ql_ ?_ _)); exact aF.out⟩, ⟨by exact hSet_ HB⟩⟩
   ·replace c11 := Bool.eq_false_iff.mpr c11; subst c11
    have H1 : (law22_WatchBirth.j0 k l0 a1 (wrap64 (1073741824 + (wrap64 (aE)))) ((l0.length : Int) == 0) aE aD) = some r := by rw [if_neg (show ¬ (false = true) by decide)] at H; exact H
    clear H; have H := H1; clear H1; have H' := Zq_.mk H; clear H
    go_wp2_with (first | ((with_reducible refine qg_ (f := 9) rfl ?_); refine goesL_ (some 22) rfl rfl Try.func9 (by kernel_rfl) rfl #[.slice A0 l0.length c0, .int .i64 (wrap64 (1073741824 + (wrap64 (aE))))] rfl aR_ ?_; (with_reducible refine (law22_out.calls k _ _ l0 (wrap64 (1073741824 + (wrap64 (aE)))) false _ ?side1 ?side2 A10.out).mono ?_); (case side1 => exact cX_ (Kd.qi_ HR0.out HB.out)); (case side2 => exact HC0.out); rintro e w13 ⟨rfl, hb⟩; refine ⟨_, rfl, ?_⟩; replace aF := kB_ aF hb; replace HB := sB_ HB hb; (try clear hb)))
    go_meet
    case rel => exact ⟨_, (((l0.length : Int) == 0)), eS_, H', ⟨by first | omega | exact Nat.le_refl _⟩, ⟨by (with_reducible repeat (first | refine qk_ ?_ _ | refine qh_ ?_ | refine ql_ ?_ _)); exact aF.out⟩, ⟨by exact hSet_ HB⟩⟩
  case rest =>
   clear HC6
   try clear c1
   try clear p2
   try clear c5
   try clear p6
   try clear c8
   try clear c9
   try clear c11
   try clear bY
   try clear bX
   try clear bW
   try clear bV
   obtain ⟨kq, bJ, rfl, HA, HJ5, aF, HB⟩ := hcut
   cases kq with
   | zero => exact absurd HA.out (by simp [law22_WatchBirth.j0])
   | succ kj5 =>
    have H := HA.out; clear HA; simp only [law22_WatchBirth.j0] at H
    by_cases c14 : bJ = true
    ·subst c14
     rw [if_pos rfl] at H; obtain rfl := Option.some.inj H
     go_wp2
     go_ret
     exact ⟨by exact eW_, by exact hSet_ HB⟩
    ·replace c14 := Bool.eq_false_iff.mpr c14; subst c14
     have H1 : (if (l0.length : Int) = 0 then (none) else (if 0 ≤ (Int.tmod (wrap64 (aD)) (l0.length : Int)) then (if (Int.tmod (wrap64 (aD)) (l0.length : Int)) < (l0.length : Int) then (if ((rd_T36 l0 (Int.tmod (wrap64 (aD)) (l0.length : Int))).f1) = 1099511627776 then (law22_WatchBirth.j1 kj5 l0 a1 (wrap64 (1073741824 + (wrap64 (aE)))) true aE aD ((rd_T36 l0 (Int.tmod (wrap64 (aD)) (l0.length : Int))).f0) ((rd_T36 l0 (Int.tmod (wrap64 (aD)) (l0.length : Int))).f1) ((rd_T36 l0 (Int.tmod (wrap64 (aD)) (l0.length : Int))).f2) ((rd_T36 l0 (Int.tmod (wrap64 (aD)) (l0.length : Int))).f3.f0) ((rd_T36 l0 (Int.tmod (wrap64 (aD)) (l0.length : Int))).f3.f1) ((rd_T36 l0 (Int.tmod (wrap64 (aD)) (l0.length : Int))).f4) ((rd_T36 l0 (Int.tmod (wrap64 (aD)) (l0.length : Int))).f5)) else (law22_WatchBirth.j1 kj5 l0 a1 (wrap64 (1073741824 + (wrap64 (aE)))) (decide (((rd_T36 l0 (Int.tmod (wrap64 (aD)) (l0.length : Int))).f3.f0) > (wrap64 (1073741824 + (wrap64 (aE)))))) aE aD ((rd_T36 l0 (Int.tmod (wrap64 (aD)) (l0.length : Int))).f0) ((rd_T36 l0 (Int.tmod (wrap64 (aD)) (l0.length : Int))).f1) ((rd_T36 l0 (Int.tmod (wrap64 (aD)) (l0.length : Int))).f2) ((rd_T36 l0 (Int.tmod (wrap64 (aD)) (l0.length : Int))).f3.f0) ((rd_T36 l0 (Int.tmod (wrap64 (aD)) (l0.length : Int))).f3.f1) ((rd_T36 l0 (Int.tmod (wrap64 (aD)) (l0.length : Int))).f4) ((rd_T36 l0 (Int.tmod (wrap64 (aD)) (l0.length : Int))).f5))) else (none)) else (none))) = some r := by rw [if_neg (show ¬ (false = true) by decide)] at H; exact H
     clear H; have H := H1; clear H1
     by_cases c15 : (l0.length : Int) = 0
     ·rw [if_pos c15] at H; exact absurd H (by simp)
     ·rw [if_neg c15] at H; have eK : ((l0.length : Int) == 0) = false := beq_eq_false_iff_ne.mpr c15; have eJ : ((l0.length : Int) != 0) = true := bne_iff_ne.mpr c15
      have eI : ¬ (l0 = []) := fun h_ => c15 (by rw [h_]; rfl)
      obtain ⟨aA, aJ⟩ : ∃ j_ : Int, (Int.tmod (wrap64 (aD)) (l0.length : Int)) = j_ := ⟨_, rfl⟩
      replace H : (if 0 ≤ (aA) then (if (aA) < (l0.length : Int) then (if ((rd_T36 l0 (aA)).f1) = 1099511627776 then (law22_WatchBirth.j1 kj5 l0 a1 (wrap64 (1073741824 + (wrap64 (aE)))) true aE aD ((rd_T36 l0 (aA)).f0) ((rd_T36 l0 (aA)).f1) ((rd_T36 l0 (aA)).f2) ((rd_T36 l0 (aA)).f3.f0) ((rd_T36 l0 (aA)).f3.f1) ((rd_T36 l0 (aA)).f4) ((rd_T36 l0 (aA)).f5)) else (law22_WatchBirth.j1 kj5 l0 a1 (wrap64 (1073741824 + (wrap64 (aE)))) (decide (((rd_T36 l0 (aA)).f3.f0) > (wrap64 (1073741824 + (wrap64 (aE)))))) aE aD ((rd_T36 l0 (aA)).f0) ((rd_T36 l0 (aA)).f1) ((rd_T36 l0 (aA)).f2) ((rd_T36 l0 (aA)).f3.f0) ((rd_T36 l0 (aA)).f3.f1) ((rd_T36 l0 (aA)).f4) ((rd_T36 l0 (aA)).f5))) else (none)) else (none)) = some r := by first | (rw [aJ] at H; exact H) | (simp only [aJ] at H ⊢; exact H)
      by_cases c17 : 0 ≤ (aA)
      ·rw [if_pos c17] at H; have eH : decide (0 ≤ (aA)) = true := decide_eq_true c17; clear c17
       by_cases c18 : (aA) < (l0.length : Int)
       ·rw [if_pos c18] at H; have eG : decide ((aA) < (l0.length : Int)) = true := decide_eq_true c18; clear c18; have eF := Zq_.mk H; clear H; obtain ⟨eA, dZ⟩ := c2_ aF; obtain ⟨dD, dC⟩ := f2_ aF; have cE : 0 ≤ ((aA) : Int) := dA_; have cC : (aA) < (l0.length : Int) := dA_; obtain ⟨eL, aN, aM, e104, bE, bD, bC, bB, bA, aZ, aY, bL, bN⟩ := at_T36 HR0.out (aA) cE cC; cases e104; replace bE := hC_ HB bE; replace bD := hC_ HB bD; replace bC := hC_ HB bC; replace bB := hC_ HB bB; replace bA := hC_ HB bA; replace aZ := hC_ HB aZ; replace aY := hC_ HB aY; have HR104_4 := Zq_.mk bN; have HC104_4 := Zq_.mk bL; clear bN bL; replace cE := eq_true cE; replace cC := eq_true cC
        go_upto_region 7 with (first | ((with_reducible refine qc_ (N := 8) rfl ?_); (try (refine qo_ (by rfl) ?_; dsimp only)); refine bE_ 8 #[.int .i64 0, .int .i64 0, .int .i64 0, .int .i64 0, .slice none 0 0, .bool false, .int .i64 0] 36 ?_; intro aR hg w21 hbox hb; have aH := Zq_.mk (hbox); have eM := gW_ (w := w) hg (by exact hSet_ HB); have GE105 := gW_ (w := w) hg (by exact hSet_ HB); replace HB := sB_ HB hb; have aC := nL_ aF hg; have aL := nG_ aF hg; replace aF := kB_ aF hb; clear hb hbox hg; have hnb22 := aL.out; have hnc22 := aC.out; obtain ⟨dY, dX, dW, dV, dU, dT, dS⟩ := c7_ aH; obtain ⟨dB, dA, cZ, cY, cX, cW, cV⟩ := f7_ aH))
        (try simp only [Act.put, sa_, sb_, sc_])
        go_cut [46] (fun v46 wc => ∃ (kq : Nat) (aT : Bool), v46 = .bool aT ∧ Zq_ (law22_WatchBirth.j1 kq l0 a1 (wrap64 (1073741824 + (wrap64 (aE)))) aT aE aD ((rd_T36 l0 (aA)).f0) ((rd_T36 l0 (aA)).f1) ((rd_T36 l0 (aA)).f2) ((rd_T36 l0 (aA)).f3.f0) ((rd_T36 l0 (aA)).f3.f1) ((rd_T36 l0 (aA)).f4) ((rd_T36 l0 (aA)).f5) = some r) ∧ Zq_ (kq ≤ kj5) ∧ Zq_ (wc.heap[aP]? = some (.cells #[.int .u16 aE, .int .u16 aD] 24 (0, 0))) ∧ Zq_ (wc.heap[aR]? = some (.cells #[.int .i64 ((rd_T36 l0 (aA)).f0), .int .i64 ((rd_T36 l0 (aA)).f1), .int .i64 ((rd_T36 l0 (aA)).f2), .int .i64 ((rd_T36 l0 (aA)).f3.f0), (.slice aN ((rd_T36 l0 (aA)).f3.f1).length aM), .bool ((rd_T36 l0 (aA)).f4), .int .i64 ((rd_T36 l0 (aA)).f5)] 36 (0, 0))) ∧ Zq_ (Below w.heap.size w wc))
        case first =>
         have H := eF.out; clear eF
         by_cases c24 : ((rd_T36 l0 (aA)).f1) = 1099511627776
         ·rw [if_pos c24] at H; have aS : (((rd_T36 l0 (aA)).f1) == 1099511627776) = true := beq_iff_eq.mpr c24; have eB : (((rd_T36 l0 (aA)).f1) != 1099511627776) = false := bne_eq_false_iff_eq.mpr c24; clear c24; (first | rw [aS] | (simp only [i64_w, i32_w]; rw [aS]) | skip); have H' := Zq_.mk H; clear H; have hnb25 := aL.out; have hnc25 := aC.out; obtain ⟨dR, dQ, dP, dO, dN, dM, dL⟩ := c7_ aH; obtain ⟨cU, cT, cS, cR, cQ, cP, cO⟩ := f7_ aH
          go_wp2
          go_meet
          case rel => exact ⟨_, (true), eS_, H', ⟨by have := HJ5.out; first | omega | exact Nat.le_refl _⟩, ⟨by refine bF_ aC ?_; refine bF_ aC ?_; refine bF_ aC ?_; refine bF_ aC ?_; refine bF_ aC ?_; refine bF_ aC ?_; refine bF_ aC ?_; exact bK_ aF⟩, ⟨by refine bP_ (cs := #[.int .i64 ((rd_T36 l0 (aA)).f0), .int .i64 ((rd_T36 l0 (aA)).f1), .int .i64 ((rd_T36 l0 (aA)).f2), .int .i64 ((rd_T36 l0 (aA)).f3.f0), .slice aN ((rd_T36 l0 (aA)).f3.f1).length aM, .bool ((rd_T36 l0 (aA)).f4), .int .i64 0]) 6 ?_; refine bP_ (cs := #[.int .i64 ((rd_T36 l0 (aA)).f0), .int .i64 ((rd_T36 l0 (aA)).f1), .int .i64 ((rd_T36 l0 (aA)).f2), .int .i64 ((rd_T36 l0 (aA)).f3.f0), .slice aN ((rd_T36 l0 (aA)).f3.f1).length aM, .bool false, .int .i64 0]) 5 ?_; refine bP_ (cs := #[.int .i64 ((rd_T36 l0 (aA)).f0), .int .i64 ((rd_T36 l0 (aA)).f1), .int .i64 ((rd_T36 l0 (aA)).f2), .int .i64 ((rd_T36 l0 (aA)).f3.f0), .slice none 0 0, .bool false, .int .i64 0]) 4 ?_; refine bP_ (cs := #[.int .i64 ((rd_T36 l0 (aA)).f0), .int .i64 ((rd_T36 l0 (aA)).f1), .int .i64 ((rd_T36 l0 (aA)).f2), .int .i64 0, .slice none 0 0, .bool false, .int .i64 0]) 3 ?_; refine bP_ (cs := #[.int .i64 ((rd_T36 l0 (aA)).f0), .int .i64 ((rd_T36 l0 (aA)).f1), .int .i64 0, .int .i64 0, .slice none 0 0, .bool false, .int .i64 0]) 2 ?_; refine bP_ (cs := #[.int .i64 ((rd_T36 l0 (aA)).f0), .int .i64 0, .int .i64 0, .int .i64 0, .slice none 0 0, .bool false, .int .i64 0]) 1 ?_; refine bP_ (cs := #[.int .i64 0, .int .i64 0, .int .i64 0, .int .i64 0, .slice none 0 0, .bool false, .int .i64 0]) 0 ?_; exact bK_ aH⟩, ⟨by exact hSet_ HB⟩⟩
         ·rw [if_neg c24] at H; have aS : (((rd_T36 l0 (aA)).f1) == 1099511627776) = false := beq_eq_false_iff_ne.mpr c24; have eB : (((rd_T36 l0 (aA)).f1) != 1099511627776) = true := bne_iff_ne.mpr c24; (first | rw [aS] | (simp only [i64_w, i32_w]; rw [aS]) | skip); have H' := Zq_.mk H; clear H; have hnb27 := aL.out; have hnc27 := aC.out; obtain ⟨dK, dJ, dI, dH, dG, dF, dE⟩ := c7_ aH; obtain ⟨cN, cM, cL, cK, cJ, cI, cH⟩ := f7_ aH
          go_wp2
          go_meet
          case rel => exact ⟨_, (decide (((rd_T36 l0 (aA)).f3.f0) > (wrap64 (1073741824 + (wrap64 (aE)))))), (by first | rfl | (simp; done) | (simp only [← aJ] <;> (first | rfl | simp)) | (simp [*]; done)), H', ⟨by have := HJ5.out; first | omega | exact Nat.le_refl _⟩, ⟨by refine bF_ aC ?_; refine bF_ aC ?_; refine bF_ aC ?_; refine bF_ aC ?_; refine bF_ aC ?_; refine bF_ aC ?_; refine bF_ aC ?_; exact bK_ aF⟩, ⟨by refine bP_ (cs := #[.int .i64 ((rd_T36 l0 (aA)).f0), .int .i64 ((rd_T36 l0 (aA)).f1), .int .i64 ((rd_T36 l0 (aA)).f2), .int .i64 ((rd_T36 l0 (aA)).f3.f0), .slice aN ((rd_T36 l0 (aA)).f3.f1).length aM, .bool ((rd_T36 l0 (aA)).f4), .int .i64 0]) 6 ?_; refine bP_ (cs := #[.int .i64 ((rd_T36 l0 (aA)).f0), .int .i64 ((rd_T36 l0 (aA)).f1), .int .i64 ((rd_T36 l0 (aA)).f2), .int .i64 ((rd_T36 l0 (aA)).f3.f0), .slice aN ((rd_T36 l0 (aA)).f3.f1).length aM, .bool false, .int .i64 0]) 5 ?_; refine bP_ (cs := #[.int .i64 ((rd_T36 l0 (aA)).f0), .int .i64 ((rd_T36 l0 (aA)).f1), .int .i64 ((rd_T36 l0 (aA)).f2), .int .i64 ((rd_T36 l0 (aA)).f3.f0), .slice none 0 0, .bool false, .int .i64 0]) 4 ?_; refine bP_ (cs := #[.int .i64 ((rd_T36 l0 (aA)).f0), .int .i64 ((rd_T36 l0 (aA)).f1), .int .i64 ((rd_T36 l0 (aA)).f2), .int .i64 0, .slice none 0 0, .bool false, .int .i64 0]) 3 ?_; refine bP_ (cs := #[.int .i64 ((rd_T36 l0 (aA)).f0), .int .i64 ((rd_T36 l0 (aA)).f1), .int .i64 0, .int .i64 0, .slice none 0 0, .bool false, .int .i64 0]) 2 ?_; refine bP_ (cs := #[.int .i64 ((rd_T36 l0 (aA)).f0), .int .i64 0, .int .i64 0, .int .i64 0, .slice none 0 0, .bool false, .int .i64 0]) 1 ?_; refine bP_ (cs := #[.int .i64 0, .int .i64 0, .int .i64 0, .int .i64 0, .slice none 0 0, .bool false, .int .i64 0]) 0 ?_; exact bK_ aH⟩, ⟨by exact hSet_ HB⟩⟩
        case rest =>
         clear eF
         try clear c1
         try clear p1
         try clear q1
         try clear hx1
         try clear c2
         try clear p2
         try clear c5
         try clear p6
         try clear c8
         try clear c9
         try clear c10
         try clear p10
         try clear q10
         try clear hx10
         try clear c11
         try clear c14
         try clear c15
         try clear eK
         try clear eJ
         try clear eI
         try clear c17
         try clear eH
         try clear c18
         try clear eG
         try clear c22
         try clear c24
         try clear aS
         try clear eB
         try clear c25
         try clear c27
         try clear eA
         try clear dZ
         try clear dY
         try clear dX
         try clear dW
         try clear dV
         try clear dU
         try clear dT
         try clear dS
         try clear dR
         try clear dQ
         try clear dP
         try clear dO
         try clear dN
         try clear dM
         try clear dL
         try clear dK
         try clear dJ
         try clear dI
         try clear dH
         try clear dG
         try clear dF
         try clear dE
         try clear bY
         try clear bX
         try clear dD
         try clear dC
         try clear dB
         try clear dA
         try clear cZ
         try clear cY
         try clear cX
         try clear cW
         try clear cV
         try clear cU
         try clear cT
         try clear cS
         try clear cR
         try clear cQ
         try clear cP
         try clear cO
         try clear cN
         try clear cM
         try clear cL
         try clear cK
         try clear cJ
         try clear cI
         try clear cH
         try clear bW
         try clear bV
         try clear bE
         try clear bD
         try clear bC
         try clear bB
         try clear bA
         try clear aZ
         try clear aY
         try clear cE
         try clear p2
         try clear p6
         try clear cC
         obtain ⟨kq, aT, rfl, HA, HJ18, aF, aH, HB⟩ := hcut
         cases kq with
         | zero => exact absurd HA.out (by simp [law22_WatchBirth.j1])
         | succ kj18 =>
          have H := HA.out; clear HA; simp only [law22_WatchBirth.j1] at H
          by_cases c29 : aT = true
          ·subst c29
           rw [if_pos rfl] at H; obtain rfl := Option.some.inj H
           go_wp2
           go_ret
           exact ⟨by first | rfl | (simp [errW_none, errW_some] <;> rfl) | (simp only [← aJ]; first | rfl | (simp [errW_none, errW_some] <;> rfl)) | (simp [*, errW_none, errW_some] <;> rfl), by exact hSet_ HB⟩
          ·replace c29 := Bool.eq_false_iff.mpr c29; subst c29
           have H1 : ((watch_Heard.f kj18 l0 ((rd_T36 l0 (aA)).f0) (wrap64 (((rd_T36 l0 (aA)).f1) + 1)) (wrap64 (a1)) (wrap64 (1073741824 + (wrap64 (aE)))) 50).bind fun aI => ((watch_Heard.f kj18 aI.1 ((rd_T36 l0 (aA)).f0) ((rd_T36 l0 (aA)).f1) 1099511627776 (wrap64 ((wrap64 (1073741824 + (wrap64 (aE)))) + 1)) 50).bind fun bH => (if aI.2 = true then (if bH.2 = true then (some false) else (if (aI.1.length : Int) = (l0.length : Int) then ((ref22_Same.f kj18 aI.1 bH.1).bind fun bI => (if bI = true then (if (l0.length : Int) = 0 then (none) else (if 0 ≤ (Int.tmod (wrap64 (aD)) (l0.length : Int)) then (if (Int.tmod (wrap64 (aD)) (l0.length : Int)) < (aI.1.length : Int) then (if ((rd_T36 aI.1 (Int.tmod (wrap64 (aD)) (l0.length : Int))).f0) = ((rd_T36 l0 (aA)).f0) then (if ((rd_T36 aI.1 (Int.tmod (wrap64 (aD)) (l0.length : Int))).f1) = (wrap64 (((rd_T36 l0 (aA)).f1) + 1)) then (if ((rd_T36 aI.1 (Int.tmod (wrap64 (aD)) (l0.length : Int))).f2) = (wrap64 (a1)) then (if (rd_T36 aI.1 (Int.tmod (wrap64 (aD)) (l0.length : Int))).f4 = true then (if ((rd_T36 aI.1 (Int.tmod (wrap64 (aD)) (l0.length : Int))).f3.f0) = (wrap64 (1073741824 + (wrap64 (aE)))) then (some ((((rd_T36 aI.1 (Int.tmod (wrap64 (aD)) (l0.length : Int))).f3.f1).length : Int) == 0)) else (some false)) else (some false)) else (some false)) else (some false)) else (some false)) else (none)) else (none))) else (some false))) else (some false))) else (some false)))) = some r := by rw [if_neg (show ¬ (false = true) by decide)] at H; exact H
           clear H; have H := H1; clear H1; replace H := ob_ H; obtain ⟨⟨aG, t109⟩, eQ, H⟩ := H; (try dsimp only at H); have A30 := Zq_.mk eQ; clear eQ; replace H := ob_ H; obtain ⟨⟨eD, t113⟩, eP, H⟩ := H; (try dsimp only at H); have A31 := Zq_.mk eP; clear eP
           by_cases c32 : t109 = true
           ·subst c32
            rw [if_pos rfl] at H
            by_cases c33 : t113 = true
            ·rw [if_pos c33] at H; exact absurd ((Option.some.inj H).trans HRT.out) (by decide)
            ·replace c33 := Bool.eq_false_iff.mpr c33; subst c33
             have H1 : (if (aG.length : Int) = (l0.length : Int) then ((ref22_Same.f kj18 aG eD).bind fun bI => (if bI = true then (if (l0.length : Int) = 0 then (none) else (if 0 ≤ (Int.tmod (wrap64 (aD)) (l0.length : Int)) then (if (Int.tmod (wrap64 (aD)) (l0.length : Int)) < (aG.length : Int) then (if ((rd_T36 aG (Int.tmod (wrap64 (aD)) (l0.length : Int))).f0) = ((rd_T36 l0 (aA)).f0) then (if ((rd_T36 aG (Int.tmod (wrap64 (aD)) (l0.length : Int))).f1) = (wrap64 (((rd_T36 l0 (aA)).f1) + 1)) then (if ((rd_T36 aG (Int.tmod (wrap64 (aD)) (l0.length : Int))).f2) = (wrap64 (a1)) then (if (rd_T36 aG (Int.tmod (wrap64 (aD)) (l0.length : Int))).f4 = true then (if ((rd_T36 aG (Int.tmod (wrap64 (aD)) (l0.length : Int))).f3.f0) = (wrap64 (1073741824 + (wrap64 (aE)))) then (some ((((rd_T36 aG (Int.tmod (wrap64 (aD)) (l0.length : Int))).f3.f1).length : Int) == 0)) else (some false)) else (some false)) else (some false)) else (some false)) else (some false)) else (none)) else (none))) else (some false))) else (some false)) = some r := by rw [if_neg (show ¬ (false = true) by decide)] at H; exact H
             clear H; have H := H1; clear H1
             by_cases c40 : (aG.length : Int) = (l0.length : Int)
             ·rw [if_pos c40] at H; have c40b0 : ((aG.length : Int) == (l0.length : Int)) = true := beq_iff_eq.mpr c40; have c40b1 : ((aG.length : Int) != (l0.length : Int)) = false := bne_eq_false_iff_eq.mpr c40
              have c40b2 : (aG.length == l0.length) = true := by first | simpa using c40 | (simp at c40 ⊢; omega)
              clear c40; replace H := ob_ H; obtain ⟨bI, eO, H⟩ := H; (try dsimp only at H); have A41 := Zq_.mk eO; clear eO
              by_cases c42 : bI = true
              ·subst c42
               rw [if_pos rfl] at H
               by_cases c43 : (l0.length : Int) = 0
               ·rw [if_pos c43] at H; exact absurd H (by simp)
               ·rw [if_neg c43] at H; have c43b0 : ((l0.length : Int) == 0) = false := beq_eq_false_iff_ne.mpr c43; have c43b1 : ((l0.length : Int) != 0) = true := bne_iff_ne.mpr c43
                have c43b2 : ¬ (l0 = []) := fun h_ => c43 (by rw [h_]; rfl)
                replace H : (if 0 ≤ (aA) then (if (aA) < (aG.length : Int) then (if ((rd_T36 aG (aA)).f0) = ((rd_T36 l0 (aA)).f0) then (if ((rd_T36 aG (aA)).f1) = (wrap64 (((rd_T36 l0 (aA)).f1) + 1)) then (if ((rd_T36 aG (aA)).f2) = (wrap64 (a1)) then (if (rd_T36 aG (aA)).f4 = true then (if ((rd_T36 aG (aA)).f3.f0) = (wrap64 (1073741824 + (wrap64 (aE)))) then (some ((((rd_T36 aG (aA)).f3.f1).length : Int) == 0)) else (some false)) else (some false)) else (some false)) else (some false)) else (some false)) else (none)) else (none)) = some r := by first | (rw [aJ] at H; exact H) | (simp only [aJ] at H ⊢; exact H)
                (try rw [aJ] at A30); (try rw [aJ] at A31); (try rw [aJ] at A41)
                by_cases c45 : 0 ≤ (aA)
                ·rw [if_pos c45] at H; have c45b0 : decide (0 ≤ (aA)) = true := decide_eq_true c45; clear c45
                 by_cases c46 : (aA) < (aG.length : Int)
                 ·rw [if_pos c46] at H; have c46b0 : decide ((aA) < (aG.length : Int)) = true := decide_eq_true c46; clear c46
                  by_cases c47 : ((rd_T36 aG (aA)).f0) = ((rd_T36 l0 (aA)).f0)
                  ·rw [if_pos c47] at H; have c47b0 : (((rd_T36 aG (aA)).f0) == ((rd_T36 l0 (aA)).f0)) = true := beq_iff_eq.mpr c47; have c47b1 : (((rd_T36 aG (aA)).f0) != ((rd_T36 l0 (aA)).f0)) = false := bne_eq_false_iff_eq.mpr c47; clear c47
                   by_cases c48 : ((rd_T36 aG (aA)).f1) = (wrap64 (((rd_T36 l0 (aA)).f1) + 1))
                   ·rw [if_pos c48] at H; have c48b0 : (((rd_T36 aG (aA)).f1) == (wrap64 (((rd_T36 l0 (aA)).f1) + 1))) = true := beq_iff_eq.mpr c48; have c48b1 : (((rd_T36 aG (aA)).f1) != (wrap64 (((rd_T36 l0 (aA)).f1) + 1))) = false := bne_eq_false_iff_eq.mpr c48; clear c48
                    by_cases c49 : ((rd_T36 aG (aA)).f2) = (wrap64 (a1))
                    ·rw [if_pos c49] at H; have c49b0 : (((rd_T36 aG (aA)).f2) == (wrap64 (a1))) = true := beq_iff_eq.mpr c49; have c49b1 : (((rd_T36 aG (aA)).f2) != (wrap64 (a1))) = false := bne_eq_false_iff_eq.mpr c49; clear c49; obtain ⟨bq50, hbq50⟩ : ∃ b_ : Bool, b_ = ((rd_T36 aG (aA)).f4) := ⟨_, rfl⟩
                     replace H : (if bq50 = true then (if ((rd_T36 aG (aA)).f3.f0) = (wrap64 (1073741824 + (wrap64 (aE)))) then (some ((((rd_T36 aG (aA)).f3.f1).length : Int) == 0)) else (some false)) else (some false)) = some r := by rw [← hbq50] at H; exact H
                     have Nbq50 := Zq_.mk hbq50; clear hbq50
                     by_cases c51 : bq50 = true
                     ·subst c51
                      rw [if_pos rfl] at H
                      by_cases c52 : ((rd_T36 aG (aA)).f3.f0) = (wrap64 (1073741824 + (wrap64 (aE))))
                      ·rw [if_pos c52] at H; have c52b0 : (((rd_T36 aG (aA)).f3.f0) == (wrap64 (1073741824 + (wrap64 (aE))))) = true := beq_iff_eq.mpr c52; have c52b1 : (((rd_T36 aG (aA)).f3.f0) != (wrap64 (1073741824 + (wrap64 (aE))))) = false := bne_eq_false_iff_eq.mpr c52; clear c52; obtain rfl := Option.some.inj H; have hnb53 := aL.out; have hnc53 := aC.out; obtain ⟨hcz54_0, hcz54_1, hcz54_2, hcz54_3, hcz54_4, hcz54_5, hcz54_6⟩ := c7_ aH; obtain ⟨hfz54_0, hfz54_1, hfz54_2, hfz54_3, hfz54_4, hfz54_5, hfz54_6⟩ := f7_ aH
                       go_wp2_with (first | ((with_reducible refine qg_ (f := 13) rfl ?_); refine goesL_ (some 58) rfl rfl Try.func13 (by kernel_rfl) rfl #[.slice (some eL) l0.length c0, .agg #[.int .i64 ((rd_T36 l0 (aA)).f0), .int .i64 (wrap64 (((rd_T36 l0 (aA)).f1) + 1)), .int .i64 (wrap64 (a1))], .int .i64 (wrap64 (1073741824 + (wrap64 (aE)))), .int .i64 50] rfl (by (try simp only [List.map_toArray, List.map_cons, List.map_nil]); first | done | (simp only [aJ]; rfl) | rfl | (simp only [List.length_drop, List.length_take]; rfl)) ?_; (with_reducible refine (watch_Heard.calls kj18 (fun k_ => k_ < w.heap.size) _ _ l0 ((rd_T36 l0 (aA)).f0) (wrap64 (((rd_T36 l0 (aA)).f1) + 1)) (wrap64 (a1)) (wrap64 (1073741824 + (wrap64 (aE)))) 50 aG true _ ?side1 A30.out).mono ?_); (case side1 => exact Kd.V_mk HC0.out (Kd.F_below (Kd.C_F k36_heap HR0.out) (by exact hSet_ HB))); rintro e w55 ⟨v107, rfl, ho0, hb⟩; refine ⟨_, rfl, ?_⟩; have aK := Zq_.mk (Kd.vi_ (Kd.N_mono (ok' := fun k_ => k_ ≠ aP ∧ k_ ≠ aR) ho0 (fun k_ hk_ => ⟨Or.elim hk_ (fun hs_ => fun e_ => Nat.not_le.2 hs_ (by rw [e_]; exact eN.out)) (fun hn_ => (Kd.freshB (g := aP) (o := .cells #[.int .u16 aE, .int .u16 aD] 24 (0, 0)) (by exact bK_ aF) k_ hn_)), Or.elim hk_ (fun hs_ => fun e_ => Nat.not_le.2 hs_ (by rw [e_]; exact eM.out)) (fun hn_ => (Kd.freshB (g := aR) (o := .cells #[.int .i64 ((rd_T36 l0 (aA)).f0), .int .i64 ((rd_T36 l0 (aA)).f1), .int .i64 ((rd_T36 l0 (aA)).f2), .int .i64 ((rd_T36 l0 (aA)).f3.f0), .slice aN ((rd_T36 l0 (aA)).f3.f1).length aM, .bool ((rd_T36 l0 (aA)).f4), .int .i64 ((rd_T36 l0 (aA)).f5)] 36 (0, 0)) (by exact bK_ aH) k_ hn_))⟩)) (qb_ (by exact hSet_ HB))); replace aF := kB_ aF hb; replace aH := kB_ aH hb; replace HB := sB_ HB hb; (try clear hb); (try clear ho0); obtain ⟨hcz56_0, hcz56_1, hcz56_2, hcz56_3, hcz56_4, hcz56_5, hcz56_6⟩ := c7_ aH; obtain ⟨hfz56_0, hfz56_1, hfz56_2, hfz56_3, hfz56_4, hfz56_5, hfz56_6⟩ := f7_ aH; obtain ⟨Ao57, co57, eo57⟩ := Kd.vp_ aK.out; subst eo57) | ((with_reducible refine qg_ (f := 13) rfl ?_); refine goesL_ (some 70) rfl rfl Try.func13 (by kernel_rfl) rfl #[.slice Ao57 aG.length co57, .agg #[.int .i64 ((rd_T36 l0 (aA)).f0), .int .i64 ((rd_T36 l0 (aA)).f1), .int .i64 1099511627776], .int .i64 (wrap64 ((wrap64 (1073741824 + (wrap64 (aE)))) + 1)), .int .i64 50] rfl (by (try simp only [List.map_toArray, List.map_cons, List.map_nil]); first | done | (simp only [aJ]; rfl) | rfl | (simp only [List.length_drop, List.length_take]; rfl)) ?_; (with_reducible refine (watch_Heard.calls kj18 (fun k_ => (k_ ≠ aP ∧ k_ ≠ aR)) _ _ aG ((rd_T36 l0 (aA)).f0) ((rd_T36 l0 (aA)).f1) 1099511627776 (wrap64 ((wrap64 (1073741824 + (wrap64 (aE)))) + 1)) 50 eD false _ ?side1 A31.out).mono ?_); (case side1 => exact Kd.N_V (aK.out)); rintro e w58 ⟨v111, rfl, ho0, hb⟩; refine ⟨_, rfl, ?_⟩; replace aK := Zq_.mk (Kd.N_elder' (vX_ aK) (by first | exact Kd.N_base ho0 | exact Kd.S_base ho0) hb); have aQ := Zq_.mk (Kd.vi_ (Kd.N_mono (ok' := fun k_ => k_ ≠ aP ∧ k_ ≠ aR) ho0 (fun k_ hk_ => ⟨Or.elim hk_ (fun hs_ => hs_.1) (fun hn_ => (Kd.freshB (g := aP) (o := .cells #[.int .u16 aE, .int .u16 aD] 24 (0, 0)) (by exact bK_ aF) k_ hn_)), Or.elim hk_ (fun hs_ => hs_.2) (fun hn_ => (Kd.freshB (g := aR) (o := .cells #[.int .i64 ((rd_T36 l0 (aA)).f0), .int .i64 ((rd_T36 l0 (aA)).f1), .int .i64 ((rd_T36 l0 (aA)).f2), .int .i64 ((rd_T36 l0 (aA)).f3.f0), .slice aN ((rd_T36 l0 (aA)).f3.f1).length aM, .bool ((rd_T36 l0 (aA)).f4), .int .i64 ((rd_T36 l0 (aA)).f5)] 36 (0, 0)) (by exact bK_ aH) k_ hn_))⟩)) (qb_ (by exact hSet_ HB))); replace aF := kB_ aF hb; replace aH := kB_ aH hb; replace HB := sB_ HB hb; (try clear hb); (try clear ho0); obtain ⟨Ao59, co59, eo59⟩ := Kd.vp_ aQ.out; subst eo59) | (go_at_call 14; (with_reducible refine (ref22_Same.calls kj18 _ _ aG _ _ eD true _ ?side1 ?side2 ?side3 ?side4 A41.out).mono ?_); (case side1 => exact cX_ ((Kd.N_reads' aK.out).2.2)); (case side2 => exact (Kd.N_reads' aK.out).2.1); (case side3 => exact cX_ ((Kd.N_reads' aQ.out).2.2)); (case side4 => exact (Kd.N_reads' aQ.out).2.1); rintro e w60 ⟨rfl, hb⟩; replace aK := vV_ Kd.va_ aK hb; replace aQ := vV_ Kd.va_ aQ hb; replace aF := kB_ aF hb; replace aH := kB_ aH hb; replace HB := sB_ HB hb; (try clear hb); obtain ⟨hcz61_0, hcz61_1⟩ := c2_ aF; obtain ⟨hfz61_0, hfz61_1⟩ := f2_ aF; have cD : 0 ≤ ((aA) : Int) := dA_; have cB : (aA) < (aG.length : Int) := dA_; obtain ⟨ad115, A115_4, c115_4, e115, hx115_0, hx115_1, hx115_2, hx115_3, cG, cF, hx115_6, bK, bM⟩ := at_T36 (Kd.N_reads' aK.out).2.2 (aA) cD cB; (try rw [← Nbq50.out] at cF); cases e115; obtain ⟨ce115, eE, hMe115, bZ⟩ := Kd.N_get aK.out z36 (aA) cD (by first | exact cB | exact dA_ | (have e_ := (Kd.N_reads' aK.out).1; omega)); obtain ⟨ua115_4, uc115_4, rfl, aX, bF⟩ := k36_openF hMe115; have aO := bZ 4 _ rfl; rw [vg_ _ _ 4 (by omega)] at aO; replace aO := Option.some.inj (aO.symm.trans cG); injection aO with hva_ hvn_ hvc_; rw [hva_] at bF; rw [hvc_] at aX; have bO := Zq_.mk (show Kd.V (Kd.int .i64) 3 _ w.heap.size _ _ ((rd_T36 aG (aA)).f3.f1) from Kd.V_mk aX bF); clear hva_ hvn_ hvc_ bF aX; clear bZ eE; have bG := Zq_.mk bM; have HC115_4 := Zq_.mk bK; clear bM bK; replace cD := eq_true cD; replace cB := eq_true cB) | ((with_reducible refine qc_ (N := 13) rfl ?_); (try (refine qo_ (by rfl) ?_; dsimp only)); refine bE_ 13 #[.int .i64 0, .int .i64 0, .int .i64 0, .int .i64 0, .slice none 0 0, .bool false, .int .i64 0] 36 ?_; intro cA hg w62 hbox hb; replace aK := Zq_.mk (Kd.va_ (Kd.N_elderB (vX_ aK) cA (Nat.le_of_eq hg.symm)) hb); replace aQ := Zq_.mk (Kd.va_ (Kd.N_elderB (vX_ aQ) cA (Nat.le_of_eq hg.symm)) hb); replace bO := Zq_.mk (Kd.V_below (Kd.V_elderB (vX_ bO) cA (Nat.le_of_eq hg.symm)) hb); replace bG := Zq_.mk (Kd.qi_ (by repeat (first | (with_reducible exact bG.out) | (with_reducible refine Kd.C_alloc ?_ _) | (with_reducible refine Kd.C_drewN ?_ _) | (with_reducible refine Kd.C_drew ?_) | exact bG.out)) hb); have eC := Zq_.mk (hbox); have GW116 := gW_ (w := w) hg (by exact hSet_ HB); have GE116 := gW_ (w := w) hg (by exact hSet_ HB); replace HB := sB_ HB hb; have bS := nL_ aF hg; have bQ := nG_ aF hg; replace aF := kB_ aF hb; have bR := nL_ aH hg; have bP := nG_ aH hg; replace aH := kB_ aH hb; clear hb hbox hg; have hnb63 := bQ.out; have hnc63 := bS.out; have hnb64 := bP.out; have hnc64 := bR.out; obtain ⟨hcz65_0, hcz65_1, hcz65_2, hcz65_3, hcz65_4, hcz65_5, hcz65_6⟩ := c7_ eC; obtain ⟨hfz65_0, hfz65_1, hfz65_2, hfz65_3, hfz65_4, hfz65_5, hfz65_6⟩ := f7_ eC; obtain ⟨hcz66_0, hcz66_1, hcz66_2, hcz66_3, hcz66_4, hcz66_5, hcz66_6⟩ := c7_ aH; obtain ⟨hfz66_0, hfz66_1, hfz66_2, hfz66_3, hfz66_4, hfz66_5, hfz66_6⟩ := f7_ aH))
                       go_ret
                       exact ⟨by first | rfl | (simp [errW_none, errW_some] <;> rfl) | (simp only [← aJ, ← aJ]; first | rfl | (simp [errW_none, errW_some] <;> rfl)) | (simp [*, errW_none, errW_some] <;> rfl), by exact hSet_ HB⟩
                      ·rw [if_neg c52] at H; exact absurd ((Option.some.inj H).trans HRT.out) (by decide)
                     ·rw [if_neg c51] at H; exact absurd ((Option.some.inj H).trans HRT.out) (by decide)
                    ·rw [if_neg c49] at H; exact absurd ((Option.some.inj H).trans HRT.out) (by decide)
                   ·rw [if_neg c48] at H; exact absurd ((Option.some.inj H).trans HRT.out) (by decide)
                  ·rw [if_neg c47] at H; exact absurd ((Option.some.inj H).trans HRT.out) (by decide)
                 ·rw [if_neg c46] at H; exact absurd H (by simp)
                ·rw [if_neg c45] at H; exact absurd H (by simp)
              ·rw [if_neg c42] at H; exact absurd ((Option.some.inj H).trans HRT.out) (by decide)
             ·rw [if_neg c40] at H; exact absurd ((Option.some.inj H).trans HRT.out) (by decide)
           ·rw [if_neg c32] at H; exact absurd ((Option.some.inj H).trans HRT.out) (by decide)
       ·rw [if_neg c18] at H; exact absurd H (by simp)
      ·rw [if_neg c17] at H; exact absurd H (by simp)
 ·rw [if_neg c5] at H; exact absurd ((Option.some.inj H).trans HRT.out) (by decide)
end Go.Proofs.Ytoghjpoblbdnpaa.P

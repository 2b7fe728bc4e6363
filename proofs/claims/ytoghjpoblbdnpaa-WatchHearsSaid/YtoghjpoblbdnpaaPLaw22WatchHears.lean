/- What printed functions come to, and that the machine's calls do it. No condition. -/
import Derived.Test.YtoghjpoblbdnpaaPLaw22Alive
import Derived.Test.YtoghjpoblbdnpaaPRef22Without
import Derived.Test.YtoghjpoblbdnpaaPRef22Same
import Derived.Test.YtoghjpoblbdnpaaPWatchSame
import Derived.Test.YtoghjpoblbdnpaaPRef22Heard
namespace Go.Proofs.Ytoghjpoblbdnpaa.P
set_option maxHeartbeats 8000000
set_option maxRecDepth 100000
open Go.RowKit Go.Proofs.YtoghjpoblbdnpaaW.PrintWords Go.Proofs.YtoghjpoblbdnpaaW.PrintLast Go.Proofs.YtoghjpoblbdnpaaW.PrintMore
attribute [local go_sem] qt_ qr_ qx_ qw_ qn_ qm_ qs_ qq_ Go.Proofs.YtoghjpoblbdnpaaW.Hw.string_gtr
set_option linter.unusedVariables false
set_option linter.unusedSimpArgs false
mutual
def law22_WatchHears.j0 : Nat → List (S36) → List (S36) → Bool → Int → Int → Int → Int → Int → Option (Bool)
 | 0, _, _, _, _, _, _, _, _ => none
 | k + 1, x0, x1, x20, aQ, aP, aO, aJ, aN => if x20 = true then (some true) else ((watch_Right.f k x0).bind fun aU => ((ref22_Right.f k x0).bind fun aT => (if (aU != aT) = true then (law22_WatchHears.j1 k x0 true aQ aP aO aJ aN) else ((watch_Same.f x0 x1).bind fun aW => ((ref22_Same.f k x0 x1).bind fun aV => (if (aW != aV) = true then (law22_WatchHears.j1 k x0 true aQ aP aO aJ aN) else ((watch_Same.f x0 x0).bind fun bG => (law22_WatchHears.j1 k x0 (!bG) aQ aP aO aJ aN))))))))
def law22_WatchHears.j1 : Nat → List (S36) → Bool → Int → Int → Int → Int → Int → Option (Bool)
 | 0, _, _, _, _, _, _, _ => none
 | k + 1, x0, x40, aQ, aP, aO, aJ, aN => if x40 = true then (some false) else ((law22_out.f k x0 aJ).bind fun bK => (if bK = true then (some true) else ((ref22_Copy.f k x0).bind fun aS => ((watch_Heard.f k aS aQ aP aO aJ aN).bind fun aM => ((ref22_Heard.f k x0 aQ aP aO aJ aN).bind fun aY => ((ref22_Same.f k aM.1 aY.1).bind fun bE => (if bE = true then (if (aM.2 == aY.2) = true then ((ref22_Same.f k aS x0).bind fun bD => (if bD = true then ((ref22_Right.f k aM.1).bind fun bC => (some bC)) else (some false))) else (some false)) else (some false))))))))
end
def law22_WatchHears.f (k : Nat) (l0 : List (S36)) (l1 : List (S36)) (aE : Int) (aD : Int) (aC : Int) (aB : Int) (aH : Int) : Option (Bool) := (law22_alive.f k).bind fun bM => (if bM = true then ((ref22_Great.f k l0).bind fun bL => (if bL = true then (law22_WatchHears.j0 k l0 l1 true aE aD aC aB aH) else ((ref22_Great.f k l1).bind fun bB => (law22_WatchHears.j0 k l0 l1 bB aE aD aC aB aH)))) else (some false))
theorem law22_WatchHears.mono_l : ∀ k, (∀ y0 y1 y2 y3 y4 y5 y6 y7, LeO (law22_WatchHears.j0 k y0 y1 y2 y3 y4 y5 y6 y7) (law22_WatchHears.j0 (k + 1) y0 y1 y2 y3 y4 y5 y6 y7)) ∧ (∀ y0 y1 y2 y3 y4 y5 y6, LeO (law22_WatchHears.j1 k y0 y1 y2 y3 y4 y5 y6) (law22_WatchHears.j1 (k + 1) y0 y1 y2 y3 y4 y5 y6))
 | 0 => ⟨fun _ _ _ _ _ _ _ _ r h => by simp [law22_WatchHears.j0] at h, fun _ _ _ _ _ _ _ r h => by simp [law22_WatchHears.j1] at h⟩
 | k + 1 => by
  obtain ⟨ih0, ih1⟩ := law22_WatchHears.mono_l k; refine ⟨?_, ?_⟩
  ·intro y0 y1 y2 y3 y4 y5 y6 y7
   unfold law22_WatchHears.j0
   with_reducible repeat' first | exact ih0 _ _ _ _ _ _ _ _ | exact ih1 _ _ _ _ _ _ _ | exact law22_alive.mono _ | exact law22_out.mono _ _ _ | exact ref22_Copy.mono _ _ | exact ref22_Great.mono _ _ | exact ref22_Heard.mono _ _ _ _ _ _ _ | exact ref22_Right.mono _ _ | exact ref22_Same.mono _ _ _ | exact watch_Heard.mono _ _ _ _ _ _ _ | exact watch_Right.mono _ _ | exact LeO.refl _ | exact LeO.none _ | refine LeO.ite ?_ ?_ | refine LeO.bind ?_ (fun _ => ?_)
  ·intro y0 y1 y2 y3 y4 y5 y6
   unfold law22_WatchHears.j1
   with_reducible repeat' first | exact ih0 _ _ _ _ _ _ _ _ | exact ih1 _ _ _ _ _ _ _ | exact law22_alive.mono _ | exact law22_out.mono _ _ _ | exact ref22_Copy.mono _ _ | exact ref22_Great.mono _ _ | exact ref22_Heard.mono _ _ _ _ _ _ _ | exact ref22_Right.mono _ _ | exact ref22_Same.mono _ _ _ | exact watch_Heard.mono _ _ _ _ _ _ _ | exact watch_Right.mono _ _ | exact LeO.refl _ | exact LeO.none _ | refine LeO.ite ?_ ?_ | refine LeO.bind ?_ (fun _ => ?_)
theorem law22_WatchHears.mono : ∀ a0 a1 a2 a3 a4 a5 a6 k, LeO (law22_WatchHears.f k a0 a1 a2 a3 a4 a5 a6) (law22_WatchHears.f (k + 1) a0 a1 a2 a3 a4 a5 a6) := by
 intro a0 a1 a2 a3 a4 a5 a6 k; obtain ⟨ih0, ih1⟩ := law22_WatchHears.mono_l k
 unfold law22_WatchHears.f
 with_reducible repeat' first | exact ih0 _ _ _ _ _ _ _ _ | exact ih1 _ _ _ _ _ _ _ | exact law22_alive.mono _ | exact law22_out.mono _ _ _ | exact ref22_Copy.mono _ _ | exact ref22_Great.mono _ _ | exact ref22_Heard.mono _ _ _ _ _ _ _ | exact ref22_Right.mono _ _ | exact ref22_Same.mono _ _ _ | exact watch_Heard.mono _ _ _ _ _ _ _ | exact watch_Right.mono _ _ | exact LeO.refl _ | exact LeO.none _ | refine LeO.ite ?_ ?_ | refine LeO.bind ?_ (fun _ => ?_)
theorem law22_WatchHears.calls (k : Nat) (A0 : Option Addr) (c0 : Nat) (l0 : List (S36)) (A1 : Option Addr) (c1 : Nat) (l1 : List (S36)) (aE : Int) (aD : Int) (aC : Int) (aB : Int) (aH : Int) (r : Bool) (w : World) (hr0 : Kd.C k36 w A0 l0.length l0) (hc0 : l0.length ≤ c0) (hr1 : Kd.C k36 w A1 l1.length l1) (hc1 : l1.length ≤ c1) (h : law22_WatchHears.f k l0 l1 aE aD aC aB aH = some r) (hrt : r = true) :
  Calls Try.prog 7 #[.slice A0 l0.length c0, .slice A1 l1.length c1, .agg #[.int .i64 aE, .int .i64 aD, .int .i64 aC, .int .i64 aB, .int .i64 aH]] w fun e w' => e = .returned (.bool r) ∧ Below w.heap.size w w' := by
 have HRT := Zq_.mk hrt; clear hrt; have hu53 := Try.underlying53; have hu42 := Try.underlying42; have HR0 := Zq_.mk hr0; have HC0 := Zq_.mk hc0; clear hr0 hc0; have HR1 := Zq_.mk hr1; have HC1 := Zq_.mk hc1; clear hr1 hc1; have HB := Zq_.mk (Below.refl w.heap.size w); have H : ((law22_alive.f k).bind fun bM => (if bM = true then ((ref22_Great.f k l0).bind fun bL => (if bL = true then (law22_WatchHears.j0 k l0 l1 true aE aD aC aB aH) else ((ref22_Great.f k l1).bind fun bB => (law22_WatchHears.j0 k l0 l1 bB aE aD aC aB aH)))) else (some false))) = some r := h; clear h; replace H := ob_ H; obtain ⟨bM, A40, H⟩ := H; (try dsimp only at H); have A4 := Zq_.mk A40; clear A40
 by_cases c5 : bM = true
 ·subst c5
  rw [if_pos rfl] at H; have HC6 := Zq_.mk H; clear H
  go_enter Try.func7, Try.ntmps7
  go_upto_region 3 with (first | ((with_reducible refine qc_ (N := 5) rfl ?_); refine bE_ 5 #[.int .i64 aE, .int .i64 aD, .int .i64 aC, .int .i64 aB, .int .i64 aH] 53 ?_; intro aL hg w7 hbox hb; have aA := Zq_.mk (hbox); have bX := gW_ (w := w) hg (hB_ HB); have GE101 := gW_ (w := w) hg (hB_ HB); replace HB := sB_ HB hb; clear hb hbox hg) | ((with_reducible refine qg_ (f := 8) rfl ?_); refine goesL_ (some 13) rfl rfl Try.func8 (by kernel_rfl) rfl #[] rfl aR_ ?_; (with_reducible refine (law22_alive.calls k  true _ A4.out).mono ?_); rintro e w8 ⟨rfl, hb⟩; refine ⟨_, rfl, ?_⟩; replace aA := kB_ aA hb; replace HB := sB_ HB hb; (try clear hb)))
  (try simp only [Act.put, sa_, sb_, sc_])
  go_cut [20] (fun v20 wc => ∃ (kq : Nat) (bF : Bool), v20 = .bool bF ∧ Zq_ (law22_WatchHears.j0 kq l0 l1 bF aE aD aC aB aH = some r) ∧ Zq_ (kq ≤ k) ∧ Zq_ (wc.heap[aL]? = some (.cells #[.int .i64 aE, .int .i64 aD, .int .i64 aC, .int .i64 aB, .int .i64 aH] 53 (0, 0))) ∧ Zq_ (Below w.heap.size w wc))
  case first =>
   have H := HC6.out; clear HC6; replace H := ob_ H; obtain ⟨bL, A90, H⟩ := H; (try dsimp only at H); have A9 := Zq_.mk A90; clear A90
   by_cases c10 : bL = true
   ·subst c10
    rw [if_pos rfl] at H; have H' := Zq_.mk H; clear H
    go_wp2_with (first | ((with_reducible refine qg_ (f := 20) rfl ?_); refine goesL_ (some 16) rfl rfl Try.func20 (by kernel_rfl) rfl #[.slice A0 l0.length c0] rfl aR_ ?_; (with_reducible refine (ref22_Great.calls k _ _ l0 true _ ?side1 ?side2 A9.out).mono ?_); (case side1 => exact cX_ (Kd.qi_ HR0.out HB.out)); (case side2 => exact HC0.out); rintro e w' ⟨rfl, ⟨nd, rfl⟩⟩; refine ⟨_, rfl, ?_⟩))
    go_meet
    case rel => exact ⟨_, (true), eS_, H', ⟨by first | omega | exact Nat.le_refl _⟩, ⟨by (with_reducible repeat (first | refine qk_ ?_ _ | refine qh_ ?_ | refine ql_ ?_ _)); exact aA.out⟩, ⟨by exact hSet_ HB⟩⟩
   ·replace c10 := Bool.eq_false_iff.mpr c10; subst c10
    have H1 : ((ref22_Great.f k l1).bind fun bB => (law22_WatchHears.j0 k l0 l1 bB aE aD aC aB aH)) = some r := by rw [if_neg (show ¬ (false = true) by decide)] at H; exact H
    clear H; have H := H1; clear H1; replace H := ob_ H; obtain ⟨bB, cL, H⟩ := H; (try dsimp only at H); have A11 := Zq_.mk cL; clear cL; have H' := Zq_.mk H; clear H
    go_wp2_with (first | ((with_reducible refine qg_ (f := 20) rfl ?_); refine goesL_ (some 16) rfl rfl Try.func20 (by kernel_rfl) rfl #[.slice A0 l0.length c0] rfl aR_ ?_; (with_reducible refine (ref22_Great.calls k _ _ l0 false _ ?side1 ?side2 A9.out).mono ?_); (case side1 => exact cX_ (Kd.qi_ HR0.out HB.out)); (case side2 => exact HC0.out); rintro e w' ⟨rfl, ⟨nd, rfl⟩⟩; refine ⟨_, rfl, ?_⟩) | (go_at_call 20; (with_reducible refine (ref22_Great.calls k _ _ l1 bB _ ?side1 ?side2 A11.out).mono ?_); (case side1 => repeat (first | exact (Kd.qi_ HR1.out (by exact hSet_ HB)) | (with_reducible refine Kd.C_alloc ?_ _) | (with_reducible refine Kd.C_drewN ?_ _) | (with_reducible refine Kd.C_drew ?_))); (case side2 => exact HC1.out); rintro e w' ⟨rfl, ⟨nd, rfl⟩⟩))
    go_meet
    case rel => exact ⟨_, (bB), eS_, H', ⟨by first | omega | exact Nat.le_refl _⟩, ⟨by (with_reducible repeat (first | refine qk_ ?_ _ | refine qh_ ?_ | refine ql_ ?_ _)); exact aA.out⟩, ⟨by exact hSet_ HB⟩⟩
  case rest =>
   clear HC6
   try clear c1
   try clear c2
   try clear p2
   try clear c5
   try clear c7
   try clear c8
   try clear c10
   obtain ⟨kq, bF, rfl, HA, HJ5, aA, HB⟩ := hcut
   cases kq with
   | zero => exact absurd HA.out (by simp [law22_WatchHears.j0])
   | succ kj5 =>
    have H := HA.out; clear HA; simp only [law22_WatchHears.j0] at H
    by_cases c12 : bF = true
    ·subst c12
     rw [if_pos rfl] at H; obtain rfl := Option.some.inj H
     go_wp2
     go_ret
     exact ⟨by exact eW_, by exact hSet_ HB⟩
    ·replace c12 := Bool.eq_false_iff.mpr c12; subst c12
     have H1 : ((watch_Right.f kj5 l0).bind fun aU => ((ref22_Right.f kj5 l0).bind fun aT => (if (aU != aT) = true then (law22_WatchHears.j1 kj5 l0 true aE aD aC aB aH) else ((watch_Same.f l0 l1).bind fun aW => ((ref22_Same.f kj5 l0 l1).bind fun aV => (if (aW != aV) = true then (law22_WatchHears.j1 kj5 l0 true aE aD aC aB aH) else ((watch_Same.f l0 l0).bind fun bG => (law22_WatchHears.j1 kj5 l0 (!bG) aE aD aC aB aH)))))))) = some r := by rw [if_neg (show ¬ (false = true) by decide)] at H; exact H
     clear H; have H := H1; clear H1; have bU := Zq_.mk H; clear H
     go_upto_region 5 with (fail)
     go_cut [40] (fun v40 wc => ∃ (kq : Nat) (bA : Bool), v40 = .bool bA ∧ Zq_ (law22_WatchHears.j1 kq l0 bA aE aD aC aB aH = some r) ∧ Zq_ (kq ≤ kj5) ∧ Zq_ (wc.heap[aL]? = some (.cells #[.int .i64 aE, .int .i64 aD, .int .i64 aC, .int .i64 aB, .int .i64 aH] 53 (0, 0))) ∧ Zq_ (Below w.heap.size w wc))
     case first =>
      have H := bU.out; clear bU; replace H := ob_ H; obtain ⟨aU, cK, H⟩ := H; (try dsimp only at H); have A14 := Zq_.mk cK; clear cK; replace H := ob_ H; obtain ⟨aT, cJ, H⟩ := H; (try dsimp only at H); have A15 := Zq_.mk cJ; clear cJ
      by_cases c16 : (aU != aT) = true
      ·rw [if_pos c16] at H; have aZ : (aU != aT) = true := c16; (try (have bS : decide (aU = aT) = false := by simpa using c16)); (try (have bR : (aU == aT) = false := by simpa using c16)); (try (have c16b3 : ¬ (aU = aT) := by simpa using c16)); clear c16; (first | rw [aZ] | (simp only [i64_w, i32_w]; rw [aZ]) | skip); have H' := Zq_.mk H; clear H
       go_wp2_with (first | ((with_reducible refine qg_ (f := 16) rfl ?_); refine goesL_ (some 22) rfl rfl Try.func16 (by kernel_rfl) rfl #[.slice A0 l0.length c0] rfl aR_ ?_; (with_reducible refine (watch_Right.calls kj5 _ _ l0 aU _ ?side1 ?side2 A14.out).mono ?_); (case side1 => exact cX_ (Kd.qi_ HR0.out HB.out)); (case side2 => exact HC0.out); rintro e w17 ⟨rfl, hb⟩; refine ⟨_, rfl, ?_⟩; replace aA := kB_ aA hb; replace HB := sB_ HB hb; (try clear hb)) | ((with_reducible refine qg_ (f := 21) rfl ?_); refine goesL_ (some 24) rfl rfl Try.func21 (by kernel_rfl) rfl #[.slice A0 l0.length c0] rfl aR_ ?_; (with_reducible refine (ref22_Right.calls kj5 _ _ l0 aT _ ?side1 ?side2 A15.out).mono ?_); (case side1 => exact cX_ (Kd.qi_ HR0.out HB.out)); (case side2 => exact HC0.out); rintro e w18 ⟨rfl, hb⟩; refine ⟨_, rfl, ?_⟩; replace aA := kB_ aA hb; replace HB := sB_ HB hb; (try clear hb)))
       go_meet
       case rel => exact ⟨_, (true), eS_, H', ⟨by have := HJ5.out; first | omega | exact Nat.le_refl _⟩, ⟨by (with_reducible repeat (first | refine qk_ ?_ _ | refine qh_ ?_ | refine ql_ ?_ _)); exact aA.out⟩, ⟨by exact hSet_ HB⟩⟩
      ·rw [if_neg c16] at H
       have aZ : (aU != aT) = false := by simpa using c16
       (try (have bS : decide (aU = aT) = true := by simpa using c16)); (try (have bR : (aU == aT) = true := by simpa using c16)); clear c16; (first | rw [aZ] | (simp only [i64_w, i32_w]; rw [aZ]) | skip); replace H := ob_ H; obtain ⟨aW, cI, H⟩ := H; (try dsimp only at H); have A19 := Zq_.mk cI; clear cI; replace H := ob_ H; obtain ⟨aV, cH, H⟩ := H; (try dsimp only at H); have A20 := Zq_.mk cH; clear cH
       by_cases c21 : (aW != aV) = true
       ·rw [if_pos c21] at H; have bQ : (aW != aV) = true := c21; (try (have bP : decide (aW = aV) = false := by simpa using c21)); (try (have bO : (aW == aV) = false := by simpa using c21)); (try (have c21b3 : ¬ (aW = aV) := by simpa using c21)); clear c21; have H' := Zq_.mk H; clear H
        go_wp2_with (first | ((with_reducible refine qg_ (f := 16) rfl ?_); refine goesL_ (some 22) rfl rfl Try.func16 (by kernel_rfl) rfl #[.slice A0 l0.length c0] rfl aR_ ?_; (with_reducible refine (watch_Right.calls kj5 _ _ l0 aU _ ?side1 ?side2 A14.out).mono ?_); (case side1 => exact cX_ (Kd.qi_ HR0.out HB.out)); (case side2 => exact HC0.out); rintro e w22 ⟨rfl, hb⟩; refine ⟨_, rfl, ?_⟩; replace aA := kB_ aA hb; replace HB := sB_ HB hb; (try clear hb)) | ((with_reducible refine qg_ (f := 21) rfl ?_); refine goesL_ (some 24) rfl rfl Try.func21 (by kernel_rfl) rfl #[.slice A0 l0.length c0] rfl aR_ ?_; (with_reducible refine (ref22_Right.calls kj5 _ _ l0 aT _ ?side1 ?side2 A15.out).mono ?_); (case side1 => exact cX_ (Kd.qi_ HR0.out HB.out)); (case side2 => exact HC0.out); rintro e w23 ⟨rfl, hb⟩; refine ⟨_, rfl, ?_⟩; replace aA := kB_ aA hb; replace HB := sB_ HB hb; (try clear hb)) | (go_at_call 22; (with_reducible refine (watch_Same.calls _ _ l0 _ _ l1 aW _ ?side1 ?side2 ?side3 ?side4 A19.out).mono ?_); (case side1 => exact cX_ (Kd.qi_ HR0.out HB.out)); (case side2 => exact HC0.out); (case side3 => exact cX_ (Kd.qi_ HR1.out HB.out)); (case side4 => exact HC1.out); rintro e w24 ⟨rfl, hb⟩; replace aA := kB_ aA hb; replace HB := sB_ HB hb; (try clear hb)) | (go_at_call 14; (with_reducible refine (ref22_Same.calls kj5 _ _ l0 _ _ l1 aV _ ?side1 ?side2 ?side3 ?side4 A20.out).mono ?_); (case side1 => exact cX_ (Kd.qi_ HR0.out HB.out)); (case side2 => exact HC0.out); (case side3 => exact cX_ (Kd.qi_ HR1.out HB.out)); (case side4 => exact HC1.out); rintro e w25 ⟨rfl, hb⟩; replace aA := kB_ aA hb; replace HB := sB_ HB hb; (try clear hb)))
        go_meet
        case rel => exact ⟨_, (true), eS_, H', ⟨by have := HJ5.out; first | omega | exact Nat.le_refl _⟩, ⟨by (with_reducible repeat (first | refine qk_ ?_ _ | refine qh_ ?_ | refine ql_ ?_ _)); exact aA.out⟩, ⟨by exact hSet_ HB⟩⟩
       ·rw [if_neg c21] at H
        have bQ : (aW != aV) = false := by simpa using c21
        (try (have bP : decide (aW = aV) = true := by simpa using c21)); (try (have bO : (aW == aV) = true := by simpa using c21)); clear c21; replace H := ob_ H; obtain ⟨bG, cG, H⟩ := H; (try dsimp only at H); have A26 := Zq_.mk cG; clear cG; have H' := Zq_.mk H; clear H
        go_wp2_with (first | ((with_reducible refine qg_ (f := 16) rfl ?_); refine goesL_ (some 22) rfl rfl Try.func16 (by kernel_rfl) rfl #[.slice A0 l0.length c0] rfl aR_ ?_; (with_reducible refine (watch_Right.calls kj5 _ _ l0 aU _ ?side1 ?side2 A14.out).mono ?_); (case side1 => exact cX_ (Kd.qi_ HR0.out HB.out)); (case side2 => exact HC0.out); rintro e w27 ⟨rfl, hb⟩; refine ⟨_, rfl, ?_⟩; replace aA := kB_ aA hb; replace HB := sB_ HB hb; (try clear hb)) | ((with_reducible refine qg_ (f := 21) rfl ?_); refine goesL_ (some 24) rfl rfl Try.func21 (by kernel_rfl) rfl #[.slice A0 l0.length c0] rfl aR_ ?_; (with_reducible refine (ref22_Right.calls kj5 _ _ l0 aT _ ?side1 ?side2 A15.out).mono ?_); (case side1 => exact cX_ (Kd.qi_ HR0.out HB.out)); (case side2 => exact HC0.out); rintro e w28 ⟨rfl, hb⟩; refine ⟨_, rfl, ?_⟩; replace aA := kB_ aA hb; replace HB := sB_ HB hb; (try clear hb)) | (go_at_call 22; (with_reducible refine (watch_Same.calls _ _ l0 _ _ l1 aW _ ?side1 ?side2 ?side3 ?side4 A19.out).mono ?_); (case side1 => exact cX_ (Kd.qi_ HR0.out HB.out)); (case side2 => exact HC0.out); (case side3 => exact cX_ (Kd.qi_ HR1.out HB.out)); (case side4 => exact HC1.out); rintro e w29 ⟨rfl, hb⟩; replace aA := kB_ aA hb; replace HB := sB_ HB hb; (try clear hb)) | (go_at_call 14; (with_reducible refine (ref22_Same.calls kj5 _ _ l0 _ _ l1 aV _ ?side1 ?side2 ?side3 ?side4 A20.out).mono ?_); (case side1 => exact cX_ (Kd.qi_ HR0.out HB.out)); (case side2 => exact HC0.out); (case side3 => exact cX_ (Kd.qi_ HR1.out HB.out)); (case side4 => exact HC1.out); rintro e w30 ⟨rfl, hb⟩; replace aA := kB_ aA hb; replace HB := sB_ HB hb; (try clear hb)) | (go_at_call 22; (with_reducible refine (watch_Same.calls _ _ l0 _ _ l0 bG _ ?side1 ?side2 ?side3 ?side4 A26.out).mono ?_); (case side1 => exact cX_ (Kd.qi_ HR0.out HB.out)); (case side2 => exact HC0.out); (case side3 => exact cX_ (Kd.qi_ HR0.out HB.out)); (case side4 => exact HC0.out); rintro e w31 ⟨rfl, hb⟩; replace aA := kB_ aA hb; replace HB := sB_ HB hb; (try clear hb)))
        go_meet
        case rel => exact ⟨_, (!bG), eS_, H', ⟨by have := HJ5.out; first | omega | exact Nat.le_refl _⟩, ⟨by (with_reducible repeat (first | refine qk_ ?_ _ | refine qh_ ?_ | refine ql_ ?_ _)); exact aA.out⟩, ⟨by exact hSet_ HB⟩⟩
     case rest =>
      clear bU
      try clear c1
      try clear c2
      try clear p2
      try clear c5
      try clear c7
      try clear c8
      try clear c10
      try clear c12
      try clear c16
      try clear aZ
      try clear bS
      try clear bR
      try clear c20
      try clear c21
      try clear bQ
      try clear bP
      try clear bO
      try clear p2
      obtain ⟨kq, bA, rfl, HA, HJ12, aA, HB⟩ := hcut
      cases kq with
      | zero => exact absurd HA.out (by simp [law22_WatchHears.j1])
      | succ kj12 =>
       have H := HA.out; clear HA; simp only [law22_WatchHears.j1] at H
       by_cases c32 : bA = true
       ·subst c32
        rw [if_pos rfl] at H; obtain rfl := Option.some.inj H
        go_wp2
        go_ret
        exact ⟨by exact eW_, by exact hSet_ HB⟩
       ·replace c32 := Bool.eq_false_iff.mpr c32; subst c32
        have H1 : ((law22_out.f kj12 l0 aB).bind fun bK => (if bK = true then (some true) else ((ref22_Copy.f kj12 l0).bind fun aS => ((watch_Heard.f kj12 aS aE aD aC aB aH).bind fun aM => ((ref22_Heard.f kj12 l0 aE aD aC aB aH).bind fun aY => ((ref22_Same.f kj12 aM.1 aY.1).bind fun bE => (if bE = true then (if (aM.2 == aY.2) = true then ((ref22_Same.f kj12 aS l0).bind fun bD => (if bD = true then ((ref22_Right.f kj12 aM.1).bind fun bC => (some bC)) else (some false))) else (some false)) else (some false)))))))) = some r := by rw [if_neg (show ¬ (false = true) by decide)] at H; exact H
        clear H; have H := H1; clear H1; replace H := ob_ H; obtain ⟨bK, cF, H⟩ := H; (try dsimp only at H); have A33 := Zq_.mk cF; clear cF
        by_cases c34 : bK = true
        ·subst c34
         rw [if_pos rfl] at H; obtain rfl := Option.some.inj H; obtain ⟨hcz35_0, hcz35_1, hcz35_2, hcz35_3, hcz35_4⟩ := c5_ aA; obtain ⟨hfz35_0, hfz35_1, hfz35_2, hfz35_3, hfz35_4⟩ := f5_ aA
         go_wp2_with (first | ((with_reducible refine qg_ (f := 9) rfl ?_); refine goesL_ (some 44) rfl rfl Try.func9 (by kernel_rfl) rfl #[.slice A0 l0.length c0, .int .i64 aB] rfl aR_ ?_; (with_reducible refine (law22_out.calls kj12 _ _ l0 aB true _ ?side1 ?side2 A33.out).mono ?_); (case side1 => exact cX_ (Kd.qi_ HR0.out HB.out)); (case side2 => exact HC0.out); rintro e w36 ⟨rfl, hb⟩; refine ⟨_, rfl, ?_⟩; replace aA := kB_ aA hb; replace HB := sB_ HB hb; (try clear hb)))
         go_ret
         exact ⟨by exact eW_, by exact hSet_ HB⟩
        ·replace c34 := Bool.eq_false_iff.mpr c34; subst c34
         have H1 : ((ref22_Copy.f kj12 l0).bind fun aS => ((watch_Heard.f kj12 aS aE aD aC aB aH).bind fun aM => ((ref22_Heard.f kj12 l0 aE aD aC aB aH).bind fun aY => ((ref22_Same.f kj12 aM.1 aY.1).bind fun bE => (if bE = true then (if (aM.2 == aY.2) = true then ((ref22_Same.f kj12 aS l0).bind fun bD => (if bD = true then ((ref22_Right.f kj12 aM.1).bind fun bC => (some bC)) else (some false))) else (some false)) else (some false)))))) = some r := by rw [if_neg (show ¬ (false = true) by decide)] at H; exact H
         clear H; have H := H1; clear H1; replace H := ob_ H; obtain ⟨aS, cE, H⟩ := H; (try dsimp only at H); have A37 := Zq_.mk cE; clear cE; replace H := ob_ H; obtain ⟨⟨bN, bJ⟩, cD, H⟩ := H; (try dsimp only at H); have A38 := Zq_.mk cD; clear cD; replace H := ob_ H; obtain ⟨⟨bT, bI⟩, cC, H⟩ := H; (try dsimp only at H); have A39 := Zq_.mk cC; clear cC; replace H := ob_ H; obtain ⟨bE, cB, H⟩ := H; (try dsimp only at H); have A40 := Zq_.mk cB; clear cB
         by_cases c41 : bE = true
         ·subst c41
          rw [if_pos rfl] at H
          by_cases c42 : (bJ == bI) = true
          ·rw [if_pos c42] at H; have c42b0 : (bJ == bI) = true := c42; (try (have c42b1 : decide (bJ = bI) = true := by simpa using c42)); (try (have c42b2 : (bJ == bI) = true := by simpa using c42)); clear c42; replace H := ob_ H; obtain ⟨bD, cA, H⟩ := H; (try dsimp only at H); have A43 := Zq_.mk cA; clear cA
           by_cases c44 : bD = true
           ·subst c44
            rw [if_pos rfl] at H; replace H := ob_ H; obtain ⟨bC, bZ, H⟩ := H; (try dsimp only at H); have A45 := Zq_.mk bZ; clear bZ; obtain rfl := Option.some.inj H; obtain ⟨hcz46_0, hcz46_1, hcz46_2, hcz46_3, hcz46_4⟩ := c5_ aA; obtain ⟨hfz46_0, hfz46_1, hfz46_2, hfz46_3, hfz46_4⟩ := f5_ aA
            go_wp2_with (first | ((with_reducible refine qg_ (f := 9) rfl ?_); refine goesL_ (some 44) rfl rfl Try.func9 (by kernel_rfl) rfl #[.slice A0 l0.length c0, .int .i64 aB] rfl aR_ ?_; (with_reducible refine (law22_out.calls kj12 _ _ l0 aB false _ ?side1 ?side2 A33.out).mono ?_); (case side1 => exact cX_ (Kd.qi_ HR0.out HB.out)); (case side2 => exact HC0.out); rintro e w47 ⟨rfl, hb⟩; refine ⟨_, rfl, ?_⟩; replace aA := kB_ aA hb; replace HB := sB_ HB hb; (try clear hb)) | ((with_reducible refine qg_ (f := 23) rfl ?_); refine goesL_ (some 46) rfl rfl Try.func23 (by kernel_rfl) rfl #[.slice A0 l0.length c0] rfl aR_ ?_; (with_reducible refine (ref22_Copy.calls kj12 _ _ l0 aS _ ?side1 ?side2 A37.out).mono ?_); (case side1 => exact cX_ (Kd.qi_ HR0.out HB.out)); (case side2 => exact HC0.out); rintro e w48 ⟨v112, rfl, ho0, hb⟩; refine ⟨_, rfl, ?_⟩; have aF := Zq_.mk (Kd.vi_ (Kd.N_mono (ok' := fun k_ => k_ ≠ aL) (Kd.S_N (Kd.S_bound ho0)) (fun k_ hk_ => (Kd.freshB (g := aL) (o := .cells #[.int .i64 aE, .int .i64 aD, .int .i64 aC, .int .i64 aB, .int .i64 aH] 53 (0, 0)) (by exact bK_ aA) k_ hk_.2.1))) (qb_ (by exact hSet_ HB))); replace aA := kB_ aA hb; replace HB := sB_ HB hb; (try clear hb); (try clear ho0); obtain ⟨hcz49_0, hcz49_1, hcz49_2, hcz49_3, hcz49_4⟩ := c5_ aA; obtain ⟨hfz49_0, hfz49_1, hfz49_2, hfz49_3, hfz49_4⟩ := f5_ aA) | ((with_reducible refine qc_ (N := 8) rfl ?_); refine bE_ 8 #[.int .i64 0, .int .i64 0, .int .i64 0] 42 ?_; intro aK hg w50 hbox hb; replace aF := Zq_.mk (Kd.va_ (Kd.N_elderB (vX_ aF) aK (Nat.le_of_eq hg.symm)) hb); have aG := Zq_.mk (hbox); have bW := gW_ (w := w) hg (by exact hSet_ HB); have GE114 := gW_ (w := w) hg (by exact hSet_ HB); replace HB := sB_ HB hb; have aR := nL_ aA hg; have bH := nG_ aA hg; replace aA := kB_ aA hb; clear hb hbox hg; have hnb51 := bH.out; have hnc51 := aR.out; obtain ⟨hcz52_0, hcz52_1, hcz52_2⟩ := c3_ aG; obtain ⟨hfz52_0, hfz52_1, hfz52_2⟩ := f3_ aG) | ((with_reducible refine gate_store (t := 42) (p := 8) rfl ?_); refine store_event (t := 42) (p := 8) (v := ?vo_w53) (w1 := (((w50.setCell ⟨aK, 0, none⟩ (.int .i64 aE)).setCell ⟨aK, 1, none⟩ (.int .i64 aD)).setCell ⟨aK, 2, none⟩ (.int .i64 aC))) ?hg ?ho ?hn ?hr ?_; (case ho => rfl); (case hg => rfl); (case hn => rfl); (case hr => first | (go_simp; done) | (go_simp; rfl)); intro w53 hw; have n0_ : Zq_ (Kd.N k36 36 w53 w.heap.size (fun k_ => k_ ≠ aL ∧ k_ ≠ aK) v112 aS) := ⟨(by rw [hw]; exact (by (with_reducible repeat (first | apply Kd.qz_ | apply Kd.qy_ | apply Kd.N_drew)); exact Kd.N_mono (Kd.N_far (Kd.N_far (Kd.N_far (Kd.N_mono aF.out (fun k_ hk => (⟨hk, hk.2⟩ : _ ∧ k_ ≠ aK))) (fun _ hk => hk.2) _) (fun _ hk => hk.2) _) (fun _ hk => hk.2) _) (fun _ hk => ⟨hk.1.1, hk.1.2⟩)))⟩; have n1_ : Zq_ (w53.heap[aL]? = some (.cells #[.int .i64 aE, .int .i64 aD, .int .i64 aC, .int .i64 aB, .int .i64 aH] 53 (0, 0))) := ⟨(by rw [hw]; exact (by refine bF_ aR ?_; refine bF_ aR ?_; refine bF_ aR ?_; exact bK_ aA))⟩; have n2_ : Zq_ (w53.heap[aK]? = some (.cells #[.int .i64 aE, .int .i64 aD, .int .i64 aC] 42 (0, 0))) := ⟨(by rw [hw]; exact (by exact bW3_ (bK_ aG)))⟩; have n3_ : Zq_ (Below w.heap.size w w53) := ⟨(by rw [hw]; exact (by exact hSet_ HB))⟩; clear hw; clear aF; clear aA; clear aG; clear HB; have aF := n0_; have aA := n1_; have aG := n2_; have HB := n3_; clear n0_ n1_ n2_ n3_; obtain ⟨hcz54_0, hcz54_1, hcz54_2⟩ := c3_ aG; obtain ⟨hfz54_0, hfz54_1, hfz54_2⟩ := f3_ aG; obtain ⟨hcz55_0, hcz55_1, hcz55_2, hcz55_3, hcz55_4⟩ := c5_ aA; obtain ⟨hfz55_0, hfz55_1, hfz55_2, hfz55_3, hfz55_4⟩ := f5_ aA; obtain ⟨bY, bV, eo56⟩ := Kd.vp_ aF.out; subst eo56) | ((with_reducible refine qg_ (f := 13) rfl ?_); refine goesL_ (some 61) rfl rfl Try.func13 (by kernel_rfl) rfl #[.slice bY aS.length bV, .agg #[.int .i64 aE, .int .i64 aD, .int .i64 aC], .int .i64 aB, .int .i64 aH] rfl aR_ ?_; (with_reducible refine (watch_Heard.calls kj12 (fun k_ => (k_ ≠ aL ∧ k_ ≠ aK)) _ _ aS aE aD aC aB aH bN bJ _ ?side1 A38.out).mono ?_); (case side1 => exact Kd.N_V (aF.out)); rintro e w57 ⟨v116, rfl, ho0, hb⟩; refine ⟨_, rfl, ?_⟩; replace aF := Zq_.mk (Kd.N_elder' (vX_ aF) (by first | exact Kd.N_base ho0 | exact Kd.S_base ho0) hb); have aI := Zq_.mk (Kd.vi_ (Kd.N_mono (ok' := fun k_ => k_ ≠ aL ∧ k_ ≠ aK) ho0 (fun k_ hk_ => ⟨Or.elim hk_ (fun hs_ => hs_.1) (fun hn_ => (Kd.freshB (g := aL) (o := .cells #[.int .i64 aE, .int .i64 aD, .int .i64 aC, .int .i64 aB, .int .i64 aH] 53 (0, 0)) (by exact bK_ aA) k_ hn_)), Or.elim hk_ (fun hs_ => hs_.2) (fun hn_ => (Kd.freshB (g := aK) (o := .cells #[.int .i64 aE, .int .i64 aD, .int .i64 aC] 42 (0, 0)) (by exact bK_ aG) k_ hn_))⟩)) (qb_ (by exact hSet_ HB))); replace aA := kB_ aA hb; replace aG := kB_ aG hb; replace HB := sB_ HB hb; (try clear hb); (try clear ho0); obtain ⟨hcz58_0, hcz58_1, hcz58_2⟩ := c3_ aG; obtain ⟨hfz58_0, hfz58_1, hfz58_2⟩ := f3_ aG; obtain ⟨hcz59_0, hcz59_1, hcz59_2, hcz59_3, hcz59_4⟩ := c5_ aA; obtain ⟨hfz59_0, hfz59_1, hfz59_2, hfz59_3, hfz59_4⟩ := f5_ aA) | ((with_reducible refine qg_ (f := 24) rfl ?_); refine goesL_ (some 71) rfl rfl Try.func24 (by kernel_rfl) rfl #[.slice A0 l0.length c0, .agg #[.int .i64 aE, .int .i64 aD, .int .i64 aC], .int .i64 aB, .int .i64 aH] rfl aR_ ?_; (with_reducible refine (ref22_Heard.calls kj12 (fun k_ => k_ < w.heap.size) _ _ l0 aE aD aC aB aH bT bI _ ?side1 A39.out).mono ?_); (case side1 => exact Kd.V_mk HC0.out (Kd.F_below (Kd.C_F k36_heap HR0.out) (by exact hSet_ HB))); rintro e w60 ⟨v120, rfl, ho0, hb⟩; refine ⟨_, rfl, ?_⟩; have aX := Zq_.mk (Kd.vi_ (Kd.N_mono (ok' := fun k_ => some k_ ≠ (.slice bY aS.length bV : Value).ownBlock ∧ some k_ ≠ (v116 : Value).ownBlock ∧ k_ ≠ aL ∧ k_ ≠ aK) ho0 (fun k_ hk_ => ⟨Or.elim hk_ (fun hs_ => fun e_ => Nat.not_le.2 hs_ (Kd.N_base aF.out k_ e_.symm)) (fun hn_ => (Kd.fresh' (Kd.N_lt (vX_ aF)) k_ hn_)), Or.elim hk_ (fun hs_ => fun e_ => Nat.not_le.2 hs_ (Kd.N_base aI.out k_ e_.symm)) (fun hn_ => (Kd.fresh' (Kd.N_lt (vX_ aI)) k_ hn_)), Or.elim hk_ (fun hs_ => fun e_ => Nat.not_le.2 hs_ (by rw [e_]; exact bX.out)) (fun hn_ => (Kd.freshB (g := aL) (o := .cells #[.int .i64 aE, .int .i64 aD, .int .i64 aC, .int .i64 aB, .int .i64 aH] 53 (0, 0)) (by exact bK_ aA) k_ hn_)), Or.elim hk_ (fun hs_ => fun e_ => Nat.not_le.2 hs_ (by rw [e_]; exact bW.out)) (fun hn_ => (Kd.freshB (g := aK) (o := .cells #[.int .i64 aE, .int .i64 aD, .int .i64 aC] 42 (0, 0)) (by exact bK_ aG) k_ hn_))⟩)) (qb_ (by exact hSet_ HB))); replace aF := Zq_.mk (Kd.N_elder' (vX_ aF) (by first | exact Kd.N_base ho0 | exact Kd.S_base ho0) hb); replace aI := Zq_.mk (Kd.N_elder' (vX_ aI) (by first | exact Kd.N_base ho0 | exact Kd.S_base ho0) hb); replace aA := kB_ aA hb; replace aG := kB_ aG hb; replace HB := sB_ HB hb; (try clear hb); (try clear ho0); obtain ⟨Ao61, co61, eo61⟩ := Kd.vp_ aI.out; subst eo61; obtain ⟨Ao62, co62, eo62⟩ := Kd.vp_ aX.out; subst eo62) | ((with_reducible refine qg_ (f := 14) rfl ?_); refine goesL_ (some 76) rfl rfl Try.func14 (by kernel_rfl) rfl #[.slice Ao61 bN.length co61, .slice Ao62 bT.length co62] rfl aR_ ?_; (with_reducible refine (ref22_Same.calls kj12 _ _ bN _ _ bT true _ ?side1 ?side2 ?side3 ?side4 A40.out).mono ?_); (case side1 => exact cX_ ((Kd.N_reads' aI.out).2.2)); (case side2 => exact (Kd.N_reads' aI.out).2.1); (case side3 => exact cX_ ((Kd.N_reads' aX.out).2.2)); (case side4 => exact (Kd.N_reads' aX.out).2.1); rintro e w63 ⟨rfl, hb⟩; refine ⟨_, rfl, ?_⟩; replace aF := vV_ Kd.va_ aF hb; replace aI := vV_ Kd.va_ aI hb; replace aX := vV_ Kd.va_ aX hb; replace aA := kB_ aA hb; replace aG := kB_ aG hb; replace HB := sB_ HB hb; (try clear hb)) | (go_at_call 14; (with_reducible refine (ref22_Same.calls kj12 _ _ aS _ _ l0 true _ ?side1 ?side2 ?side3 ?side4 A43.out).mono ?_); (case side1 => exact cX_ ((Kd.N_reads' aF.out).2.2)); (case side2 => exact (Kd.N_reads' aF.out).2.1); (case side3 => exact cX_ (Kd.qi_ HR0.out HB.out)); (case side4 => exact HC0.out); rintro e w64 ⟨rfl, hb⟩; replace aF := vV_ Kd.va_ aF hb; replace aI := vV_ Kd.va_ aI hb; replace aX := vV_ Kd.va_ aX hb; replace aA := kB_ aA hb; replace aG := kB_ aG hb; replace HB := sB_ HB hb; (try clear hb)) | (go_at_call 21; (with_reducible refine (ref22_Right.calls kj12 _ _ bN bC _ ?side1 ?side2 A45.out).mono ?_); (case side1 => exact cX_ ((Kd.N_reads' aI.out).2.2)); (case side2 => exact (Kd.N_reads' aI.out).2.1); rintro e w65 ⟨rfl, hb⟩; replace aF := vV_ Kd.va_ aF hb; replace aI := vV_ Kd.va_ aI hb; replace aX := vV_ Kd.va_ aX hb; replace aA := kB_ aA hb; replace aG := kB_ aG hb; replace HB := sB_ HB hb; (try clear hb)))
            go_ret
            exact ⟨by exact eW_, by exact hSet_ HB⟩
           ·rw [if_neg c44] at H; exact absurd ((Option.some.inj H).trans HRT.out) (by decide)
          ·rw [if_neg c42] at H; exact absurd ((Option.some.inj H).trans HRT.out) (by decide)
         ·rw [if_neg c41] at H; exact absurd ((Option.some.inj H).trans HRT.out) (by decide)
 ·rw [if_neg c5] at H; exact absurd ((Option.some.inj H).trans HRT.out) (by decide)
end Go.Proofs.Ytoghjpoblbdnpaa.P

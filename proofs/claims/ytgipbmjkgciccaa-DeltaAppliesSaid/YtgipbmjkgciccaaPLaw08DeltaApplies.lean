/- What printed functions come to, and that the machine's calls do it. No condition. -/
import Derived.Test.YtgipbmjkgciccaaPLaw08Alive
import Derived.Test.YtgipbmjkgciccaaPRef06Right
import Derived.Test.YtgipbmjkgciccaaPDeltaFull
import Derived.Test.YtgipbmjkgciccaaPApiEntry74
import Derived.Test.YtgipbmjkgciccaaPRef08Right
import Derived.Test.YtgipbmjkgciccaaPRef04Join
import Derived.Test.YtgipbmjkgciccaaPRef08Apply
import Derived.Test.YtgipbmjkgciccaaPDeltaFits
namespace Go.Proofs.Ytgipbmjkgciccaa.P
set_option maxHeartbeats 8000000
set_option maxRecDepth 100000
open Go.RowKit Go.Proofs.YtgipbmjkgciccaaW.PrintWords Go.Proofs.YtgipbmjkgciccaaW.PrintLast Go.Proofs.YtgipbmjkgciccaaW.PrintMore
attribute [local go_sem] qv_ qt_ vb_ va_ qm_ ql_ qu_ qs_ Go.Proofs.YtgipbmjkgciccaaW.Hw.string_gtr
set_option linter.unusedVariables false
set_option linter.unusedSimpArgs false
mutual
def law08_DeltaApplies.j0 : Nat → List (S39) → List (S53) → List (S53) → Bool → Option (Bool)
 | 0, _, _, _, _ => none
 | k + 1, x0, x1, x2, x24 => if x24 = true then (some true) else ((delta_Right.f k x1).bind fun aO => ((ref08_Right.f k x1).bind fun aL => (if (aO != aL) = true then (law08_DeltaApplies.j1 k x0 x1 true) else ((delta_Same.f x1 x2).bind fun aW => ((ref08_Same.f k x1 x2).bind fun aS => (law08_DeltaApplies.j1 k x0 x1 (aW != aS)))))))
def law08_DeltaApplies.j1 : Nat → List (S39) → List (S53) → Bool → Option (Bool)
 | 0, _, _, _ => none
 | k + 1, x0, x1, x38 => if x38 = true then (some false) else ((ref06_Right.f k x0).bind fun cJ => (if cJ = true then ((ref08_Right.f k x1).bind fun bF => (law08_DeltaApplies.j2 k x0 x1 (!bF))) else (law08_DeltaApplies.j2 k x0 x1 true)))
def law08_DeltaApplies.j2 : Nat → List (S39) → List (S53) → Bool → Option (Bool)
 | 0, _, _, _ => none
 | k + 1, x0, x1, x46 => if x46 = true then (some true) else ((ref06_Copy.f k x0).bind fun aD => ((delta_Apply.f k aD x1).bind fun aU => ((ref08_Apply.f k x0 x1).bind fun aM => (law08_DeltaApplies.l0 k x0 x1 aD aU.1 aU.2 aM.1 aM.2 0))))
def law08_DeltaApplies.l0 : Nat → List (S39) → List (S53) → List (S39) → List (S39) → List Int → List (S39) → List Int → Int → Option (Bool)
 | 0, _, _, _, _, _, _, _, _ => none
 | k + 1, x0, x1, x7, x8, x9, x10, x11, x12 => if x12 < (x1.length : Int) then (if 0 ≤ x12 then ((delta_Fits.f k x0 ((rd_T53 x1 x12).f0) ((rd_T53 x1 x12).f1) ((rd_T53 x1 x12).f2.f0) ((rd_T53 x1 x12).f2.f1) ((rd_T53 x1 x12).f2.f2)).bind fun bM => ((ref08_Fits.f k x0 ((rd_T53 x1 x12).f0) ((rd_T53 x1 x12).f1) ((rd_T53 x1 x12).f2.f0) ((rd_T53 x1 x12).f2.f1) ((rd_T53 x1 x12).f2.f2)).bind fun bG => (if (bM != bG) = true then (some false) else (law08_DeltaApplies.l0 k x0 x1 x7 x8 x9 x10 x11 (wrap64 (x12 + 1)))))) else (none)) else ((ref06_Same.f k x8 x10).bind fun cQ => (if cQ = true then ((ref06_Ints.f k x9 x11).bind fun bY => (if bY = true then ((ref06_Same.f k x7 x0).bind fun aV => (if aV = true then ((ref06_Over.f k x8 x0).bind fun aN => (if aN = true then ((ref06_Right.f k x8).bind fun aG => (some aG)) else (some false))) else (some false))) else (some false))) else (some false)))
end
def law08_DeltaApplies.f (k : Nat) (l0 : List (S39)) (l1 : List (S53)) (l2 : List (S53)) : Option (Bool) := (law08_alive.f k).bind fun cK => (if cK = true then ((ref06_Great.f k l0).bind fun bI => (if bI = true then (law08_DeltaApplies.j0 k l0 l1 l2 true) else ((ref08_Great.f k l1).bind fun aP => (if aP = true then (law08_DeltaApplies.j0 k l0 l1 l2 true) else ((ref08_Great.f k l2).bind fun aH => (law08_DeltaApplies.j0 k l0 l1 l2 aH)))))) else (some false))
theorem law08_DeltaApplies.mono_l : ∀ k, (∀ y0 y1 y2 y3, LeO (law08_DeltaApplies.j0 k y0 y1 y2 y3) (law08_DeltaApplies.j0 (k + 1) y0 y1 y2 y3)) ∧ (∀ y0 y1 y2, LeO (law08_DeltaApplies.j1 k y0 y1 y2) (law08_DeltaApplies.j1 (k + 1) y0 y1 y2)) ∧ (∀ y0 y1 y2, LeO (law08_DeltaApplies.j2 k y0 y1 y2) (law08_DeltaApplies.j2 (k + 1) y0 y1 y2)) ∧ (∀ y0 y1 y2 y3 y4 y5 y6 y7, LeO (law08_DeltaApplies.l0 k y0 y1 y2 y3 y4 y5 y6 y7) (law08_DeltaApplies.l0 (k + 1) y0 y1 y2 y3 y4 y5 y6 y7))
 | 0 => ⟨fun _ _ _ _ r h => by simp [law08_DeltaApplies.j0] at h, fun _ _ _ r h => by simp [law08_DeltaApplies.j1] at h, fun _ _ _ r h => by simp [law08_DeltaApplies.j2] at h, fun _ _ _ _ _ _ _ _ r h => by simp [law08_DeltaApplies.l0] at h⟩
 | k + 1 => by
  obtain ⟨ih0, ih1, ih2, ih3⟩ := law08_DeltaApplies.mono_l k; refine ⟨?_, ?_, ?_, ?_⟩
  ·intro y0 y1 y2 y3
   unfold law08_DeltaApplies.j0
   with_reducible repeat' first | exact ih0 _ _ _ _ | exact ih1 _ _ _ | exact ih2 _ _ _ | exact ih3 _ _ _ _ _ _ _ _ | exact law08_alive.mono _ | exact ref06_Copy.mono _ _ | exact ref06_Great.mono _ _ | exact ref06_Ints.mono _ _ _ | exact ref06_Over.mono _ _ _ | exact ref06_Right.mono _ _ | exact ref06_Same.mono _ _ _ | exact ref08_Apply.mono _ _ _ | exact ref08_Fits.mono _ _ _ _ _ _ _ | exact ref08_Great.mono _ _ | exact ref08_Right.mono _ _ | exact ref08_Same.mono _ _ _ | exact delta_Apply.mono _ _ _ | exact delta_Fits.mono _ _ _ _ _ _ _ | exact delta_Right.mono _ _ | exact LeO.refl _ | exact LeO.none _ | refine LeO.ite ?_ ?_ | refine LeO.bind ?_ (fun _ => ?_)
  ·intro y0 y1 y2
   unfold law08_DeltaApplies.j1
   with_reducible repeat' first | exact ih0 _ _ _ _ | exact ih1 _ _ _ | exact ih2 _ _ _ | exact ih3 _ _ _ _ _ _ _ _ | exact law08_alive.mono _ | exact ref06_Copy.mono _ _ | exact ref06_Great.mono _ _ | exact ref06_Ints.mono _ _ _ | exact ref06_Over.mono _ _ _ | exact ref06_Right.mono _ _ | exact ref06_Same.mono _ _ _ | exact ref08_Apply.mono _ _ _ | exact ref08_Fits.mono _ _ _ _ _ _ _ | exact ref08_Great.mono _ _ | exact ref08_Right.mono _ _ | exact ref08_Same.mono _ _ _ | exact delta_Apply.mono _ _ _ | exact delta_Fits.mono _ _ _ _ _ _ _ | exact delta_Right.mono _ _ | exact LeO.refl _ | exact LeO.none _ | refine LeO.ite ?_ ?_ | refine LeO.bind ?_ (fun _ => ?_)
  ·intro y0 y1 y2
   unfold law08_DeltaApplies.j2
   with_reducible repeat' first | exact ih0 _ _ _ _ | exact ih1 _ _ _ | exact ih2 _ _ _ | exact ih3 _ _ _ _ _ _ _ _ | exact law08_alive.mono _ | exact ref06_Copy.mono _ _ | exact ref06_Great.mono _ _ | exact ref06_Ints.mono _ _ _ | exact ref06_Over.mono _ _ _ | exact ref06_Right.mono _ _ | exact ref06_Same.mono _ _ _ | exact ref08_Apply.mono _ _ _ | exact ref08_Fits.mono _ _ _ _ _ _ _ | exact ref08_Great.mono _ _ | exact ref08_Right.mono _ _ | exact ref08_Same.mono _ _ _ | exact delta_Apply.mono _ _ _ | exact delta_Fits.mono _ _ _ _ _ _ _ | exact delta_Right.mono _ _ | exact LeO.refl _ | exact LeO.none _ | refine LeO.ite ?_ ?_ | refine LeO.bind ?_ (fun _ => ?_)
  ·intro y0 y1 y2 y3 y4 y5 y6 y7
   unfold law08_DeltaApplies.l0
   with_reducible repeat' first | exact ih0 _ _ _ _ | exact ih1 _ _ _ | exact ih2 _ _ _ | exact ih3 _ _ _ _ _ _ _ _ | exact law08_alive.mono _ | exact ref06_Copy.mono _ _ | exact ref06_Great.mono _ _ | exact ref06_Ints.mono _ _ _ | exact ref06_Over.mono _ _ _ | exact ref06_Right.mono _ _ | exact ref06_Same.mono _ _ _ | exact ref08_Apply.mono _ _ _ | exact ref08_Fits.mono _ _ _ _ _ _ _ | exact ref08_Great.mono _ _ | exact ref08_Right.mono _ _ | exact ref08_Same.mono _ _ _ | exact delta_Apply.mono _ _ _ | exact delta_Fits.mono _ _ _ _ _ _ _ | exact delta_Right.mono _ _ | exact LeO.refl _ | exact LeO.none _ | refine LeO.ite ?_ ?_ | refine LeO.bind ?_ (fun _ => ?_)
theorem law08_DeltaApplies.mono : ∀ a0 a1 a2 k, LeO (law08_DeltaApplies.f k a0 a1 a2) (law08_DeltaApplies.f (k + 1) a0 a1 a2) := by
 intro a0 a1 a2 k; obtain ⟨ih0, ih1, ih2, ih3⟩ := law08_DeltaApplies.mono_l k
 unfold law08_DeltaApplies.f
 with_reducible repeat' first | exact ih0 _ _ _ _ | exact ih1 _ _ _ | exact ih2 _ _ _ | exact ih3 _ _ _ _ _ _ _ _ | exact law08_alive.mono _ | exact ref06_Copy.mono _ _ | exact ref06_Great.mono _ _ | exact ref06_Ints.mono _ _ _ | exact ref06_Over.mono _ _ _ | exact ref06_Right.mono _ _ | exact ref06_Same.mono _ _ _ | exact ref08_Apply.mono _ _ _ | exact ref08_Fits.mono _ _ _ _ _ _ _ | exact ref08_Great.mono _ _ | exact ref08_Right.mono _ _ | exact ref08_Same.mono _ _ _ | exact delta_Apply.mono _ _ _ | exact delta_Fits.mono _ _ _ _ _ _ _ | exact delta_Right.mono _ _ | exact LeO.refl _ | exact LeO.none _ | refine LeO.ite ?_ ?_ | refine LeO.bind ?_ (fun _ => ?_)
def law08_DeltaApplies.T15 : Bool × List (List Nat × List Nat) := (true, [([], []), ([], []), ([], []), ([1, 2], [1, 2]), ([3], [3]), ([0, 4], [0, 4]), ([], []), ([], []), ([], []), ([7, 8], [7, 8]), ([9], [9]), ([6, 10, 5], [6, 10]), ([5, 11], [5, 11])])
def law08_DeltaApplies.B15 : List Nat := [0, 0, 0, 6, 14, 31, 0, 0, 0, 384, 896, 2047, 4095]
theorem law08_DeltaApplies.tab15 : rtab .any (opsOf Try.f6 15) = law08_DeltaApplies.T15 := by kernel_rfl
theorem law08_DeltaApplies.bits15 : waitsOk law08_DeltaApplies.T15.2 law08_DeltaApplies.B15 = true := by kernel_rfl
theorem law08_DeltaApplies.calls (k : Nat) (A0 : Option Addr) (c0 : Nat) (l0 : List (S39)) (A1 : Option Addr) (c1 : Nat) (l1 : List (S53)) (A2 : Option Addr) (c2 : Nat) (l2 : List (S53)) (r : Bool) (w : World) (hr0 : Kd.C k39 w A0 l0.length l0) (hc0 : l0.length ≤ c0) (hr1 : Kd.C k53 w A1 l1.length l1) (hc1 : l1.length ≤ c1) (hr2 : Kd.C k53 w A2 l2.length l2) (hc2 : l2.length ≤ c2) (h : law08_DeltaApplies.f k l0 l1 l2 = some r) (hrt : r = true) :
  Calls Try.prog 6 #[.slice A0 l0.length c0, .slice A1 l1.length c1, .slice A2 l2.length c2] w fun e w' => e = .returned (.bool r) ∧ Below w.heap.size w w' := by
 have HRT := Zq_.mk hrt; clear hrt; have hu53 := Try.underlying53; have HR0 := Zq_.mk hr0; have HC0 := Zq_.mk hc0; clear hr0 hc0; have HR1 := Zq_.mk hr1; have HC1 := Zq_.mk hc1; clear hr1 hc1; have HR2 := Zq_.mk hr2; have HC2 := Zq_.mk hc2; clear hr2 hc2; have HB := Zq_.mk (Below.refl w.heap.size w); have H : ((law08_alive.f k).bind fun cK => (if cK = true then ((ref06_Great.f k l0).bind fun bI => (if bI = true then (law08_DeltaApplies.j0 k l0 l1 l2 true) else ((ref08_Great.f k l1).bind fun aP => (if aP = true then (law08_DeltaApplies.j0 k l0 l1 l2 true) else ((ref08_Great.f k l2).bind fun aH => (law08_DeltaApplies.j0 k l0 l1 l2 aH)))))) else (some false))) = some r := h; clear h; replace H := ob_ H; obtain ⟨cK, A40, H⟩ := H; replace H : (if cK = true then ((ref06_Great.f k l0).bind fun bI => (if bI = true then (law08_DeltaApplies.j0 k l0 l1 l2 true) else ((ref08_Great.f k l1).bind fun aP => (if aP = true then (law08_DeltaApplies.j0 k l0 l1 l2 true) else ((ref08_Great.f k l2).bind fun aH => (law08_DeltaApplies.j0 k l0 l1 l2 aH)))))) else (some false)) = some r := H; have A4 := Zq_.mk A40; clear A40
 by_cases c5 : cK = true
 ·subst c5
  have H1 : ((ref06_Great.f k l0).bind fun bI => (if bI = true then (law08_DeltaApplies.j0 k l0 l1 l2 true) else ((ref08_Great.f k l1).bind fun aP => (if aP = true then (law08_DeltaApplies.j0 k l0 l1 l2 true) else ((ref08_Great.f k l2).bind fun aH => (law08_DeltaApplies.j0 k l0 l1 l2 aH)))))) = some r := by rw [if_pos rfl] at H; exact H
  clear H; have H := H1; clear H1; have HC6 := Zq_.mk H; clear H
  go_enter Try.func6, Try.ntmps6
  go_upto_region 3 with (first | ((with_reducible refine qf_ (f := 7) rfl ?_); refine goesL_ (some 13) rfl rfl Try.func7 (by kernel_rfl) rfl #[] rfl aR_ ?_; (with_reducible refine (law08_alive.calls k  true _ A4.out).mono ?_); rintro e w7 ⟨rfl, hb⟩; refine ⟨_, rfl, ?_⟩; replace HB := sB_ HB hb; (try clear hb)))
  (try simp only [Act.put, sa_, sb_, sc_])
  go_cut [24] (fun v24 wc => ∃ (kq : Nat) (cA : Bool), v24 = .bool cA ∧ Zq_ (law08_DeltaApplies.j0 kq l0 l1 l2 cA = some r) ∧ Zq_ (kq ≤ k) ∧ Zq_ (Below w.heap.size w wc))
  case first =>
   have H := HC6.out; clear HC6; replace H := ob_ H; obtain ⟨bI, A80, H⟩ := H; replace H : (if bI = true then (law08_DeltaApplies.j0 k l0 l1 l2 true) else ((ref08_Great.f k l1).bind fun aP => (if aP = true then (law08_DeltaApplies.j0 k l0 l1 l2 true) else ((ref08_Great.f k l2).bind fun aH => (law08_DeltaApplies.j0 k l0 l1 l2 aH))))) = some r := H; have A8 := Zq_.mk A80; clear A80
   by_cases c9 : bI = true
   ·subst c9
    have H1 : (law08_DeltaApplies.j0 k l0 l1 l2 true) = some r := by rw [if_pos rfl] at H; exact H
    clear H; have H := H1; clear H1; have H' := Zq_.mk H; clear H
    go_wp2_with (first | ((with_reducible refine qf_ (f := 8) rfl ?_); refine goesL_ (some 16) rfl rfl Try.func8 (by kernel_rfl) rfl #[.slice A0 l0.length c0] rfl aR_ ?_; (with_reducible refine (ref06_Great.calls k _ _ l0 true _ ?side1 ?side2 A8.out).mono ?_); (case side1 => exact cX_ (Kd.qg_ HR0.out HB.out)); (case side2 => exact HC0.out); rintro e w10 ⟨rfl, hb⟩; refine ⟨_, rfl, ?_⟩; replace HB := sB_ HB hb; (try clear hb)))
    go_meet
    case rel => exact ⟨_, (true), eS_, H', ⟨by first | omega | exact Nat.le_refl _⟩, ⟨hB_ HB⟩⟩
   ·replace c9 := Bool.eq_false_iff.mpr c9; subst c9
    have H1 : ((ref08_Great.f k l1).bind fun aP => (if aP = true then (law08_DeltaApplies.j0 k l0 l1 l2 true) else ((ref08_Great.f k l2).bind fun aH => (law08_DeltaApplies.j0 k l0 l1 l2 aH)))) = some r := by rw [if_neg (show ¬ (false = true) by decide)] at H; exact H
    clear H; have H := H1; clear H1; replace H := ob_ H; obtain ⟨aP, dX, H⟩ := H; replace H : (if aP = true then (law08_DeltaApplies.j0 k l0 l1 l2 true) else ((ref08_Great.f k l2).bind fun aH => (law08_DeltaApplies.j0 k l0 l1 l2 aH))) = some r := H; have A11 := Zq_.mk dX; clear dX
    by_cases c12 : aP = true
    ·subst c12
     have H1 : (law08_DeltaApplies.j0 k l0 l1 l2 true) = some r := by rw [if_pos rfl] at H; exact H
     clear H; have H := H1; clear H1; have H' := Zq_.mk H; clear H
     go_wp2_with (first | ((with_reducible refine qf_ (f := 8) rfl ?_); refine goesL_ (some 16) rfl rfl Try.func8 (by kernel_rfl) rfl #[.slice A0 l0.length c0] rfl aR_ ?_; (with_reducible refine (ref06_Great.calls k _ _ l0 false _ ?side1 ?side2 A8.out).mono ?_); (case side1 => exact cX_ (Kd.qg_ HR0.out HB.out)); (case side2 => exact HC0.out); rintro e w13 ⟨rfl, hb⟩; refine ⟨_, rfl, ?_⟩; replace HB := sB_ HB hb; (try clear hb)) | (go_at_call 24; (with_reducible refine (ref08_Great.calls k _ _ l1 true _ ?side1 ?side2 A11.out).mono ?_); (case side1 => exact cX_ (Kd.qg_ HR1.out HB.out)); (case side2 => exact HC1.out); rintro e w14 ⟨rfl, hb⟩; replace HB := sB_ HB hb; (try clear hb)))
     go_meet
     case rel => exact ⟨_, (true), eS_, H', ⟨by first | omega | exact Nat.le_refl _⟩, ⟨hB_ HB⟩⟩
    ·replace c12 := Bool.eq_false_iff.mpr c12; subst c12
     have H1 : ((ref08_Great.f k l2).bind fun aH => (law08_DeltaApplies.j0 k l0 l1 l2 aH)) = some r := by rw [if_neg (show ¬ (false = true) by decide)] at H; exact H
     clear H; have H := H1; clear H1; replace H := ob_ H; obtain ⟨aH, dW, H⟩ := H; replace H : (law08_DeltaApplies.j0 k l0 l1 l2 aH) = some r := H; have A15 := Zq_.mk dW; clear dW; have H' := Zq_.mk H; clear H
     go_wp2_with (first | ((with_reducible refine qf_ (f := 8) rfl ?_); refine goesL_ (some 16) rfl rfl Try.func8 (by kernel_rfl) rfl #[.slice A0 l0.length c0] rfl aR_ ?_; (with_reducible refine (ref06_Great.calls k _ _ l0 false _ ?side1 ?side2 A8.out).mono ?_); (case side1 => exact cX_ (Kd.qg_ HR0.out HB.out)); (case side2 => exact HC0.out); rintro e w16 ⟨rfl, hb⟩; refine ⟨_, rfl, ?_⟩; replace HB := sB_ HB hb; (try clear hb)) | (go_at_call 24; (with_reducible refine (ref08_Great.calls k _ _ l1 false _ ?side1 ?side2 A11.out).mono ?_); (case side1 => exact cX_ (Kd.qg_ HR1.out HB.out)); (case side2 => exact HC1.out); rintro e w17 ⟨rfl, hb⟩; replace HB := sB_ HB hb; (try clear hb)) | (go_at_call 24; (with_reducible refine (ref08_Great.calls k _ _ l2 aH _ ?side1 ?side2 A15.out).mono ?_); (case side1 => exact cX_ (Kd.qg_ HR2.out HB.out)); (case side2 => exact HC2.out); rintro e w18 ⟨rfl, hb⟩; replace HB := sB_ HB hb; (try clear hb)))
     go_meet
     case rel => exact ⟨_, (aH), eS_, H', ⟨by first | omega | exact Nat.le_refl _⟩, ⟨hB_ HB⟩⟩
  case rest =>
   clear HC6
   try clear c1
   try clear c2
   try clear p2
   try clear c5
   try clear c6
   try clear c7
   try clear c8
   try clear c9
   try clear c12
   obtain ⟨kq, cA, rfl, HA, HJ5, HB⟩ := hcut
   cases kq with
   | zero => exact absurd HA.out (by simp [law08_DeltaApplies.j0])
   | succ kj5 =>
    have H := HA.out; clear HA; simp only [law08_DeltaApplies.j0] at H
    by_cases c19 : cA = true
    ·subst c19
     have H1 : (some true) = some r := by rw [if_pos rfl] at H; exact H
     clear H; have H := H1; clear H1; obtain rfl := Option.some.inj H
     go_wp2
     go_ret
     exact ⟨by exact eW_, hB_ HB⟩
    ·replace c19 := Bool.eq_false_iff.mpr c19; subst c19
     have H1 : ((delta_Right.f kj5 l1).bind fun aO => ((ref08_Right.f kj5 l1).bind fun aL => (if (aO != aL) = true then (law08_DeltaApplies.j1 kj5 l0 l1 true) else ((delta_Same.f l1 l2).bind fun aW => ((ref08_Same.f kj5 l1 l2).bind fun aS => (law08_DeltaApplies.j1 kj5 l0 l1 (aW != aS))))))) = some r := by rw [if_neg (show ¬ (false = true) by decide)] at H; exact H
     clear H; have H := H1; clear H1; have cZ := Zq_.mk H; clear H
     go_upto_region 5 with (fail)
     go_cut [38] (fun v38 wc => ∃ (kq : Nat) (bL : Bool), v38 = .bool bL ∧ Zq_ (law08_DeltaApplies.j1 kq l0 l1 bL = some r) ∧ Zq_ (kq ≤ kj5) ∧ Zq_ (Below w.heap.size w wc))
     case first =>
      have H := cZ.out; clear cZ; replace H := ob_ H; obtain ⟨aO, dV, H⟩ := H; replace H : ((ref08_Right.f kj5 l1).bind fun aL => (if (aO != aL) = true then (law08_DeltaApplies.j1 kj5 l0 l1 true) else ((delta_Same.f l1 l2).bind fun aW => ((ref08_Same.f kj5 l1 l2).bind fun aS => (law08_DeltaApplies.j1 kj5 l0 l1 (aW != aS)))))) = some r := H; have A21 := Zq_.mk dV; clear dV; replace H := ob_ H; obtain ⟨aL, dU, H⟩ := H; replace H : (if (aO != aL) = true then (law08_DeltaApplies.j1 kj5 l0 l1 true) else ((delta_Same.f l1 l2).bind fun aW => ((ref08_Same.f kj5 l1 l2).bind fun aS => (law08_DeltaApplies.j1 kj5 l0 l1 (aW != aS))))) = some r := H; have A22 := Zq_.mk dU; clear dU
      by_cases c23 : (aO != aL) = true
      ·rw [if_pos c23] at H; have aT : (aO != aL) = true := c23; (try (have cG : decide (aO = aL) = false := by simpa using c23)); (try (have cF : (aO == aL) = false := by simpa using c23)); (try (have c23b3 : ¬ (aO = aL) := by simpa using c23)); clear c23; (first | rw [aT] | (simp only [i64_w, i32_w]; rw [aT]) | skip); have H' := Zq_.mk H; clear H
       go_wp2_with (first | ((with_reducible refine qf_ (f := 16) rfl ?_); refine goesL_ (some 26) rfl rfl Try.func16 (by kernel_rfl) rfl #[.slice A1 l1.length c1] rfl aR_ ?_; (with_reducible refine (delta_Right.calls kj5 _ _ l1 aO _ ?side1 ?side2 A21.out).mono ?_); (case side1 => exact cX_ (Kd.qg_ HR1.out HB.out)); (case side2 => exact HC1.out); rintro e w24 ⟨rfl, hb⟩; refine ⟨_, rfl, ?_⟩; replace HB := sB_ HB hb; (try clear hb)) | ((with_reducible refine qf_ (f := 25) rfl ?_); refine goesL_ (some 28) rfl rfl Try.func25 (by kernel_rfl) rfl #[.slice A1 l1.length c1] rfl aR_ ?_; (with_reducible refine (ref08_Right.calls kj5 _ _ l1 aL _ ?side1 ?side2 A22.out).mono ?_); (case side1 => exact cX_ (Kd.qg_ HR1.out HB.out)); (case side2 => exact HC1.out); rintro e w25 ⟨rfl, hb⟩; refine ⟨_, rfl, ?_⟩; replace HB := sB_ HB hb; (try clear hb)))
       go_meet
       case rel => exact ⟨_, (true), eS_, H', ⟨by have := HJ5.out; first | omega | exact Nat.le_refl _⟩, ⟨hB_ HB⟩⟩
      ·rw [if_neg c23] at H
       have aT : (aO != aL) = false := by simpa using c23
       (try (have cG : decide (aO = aL) = true := by simpa using c23)); (try (have cF : (aO == aL) = true := by simpa using c23)); clear c23; (first | rw [aT] | (simp only [i64_w, i32_w]; rw [aT]) | skip); replace H := ob_ H; obtain ⟨aW, dT, H⟩ := H; replace H : ((ref08_Same.f kj5 l1 l2).bind fun aS => (law08_DeltaApplies.j1 kj5 l0 l1 (aW != aS))) = some r := H; have A26 := Zq_.mk dT; clear dT; replace H := ob_ H; obtain ⟨aS, dS, H⟩ := H; replace H : (law08_DeltaApplies.j1 kj5 l0 l1 (aW != aS)) = some r := H; have A27 := Zq_.mk dS; clear dS; have H' := Zq_.mk H; clear H
       go_wp2_with (first | ((with_reducible refine qf_ (f := 16) rfl ?_); refine goesL_ (some 26) rfl rfl Try.func16 (by kernel_rfl) rfl #[.slice A1 l1.length c1] rfl aR_ ?_; (with_reducible refine (delta_Right.calls kj5 _ _ l1 aO _ ?side1 ?side2 A21.out).mono ?_); (case side1 => exact cX_ (Kd.qg_ HR1.out HB.out)); (case side2 => exact HC1.out); rintro e w28 ⟨rfl, hb⟩; refine ⟨_, rfl, ?_⟩; replace HB := sB_ HB hb; (try clear hb)) | ((with_reducible refine qf_ (f := 25) rfl ?_); refine goesL_ (some 28) rfl rfl Try.func25 (by kernel_rfl) rfl #[.slice A1 l1.length c1] rfl aR_ ?_; (with_reducible refine (ref08_Right.calls kj5 _ _ l1 aL _ ?side1 ?side2 A22.out).mono ?_); (case side1 => exact cX_ (Kd.qg_ HR1.out HB.out)); (case side2 => exact HC1.out); rintro e w29 ⟨rfl, hb⟩; refine ⟨_, rfl, ?_⟩; replace HB := sB_ HB hb; (try clear hb)) | (go_at_call 26; (with_reducible refine (delta_Same.calls _ _ l1 _ _ l2 aW _ ?side1 ?side2 ?side3 ?side4 A26.out).mono ?_); (case side1 => exact cX_ (Kd.qg_ HR1.out HB.out)); (case side2 => exact HC1.out); (case side3 => exact cX_ (Kd.qg_ HR2.out HB.out)); (case side4 => exact HC2.out); rintro e w30 ⟨rfl, hb⟩; replace HB := sB_ HB hb; (try clear hb)) | (go_at_call 12; (with_reducible refine (ref08_Same.calls kj5 _ _ l1 _ _ l2 aS _ ?side1 ?side2 ?side3 ?side4 A27.out).mono ?_); (case side1 => exact cX_ (Kd.qg_ HR1.out HB.out)); (case side2 => exact HC1.out); (case side3 => exact cX_ (Kd.qg_ HR2.out HB.out)); (case side4 => exact HC2.out); rintro e w31 ⟨rfl, hb⟩; replace HB := sB_ HB hb; (try clear hb)))
       go_meet
       case rel => exact ⟨_, ((aW != aS)), eS_, H', ⟨by have := HJ5.out; first | omega | exact Nat.le_refl _⟩, ⟨hB_ HB⟩⟩
     case rest =>
      clear cZ
      try clear c1
      try clear c2
      try clear p2
      try clear c5
      try clear c6
      try clear c7
      try clear c8
      try clear c9
      try clear c12
      try clear c16
      try clear c19
      try clear c23
      try clear aT
      try clear cG
      try clear cF
      try clear c25
      try clear p2
      obtain ⟨kq, bL, rfl, HA, cR, HB⟩ := hcut
      cases kq with
      | zero => exact absurd HA.out (by simp [law08_DeltaApplies.j1])
      | succ kj19 =>
       have H := HA.out; clear HA; simp only [law08_DeltaApplies.j1] at H
       by_cases c32 : bL = true
       ·subst c32
        have H1 : (some false) = some r := by rw [if_pos rfl] at H; exact H
        clear H; have H := H1; clear H1; obtain rfl := Option.some.inj H
        go_wp2
        go_ret
        exact ⟨by exact eW_, hB_ HB⟩
       ·replace c32 := Bool.eq_false_iff.mpr c32; subst c32
        have H1 : ((ref06_Right.f kj19 l0).bind fun cJ => (if cJ = true then ((ref08_Right.f kj19 l1).bind fun bF => (law08_DeltaApplies.j2 kj19 l0 l1 (!bF))) else (law08_DeltaApplies.j2 kj19 l0 l1 true))) = some r := by rw [if_neg (show ¬ (false = true) by decide)] at H; exact H
        clear H; have H := H1; clear H1; have cY := Zq_.mk H; clear H
        go_upto_region 7 with (fail)
        go_cut [46] (fun v46 wc => ∃ (kq : Nat) (bK : Bool), v46 = .bool bK ∧ Zq_ (law08_DeltaApplies.j2 kq l0 l1 bK = some r) ∧ Zq_ (kq ≤ kj19) ∧ Zq_ (Below w.heap.size w wc))
        case first =>
         have H := cY.out; clear cY; replace H := ob_ H; obtain ⟨cJ, dR, H⟩ := H; replace H : (if cJ = true then ((ref08_Right.f kj19 l1).bind fun bF => (law08_DeltaApplies.j2 kj19 l0 l1 (!bF))) else (law08_DeltaApplies.j2 kj19 l0 l1 true)) = some r := H; have A34 := Zq_.mk dR; clear dR
         by_cases c35 : cJ = true
         ·subst c35
          have H1 : ((ref08_Right.f kj19 l1).bind fun bF => (law08_DeltaApplies.j2 kj19 l0 l1 (!bF))) = some r := by rw [if_pos rfl] at H; exact H
          clear H; have H := H1; clear H1; replace H := ob_ H; obtain ⟨bF, dQ, H⟩ := H; replace H : (law08_DeltaApplies.j2 kj19 l0 l1 (!bF)) = some r := H; have A36 := Zq_.mk dQ; clear dQ; have H' := Zq_.mk H; clear H
          go_wp2_with (first | ((with_reducible refine qf_ (f := 9) rfl ?_); refine goesL_ (some 40) rfl rfl Try.func9 (by kernel_rfl) rfl #[.slice A0 l0.length c0] rfl aR_ ?_; (with_reducible refine (ref06_Right.calls kj19 _ _ l0 true _ ?side1 ?side2 A34.out).mono ?_); (case side1 => exact cX_ (Kd.qg_ HR0.out HB.out)); (case side2 => exact HC0.out); rintro e w37 ⟨rfl, hb⟩; refine ⟨_, rfl, ?_⟩; replace HB := sB_ HB hb; (try clear hb)) | (go_at_call 25; (with_reducible refine (ref08_Right.calls kj19 _ _ l1 bF _ ?side1 ?side2 A36.out).mono ?_); (case side1 => exact cX_ (Kd.qg_ HR1.out HB.out)); (case side2 => exact HC1.out); rintro e w38 ⟨rfl, hb⟩; replace HB := sB_ HB hb; (try clear hb)))
          go_meet
          case rel => exact ⟨_, (!bF), eS_, H', ⟨by have := HJ5.out; have := cR.out; first | omega | exact Nat.le_refl _⟩, ⟨hB_ HB⟩⟩
         ·replace c35 := Bool.eq_false_iff.mpr c35; subst c35
          have H1 : (law08_DeltaApplies.j2 kj19 l0 l1 true) = some r := by rw [if_neg (show ¬ (false = true) by decide)] at H; exact H
          clear H; have H := H1; clear H1; have H' := Zq_.mk H; clear H
          go_wp2_with (first | ((with_reducible refine qf_ (f := 9) rfl ?_); refine goesL_ (some 40) rfl rfl Try.func9 (by kernel_rfl) rfl #[.slice A0 l0.length c0] rfl aR_ ?_; (with_reducible refine (ref06_Right.calls kj19 _ _ l0 false _ ?side1 ?side2 A34.out).mono ?_); (case side1 => exact cX_ (Kd.qg_ HR0.out HB.out)); (case side2 => exact HC0.out); rintro e w39 ⟨rfl, hb⟩; refine ⟨_, rfl, ?_⟩; replace HB := sB_ HB hb; (try clear hb)))
          go_meet
          case rel => exact ⟨_, (true), eS_, H', ⟨by have := HJ5.out; have := cR.out; first | omega | exact Nat.le_refl _⟩, ⟨hB_ HB⟩⟩
        case rest =>
         clear cY
         try clear c1
         try clear c2
         try clear p2
         try clear c3
         try clear c5
         try clear c6
         try clear c7
         try clear c8
         try clear c9
         try clear c12
         try clear c16
         try clear c19
         try clear c23
         try clear aT
         try clear cG
         try clear cF
         try clear c25
         try clear c32
         try clear c35
         try clear p2
         obtain ⟨kq, bK, rfl, HA, dF, HB⟩ := hcut
         cases kq with
         | zero => exact absurd HA.out (by simp [law08_DeltaApplies.j2])
         | succ kj32 =>
          have H := HA.out; clear HA; simp only [law08_DeltaApplies.j2] at H
          by_cases c40 : bK = true
          ·subst c40
           have H1 : (some true) = some r := by rw [if_pos rfl] at H; exact H
           clear H; have H := H1; clear H1; obtain rfl := Option.some.inj H
           go_wp2
           go_ret
           exact ⟨by exact eW_, hB_ HB⟩
          ·replace c40 := Bool.eq_false_iff.mpr c40; subst c40
           have H1 : ((ref06_Copy.f kj32 l0).bind fun aD => ((delta_Apply.f kj32 aD l1).bind fun aU => ((ref08_Apply.f kj32 l0 l1).bind fun aM => (law08_DeltaApplies.l0 kj32 l0 l1 aD aU.1 aU.2 aM.1 aM.2 0)))) = some r := by rw [if_neg (show ¬ (false = true) by decide)] at H; exact H
           clear H; have H := H1; clear H1; replace H := ob_ H; obtain ⟨aD, dP, H⟩ := H; replace H : ((delta_Apply.f kj32 aD l1).bind fun aU => ((ref08_Apply.f kj32 l0 l1).bind fun aM => (law08_DeltaApplies.l0 kj32 l0 l1 aD aU.1 aU.2 aM.1 aM.2 0))) = some r := H; have A41 := Zq_.mk dP; clear dP; replace H := ob_ H; obtain ⟨⟨aE, bH⟩, dO, H⟩ := H; replace H : ((ref08_Apply.f kj32 l0 l1).bind fun aM => (law08_DeltaApplies.l0 kj32 l0 l1 aD aE bH aM.1 aM.2 0)) = some r := H; have A42 := Zq_.mk dO; clear dO; replace H := ob_ H; obtain ⟨⟨bZ, bN⟩, dN, H⟩ := H; replace H : (law08_DeltaApplies.l0 kj32 l0 l1 aD aE bH bZ bN 0) = some r := H; have A43 := Zq_.mk dN; clear dN; have H' := Zq_.mk H; clear H
           go_wp2_with (first | ((with_reducible refine qf_ (f := 27) rfl ?_); refine goesL_ (some 48) rfl rfl Try.func27 (by kernel_rfl) rfl #[.slice A0 l0.length c0] rfl aR_ ?_; (with_reducible refine (ref06_Copy.calls kj32 _ _ l0 aD _ ?side1 ?side2 A41.out).mono ?_); (case side1 => exact cX_ (Kd.qg_ HR0.out HB.out)); (case side2 => exact HC0.out); rintro e w44 ⟨v112, rfl, ho0, hb⟩; refine ⟨_, rfl, ?_⟩; have aJ := Zq_.mk (Kd.N_lower (Kd.N_mono (ok' := fun k_ => True) (Kd.S_N (Kd.S_bound ho0)) (fun k_ hk_ => trivial)) (qa_ (hB_ HB))); replace HB := sB_ HB hb; (try clear hb); (try clear ho0); obtain ⟨cM, cL, eo45⟩ := Kd.N_slice aJ.out; subst eo45) | ((with_reducible refine qf_ (f := 21) rfl ?_); refine goesL_ (some 52) rfl rfl Try.func21 (by kernel_rfl) rfl #[.slice cM aD.length cL, .slice A1 l1.length c1] rfl aR_ ?_; (with_reducible refine (delta_Apply.calls kj32 _ _ aD (fun k_ => k_ < w.heap.size) _ _ l1 aE bH _ ?side1 ?side2 ?side3 A42.out).mono ?_); (case side1 => exact cX_ ((Kd.N_reads' aJ.out).2.2)); (case side2 => exact (Kd.N_reads' aJ.out).2.1); (case side3 => exact Kd.V_mk HC1.out (Kd.F_below (Kd.C_F k53_heap HR1.out) (hB_ HB))); rintro e w46 ⟨v115, v118, rfl, ho0, ho1, hb⟩; refine ⟨_, rfl, ?_⟩; have cO := Zq_.mk (Kd.V_lower (Kd.V_mono (ok' := fun k_ => some k_ ≠ (v118 : Value).ownBlock ∧ some k_ ≠ (.slice cM aD.length cL : Value).ownBlock) ho0 (fun k_ hk_ => ⟨hk_.2, Or.elim hk_.1 (fun hs_ => fun e_ => Nat.not_le.2 hs_ (Kd.N_base aJ.out k_ e_.symm)) (fun hn_ => (Kd.fresh' (Kd.N_lt (vX_ aJ)) k_ hn_))⟩)) (qa_ (hB_ HB))); replace aJ := Zq_.mk (Kd.N_elder' (vX_ aJ) (Kd.R_base ho1) hb); have bJ := Zq_.mk (Kd.vd_ (Kd.R_mono (ok' := fun k_ => True) ho1 (fun _ hk_ => trivial)) (qa_ (hB_ HB))); replace HB := sB_ HB hb; (try clear hb); (try clear ho0); (try clear ho1)) | ((with_reducible refine qf_ (f := 28) rfl ?_); refine goesL_ (some 58) rfl rfl Try.func28 (by kernel_rfl) rfl #[.slice A0 l0.length c0, .slice A1 l1.length c1] rfl aR_ ?_; (with_reducible refine (ref08_Apply.calls kj32 _ _ l0 (fun k_ => k_ < w.heap.size) _ _ l1 bZ bN _ ?side1 ?side2 ?side3 A43.out).mono ?_); (case side1 => exact cX_ (Kd.qg_ HR0.out HB.out)); (case side2 => exact HC0.out); (case side3 => exact Kd.V_mk HC1.out (Kd.F_below (Kd.C_F k53_heap HR1.out) (hB_ HB))); rintro e w47 ⟨v121, v124, rfl, ho0, ho1, hb⟩; refine ⟨_, rfl, ?_⟩; replace cO := Zq_.mk (Kd.V_mono (Kd.V_told (Kd.V_told (Kd.V_old (vX_ cO) hb) (by first | exact Kd.N_base ho0 | exact Kd.S_base ho0)) (Kd.R_base ho1)) (fun _ h_ => h_.1)); have dE := Zq_.mk (Kd.N_lower (Kd.N_mono (ok' := fun k_ => some k_ ≠ (v124 : Value).ownBlock ∧ some k_ ≠ (.slice cM aD.length cL : Value).ownBlock ∧ some k_ ≠ (v118 : Value).ownBlock) ho0 (fun k_ hk_ => ⟨hk_.2, Or.elim hk_.1 (fun hs_ => fun e_ => Nat.not_le.2 hs_ (Kd.N_base aJ.out k_ e_.symm)) (fun hn_ => (Kd.fresh' (Kd.N_lt (vX_ aJ)) k_ hn_)), Or.elim hk_.1 (fun hs_ => fun e_ => Nat.not_le.2 hs_ (Kd.R_base bJ.out k_ e_.symm)) (fun hn_ => (Kd.fresh' (Kd.R_lt (vX_ bJ)) k_ hn_))⟩)) (qa_ (hB_ HB))); replace aJ := Zq_.mk (Kd.N_mono (Kd.N_told (Kd.N_told (Kd.N_old (vX_ aJ) hb) (by first | exact Kd.N_base ho0 | exact Kd.S_base ho0)) (Kd.R_base ho1)) (fun _ h_ => h_.1)); have dD := Zq_.mk (Kd.vd_ (Kd.R_new' (Kd.R_mono (ok' := fun k_ => True) ho1 (fun _ hk_ => trivial)) (Kd.R_lt (vX_ bJ))) (qa_ (hB_ HB))); replace bJ := Zq_.mk (Kd.R_elder' (vX_ bJ) (Kd.R_base ho1) hb); replace HB := sB_ HB hb; (try clear hb); (try clear ho0); (try clear ho1)))
           go_loopg [12] kj32 (fun kq v12 w' => ∃ (aA : Int), v12 = .int .i64 aA ∧ Zq_ (law08_DeltaApplies.l0 kq l0 l1 aD aE bH bZ bN aA = some r) ∧ Zq_ (kq ≤ kj32) ∧ Zq_ (Kd.N k39 39 w' w.heap.size (fun k_ => some k_ ≠ (v118 : Value).ownBlock ∧ some k_ ≠ (v121 : Value).ownBlock ∧ some k_ ≠ (v124 : Value).ownBlock) (.slice cM aD.length cL) aD) ∧ Zq_ (Kd.V k39 39 w' w.heap.size (fun k_ => some k_ ≠ ((.slice cM aD.length cL) : Value).ownBlock ∧ some k_ ≠ (v118 : Value).ownBlock ∧ some k_ ≠ (v121 : Value).ownBlock ∧ some k_ ≠ (v124 : Value).ownBlock) v115 aE) ∧ Zq_ (Kd.R (Kd.int .i64) 3 w' w.heap.size (fun k_ => some k_ ≠ (v124 : Value).ownBlock) v118 bH) ∧ Zq_ (Kd.N k39 39 w' w.heap.size (fun k_ => some k_ ≠ ((.slice cM aD.length cL) : Value).ownBlock ∧ some k_ ≠ (v118 : Value).ownBlock ∧ some k_ ≠ (v124 : Value).ownBlock) v121 bZ) ∧ Zq_ (Kd.R (Kd.int .i64) 3 w' w.heap.size (fun k_ => some k_ ≠ (v118 : Value).ownBlock) v124 bN) ∧ Zq_ (Below w.heap.size w w'))
           case atStart => exact ⟨(0), eS_, H', ⟨Nat.le_refl _⟩, ⟨by (with_reducible repeat (first | apply Kd.vg_ | apply Kd.vf_ | apply Kd.N_drew)); exact Kd.N_mono aJ.out (fun _ hk => ⟨hk.1.1.2, ⟨hk.1.2, hk.2⟩⟩)⟩, ⟨by refine vM_ ?_; exact Kd.V_mono cO.out (fun _ hk => ⟨hk.1.1.2, ⟨hk.1.1.1, ⟨hk.1.2, hk.2⟩⟩⟩)⟩, ⟨by (with_reducible repeat (first | apply Kd.qq_ | apply Kd.qp_ | apply Kd.R_drew)); exact Kd.R_mono bJ.out (fun _ hk => hk.2)⟩, ⟨by (with_reducible repeat (first | apply Kd.vg_ | apply Kd.vf_ | apply Kd.N_drew)); exact Kd.N_mono dE.out (fun _ hk => ⟨hk.2.1, ⟨hk.2.2, hk.1⟩⟩)⟩, ⟨by (with_reducible repeat (first | apply Kd.qq_ | apply Kd.qp_ | apply Kd.R_drew)); exact Kd.R_mono dD.out (fun _ hk => hk.2)⟩, ⟨hB_ HB⟩⟩
           case round =>
            clear H'
            try clear c1
            try clear c2
            try clear p2
            try clear c3
            try clear c4
            try clear c5
            try clear c6
            try clear c7
            try clear c8
            try clear c9
            try clear c12
            try clear c16
            try clear c19
            try clear c21
            try clear c23
            try clear aT
            try clear cG
            try clear cF
            try clear c25
            try clear c27
            try clear c28
            try clear c32
            try clear c35
            try clear c40
            try clear p2
            obtain ⟨aA, rfl, HA, HK4, aK, aF, aI, aC, aB, HB⟩ := hrel
            cases gk with
            | zero => exact absurd HA.out (by simp [law08_DeltaApplies.l0])
            | succ k4 =>
             have H := HA.out; clear HA; simp only [law08_DeltaApplies.l0] at H
             by_cases c48 : aA < (l1.length : Int)
             ·rw [if_pos c48] at H; have dA : decide (aA < (l1.length : Int)) = true := decide_eq_true c48; clear c48
              by_cases c49 : 0 ≤ aA
              ·rw [if_pos c49] at H; have c49b0 : decide (0 ≤ aA) = true := decide_eq_true c49; clear c49; replace H := ob_ H; obtain ⟨bM, dM, H⟩ := H; replace H : ((ref08_Fits.f k4 l0 ((rd_T53 l1 aA).f0) ((rd_T53 l1 aA).f1) ((rd_T53 l1 aA).f2.f0) ((rd_T53 l1 aA).f2.f1) ((rd_T53 l1 aA).f2.f2)).bind fun bG => (if (bM != bG) = true then (some false) else (law08_DeltaApplies.l0 k4 l0 l1 aD aE bH bZ bN (wrap64 (aA + 1))))) = some r := H; have A50 := Zq_.mk dM; clear dM; replace H := ob_ H; obtain ⟨bG, dL, H⟩ := H; replace H : (if (bM != bG) = true then (some false) else (law08_DeltaApplies.l0 k4 l0 l1 aD aE bH bZ bN (wrap64 (aA + 1)))) = some r := H; have A51 := Zq_.mk dL; clear dL
               by_cases c52 : (bM != bG) = true
               ·rw [if_pos c52] at H; exact absurd ((Option.some.inj H).trans HRT.out) (by decide)
               ·rw [if_neg c52] at H
                have c52b0 : (bM != bG) = false := by simpa using c52
                (try (have c52b1 : decide (bM = bG) = true := by simpa using c52)); (try (have c52b2 : (bM == bG) = true := by simpa using c52)); clear c52; have H' := Zq_.mk H; clear H; (try go_wp2); replace aK := Zq_.mk (Kd.N_drew aK.out); replace aF := Zq_.mk (Kd.V_drew aF.out); replace aI := Zq_.mk (Kd.R_drew aI.out); replace aC := Zq_.mk (Kd.N_drew aC.out); replace aB := Zq_.mk (Kd.R_drew aB.out); replace HB := Zq_.mk (qe_ HB.out); have cX : 0 ≤ (aA : Int) := dA_; have cV : aA < (l1.length : Int) := dA_; obtain ⟨dC, cP, cN, e126, bE, bD, bC, bB, aR, cC, cE⟩ := at_T53 HR1.out aA cX cV; have bT := aR; have bU := bB; have bV := bC; have bW := bD; have bX := bE; cases e126; replace bE := hC_ HB bE; replace bD := hC_ HB bD; replace bC := hC_ HB bC; replace bB := hC_ HB bB; replace aR := hC_ HB aR; have cI := Zq_.mk cE; have cT := Zq_.mk cC; clear cE cC; replace cX := eq_true cX; replace cV := eq_true cV; have cW : 0 ≤ (aA : Int) := dA_; have cU : aA < (l1.length : Int) := dA_; obtain ⟨dB, A128_4, c128_4, e128, bA, aZ, aY, aX, aQ, cB, cD⟩ := at_T53 HR1.out aA cW cU; have bO := aQ; have bP := aX; have bQ := aY; have bR := aZ; have bS := bA; obtain rfl : dC = dB := (by injection e128); replace bA := hC_ HB bA; replace aZ := hC_ HB aZ; replace aY := hC_ HB aY; replace aX := hC_ HB aX; replace aQ := hC_ HB aQ; have cH := Zq_.mk cD; have cS := Zq_.mk cB; clear cD cB; replace cW := eq_true cW; replace cU := eq_true cU; have ea_ := Option.some.inj (aR.symm.trans aQ)
                injection ea_ with ea_ en_ ec_
                subst ea_; subst ec_; clear en_; refine gS_ 13 (hA_ (hC_ HB bX) (hA_ (hC_ HB bW) (hA_ (hC_ HB bV) (hA_ (hC_ HB bU) (hA_ (hC_ HB bT) (hA_ (hC_ HB bS) (hA_ (hC_ HB bR) (hA_ (hC_ HB bQ) (hA_ (hC_ HB bP) (hZ_ (hC_ HB bO))))))))))) (fun hHeld => ?_); refine qh_ law08_DeltaApplies.tab15 law08_DeltaApplies.bits15 (fun HT_ HW_ => ?_); generalize wr.drew = w56 at aK aF aI aC aB HB cI cH bE bD bC bB aR bA aZ aY aX aQ hHeld ⊢; refine up0_ 0 ?_; (iterate 4 refine pN_ ?_); refine pQ_ 6 HT_ ?_; refine pQ_ 7 HT_ ?_; refine pQ_ 8 HT_ ?_; refine pQ_ 9 HT_ ?_; refine tL_ 4 HT_ HW_ hHeld ?_; refine tL_ 10 HT_ HW_ hHeld ?_; refine oN_ 5 72 13 2047 HT_ (fun K hK => ?_); refine goes_ Try.func29 (by kernel_rfl) rfl #[.slice A0 l0.length c0, .agg #[.int .i64 ((rd_T53 l1 aA).f0), .int .i64 ((rd_T53 l1 aA).f1), .int .i64 ((rd_T53 l1 aA).f2.f0), .int .i64 ((rd_T53 l1 aA).f2.f1), .slice cP ((rd_T53 l1 aA).f2.f2).length cN]] (by rfl) rfl rfl aR_ ?_
                with_reducible refine (delta_Fits.calls k4 _ _ l0 ((rd_T53 l1 aA).f0) ((rd_T53 l1 aA).f1) ((rd_T53 l1 aA).f2.f0) ((rd_T53 l1 aA).f2.f1) _ _ ((rd_T53 l1 aA).f2.f2) bM _ ?side1 ?side2 ?side3 ?side4 A50.out).mono ?_
                (case side1 => exact cX_ (Kd.qg_ HR0.out HB.out)); (case side2 => exact HC0.out); (case side3 => exact cX_ (Kd.qg_ cI.out HB.out)); (case side4 => exact cT.out); rintro e w57 ⟨rfl, hb⟩; refine ⟨_, rfl, ?_⟩; replace aK := vV_ Kd.N_below aK hb; replace aF := vV_ Kd.vc_ aF hb; replace aI := vV_ Kd.qn_ aI hb; replace aC := vV_ Kd.N_below aC hb; replace aB := vV_ Kd.qn_ aB hb; replace HB := sB_ HB hb; (try clear hb); refine hK.out _ _ ⟨(hC_ HB bX), (hC_ HB bW), (hC_ HB bV), (hC_ HB bU), (hC_ HB bT), (hC_ HB bS), (hC_ HB bR), (hC_ HB bQ), (hC_ HB bP), (hC_ HB bO)⟩ (fun hHeld => ?_); clear hK K; refine norm_ (a' := ?_) ?_ ?_; rotate_left
                ·show Act.put _ (some 72) _ = _
                 simp only [Act.put, sa_, sb_, sc_, i64_w, i32_w]; rfl
                refine oN_ 11 78 13 4095 HT_ (fun K hK => ?_); refine goes_ Try.func30 (by kernel_rfl) rfl #[.slice A0 l0.length c0, .agg #[.int .i64 ((rd_T53 l1 aA).f0), .int .i64 ((rd_T53 l1 aA).f1), .int .i64 ((rd_T53 l1 aA).f2.f0), .int .i64 ((rd_T53 l1 aA).f2.f1), .slice cP ((rd_T53 l1 aA).f2.f2).length cN]] (by rfl) rfl rfl aR_ ?_
                with_reducible refine (ref08_Fits.calls k4 _ _ l0 ((rd_T53 l1 aA).f0) ((rd_T53 l1 aA).f1) ((rd_T53 l1 aA).f2.f0) ((rd_T53 l1 aA).f2.f1) _ _ ((rd_T53 l1 aA).f2.f2) bG _ ?side1 ?side2 ?side3 ?side4 A51.out).mono ?_
                (case side1 => exact cX_ (Kd.qg_ HR0.out HB.out)); (case side2 => exact HC0.out); (case side3 => exact cX_ (Kd.qg_ cH.out HB.out)); (case side4 => exact cS.out); rintro e w58 ⟨rfl, hb⟩; refine ⟨_, rfl, ?_⟩; replace aK := vV_ Kd.N_below aK hb; replace aF := vV_ Kd.vc_ aF hb; replace aI := vV_ Kd.qn_ aI hb; replace aC := vV_ Kd.N_below aC hb; replace aB := vV_ Kd.qn_ aB hb; replace HB := sB_ HB hb; (try clear hb); refine hK.out _ _ ⟨(hC_ HB bX), (hC_ HB bW), (hC_ HB bV), (hC_ HB bU), (hC_ HB bT), (hC_ HB bS), (hC_ HB bR), (hC_ HB bQ), (hC_ HB bP), (hC_ HB bO)⟩ (fun hHeld => ?_); clear hK K; refine norm_ (a' := ?_) ?_ ?_; rotate_left
                ·show Act.put _ (some 78) _ = _
                 simp only [Act.put, sa_, sb_, sc_, i64_w, i32_w]; rfl
                refine pQ_ 12 HT_ ?_; refine dN_ HT_ ?_; (try go_wp2)
                go_roundg k4
                case measure => have := HJ5.out; have := cR.out; have := dF.out; have := HK4.out; omega
                case rel => exact ⟨(wrap64 (aA + 1)), eS_, H', ⟨by have := HJ5.out; have := cR.out; have := dF.out; have := HK4.out; omega⟩, ⟨by (with_reducible repeat (first | apply Kd.vg_ | apply Kd.vf_ | apply Kd.N_drew)); exact aK.out⟩, ⟨by refine vM_ ?_; exact aF.out⟩, ⟨by (with_reducible repeat (first | apply Kd.qq_ | apply Kd.qp_ | apply Kd.R_drew)); exact aI.out⟩, ⟨by (with_reducible repeat (first | apply Kd.vg_ | apply Kd.vf_ | apply Kd.N_drew)); exact aC.out⟩, ⟨by (with_reducible repeat (first | apply Kd.qq_ | apply Kd.qp_ | apply Kd.R_drew)); exact aB.out⟩, ⟨hB_ HB⟩⟩
              ·rw [if_neg c49] at H; exact absurd H (by simp)
             ·rw [if_neg c48] at H; have dA : decide (aA < (l1.length : Int)) = false := decide_eq_false c48; clear c48; replace H := ob_ H; obtain ⟨cQ, dK, H⟩ := H; replace H : (if cQ = true then ((ref06_Ints.f k4 bH bN).bind fun bY => (if bY = true then ((ref06_Same.f k4 aD l0).bind fun aV => (if aV = true then ((ref06_Over.f k4 aE l0).bind fun aN => (if aN = true then ((ref06_Right.f k4 aE).bind fun aG => (some aG)) else (some false))) else (some false))) else (some false))) else (some false)) = some r := H; have A59 := Zq_.mk dK; clear dK
              by_cases c60 : cQ = true
              ·subst c60
               have H1 : ((ref06_Ints.f k4 bH bN).bind fun bY => (if bY = true then ((ref06_Same.f k4 aD l0).bind fun aV => (if aV = true then ((ref06_Over.f k4 aE l0).bind fun aN => (if aN = true then ((ref06_Right.f k4 aE).bind fun aG => (some aG)) else (some false))) else (some false))) else (some false))) = some r := by rw [if_pos rfl] at H; exact H
               clear H; have H := H1; clear H1; replace H := ob_ H; obtain ⟨bY, dJ, H⟩ := H; replace H : (if bY = true then ((ref06_Same.f k4 aD l0).bind fun aV => (if aV = true then ((ref06_Over.f k4 aE l0).bind fun aN => (if aN = true then ((ref06_Right.f k4 aE).bind fun aG => (some aG)) else (some false))) else (some false))) else (some false)) = some r := H; have A61 := Zq_.mk dJ; clear dJ
               by_cases c62 : bY = true
               ·subst c62
                have H1 : ((ref06_Same.f k4 aD l0).bind fun aV => (if aV = true then ((ref06_Over.f k4 aE l0).bind fun aN => (if aN = true then ((ref06_Right.f k4 aE).bind fun aG => (some aG)) else (some false))) else (some false))) = some r := by rw [if_pos rfl] at H; exact H
                clear H; have H := H1; clear H1; replace H := ob_ H; obtain ⟨aV, dI, H⟩ := H; replace H : (if aV = true then ((ref06_Over.f k4 aE l0).bind fun aN => (if aN = true then ((ref06_Right.f k4 aE).bind fun aG => (some aG)) else (some false))) else (some false)) = some r := H; have A63 := Zq_.mk dI; clear dI
                by_cases c64 : aV = true
                ·subst c64
                 have H1 : ((ref06_Over.f k4 aE l0).bind fun aN => (if aN = true then ((ref06_Right.f k4 aE).bind fun aG => (some aG)) else (some false))) = some r := by rw [if_pos rfl] at H; exact H
                 clear H; have H := H1; clear H1; replace H := ob_ H; obtain ⟨aN, dH, H⟩ := H; replace H : (if aN = true then ((ref06_Right.f k4 aE).bind fun aG => (some aG)) else (some false)) = some r := H; have A65 := Zq_.mk dH; clear dH
                 by_cases c66 : aN = true
                 ·subst c66
                  have H1 : ((ref06_Right.f k4 aE).bind fun aG => (some aG)) = some r := by rw [if_pos rfl] at H; exact H
                  clear H; have H := H1; clear H1; replace H := ob_ H; obtain ⟨aG, dG, H⟩ := H; replace H : (some aG) = some r := H; have A67 := Zq_.mk dG; clear dG; obtain rfl := Option.some.inj H; obtain ⟨Ao68, co68, eo68⟩ := Kd.V_slice aF.out; subst eo68; obtain ⟨Ao69, co69, eo69⟩ := Kd.N_slice aC.out; subst eo69
                  go_wp2_with (first | ((with_reducible refine qf_ (f := 22) rfl ?_); refine goesL_ (some 82) rfl rfl Try.func22 (by kernel_rfl) rfl #[.slice Ao68 aE.length co68, .slice Ao69 bZ.length co69] rfl aR_ ?_; (with_reducible refine (ref06_Same.calls k4 _ _ aE _ _ bZ true _ ?side1 ?side2 ?side3 ?side4 A59.out).mono ?_); (case side1 => exact cX_ ((Kd.V_reads' aF.out).2.2)); (case side2 => exact (Kd.V_reads' aF.out).2.1); (case side3 => exact cX_ ((Kd.N_reads' aC.out).2.2)); (case side4 => exact (Kd.N_reads' aC.out).2.1); rintro e w70 ⟨rfl, hb⟩; refine ⟨_, rfl, ?_⟩; replace aK := vV_ Kd.N_below aK hb; replace aF := vV_ Kd.vc_ aF hb; replace aI := vV_ Kd.qn_ aI hb; replace aC := vV_ Kd.N_below aC hb; replace aB := vV_ Kd.qn_ aB hb; replace HB := sB_ HB hb; (try clear hb); obtain ⟨Ao71, co71, eo71⟩ := Kd.vh_ aI.out; subst eo71; obtain ⟨Ao72, co72, eo72⟩ := Kd.vh_ aB.out; subst eo72) | (go_at_call 31; (with_reducible refine (ref06_Ints.calls k4 _ _ bH _ _ bN true _ ?side1 ?side2 ?side3 ?side4 A61.out).mono ?_); (case side1 => exact cX_ ((Kd.R_reads' aI.out).2.2)); (case side2 => exact (Kd.R_reads' aI.out).2.1); (case side3 => exact cX_ ((Kd.R_reads' aB.out).2.2)); (case side4 => exact (Kd.R_reads' aB.out).2.1); rintro e w' ⟨rfl, ⟨nd, rfl⟩⟩) | (go_at_call 22; (with_reducible refine (ref06_Same.calls k4 _ _ aD _ _ l0 true _ ?side1 ?side2 ?side3 ?side4 A63.out).mono ?_); (case side1 => exact cX_ ((Kd.N_reads' aK.out).2.2)); (case side2 => exact (Kd.N_reads' aK.out).2.1); (case side3 => exact cX_ (Kd.qg_ HR0.out (hB_ HB))); (case side4 => exact HC0.out); rintro e w73 ⟨rfl, hb⟩; replace aK := vV_ Kd.N_below aK hb; replace aF := vV_ Kd.vc_ aF hb; replace aI := vV_ Kd.qn_ aI hb; replace aC := vV_ Kd.N_below aC hb; replace aB := vV_ Kd.qn_ aB hb; replace HB := sB_ HB hb; (try clear hb)) | (go_at_call 32; (with_reducible refine (ref06_Over.calls k4 _ _ aE _ _ l0 true _ ?side1 ?side2 ?side3 ?side4 A65.out).mono ?_); (case side1 => exact cX_ ((Kd.V_reads' aF.out).2.2)); (case side2 => exact (Kd.V_reads' aF.out).2.1); (case side3 => exact cX_ (Kd.qg_ HR0.out HB.out)); (case side4 => exact HC0.out); rintro e w74 ⟨rfl, hb⟩; replace aK := vV_ Kd.N_below aK hb; replace aF := vV_ Kd.vc_ aF hb; replace aI := vV_ Kd.qn_ aI hb; replace aC := vV_ Kd.N_below aC hb; replace aB := vV_ Kd.qn_ aB hb; replace HB := sB_ HB hb; (try clear hb)) | (go_at_call 9; (with_reducible refine (ref06_Right.calls k4 _ _ aE aG _ ?side1 ?side2 A67.out).mono ?_); (case side1 => exact cX_ ((Kd.V_reads' aF.out).2.2)); (case side2 => exact (Kd.V_reads' aF.out).2.1); rintro e w75 ⟨rfl, hb⟩; replace aK := vV_ Kd.N_below aK hb; replace aF := vV_ Kd.vc_ aF hb; replace aI := vV_ Kd.qn_ aI hb; replace aC := vV_ Kd.N_below aC hb; replace aB := vV_ Kd.qn_ aB hb; replace HB := sB_ HB hb; (try clear hb)))
                  go_ret
                  exact ⟨by exact eW_, hB_ HB⟩
                 ·rw [if_neg c66] at H; exact absurd ((Option.some.inj H).trans HRT.out) (by decide)
                ·rw [if_neg c64] at H; exact absurd ((Option.some.inj H).trans HRT.out) (by decide)
               ·rw [if_neg c62] at H; exact absurd ((Option.some.inj H).trans HRT.out) (by decide)
              ·rw [if_neg c60] at H; exact absurd ((Option.some.inj H).trans HRT.out) (by decide)
 ·rw [if_neg c5] at H; exact absurd ((Option.some.inj H).trans HRT.out) (by decide)
end Go.Proofs.Ytgipbmjkgciccaa.P

/- What printed functions come to, and that the machine's calls do it. No condition. -/
import Derived.Test.YtgipbmjkgciccaaPRef06Get
import Derived.Test.YtgipbmjkgciccaaPRef06Great
namespace Go.Proofs.Ytgipbmjkgciccaa.P
set_option maxHeartbeats 8000000
set_option maxRecDepth 100000
open Go.RowKit Go.Proofs.YtgipbmjkgciccaaW.PrintWords Go.Proofs.YtgipbmjkgciccaaW.PrintLast Go.Proofs.YtgipbmjkgciccaaW.PrintMore
attribute [local go_sem] qw_ qu_ vb_ va_ qp_ qo_ qv_ qt_ Go.Proofs.YtgipbmjkgciccaaW.Hw.string_gtr
set_option linter.unusedVariables false
set_option linter.unusedSimpArgs false
mutual
def ref07_Compare.l0 : Nat → List (S39) → List (S60) → List (S60) → List (S60) → Int → Option ((List (S60)) × (List (S60)))
 | 0, _, _, _, _, _ => none
 | k + 1, x0, x1, x6, x7, x8 => if x8 < 8 then ((ref06_Get.f k x0 x8).bind fun bH => ((ref07_find.f k x1 x8).bind fun aZ => ((ref05_Top.f k bH.1 bH.2.1 bH.2.2.1).bind fun aQ => (if bH.2.2.2 = true then (ref07_Compare.j1 k x0 x1 x6 x7 x8 bH.2.2.2 aZ.2.2.2 aQ false bH.1 bH.2.1 bH.2.2.1 aZ.1 aZ.2.1 aZ.2.2.1) else (ref07_Compare.j1 k x0 x1 x6 x7 x8 bH.2.2.2 aZ.2.2.2 aQ (!aZ.2.2.2) bH.1 bH.2.1 bH.2.2.1 aZ.1 aZ.2.1 aZ.2.2.1))))) else (some (x6, x7))
def ref07_Compare.j1 : Nat → List (S39) → List (S60) → List (S60) → List (S60) → Int → Bool → Bool → Int → Bool → Int → Int → List (S58) → Int → Int → Int → Option ((List (S60)) × (List (S60)))
 | 0, _, _, _, _, _, _, _, _, _, _, _, _, _, _, _ => none
 | k + 1, x0, x1, x6, x7, x8, x10, x12, x13, x32, aX, bG, bF, bE, bB, bA => if x32 = true then (ref07_Compare.l0 k x0 x1 x6 x7 (wrap64 (x8 + 1))) else (if x10 = true then (if x12 = true then (ref07_Compare.j2 k x0 x1 x6 x7 x8 x12 x13 (decide (bB > aX)) aX bG bF bE bB bA) else (ref07_Compare.j2 k x0 x1 x6 x7 x8 x12 x13 false aX bG bF bE bB bA)) else (ref07_Compare.j2 k x0 x1 x6 x7 x8 x12 x13 true aX bG bF bE bB bA))
def ref07_Compare.j2 : Nat → List (S39) → List (S60) → List (S60) → List (S60) → Int → Bool → Int → Bool → Int → Int → List (S58) → Int → Int → Int → Option ((List (S60)) × (List (S60)))
 | 0, _, _, _, _, _, _, _, _, _, _, _, _, _, _ => none
 | k + 1, x0, x1, x6, x7, x8, x12, x13, x39, aX, bG, bF, bE, bB, bA => if x39 = true then (if x6.length < 5864062014805 then (ref07_Compare.l0 k x0 x1 (x6 ++ [(⟨x8, bB, 0⟩ : S60)]) x7 (wrap64 (x8 + 1))) else (none)) else (if x12 = true then (ref07_Compare.j3 k x0 x1 x6 x7 x8 x13 (decide (aX > bB)) aX bG bF bE bB bA) else (ref07_Compare.j3 k x0 x1 x6 x7 x8 x13 true aX bG bF bE bB bA))
def ref07_Compare.j3 : Nat → List (S39) → List (S60) → List (S60) → List (S60) → Int → Int → Bool → Int → Int → List (S58) → Int → Int → Int → Option ((List (S60)) × (List (S60)))
 | 0, _, _, _, _, _, _, _, _, _, _, _, _, _ => none
 | k + 1, x0, x1, x6, x7, x8, x13, x59, aX, bG, bF, bE, bB, bA => if x59 = true then (if x7.length < 5864062014805 then (ref07_Compare.l0 k x0 x1 x6 (x7 ++ [(⟨x8, aX, 0⟩ : S60)]) (wrap64 (x8 + 1))) else (none)) else (if bA > x13 then (if x6.length < 5864062014805 then (ref07_Compare.l0 k x0 x1 (x6 ++ [(⟨x8, aX, x13⟩ : S60)]) x7 (wrap64 (x8 + 1))) else (none)) else (if x13 > bA then (if x7.length < 5864062014805 then (ref07_Compare.l0 k x0 x1 x6 (x7 ++ [(⟨x8, aX, bA⟩ : S60)]) (wrap64 (x8 + 1))) else (none)) else (ref07_Compare.l0 k x0 x1 x6 x7 (wrap64 (x8 + 1)))))
end
def ref07_Compare.f (k : Nat) (l0 : List (S39)) (l1 : List (S60)) : Option ((List (S60)) × (List (S60))) := ref07_Compare.l0 k l0 l1 ([] : List (S60)) ([] : List (S60)) 0
theorem ref07_Compare.mono_l : ∀ k, (∀ y0 y1 y2 y3 y4, LeO (ref07_Compare.l0 k y0 y1 y2 y3 y4) (ref07_Compare.l0 (k + 1) y0 y1 y2 y3 y4)) ∧ (∀ y0 y1 y2 y3 y4 y5 y6 y7 y8 y9 y10 y11 y12 y13 y14, LeO (ref07_Compare.j1 k y0 y1 y2 y3 y4 y5 y6 y7 y8 y9 y10 y11 y12 y13 y14) (ref07_Compare.j1 (k + 1) y0 y1 y2 y3 y4 y5 y6 y7 y8 y9 y10 y11 y12 y13 y14)) ∧ (∀ y0 y1 y2 y3 y4 y5 y6 y7 y8 y9 y10 y11 y12 y13, LeO (ref07_Compare.j2 k y0 y1 y2 y3 y4 y5 y6 y7 y8 y9 y10 y11 y12 y13) (ref07_Compare.j2 (k + 1) y0 y1 y2 y3 y4 y5 y6 y7 y8 y9 y10 y11 y12 y13)) ∧ (∀ y0 y1 y2 y3 y4 y5 y6 y7 y8 y9 y10 y11 y12, LeO (ref07_Compare.j3 k y0 y1 y2 y3 y4 y5 y6 y7 y8 y9 y10 y11 y12) (ref07_Compare.j3 (k + 1) y0 y1 y2 y3 y4 y5 y6 y7 y8 y9 y10 y11 y12))
 | 0 => ⟨fun _ _ _ _ _ r h => by simp [ref07_Compare.l0] at h, fun _ _ _ _ _ _ _ _ _ _ _ _ _ _ _ r h => by simp [ref07_Compare.j1] at h, fun _ _ _ _ _ _ _ _ _ _ _ _ _ _ r h => by simp [ref07_Compare.j2] at h, fun _ _ _ _ _ _ _ _ _ _ _ _ _ r h => by simp [ref07_Compare.j3] at h⟩
 | k + 1 => by
  obtain ⟨ih0, ih1, ih2, ih3⟩ := ref07_Compare.mono_l k; refine ⟨?_, ?_, ?_, ?_⟩
  ·intro y0 y1 y2 y3 y4
   unfold ref07_Compare.l0
   with_reducible repeat' first | exact ih0 _ _ _ _ _ | exact ih1 _ _ _ _ _ _ _ _ _ _ _ _ _ _ _ | exact ih2 _ _ _ _ _ _ _ _ _ _ _ _ _ _ | exact ih3 _ _ _ _ _ _ _ _ _ _ _ _ _ | exact ref05_Top.mono _ _ _ _ | exact ref06_Get.mono _ _ _ | exact ref07_find.mono _ _ _ | exact LeO.refl _ | exact LeO.none _ | refine LeO.ite ?_ ?_ | refine LeO.bind ?_ (fun _ => ?_)
  ·intro y0 y1 y2 y3 y4 y5 y6 y7 y8 y9 y10 y11 y12 y13 y14
   unfold ref07_Compare.j1
   with_reducible repeat' first | exact ih0 _ _ _ _ _ | exact ih1 _ _ _ _ _ _ _ _ _ _ _ _ _ _ _ | exact ih2 _ _ _ _ _ _ _ _ _ _ _ _ _ _ | exact ih3 _ _ _ _ _ _ _ _ _ _ _ _ _ | exact ref05_Top.mono _ _ _ _ | exact ref06_Get.mono _ _ _ | exact ref07_find.mono _ _ _ | exact LeO.refl _ | exact LeO.none _ | refine LeO.ite ?_ ?_ | refine LeO.bind ?_ (fun _ => ?_)
  ·intro y0 y1 y2 y3 y4 y5 y6 y7 y8 y9 y10 y11 y12 y13
   unfold ref07_Compare.j2
   with_reducible repeat' first | exact ih0 _ _ _ _ _ | exact ih1 _ _ _ _ _ _ _ _ _ _ _ _ _ _ _ | exact ih2 _ _ _ _ _ _ _ _ _ _ _ _ _ _ | exact ih3 _ _ _ _ _ _ _ _ _ _ _ _ _ | exact ref05_Top.mono _ _ _ _ | exact ref06_Get.mono _ _ _ | exact ref07_find.mono _ _ _ | exact LeO.refl _ | exact LeO.none _ | refine LeO.ite ?_ ?_ | refine LeO.bind ?_ (fun _ => ?_)
  ·intro y0 y1 y2 y3 y4 y5 y6 y7 y8 y9 y10 y11 y12
   unfold ref07_Compare.j3
   with_reducible repeat' first | exact ih0 _ _ _ _ _ | exact ih1 _ _ _ _ _ _ _ _ _ _ _ _ _ _ _ | exact ih2 _ _ _ _ _ _ _ _ _ _ _ _ _ _ | exact ih3 _ _ _ _ _ _ _ _ _ _ _ _ _ | exact ref05_Top.mono _ _ _ _ | exact ref06_Get.mono _ _ _ | exact ref07_find.mono _ _ _ | exact LeO.refl _ | exact LeO.none _ | refine LeO.ite ?_ ?_ | refine LeO.bind ?_ (fun _ => ?_)
theorem ref07_Compare.mono : ∀ a0 a1 k, LeO (ref07_Compare.f k a0 a1) (ref07_Compare.f (k + 1) a0 a1) := by
 intro a0 a1 k; obtain ⟨ih0, ih1, ih2, ih3⟩ := ref07_Compare.mono_l k
 unfold ref07_Compare.f
 with_reducible repeat' first | exact ih0 _ _ _ _ _ | exact ih1 _ _ _ _ _ _ _ _ _ _ _ _ _ _ _ | exact ih2 _ _ _ _ _ _ _ _ _ _ _ _ _ _ | exact ih3 _ _ _ _ _ _ _ _ _ _ _ _ _ | exact ref05_Top.mono _ _ _ _ | exact ref06_Get.mono _ _ _ | exact ref07_find.mono _ _ _ | exact LeO.refl _ | exact LeO.none _ | refine LeO.ite ?_ ?_ | refine LeO.bind ?_ (fun _ => ?_)
theorem ref07_Compare.calls (k : Nat) (A0 : Option Addr) (c0 : Nat) (l0 : List (S39)) (A1 : Option Addr) (c1 : Nat) (l1 : List (S60)) (r1 : List (S60)) (r2 : List (S60)) (w : World) (hr0 : Kd.C k39 w A0 l0.length l0) (hc0 : l0.length ≤ c0) (hr1 : Kd.C k60 w A1 l1.length l1) (hc1 : l1.length ≤ c1) (h : ref07_Compare.f k l0 l1 = some (r1, r2)) :
  Calls Try.prog 19 #[.slice A0 l0.length c0, .slice A1 l1.length c1] w fun e w' => ∃ v0_ v1_ : Value, e = .returned (.tuple #[v0_, v1_]) ∧ Kd.R k60 60 w' w.heap.size (fun k_ => some k_ ≠ (v1_ : Value).ownBlock) v0_ r1 ∧ Kd.R k60 60 w' w.heap.size (fun k_ => some k_ ≠ (v0_ : Value).ownBlock) v1_ r2 ∧ Below w.heap.size w w' := by
 have hu35 := Try.underlying35; have hu60 := Try.underlying60; have HR0 := Zq_.mk hr0; have HC0 := Zq_.mk hc0; clear hr0 hc0; have HR1 := Zq_.mk hr1; have HC1 := Zq_.mk hc1; clear hr1 hc1; have HB := Zq_.mk (Below.refl w.heap.size w); have H : (ref07_Compare.l0 k l0 l1 ([] : List (S60)) ([] : List (S60)) 0) = some (r1, r2) := h; clear h; have H' := Zq_.mk H; clear H
 go_enter Try.func19, Try.ntmps19
 go_wp2
 go_loopg [6, 7, 8] k (fun kq v6 v7 v8 w' => ∃ (aI : List (S60)) (aH : List (S60)) (aC : Int), v8 = .int .i64 aC ∧ Zq_ (ref07_Compare.l0 kq l0 l1 aI aH aC = some (r1, r2)) ∧ Zq_ (kq ≤ k) ∧ Zq_ (Kd.R k60 60 w' w.heap.size (fun k_ => some k_ ≠ (v7 : Value).ownBlock) v6 aI) ∧ Zq_ (Kd.R k60 60 w' w.heap.size (fun k_ => some k_ ≠ (v6 : Value).ownBlock) v7 aH) ∧ Zq_ (Below w.heap.size w w'))
 case atStart => exact ⟨(([] : List (S60))), (([] : List (S60))), (0), eS_, H', ⟨Nat.le_refl _⟩, ⟨by first | exact Kd.R_nil _ _ _ _ _ | exact Kd.N_nil _ _ _ _ _ | exact Kd.V_nil _ _ _ _ _ | exact Kd.Q_nil _ _ _ _ _ | exact Kd.S_nil _ _ _ _ _⟩, ⟨by first | exact Kd.R_nil _ _ _ _ _ | exact Kd.N_nil _ _ _ _ _ | exact Kd.V_nil _ _ _ _ _ | exact Kd.Q_nil _ _ _ _ _ | exact Kd.S_nil _ _ _ _ _⟩, ⟨hB_ HB⟩⟩
 case round =>
  clear H'
  try clear c1
  try clear p2
  obtain ⟨aI, aH, aC, rfl, HA, HK1, aU, aT, HB⟩ := hrel
  cases gk with
  | zero => exact absurd HA.out (by simp [ref07_Compare.l0])
  | succ k1 =>
   have H := HA.out; clear HA; simp only [ref07_Compare.l0] at H
   by_cases c3 : aC < 8
   ·rw [if_pos c3] at H; have dR : decide (aC < 8) = true := decide_eq_true c3; clear c3; replace H := ob_ H; obtain ⟨⟨aE, aV, aN, bI⟩, A40, H⟩ := H; replace H : ((ref07_find.f k1 l1 aC).bind fun aZ => ((ref05_Top.f k1 aE aV aN).bind fun aQ => (if bI = true then (ref07_Compare.j1 k1 l0 l1 aI aH aC bI aZ.2.2.2 aQ false aE aV aN aZ.1 aZ.2.1 aZ.2.2.1) else (ref07_Compare.j1 k1 l0 l1 aI aH aC bI aZ.2.2.2 aQ (!aZ.2.2.2) aE aV aN aZ.1 aZ.2.1 aZ.2.2.1)))) = some (r1, r2) := H; have A4 := Zq_.mk A40; clear A40; replace H := ob_ H; obtain ⟨⟨aW, aK, aJ, bC⟩, A50, H⟩ := H; replace H : ((ref05_Top.f k1 aE aV aN).bind fun aQ => (if bI = true then (ref07_Compare.j1 k1 l0 l1 aI aH aC bI bC aQ false aE aV aN aW aK aJ) else (ref07_Compare.j1 k1 l0 l1 aI aH aC bI bC aQ (!bC) aE aV aN aW aK aJ))) = some (r1, r2) := H; have A5 := Zq_.mk A50; clear A50; replace H := ob_ H; obtain ⟨aQ, A60, H⟩ := H; replace H : (if bI = true then (ref07_Compare.j1 k1 l0 l1 aI aH aC bI bC aQ false aE aV aN aW aK aJ) else (ref07_Compare.j1 k1 l0 l1 aI aH aC bI bC aQ (!bC) aE aV aN aW aK aJ)) = some (r1, r2) := H; have A6 := Zq_.mk A60; clear A60; have HC7 := Zq_.mk H; clear H
    go_upto_region 8 with (first | ((with_reducible refine qd_ (f := 17) rfl ?_); refine goesL_ (some 21) rfl rfl Try.func17 (by kernel_rfl) rfl #[.slice A0 l0.length c0, .int .i64 aC] rfl aR_ ?_; (with_reducible refine (ref06_Get.calls k1 _ _ l0 aC aE aV aN bI _ ?side1 ?side2 A4.out).mono ?_); (case side1 => exact cX_ (Kd.qf_ HR0.out HB.out)); (case side2 => exact HC0.out); rintro e w8 ⟨v104, rfl, ho0, hb⟩; refine ⟨_, rfl, ?_⟩; replace aU := vV_ Kd.qk_ aU hb; replace aT := vV_ Kd.qk_ aT hb; have bD := Zq_.mk (Kd.qz_ ho0 (qa_ (hB_ HB))); replace HB := sB_ HB hb; (try clear hb); (try clear ho0)) | ((with_reducible refine qb_ (N := 9) rfl ?_); refine bE_ 9 #[.int .i64 0, .int .i64 0, .slice none 0 0] 35 ?_; intro bJ hg w9 hbox hb; replace aU := vV_ Kd.qk_ aU hb; replace aT := vV_ Kd.qk_ aT hb; replace bD := vV_ Kd.qk_ bD hb; have aA := Zq_.mk (hbox); have GW107 := gW_ (w := w) hg (hB_ HB); have GE107 := gW_ (w := w) hg (hB_ HB); replace HB := sB_ HB hb; clear hb hbox hg; obtain ⟨cG, cF, cE⟩ := c3_ aA; obtain ⟨bX, bW, bV⟩ := f3_ aA; obtain ⟨bL, bK, eo11⟩ := Kd.ve_ bD.out; subst eo11) | ((with_reducible refine qd_ (f := 46) rfl ?_); refine goesL_ (some 27) rfl rfl Try.func46 (by kernel_rfl) rfl #[.slice A1 l1.length c1, .int .i64 aC] rfl aR_ ?_; (with_reducible refine (ref07_find.calls k1 _ _ l1 aC aW aK aJ bC _ ?side1 ?side2 A5.out).mono ?_); (case side1 => exact Kd.qf_ HR1.out (by exact hSet_ HB)); (case side2 => exact HC1.out); rintro e w12 ⟨rfl, hb⟩; refine ⟨_, rfl, ?_⟩; replace aU := Zq_.mk (Kd.qk_ (by (with_reducible repeat (first | apply Kd.qj_ | apply Kd.qi_ | apply Kd.R_drew)); exact (Kd.R_mono (Kd.R_far (Kd.R_far (Kd.R_far (Kd.qy_ aU.out aA.out (by decide)) (fun _ hk => hk.2) _) (fun _ hk => hk.2) _) (fun _ hk => hk.2) _) (fun _ h_ => h_.1))) hb); replace aT := Zq_.mk (Kd.qk_ (by (with_reducible repeat (first | apply Kd.qj_ | apply Kd.qi_ | apply Kd.R_drew)); exact (Kd.R_mono (Kd.R_far (Kd.R_far (Kd.R_far (Kd.qy_ aT.out aA.out (by decide)) (fun _ hk => hk.2) _) (fun _ hk => hk.2) _) (fun _ hk => hk.2) _) (fun _ h_ => h_.1))) hb); replace bD := Zq_.mk (Kd.qk_ (by (with_reducible repeat (first | apply Kd.qj_ | apply Kd.qi_ | apply Kd.R_drew)); exact (Kd.R_mono (Kd.R_far (Kd.R_far (Kd.R_far (Kd.qy_ bD.out aA.out (by decide)) (fun _ hk => hk.2) _) (fun _ hk => hk.2) _) (fun _ hk => hk.2) _) (fun _ h_ => h_.1))) hb); replace aA := Zq_.mk (blk_below (g := bJ) (o := .cells #[.int .i64 aE, .int .i64 aV, .slice bL aN.length bK] 35 (0, 0)) (by exact bW3_ (bK_ aA)) hb); replace HB := sB_ HB hb; (try clear hb)) | ((with_reducible refine qb_ (N := 11) rfl ?_); refine bE_ 11 #[.int .i64 0, .int .i64 0, .int .i64 0] 60 ?_; intro aM hg w13 hbox hb; replace aU := Zq_.mk (Kd.qk_ (Kd.R_elderB (vX_ aU) aM (Nat.le_of_eq hg.symm)) hb); replace aT := Zq_.mk (Kd.qk_ (Kd.R_elderB (vX_ aT) aM (Nat.le_of_eq hg.symm)) hb); replace bD := vV_ Kd.qk_ bD hb; have aD := Zq_.mk (hbox); have GW112 := gW_ (w := w) hg (by exact hSet_ HB); have GE112 := gW_ (w := w) hg (by exact hSet_ HB); replace HB := sB_ HB hb; have aR := nL_ aA hg; have aY := nG_ aA hg; replace aA := kB_ aA hb; clear hb hbox hg; have hnb14 := aY.out; have hnc14 := aR.out; obtain ⟨cD, cC, cB⟩ := c3_ aD; obtain ⟨bU, bT, bS⟩ := f3_ aD; obtain ⟨cA, bZ, bY⟩ := c3_ aA; obtain ⟨bR, bQ, bP⟩ := f3_ aA) | ((with_reducible refine qd_ (f := 43) rfl ?_); refine goesL_ (some 31) rfl rfl Try.func43 (by kernel_rfl) rfl #[.agg #[.int .i64 aE, .int .i64 aV, .slice bL aN.length bK]] rfl aR_ ?_; (with_reducible refine (ref05_Top.calls k1 aE aV _ _ aN aQ _ ?side1 ?side2 A6.out).mono ?_); (case side1 => refine (Kd.R_reads' (e := 58) (base := w.heap.size) (ok := fun k_ => True) (n := aN.length) (c := bK) ?_).2.2; exact (by (with_reducible repeat (first | apply Kd.qj_ | apply Kd.qi_ | apply Kd.R_drew)); exact (Kd.R_mono (Kd.R_far (Kd.R_far (Kd.R_far (Kd.qy_ bD.out aD.out (by decide)) (fun _ hk => hk.2) _) (fun _ hk => hk.2) _) (fun _ hk => hk.2) _) (fun _ h_ => h_.1)))); (case side2 => exact (Kd.R_reads' bD.out).2.1); rintro e w17 ⟨rfl, hb⟩; refine ⟨_, rfl, ?_⟩; replace aU := Zq_.mk (Kd.qk_ (by (with_reducible repeat (first | apply Kd.qj_ | apply Kd.qi_ | apply Kd.R_drew)); exact (Kd.R_mono (Kd.R_far (Kd.R_far (Kd.R_far (Kd.R_mono aU.out (fun k_ hk => (⟨hk, hk.2⟩ : _ ∧ k_ ≠ aM))) (fun _ hk => hk.2) _) (fun _ hk => hk.2) _) (fun _ hk => hk.2) _) (fun _ h_ => h_.1))) hb); replace aT := Zq_.mk (Kd.qk_ (by (with_reducible repeat (first | apply Kd.qj_ | apply Kd.qi_ | apply Kd.R_drew)); exact (Kd.R_mono (Kd.R_far (Kd.R_far (Kd.R_far (Kd.R_mono aT.out (fun k_ hk => (⟨hk, hk.2⟩ : _ ∧ k_ ≠ aM))) (fun _ hk => hk.2) _) (fun _ hk => hk.2) _) (fun _ hk => hk.2) _) (fun _ h_ => h_.1))) hb); replace bD := Zq_.mk (Kd.qk_ (by (with_reducible repeat (first | apply Kd.qj_ | apply Kd.qi_ | apply Kd.R_drew)); exact (Kd.R_mono (Kd.R_far (Kd.R_far (Kd.R_far (Kd.qy_ bD.out aD.out (by decide)) (fun _ hk => hk.2) _) (fun _ hk => hk.2) _) (fun _ hk => hk.2) _) (fun _ h_ => h_.1))) hb); replace aA := Zq_.mk (blk_below (g := bJ) (o := .cells #[.int .i64 aE, .int .i64 aV, .slice bL aN.length bK] 35 (0, 0)) (by refine bF_ aR ?_; refine bF_ aR ?_; refine bF_ aR ?_; exact bK_ aA) hb); replace aD := Zq_.mk (blk_below (g := aM) (o := .cells #[.int .i64 aW, .int .i64 aK, .int .i64 aJ] 60 (0, 0)) (by exact bW3_ (bK_ aD)) hb); replace HB := sB_ HB hb; (try clear hb)))
    (try simp only [Act.put, sa_, sb_, sc_])
    go_cut [32] (fun v32 wc => ∃ (kq : Nat) (cI : Bool), v32 = .bool cI ∧ Zq_ (ref07_Compare.j1 kq l0 l1 aI aH aC bI bC aQ cI aE aV aN aW aK aJ = some (r1, r2)) ∧ Zq_ (kq ≤ k1) ∧ Zq_ (Kd.R k60 60 wc w.heap.size (fun k_ => some k_ ≠ (u7 : Value).ownBlock ∧ k_ ≠ aM) u6 aI) ∧ Zq_ (Kd.R k60 60 wc w.heap.size (fun k_ => some k_ ≠ (u6 : Value).ownBlock ∧ k_ ≠ aM) u7 aH) ∧ Zq_ (Kd.R k58 58 wc w.heap.size (fun _ => True) (.slice bL aN.length bK) aN) ∧ Zq_ (wc.heap[bJ]? = some (.cells #[.int .i64 aE, .int .i64 aV, (.slice bL aN.length bK)] 35 (0, 0))) ∧ Zq_ (wc.heap[aM]? = some (.cells #[.int .i64 aW, .int .i64 aK, .int .i64 aJ] 60 (0, 0))) ∧ Zq_ (Below w.heap.size w wc))
    case first =>
     have H := HC7.out; clear HC7
     by_cases c18 : bI = true
     ·subst c18
      have H1 : (ref07_Compare.j1 k1 l0 l1 aI aH aC true bC aQ false aE aV aN aW aK aJ) = some (r1, r2) := by rw [if_pos rfl] at H; exact H
      clear H; have H := H1; clear H1; have H' := Zq_.mk H; clear H
      go_wp2
      go_meet
      case rel => exact ⟨_, (false), eS_, H', ⟨by have := HK1.out; first | omega | exact Nat.le_refl _⟩, ⟨by (with_reducible repeat (first | apply Kd.qj_ | apply Kd.qi_ | apply Kd.R_drew)); exact aU.out⟩, ⟨by (with_reducible repeat (first | apply Kd.qj_ | apply Kd.qi_ | apply Kd.R_drew)); exact aT.out⟩, ⟨by (with_reducible repeat (first | apply Kd.qj_ | apply Kd.qi_ | apply Kd.R_drew)); exact bD.out⟩, ⟨by (with_reducible repeat (first | refine qq_ ?_ _ | refine qc_ ?_ | refine ql_ ?_ _)); exact aA.out⟩, ⟨by (with_reducible repeat (first | refine qq_ ?_ _ | refine qc_ ?_ | refine ql_ ?_ _)); exact aD.out⟩, ⟨by exact hSet_ HB⟩⟩
     ·replace c18 := Bool.eq_false_iff.mpr c18; subst c18
      have H1 : (ref07_Compare.j1 k1 l0 l1 aI aH aC false bC aQ (!bC) aE aV aN aW aK aJ) = some (r1, r2) := by rw [if_neg (show ¬ (false = true) by decide)] at H; exact H
      clear H; have H := H1; clear H1; have H' := Zq_.mk H; clear H
      go_wp2
      go_meet
      case rel => exact ⟨_, (!bC), eS_, H', ⟨by have := HK1.out; first | omega | exact Nat.le_refl _⟩, ⟨by (with_reducible repeat (first | apply Kd.qj_ | apply Kd.qi_ | apply Kd.R_drew)); exact aU.out⟩, ⟨by (with_reducible repeat (first | apply Kd.qj_ | apply Kd.qi_ | apply Kd.R_drew)); exact aT.out⟩, ⟨by (with_reducible repeat (first | apply Kd.qj_ | apply Kd.qi_ | apply Kd.R_drew)); exact bD.out⟩, ⟨by (with_reducible repeat (first | refine qq_ ?_ _ | refine qc_ ?_ | refine ql_ ?_ _)); exact aA.out⟩, ⟨by (with_reducible repeat (first | refine qq_ ?_ _ | refine qc_ ?_ | refine ql_ ?_ _)); exact aD.out⟩, ⟨by exact hSet_ HB⟩⟩
    case rest =>
     clear HC7
     try clear c1
     try clear p2
     try clear c3
     try clear dR
     try clear c4
     try clear c14
     try clear c17
     try clear c18
     try clear cG
     try clear cF
     try clear cE
     try clear cD
     try clear cC
     try clear cB
     try clear cA
     try clear bZ
     try clear bY
     try clear bX
     try clear bW
     try clear bV
     try clear bU
     try clear bT
     try clear bS
     try clear bR
     try clear bQ
     try clear bP
     try clear p2
     obtain ⟨kq, cI, rfl, HA, HJ6, aU, aT, aG, aA, aD, HB⟩ := hcut
     cases kq with
     | zero => exact absurd HA.out (by simp [ref07_Compare.j1])
     | succ kj6 =>
      have H := HA.out; clear HA; simp only [ref07_Compare.j1] at H
      by_cases c19 : cI = true
      ·subst c19
       have H1 : (ref07_Compare.l0 kj6 l0 l1 aI aH (wrap64 (aC + 1))) = some (r1, r2) := by rw [if_pos rfl] at H; exact H
       clear H; have H := H1; clear H1; have H' := Zq_.mk H; clear H
       go_wp2
       go_roundg kj6
       case measure => have := HK1.out; have := HJ6.out; omega
       case rel => exact ⟨(aI), (aH), (wrap64 (aC + 1)), eS_, H', ⟨by have := HK1.out; have := HJ6.out; omega⟩, ⟨by (with_reducible repeat (first | apply Kd.qj_ | apply Kd.qi_ | apply Kd.R_drew)); exact Kd.R_mono aU.out (fun _ hk => hk.1)⟩, ⟨by (with_reducible repeat (first | apply Kd.qj_ | apply Kd.qi_ | apply Kd.R_drew)); exact Kd.R_mono aT.out (fun _ hk => hk.1)⟩, ⟨by exact hSet_ HB⟩⟩
      ·replace c19 := Bool.eq_false_iff.mpr c19; subst c19
       have H1 : (if bI = true then (if bC = true then (ref07_Compare.j2 kj6 l0 l1 aI aH aC bC aQ (decide (aK > aE)) aE aV aN aW aK aJ) else (ref07_Compare.j2 kj6 l0 l1 aI aH aC bC aQ false aE aV aN aW aK aJ)) else (ref07_Compare.j2 kj6 l0 l1 aI aH aC bC aQ true aE aV aN aW aK aJ)) = some (r1, r2) := by rw [if_neg (show ¬ (false = true) by decide)] at H; exact H
       clear H; have H := H1; clear H1; have dT := Zq_.mk H; clear H
       go_upto_region 9 with (fail)
       go_cut [39] (fun v39 wc => ∃ (kq : Nat) (bO : Bool), v39 = .bool bO ∧ Zq_ (ref07_Compare.j2 kq l0 l1 aI aH aC bC aQ bO aE aV aN aW aK aJ = some (r1, r2)) ∧ Zq_ (kq ≤ kj6) ∧ Zq_ (Kd.R k60 60 wc w.heap.size (fun k_ => some k_ ≠ (u7 : Value).ownBlock ∧ k_ ≠ aM) u6 aI) ∧ Zq_ (Kd.R k60 60 wc w.heap.size (fun k_ => some k_ ≠ (u6 : Value).ownBlock ∧ k_ ≠ aM) u7 aH) ∧ Zq_ (Kd.R k58 58 wc w.heap.size (fun _ => True) (.slice bL aN.length bK) aN) ∧ Zq_ (wc.heap[bJ]? = some (.cells #[.int .i64 aE, .int .i64 aV, (.slice bL aN.length bK)] 35 (0, 0))) ∧ Zq_ (wc.heap[aM]? = some (.cells #[.int .i64 aW, .int .i64 aK, .int .i64 aJ] 60 (0, 0))) ∧ Zq_ (Below w.heap.size w wc))
       case first =>
        have H := dT.out; clear dT
        by_cases c21 : bI = true
        ·subst c21
         have H1 : (if bC = true then (ref07_Compare.j2 kj6 l0 l1 aI aH aC bC aQ (decide (aK > aE)) aE aV aN aW aK aJ) else (ref07_Compare.j2 kj6 l0 l1 aI aH aC bC aQ false aE aV aN aW aK aJ)) = some (r1, r2) := by rw [if_pos rfl] at H; exact H
         clear H; have H := H1; clear H1
         by_cases c22 : bC = true
         ·subst c22
          have H1 : (ref07_Compare.j2 kj6 l0 l1 aI aH aC true aQ (decide (aK > aE)) aE aV aN aW aK aJ) = some (r1, r2) := by rw [if_pos rfl] at H; exact H
          clear H; have H := H1; clear H1; have H' := Zq_.mk H; clear H; have hnb23 := aY.out; have hnc23 := aR.out; obtain ⟨cU, cT, cS⟩ := c3_ aD; obtain ⟨cO, cN, cM⟩ := f3_ aD; obtain ⟨cR, cQ, cP⟩ := c3_ aA; obtain ⟨cL, cK, cJ⟩ := f3_ aA
          go_wp2
          go_meet
          case rel => exact ⟨_, (decide (aK > aE)), eS_, H', ⟨by have := HK1.out; have := HJ6.out; first | omega | exact Nat.le_refl _⟩, ⟨by (with_reducible repeat (first | apply Kd.qj_ | apply Kd.qi_ | apply Kd.R_drew)); exact aU.out⟩, ⟨by (with_reducible repeat (first | apply Kd.qj_ | apply Kd.qi_ | apply Kd.R_drew)); exact aT.out⟩, ⟨by (with_reducible repeat (first | apply Kd.qj_ | apply Kd.qi_ | apply Kd.R_drew)); exact aG.out⟩, ⟨by (with_reducible repeat (first | refine qq_ ?_ _ | refine qc_ ?_ | refine ql_ ?_ _)); exact aA.out⟩, ⟨by (with_reducible repeat (first | refine qq_ ?_ _ | refine qc_ ?_ | refine ql_ ?_ _)); exact aD.out⟩, ⟨by exact hSet_ HB⟩⟩
         ·replace c22 := Bool.eq_false_iff.mpr c22; subst c22
          have H1 : (ref07_Compare.j2 kj6 l0 l1 aI aH aC false aQ false aE aV aN aW aK aJ) = some (r1, r2) := by rw [if_neg (show ¬ (false = true) by decide)] at H; exact H
          clear H; have H := H1; clear H1; have H' := Zq_.mk H; clear H
          go_wp2
          go_meet
          case rel => exact ⟨_, (false), eS_, H', ⟨by have := HK1.out; have := HJ6.out; first | omega | exact Nat.le_refl _⟩, ⟨by (with_reducible repeat (first | apply Kd.qj_ | apply Kd.qi_ | apply Kd.R_drew)); exact aU.out⟩, ⟨by (with_reducible repeat (first | apply Kd.qj_ | apply Kd.qi_ | apply Kd.R_drew)); exact aT.out⟩, ⟨by (with_reducible repeat (first | apply Kd.qj_ | apply Kd.qi_ | apply Kd.R_drew)); exact aG.out⟩, ⟨by (with_reducible repeat (first | refine qq_ ?_ _ | refine qc_ ?_ | refine ql_ ?_ _)); exact aA.out⟩, ⟨by (with_reducible repeat (first | refine qq_ ?_ _ | refine qc_ ?_ | refine ql_ ?_ _)); exact aD.out⟩, ⟨by exact hSet_ HB⟩⟩
        ·replace c21 := Bool.eq_false_iff.mpr c21; subst c21
         have H1 : (ref07_Compare.j2 kj6 l0 l1 aI aH aC bC aQ true aE aV aN aW aK aJ) = some (r1, r2) := by rw [if_neg (show ¬ (false = true) by decide)] at H; exact H
         clear H; have H := H1; clear H1; have H' := Zq_.mk H; clear H
         go_wp2
         go_meet
         case rel => exact ⟨_, (true), eS_, H', ⟨by have := HK1.out; have := HJ6.out; first | omega | exact Nat.le_refl _⟩, ⟨by (with_reducible repeat (first | apply Kd.qj_ | apply Kd.qi_ | apply Kd.R_drew)); exact aU.out⟩, ⟨by (with_reducible repeat (first | apply Kd.qj_ | apply Kd.qi_ | apply Kd.R_drew)); exact aT.out⟩, ⟨by (with_reducible repeat (first | apply Kd.qj_ | apply Kd.qi_ | apply Kd.R_drew)); exact aG.out⟩, ⟨by (with_reducible repeat (first | refine qq_ ?_ _ | refine qc_ ?_ | refine ql_ ?_ _)); exact aA.out⟩, ⟨by (with_reducible repeat (first | refine qq_ ?_ _ | refine qc_ ?_ | refine ql_ ?_ _)); exact aD.out⟩, ⟨by exact hSet_ HB⟩⟩
       case rest =>
        clear dT
        try clear c1
        try clear c2
        try clear p2
        try clear c3
        try clear dR
        try clear c4
        try clear p6
        try clear c14
        try clear c17
        try clear c18
        try clear c19
        try clear c21
        try clear c22
        try clear c23
        try clear cG
        try clear cF
        try clear cE
        try clear cD
        try clear cC
        try clear cB
        try clear cA
        try clear bZ
        try clear bY
        try clear cU
        try clear cT
        try clear cS
        try clear cR
        try clear cQ
        try clear cP
        try clear bX
        try clear bW
        try clear bV
        try clear bU
        try clear bT
        try clear bS
        try clear bR
        try clear bQ
        try clear bP
        try clear cO
        try clear cN
        try clear cM
        try clear cL
        try clear cK
        try clear cJ
        try clear p2
        obtain ⟨kq, bO, rfl, HA, bM, aU, aT, aG, aA, aD, HB⟩ := hcut
        cases kq with
        | zero => exact absurd HA.out (by simp [ref07_Compare.j2])
        | succ kj19 =>
         have H := HA.out; clear HA; simp only [ref07_Compare.j2] at H
         by_cases c26 : bO = true
         ·subst c26
          have H1 : (if aI.length < 5864062014805 then (ref07_Compare.l0 kj19 l0 l1 (aI ++ [(⟨aC, aK, 0⟩ : S60)]) aH (wrap64 (aC + 1))) else (none)) = some (r1, r2) := by rw [if_pos rfl] at H; exact H
          clear H; have H := H1; clear H1
          by_cases c27 : aI.length < 5864062014805
          ·rw [if_pos c27] at H; have eH := Zq_.mk c27; clear c27; obtain ⟨dX, cY⟩ : ∃ y_ : List (S60), y_ = (aI ++ [(⟨aC, aK, 0⟩ : S60)]) := ⟨_, rfl⟩
           replace H : (ref07_Compare.l0 kj19 l0 l1 dX aH (wrap64 (aC + 1))) = some (r1, r2) := hY_ cY H
           have eD := Zq_.mk cY; clear cY; have H' := Zq_.mk H; clear H; have hnb28 := aY.out; have hnc28 := aR.out; obtain ⟨dQ, dP, dO⟩ := c3_ aD; obtain ⟨dH, dG, dF⟩ := f3_ aD
           go_wp2_with (first | ((with_reducible refine qr_ (b := .append) (xs := #[.tmp 52, .tmp 57]) rfl ?_); at_builtin; refine Kd.R_append k60 (w0 := w) w.heap.size rfl (.tmp 52) (.tmp 57) 23 60 (.agg #[(.int .i64 0), (.int .i64 0), (.int .i64 0)]) 24 rfl Try.underlying23 info60 rfl (by decide) (by omega) u6 aI (⟨aC, aK, 0⟩ : S60) [.int .i64 aC, .int .i64 aK, .int .i64 0] (fun k_ => some k_ ≠ (u7 : Value).ownBlock ∧ k_ ≠ aM) (fun _ => False) rfl rfl ?aP (fun _ hk => hk.elim) ?aF ?aO ?aB ?aS ?aL ?_; (case aP => exact k60_mkM _ _ _ (⟨aC, aK, 0⟩ : S60)); (case aB => exact (by exact hSet_ HB)); (case aF => exact (fun k_ hk => ⟨Kd.fresh' (Kd.R_lt (vX_ aT)) k_ hk, Kd.freshB (g := aM) (o := .cells #[.int .i64 aW, .int .i64 aK, .int .i64 aJ] 60 (0, 0)) (by exact bK_ aD) k_ hk⟩)); (case aO => exact (vX_ aU)); (case aS => exact (qa_ (by exact hSet_ HB))); (case aL => have := eH.out; omega); intro v115 w30 ho hb hg hat; rw [← eD.out] at ho; replace aT := Zq_.mk (Kd.R_after (ok := (fun k_ => k_ ≠ aM)) (by (with_reducible repeat (first | apply Kd.qj_ | apply Kd.qi_ | apply Kd.R_drew)); exact Kd.R_mono aT.out (fun _ hk => ⟨hk.2, hk.1⟩)) hg hat); replace aG := Zq_.mk (Kd.R_over' (vX_ aG) (Kd.R_typed (vX_ aU)) (by decide) hg); replace aA := Zq_.mk (qs_ (g := bJ) (o := .cells #[.int .i64 aE, .int .i64 aV, .slice bL aN.length bK] 35 (0, 0)) (by exact bK_ aA) hg (Kd.R_ne aU.out aA.out (by decide))); replace aD := Zq_.mk (qs_ (g := aM) (o := .cells #[.int .i64 aW, .int .i64 aK, .int .i64 aJ] 60 (0, 0)) (by exact bK_ aD) hg (Kd.R_away aU.out (fun _ hk => hk.2))); replace HB := Zq_.mk (hb); have eL := Zq_.mk (ho); clear aU; clear ho hb hg hat))
           go_roundg kj19
           case measure => have := HK1.out; have := HJ6.out; have := bM.out; omega
           case rel => exact ⟨(dX), (aH), (wrap64 (aC + 1)), eS_, H', ⟨by have := HK1.out; have := HJ6.out; have := bM.out; omega⟩, ⟨by (with_reducible repeat (first | apply Kd.qj_ | apply Kd.qi_ | apply Kd.R_drew)); exact Kd.R_mono eL.out (fun _ hk => hk.1)⟩, ⟨by (with_reducible repeat (first | apply Kd.qj_ | apply Kd.qi_ | apply Kd.R_drew)); exact Kd.R_mono aT.out (fun _ hk => hk.2)⟩, ⟨by exact hSet_ HB⟩⟩
          ·rw [if_neg c27] at H; exact absurd H (by simp)
         ·replace c26 := Bool.eq_false_iff.mpr c26; subst c26
          have H1 : (if bC = true then (ref07_Compare.j3 kj19 l0 l1 aI aH aC aQ (decide (aE > aK)) aE aV aN aW aK aJ) else (ref07_Compare.j3 kj19 l0 l1 aI aH aC aQ true aE aV aN aW aK aJ)) = some (r1, r2) := by rw [if_neg (show ¬ (false = true) by decide)] at H; exact H
          clear H; have H := H1; clear H1; have dS := Zq_.mk H; clear H
          go_upto_region 11 with (fail)
          go_cut [59] (fun v59 wc => ∃ (kq : Nat) (bN : Bool), v59 = .bool bN ∧ Zq_ (ref07_Compare.j3 kq l0 l1 aI aH aC aQ bN aE aV aN aW aK aJ = some (r1, r2)) ∧ Zq_ (kq ≤ kj19) ∧ Zq_ (Kd.R k60 60 wc w.heap.size (fun k_ => some k_ ≠ (u7 : Value).ownBlock ∧ k_ ≠ aM) u6 aI) ∧ Zq_ (Kd.R k60 60 wc w.heap.size (fun k_ => some k_ ≠ (u6 : Value).ownBlock ∧ k_ ≠ aM) u7 aH) ∧ Zq_ (Kd.R k58 58 wc w.heap.size (fun _ => True) (.slice bL aN.length bK) aN) ∧ Zq_ (wc.heap[bJ]? = some (.cells #[.int .i64 aE, .int .i64 aV, (.slice bL aN.length bK)] 35 (0, 0))) ∧ Zq_ (wc.heap[aM]? = some (.cells #[.int .i64 aW, .int .i64 aK, .int .i64 aJ] 60 (0, 0))) ∧ Zq_ (Below w.heap.size w wc))
          case first =>
           have H := dS.out; clear dS
           by_cases c32 : bC = true
           ·subst c32
            have H1 : (ref07_Compare.j3 kj19 l0 l1 aI aH aC aQ (decide (aE > aK)) aE aV aN aW aK aJ) = some (r1, r2) := by rw [if_pos rfl] at H; exact H
            clear H; have H := H1; clear H1; have H' := Zq_.mk H; clear H; have hnb33 := aR.out; have hnc33 := aY.out; obtain ⟨dN, dM, dL⟩ := c3_ aA; obtain ⟨dE, dD, dC⟩ := f3_ aA; obtain ⟨dK, dJ, dI⟩ := c3_ aD; obtain ⟨dB, dA, cZ⟩ := f3_ aD
            go_wp2
            go_meet
            case rel => exact ⟨_, (decide (aE > aK)), eS_, H', ⟨by have := HK1.out; have := HJ6.out; have := bM.out; first | omega | exact Nat.le_refl _⟩, ⟨by (with_reducible repeat (first | apply Kd.qj_ | apply Kd.qi_ | apply Kd.R_drew)); exact aU.out⟩, ⟨by (with_reducible repeat (first | apply Kd.qj_ | apply Kd.qi_ | apply Kd.R_drew)); exact aT.out⟩, ⟨by (with_reducible repeat (first | apply Kd.qj_ | apply Kd.qi_ | apply Kd.R_drew)); exact aG.out⟩, ⟨by (with_reducible repeat (first | refine qq_ ?_ _ | refine qc_ ?_ | refine ql_ ?_ _)); exact aA.out⟩, ⟨by (with_reducible repeat (first | refine qq_ ?_ _ | refine qc_ ?_ | refine ql_ ?_ _)); exact aD.out⟩, ⟨by exact hSet_ HB⟩⟩
           ·replace c32 := Bool.eq_false_iff.mpr c32; subst c32
            have H1 : (ref07_Compare.j3 kj19 l0 l1 aI aH aC aQ true aE aV aN aW aK aJ) = some (r1, r2) := by rw [if_neg (show ¬ (false = true) by decide)] at H; exact H
            clear H; have H := H1; clear H1; have H' := Zq_.mk H; clear H
            go_wp2
            go_meet
            case rel => exact ⟨_, (true), eS_, H', ⟨by have := HK1.out; have := HJ6.out; have := bM.out; first | omega | exact Nat.le_refl _⟩, ⟨by (with_reducible repeat (first | apply Kd.qj_ | apply Kd.qi_ | apply Kd.R_drew)); exact aU.out⟩, ⟨by (with_reducible repeat (first | apply Kd.qj_ | apply Kd.qi_ | apply Kd.R_drew)); exact aT.out⟩, ⟨by (with_reducible repeat (first | apply Kd.qj_ | apply Kd.qi_ | apply Kd.R_drew)); exact aG.out⟩, ⟨by (with_reducible repeat (first | refine qq_ ?_ _ | refine qc_ ?_ | refine ql_ ?_ _)); exact aA.out⟩, ⟨by (with_reducible repeat (first | refine qq_ ?_ _ | refine qc_ ?_ | refine ql_ ?_ _)); exact aD.out⟩, ⟨by exact hSet_ HB⟩⟩
          case rest =>
           clear dS
           try clear c1
           try clear c2
           try clear p2
           try clear c3
           try clear dR
           try clear c4
           try clear p6
           try clear c14
           try clear c17
           try clear c18
           try clear c19
           try clear c21
           try clear c22
           try clear c23
           try clear c26
           try clear c27
           try clear c28
           try clear c32
           try clear c33
           try clear cG
           try clear cF
           try clear cE
           try clear cD
           try clear cC
           try clear cB
           try clear cA
           try clear bZ
           try clear bY
           try clear cU
           try clear cT
           try clear cS
           try clear cR
           try clear cQ
           try clear cP
           try clear dQ
           try clear dP
           try clear dO
           try clear dN
           try clear dM
           try clear dL
           try clear dK
           try clear dJ
           try clear dI
           try clear bX
           try clear bW
           try clear bV
           try clear bU
           try clear bT
           try clear bS
           try clear bR
           try clear bQ
           try clear bP
           try clear cO
           try clear cN
           try clear cM
           try clear cL
           try clear cK
           try clear cJ
           try clear dH
           try clear dG
           try clear dF
           try clear dE
           try clear dD
           try clear dC
           try clear dB
           try clear dA
           try clear cZ
           try clear p2
           try clear p6
           obtain ⟨kq, bN, rfl, HA, cH, aU, aT, aG, aA, aD, HB⟩ := hcut
           cases kq with
           | zero => exact absurd HA.out (by simp [ref07_Compare.j3])
           | succ kj30 =>
            have H := HA.out; clear HA; simp only [ref07_Compare.j3] at H
            by_cases c36 : bN = true
            ·subst c36
             have H1 : (if aH.length < 5864062014805 then (ref07_Compare.l0 kj30 l0 l1 aI (aH ++ [(⟨aC, aE, 0⟩ : S60)]) (wrap64 (aC + 1))) else (none)) = some (r1, r2) := by rw [if_pos rfl] at H; exact H
             clear H; have H := H1; clear H1
             by_cases c37 : aH.length < 5864062014805
             ·rw [if_pos c37] at H; have eG := Zq_.mk c37; clear c37; obtain ⟨dW, cX⟩ : ∃ y_ : List (S60), y_ = (aH ++ [(⟨aC, aE, 0⟩ : S60)]) := ⟨_, rfl⟩
              replace H : (ref07_Compare.l0 kj30 l0 l1 aI dW (wrap64 (aC + 1))) = some (r1, r2) := hY_ cX H
              have eC := Zq_.mk cX; clear cX; have H' := Zq_.mk H; clear H; have hnb38 := aR.out; have hnc38 := aY.out; obtain ⟨hcz39_0, hcz39_1, hcz39_2⟩ := c3_ aA; obtain ⟨hfz39_0, hfz39_1, hfz39_2⟩ := f3_ aA
              go_wp2_with (first | ((with_reducible refine qr_ (b := .append) (xs := #[.tmp 69, .tmp 74]) rfl ?_); at_builtin; refine Kd.R_append k60 (w0 := w) w.heap.size rfl (.tmp 69) (.tmp 74) 23 60 (.agg #[(.int .i64 0), (.int .i64 0), (.int .i64 0)]) 24 rfl Try.underlying23 info60 rfl (by decide) (by omega) u7 aH (⟨aC, aE, 0⟩ : S60) [.int .i64 aC, .int .i64 aE, .int .i64 0] (fun k_ => some k_ ≠ (u6 : Value).ownBlock ∧ k_ ≠ aM) (fun _ => False) rfl rfl ?aP (fun _ hk => hk.elim) ?aF ?aO ?aB ?aS ?aL ?_; (case aP => exact k60_mkM _ _ _ (⟨aC, aE, 0⟩ : S60)); (case aB => exact (by exact hSet_ HB)); (case aF => exact (fun k_ hk => ⟨Kd.fresh' (Kd.R_lt (vX_ aU)) k_ hk, Kd.freshB (g := aM) (o := .cells #[.int .i64 aW, .int .i64 aK, .int .i64 aJ] 60 (0, 0)) (by exact bK_ aD) k_ hk⟩)); (case aO => exact (vX_ aT)); (case aS => exact (qa_ (by exact hSet_ HB))); (case aL => have := eG.out; omega); intro v118 w40 ho hb hg hat; rw [← eC.out] at ho; replace aU := Zq_.mk (Kd.R_after (ok := (fun k_ => k_ ≠ aM)) (by (with_reducible repeat (first | apply Kd.qj_ | apply Kd.qi_ | apply Kd.R_drew)); exact Kd.R_mono aU.out (fun _ hk => ⟨hk.2, hk.1⟩)) hg hat); replace aG := Zq_.mk (Kd.R_over' (vX_ aG) (Kd.R_typed (vX_ aT)) (by decide) hg); replace aA := Zq_.mk (qs_ (g := bJ) (o := .cells #[.int .i64 aE, .int .i64 aV, .slice bL aN.length bK] 35 (0, 0)) (by exact bK_ aA) hg (Kd.R_ne aT.out aA.out (by decide))); replace aD := Zq_.mk (qs_ (g := aM) (o := .cells #[.int .i64 aW, .int .i64 aK, .int .i64 aJ] 60 (0, 0)) (by exact bK_ aD) hg (Kd.R_away aT.out (fun _ hk => hk.2))); replace HB := Zq_.mk (hb); have eK := Zq_.mk (ho); clear aT; clear ho hb hg hat))
              go_roundg kj30
              case measure => have := HK1.out; have := HJ6.out; have := bM.out; have := cH.out; omega
              case rel => exact ⟨(aI), (dW), (wrap64 (aC + 1)), eS_, H', ⟨by have := HK1.out; have := HJ6.out; have := bM.out; have := cH.out; omega⟩, ⟨by (with_reducible repeat (first | apply Kd.qj_ | apply Kd.qi_ | apply Kd.R_drew)); exact Kd.R_mono aU.out (fun _ hk => hk.2)⟩, ⟨by (with_reducible repeat (first | apply Kd.qj_ | apply Kd.qi_ | apply Kd.R_drew)); exact Kd.R_mono eK.out (fun _ hk => hk.1)⟩, ⟨by exact hSet_ HB⟩⟩
             ·rw [if_neg c37] at H; exact absurd H (by simp)
            ·replace c36 := Bool.eq_false_iff.mpr c36; subst c36
             have H1 : (if aJ > aQ then (if aI.length < 5864062014805 then (ref07_Compare.l0 kj30 l0 l1 (aI ++ [(⟨aC, aE, aQ⟩ : S60)]) aH (wrap64 (aC + 1))) else (none)) else (if aQ > aJ then (if aH.length < 5864062014805 then (ref07_Compare.l0 kj30 l0 l1 aI (aH ++ [(⟨aC, aE, aJ⟩ : S60)]) (wrap64 (aC + 1))) else (none)) else (ref07_Compare.l0 kj30 l0 l1 aI aH (wrap64 (aC + 1))))) = some (r1, r2) := by rw [if_neg (show ¬ (false = true) by decide)] at H; exact H
             clear H; have H := H1; clear H1
             by_cases c41 : aJ > aQ
             ·rw [if_pos c41] at H; have dZ : decide (aQ < aJ) = true := decide_eq_true c41; clear c41
              by_cases c42 : aI.length < 5864062014805
              ·rw [if_pos c42] at H; have eF := Zq_.mk c42; clear c42; obtain ⟨dV, cW⟩ : ∃ y_ : List (S60), y_ = (aI ++ [(⟨aC, aE, aQ⟩ : S60)]) := ⟨_, rfl⟩
               replace H : (ref07_Compare.l0 kj30 l0 l1 dV aH (wrap64 (aC + 1))) = some (r1, r2) := hY_ cW H
               have eB := Zq_.mk cW; clear cW; have H' := Zq_.mk H; clear H; have hnb43 := aY.out; have hnc43 := aR.out; obtain ⟨hcz44_0, hcz44_1, hcz44_2⟩ := c3_ aD; obtain ⟨hfz44_0, hfz44_1, hfz44_2⟩ := f3_ aD; obtain ⟨hcz45_0, hcz45_1, hcz45_2⟩ := c3_ aA; obtain ⟨hfz45_0, hfz45_1, hfz45_2⟩ := f3_ aA
               go_wp2_with (first | ((with_reducible refine qr_ (b := .append) (xs := #[.tmp 81, .tmp 87]) rfl ?_); at_builtin; refine Kd.R_append k60 (w0 := w) w.heap.size rfl (.tmp 81) (.tmp 87) 23 60 (.agg #[(.int .i64 0), (.int .i64 0), (.int .i64 0)]) 24 rfl Try.underlying23 info60 rfl (by decide) (by omega) u6 aI (⟨aC, aE, aQ⟩ : S60) [.int .i64 aC, .int .i64 aE, .int .i64 aQ] (fun k_ => some k_ ≠ (u7 : Value).ownBlock ∧ k_ ≠ aM) (fun _ => False) rfl rfl ?aP (fun _ hk => hk.elim) ?aF ?aO ?aB ?aS ?aL ?_; (case aP => exact k60_mkM _ _ _ (⟨aC, aE, aQ⟩ : S60)); (case aB => exact (by exact hSet_ HB)); (case aF => exact (fun k_ hk => ⟨Kd.fresh' (Kd.R_lt (vX_ aT)) k_ hk, Kd.freshB (g := aM) (o := .cells #[.int .i64 aW, .int .i64 aK, .int .i64 aJ] 60 (0, 0)) (by exact bK_ aD) k_ hk⟩)); (case aO => exact (vX_ aU)); (case aS => exact (qa_ (by exact hSet_ HB))); (case aL => have := eF.out; omega); intro v121 w46 ho hb hg hat; rw [← eB.out] at ho; replace aT := Zq_.mk (Kd.R_after (ok := (fun k_ => k_ ≠ aM)) (by (with_reducible repeat (first | apply Kd.qj_ | apply Kd.qi_ | apply Kd.R_drew)); exact Kd.R_mono aT.out (fun _ hk => ⟨hk.2, hk.1⟩)) hg hat); replace aG := Zq_.mk (Kd.R_over' (vX_ aG) (Kd.R_typed (vX_ aU)) (by decide) hg); replace aA := Zq_.mk (qs_ (g := bJ) (o := .cells #[.int .i64 aE, .int .i64 aV, .slice bL aN.length bK] 35 (0, 0)) (by exact bK_ aA) hg (Kd.R_ne aU.out aA.out (by decide))); replace aD := Zq_.mk (qs_ (g := aM) (o := .cells #[.int .i64 aW, .int .i64 aK, .int .i64 aJ] 60 (0, 0)) (by exact bK_ aD) hg (Kd.R_away aU.out (fun _ hk => hk.2))); replace HB := Zq_.mk (hb); have eJ := Zq_.mk (ho); clear aU; clear ho hb hg hat))
               go_roundg kj30
               case measure => have := HK1.out; have := HJ6.out; have := bM.out; have := cH.out; omega
               case rel => exact ⟨(dV), (aH), (wrap64 (aC + 1)), eS_, H', ⟨by have := HK1.out; have := HJ6.out; have := bM.out; have := cH.out; omega⟩, ⟨by (with_reducible repeat (first | apply Kd.qj_ | apply Kd.qi_ | apply Kd.R_drew)); exact Kd.R_mono eJ.out (fun _ hk => hk.1)⟩, ⟨by (with_reducible repeat (first | apply Kd.qj_ | apply Kd.qi_ | apply Kd.R_drew)); exact Kd.R_mono aT.out (fun _ hk => hk.2)⟩, ⟨by exact hSet_ HB⟩⟩
              ·rw [if_neg c42] at H; exact absurd H (by simp)
             ·rw [if_neg c41] at H; have dZ : decide (aQ < aJ) = false := decide_eq_false c41; clear c41
              by_cases c47 : aQ > aJ
              ·rw [if_pos c47] at H; have dY : decide (aJ < aQ) = true := decide_eq_true c47; clear c47
               by_cases c48 : aH.length < 5864062014805
               ·rw [if_pos c48] at H; have eE := Zq_.mk c48; clear c48; obtain ⟨dU, cV⟩ : ∃ y_ : List (S60), y_ = (aH ++ [(⟨aC, aE, aJ⟩ : S60)]) := ⟨_, rfl⟩
                replace H : (ref07_Compare.l0 kj30 l0 l1 aI dU (wrap64 (aC + 1))) = some (r1, r2) := hY_ cV H
                have eA := Zq_.mk cV; clear cV; have H' := Zq_.mk H; clear H; have hnb49 := aY.out; have hnc49 := aR.out; obtain ⟨hcz50_0, hcz50_1, hcz50_2⟩ := c3_ aD; obtain ⟨hfz50_0, hfz50_1, hfz50_2⟩ := f3_ aD; obtain ⟨hcz51_0, hcz51_1, hcz51_2⟩ := c3_ aA; obtain ⟨hfz51_0, hfz51_1, hfz51_2⟩ := f3_ aA
                go_wp2_with (first | ((with_reducible refine qr_ (b := .append) (xs := #[.tmp 94, .tmp 101]) rfl ?_); at_builtin; refine Kd.R_append k60 (w0 := w) w.heap.size rfl (.tmp 94) (.tmp 101) 23 60 (.agg #[(.int .i64 0), (.int .i64 0), (.int .i64 0)]) 24 rfl Try.underlying23 info60 rfl (by decide) (by omega) u7 aH (⟨aC, aE, aJ⟩ : S60) [.int .i64 aC, .int .i64 aE, .int .i64 aJ] (fun k_ => some k_ ≠ (u6 : Value).ownBlock ∧ k_ ≠ aM) (fun _ => False) rfl rfl ?aP (fun _ hk => hk.elim) ?aF ?aO ?aB ?aS ?aL ?_; (case aP => exact k60_mkM _ _ _ (⟨aC, aE, aJ⟩ : S60)); (case aB => exact (by exact hSet_ HB)); (case aF => exact (fun k_ hk => ⟨Kd.fresh' (Kd.R_lt (vX_ aU)) k_ hk, Kd.freshB (g := aM) (o := .cells #[.int .i64 aW, .int .i64 aK, .int .i64 aJ] 60 (0, 0)) (by exact bK_ aD) k_ hk⟩)); (case aO => exact (vX_ aT)); (case aS => exact (qa_ (by exact hSet_ HB))); (case aL => have := eE.out; omega); intro v124 w52 ho hb hg hat; rw [← eA.out] at ho; replace aU := Zq_.mk (Kd.R_after (ok := (fun k_ => k_ ≠ aM)) (by (with_reducible repeat (first | apply Kd.qj_ | apply Kd.qi_ | apply Kd.R_drew)); exact Kd.R_mono aU.out (fun _ hk => ⟨hk.2, hk.1⟩)) hg hat); replace aG := Zq_.mk (Kd.R_over' (vX_ aG) (Kd.R_typed (vX_ aT)) (by decide) hg); replace aA := Zq_.mk (qs_ (g := bJ) (o := .cells #[.int .i64 aE, .int .i64 aV, .slice bL aN.length bK] 35 (0, 0)) (by exact bK_ aA) hg (Kd.R_ne aT.out aA.out (by decide))); replace aD := Zq_.mk (qs_ (g := aM) (o := .cells #[.int .i64 aW, .int .i64 aK, .int .i64 aJ] 60 (0, 0)) (by exact bK_ aD) hg (Kd.R_away aT.out (fun _ hk => hk.2))); replace HB := Zq_.mk (hb); have eI := Zq_.mk (ho); clear aT; clear ho hb hg hat))
                go_roundg kj30
                case measure => have := HK1.out; have := HJ6.out; have := bM.out; have := cH.out; omega
                case rel => exact ⟨(aI), (dU), (wrap64 (aC + 1)), eS_, H', ⟨by have := HK1.out; have := HJ6.out; have := bM.out; have := cH.out; omega⟩, ⟨by (with_reducible repeat (first | apply Kd.qj_ | apply Kd.qi_ | apply Kd.R_drew)); exact Kd.R_mono aU.out (fun _ hk => hk.2)⟩, ⟨by (with_reducible repeat (first | apply Kd.qj_ | apply Kd.qi_ | apply Kd.R_drew)); exact Kd.R_mono eI.out (fun _ hk => hk.1)⟩, ⟨by exact hSet_ HB⟩⟩
               ·rw [if_neg c48] at H; exact absurd H (by simp)
              ·rw [if_neg c47] at H; have dY : decide (aJ < aQ) = false := decide_eq_false c47; clear c47; have H' := Zq_.mk H; clear H; have hnb53 := aY.out; have hnc53 := aR.out; obtain ⟨hcz54_0, hcz54_1, hcz54_2⟩ := c3_ aD; obtain ⟨hfz54_0, hfz54_1, hfz54_2⟩ := f3_ aD
               go_wp2
               go_roundg kj30
               case measure => have := HK1.out; have := HJ6.out; have := bM.out; have := cH.out; omega
               case rel => exact ⟨(aI), (aH), (wrap64 (aC + 1)), eS_, H', ⟨by have := HK1.out; have := HJ6.out; have := bM.out; have := cH.out; omega⟩, ⟨by (with_reducible repeat (first | apply Kd.qj_ | apply Kd.qi_ | apply Kd.R_drew)); exact Kd.R_mono aU.out (fun _ hk => hk.1)⟩, ⟨by (with_reducible repeat (first | apply Kd.qj_ | apply Kd.qi_ | apply Kd.R_drew)); exact Kd.R_mono aT.out (fun _ hk => hk.1)⟩, ⟨by exact hSet_ HB⟩⟩
   ·rw [if_neg c3] at H; have dR : decide (aC < 8) = false := decide_eq_false c3; clear c3; simp only [Option.some.injEq, Prod.mk.injEq] at H; obtain ⟨rfl, rfl⟩ := H
    go_wp2
    go_ret2
    exact ⟨_, _, by exact eW_, by (with_reducible repeat (first | apply Kd.qj_ | apply Kd.qi_ | apply Kd.R_drew)); exact aU.out, by (with_reducible repeat (first | apply Kd.qj_ | apply Kd.qi_ | apply Kd.R_drew)); exact aT.out, hB_ HB⟩
end Go.Proofs.Ytgipbmjkgciccaa.P

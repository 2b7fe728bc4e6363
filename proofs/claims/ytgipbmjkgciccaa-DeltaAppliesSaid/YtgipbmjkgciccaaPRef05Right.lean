/- What printed functions come to, and that the machine's calls do it. No condition. -/
import Derived.Test.YtgipbmjkgciccaaP0
import Derived.Test.YtgipbmjkgciccaaHw
import Derived.Test.YtgipbmjkgciccaaPApiDelta
namespace Go.Proofs.Ytgipbmjkgciccaa.P
set_option maxHeartbeats 8000000
set_option maxRecDepth 100000
open Go.RowKit Go.Proofs.YtgipbmjkgciccaaW.PrintWords Go.Proofs.YtgipbmjkgciccaaW.PrintLast Go.Proofs.YtgipbmjkgciccaaW.PrintMore
attribute [local go_sem] qv_ qt_ vb_ va_ qm_ ql_ qu_ qs_ Go.Proofs.YtgipbmjkgciccaaW.Hw.string_gtr
set_option linter.unusedVariables false
set_option linter.unusedSimpArgs false
def ref04_May.f (aG : Int) (aF : Int) (bE : ByteArray) : Option (Bool) := if aG ≥ 0 then (if aG < 12 then (if aF ≥ 1 then (if aF ≤ 1099511627776 then (some (decide ((bE.size : Int) ≤ 200))) else (some false)) else (some false)) else (some false)) else (some false)
theorem ref04_May.calls (aG : Int) (aF : Int) (bE : ByteArray) (r : Bool) (w : World) (h : ref04_May.f aG aF bE = some r) :
  Calls Try.prog 71 #[.agg #[.int .i64 aG, .int .i64 aF, .string bE]] w fun e w' => e = .returned (.bool r) ∧ Below w.heap.size w w' := by
 have hu58 := Try.underlying58; have HB := Zq_.mk (Below.refl w.heap.size w); have H : (if aG ≥ 0 then (if aG < 12 then (if aF ≥ 1 then (if aF ≤ 1099511627776 then (some (decide ((bE.size : Int) ≤ 200))) else (some false)) else (some false)) else (some false)) else (some false)) = some r := h; clear h
 by_cases c2 : aG ≥ 0
 ·rw [if_pos c2] at H; have bN : decide (0 ≤ aG) = true := decide_eq_true c2; clear c2
  by_cases c3 : aG < 12
  ·rw [if_pos c3] at H; have cI : decide (aG < 12) = true := decide_eq_true c3; clear c3
   by_cases c4 : aF ≥ 1
   ·rw [if_pos c4] at H; have cO : decide (1 ≤ aF) = true := decide_eq_true c4; clear c4
    by_cases c5 : aF ≤ 1099511627776
    ·rw [if_pos c5] at H; have cN : decide (aF ≤ 1099511627776) = true := decide_eq_true c5; clear c5; obtain rfl := Option.some.inj H
     go_enter Try.func71, Try.ntmps71
     go_wp2_with (first | ((with_reducible refine qd_ (N := 1) rfl ?_); (try (refine qj_ (by rfl) ?_; dsimp only)); refine bE_ 1 #[.int .i64 aG, .int .i64 aF, .string bE] 58 ?_; intro aQ hg w6 hbox hb; have aE := Zq_.mk (hbox); have bA := gW_ (w := w) hg (hB_ HB); have bB := gW_ (w := w) hg (hB_ HB); replace HB := sB_ HB hb; clear hb hbox hg; obtain ⟨hcz7_0, hcz7_1, hcz7_2⟩ := c3_ aE; obtain ⟨hfz7_0, hfz7_1, hfz7_2⟩ := f3_ aE))
     go_ret
     exact ⟨by exact eW_, by exact hSet_ HB⟩
    ·rw [if_neg c5] at H; have cN : decide (aF ≤ 1099511627776) = false := decide_eq_false c5; clear c5; obtain rfl := Option.some.inj H
     go_enter Try.func71, Try.ntmps71
     go_wp2_with (first | ((with_reducible refine qd_ (N := 1) rfl ?_); (try (refine qj_ (by rfl) ?_; dsimp only)); refine bE_ 1 #[.int .i64 aG, .int .i64 aF, .string bE] 58 ?_; intro aQ hg w8 hbox hb; have aE := Zq_.mk (hbox); have bA := gW_ (w := w) hg (hB_ HB); have bB := gW_ (w := w) hg (hB_ HB); replace HB := sB_ HB hb; clear hb hbox hg; obtain ⟨hcz9_0, hcz9_1, hcz9_2⟩ := c3_ aE; obtain ⟨hfz9_0, hfz9_1, hfz9_2⟩ := f3_ aE))
     go_ret
     exact ⟨by exact eW_, by exact hSet_ HB⟩
   ·rw [if_neg c4] at H; have cO : decide (1 ≤ aF) = false := decide_eq_false c4; clear c4; obtain rfl := Option.some.inj H
    go_enter Try.func71, Try.ntmps71
    go_wp2_with (first | ((with_reducible refine qd_ (N := 1) rfl ?_); (try (refine qj_ (by rfl) ?_; dsimp only)); refine bE_ 1 #[.int .i64 aG, .int .i64 aF, .string bE] 58 ?_; intro aQ hg w10 hbox hb; have aE := Zq_.mk (hbox); have bA := gW_ (w := w) hg (hB_ HB); have bB := gW_ (w := w) hg (hB_ HB); replace HB := sB_ HB hb; clear hb hbox hg; obtain ⟨cH, cG, cF⟩ := c3_ aE; obtain ⟨bY, bX, bW⟩ := f3_ aE))
    go_ret
    exact ⟨by exact eW_, by exact hSet_ HB⟩
  ·rw [if_neg c3] at H; have cI : decide (aG < 12) = false := decide_eq_false c3; clear c3; obtain rfl := Option.some.inj H
   go_enter Try.func71, Try.ntmps71
   go_wp2_with (first | ((with_reducible refine qd_ (N := 1) rfl ?_); (try (refine qj_ (by rfl) ?_; dsimp only)); refine bE_ 1 #[.int .i64 aG, .int .i64 aF, .string bE] 58 ?_; intro aQ hg w12 hbox hb; have aE := Zq_.mk (hbox); have bA := gW_ (w := w) hg (hB_ HB); have bB := gW_ (w := w) hg (hB_ HB); replace HB := sB_ HB hb; clear hb hbox hg; obtain ⟨cE, cD, cC⟩ := c3_ aE; obtain ⟨bV, bU, bT⟩ := f3_ aE))
   go_ret
   exact ⟨by exact eW_, by exact hSet_ HB⟩
 ·rw [if_neg c2] at H; have bN : decide (0 ≤ aG) = false := decide_eq_false c2; clear c2; obtain rfl := Option.some.inj H
  go_enter Try.func71, Try.ntmps71
  go_wp2_with (first | ((with_reducible refine qd_ (N := 1) rfl ?_); (try (refine qj_ (by rfl) ?_; dsimp only)); refine bE_ 1 #[.int .i64 aG, .int .i64 aF, .string bE] 58 ?_; intro aQ hg w14 hbox hb; have aE := Zq_.mk (hbox); have bA := gW_ (w := w) hg (hB_ HB); have bB := gW_ (w := w) hg (hB_ HB); replace HB := sB_ HB hb; clear hb hbox hg; obtain ⟨cB, cA, bZ⟩ := c3_ aE; obtain ⟨bS, bR, bQ⟩ := f3_ aE))
  go_ret
  exact ⟨by exact eW_, by exact hSet_ HB⟩
def ref04_Right.l0 : Nat → List (S58) → Int → Option (Bool)
 | 0, _, _ => none
 | k + 1, x0, x3 => if x3 < (x0.length : Int) then (if 0 ≤ x3 then ((ref04_May.f ((rd_T58 x0 x3).f0) ((rd_T58 x0 x3).f1) ((rd_T58 x0 x3).f2)).bind fun bC => (if bC = true then (if x3 > 0 then (if 0 ≤ (wrap64 (x3 - 1)) then (if (wrap64 (x3 - 1)) < (x0.length : Int) then (if ((rd_T58 x0 (wrap64 (x3 - 1))).f0) ≥ ((rd_T58 x0 x3).f0) then (some false) else (ref04_Right.l0 k x0 (wrap64 (x3 + 1)))) else (none)) else (none)) else (ref04_Right.l0 k x0 (wrap64 (x3 + 1)))) else (some false))) else (none)) else (some true)
def ref04_Right.f (k : Nat) (l0 : List (S58)) : Option (Bool) := ref04_Right.l0 k l0 0
theorem ref04_Right.mono_l : ∀ k, (∀ y0 y1, LeO (ref04_Right.l0 k y0 y1) (ref04_Right.l0 (k + 1) y0 y1))
 | 0 => fun _ _ r h => by simp [ref04_Right.l0] at h
 | k + 1 => by
  have ih0 := ref04_Right.mono_l k
  ·intro y0 y1
   unfold ref04_Right.l0
   with_reducible repeat' first | exact ih0 _ _ | exact LeO.refl _ | exact LeO.none _ | refine LeO.ite ?_ ?_ | refine LeO.bind ?_ (fun _ => ?_)
theorem ref04_Right.mono : ∀ a0 k, LeO (ref04_Right.f k a0) (ref04_Right.f (k + 1) a0) := by
 intro a0 k; have ih0 := ref04_Right.mono_l k
 unfold ref04_Right.f
 with_reducible repeat' first | exact ih0 _ _ | exact LeO.refl _ | exact LeO.none _ | refine LeO.ite ?_ ?_ | refine LeO.bind ?_ (fun _ => ?_)
def ref04_Right.T4 : Bool × List (List Nat × List Nat) := (true, [([], []), ([], []), ([0, 1], [0, 1]), ([2], [2]), ([3], [3]), ([4], [4]), ([5, 4], [5]), ([6], [6]), ([7, 6], [6, 7]), ([8, 6, 6], [6, 8]), ([9], [9]), ([9], [9]), ([11, 9], [9, 11]), ([10, 12, 9], [9, 10, 12]), ([13, 9], [9, 13]), ([14, 9], [9, 14]), ([9], [9]), ([9], [9]), ([16, 17, 9], [9, 16, 17]), ([18, 9], [9, 18]), ([19, 9], [9, 19]), ([15, 20, 9], [9, 15, 20]), ([9, 21, 6], [6, 9, 21]), ([6, 22], [6, 22])])
def ref04_Right.B4 : List Nat := [0, 0, 3, 7, 15, 31, 63, 127, 255, 511, 1023, 1023, 3071, 8191, 16383, 32767, 1023, 1023, 197631, 459775, 984063, 2097151, 4194303, 8388607]
theorem ref04_Right.tab4 : rtab .any (opsOf Try.f56 4) = ref04_Right.T4 := by kernel_rfl
theorem ref04_Right.bits4 : waitsOk ref04_Right.T4.2 ref04_Right.B4 = true := by kernel_rfl
theorem ref04_Right.calls (k : Nat) (A0 : Option Addr) (c0 : Nat) (l0 : List (S58)) (r : Bool) (w : World) (hr0 : Kd.C k58 w A0 l0.length l0) (hc0 : l0.length ≤ c0) (h : ref04_Right.f k l0 = some r) :
  Calls Try.prog 56 #[.slice A0 l0.length c0] w fun e w' => e = .returned (.bool r) ∧ Below w.heap.size w w' := by
 have hu58 := Try.underlying58; have HR0 := Zq_.mk hr0; have HC0 := Zq_.mk hc0; clear hr0 hc0; have HB := Zq_.mk (Below.refl w.heap.size w); have H : (ref04_Right.l0 k l0 0) = some r := h; clear h; have H' := Zq_.mk H; clear H
 go_enter Try.func56, Try.ntmps56
 go_wp2
 go_loopg [3] k (fun kq v3 w' => ∃ (aA : Int), v3 = .int .i64 aA ∧ Zq_ (ref04_Right.l0 kq l0 aA = some r) ∧ Zq_ (kq ≤ k) ∧ Zq_ (Below w.heap.size w w'))
 case atStart => exact ⟨(0), eS_, H', ⟨Nat.le_refl _⟩, ⟨hB_ HB⟩⟩
 case round =>
  clear H'; obtain ⟨aA, rfl, HA, HK1, HB⟩ := hrel
  cases gk with
  | zero => exact absurd HA.out (by simp [ref04_Right.l0])
  | succ k1 =>
   have H := HA.out; clear HA; simp only [ref04_Right.l0] at H
   by_cases c2 : aA < (l0.length : Int)
   ·rw [if_pos c2] at H; have bN : decide (aA < (l0.length : Int)) = true := decide_eq_true c2; clear c2
    by_cases c3 : 0 ≤ aA
    ·rw [if_pos c3] at H; have cI : decide (0 ≤ aA) = true := decide_eq_true c3; clear c3; replace H := ob_ H; obtain ⟨bC, A40, H⟩ := H; replace H : (if bC = true then (if aA > 0 then (if 0 ≤ (wrap64 (aA - 1)) then (if (wrap64 (aA - 1)) < (l0.length : Int) then (if ((rd_T58 l0 (wrap64 (aA - 1))).f0) ≥ ((rd_T58 l0 aA).f0) then (some false) else (ref04_Right.l0 k1 l0 (wrap64 (aA + 1)))) else (none)) else (none)) else (ref04_Right.l0 k1 l0 (wrap64 (aA + 1)))) else (some false)) = some r := H; have A4 := Zq_.mk A40; clear A40
     by_cases c5 : bC = true
     ·subst c5
      have H1 : (if aA > 0 then (if 0 ≤ (wrap64 (aA - 1)) then (if (wrap64 (aA - 1)) < (l0.length : Int) then (if ((rd_T58 l0 (wrap64 (aA - 1))).f0) ≥ ((rd_T58 l0 aA).f0) then (some false) else (ref04_Right.l0 k1 l0 (wrap64 (aA + 1)))) else (none)) else (none)) else (ref04_Right.l0 k1 l0 (wrap64 (aA + 1)))) = some r := by rw [if_pos rfl] at H; exact H
      clear H; have H := H1; clear H1
      by_cases c6 : aA > 0
      ·rw [if_pos c6] at H; have c6b0 : decide (0 < aA) = true := decide_eq_true c6; clear c6; obtain ⟨ji7, bM⟩ : ∃ j_ : Int, (wrap64 (aA - 1)) = j_ := ⟨_, rfl⟩
       replace H : (if 0 ≤ (ji7) then (if (ji7) < (l0.length : Int) then (if ((rd_T58 l0 (ji7)).f0) ≥ ((rd_T58 l0 aA).f0) then (some false) else (ref04_Right.l0 k1 l0 (wrap64 (aA + 1)))) else (none)) else (none)) = some r := by first | (rw [bM] at H; exact H) | (simp only [bM] at H ⊢; exact H)
       (try rw [bM] at A4); have hji7w : (IntKind.i64.wrap (aA - 1)) = ji7 := (i64_w _).trans bM
       by_cases c8 : 0 ≤ (ji7)
       ·rw [if_pos c8] at H; have c8b0 : decide (0 ≤ (ji7)) = true := decide_eq_true c8; clear c8
        by_cases c9 : (ji7) < (l0.length : Int)
        ·rw [if_pos c9] at H; have c9b0 : decide ((ji7) < (l0.length : Int)) = true := decide_eq_true c9; clear c9
         by_cases c10 : ((rd_T58 l0 (ji7)).f0) ≥ ((rd_T58 l0 aA).f0)
         ·rw [if_pos c10] at H; have cP : decide (((rd_T58 l0 aA).f0) ≤ ((rd_T58 l0 (ji7)).f0)) = true := decide_eq_true c10; clear c10; obtain rfl := Option.some.inj H; (try go_wp2); replace HB := Zq_.mk (qe_ HB.out); have aS : 0 ≤ (aA : Int) := dA_; have aR : aA < (l0.length : Int) := dA_; obtain ⟨bD, bL, aD, aC, aB⟩ := at_T58 HR0.out aA aS aR; have aH := aB; have aI := aC; have aJ := aD; cases bL; replace aD := hC_ HB aD; replace aC := hC_ HB aC; replace aB := hC_ HB aB; replace aS := eq_true aS; replace aR := eq_true aR; have bK : 0 ≤ ((ji7) : Int) := dA_; have bI : (ji7) < (l0.length : Int) := dA_; obtain ⟨bP, cM, aP, aO, aN⟩ := at_T58 HR0.out (ji7) bK bI; have aX := aN; have aY := aO; have aZ := aP; obtain rfl : bD = bP := (by injection cM); replace aP := hC_ HB aP; replace aO := hC_ HB aO; replace aN := hC_ HB aN; replace bK := eq_true bK; replace bI := eq_true bI; have bJ : 0 ≤ (aA : Int) := dA_; have bH : aA < (l0.length : Int) := dA_; obtain ⟨bO, cL, aM, aL, aK⟩ := at_T58 HR0.out aA bJ bH; have aU := aK; have aV := aL; have aW := aM; obtain rfl : bD = bO := (by injection cL); replace aM := hC_ HB aM; replace aL := hC_ HB aL; replace aK := hC_ HB aK; replace bJ := eq_true bJ; replace bH := eq_true bH; refine gS_ 24 (hA_ (hC_ HB aJ) (hA_ (hC_ HB aI) (hA_ (hC_ HB aH) (hA_ (hC_ HB aZ) (hA_ (hC_ HB aY) (hA_ (hC_ HB aX) (hA_ (hC_ HB aW) (hA_ (hC_ HB aV) (hZ_ (hC_ HB aU)))))))))) (fun hHeld => ?_); refine qh_ ref04_Right.tab4 ref04_Right.bits4 (fun HT_ HW_ => ?_); generalize wr.drew = w11 at HB aD aC aB aP aO aN aM aL aK hHeld ⊢; refine up0_ 0 ?_; (iterate 4 first | refine pN_ ?_ | refine tN_ ?_); refine oN_ 4 14 24 31 HT_ (fun K hK => ?_); refine goes_ Try.func71 (by kernel_rfl) rfl #[.agg #[.int .i64 ((rd_T58 l0 aA).f0), .int .i64 ((rd_T58 l0 aA).f1), .string ((rd_T58 l0 aA).f2)]] (by rfl) rfl rfl aR_ ?_
          with_reducible refine (ref04_May.calls ((rd_T58 l0 aA).f0) ((rd_T58 l0 aA).f1) ((rd_T58 l0 aA).f2) true _ A4.out).mono ?_
          rintro e w12 ⟨rfl, hb⟩; refine ⟨_, rfl, ?_⟩; replace HB := sB_ HB hb; (try clear hb); refine hK.out _ _ ⟨(hC_ HB aJ), (hC_ HB aI), (hC_ HB aH), (hC_ HB aZ), (hC_ HB aY), (hC_ HB aX), (hC_ HB aW), (hC_ HB aV), (hC_ HB aU)⟩ (fun hHeld => ?_); clear hK K; refine norm_ (a' := ?_) ?_ ?_; rotate_left
          ·show Act.put _ (some 14) _ = _
           simp only [Act.put, sa_, sb_, sc_, i64_w, i32_w]; rfl
          refine up0_ 5 ?_; (iterate 10 refine pN_ ?_); refine pQ_ 16 HT_ ?_; refine pQ_ 17 HT_ ?_; refine pQ_ 18 HT_ ?_; refine pQ_ 19 HT_ ?_; refine tL_ 15 HT_ HW_ hHeld ?_; refine up0_ 20 ?_; (iterate 4 first | refine pN_ ?_ | refine tN_ ?_); refine dN_ HT_ ?_; (try go_wp2)
          go_ret
          exact ⟨by first | rfl | (simp [errW_none, errW_some] <;> rfl) | (simp only [← bM]; first | rfl | (simp [errW_none, errW_some] <;> rfl)) | (simp [*, errW_none, errW_some] <;> rfl), hB_ HB⟩
         ·rw [if_neg c10] at H; have cP : decide (((rd_T58 l0 aA).f0) ≤ ((rd_T58 l0 (ji7)).f0)) = false := decide_eq_false c10; clear c10; have H' := Zq_.mk H; clear H; (try go_wp2); replace HB := Zq_.mk (qe_ HB.out); have aS : 0 ≤ (aA : Int) := dA_; have aR : aA < (l0.length : Int) := dA_; obtain ⟨bD, bL, aD, aC, aB⟩ := at_T58 HR0.out aA aS aR; have aH := aB; have aI := aC; have aJ := aD; cases bL; replace aD := hC_ HB aD; replace aC := hC_ HB aC; replace aB := hC_ HB aB; replace aS := eq_true aS; replace aR := eq_true aR; have bK : 0 ≤ ((ji7) : Int) := dA_; have bI : (ji7) < (l0.length : Int) := dA_; obtain ⟨bP, cM, aP, aO, aN⟩ := at_T58 HR0.out (ji7) bK bI; have aX := aN; have aY := aO; have aZ := aP; obtain rfl : bD = bP := (by injection cM); replace aP := hC_ HB aP; replace aO := hC_ HB aO; replace aN := hC_ HB aN; replace bK := eq_true bK; replace bI := eq_true bI; have bJ : 0 ≤ (aA : Int) := dA_; have bH : aA < (l0.length : Int) := dA_; obtain ⟨bO, cL, aM, aL, aK⟩ := at_T58 HR0.out aA bJ bH; have aU := aK; have aV := aL; have aW := aM; obtain rfl : bD = bO := (by injection cL); replace aM := hC_ HB aM; replace aL := hC_ HB aL; replace aK := hC_ HB aK; replace bJ := eq_true bJ; replace bH := eq_true bH; refine gS_ 24 (hA_ (hC_ HB aJ) (hA_ (hC_ HB aI) (hA_ (hC_ HB aH) (hA_ (hC_ HB aZ) (hA_ (hC_ HB aY) (hA_ (hC_ HB aX) (hA_ (hC_ HB aW) (hA_ (hC_ HB aV) (hZ_ (hC_ HB aU)))))))))) (fun hHeld => ?_); refine qh_ ref04_Right.tab4 ref04_Right.bits4 (fun HT_ HW_ => ?_); generalize wr.drew = w13 at HB aD aC aB aP aO aN aM aL aK hHeld ⊢; refine up0_ 0 ?_; (iterate 4 first | refine pN_ ?_ | refine tN_ ?_); refine oN_ 4 14 24 31 HT_ (fun K hK => ?_); refine goes_ Try.func71 (by kernel_rfl) rfl #[.agg #[.int .i64 ((rd_T58 l0 aA).f0), .int .i64 ((rd_T58 l0 aA).f1), .string ((rd_T58 l0 aA).f2)]] (by rfl) rfl rfl aR_ ?_
          with_reducible refine (ref04_May.calls ((rd_T58 l0 aA).f0) ((rd_T58 l0 aA).f1) ((rd_T58 l0 aA).f2) true _ A4.out).mono ?_
          rintro e w14 ⟨rfl, hb⟩; refine ⟨_, rfl, ?_⟩; replace HB := sB_ HB hb; (try clear hb); refine hK.out _ _ ⟨(hC_ HB aJ), (hC_ HB aI), (hC_ HB aH), (hC_ HB aZ), (hC_ HB aY), (hC_ HB aX), (hC_ HB aW), (hC_ HB aV), (hC_ HB aU)⟩ (fun hHeld => ?_); clear hK K; refine norm_ (a' := ?_) ?_ ?_; rotate_left
          ·show Act.put _ (some 14) _ = _
           simp only [Act.put, sa_, sb_, sc_, i64_w, i32_w]; rfl
          refine up0_ 5 ?_; (iterate 10 refine pN_ ?_); refine pQ_ 16 HT_ ?_; refine pQ_ 17 HT_ ?_; refine pQ_ 18 HT_ ?_; refine pQ_ 19 HT_ ?_; refine tL_ 15 HT_ HW_ hHeld ?_; refine up0_ 20 ?_; (iterate 4 first | refine pN_ ?_ | refine tN_ ?_); refine dN_ HT_ ?_; (try go_wp2)
          go_roundg k1
          case measure => have := HK1.out; omega
          case rel => exact ⟨(wrap64 (aA + 1)), eS_, H', ⟨by have := HK1.out; omega⟩, ⟨hB_ HB⟩⟩
        ·rw [if_neg c9] at H; exact absurd H (by simp)
       ·rw [if_neg c8] at H; exact absurd H (by simp)
      ·rw [if_neg c6] at H; have c6b0 : decide (0 < aA) = false := decide_eq_false c6; clear c6; have H' := Zq_.mk H; clear H; (try go_wp2); replace HB := Zq_.mk (qe_ HB.out); have aS : 0 ≤ (aA : Int) := dA_; have aR : aA < (l0.length : Int) := dA_; obtain ⟨bD, bL, aD, aC, aB⟩ := at_T58 HR0.out aA aS aR; have aH := aB; have aI := aC; have aJ := aD; cases bL; replace aD := hC_ HB aD; replace aC := hC_ HB aC; replace aB := hC_ HB aB; replace aS := eq_true aS; replace aR := eq_true aR; refine gS_ 24 (hA_ (hC_ HB aJ) (hA_ (hC_ HB aI) (hZ_ (hC_ HB aH)))) (fun hHeld => ?_); refine qh_ ref04_Right.tab4 ref04_Right.bits4 (fun HT_ HW_ => ?_); generalize wr.drew = w15 at HB aD aC aB hHeld ⊢; refine up0_ 0 ?_; (iterate 4 first | refine pN_ ?_ | refine tN_ ?_); refine oN_ 4 14 24 31 HT_ (fun K hK => ?_); refine goes_ Try.func71 (by kernel_rfl) rfl #[.agg #[.int .i64 ((rd_T58 l0 aA).f0), .int .i64 ((rd_T58 l0 aA).f1), .string ((rd_T58 l0 aA).f2)]] (by rfl) rfl rfl aR_ ?_
       with_reducible refine (ref04_May.calls ((rd_T58 l0 aA).f0) ((rd_T58 l0 aA).f1) ((rd_T58 l0 aA).f2) true _ A4.out).mono ?_
       rintro e w16 ⟨rfl, hb⟩; refine ⟨_, rfl, ?_⟩; replace HB := sB_ HB hb; (try clear hb); refine hK.out _ _ ⟨(hC_ HB aJ), (hC_ HB aI), (hC_ HB aH)⟩ (fun hHeld => ?_); clear hK K; refine norm_ (a' := ?_) ?_ ?_; rotate_left
       ·show Act.put _ (some 14) _ = _
        simp only [Act.put, sa_, sb_, sc_, i64_w, i32_w]; rfl
       refine up0_ 5 ?_; (iterate 19 first | refine vN_ ?_ | refine pN_ ?_); refine dN_ HT_ ?_; (try go_wp2)
       go_roundg k1
       case measure => have := HK1.out; omega
       case rel => exact ⟨(wrap64 (aA + 1)), eS_, H', ⟨by have := HK1.out; omega⟩, ⟨hB_ HB⟩⟩
     ·replace c5 := Bool.eq_false_iff.mpr c5; subst c5
      have H1 : (some false) = some r := by rw [if_neg (show ¬ (false = true) by decide)] at H; exact H
      clear H; have H := H1; clear H1; obtain rfl := Option.some.inj H; (try go_wp2); replace HB := Zq_.mk (qe_ HB.out); have aS : 0 ≤ (aA : Int) := dA_; have aR : aA < (l0.length : Int) := dA_; obtain ⟨bD, bL, aD, aC, aB⟩ := at_T58 HR0.out aA aS aR; have aH := aB; have aI := aC; have aJ := aD; cases bL; replace aD := hC_ HB aD; replace aC := hC_ HB aC; replace aB := hC_ HB aB; replace aS := eq_true aS; replace aR := eq_true aR; refine gS_ 24 (hA_ (hC_ HB aJ) (hA_ (hC_ HB aI) (hZ_ (hC_ HB aH)))) (fun hHeld => ?_); refine qh_ ref04_Right.tab4 ref04_Right.bits4 (fun HT_ HW_ => ?_); generalize wr.drew = w17 at HB aD aC aB hHeld ⊢; refine up0_ 0 ?_; (iterate 4 first | refine pN_ ?_ | refine tN_ ?_); refine oN_ 4 14 24 31 HT_ (fun K hK => ?_); refine goes_ Try.func71 (by kernel_rfl) rfl #[.agg #[.int .i64 ((rd_T58 l0 aA).f0), .int .i64 ((rd_T58 l0 aA).f1), .string ((rd_T58 l0 aA).f2)]] (by rfl) rfl rfl aR_ ?_
      with_reducible refine (ref04_May.calls ((rd_T58 l0 aA).f0) ((rd_T58 l0 aA).f1) ((rd_T58 l0 aA).f2) false _ A4.out).mono ?_
      rintro e w18 ⟨rfl, hb⟩; refine ⟨_, rfl, ?_⟩; replace HB := sB_ HB hb; (try clear hb); refine hK.out _ _ ⟨(hC_ HB aJ), (hC_ HB aI), (hC_ HB aH)⟩ (fun hHeld => ?_); clear hK K; refine norm_ (a' := ?_) ?_ ?_; rotate_left
      ·show Act.put _ (some 14) _ = _
       simp only [Act.put, sa_, sb_, sc_, i64_w, i32_w]; rfl
      refine up0_ 5 ?_; (iterate 19 first | refine vN_ ?_ | refine pN_ ?_); refine dN_ HT_ ?_; (try go_wp2)
      go_ret
      exact ⟨by exact eW_, hB_ HB⟩
    ·rw [if_neg c3] at H; exact absurd H (by simp)
   ·rw [if_neg c2] at H; have bN : decide (aA < (l0.length : Int)) = false := decide_eq_false c2; clear c2; obtain rfl := Option.some.inj H
    go_wp2
    go_ret
    exact ⟨by exact eW_, hB_ HB⟩
def ref05_Right.f (k : Nat) (aG : Int) (aF : Int) (aT : List (S58)) : Option (Bool) := if aG ≥ 1 then (if aG ≤ 1099511627776 then (if aF ≥ 0 then (if aF ≤ 1099511627776 then ((ref04_Right.f k aT).bind fun bC => (some bC)) else (some false)) else (some false)) else (some false)) else (some false)
theorem ref05_Right.mono : ∀ a0 a1 a2 k, LeO (ref05_Right.f k a0 a1 a2) (ref05_Right.f (k + 1) a0 a1 a2) := by
 intro a0 a1 a2 k
 unfold ref05_Right.f
 with_reducible repeat' first | exact ref04_Right.mono _ _ | exact LeO.refl _ | exact LeO.none _ | refine LeO.ite ?_ ?_ | refine LeO.bind ?_ (fun _ => ?_)
theorem ref05_Right.calls (k : Nat) (aG : Int) (aF : Int) (bG : Option Addr) (bF : Nat) (aT : List (S58)) (r : Bool) (w : World) (cJ : Kd.C k58 w bG aT.length aT) (cK : aT.length ≤ bF) (h : ref05_Right.f k aG aF aT = some r) :
  Calls Try.prog 35 #[.agg #[.int .i64 aG, .int .i64 aF, .slice bG aT.length bF]] w fun e w' => e = .returned (.bool r) ∧ Below w.heap.size w w' := by
 have hu35 := Try.underlying35; have cQ := Zq_.mk cJ; have cR := Zq_.mk cK; clear cJ cK; have HB := Zq_.mk (Below.refl w.heap.size w); have H : (if aG ≥ 1 then (if aG ≤ 1099511627776 then (if aF ≥ 0 then (if aF ≤ 1099511627776 then ((ref04_Right.f k aT).bind fun bC => (some bC)) else (some false)) else (some false)) else (some false)) else (some false)) = some r := h; clear h
 by_cases c2 : aG ≥ 1
 ·rw [if_pos c2] at H; have bN : decide (1 ≤ aG) = true := decide_eq_true c2; clear c2
  by_cases c3 : aG ≤ 1099511627776
  ·rw [if_pos c3] at H; have cI : decide (aG ≤ 1099511627776) = true := decide_eq_true c3; clear c3
   by_cases c4 : aF ≥ 0
   ·rw [if_pos c4] at H; have cO : decide (0 ≤ aF) = true := decide_eq_true c4; clear c4
    by_cases c5 : aF ≤ 1099511627776
    ·rw [if_pos c5] at H; have cN : decide (aF ≤ 1099511627776) = true := decide_eq_true c5; clear c5; replace H := ob_ H; obtain ⟨bC, A60, H⟩ := H; replace H : (some bC) = some r := H; have A6 := Zq_.mk A60; clear A60; obtain rfl := Option.some.inj H
     go_enter Try.func35, Try.ntmps35
     go_wp2_with (first | ((with_reducible refine qd_ (N := 1) rfl ?_); refine bE_ 1 #[.int .i64 aG, .int .i64 aF, .slice bG aT.length bF] 35 ?_; intro aQ hg w7 hbox hb; have aE := Zq_.mk (hbox); have bA := gW_ (w := w) hg (hB_ HB); have bB := gW_ (w := w) hg (hB_ HB); replace HB := sB_ HB hb; clear hb hbox hg; obtain ⟨hcz8_0, hcz8_1, hcz8_2⟩ := c3_ aE; obtain ⟨hfz8_0, hfz8_1, hfz8_2⟩ := f3_ aE) | (go_at_call 56; (with_reducible refine (ref04_Right.calls k _ _ aT bC _ ?side1 ?side2 A6.out).mono ?_); (case side1 => exact cX_ (Kd.qg_ cQ.out HB.out)); (case side2 => exact cR.out); rintro e w9 ⟨rfl, hb⟩; replace aE := Zq_.mk (qc_ (g := aQ) (o := .cells #[.int .i64 aG, .int .i64 aF, .slice bG aT.length bF] 35 (0, 0)) (by exact bK_ aE) hb); replace HB := sB_ HB hb; (try clear hb)))
     go_ret
     exact ⟨by exact eW_, by exact hSet_ HB⟩
    ·rw [if_neg c5] at H; have cN : decide (aF ≤ 1099511627776) = false := decide_eq_false c5; clear c5; obtain rfl := Option.some.inj H
     go_enter Try.func35, Try.ntmps35
     go_wp2_with (first | ((with_reducible refine qd_ (N := 1) rfl ?_); refine bE_ 1 #[.int .i64 aG, .int .i64 aF, .slice bG aT.length bF] 35 ?_; intro aQ hg w10 hbox hb; have aE := Zq_.mk (hbox); have bA := gW_ (w := w) hg (hB_ HB); have bB := gW_ (w := w) hg (hB_ HB); replace HB := sB_ HB hb; clear hb hbox hg; obtain ⟨cH, cG, cF⟩ := c3_ aE; obtain ⟨bY, bX, bW⟩ := f3_ aE))
     go_ret
     exact ⟨by exact eW_, by exact hSet_ HB⟩
   ·rw [if_neg c4] at H; have cO : decide (0 ≤ aF) = false := decide_eq_false c4; clear c4; obtain rfl := Option.some.inj H
    go_enter Try.func35, Try.ntmps35
    go_wp2_with (first | ((with_reducible refine qd_ (N := 1) rfl ?_); refine bE_ 1 #[.int .i64 aG, .int .i64 aF, .slice bG aT.length bF] 35 ?_; intro aQ hg w12 hbox hb; have aE := Zq_.mk (hbox); have bA := gW_ (w := w) hg (hB_ HB); have bB := gW_ (w := w) hg (hB_ HB); replace HB := sB_ HB hb; clear hb hbox hg; obtain ⟨cE, cD, cC⟩ := c3_ aE; obtain ⟨bV, bU, bT⟩ := f3_ aE))
    go_ret
    exact ⟨by exact eW_, by exact hSet_ HB⟩
  ·rw [if_neg c3] at H; have cI : decide (aG ≤ 1099511627776) = false := decide_eq_false c3; clear c3; obtain rfl := Option.some.inj H
   go_enter Try.func35, Try.ntmps35
   go_wp2_with (first | ((with_reducible refine qd_ (N := 1) rfl ?_); refine bE_ 1 #[.int .i64 aG, .int .i64 aF, .slice bG aT.length bF] 35 ?_; intro aQ hg w14 hbox hb; have aE := Zq_.mk (hbox); have bA := gW_ (w := w) hg (hB_ HB); have bB := gW_ (w := w) hg (hB_ HB); replace HB := sB_ HB hb; clear hb hbox hg; obtain ⟨cB, cA, bZ⟩ := c3_ aE; obtain ⟨bS, bR, bQ⟩ := f3_ aE))
   go_ret
   exact ⟨by exact eW_, by exact hSet_ HB⟩
 ·rw [if_neg c2] at H; have bN : decide (1 ≤ aG) = false := decide_eq_false c2; clear c2; obtain rfl := Option.some.inj H
  go_enter Try.func35, Try.ntmps35
  go_wp2_with (first | ((with_reducible refine qd_ (N := 1) rfl ?_); refine bE_ 1 #[.int .i64 aG, .int .i64 aF, .slice bG aT.length bF] 35 ?_; intro aQ hg w16 hbox hb; have aE := Zq_.mk (hbox); have bA := gW_ (w := w) hg (hB_ HB); have bB := gW_ (w := w) hg (hB_ HB); replace HB := sB_ HB hb; clear hb hbox hg; obtain ⟨hcz17_0, hcz17_1, hcz17_2⟩ := c3_ aE; obtain ⟨hfz17_0, hfz17_1, hfz17_2⟩ := f3_ aE))
  go_ret
  exact ⟨by exact eW_, by exact hSet_ HB⟩
def ref05_Copy.f (aE : Int) (aG : Int) (aD : List (S58)) : Option (Int × Int × (List (S58))) := (some (([] : List (S58)) : List (S58))).bind fun bD => (if bD.length + aD.length < 4398046511104 then (some (aE, aG, (bD ++ aD))) else (none))
theorem ref05_Copy.calls (aE : Int) (aG : Int) (bN : Option Addr) (bM : Nat) (aD : List (S58)) (r1 : Int) (r2 : Int) (r3 : List (S58)) (w : World) (cC : Kd.C k58 w bN aD.length aD) (cD : aD.length ≤ bM) (h : ref05_Copy.f aE aG aD = some (r1, r2, r3)) :
  Calls Try.prog 41 #[.agg #[.int .i64 aE, .int .i64 aG, .slice bN aD.length bM]] w fun e w' => ∃ v2_ : Value, e = .returned (.agg #[.int .i64 r1, .int .i64 r2, v2_]) ∧ Kd.R k58 58 w' w.heap.size (fun _ => True) v2_ r3 ∧ Below w.heap.size w w' := by
 have hu35 := Try.underlying35; have cS := Zq_.mk cC; have HC0_2 := Zq_.mk cD; clear cC cD; have HB := Zq_.mk (Below.refl w.heap.size w); have H : ((some (([] : List (S58)) : List (S58))).bind fun bD => (if bD.length + aD.length < 4398046511104 then (some (aE, aG, (bD ++ aD))) else (none))) = some (r1, r2, r3) := h; clear h; obtain ⟨bD, bK⟩ : ∃ y_ : List (S58), y_ = (([] : List (S58))) := ⟨_, rfl⟩
 replace H : (if bD.length + aD.length < 4398046511104 then (some (aE, aG, (bD ++ aD))) else (none)) = some (r1, r2, r3) := by first | (rw [bK]; with_reducible exact H) | (have H2_ := (Option.bind_some _ _).symm.trans H; rw [bK]; with_reducible exact H2_) | (have H2_ := (Option.bind_some _ _).symm.trans H; with_reducible exact H2_) | with_reducible exact H | (rw [bK]; exact H) | exact H
 have cE := Zq_.mk bK; clear bK
 by_cases c2 : bD.length + aD.length < 4398046511104
 ·rw [if_pos c2] at H; have LMc2 := Zq_.mk c2; clear c2; obtain ⟨cN, bJ⟩ : ∃ y_ : List (S58), y_ = (bD ++ aD) := ⟨_, rfl⟩
  replace H : (some (aE, aG, cN)) = some (r1, r2, r3) := by first | (rw [bJ]; with_reducible exact H) | (have H2_ := (Option.bind_some _ _).symm.trans H; rw [bJ]; with_reducible exact H2_) | (have H2_ := (Option.bind_some _ _).symm.trans H; with_reducible exact H2_) | with_reducible exact H | (rw [bJ]; exact H) | exact H
  have cR := Zq_.mk bJ; clear bJ; simp only [Option.some.injEq, Prod.mk.injEq] at H; obtain ⟨rfl, rfl, rfl⟩ := H
  go_enter Try.func41, Try.ntmps41
  go_wp2_with (first | ((with_reducible refine qd_ (N := 1) rfl ?_); refine bE_ 1 #[.int .i64 aE, .int .i64 aG, .slice bN aD.length bM] 35 ?_; intro bE hg w3 hbox hb; have aC := Zq_.mk (hbox); have GW101 := gW_ (w := w) hg (hB_ HB); have GE101 := gW_ (w := w) hg (hB_ HB); replace HB := sB_ HB hb; clear hb hbox hg) | ((with_reducible refine qd_ (N := 2) rfl ?_); refine bE_ 2 #[.int .i64 0, .int .i64 0, .slice none 0 0] 35 ?_; intro bL hg w4 hbox hb; have aW := Zq_.mk (hbox); have GW102 := gW_ (w := w) hg (by exact hSet_ HB); have GE102 := gW_ (w := w) hg (by exact hSet_ HB); replace HB := sB_ HB hb; have bY := Zq_.mk ((by rw [hg]; exact Nat.ne_of_lt (blk_lt (g := bE) (o := .cells #[.int .i64 aE, .int .i64 aG, .slice bN aD.length bM] 35 (0, 0)) (by exact bK_ aC)) : bE ≠ bL)); have bG := Zq_.mk ((by rw [hg]; exact Nat.ne_of_gt (blk_lt (g := bE) (o := .cells #[.int .i64 aE, .int .i64 aG, .slice bN aD.length bM] 35 (0, 0)) (by exact bK_ aC)) : bL ≠ bE)); replace aC := Zq_.mk (qc_ (g := bE) (o := .cells #[.int .i64 aE, .int .i64 aG, .slice bN aD.length bM] 35 (0, 0)) (by exact bK_ aC) hb); clear hb hbox hg) | ((with_reducible refine qd_ (N := 3) rfl ?_); refine Kd.R_lit k58 _ 58 ?hg (N := 3) ?hd (xs := ([] : List (S58))) (inner := []) (ok := fun _ => True) (okp := fun _ => True) ?hr ?hp (fun _ hk => hk) trivial (Below.refl _ _) (Nat.le_refl _) (by simp) ?_; (case hd => rfl); (case hg => rfl); (case hr => first | (go_simp; done) | (go_simp; rfl)); (case hp => exact (Reps.none _ _)); intro v104 w5 ho6 hb hg_ hnew_; clear hg_ hnew_; (first | rw [← cE.out] at ho6 | (simp only [Int.reduceToNat] at ho6; rw [← cE.out] at ho6)); have bV := Zq_.mk (Kd.vd_ ho6 (qa_ (by exact hSet_ HB))); replace aC := Zq_.mk (qc_ (g := bE) (o := .cells #[.int .i64 aE, .int .i64 aG, .slice bN aD.length bM] 35 (0, 0)) (by exact bK_ aC) hb); replace aW := Zq_.mk (qc_ (g := bL) (o := .cells #[.int .i64 0, .int .i64 0, .slice none 0 0] 35 (0, 0)) (by exact bK_ aW) hb); replace HB := sB_ HB hb; clear hb ho6; have hnb7 := bY.out; have hnc7 := bG.out; obtain ⟨hcz8_0, hcz8_1, hcz8_2⟩ := c3_ aC; obtain ⟨hfz8_0, hfz8_1, hfz8_2⟩ := f3_ aC) | ((with_reducible refine qw_ (b := .append) (xs := #[.tmp 3, .tmp 5]) rfl ?_); at_builtin; refine Kd.R_append_rows k58 (w0 := w) w.heap.size rfl (.tmp 3) (.tmp 5) 33 58 (.agg #[(.int .i64 0), (.int .i64 0), (.string ⟨#[]⟩)]) 32 rfl Try.underlying33 info58 rfl (by decide) (by omega) v104 bD aD _ _ _ (fun _ => True) (fun _ => False) rfl rfl ?aO ?aR (fun _ _ h => h) (fun _ h => h.elim) ?aF ?aB ?aS ?aL ?_; (case aR => exact cX_ (Kd.qg_ cS.out HB.out)); (case aB => exact (by exact hSet_ HB)); (case aF => exact (fun _ _ => trivial)); (case aO => exact (vX_ bV)); (case aS => exact (qa_ (by exact hSet_ HB))); (case aL => have := LMc2.out; omega); intro v107 w9 ho hb hg hat; rw [← cR.out] at ho; replace aC := Zq_.mk (qz_ (g := bE) (o := .cells #[.int .i64 aE, .int .i64 aG, .slice bN aD.length bM] 35 (0, 0)) (by exact bK_ aC) hg (Kd.R_ne bV.out aC.out (by decide))); replace aW := Zq_.mk (qz_ (g := bL) (o := .cells #[.int .i64 0, .int .i64 0, .slice none 0 0] 35 (0, 0)) (by exact bK_ aW) hg (Kd.R_ne bV.out aW.out (by decide))); replace HB := Zq_.mk (hb); have cF := Zq_.mk (ho); clear bV; clear ho hb hg hat; obtain ⟨Ao10, co10, eo10⟩ := Kd.vh_ cF.out; subst eo10; obtain ⟨hcz11_0, hcz11_1, hcz11_2⟩ := c3_ aC; obtain ⟨hfz11_0, hfz11_1, hfz11_2⟩ := f3_ aC; obtain ⟨hcz12_0, hcz12_1, hcz12_2⟩ := c3_ aW; obtain ⟨hfz12_0, hfz12_1, hfz12_2⟩ := f3_ aW))
  refine bodyPost_ret (results_cell_row rfl _ _ bL 35 #[.int .i64 aE, .int .i64 aG, .slice Ao10 cN.length co10] (0, 0) _ rfl (by refine bP_ (cs := #[.int .i64 aE, .int .i64 aG, .slice none 0 0]) 2 ?_; refine bP_ (cs := #[.int .i64 aE, .int .i64 0, .slice none 0 0]) 1 ?_; refine bP_ (cs := #[.int .i64 0, .int .i64 0, .slice none 0 0]) 0 ?_; refine bF_ bG ?_; exact bK_ aW) Try.underlying35 rfl (by kernel_rfl)) rfl ?_; exact ⟨_, by exact eW_, by (with_reducible repeat (first | apply Kd.qq_ | apply Kd.qp_ | apply Kd.R_drew)); exact Kd.R_mono (Kd.R_far (Kd.R_far (Kd.R_far (Kd.R_far (Kd.ve_ (Kd.ve_ cF.out aC.out (by decide)) aW.out (by decide)) (fun _ hk => hk.1.2) _) (fun _ hk => hk.2) _) (fun _ hk => hk.2) _) (fun _ hk => hk.2) _) (fun _ hk => trivial), by exact hSet_ HB⟩
 ·rw [if_neg c2] at H; exact absurd H (by simp)
def ref06_Copy.l0 : Nat → List (S39) → List (S39) → Int → Option ((List (S39)))
 | 0, _, _, _ => none
 | k + 1, x0, x3, x4 => if x4 < (x0.length : Int) then (if 0 ≤ x4 then ((ref05_Copy.f ((rd_T39 x0 x4).f1.f0) ((rd_T39 x0 x4).f1.f1) ((rd_T39 x0 x4).f1.f2)).bind fun bZ => (if x3.length < 2932031007402 then (ref06_Copy.l0 k x0 (x3 ++ [(⟨(rd_T39 x0 x4).f0, (⟨bZ.1, bZ.2.1, bZ.2.2⟩ : S35)⟩ : S39)]) (wrap64 (x4 + 1))) else (none))) else (none)) else (some x3)
def ref06_Copy.f (k : Nat) (l0 : List (S39)) : Option ((List (S39))) := ref06_Copy.l0 k l0 ([] : List (S39)) 0
theorem ref06_Copy.mono_l : ∀ k, (∀ y0 y1 y2, LeO (ref06_Copy.l0 k y0 y1 y2) (ref06_Copy.l0 (k + 1) y0 y1 y2))
 | 0 => fun _ _ _ r h => by simp [ref06_Copy.l0] at h
 | k + 1 => by
  have ih0 := ref06_Copy.mono_l k
  ·intro y0 y1 y2
   unfold ref06_Copy.l0
   with_reducible repeat' first | exact ih0 _ _ _ | exact LeO.refl _ | exact LeO.none _ | refine LeO.ite ?_ ?_ | refine LeO.bind ?_ (fun _ => ?_)
theorem ref06_Copy.mono : ∀ a0 k, LeO (ref06_Copy.f k a0) (ref06_Copy.f (k + 1) a0) := by
 intro a0 k; have ih0 := ref06_Copy.mono_l k
 unfold ref06_Copy.f
 with_reducible repeat' first | exact ih0 _ _ _ | exact LeO.refl _ | exact LeO.none _ | refine LeO.ite ?_ ?_ | refine LeO.bind ?_ (fun _ => ?_)
def ref06_Copy.T5 : Bool × List (List Nat × List Nat) := (true, [([], []), ([], []), ([], []), ([1, 2], [1, 2]), ([3], [3]), ([4], [4]), ([], []), ([], []), ([6, 7], [6, 7]), ([8], [8]), ([9], [9]), ([10], [10]), ([5, 11], [5, 11]), ([12], [12]), ([0, 13, 11], [0, 13]), ([14, 14, 0, 1, 2, 3, 4, 5, 6, 7, 8, 9, 10, 11, 12, 13, 14], [0, 14])])
def ref06_Copy.B5 : List Nat := [0, 0, 0, 6, 14, 30, 0, 0, 192, 448, 960, 1984, 4094, 8190, 16383, 32767]
theorem ref06_Copy.tab5 : rtab .any (opsOf Try.f27 5) = ref06_Copy.T5 := by kernel_rfl
theorem ref06_Copy.bits5 : waitsOk ref06_Copy.T5.2 ref06_Copy.B5 = true := by kernel_rfl
theorem ref06_Copy.calls (k : Nat) (A0 : Option Addr) (c0 : Nat) (l0 : List (S39)) (r : List (S39)) (w : World) (hr0 : Kd.C k39 w A0 l0.length l0) (hc0 : l0.length ≤ c0) (h : ref06_Copy.f k l0 = some r) :
  Calls Try.prog 27 #[.slice A0 l0.length c0] w fun e w' => ∃ v0_ : Value, e = .returned (v0_) ∧ Kd.S k39 39 w' w.heap.size (fun _ => True) v0_ r ∧ Below w.heap.size w w' := by
 have hu35 := Try.underlying35; have hu39 := Try.underlying39; have HR0 := Zq_.mk hr0; have HC0 := Zq_.mk hc0; clear hr0 hc0; have HB := Zq_.mk (Below.refl w.heap.size w); have H : (ref06_Copy.l0 k l0 ([] : List (S39)) 0) = some r := h; clear h; have H' := Zq_.mk H; clear H
 go_enter Try.func27, Try.ntmps27
 go_wp2
 go_loopg [3, 4] k (fun kq v3 v4 w' => ∃ (bH : List (S39)) (aA : Int), v4 = .int .i64 aA ∧ Zq_ (ref06_Copy.l0 kq l0 bH aA = some r) ∧ Zq_ (kq ≤ k) ∧ Zq_ (Kd.S k39 39 w' w.heap.size (fun _ => True) v3 bH) ∧ Zq_ (Below w.heap.size w w'))
 case atStart => exact ⟨(([] : List (S39))), (0), eS_, H', ⟨Nat.le_refl _⟩, ⟨by first | exact Kd.S_nil _ _ _ _ _ | exact Kd.N_nil _ _ _ _ _ | exact Kd.V_nil _ _ _ _ _ | exact Kd.Q_nil _ _ _ _ _ | exact Kd.R_nil _ _ _ _ _⟩, ⟨hB_ HB⟩⟩
 case round =>
  clear H'; obtain ⟨bH, aA, rfl, HA, HK1, bF, HB⟩ := hrel
  cases gk with
  | zero => exact absurd HA.out (by simp [ref06_Copy.l0])
  | succ k1 =>
   have H := HA.out; clear HA; simp only [ref06_Copy.l0] at H
   by_cases c2 : aA < (l0.length : Int)
   ·rw [if_pos c2] at H; have c2b0 : decide (aA < (l0.length : Int)) = true := decide_eq_true c2; clear c2
    by_cases c3 : 0 ≤ aA
    ·rw [if_pos c3] at H; have c3b0 : decide (0 ≤ aA) = true := decide_eq_true c3; clear c3; replace H := ob_ H; obtain ⟨⟨bX, bW, bO⟩, A40, H⟩ := H; replace H : (if bH.length < 2932031007402 then (ref06_Copy.l0 k1 l0 (bH ++ [(⟨(rd_T39 l0 aA).f0, (⟨bX, bW, bO⟩ : S35)⟩ : S39)]) (wrap64 (aA + 1))) else (none)) = some r := H; have A4 := Zq_.mk A40; clear A40
     by_cases c5 : bH.length < 2932031007402
     ·rw [if_pos c5] at H; have LMc5 := Zq_.mk c5; clear c5; obtain ⟨cM, bI⟩ : ∃ y_ : List (S39), y_ = (bH ++ [(⟨(rd_T39 l0 aA).f0, (⟨bX, bW, bO⟩ : S35)⟩ : S39)]) := ⟨_, rfl⟩
      replace H : (ref06_Copy.l0 k1 l0 cM (wrap64 (aA + 1))) = some r := by first | (rw [bI]; with_reducible exact H) | (have H2_ := (Option.bind_some _ _).symm.trans H; rw [bI]; with_reducible exact H2_) | (have H2_ := (Option.bind_some _ _).symm.trans H; with_reducible exact H2_) | with_reducible exact H | (rw [bI]; exact H) | exact H
      have cQ := Zq_.mk bI; clear bI; have H' := Zq_.mk H; clear H; (try go_wp2); replace bF := Zq_.mk (Kd.S_drew bF.out); replace HB := Zq_.mk (qe_ HB.out); have cJ : 0 ≤ (aA : Int) := dA_; have cH : aA < (l0.length : Int) := dA_; obtain ⟨cP, cL, cK, e101, bC, bB, bA, aI, bQ, bS⟩ := at_T39 HR0.out aA cJ cH; have aQ := aI; have aT := bA; have aU := bB; have aV := bC; cases e101; replace bC := hC_ HB bC; replace bB := hC_ HB bB; replace bA := hC_ HB bA; replace aI := hC_ HB aI; have cA := Zq_.mk bS; have HC101_3 := Zq_.mk bQ; clear bS bQ; replace cJ := eq_true cJ; replace cH := eq_true cH; have cI : 0 ≤ (aA : Int) := dA_; have cG : aA < (l0.length : Int) := dA_; obtain ⟨cO, A102_3, c102_3, e102, aZ, aY, aX, aH, bP, bR⟩ := at_T39 HR0.out aA cI cG; have aJ := aH; have aK := aX; have aM := aY; have aN := aZ; obtain rfl : cP = cO := (by injection e102); replace aZ := hC_ HB aZ; replace aY := hC_ HB aY; replace aX := hC_ HB aX; replace aH := hC_ HB aH; have bT := Zq_.mk bR; have cB := Zq_.mk bP; clear bR bP; replace cI := eq_true cI; replace cG := eq_true cG; have ea_ := Option.some.inj (aI.symm.trans aH)
      injection ea_ with ea_ en_ ec_
      subst ea_; subst ec_; clear en_; refine gS_ 16 (hA_ (hC_ HB aV) (hA_ (hC_ HB aU) (hA_ (hC_ HB aT) (hA_ (hC_ HB aQ) (hA_ (hC_ HB aN) (hA_ (hC_ HB aM) (hA_ (hC_ HB aK) (hZ_ (hC_ HB aJ))))))))) (fun hHeld => ?_); refine qh_ ref06_Copy.tab5 ref06_Copy.bits5 (fun HT_ HW_ => ?_); generalize wr.drew = w6 at bF HB cA bT bC bB bA aI aZ aY aX aH hHeld ⊢; refine up0_ 0 ?_; (iterate 5 refine pN_ ?_); refine pQ_ 6 HT_ ?_; refine pQ_ 7 HT_ ?_; refine pQ_ 8 HT_ ?_; refine pQ_ 9 HT_ ?_; refine tL_ 5 HT_ HW_ hHeld ?_; refine tL_ 10 HT_ HW_ hHeld ?_; refine oN_ 11 22 16 4095 HT_ (fun K hK => ?_); refine goes_ Try.func41 (by kernel_rfl) rfl #[.agg #[.int .i64 ((rd_T39 l0 aA).f1.f0), .int .i64 ((rd_T39 l0 aA).f1.f1), .slice cL ((rd_T39 l0 aA).f1.f2).length cK]] (by rfl) rfl rfl aR_ ?_
      with_reducible refine (ref05_Copy.calls ((rd_T39 l0 aA).f1.f0) ((rd_T39 l0 aA).f1.f1) _ _ ((rd_T39 l0 aA).f1.f2) bX bW bO _ ?side1 ?side2 A4.out).mono ?_
      (case side1 => exact cX_ (Kd.qg_ bT.out HB.out)); (case side2 => exact cB.out); rintro e w7 ⟨v106, rfl, ho0, hb⟩; refine ⟨_, rfl, ?_⟩; replace bF := Zq_.mk (Kd.S_elder' (vX_ bF) (Kd.R_base ho0) hb); have bU := Zq_.mk (Kd.vd_ ho0 (qa_ (hB_ HB))); replace HB := sB_ HB hb; (try clear hb); (try clear ho0); obtain ⟨Ao8, co8, eo8⟩ := Kd.vh_ bU.out; (first | subst eo8 | (injection eo8 with f1_ f2_ f3_; have f4_ := f1_.symm; have f5_ := f3_.symm; clear f1_ f2_ f3_; subst f4_; subst f5_)); refine hK.out _ _ ⟨(hC_ HB aV), (hC_ HB aU), (hC_ HB aT), (hC_ HB aQ), (hC_ HB aN), (hC_ HB aM), (hC_ HB aK), (hC_ HB aJ)⟩ (fun hHeld => ?_); clear hK K; refine norm_ (a' := ?_) ?_ ?_; rotate_left
      ·show Act.put _ (some 22) _ = _
       simp only [Act.put, sa_, sb_, sc_, i64_w, i32_w]; rfl
      refine pQ_ 12 HT_ ?_; refine oN_ 13 24 16 16383 HT_ (fun K hK => ?_); refine value_ (w1 := ?_) (v := ?_) (by rfl) rfl ?_ ?_; rotate_left 2
      ·go_simp
       constructor
       ·rfl
       ·rfl
      refine hK.out _ _ ⟨(World.cell?_alloc_lt _ _ _ (wb_ _ _ ((hC_ HB aV)))).trans ((hC_ HB aV)), (World.cell?_alloc_lt _ _ _ (wb_ _ _ ((hC_ HB aU)))).trans ((hC_ HB aU)), (World.cell?_alloc_lt _ _ _ (wb_ _ _ ((hC_ HB aT)))).trans ((hC_ HB aT)), (World.cell?_alloc_lt _ _ _ (wb_ _ _ ((hC_ HB aQ)))).trans ((hC_ HB aQ)), (World.cell?_alloc_lt _ _ _ (wb_ _ _ ((hC_ HB aN)))).trans ((hC_ HB aN)), (World.cell?_alloc_lt _ _ _ (wb_ _ _ ((hC_ HB aM)))).trans ((hC_ HB aM)), (World.cell?_alloc_lt _ _ _ (wb_ _ _ ((hC_ HB aK)))).trans ((hC_ HB aK)), (World.cell?_alloc_lt _ _ _ (wb_ _ _ ((hC_ HB aJ)))).trans ((hC_ HB aJ))⟩ (fun hHeld => ?_); clear hK K; refine norm_ (a' := ?_) ?_ ?_; rotate_left
      ·show Act.put _ (some 24) _ = _
       simp only [Act.put, sa_, sb_, sc_, i64_w, i32_w]; rfl
      refine oN_ 14 25 16 32767 HT_ (fun K hK => ?_); refine Kd.S_append_step k39 (w0 := w) w.heap.size (by rfl) (.tmp 11) (.tmp 24) 22 39 (.agg #[(.int .i64 0), (.int .i64 0), (.int .i64 0), (.slice none 0 0)]) 48 rfl Try.underlying22 info39 rfl (by decide) (by omega) u3 bH (⟨(rd_T39 l0 aA).f0, (⟨bX, bW, bO⟩ : S35)⟩ : S39) [.int .i64 ((rd_T39 l0 aA).f0), .int .i64 bX, .int .i64 bW, .slice Ao8 bO.length co8] (fun _ => True) (fun k_ => some k_ = (.slice Ao8 bO.length co8 : Value).ownBlock) rfl rfl ?aP (fun k_ hk_ => ((Kd.R_mono (ok' := fun k_ => ((fun _ => True)) k_ ∧ some k_ ≠ (u3 : Value).ownBlock) (Kd.R_apart' (bU.out) (Kd.S_typed bF.out) (by decide)) (fun k_ hk => ⟨trivial, hk.2⟩))).1 k_ hk_.symm) ?aF ?aO ?aB ?aS ?aL ?_; (case aP => exact k39_mkM _ _ _ (⟨(rd_T39 l0 aA).f0, (⟨bX, bW, bO⟩ : S35)⟩ : S39) (Kd.R_mono (Kd.R_tight rfl (Kd.R_mono (ok' := fun k_ => ((fun _ => True)) k_ ∧ some k_ ≠ (u3 : Value).ownBlock) (Kd.R_apart' (bU.out) (Kd.S_typed bF.out) (by decide)) (fun k_ hk => ⟨trivial, hk.2⟩))) (fun _ h_ => h_))); (case aB => exact (hB_ HB)); (case aF => exact (fun _ _ => trivial)); (case aO => exact (by (with_reducible repeat (first | apply Kd.S_alloc | apply Kd.S_drewN | apply Kd.S_drew)); exact Kd.S_mono bF.out (fun k_ hk => ⟨trivial, fun e_ => hk.2 e_⟩))); (case aS => exact (qa_ (hB_ HB))); (case aL => have := LMc5.out; omega); intro v109 w9 ho hb hg hat; rw [← cQ.out] at ho; replace HB := Zq_.mk (hb); have cT := Zq_.mk (ho); clear bF bU; clear ho hb hg hat; refine hK.out _ _ ⟨(hC_ HB aV), (hC_ HB aU), (hC_ HB aT), (hC_ HB aQ), (hC_ HB aN), (hC_ HB aM), (hC_ HB aK), (hC_ HB aJ)⟩ (fun hHeld => ?_); clear hK K; refine norm_ (a' := ?_) ?_ ?_; rotate_left
      ·show Act.put _ (some 25) _ = _
       simp only [Act.put, sa_, sb_, sc_, i64_w, i32_w]; rfl
      refine pQ_ 15 HT_ ?_; refine dN_ HT_ ?_; (try go_wp2)
      go_roundg k1
      case measure => have := HK1.out; omega
      case rel => exact ⟨(cM), (wrap64 (aA + 1)), eS_, H', ⟨by have := HK1.out; omega⟩, ⟨by (with_reducible repeat (first | apply Kd.S_alloc | apply Kd.S_drewN | apply Kd.S_drew)); exact cT.out⟩, ⟨hB_ HB⟩⟩
     ·rw [if_neg c5] at H; exact absurd H (by simp)
    ·rw [if_neg c3] at H; exact absurd H (by simp)
   ·rw [if_neg c2] at H; have c2b0 : decide (aA < (l0.length : Int)) = false := decide_eq_false c2; clear c2; obtain rfl := Option.some.inj H
    go_wp2
    go_ret
    exact ⟨_, by exact eW_, by (with_reducible repeat (first | apply Kd.S_alloc | apply Kd.S_drewN | apply Kd.S_drew)); exact bF.out, hB_ HB⟩
def ref04_Great.l0 : Nat → List (S58) → Int → Int → Option (Bool)
 | 0, _, _, _ => none
 | k + 1, x0, x3, x4 => if x4 < (x0.length : Int) then (if x3 ≤ 4000 then (if 0 ≤ x4 then (ref04_Great.l0 k x0 (wrap64 (x3 + (((rd_T58 x0 x4).f2).size : Int))) (wrap64 (x4 + 1))) else (none)) else (some (decide (x3 > 4000)))) else (some (decide (x3 > 4000)))
def ref04_Great.f (k : Nat) (l0 : List (S58)) : Option (Bool) := ref04_Great.l0 k l0 (l0.length : Int) 0
theorem ref04_Great.mono_l : ∀ k, (∀ y0 y1 y2, LeO (ref04_Great.l0 k y0 y1 y2) (ref04_Great.l0 (k + 1) y0 y1 y2))
 | 0 => fun _ _ _ r h => by simp [ref04_Great.l0] at h
 | k + 1 => by
  have ih0 := ref04_Great.mono_l k
  ·intro y0 y1 y2
   unfold ref04_Great.l0
   with_reducible repeat' first | exact ih0 _ _ _ | exact LeO.refl _ | exact LeO.none _ | refine LeO.ite ?_ ?_ | refine LeO.bind ?_ (fun _ => ?_)
theorem ref04_Great.mono : ∀ a0 k, LeO (ref04_Great.f k a0) (ref04_Great.f (k + 1) a0) := by
 intro a0 k; have ih0 := ref04_Great.mono_l k
 unfold ref04_Great.f
 with_reducible repeat' first | exact ih0 _ _ _ | exact LeO.refl _ | exact LeO.none _ | refine LeO.ite ?_ ?_ | refine LeO.bind ?_ (fun _ => ?_)
theorem ref04_Great.calls (k : Nat) (A0 : Option Addr) (c0 : Nat) (l0 : List (S58)) (r : Bool) (w : World) (hr0 : Kd.C k58 w A0 l0.length l0) (hc0 : l0.length ≤ c0) (h : ref04_Great.f k l0 = some r) :
  Calls Try.prog 55 #[.slice A0 l0.length c0] w fun e w' => e = .returned (.bool r) ∧ Drawn0 w w' := by
 have HR0 := Zq_.mk hr0; have HC0 := Zq_.mk hc0; clear hr0 hc0; have H : (ref04_Great.l0 k l0 (l0.length : Int) 0) = some r := h; clear h; have H' := Zq_.mk H; clear H
 go_enter Try.func55, Try.ntmps55
 go_wp2
 go_loopg [3, 4] k (fun kq v3 v4 w' => ∃ (aA : Int) (aH : Int), v3 = .int .i64 aA ∧ v4 = .int .i64 aH ∧ Zq_ (ref04_Great.l0 kq l0 aA aH = some r) ∧ Zq_ (kq ≤ k) ∧ Drawn0 w w')
 case atStart => exact ⟨((l0.length : Int)), (0), eS_, eS_, H', ⟨Nat.le_refl _⟩, by repeat (first | exact Drawn0.refl _ | apply Drawn0.step)⟩
 case round =>
  clear H'; obtain ⟨aA, aH, rfl, rfl, HA, HK1, ⟨m1, rfl⟩⟩ := hrel
  cases gk with
  | zero => exact absurd HA.out (by simp [ref04_Great.l0])
  | succ k1 =>
   have H := HA.out; clear HA; simp only [ref04_Great.l0] at H
   by_cases c2 : aH < (l0.length : Int)
   ·rw [if_pos c2] at H; have c2b0 : decide (aH < (l0.length : Int)) = true := decide_eq_true c2; clear c2
    by_cases c3 : aA ≤ 4000
    ·rw [if_pos c3] at H; have aO : decide (aA ≤ 4000) = true := decide_eq_true c3; clear c3
     by_cases c4 : 0 ≤ aH
     ·rw [if_pos c4] at H; have c4b0 : decide (0 ≤ aH) = true := decide_eq_true c4; clear c4; have H' := Zq_.mk H; clear H; have aK : 0 ≤ (aH : Int) := dA_; have aJ : aH < (l0.length : Int) := dA_; obtain ⟨aZ, aS, aD, aC, aB⟩ := at_T58 HR0.out aH aK aJ; cases aS; replace aK := eq_true aK; replace aJ := eq_true aJ
      go_wp2
      go_roundg k1
      case measure => have := HK1.out; omega
      case rel => exact ⟨(wrap64 (aA + (((rd_T58 l0 aH).f2).size : Int))), (wrap64 (aH + 1)), eS_, eS_, H', ⟨by have := HK1.out; omega⟩, by repeat (first | exact Drawn0.refl _ | apply Drawn0.step)⟩
     ·rw [if_neg c4] at H; exact absurd H (by simp)
    ·rw [if_neg c3] at H; have aO : decide (aA ≤ 4000) = false := decide_eq_false c3; clear c3; obtain rfl := Option.some.inj H
     go_wp2
     go_ret
     exact ⟨by first | rfl | (simp; done) | (simp [*]; done), by repeat (first | exact Drawn0.refl _ | apply Drawn0.step)⟩
   ·rw [if_neg c2] at H; have c2b0 : decide (aH < (l0.length : Int)) = false := decide_eq_false c2; clear c2; obtain rfl := Option.some.inj H
    go_wp2
    go_ret
    exact ⟨by first | rfl | (simp; done) | (simp [*]; done), by repeat (first | exact Drawn0.refl _ | apply Drawn0.step)⟩
def ref05_Great.f (k : Nat) (aV : Int) (aU : Int) (aL : List (S58)) : Option (Bool) := (ref04_Great.f k aL).bind fun aI => (some aI)
theorem ref05_Great.mono : ∀ a0 a1 a2 k, LeO (ref05_Great.f k a0 a1 a2) (ref05_Great.f (k + 1) a0 a1 a2) := by
 intro a0 a1 a2 k
 unfold ref05_Great.f
 with_reducible repeat' first | exact ref04_Great.mono _ _ | exact LeO.refl _ | exact LeO.none _ | refine LeO.ite ?_ ?_ | refine LeO.bind ?_ (fun _ => ?_)
theorem ref05_Great.calls (k : Nat) (aV : Int) (aU : Int) (aW : Option Addr) (aT : Nat) (aL : List (S58)) (r : Bool) (w : World) (aX : Kd.C k58 w aW aL.length aL) (aY : aL.length ≤ aT) (h : ref05_Great.f k aV aU aL = some r) :
  Calls Try.prog 34 #[.agg #[.int .i64 aV, .int .i64 aU, .slice aW aL.length aT]] w fun e w' => e = .returned (.bool r) ∧ Below w.heap.size w w' := by
 have hu35 := Try.underlying35; have bB := Zq_.mk aX; have bC := Zq_.mk aY; clear aX aY; have HB := Zq_.mk (Below.refl w.heap.size w); have H : ((ref04_Great.f k aL).bind fun aI => (some aI)) = some r := h; clear h; replace H := ob_ H; obtain ⟨aI, A20, H⟩ := H; replace H : (some aI) = some r := H; have A2 := Zq_.mk A20; clear A20; obtain rfl := Option.some.inj H
 go_enter Try.func34, Try.ntmps34
 go_wp2_with (first | ((with_reducible refine qd_ (N := 1) rfl ?_); refine bE_ 1 #[.int .i64 aV, .int .i64 aU, .slice aW aL.length aT] 35 ?_; intro gb101 hg w3 hbox hb; have bA := Zq_.mk (hbox); have GW101 := gW_ (w := w) hg (hB_ HB); have GE101 := gW_ (w := w) hg (hB_ HB); replace HB := sB_ HB hb; clear hb hbox hg; obtain ⟨hcz4_0, hcz4_1, hcz4_2⟩ := c3_ bA; obtain ⟨hfz4_0, hfz4_1, hfz4_2⟩ := f3_ bA) | ((with_reducible refine qf_ (f := 55) rfl ?_); refine goesL_ (some 5) rfl rfl Try.func55 (by kernel_rfl) rfl #[.slice aW aL.length aT] rfl aR_ ?_; (with_reducible refine (ref04_Great.calls k _ _ aL aI _ ?side1 ?side2 A2.out).mono ?_); (case side1 => exact cX_ (Kd.qg_ bB.out HB.out)); (case side2 => exact bC.out); rintro e w' ⟨rfl, ⟨nd, rfl⟩⟩; refine ⟨_, rfl, ?_⟩))
 go_ret
 exact ⟨by exact eW_, by exact hSet_ HB⟩
mutual
def ref06_Great.l0 : Nat → List (S39) → Int → Option (Bool)
 | 0, _, _ => none
 | k + 1, x0, x3 => if x3 < (x0.length : Int) then (ref06_Great.j1 k x0 x3 (decide (x3 < 41))) else (ref06_Great.j1 k x0 x3 false)
def ref06_Great.j1 : Nat → List (S39) → Int → Bool → Option (Bool)
 | 0, _, _, _ => none
 | k + 1, x0, x3, x11 => if x11 = true then (if 0 ≤ x3 then (if x3 < (x0.length : Int) then ((ref05_Great.f k ((rd_T39 x0 x3).f1.f0) ((rd_T39 x0 x3).f1.f1) ((rd_T39 x0 x3).f1.f2)).bind fun aI => (if aI = true then (some true) else (ref06_Great.l0 k x0 (wrap64 (x3 + 1))))) else (none)) else (none)) else (some (decide ((x0.length : Int) > 40)))
end
def ref06_Great.f (k : Nat) (l0 : List (S39)) : Option (Bool) := ref06_Great.l0 k l0 0
theorem ref06_Great.mono_l : ∀ k, (∀ y0 y1, LeO (ref06_Great.l0 k y0 y1) (ref06_Great.l0 (k + 1) y0 y1)) ∧ (∀ y0 y1 y2, LeO (ref06_Great.j1 k y0 y1 y2) (ref06_Great.j1 (k + 1) y0 y1 y2))
 | 0 => ⟨fun _ _ r h => by simp [ref06_Great.l0] at h, fun _ _ _ r h => by simp [ref06_Great.j1] at h⟩
 | k + 1 => by
  obtain ⟨ih0, ih1⟩ := ref06_Great.mono_l k; refine ⟨?_, ?_⟩
  ·intro y0 y1
   unfold ref06_Great.l0
   with_reducible repeat' first | exact ih0 _ _ | exact ih1 _ _ _ | exact ref05_Great.mono _ _ _ _ | exact LeO.refl _ | exact LeO.none _ | refine LeO.ite ?_ ?_ | refine LeO.bind ?_ (fun _ => ?_)
  ·intro y0 y1 y2
   unfold ref06_Great.j1
   with_reducible repeat' first | exact ih0 _ _ | exact ih1 _ _ _ | exact ref05_Great.mono _ _ _ _ | exact LeO.refl _ | exact LeO.none _ | refine LeO.ite ?_ ?_ | refine LeO.bind ?_ (fun _ => ?_)
theorem ref06_Great.mono : ∀ a0 k, LeO (ref06_Great.f k a0) (ref06_Great.f (k + 1) a0) := by
 intro a0 k; obtain ⟨ih0, ih1⟩ := ref06_Great.mono_l k
 unfold ref06_Great.f
 with_reducible repeat' first | exact ih0 _ _ | exact ih1 _ _ _ | exact ref05_Great.mono _ _ _ _ | exact LeO.refl _ | exact LeO.none _ | refine LeO.ite ?_ ?_ | refine LeO.bind ?_ (fun _ => ?_)
theorem ref06_Great.calls (k : Nat) (A0 : Option Addr) (c0 : Nat) (l0 : List (S39)) (r : Bool) (w : World) (hr0 : Kd.C k39 w A0 l0.length l0) (hc0 : l0.length ≤ c0) (h : ref06_Great.f k l0 = some r) :
  Calls Try.prog 8 #[.slice A0 l0.length c0] w fun e w' => e = .returned (.bool r) ∧ Below w.heap.size w w' := by
 have hu35 := Try.underlying35; have HR0 := Zq_.mk hr0; have HC0 := Zq_.mk hc0; clear hr0 hc0; have HB := Zq_.mk (Below.refl w.heap.size w); have H : (ref06_Great.l0 k l0 0) = some r := h; clear h; have H' := Zq_.mk H; clear H
 go_enter Try.func8, Try.ntmps8
 go_wp2
 go_loopg [3] k (fun kq v3 w' => ∃ (aA : Int), v3 = .int .i64 aA ∧ Zq_ (ref06_Great.l0 kq l0 aA = some r) ∧ Zq_ (kq ≤ k) ∧ Zq_ (Below w.heap.size w w'))
 case atStart => exact ⟨(0), eS_, H', ⟨Nat.le_refl _⟩, ⟨hB_ HB⟩⟩
 case round =>
  clear H'; obtain ⟨aA, rfl, HA, HK1, HB⟩ := hrel
  cases gk with
  | zero => exact absurd HA.out (by simp [ref06_Great.l0])
  | succ k1 =>
   have H := HA.out; clear HA; simp only [ref06_Great.l0] at H; have HC2 := Zq_.mk H; clear H
   go_upto_region 2 with (fail)
   go_cut [11] (fun v11 wc => ∃ (kq : Nat) (aR : Bool), v11 = .bool aR ∧ Zq_ (ref06_Great.j1 kq l0 aA aR = some r) ∧ Zq_ (kq ≤ k1) ∧ Zq_ (Below w.heap.size w wc))
   case first =>
    have H := HC2.out; clear HC2
    by_cases c3 : aA < (l0.length : Int)
    ·rw [if_pos c3] at H; have aO : decide (aA < (l0.length : Int)) = true := decide_eq_true c3; clear c3; (first | rw [aO] | (simp only [i64_w, i32_w]; rw [aO]) | skip); have H' := Zq_.mk H; clear H
     go_wp2
     go_meet
     case rel => exact ⟨_, (decide (aA < 41)), eS_, H', ⟨by have := HK1.out; first | omega | exact Nat.le_refl _⟩, ⟨hB_ HB⟩⟩
    ·rw [if_neg c3] at H; have aO : decide (aA < (l0.length : Int)) = false := decide_eq_false c3; clear c3; (first | rw [aO] | (simp only [i64_w, i32_w]; rw [aO]) | skip); have H' := Zq_.mk H; clear H
     go_wp2
     go_meet
     case rel => exact ⟨_, (false), eS_, H', ⟨by have := HK1.out; first | omega | exact Nat.le_refl _⟩, ⟨hB_ HB⟩⟩
   case rest =>
    clear HC2
    try clear p2
    try clear c3
    try clear aO
    obtain ⟨kq, aR, rfl, HA, HJ1, HB⟩ := hcut
    cases kq with
    | zero => exact absurd HA.out (by simp [ref06_Great.j1])
    | succ kj1 =>
     have H := HA.out; clear HA; simp only [ref06_Great.j1] at H
     by_cases c4 : aR = true
     ·subst c4
      have H1 : (if 0 ≤ aA then (if aA < (l0.length : Int) then ((ref05_Great.f kj1 ((rd_T39 l0 aA).f1.f0) ((rd_T39 l0 aA).f1.f1) ((rd_T39 l0 aA).f1.f2)).bind fun aI => (if aI = true then (some true) else (ref06_Great.l0 kj1 l0 (wrap64 (aA + 1))))) else (none)) else (none)) = some r := by rw [if_pos rfl] at H; exact H
      clear H; have H := H1; clear H1
      by_cases c5 : 0 ≤ aA
      ·rw [if_pos c5] at H; have c5b0 : decide (0 ≤ aA) = true := decide_eq_true c5; clear c5
       by_cases c6 : aA < (l0.length : Int)
       ·rw [if_pos c6] at H; have c6b0 : decide (aA < (l0.length : Int)) = true := decide_eq_true c6; clear c6; replace H := ob_ H; obtain ⟨aI, A70, H⟩ := H; replace H : (if aI = true then (some true) else (ref06_Great.l0 kj1 l0 (wrap64 (aA + 1)))) = some r := H; have A7 := Zq_.mk A70; clear A70
        by_cases c8 : aI = true
        ·subst c8
         have H1 : (some true) = some r := by rw [if_pos rfl] at H; exact H
         clear H; have H := H1; clear H1; obtain rfl := Option.some.inj H; have aK : 0 ≤ (aA : Int) := dA_; have aJ : aA < (l0.length : Int) := dA_; obtain ⟨aZ, aQ, aP, aS, aD, aC, aB, aE, aF, aG⟩ := at_T39 HR0.out aA aK aJ; cases aS; replace aD := hC_ HB aD; replace aC := hC_ HB aC; replace aB := hC_ HB aB; replace aE := hC_ HB aE; have aM := Zq_.mk aG; have aN := Zq_.mk aF; clear aG aF; replace aK := eq_true aK; replace aJ := eq_true aJ
         go_wp2_with (first | ((with_reducible refine qf_ (f := 34) rfl ?_); refine goesL_ (some 19) rfl rfl Try.func34 (by kernel_rfl) rfl #[.agg #[.int .i64 ((rd_T39 l0 aA).f1.f0), .int .i64 ((rd_T39 l0 aA).f1.f1), .slice aQ ((rd_T39 l0 aA).f1.f2).length aP]] rfl aR_ ?_; (with_reducible refine (ref05_Great.calls kj1 ((rd_T39 l0 aA).f1.f0) ((rd_T39 l0 aA).f1.f1) _ _ ((rd_T39 l0 aA).f1.f2) true _ ?side1 ?side2 A7.out).mono ?_); (case side1 => exact cX_ (Kd.qg_ aM.out HB.out)); (case side2 => exact aN.out); rintro e w9 ⟨rfl, hb⟩; refine ⟨_, rfl, ?_⟩; replace HB := sB_ HB hb; (try clear hb)))
         go_ret
         exact ⟨by exact eW_, hB_ HB⟩
        ·replace c8 := Bool.eq_false_iff.mpr c8; subst c8
         have H1 : (ref06_Great.l0 kj1 l0 (wrap64 (aA + 1))) = some r := by rw [if_neg (show ¬ (false = true) by decide)] at H; exact H
         clear H; have H := H1; clear H1; have H' := Zq_.mk H; clear H; have aK : 0 ≤ (aA : Int) := dA_; have aJ : aA < (l0.length : Int) := dA_; obtain ⟨aZ, aQ, aP, aS, aD, aC, aB, aE, aF, aG⟩ := at_T39 HR0.out aA aK aJ; cases aS; replace aD := hC_ HB aD; replace aC := hC_ HB aC; replace aB := hC_ HB aB; replace aE := hC_ HB aE; have aM := Zq_.mk aG; have aN := Zq_.mk aF; clear aG aF; replace aK := eq_true aK; replace aJ := eq_true aJ
         go_wp2_with (first | ((with_reducible refine qf_ (f := 34) rfl ?_); refine goesL_ (some 19) rfl rfl Try.func34 (by kernel_rfl) rfl #[.agg #[.int .i64 ((rd_T39 l0 aA).f1.f0), .int .i64 ((rd_T39 l0 aA).f1.f1), .slice aQ ((rd_T39 l0 aA).f1.f2).length aP]] rfl aR_ ?_; (with_reducible refine (ref05_Great.calls kj1 ((rd_T39 l0 aA).f1.f0) ((rd_T39 l0 aA).f1.f1) _ _ ((rd_T39 l0 aA).f1.f2) false _ ?side1 ?side2 A7.out).mono ?_); (case side1 => exact cX_ (Kd.qg_ aM.out HB.out)); (case side2 => exact aN.out); rintro e w10 ⟨rfl, hb⟩; refine ⟨_, rfl, ?_⟩; replace HB := sB_ HB hb; (try clear hb)))
         go_roundg kj1
         case measure => have := HK1.out; have := HJ1.out; omega
         case rel => exact ⟨(wrap64 (aA + 1)), eS_, H', ⟨by have := HK1.out; have := HJ1.out; omega⟩, ⟨hB_ HB⟩⟩
       ·rw [if_neg c6] at H; exact absurd H (by simp)
      ·rw [if_neg c5] at H; exact absurd H (by simp)
     ·replace c4 := Bool.eq_false_iff.mpr c4; subst c4
      have H1 : (some (decide ((l0.length : Int) > 40))) = some r := by rw [if_neg (show ¬ (false = true) by decide)] at H; exact H
      clear H; have H := H1; clear H1; obtain rfl := Option.some.inj H
      go_wp2
      go_ret
      exact ⟨by exact eW_, hB_ HB⟩
def ref06_Ints.l0 : Nat → List Int → List Int → Int → Option (Bool)
 | 0, _, _, _ => none
 | k + 1, x0, x1, x5 => if x5 < (x0.length : Int) then (if 0 ≤ x5 then (if x5 < (x1.length : Int) then (if (rd x0 x5) = (rd x1 x5) then (ref06_Ints.l0 k x0 x1 (wrap64 (x5 + 1))) else (some false)) else (none)) else (none)) else (some true)
def ref06_Ints.f (k : Nat) (l0 : List Int) (l1 : List Int) : Option (Bool) := if (l0.length : Int) = (l1.length : Int) then (ref06_Ints.l0 k l0 l1 0) else (some false)
theorem ref06_Ints.mono_l : ∀ k, (∀ y0 y1 y2, LeO (ref06_Ints.l0 k y0 y1 y2) (ref06_Ints.l0 (k + 1) y0 y1 y2))
 | 0 => fun _ _ _ r h => by simp [ref06_Ints.l0] at h
 | k + 1 => by
  have ih0 := ref06_Ints.mono_l k
  ·intro y0 y1 y2
   unfold ref06_Ints.l0
   with_reducible repeat' first | exact ih0 _ _ _ | exact LeO.refl _ | exact LeO.none _ | refine LeO.ite ?_ ?_ | refine LeO.bind ?_ (fun _ => ?_)
theorem ref06_Ints.mono : ∀ a0 a1 k, LeO (ref06_Ints.f k a0 a1) (ref06_Ints.f (k + 1) a0 a1) := by
 intro a0 a1 k; have ih0 := ref06_Ints.mono_l k
 unfold ref06_Ints.f
 with_reducible repeat' first | exact ih0 _ _ _ | exact LeO.refl _ | exact LeO.none _ | refine LeO.ite ?_ ?_ | refine LeO.bind ?_ (fun _ => ?_)
theorem ref06_Ints.calls (k : Nat) (A0 : Option Addr) (c0 : Nat) (l0 : List Int) (A1 : Option Addr) (c1 : Nat) (l1 : List Int) (r : Bool) (w : World) (hr0 : Kd.C (Kd.int .i64) w A0 l0.length l0) (hc0 : l0.length ≤ c0) (hr1 : Kd.C (Kd.int .i64) w A1 l1.length l1) (hc1 : l1.length ≤ c1) (h : ref06_Ints.f k l0 l1 = some r) :
  Calls Try.prog 31 #[.slice A0 l0.length c0, .slice A1 l1.length c1] w fun e w' => e = .returned (.bool r) ∧ Drawn0 w w' := by
 have HR0 := Zq_.mk hr0; have HC0 := Zq_.mk hc0; clear hr0 hc0; have HR1 := Zq_.mk hr1; have HC1 := Zq_.mk hc1; clear hr1 hc1; have H : (if (l0.length : Int) = (l1.length : Int) then (ref06_Ints.l0 k l0 l1 0) else (some false)) = some r := h; clear h
 by_cases c3 : (l0.length : Int) = (l1.length : Int)
 ·rw [if_pos c3] at H; have aL : ((l0.length : Int) == (l1.length : Int)) = true := beq_iff_eq.mpr c3; have aK : ((l0.length : Int) != (l1.length : Int)) = false := bne_eq_false_iff_eq.mpr c3
  have aJ : (l0.length == l1.length) = true := by first | simpa using c3 | (simp at c3 ⊢; omega)
  clear c3; have H' := Zq_.mk H; clear H
  go_enter Try.func31, Try.ntmps31
  go_wp2
  repeat (go_quiet (fail); try go_wp2)
  go_loopg [5] k (fun kq v5 w' => ∃ (aA : Int), v5 = .int .i64 aA ∧ Zq_ (ref06_Ints.l0 kq l0 l1 aA = some r) ∧ Zq_ (kq ≤ k) ∧ Drawn0 w w')
  case atStart => exact ⟨(0), eS_, H', ⟨Nat.le_refl _⟩, by repeat (first | exact Drawn0.refl _ | apply Drawn0.step)⟩
  case round =>
   clear H'
   try clear c1
   try clear p2
   try clear c3
   try clear aL
   try clear aK
   try clear aJ
   obtain ⟨aA, rfl, HA, HK1, ⟨m1, rfl⟩⟩ := hrel
   cases gk with
   | zero => exact absurd HA.out (by simp [ref06_Ints.l0])
   | succ k1 =>
    have H := HA.out; clear HA; simp only [ref06_Ints.l0] at H
    by_cases c4 : aA < (l0.length : Int)
    ·rw [if_pos c4] at H; have c4b0 : decide (aA < (l0.length : Int)) = true := decide_eq_true c4; clear c4
     by_cases c5 : 0 ≤ aA
     ·rw [if_pos c5] at H; have c5b0 : decide (0 ≤ aA) = true := decide_eq_true c5; clear c5
      by_cases c6 : aA < (l1.length : Int)
      ·rw [if_pos c6] at H; have c6b0 : decide (aA < (l1.length : Int)) = true := decide_eq_true c6; clear c6
       by_cases c7 : (rd l0 aA) = (rd l1 aA)
       ·rw [if_pos c7] at H; have c7b0 : ((rd l0 aA) == (rd l1 aA)) = true := beq_iff_eq.mpr c7; have c7b1 : ((rd l0 aA) != (rd l1 aA)) = false := bne_eq_false_iff_eq.mpr c7; clear c7; have H' := Zq_.mk H; clear H; have aE : 0 ≤ (aA : Int) := dA_; have aC : aA < (l0.length : Int) := dA_; obtain ⟨aN, aI, aG⟩ := Kd.at_int HR0.out aA aE aC; cases aI; replace aE := eq_true aE; replace aC := eq_true aC; have aD : 0 ≤ (aA : Int) := dA_; have aB : aA < (l1.length : Int) := dA_; obtain ⟨aM, aH, aF⟩ := Kd.at_int HR1.out aA aD aB; cases aH; replace aD := eq_true aD; replace aB := eq_true aB
        go_wp2
        repeat (go_quiet (fail); try go_wp2)
        go_roundg k1
        case measure => have := HK1.out; omega
        case rel => exact ⟨(wrap64 (aA + 1)), eS_, H', ⟨by have := HK1.out; omega⟩, by repeat (first | exact Drawn0.refl _ | apply Drawn0.step)⟩
       ·rw [if_neg c7] at H; have c7b0 : ((rd l0 aA) == (rd l1 aA)) = false := beq_eq_false_iff_ne.mpr c7; have c7b1 : ((rd l0 aA) != (rd l1 aA)) = true := bne_iff_ne.mpr c7; obtain rfl := Option.some.inj H; have aE : 0 ≤ (aA : Int) := dA_; have aC : aA < (l0.length : Int) := dA_; obtain ⟨aN, aI, aG⟩ := Kd.at_int HR0.out aA aE aC; cases aI; replace aE := eq_true aE; replace aC := eq_true aC; have aD : 0 ≤ (aA : Int) := dA_; have aB : aA < (l1.length : Int) := dA_; obtain ⟨aM, aH, aF⟩ := Kd.at_int HR1.out aA aD aB; cases aH; replace aD := eq_true aD; replace aB := eq_true aB
        go_wp2
        repeat (go_quiet (fail); try go_wp2)
        go_ret
        exact ⟨by first | rfl | (simp; done) | (simp [*]; done), by repeat (first | exact Drawn0.refl _ | apply Drawn0.step)⟩
      ·rw [if_neg c6] at H; exact absurd H (by simp)
     ·rw [if_neg c5] at H; exact absurd H (by simp)
    ·rw [if_neg c4] at H; have c4b0 : decide (aA < (l0.length : Int)) = false := decide_eq_false c4; clear c4; obtain rfl := Option.some.inj H
     go_wp2
     repeat (go_quiet (fail); try go_wp2)
     go_ret
     exact ⟨by first | rfl | (simp; done) | (simp [*]; done), by repeat (first | exact Drawn0.refl _ | apply Drawn0.step)⟩
 ·rw [if_neg c3] at H; have aL : ((l0.length : Int) == (l1.length : Int)) = false := beq_eq_false_iff_ne.mpr c3; have aK : ((l0.length : Int) != (l1.length : Int)) = true := bne_iff_ne.mpr c3
  have aJ : (l0.length == l1.length) = false := by first | simpa using c3 | (simp at c3 ⊢; omega)
  obtain rfl := Option.some.inj H
  go_enter Try.func31, Try.ntmps31
  go_wp2
  repeat (go_quiet (fail); try go_wp2)
  go_ret
  exact ⟨by first | rfl | (simp; done) | (simp [*]; done), by repeat (first | exact Drawn0.refl _ | apply Drawn0.step)⟩
def entry_May.f (aD : Int) (aC : Int) (aO : ByteArray) : Option (Bool) := if aD ≥ 0 then (if aD < 12 then (if aC ≥ 1 then (if aC ≤ 1099511627776 then (some (decide ((aO.size : Int) ≤ 200))) else (some false)) else (some false)) else (some false)) else (some false)
theorem entry_May.calls (aD : Int) (aC : Int) (aO : ByteArray) (r : Bool) (w : World) (h : entry_May.f aD aC aO = some r) :
  Calls Try.prog 82 #[.agg #[.int .i64 aD, .int .i64 aC, .string aO]] w fun e w' => e = .returned (.bool r) ∧ Below w.heap.size w w' := by
 have hu58 := Try.underlying58; have HB := Zq_.mk (Below.refl w.heap.size w); have H : (if aD ≥ 0 then (if aD < 12 then (if aC ≥ 1 then (if aC ≤ 1099511627776 then (some (decide ((aO.size : Int) ≤ 200))) else (some false)) else (some false)) else (some false)) else (some false)) = some r := h; clear h
 by_cases c2 : aD ≥ 0
 ·rw [if_pos c2] at H; have bO : decide (0 ≤ aD) = true := decide_eq_true c2; clear c2
  by_cases c3 : aD < 12
  ·rw [if_pos c3] at H; have bR : decide (aD < 12) = true := decide_eq_true c3; clear c3
   by_cases c4 : aC ≥ 1
   ·rw [if_pos c4] at H; have bQ : decide (1 ≤ aC) = true := decide_eq_true c4; clear c4
    by_cases c5 : aC ≤ 1099511627776
    ·rw [if_pos c5] at H; have bN : decide (aC ≤ 1099511627776) = true := decide_eq_true c5; clear c5; obtain rfl := Option.some.inj H
     go_enter Try.func82, Try.ntmps82
     go_wp2_with (first | ((with_reducible refine qd_ (N := 1) rfl ?_); (try (refine qj_ (by rfl) ?_; dsimp only)); refine bE_ 1 #[.int .i64 aD, .int .i64 aC, .string aO] 58 ?_; intro aI hg w6 hbox hb; have aA := Zq_.mk (hbox); have aK := gW_ (w := w) hg (hB_ HB); have aL := gW_ (w := w) hg (hB_ HB); replace HB := sB_ HB hb; clear hb hbox hg; obtain ⟨cC, cB, cA⟩ := c3_ aA; obtain ⟨bZ, bY, bX⟩ := f3_ aA))
     go_ret
     exact ⟨by exact eW_, by exact hSet_ HB⟩
    ·rw [if_neg c5] at H; have bN : decide (aC ≤ 1099511627776) = false := decide_eq_false c5; clear c5; obtain rfl := Option.some.inj H
     go_enter Try.func82, Try.ntmps82
     go_wp2_with (first | ((with_reducible refine qd_ (N := 1) rfl ?_); (try (refine qj_ (by rfl) ?_; dsimp only)); refine bE_ 1 #[.int .i64 aD, .int .i64 aC, .string aO] 58 ?_; intro aI hg w8 hbox hb; have aA := Zq_.mk (hbox); have aK := gW_ (w := w) hg (hB_ HB); have aL := gW_ (w := w) hg (hB_ HB); replace HB := sB_ HB hb; clear hb hbox hg; obtain ⟨hcz9_0, hcz9_1, hcz9_2⟩ := c3_ aA; obtain ⟨hfz9_0, hfz9_1, hfz9_2⟩ := f3_ aA))
     go_ret
     exact ⟨by exact eW_, by exact hSet_ HB⟩
   ·rw [if_neg c4] at H; have bQ : decide (1 ≤ aC) = false := decide_eq_false c4; clear c4; obtain rfl := Option.some.inj H
    go_enter Try.func82, Try.ntmps82
    go_wp2_with (first | ((with_reducible refine qd_ (N := 1) rfl ?_); (try (refine qj_ (by rfl) ?_; dsimp only)); refine bE_ 1 #[.int .i64 aD, .int .i64 aC, .string aO] 58 ?_; intro aI hg w10 hbox hb; have aA := Zq_.mk (hbox); have aK := gW_ (w := w) hg (hB_ HB); have aL := gW_ (w := w) hg (hB_ HB); replace HB := sB_ HB hb; clear hb hbox hg; obtain ⟨bI, bH, bG⟩ := c3_ aA; obtain ⟨aZ, aY, aX⟩ := f3_ aA))
    go_ret
    exact ⟨by exact eW_, by exact hSet_ HB⟩
  ·rw [if_neg c3] at H; have bR : decide (aD < 12) = false := decide_eq_false c3; clear c3; obtain rfl := Option.some.inj H
   go_enter Try.func82, Try.ntmps82
   go_wp2_with (first | ((with_reducible refine qd_ (N := 1) rfl ?_); (try (refine qj_ (by rfl) ?_; dsimp only)); refine bE_ 1 #[.int .i64 aD, .int .i64 aC, .string aO] 58 ?_; intro aI hg w12 hbox hb; have aA := Zq_.mk (hbox); have aK := gW_ (w := w) hg (hB_ HB); have aL := gW_ (w := w) hg (hB_ HB); replace HB := sB_ HB hb; clear hb hbox hg; obtain ⟨bF, bE, bD⟩ := c3_ aA; obtain ⟨aW, aV, aU⟩ := f3_ aA))
   go_ret
   exact ⟨by exact eW_, by exact hSet_ HB⟩
 ·rw [if_neg c2] at H; have bO : decide (0 ≤ aD) = false := decide_eq_false c2; clear c2; obtain rfl := Option.some.inj H
  go_enter Try.func82, Try.ntmps82
  go_wp2_with (first | ((with_reducible refine qd_ (N := 1) rfl ?_); (try (refine qj_ (by rfl) ?_; dsimp only)); refine bE_ 1 #[.int .i64 aD, .int .i64 aC, .string aO] 58 ?_; intro aI hg w14 hbox hb; have aA := Zq_.mk (hbox); have aK := gW_ (w := w) hg (hB_ HB); have aL := gW_ (w := w) hg (hB_ HB); replace HB := sB_ HB hb; clear hb hbox hg; obtain ⟨bC, bB, bA⟩ := c3_ aA; obtain ⟨aT, aS, aR⟩ := f3_ aA))
  go_ret
  exact ⟨by exact eW_, by exact hSet_ HB⟩
def entry_Right.l0 : Nat → Int → List (S58) → Int → Int → Option (Bool)
 | 0, _, _, _, _ => none
 | k + 1, x3, x6, x7, x8 => if x8 < x7 then (if 0 ≤ x8 then (if x8 < (x6.length : Int) then (if ((rd_T58 x6 x8).f0) ≤ x3 then (some false) else ((entry_May.f ((rd_T58 x6 x8).f0) ((rd_T58 x6 x8).f1) ((rd_T58 x6 x8).f2)).bind fun bP => (if bP = true then (entry_Right.l0 k ((rd_T58 x6 x8).f0) x6 x7 (wrap64 (x8 + 1))) else (some false)))) else (none)) else (none)) else (some true)
def entry_Right.f (k : Nat) (l0 : List (S58)) : Option (Bool) := entry_Right.l0 k (-1) l0 (l0.length : Int) 0
theorem entry_Right.mono_l : ∀ k, (∀ y0 y1 y2 y3, LeO (entry_Right.l0 k y0 y1 y2 y3) (entry_Right.l0 (k + 1) y0 y1 y2 y3))
 | 0 => fun _ _ _ _ r h => by simp [entry_Right.l0] at h
 | k + 1 => by
  have ih0 := entry_Right.mono_l k
  ·intro y0 y1 y2 y3
   unfold entry_Right.l0
   with_reducible repeat' first | exact ih0 _ _ _ _ | exact LeO.refl _ | exact LeO.none _ | refine LeO.ite ?_ ?_ | refine LeO.bind ?_ (fun _ => ?_)
theorem entry_Right.mono : ∀ a0 k, LeO (entry_Right.f k a0) (entry_Right.f (k + 1) a0) := by
 intro a0 k; have ih0 := entry_Right.mono_l k
 unfold entry_Right.f
 with_reducible repeat' first | exact ih0 _ _ _ _ | exact LeO.refl _ | exact LeO.none _ | refine LeO.ite ?_ ?_ | refine LeO.bind ?_ (fun _ => ?_)
theorem entry_Right.calls (k : Nat) (A0 : Option Addr) (c0 : Nat) (l0 : List (S58)) (r : Bool) (w : World) (hr0 : Kd.C k58 w A0 l0.length l0) (hc0 : l0.length ≤ c0) (h : entry_Right.f k l0 = some r) :
  Calls Try.prog 76 #[.slice A0 l0.length c0] w fun e w' => e = .returned (.bool r) ∧ Below w.heap.size w w' := by
 have hu58 := Try.underlying58; have HR0 := Zq_.mk hr0; have HC0 := Zq_.mk hc0; clear hr0 hc0; have HB := Zq_.mk (Below.refl w.heap.size w); have H : (entry_Right.l0 k (-1) l0 (l0.length : Int) 0) = some r := h; clear h; have H' := Zq_.mk H; clear H
 go_enter Try.func76, Try.ntmps76
 go_wp2
 go_loopg [3, 8] k (fun kq v3 v8 w' => ∃ (bK : Int) (aB : Int), v3 = .int .i64 bK ∧ v8 = .int .i64 aB ∧ Zq_ (entry_Right.l0 kq bK l0 (l0.length : Int) aB = some r) ∧ Zq_ (kq ≤ k) ∧ Zq_ (Below w.heap.size w w'))
 case atStart => exact ⟨((-1)), (0), eS_, eS_, H', ⟨Nat.le_refl _⟩, ⟨hB_ HB⟩⟩
 case round =>
  clear H'; obtain ⟨bK, aB, rfl, rfl, HA, HK1, HB⟩ := hrel
  cases gk with
  | zero => exact absurd HA.out (by simp [entry_Right.l0])
  | succ k1 =>
   have H := HA.out; clear HA; simp only [entry_Right.l0] at H
   by_cases c2 : aB < (l0.length : Int)
   ·rw [if_pos c2] at H; have bO : decide (aB < (l0.length : Int)) = true := decide_eq_true c2; clear c2
    by_cases c3 : 0 ≤ aB
    ·rw [if_pos c3] at H; have bR : decide (0 ≤ aB) = true := decide_eq_true c3; clear c3
     by_cases c4 : aB < (l0.length : Int)
     ·rw [if_pos c4] at H; have bQ : decide (aB < (l0.length : Int)) = true := decide_eq_true c4; clear c4
      by_cases c5 : ((rd_T58 l0 aB).f0) ≤ bK
      ·rw [if_pos c5] at H; have bN : decide (((rd_T58 l0 aB).f0) ≤ bK) = true := decide_eq_true c5; clear c5; obtain rfl := Option.some.inj H; have aN : 0 ≤ (aB : Int) := dA_; have aM : aB < (l0.length : Int) := dA_; obtain ⟨bU, bM, aG, aF, aE⟩ := at_T58 HR0.out aB aN aM; cases bM; replace aG := hC_ HB aG; replace aF := hC_ HB aF; replace aE := hC_ HB aE; replace aN := eq_true aN; replace aM := eq_true aM
       go_wp2_with (first | ((with_reducible refine qd_ (N := 5) rfl ?_); refine bE_ 5 #[.int .i64 0, .int .i64 0, .string (⟨#[]⟩ : ByteArray)] 58 ?_; intro bJ hg w6 hbox hb; have aH := Zq_.mk (hbox); have bV := gW_ (w := w) hg (hB_ HB); have bW := gW_ (w := w) hg (hB_ HB); replace HB := sB_ HB hb; clear hb hbox hg; obtain ⟨cC, cB, cA⟩ := c3_ aH; obtain ⟨bZ, bY, bX⟩ := f3_ aH))
       go_ret
       exact ⟨by exact eW_, by exact hSet_ HB⟩
      ·rw [if_neg c5] at H; have bN : decide (((rd_T58 l0 aB).f0) ≤ bK) = false := decide_eq_false c5; clear c5; replace H := ob_ H; obtain ⟨bP, A80, H⟩ := H; replace H : (if bP = true then (entry_Right.l0 k1 ((rd_T58 l0 aB).f0) l0 (l0.length : Int) (wrap64 (aB + 1))) else (some false)) = some r := H; have A8 := Zq_.mk A80; clear A80
       by_cases c9 : bP = true
       ·subst c9
        have H1 : (entry_Right.l0 k1 ((rd_T58 l0 aB).f0) l0 (l0.length : Int) (wrap64 (aB + 1))) = some r := by rw [if_pos rfl] at H; exact H
        clear H; have H := H1; clear H1; have H' := Zq_.mk H; clear H; have aN : 0 ≤ (aB : Int) := dA_; have aM : aB < (l0.length : Int) := dA_; obtain ⟨bU, bM, aG, aF, aE⟩ := at_T58 HR0.out aB aN aM; cases bM; replace aG := hC_ HB aG; replace aF := hC_ HB aF; replace aE := hC_ HB aE; replace aN := eq_true aN; replace aM := eq_true aM
        go_wp2_with (first | ((with_reducible refine qd_ (N := 5) rfl ?_); refine bE_ 5 #[.int .i64 0, .int .i64 0, .string (⟨#[]⟩ : ByteArray)] 58 ?_; intro bJ hg w10 hbox hb; have aH := Zq_.mk (hbox); have bV := gW_ (w := w) hg (hB_ HB); have bW := gW_ (w := w) hg (hB_ HB); replace HB := sB_ HB hb; clear hb hbox hg; obtain ⟨bI, bH, bG⟩ := c3_ aH; obtain ⟨aZ, aY, aX⟩ := f3_ aH) | (go_at_call 82; (with_reducible refine (entry_May.calls ((rd_T58 l0 aB).f0) ((rd_T58 l0 aB).f1) ((rd_T58 l0 aB).f2) true _ A8.out).mono ?_); rintro e w12 ⟨rfl, hb⟩; replace aH := Zq_.mk (qc_ (g := bJ) (o := .cells #[.int .i64 ((rd_T58 l0 aB).f0), .int .i64 ((rd_T58 l0 aB).f1), .string ((rd_T58 l0 aB).f2)] 58 (0, 0)) (by refine bP_ (cs := #[.int .i64 ((rd_T58 l0 aB).f0), .int .i64 ((rd_T58 l0 aB).f1), .string (⟨#[]⟩ : ByteArray)]) 2 ?_; refine bP_ (cs := #[.int .i64 ((rd_T58 l0 aB).f0), .int .i64 0, .string (⟨#[]⟩ : ByteArray)]) 1 ?_; refine bP_ (cs := #[.int .i64 0, .int .i64 0, .string (⟨#[]⟩ : ByteArray)]) 0 ?_; exact bK_ aH) hb); replace HB := sB_ HB hb; (try clear hb); obtain ⟨bF, bE, bD⟩ := c3_ aH; obtain ⟨aW, aV, aU⟩ := f3_ aH))
        go_roundg k1
        case measure => have := HK1.out; omega
        case rel => exact ⟨((rd_T58 l0 aB).f0), (wrap64 (aB + 1)), eS_, eS_, H', ⟨by have := HK1.out; omega⟩, ⟨by exact hSet_ HB⟩⟩
       ·replace c9 := Bool.eq_false_iff.mpr c9; subst c9
        have H1 : (some false) = some r := by rw [if_neg (show ¬ (false = true) by decide)] at H; exact H
        clear H; have H := H1; clear H1; obtain rfl := Option.some.inj H; have aN : 0 ≤ (aB : Int) := dA_; have aM : aB < (l0.length : Int) := dA_; obtain ⟨bU, bM, aG, aF, aE⟩ := at_T58 HR0.out aB aN aM; cases bM; replace aG := hC_ HB aG; replace aF := hC_ HB aF; replace aE := hC_ HB aE; replace aN := eq_true aN; replace aM := eq_true aM
        go_wp2_with (first | ((with_reducible refine qd_ (N := 5) rfl ?_); refine bE_ 5 #[.int .i64 0, .int .i64 0, .string (⟨#[]⟩ : ByteArray)] 58 ?_; intro bJ hg w14 hbox hb; have aH := Zq_.mk (hbox); have bV := gW_ (w := w) hg (hB_ HB); have bW := gW_ (w := w) hg (hB_ HB); replace HB := sB_ HB hb; clear hb hbox hg; obtain ⟨bC, bB, bA⟩ := c3_ aH; obtain ⟨aT, aS, aR⟩ := f3_ aH) | (go_at_call 82; (with_reducible refine (entry_May.calls ((rd_T58 l0 aB).f0) ((rd_T58 l0 aB).f1) ((rd_T58 l0 aB).f2) false _ A8.out).mono ?_); rintro e w16 ⟨rfl, hb⟩; replace aH := Zq_.mk (qc_ (g := bJ) (o := .cells #[.int .i64 ((rd_T58 l0 aB).f0), .int .i64 ((rd_T58 l0 aB).f1), .string ((rd_T58 l0 aB).f2)] 58 (0, 0)) (by refine bP_ (cs := #[.int .i64 ((rd_T58 l0 aB).f0), .int .i64 ((rd_T58 l0 aB).f1), .string (⟨#[]⟩ : ByteArray)]) 2 ?_; refine bP_ (cs := #[.int .i64 ((rd_T58 l0 aB).f0), .int .i64 0, .string (⟨#[]⟩ : ByteArray)]) 1 ?_; refine bP_ (cs := #[.int .i64 0, .int .i64 0, .string (⟨#[]⟩ : ByteArray)]) 0 ?_; exact bK_ aH) hb); replace HB := sB_ HB hb; (try clear hb)))
        go_ret
        exact ⟨by exact eW_, by exact hSet_ HB⟩
     ·rw [if_neg c4] at H; exact absurd H (by simp)
    ·rw [if_neg c3] at H; exact absurd H (by simp)
   ·rw [if_neg c2] at H; have bO : decide (aB < (l0.length : Int)) = false := decide_eq_false c2; clear c2; obtain rfl := Option.some.inj H
    go_wp2
    go_ret
    exact ⟨by exact eW_, hB_ HB⟩
def state_Right.f (k : Nat) (aD : Int) (aC : Int) (aJ : List (S58)) : Option (Bool) := if aD ≥ 1 then (if aD ≤ 1099511627776 then (if aC ≥ 0 then (if aC ≤ 1099511627776 then ((entry_Right.f k aJ).bind fun bL => (some bL)) else (some false)) else (some false)) else (some false)) else (some false)
theorem state_Right.mono : ∀ a0 a1 a2 k, LeO (state_Right.f k a0 a1 a2) (state_Right.f (k + 1) a0 a1 a2) := by
 intro a0 a1 a2 k
 unfold state_Right.f
 with_reducible repeat' first | exact entry_Right.mono _ _ | exact LeO.refl _ | exact LeO.none _ | refine LeO.ite ?_ ?_ | refine LeO.bind ?_ (fun _ => ?_)
theorem state_Right.calls (k : Nat) (aD : Int) (aC : Int) (aQ : Option Addr) (aP : Nat) (aJ : List (S58)) (r : Bool) (w : World) (bS : Kd.C k58 w aQ aJ.length aJ) (bT : aJ.length ≤ aP) (h : state_Right.f k aD aC aJ = some r) :
  Calls Try.prog 63 #[.agg #[.int .i64 aD, .int .i64 aC, .slice aQ aJ.length aP]] w fun e w' => e = .returned (.bool r) ∧ Below w.heap.size w w' := by
 have hu35 := Try.underlying35; have cD := Zq_.mk bS; have cE := Zq_.mk bT; clear bS bT; have HB := Zq_.mk (Below.refl w.heap.size w); have H : (if aD ≥ 1 then (if aD ≤ 1099511627776 then (if aC ≥ 0 then (if aC ≤ 1099511627776 then ((entry_Right.f k aJ).bind fun bL => (some bL)) else (some false)) else (some false)) else (some false)) else (some false)) = some r := h; clear h
 by_cases c2 : aD ≥ 1
 ·rw [if_pos c2] at H; have bO : decide (1 ≤ aD) = true := decide_eq_true c2; clear c2
  by_cases c3 : aD ≤ 1099511627776
  ·rw [if_pos c3] at H; have bR : decide (aD ≤ 1099511627776) = true := decide_eq_true c3; clear c3
   by_cases c4 : aC ≥ 0
   ·rw [if_pos c4] at H; have bQ : decide (0 ≤ aC) = true := decide_eq_true c4; clear c4
    by_cases c5 : aC ≤ 1099511627776
    ·rw [if_pos c5] at H; have bN : decide (aC ≤ 1099511627776) = true := decide_eq_true c5; clear c5; replace H := ob_ H; obtain ⟨bL, A60, H⟩ := H; replace H : (some bL) = some r := H; have A6 := Zq_.mk A60; clear A60; obtain rfl := Option.some.inj H
     go_enter Try.func63, Try.ntmps63
     go_wp2_with (first | ((with_reducible refine qd_ (N := 1) rfl ?_); refine bE_ 1 #[.int .i64 aD, .int .i64 aC, .slice aQ aJ.length aP] 35 ?_; intro aI hg w7 hbox hb; have aA := Zq_.mk (hbox); have aK := gW_ (w := w) hg (hB_ HB); have aL := gW_ (w := w) hg (hB_ HB); replace HB := sB_ HB hb; clear hb hbox hg; obtain ⟨hcz8_0, hcz8_1, hcz8_2⟩ := c3_ aA; obtain ⟨hfz8_0, hfz8_1, hfz8_2⟩ := f3_ aA) | (go_at_call 76; (with_reducible refine (entry_Right.calls k _ _ aJ bL _ ?side1 ?side2 A6.out).mono ?_); (case side1 => exact cX_ (Kd.qg_ cD.out HB.out)); (case side2 => exact cE.out); rintro e w9 ⟨rfl, hb⟩; replace aA := Zq_.mk (qc_ (g := aI) (o := .cells #[.int .i64 aD, .int .i64 aC, .slice aQ aJ.length aP] 35 (0, 0)) (by exact bK_ aA) hb); replace HB := sB_ HB hb; (try clear hb)))
     go_ret
     exact ⟨by exact eW_, by exact hSet_ HB⟩
    ·rw [if_neg c5] at H; have bN : decide (aC ≤ 1099511627776) = false := decide_eq_false c5; clear c5; obtain rfl := Option.some.inj H
     go_enter Try.func63, Try.ntmps63
     go_wp2_with (first | ((with_reducible refine qd_ (N := 1) rfl ?_); refine bE_ 1 #[.int .i64 aD, .int .i64 aC, .slice aQ aJ.length aP] 35 ?_; intro aI hg w10 hbox hb; have aA := Zq_.mk (hbox); have aK := gW_ (w := w) hg (hB_ HB); have aL := gW_ (w := w) hg (hB_ HB); replace HB := sB_ HB hb; clear hb hbox hg; obtain ⟨bI, bH, bG⟩ := c3_ aA; obtain ⟨aZ, aY, aX⟩ := f3_ aA))
     go_ret
     exact ⟨by exact eW_, by exact hSet_ HB⟩
   ·rw [if_neg c4] at H; have bQ : decide (0 ≤ aC) = false := decide_eq_false c4; clear c4; obtain rfl := Option.some.inj H
    go_enter Try.func63, Try.ntmps63
    go_wp2_with (first | ((with_reducible refine qd_ (N := 1) rfl ?_); refine bE_ 1 #[.int .i64 aD, .int .i64 aC, .slice aQ aJ.length aP] 35 ?_; intro aI hg w12 hbox hb; have aA := Zq_.mk (hbox); have aK := gW_ (w := w) hg (hB_ HB); have aL := gW_ (w := w) hg (hB_ HB); replace HB := sB_ HB hb; clear hb hbox hg; obtain ⟨bF, bE, bD⟩ := c3_ aA; obtain ⟨aW, aV, aU⟩ := f3_ aA))
    go_ret
    exact ⟨by exact eW_, by exact hSet_ HB⟩
  ·rw [if_neg c3] at H; have bR : decide (aD ≤ 1099511627776) = false := decide_eq_false c3; clear c3; obtain rfl := Option.some.inj H
   go_enter Try.func63, Try.ntmps63
   go_wp2_with (first | ((with_reducible refine qd_ (N := 1) rfl ?_); refine bE_ 1 #[.int .i64 aD, .int .i64 aC, .slice aQ aJ.length aP] 35 ?_; intro aI hg w14 hbox hb; have aA := Zq_.mk (hbox); have aK := gW_ (w := w) hg (hB_ HB); have aL := gW_ (w := w) hg (hB_ HB); replace HB := sB_ HB hb; clear hb hbox hg; obtain ⟨bC, bB, bA⟩ := c3_ aA; obtain ⟨aT, aS, aR⟩ := f3_ aA))
   go_ret
   exact ⟨by exact eW_, by exact hSet_ HB⟩
 ·rw [if_neg c2] at H; have bO : decide (1 ≤ aD) = false := decide_eq_false c2; clear c2; obtain rfl := Option.some.inj H
  go_enter Try.func63, Try.ntmps63
  go_wp2_with (first | ((with_reducible refine qd_ (N := 1) rfl ?_); refine bE_ 1 #[.int .i64 aD, .int .i64 aC, .slice aQ aJ.length aP] 35 ?_; intro aI hg w16 hbox hb; have aA := Zq_.mk (hbox); have aK := gW_ (w := w) hg (hB_ HB); have aL := gW_ (w := w) hg (hB_ HB); replace HB := sB_ HB hb; clear hb hbox hg; obtain ⟨hcz17_0, hcz17_1, hcz17_2⟩ := c3_ aA; obtain ⟨hfz17_0, hfz17_1, hfz17_2⟩ := f3_ aA))
  go_ret
  exact ⟨by exact eW_, by exact hSet_ HB⟩
open Go.Proofs.YtgipbmjkgciccaaW.Hw in
theorem ContainsFuncE.calls (p : S58 → Bool) (g : Nat) (lb : Array Value) (eg : ∀ args w, (callFunc g args).run Try.prog w = .ok (.enter g args) w) (A0 : Option Addr) (c0 : Nat) (l0 : List S58) (w : World)
  (hp : PredK Try.prog k58 g lb aggOf p w) (hr0 : Kd.C k58 w A0 l0.length l0) :
  Calls Try.prog 64 #[.slice A0 l0.length c0, .func (.func g) #[] lb] w fun e w' => e = .returned (.bool (l0.any p)) ∧ Below w.heap.size w w' := by
 have hcall := IndexFuncE.calls p g lb eg A0 c0 l0 w hp hr0; rw [← idxI_any]; generalize idxI p l0 = r at hcall ⊢; clear hp hr0
 go_enter Try.func64, Try.ntmps64
 go_wp2_with fail
 refine hcall.mono ?_; rintro e w1 ⟨rfl, hb1⟩
 go_wp2_with fail
 go_ret
 exact ⟨rfl, hb1⟩
end Go.Proofs.Ytgipbmjkgciccaa.P

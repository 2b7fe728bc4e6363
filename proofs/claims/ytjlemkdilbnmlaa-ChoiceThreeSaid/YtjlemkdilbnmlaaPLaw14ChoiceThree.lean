/- What printed functions come to, and that the machine's calls do it. No condition. -/
import Derived.Test.YtjlemkdilbnmlaaPChoiceRound
import Derived.Test.YtjlemkdilbnmlaaPChoiceOne
namespace Go.Proofs.Ytjlemkdilbnmlaa.P
set_option maxHeartbeats 8000000
set_option maxRecDepth 100000
open Go.RowKit Go.Proofs.YtjlemkdilbnmlaaW.PrintWords Go.Proofs.YtjlemkdilbnmlaaW.PrintLast Go.Proofs.YtjlemkdilbnmlaaW.PrintMore
attribute [local go_sem] max2_int min2_int max_two min_two max_three min_three max_four min_four Go.Proofs.YtjlemkdilbnmlaaW.Hw.string_gtr
set_option linter.unusedVariables false
set_option linter.unusedSimpArgs false
def law14_ChoiceThree.l0 : Nat → List Int → Int → List Int → List Int → List Int → Option (Bool)
 | 0, _, _, _, _, _ => none
 | k + 1, x5, x6, aN, aP, aM => if x6 < (x5.length : Int) then (if 0 ≤ x6 then ((ref14_Has.f k aN (rd x5 x6)).bind fun dU => (if dU = true then (if x6 ≤ (x5.length : Int) then ((ref14_Has.f k (x5.take (x6 : Int).toNat) (rd x5 x6)).bind fun bU => (if bU = true then (some false) else (law14_ChoiceThree.l0 k x5 (wrap64 (x6 + 1)) aN aP aM))) else (none)) else ((ref14_Has.f k aP (rd x5 x6)).bind fun bT => (if bT = true then (if x6 ≤ (x5.length : Int) then ((ref14_Has.f k (x5.take (x6 : Int).toNat) (rd x5 x6)).bind fun bH => (if bH = true then (some false) else (law14_ChoiceThree.l0 k x5 (wrap64 (x6 + 1)) aN aP aM))) else (none)) else ((ref14_Has.f k aM (rd x5 x6)).bind fun bG => (if bG = true then (if x6 ≤ (x5.length : Int) then ((ref14_Has.f k (x5.take (x6 : Int).toNat) (rd x5 x6)).bind fun bB => (if bB = true then (some false) else (law14_ChoiceThree.l0 k x5 (wrap64 (x6 + 1)) aN aP aM))) else (none)) else (some false))))))) else (none)) else (if (x5.length : Int) ≤ 3 then (if (x5.length : Int) > 0 then (some true) else (some ((wrap64 ((aN.length : Int) + (aM.length : Int))) == 0))) else (some false))
def law14_ChoiceThree.f (k : Nat) (aE : List Int) (aF : List Int) (aG : List Int) (aV : Int) (aU : Int) (aT : Int) : Option (Bool) := (law14_alive.f k).bind fun bW => (if bW = true then ((law14_great.f aE aF aG).bind fun bV => (if bV = true then (some true) else ((choice_Round.f k aE aF aG aV aU aT).bind fun aC => (law14_ChoiceThree.l0 k aC 0 aE aF aG)))) else (some false))
theorem law14_ChoiceThree.mono_l : ∀ k, (∀ y0 y1 y2 y3 y4, LeO (law14_ChoiceThree.l0 k y0 y1 y2 y3 y4) (law14_ChoiceThree.l0 (k + 1) y0 y1 y2 y3 y4))
 | 0 => fun _ _ _ _ _ r h => by simp [law14_ChoiceThree.l0] at h
 | k + 1 => by
  have ih0 := law14_ChoiceThree.mono_l k
  ·intro y0 y1 y2 y3 y4
   unfold law14_ChoiceThree.l0
   with_reducible repeat' first | exact ih0 _ _ _ _ _ | exact law14_alive.mono _ | exact ref14_Has.mono _ _ _ | exact choice_Round.mono _ _ _ _ _ _ _ | exact LeO.refl _ | exact LeO.none _ | refine LeO.ite ?_ ?_ | refine LeO.bind ?_ (fun _ => ?_)
theorem law14_ChoiceThree.mono : ∀ a0 a1 a2 a3 a4 a5 k, LeO (law14_ChoiceThree.f k a0 a1 a2 a3 a4 a5) (law14_ChoiceThree.f (k + 1) a0 a1 a2 a3 a4 a5) := by
 intro a0 a1 a2 a3 a4 a5 k; have ih0 := law14_ChoiceThree.mono_l k
 unfold law14_ChoiceThree.f
 with_reducible repeat' first | exact ih0 _ _ _ _ _ | exact law14_alive.mono _ | exact ref14_Has.mono _ _ _ | exact choice_Round.mono _ _ _ _ _ _ _ | exact LeO.refl _ | exact LeO.none _ | refine LeO.ite ?_ ?_ | refine LeO.bind ?_ (fun _ => ?_)
def law14_ChoiceThree.T9 : Bool × List (List Nat × List Nat) := (true, [([], []), ([0], [0]), ([], []), ([], []), ([2, 3], [2, 3]), ([4], [4]), ([1, 5], [1, 5]), ([6], [6]), ([7, 6], [7]), ([8], [8]), ([9, 8], [8, 9]), ([8], [8]), ([8], [8]), ([11, 12, 8], [8, 11, 12]), ([13, 8], [8, 13]), ([10, 14, 8, 8], [8, 10, 14]), ([15, 8], [8, 15]), ([8, 16], [8, 16]), ([17, 15], [17]), ([18], [18]), ([19, 18], [18, 19]), ([18], [18]), ([18], [18]), ([21, 22, 18], [18, 21, 22]), ([23, 18], [18, 23]), ([20, 24, 18, 18], [18, 20, 24]), ([25, 18], [18, 25]), ([18, 26], [18, 26]), ([27, 25], [27]), ([28], [28]), ([28], [28]), ([29, 30, 28], [28, 29, 30]), ([28], [28]), ([28], [28]), ([32, 33, 28], [28, 32, 33]), ([34, 28], [28, 34]), ([31, 35, 28, 28], [28, 31, 35]), ([28, 36], [28, 36])])
def law14_ChoiceThree.B9 : List Nat := [0, 1, 0, 0, 12, 28, 63, 127, 255, 511, 1023, 511, 511, 6655, 14847, 32767, 65535, 131071, 262143, 524287, 1048575, 524287, 524287, 6815743, 15204351, 33554431, 67108863, 134217727, 268435455, 536870911, 536870911, 2147483647, 536870911, 536870911, 13421772799, 30601641983, 68719476735, 137438953471]
theorem law14_ChoiceThree.tab9 : rtab .any (opsOf Try.f4 9) = law14_ChoiceThree.T9 := by kernel_rfl
theorem law14_ChoiceThree.bits9 : waitsOk law14_ChoiceThree.T9.2 law14_ChoiceThree.B9 = true := by kernel_rfl
theorem law14_ChoiceThree.calls (k : Nat) (aW : Option Addr) (aS : Nat) (aE : List Int) (aY : Option Addr) (aX : Nat) (aF : List Int) (bD : Option Addr) (bC : Nat) (aG : List Int) (aV : Int) (aU : Int) (aT : Int) (r : Bool) (w : World) (dF : Kd.C (Kd.int .i64) w aW aE.length aE) (dL : aE.length ≤ aS) (dE : Kd.C (Kd.int .i64) w aY aF.length aF) (dK : aF.length ≤ aX) (dD : Kd.C (Kd.int .i64) w bD aG.length aG) (dJ : aG.length ≤ bC) (h : law14_ChoiceThree.f k aE aF aG aV aU aT = some r) (hrt : r = true) :
  Calls Try.prog 4 #[.agg #[.slice aW aE.length aS, .slice aY aF.length aX, .slice bD aG.length bC], .agg #[.int .u32 aV, .int .u32 aU, .int .u32 aT]] w fun e w' => e = .returned (.bool r) ∧ Below w.heap.size w w' := by
 have HRT := Zq_.mk hrt; clear hrt; have hu24 := Try.underlying24; have hu26 := Try.underlying26; have aZ := Zq_.mk dF; have bA := Zq_.mk dL; clear dF dL; have bE := Zq_.mk dE; have bF := Zq_.mk dK; clear dE dK; have bO := Zq_.mk dD; have bP := Zq_.mk dJ; clear dD dJ; have HB := Zq_.mk (Below.refl w.heap.size w); have H : ((law14_alive.f k).bind fun bW => (if bW = true then ((law14_great.f aE aF aG).bind fun bV => (if bV = true then (some true) else ((choice_Round.f k aE aF aG aV aU aT).bind fun aC => (law14_ChoiceThree.l0 k aC 0 aE aF aG)))) else (some false))) = some r := h; clear h; replace H := ob_ H; obtain ⟨bW, A30, H⟩ := H; (try dsimp only at H); have A3 := Zq_.mk A30; clear A30
 by_cases c4 : bW = true
 ·subst c4
  rw [if_pos rfl] at H; replace H := ob_ H; obtain ⟨bV, A50, H⟩ := H; (try dsimp only at H); have A5 := Zq_.mk A50; clear A50
  by_cases c6 : bV = true
  ·subst c6
   rw [if_pos rfl] at H; obtain rfl := Option.some.inj H
   go_enter Try.func4, Try.ntmps4
   go_wp2_with (first | ((with_reducible refine gate_dst (N := 2) rfl ?_); (try (refine gate_guard (by rfl) ?_; dsimp only)); refine bE_ 2 #[.slice aW aE.length aS, .slice aY aF.length aX, .slice bD aG.length bC] 24 ?_; intro dN hg w7 hbox hb; have aA := Zq_.mk (hbox); have eY := gW_ (w := w) hg (hB_ HB); have fA := gW_ (w := w) hg (hB_ HB); replace HB := sB_ HB hb; clear hb hbox hg) | ((with_reducible refine gate_dst (N := 3) rfl ?_); (try (refine gate_guard (by rfl) ?_; dsimp only)); refine bE_ 3 #[.int .u32 aV, .int .u32 aU, .int .u32 aT] 26 ?_; intro dM hg w8 hbox hb; have aD := Zq_.mk (hbox); have eX := gW_ (w := w) hg (by exact hSet_ HB); have eZ := gW_ (w := w) hg (by exact hSet_ HB); replace HB := sB_ HB hb; have aL := nL_ aA hg; have aK := nG_ aA hg; replace aA := kB_ aA hb; clear hb hbox hg) | ((with_reducible refine qk_ (f := 7) rfl ?_); refine goesL_ (some 7) rfl rfl Try.func7 (by kernel_rfl) rfl #[] rfl aR_ ?_; (with_reducible refine (law14_alive.calls k  true _ A3.out).mono ?_); rintro e w9 ⟨rfl, hb⟩; refine ⟨_, rfl, ?_⟩; replace aA := kB_ aA hb; replace aD := kB_ aD hb; replace HB := sB_ HB hb; (try clear hb); have hnb10 := aL.out; have hnc10 := aK.out; obtain ⟨cZ, cY, cX⟩ := c3_ aA; obtain ⟨cN, cM, cL⟩ := f3_ aA) | ((with_reducible refine qk_ (f := 8) rfl ?_); refine goesL_ (some 10) rfl rfl Try.func8 (by kernel_rfl) rfl #[.agg #[.slice aW aE.length aS, .slice aY aF.length aX, .slice bD aG.length bC]] rfl aR_ ?_; (with_reducible refine (law14_great.calls _ _ aE _ _ aF _ _ aG true _ ?side1 ?side2 ?side3 ?side4 ?side5 ?side6 A5.out).mono ?_); (case side1 => exact cX_ (Kd.qe_ aZ.out HB.out)); (case side2 => exact bA.out); (case side3 => exact cX_ (Kd.qe_ bE.out HB.out)); (case side4 => exact bF.out); (case side5 => exact cX_ (Kd.qe_ bO.out HB.out)); (case side6 => exact bP.out); rintro e w12 ⟨rfl, hb⟩; refine ⟨_, rfl, ?_⟩; replace aA := kB_ aA hb; replace aD := kB_ aD hb; replace HB := sB_ HB hb; (try clear hb)))
   go_ret
   exact ⟨by exact eW_, by exact hSet_ HB⟩
  ·replace c6 := Bool.eq_false_iff.mpr c6; subst c6
   have H1 : ((choice_Round.f k aE aF aG aV aU aT).bind fun aC => (law14_ChoiceThree.l0 k aC 0 aE aF aG)) = some r := by rw [if_neg (show ¬ (false = true) by decide)] at H; exact H
   clear H; have H := H1; clear H1; replace H := ob_ H; obtain ⟨aC, fH, H⟩ := H; (try dsimp only at H); have A13 := Zq_.mk fH; clear fH; have H' := Zq_.mk H; clear H
   go_enter Try.func4, Try.ntmps4
   go_wp2_with (first | ((with_reducible refine gate_dst (N := 2) rfl ?_); (try (refine gate_guard (by rfl) ?_; dsimp only)); refine bE_ 2 #[.slice aW aE.length aS, .slice aY aF.length aX, .slice bD aG.length bC] 24 ?_; intro dN hg w14 hbox hb; have aA := Zq_.mk (hbox); have eY := gW_ (w := w) hg (hB_ HB); have fA := gW_ (w := w) hg (hB_ HB); replace HB := sB_ HB hb; clear hb hbox hg) | ((with_reducible refine gate_dst (N := 3) rfl ?_); (try (refine gate_guard (by rfl) ?_; dsimp only)); refine bE_ 3 #[.int .u32 aV, .int .u32 aU, .int .u32 aT] 26 ?_; intro dM hg w15 hbox hb; have aD := Zq_.mk (hbox); have eX := gW_ (w := w) hg (by exact hSet_ HB); have eZ := gW_ (w := w) hg (by exact hSet_ HB); replace HB := sB_ HB hb; have aL := nL_ aA hg; have aK := nG_ aA hg; replace aA := kB_ aA hb; clear hb hbox hg) | ((with_reducible refine qk_ (f := 7) rfl ?_); refine goesL_ (some 7) rfl rfl Try.func7 (by kernel_rfl) rfl #[] rfl aR_ ?_; (with_reducible refine (law14_alive.calls k  true _ A3.out).mono ?_); rintro e w16 ⟨rfl, hb⟩; refine ⟨_, rfl, ?_⟩; replace aA := kB_ aA hb; replace aD := kB_ aD hb; replace HB := sB_ HB hb; (try clear hb); have hnb17 := aL.out; have hnc17 := aK.out; obtain ⟨cW, cV, cU⟩ := c3_ aA; obtain ⟨cK, cJ, cI⟩ := f3_ aA) | ((with_reducible refine qk_ (f := 8) rfl ?_); refine goesL_ (some 10) rfl rfl Try.func8 (by kernel_rfl) rfl #[.agg #[.slice aW aE.length aS, .slice aY aF.length aX, .slice bD aG.length bC]] rfl aR_ ?_; (with_reducible refine (law14_great.calls _ _ aE _ _ aF _ _ aG false _ ?side1 ?side2 ?side3 ?side4 ?side5 ?side6 A5.out).mono ?_); (case side1 => exact cX_ (Kd.qe_ aZ.out HB.out)); (case side2 => exact bA.out); (case side3 => exact cX_ (Kd.qe_ bE.out HB.out)); (case side4 => exact bF.out); (case side5 => exact cX_ (Kd.qe_ bO.out HB.out)); (case side6 => exact bP.out); rintro e w19 ⟨rfl, hb⟩; refine ⟨_, rfl, ?_⟩; replace aA := kB_ aA hb; replace aD := kB_ aD hb; replace HB := sB_ HB hb; (try clear hb); obtain ⟨cT, cS, cR⟩ := c3_ aA; obtain ⟨cH, cG, cF⟩ := f3_ aA; obtain ⟨cQ, cP, cO⟩ := c3_ aD; obtain ⟨cE, cD, cC⟩ := f3_ aD) | ((with_reducible refine qk_ (f := 12) rfl ?_); refine goesL_ (some 18) rfl rfl Try.func12 (by kernel_rfl) rfl #[.slice aW aE.length aS, .slice aY aF.length aX, .slice bD aG.length bC, .agg #[.int .u32 aV, .int .u32 aU, .int .u32 aT]] rfl aR_ ?_; (with_reducible refine (choice_Round.calls k _ _ aE _ _ aF _ _ aG aV aU aT aC _ ?side1 ?side2 ?side3 ?side4 ?side5 ?side6 A13.out).mono ?_); (case side1 => exact cX_ (Kd.qe_ aZ.out HB.out)); (case side2 => exact bA.out); (case side3 => exact cX_ (Kd.qe_ bE.out HB.out)); (case side4 => exact bF.out); (case side5 => exact cX_ (Kd.qe_ bO.out HB.out)); (case side6 => exact bP.out); rintro e w22 ⟨v106, rfl, ho0, hb⟩; refine ⟨_, rfl, ?_⟩; have eT := Zq_.mk (Kd.qn_ ho0 (qa_ (by exact hSet_ HB))); replace aA := kB_ aA hb; replace aD := kB_ aD hb; replace HB := sB_ HB hb; (try clear hb); (try clear ho0)))
   go_loopg [6] k (fun kq v6 w' => ∃ (aB : Int), v6 = .int .i64 aB ∧ Zq_ (law14_ChoiceThree.l0 kq aC aB aE aF aG = some r) ∧ Zq_ (kq ≤ k) ∧ Zq_ (Kd.R (Kd.int .i64) 3 w' w.heap.size (fun _ => True) v106 aC) ∧ Zq_ (w'.heap[dN]? = some (.cells #[(.slice aW aE.length aS), (.slice aY aF.length aX), (.slice bD aG.length bC)] 24 (0, 0))) ∧ Zq_ (w'.heap[dM]? = some (.cells #[.int .u32 aV, .int .u32 aU, .int .u32 aT] 26 (0, 0))) ∧ Zq_ (Below w.heap.size w w'))
   case atStart => exact ⟨(0), eS_, H', ⟨Nat.le_refl _⟩, ⟨by (with_reducible repeat (first | apply Kd.qc_ | apply Kd.qb_ | apply Kd.R_drew)); exact eT.out⟩, ⟨by (with_reducible repeat (first | refine ql_ ?_ _ | refine qm_ ?_ | refine blk_alloc ?_ _)); exact aA.out⟩, ⟨by (with_reducible repeat (first | refine ql_ ?_ _ | refine qm_ ?_ | refine blk_alloc ?_ _)); exact aD.out⟩, ⟨by exact hSet_ HB⟩⟩
   case round =>
    clear H'
    try clear c1
    try clear p2
    try clear c4
    try clear c6
    try clear c7
    try clear c8
    try clear c10
    try clear c12
    try clear c17
    try clear cZ
    try clear cY
    try clear cX
    try clear cW
    try clear cV
    try clear cU
    try clear cT
    try clear cS
    try clear cR
    try clear cQ
    try clear cP
    try clear cO
    try clear cN
    try clear cM
    try clear cL
    try clear cK
    try clear cJ
    try clear cI
    try clear cH
    try clear cG
    try clear cF
    try clear cE
    try clear cD
    try clear cC
    obtain ⟨aB, rfl, HA, HK1, aH, aA, aD, HB⟩ := hrel
    cases gk with
    | zero => exact absurd HA.out (by simp [law14_ChoiceThree.l0])
    | succ k1 =>
     have H := HA.out; clear HA; simp only [law14_ChoiceThree.l0] at H
     by_cases c23 : aB < (aC.length : Int)
     ·rw [if_pos c23] at H; have eO : decide (aB < (aC.length : Int)) = true := decide_eq_true c23; clear c23
      by_cases c24 : 0 ≤ aB
      ·rw [if_pos c24] at H; have c24b0 : decide (0 ≤ aB) = true := decide_eq_true c24; clear c24; replace H := ob_ H; obtain ⟨dU, fG, H⟩ := H; (try dsimp only at H); have A25 := Zq_.mk fG; clear fG
       by_cases c26 : dU = true
       ·subst c26
        rw [if_pos rfl] at H; have c27b0 := eq_true (dA_ : 0 ≤ aB)
        by_cases c28 : aB ≤ (aC.length : Int)
        ·rw [if_pos c28] at H; have c28b0 := eq_true c28; have c28b1 : decide (aB ≤ (aC.length : Int)) = true := decide_eq_true c28; clear c28; obtain ⟨bS, bZ⟩ : ∃ y_ : List Int, y_ = (aC.take (aB : Int).toNat) := ⟨_, rfl⟩
         replace H : ((ref14_Has.f k1 bS (rd aC aB)).bind fun bU => (if bU = true then (some false) else (law14_ChoiceThree.l0 k1 aC (wrap64 (aB + 1)) aE aF aG))) = some r := hY_ bZ H
         have dQ := Zq_.mk bZ; clear bZ; replace H := ob_ H; obtain ⟨bU, fF, H⟩ := H; (try dsimp only at H); have A29 := Zq_.mk fF; clear fF
         by_cases c30 : bU = true
         ·rw [if_pos c30] at H; exact absurd ((Option.some.inj H).trans HRT.out) (by decide)
         ·replace c30 := Bool.eq_false_iff.mpr c30; subst c30
          have H1 : (law14_ChoiceThree.l0 k1 aC (wrap64 (aB + 1)) aE aF aG) = some r := by rw [if_neg (show ¬ (false = true) by decide)] at H; exact H
          clear H; have H := H1; clear H1; have H' := Zq_.mk H; clear H; obtain ⟨Ao34, dC, eo34⟩ := Kd.R_slice aH.out; subst eo34; (try go_wp2); replace aH := Zq_.mk (Kd.R_drew aH.out); replace aA := Zq_.mk (qm_ aA.out); replace aD := Zq_.mk (qm_ aD.out); replace HB := Zq_.mk (qj_ HB.out); have aR : 0 ≤ (aB : Int) := dA_; have aQ : aB < (aC.length : Int) := dA_; obtain ⟨aI, cA, aJ⟩ := Kd.at_int (Kd.R_reads' aH.out).2.2 aB aR aQ; cases cA; replace aR := eq_true aR; replace aQ := eq_true aQ; have eC : 0 ≤ (aB : Int) := dA_; have dY : aB < (aC.length : Int) := dA_; obtain ⟨eS, e114, bN⟩ := Kd.at_int (Kd.R_reads' aH.out).2.2 aB eC dY; obtain rfl : aI = eS := (by injection e114); replace eC := eq_true eC; replace dY := eq_true dY; refine gS_ 38 (hA_ (b0_ aA) (hA_ (b1_ aA) (hA_ (b2_ aA) (hA_ aJ (hZ_ bN))))) (fun hHeld => ?_); refine with_tabW law14_ChoiceThree.tab9 law14_ChoiceThree.bits9 (fun HT_ HW_ => ?_); generalize wr.drew = w35 at aH aA aD HB aJ bN hHeld ⊢; refine pQ_ 0 HT_ ?_; refine pQ_ 2 HT_ ?_; refine pQ_ 3 HT_ ?_; refine pQ_ 4 HT_ ?_; refine tL_ 1 HT_ HW_ hHeld ?_; refine tL_ 5 HT_ HW_ hHeld ?_; refine oN_ 6 31 38 127 HT_ (fun K hK => ?_); refine goes_ Try.func17 (by kernel_rfl) rfl #[.slice aW aE.length aS, .int .i64 (rd aC aB)] (by rfl) rfl rfl aR_ ?_
          with_reducible refine (ref14_Has.calls k1 _ _ aE (rd aC aB) true _ ?side1 ?side2 A25.out).mono ?_
          (case side1 => exact cX_ (Kd.qe_ aZ.out HB.out)); (case side2 => exact bA.out); rintro e w' ⟨rfl, ⟨nd, rfl⟩⟩; refine ⟨_, rfl, ?_⟩; have q36 : (aB : Int) ≤ ((aC.length : Int) : Int) := dA_; obtain ⟨i036, dI, _, hsz36, _⟩ := info_parts info3; have hroom36 : aC.length ≤ dC := (Kd.R_reads' aH.out).2.1; have hC36 : Kd.C (Kd.int .i64) _ (some aI) aC.length aC := (Kd.R_reads' aH.out).2.2; have hcut36 := cut_to (P := Try.prog) 22 3 .i64 Try.underlying22 dI (some aI) aC.length dC aB (dA_) q36 hroom36; have eI := Kd.C_take (m := (aB : Int).toNat) hC36 (by omega); have eF : bS.length = (aB : Int).toNat := (by rw [dQ.out, List.length_take]; omega); rw [← dQ.out] at eI; rw [← eF] at hcut36; have dT := Zq_.mk eI; have eW := Zq_.mk (show bS.length ≤ dC from by omega); clear eI hC36 hroom36 dI hsz36; have KY36 := Zq_.mk eF; clear eF; have KL36 := Zq_.mk (show (aB : Int).toNat ≤ aC.length from by omega); replace q36 := eq_true q36; refine hK.out _ _ ⟨b0_ aA, b1_ aA, b2_ aA, hHeld.2.2.2.1, hHeld.2.2.2.2⟩ (fun hHeld => ?_); clear hK K; refine norm_ (a' := ?_) ?_ ?_; rotate_left
          ·show Act.put _ (some 31) _ = _
           simp only [Act.put, sa_, sb_, sc_, i64_w, i32_w]; rfl
          refine up0_ 7 ?_; (iterate 29 first | refine vN_ ?_ | refine pN_ ?_ | refine tN_ ?_); refine oN_ 36 61 38 137438953471 HT_ (fun K hK => ?_); refine goes_ Try.func17 (by kernel_rfl) rfl #[.slice (some aI) bS.length dC, .int .i64 (rd aC aB)] (by rfl) rfl rfl aR_ ?_
          with_reducible refine (ref14_Has.calls k1 _ _ bS (rd aC aB) false _ ?side1 ?side2 A29.out).mono ?_
          (case side1 => repeat (first | exact (by repeat (first | (with_reducible exact dT.out) | (with_reducible refine Kd.qg_ ?_ _) | (with_reducible refine Kd.qf_ ?_ _) | (with_reducible refine Kd.C_drew ?_) | exact dT.out)) | (with_reducible refine Kd.qg_ ?_ _) | (with_reducible refine Kd.qf_ ?_ _) | (with_reducible refine Kd.C_drew ?_))); (case side2 => exact eW.out); rintro e w' ⟨rfl, ⟨nd, rfl⟩⟩; refine ⟨_, rfl, ?_⟩; refine hK.out _ _ ⟨b0_ aA, b1_ aA, b2_ aA, hHeld.2.2.2.1, hHeld.2.2.2.2⟩ (fun hHeld => ?_); clear hK K; refine norm_ (a' := ?_) ?_ ?_; rotate_left
          ·show Act.put _ (some 61) _ = _
           simp only [Act.put, sa_, sb_, sc_, i64_w, i32_w]; rfl
          refine pQ_ 37 HT_ ?_; refine dN_ HT_ ?_; (try go_wp2)
          go_roundg k1
          case measure => have := HK1.out; omega
          case rel => exact ⟨(wrap64 (aB + 1)), eS_, H', ⟨by have := HK1.out; omega⟩, ⟨by (with_reducible repeat (first | apply Kd.qc_ | apply Kd.qb_ | apply Kd.R_drew)); exact aH.out⟩, ⟨by (with_reducible repeat (first | refine ql_ ?_ _ | refine qm_ ?_ | refine blk_alloc ?_ _)); exact aA.out⟩, ⟨by (with_reducible repeat (first | refine ql_ ?_ _ | refine qm_ ?_ | refine blk_alloc ?_ _)); exact aD.out⟩, ⟨by exact hSet_ HB⟩⟩
        ·rw [if_neg c28] at H; exact absurd H (by simp)
       ·replace c26 := Bool.eq_false_iff.mpr c26; subst c26
        have H1 : ((ref14_Has.f k1 aF (rd aC aB)).bind fun bT => (if bT = true then (if aB ≤ (aC.length : Int) then ((ref14_Has.f k1 (aC.take (aB : Int).toNat) (rd aC aB)).bind fun bH => (if bH = true then (some false) else (law14_ChoiceThree.l0 k1 aC (wrap64 (aB + 1)) aE aF aG))) else (none)) else ((ref14_Has.f k1 aG (rd aC aB)).bind fun bG => (if bG = true then (if aB ≤ (aC.length : Int) then ((ref14_Has.f k1 (aC.take (aB : Int).toNat) (rd aC aB)).bind fun bB => (if bB = true then (some false) else (law14_ChoiceThree.l0 k1 aC (wrap64 (aB + 1)) aE aF aG))) else (none)) else (some false))))) = some r := by rw [if_neg (show ¬ (false = true) by decide)] at H; exact H
        clear H; have H := H1; clear H1; replace H := ob_ H; obtain ⟨bT, fE, H⟩ := H; (try dsimp only at H); have A37 := Zq_.mk fE; clear fE
        by_cases c38 : bT = true
        ·subst c38
         rw [if_pos rfl] at H; have c39b0 := eq_true (dA_ : 0 ≤ aB)
         by_cases c40 : aB ≤ (aC.length : Int)
         ·rw [if_pos c40] at H; have c40b0 := eq_true c40; have c40b1 : decide (aB ≤ (aC.length : Int)) = true := decide_eq_true c40; clear c40; obtain ⟨bR, bY⟩ : ∃ y_ : List Int, y_ = (aC.take (aB : Int).toNat) := ⟨_, rfl⟩
          replace H : ((ref14_Has.f k1 bR (rd aC aB)).bind fun bH => (if bH = true then (some false) else (law14_ChoiceThree.l0 k1 aC (wrap64 (aB + 1)) aE aF aG))) = some r := hY_ bY H
          have dP := Zq_.mk bY; clear bY; replace H := ob_ H; obtain ⟨bH, fD, H⟩ := H; (try dsimp only at H); have A41 := Zq_.mk fD; clear fD
          by_cases c42 : bH = true
          ·rw [if_pos c42] at H; exact absurd ((Option.some.inj H).trans HRT.out) (by decide)
          ·replace c42 := Bool.eq_false_iff.mpr c42; subst c42
           have H1 : (law14_ChoiceThree.l0 k1 aC (wrap64 (aB + 1)) aE aF aG) = some r := by rw [if_neg (show ¬ (false = true) by decide)] at H; exact H
           clear H; have H := H1; clear H1; have H' := Zq_.mk H; clear H; obtain ⟨Ao46, dB, eo46⟩ := Kd.R_slice aH.out; subst eo46; (try go_wp2); replace aH := Zq_.mk (Kd.R_drew aH.out); replace aA := Zq_.mk (qm_ aA.out); replace aD := Zq_.mk (qm_ aD.out); replace HB := Zq_.mk (qj_ HB.out); have aR : 0 ≤ (aB : Int) := dA_; have aQ : aB < (aC.length : Int) := dA_; obtain ⟨aI, cA, aJ⟩ := Kd.at_int (Kd.R_reads' aH.out).2.2 aB aR aQ; cases cA; replace aR := eq_true aR; replace aQ := eq_true aQ; have bJ : 0 ≤ (aB : Int) := dA_; have bI : aB < (aC.length : Int) := dA_; obtain ⟨cB, eJ, aO⟩ := Kd.at_int (Kd.R_reads' aH.out).2.2 aB bJ bI; obtain rfl : aI = cB := (by injection eJ); replace bJ := eq_true bJ; replace bI := eq_true bI; have eB : 0 ≤ (aB : Int) := dA_; have dX : aB < (aC.length : Int) := dA_; obtain ⟨eR, e122, bM⟩ := Kd.at_int (Kd.R_reads' aH.out).2.2 aB eB dX; obtain rfl : aI = eR := (by injection e122); replace eB := eq_true eB; replace dX := eq_true dX; refine gS_ 38 (hA_ (b0_ aA) (hA_ (b1_ aA) (hA_ (b2_ aA) (hA_ aJ (hA_ aO (hZ_ bM)))))) (fun hHeld => ?_); refine with_tabW law14_ChoiceThree.tab9 law14_ChoiceThree.bits9 (fun HT_ HW_ => ?_); generalize wr.drew = w47 at aH aA aD HB aJ aO bM hHeld ⊢; refine pQ_ 0 HT_ ?_; refine pQ_ 2 HT_ ?_; refine pQ_ 3 HT_ ?_; refine pQ_ 4 HT_ ?_; refine tL_ 1 HT_ HW_ hHeld ?_; refine tL_ 5 HT_ HW_ hHeld ?_; refine oN_ 6 31 38 127 HT_ (fun K hK => ?_); refine goes_ Try.func17 (by kernel_rfl) rfl #[.slice aW aE.length aS, .int .i64 (rd aC aB)] (by rfl) rfl rfl aR_ ?_
           with_reducible refine (ref14_Has.calls k1 _ _ aE (rd aC aB) false _ ?side1 ?side2 A25.out).mono ?_
           (case side1 => exact cX_ (Kd.qe_ aZ.out HB.out)); (case side2 => exact bA.out); rintro e w' ⟨rfl, ⟨nd, rfl⟩⟩; refine ⟨_, rfl, ?_⟩; refine hK.out _ _ ⟨b0_ aA, b1_ aA, b2_ aA, hHeld.2.2.2.1, hHeld.2.2.2.2.1, hHeld.2.2.2.2.2⟩ (fun hHeld => ?_); clear hK K; refine norm_ (a' := ?_) ?_ ?_; rotate_left
           ·show Act.put _ (some 31) _ = _
            simp only [Act.put, sa_, sb_, sc_, i64_w, i32_w]; rfl
           refine pQ_ 7 HT_ ?_; refine pQ_ 8 HT_ ?_; refine pQ_ 9 HT_ ?_; refine pQ_ 11 HT_ ?_; refine pQ_ 12 HT_ ?_; refine pQ_ 13 HT_ ?_; refine tL_ 10 HT_ HW_ hHeld ?_; refine tL_ 14 HT_ HW_ hHeld ?_; refine oN_ 15 40 38 65535 HT_ (fun K hK => ?_); refine goes_ Try.func17 (by kernel_rfl) rfl #[.slice aY aF.length aX, .int .i64 (rd aC aB)] (by rfl) rfl rfl aR_ ?_
           with_reducible refine (ref14_Has.calls k1 _ _ aF (rd aC aB) true _ ?side1 ?side2 A37.out).mono ?_
           (case side1 => repeat (first | exact (Kd.qe_ bE.out (by exact hSet_ HB)) | (with_reducible refine Kd.qg_ ?_ _) | (with_reducible refine Kd.qf_ ?_ _) | (with_reducible refine Kd.C_drew ?_))); (case side2 => exact bF.out); rintro e w' ⟨rfl, ⟨nd, rfl⟩⟩; refine ⟨_, rfl, ?_⟩; have q48 : (aB : Int) ≤ ((aC.length : Int) : Int) := dA_; obtain ⟨i048, dH, _, hsz48, _⟩ := info_parts info3; have hroom48 : aC.length ≤ dB := (Kd.R_reads' aH.out).2.1; have hC48 : Kd.C (Kd.int .i64) _ (some aI) aC.length aC := (Kd.R_reads' aH.out).2.2; have hcut48 := cut_to (P := Try.prog) 22 3 .i64 Try.underlying22 dH (some aI) aC.length dB aB (dA_) q48 hroom48; have eH := Kd.C_take (m := (aB : Int).toNat) hC48 (by omega); have eE : bR.length = (aB : Int).toNat := (by rw [dP.out, List.length_take]; omega); rw [← dP.out] at eH; rw [← eE] at hcut48; have dS := Zq_.mk eH; have eV := Zq_.mk (show bR.length ≤ dB from by omega); clear eH hC48 hroom48 dH hsz48; have KY48 := Zq_.mk eE; clear eE; have KL48 := Zq_.mk (show (aB : Int).toNat ≤ aC.length from by omega); replace q48 := eq_true q48; refine hK.out _ _ ⟨b0_ aA, b1_ aA, b2_ aA, hHeld.2.2.2.1, hHeld.2.2.2.2.1, hHeld.2.2.2.2.2⟩ (fun hHeld => ?_); clear hK K; refine norm_ (a' := ?_) ?_ ?_; rotate_left
           ·show Act.put _ (some 40) _ = _
            simp only [Act.put, sa_, sb_, sc_, i64_w, i32_w]; rfl
           refine up0_ 16 ?_; (iterate 20 first | refine vN_ ?_ | refine pN_ ?_ | refine tN_ ?_); refine oN_ 36 61 38 137438953471 HT_ (fun K hK => ?_); refine goes_ Try.func17 (by kernel_rfl) rfl #[.slice (some aI) bR.length dB, .int .i64 (rd aC aB)] (by rfl) rfl rfl aR_ ?_
           with_reducible refine (ref14_Has.calls k1 _ _ bR (rd aC aB) false _ ?side1 ?side2 A41.out).mono ?_
           (case side1 => repeat (first | exact (by repeat (first | (with_reducible exact dS.out) | (with_reducible refine Kd.qg_ ?_ _) | (with_reducible refine Kd.qf_ ?_ _) | (with_reducible refine Kd.C_drew ?_) | exact dS.out)) | (with_reducible refine Kd.qg_ ?_ _) | (with_reducible refine Kd.qf_ ?_ _) | (with_reducible refine Kd.C_drew ?_))); (case side2 => exact eV.out); rintro e w' ⟨rfl, ⟨nd, rfl⟩⟩; refine ⟨_, rfl, ?_⟩; refine hK.out _ _ ⟨b0_ aA, b1_ aA, b2_ aA, hHeld.2.2.2.1, hHeld.2.2.2.2.1, hHeld.2.2.2.2.2⟩ (fun hHeld => ?_); clear hK K; refine norm_ (a' := ?_) ?_ ?_; rotate_left
           ·show Act.put _ (some 61) _ = _
            simp only [Act.put, sa_, sb_, sc_, i64_w, i32_w]; rfl
           refine pQ_ 37 HT_ ?_; refine dN_ HT_ ?_; (try go_wp2)
           go_roundg k1
           case measure => have := HK1.out; omega
           case rel => exact ⟨(wrap64 (aB + 1)), eS_, H', ⟨by have := HK1.out; omega⟩, ⟨by (with_reducible repeat (first | apply Kd.qc_ | apply Kd.qb_ | apply Kd.R_drew)); exact aH.out⟩, ⟨by (with_reducible repeat (first | refine ql_ ?_ _ | refine qm_ ?_ | refine blk_alloc ?_ _)); exact aA.out⟩, ⟨by (with_reducible repeat (first | refine ql_ ?_ _ | refine qm_ ?_ | refine blk_alloc ?_ _)); exact aD.out⟩, ⟨by exact hSet_ HB⟩⟩
         ·rw [if_neg c40] at H; exact absurd H (by simp)
        ·replace c38 := Bool.eq_false_iff.mpr c38; subst c38
         have H1 : ((ref14_Has.f k1 aG (rd aC aB)).bind fun bG => (if bG = true then (if aB ≤ (aC.length : Int) then ((ref14_Has.f k1 (aC.take (aB : Int).toNat) (rd aC aB)).bind fun bB => (if bB = true then (some false) else (law14_ChoiceThree.l0 k1 aC (wrap64 (aB + 1)) aE aF aG))) else (none)) else (some false))) = some r := by rw [if_neg (show ¬ (false = true) by decide)] at H; exact H
         clear H; have H := H1; clear H1; replace H := ob_ H; obtain ⟨bG, fC, H⟩ := H; (try dsimp only at H); have A49 := Zq_.mk fC; clear fC
         by_cases c50 : bG = true
         ·subst c50
          rw [if_pos rfl] at H; have c51b0 := eq_true (dA_ : 0 ≤ aB)
          by_cases c52 : aB ≤ (aC.length : Int)
          ·rw [if_pos c52] at H; have c52b0 := eq_true c52; have c52b1 : decide (aB ≤ (aC.length : Int)) = true := decide_eq_true c52; clear c52; obtain ⟨bQ, bX⟩ : ∃ y_ : List Int, y_ = (aC.take (aB : Int).toNat) := ⟨_, rfl⟩
           replace H : ((ref14_Has.f k1 bQ (rd aC aB)).bind fun bB => (if bB = true then (some false) else (law14_ChoiceThree.l0 k1 aC (wrap64 (aB + 1)) aE aF aG))) = some r := hY_ bX H
           have dO := Zq_.mk bX; clear bX; replace H := ob_ H; obtain ⟨bB, fB, H⟩ := H; (try dsimp only at H); have A53 := Zq_.mk fB; clear fB
           by_cases c54 : bB = true
           ·rw [if_pos c54] at H; exact absurd ((Option.some.inj H).trans HRT.out) (by decide)
           ·replace c54 := Bool.eq_false_iff.mpr c54; subst c54
            have H1 : (law14_ChoiceThree.l0 k1 aC (wrap64 (aB + 1)) aE aF aG) = some r := by rw [if_neg (show ¬ (false = true) by decide)] at H; exact H
            clear H; have H := H1; clear H1; have H' := Zq_.mk H; clear H; obtain ⟨Ao58, dA, eo58⟩ := Kd.R_slice aH.out; subst eo58; (try go_wp2); replace aH := Zq_.mk (Kd.R_drew aH.out); replace aA := Zq_.mk (qm_ aA.out); replace aD := Zq_.mk (qm_ aD.out); replace HB := Zq_.mk (qj_ HB.out); have aR : 0 ≤ (aB : Int) := dA_; have aQ : aB < (aC.length : Int) := dA_; obtain ⟨aI, cA, aJ⟩ := Kd.at_int (Kd.R_reads' aH.out).2.2 aB aR aQ; cases cA; replace aR := eq_true aR; replace aQ := eq_true aQ; have bJ : 0 ≤ (aB : Int) := dA_; have bI : aB < (aC.length : Int) := dA_; obtain ⟨cB, eJ, aO⟩ := Kd.at_int (Kd.R_reads' aH.out).2.2 aB bJ bI; obtain rfl : aI = cB := (by injection eJ); replace bJ := eq_true bJ; replace bI := eq_true bI; have eA : 0 ≤ (aB : Int) := dA_; have dW : aB < (aC.length : Int) := dA_; obtain ⟨eQ, e124, bL⟩ := Kd.at_int (Kd.R_reads' aH.out).2.2 aB eA dW; obtain rfl : aI = eQ := (by injection e124); replace eA := eq_true eA; replace dW := eq_true dW; have dZ : 0 ≤ (aB : Int) := dA_; have dV : aB < (aC.length : Int) := dA_; obtain ⟨eP, e130, bK⟩ := Kd.at_int (Kd.R_reads' aH.out).2.2 aB dZ dV; obtain rfl : aI = eP := (by injection e130); replace dZ := eq_true dZ; replace dV := eq_true dV; refine gS_ 38 (hA_ (b0_ aA) (hA_ (b1_ aA) (hA_ (b2_ aA) (hA_ aJ (hA_ aO (hA_ bL (hZ_ bK))))))) (fun hHeld => ?_); refine with_tabW law14_ChoiceThree.tab9 law14_ChoiceThree.bits9 (fun HT_ HW_ => ?_); generalize wr.drew = w59 at aH aA aD HB aJ aO bL bK hHeld ⊢; refine pQ_ 0 HT_ ?_; refine pQ_ 2 HT_ ?_; refine pQ_ 3 HT_ ?_; refine pQ_ 4 HT_ ?_; refine tL_ 1 HT_ HW_ hHeld ?_; refine tL_ 5 HT_ HW_ hHeld ?_; refine oN_ 6 31 38 127 HT_ (fun K hK => ?_); refine goes_ Try.func17 (by kernel_rfl) rfl #[.slice aW aE.length aS, .int .i64 (rd aC aB)] (by rfl) rfl rfl aR_ ?_
            with_reducible refine (ref14_Has.calls k1 _ _ aE (rd aC aB) false _ ?side1 ?side2 A25.out).mono ?_
            (case side1 => exact cX_ (Kd.qe_ aZ.out HB.out)); (case side2 => exact bA.out); rintro e w' ⟨rfl, ⟨nd, rfl⟩⟩; refine ⟨_, rfl, ?_⟩; refine hK.out _ _ ⟨b0_ aA, b1_ aA, b2_ aA, hHeld.2.2.2.1, hHeld.2.2.2.2.1, hHeld.2.2.2.2.2.1, hHeld.2.2.2.2.2.2⟩ (fun hHeld => ?_); clear hK K; refine norm_ (a' := ?_) ?_ ?_; rotate_left
            ·show Act.put _ (some 31) _ = _
             simp only [Act.put, sa_, sb_, sc_, i64_w, i32_w]; rfl
            refine pQ_ 7 HT_ ?_; refine pQ_ 8 HT_ ?_; refine pQ_ 9 HT_ ?_; refine pQ_ 11 HT_ ?_; refine pQ_ 12 HT_ ?_; refine pQ_ 13 HT_ ?_; refine tL_ 10 HT_ HW_ hHeld ?_; refine tL_ 14 HT_ HW_ hHeld ?_; refine oN_ 15 40 38 65535 HT_ (fun K hK => ?_); refine goes_ Try.func17 (by kernel_rfl) rfl #[.slice aY aF.length aX, .int .i64 (rd aC aB)] (by rfl) rfl rfl aR_ ?_
            with_reducible refine (ref14_Has.calls k1 _ _ aF (rd aC aB) false _ ?side1 ?side2 A37.out).mono ?_
            (case side1 => repeat (first | exact (Kd.qe_ bE.out (by exact hSet_ HB)) | (with_reducible refine Kd.qg_ ?_ _) | (with_reducible refine Kd.qf_ ?_ _) | (with_reducible refine Kd.C_drew ?_))); (case side2 => exact bF.out); rintro e w' ⟨rfl, ⟨nd, rfl⟩⟩; refine ⟨_, rfl, ?_⟩; refine hK.out _ _ ⟨b0_ aA, b1_ aA, b2_ aA, hHeld.2.2.2.1, hHeld.2.2.2.2.1, hHeld.2.2.2.2.2.1, hHeld.2.2.2.2.2.2⟩ (fun hHeld => ?_); clear hK K; refine norm_ (a' := ?_) ?_ ?_; rotate_left
            ·show Act.put _ (some 40) _ = _
             simp only [Act.put, sa_, sb_, sc_, i64_w, i32_w]; rfl
            refine up0_ 16 ?_; (iterate 4 refine pN_ ?_); refine pQ_ 21 HT_ ?_; refine pQ_ 22 HT_ ?_; refine pQ_ 23 HT_ ?_; refine tL_ 20 HT_ HW_ hHeld ?_; refine tL_ 24 HT_ HW_ hHeld ?_; refine oN_ 25 50 38 67108863 HT_ (fun K hK => ?_); refine goes_ Try.func17 (by kernel_rfl) rfl #[.slice bD aG.length bC, .int .i64 (rd aC aB)] (by rfl) rfl rfl aR_ ?_
            with_reducible refine (ref14_Has.calls k1 _ _ aG (rd aC aB) true _ ?side1 ?side2 A49.out).mono ?_
            (case side1 => repeat (first | exact (Kd.qe_ bO.out (by exact hSet_ HB)) | (with_reducible refine Kd.qg_ ?_ _) | (with_reducible refine Kd.qf_ ?_ _) | (with_reducible refine Kd.C_drew ?_))); (case side2 => exact bP.out); rintro e w' ⟨rfl, ⟨nd, rfl⟩⟩; refine ⟨_, rfl, ?_⟩; have q60 : (aB : Int) ≤ ((aC.length : Int) : Int) := dA_; obtain ⟨i060, dG, _, hsz60, _⟩ := info_parts info3; have hroom60 : aC.length ≤ dA := (Kd.R_reads' aH.out).2.1; have hC60 : Kd.C (Kd.int .i64) _ (some aI) aC.length aC := (Kd.R_reads' aH.out).2.2; have hcut60 := cut_to (P := Try.prog) 22 3 .i64 Try.underlying22 dG (some aI) aC.length dA aB (dA_) q60 hroom60; have eG := Kd.C_take (m := (aB : Int).toNat) hC60 (by omega); have eD : bQ.length = (aB : Int).toNat := (by rw [dO.out, List.length_take]; omega); rw [← dO.out] at eG; rw [← eD] at hcut60; have dR := Zq_.mk eG; have eU := Zq_.mk (show bQ.length ≤ dA from by omega); clear eG hC60 hroom60 dG hsz60; have KY60 := Zq_.mk eD; clear eD; have KL60 := Zq_.mk (show (aB : Int).toNat ≤ aC.length from by omega); replace q60 := eq_true q60; refine hK.out _ _ ⟨b0_ aA, b1_ aA, b2_ aA, hHeld.2.2.2.1, hHeld.2.2.2.2.1, hHeld.2.2.2.2.2.1, hHeld.2.2.2.2.2.2⟩ (fun hHeld => ?_); clear hK K; refine norm_ (a' := ?_) ?_ ?_; rotate_left
            ·show Act.put _ (some 50) _ = _
             simp only [Act.put, sa_, sb_, sc_, i64_w, i32_w]; rfl
            refine up0_ 26 ?_; (iterate 10 first | refine pN_ ?_ | refine tN_ ?_); refine oN_ 36 61 38 137438953471 HT_ (fun K hK => ?_); refine goes_ Try.func17 (by kernel_rfl) rfl #[.slice (some aI) bQ.length dA, .int .i64 (rd aC aB)] (by rfl) rfl rfl aR_ ?_
            with_reducible refine (ref14_Has.calls k1 _ _ bQ (rd aC aB) false _ ?side1 ?side2 A53.out).mono ?_
            (case side1 => repeat (first | exact (by repeat (first | (with_reducible exact dR.out) | (with_reducible refine Kd.qg_ ?_ _) | (with_reducible refine Kd.qf_ ?_ _) | (with_reducible refine Kd.C_drew ?_) | exact dR.out)) | (with_reducible refine Kd.qg_ ?_ _) | (with_reducible refine Kd.qf_ ?_ _) | (with_reducible refine Kd.C_drew ?_))); (case side2 => exact eU.out); rintro e w' ⟨rfl, ⟨nd, rfl⟩⟩; refine ⟨_, rfl, ?_⟩; refine hK.out _ _ ⟨b0_ aA, b1_ aA, b2_ aA, hHeld.2.2.2.1, hHeld.2.2.2.2.1, hHeld.2.2.2.2.2.1, hHeld.2.2.2.2.2.2⟩ (fun hHeld => ?_); clear hK K; refine norm_ (a' := ?_) ?_ ?_; rotate_left
            ·show Act.put _ (some 61) _ = _
             simp only [Act.put, sa_, sb_, sc_, i64_w, i32_w]; rfl
            refine pQ_ 37 HT_ ?_; refine dN_ HT_ ?_; (try go_wp2)
            go_roundg k1
            case measure => have := HK1.out; omega
            case rel => exact ⟨(wrap64 (aB + 1)), eS_, H', ⟨by have := HK1.out; omega⟩, ⟨by (with_reducible repeat (first | apply Kd.qc_ | apply Kd.qb_ | apply Kd.R_drew)); exact aH.out⟩, ⟨by (with_reducible repeat (first | refine ql_ ?_ _ | refine qm_ ?_ | refine blk_alloc ?_ _)); exact aA.out⟩, ⟨by (with_reducible repeat (first | refine ql_ ?_ _ | refine qm_ ?_ | refine blk_alloc ?_ _)); exact aD.out⟩, ⟨by exact hSet_ HB⟩⟩
          ·rw [if_neg c52] at H; exact absurd H (by simp)
         ·rw [if_neg c50] at H; exact absurd ((Option.some.inj H).trans HRT.out) (by decide)
      ·rw [if_neg c24] at H; exact absurd H (by simp)
     ·rw [if_neg c23] at H; have eO : decide (aB < (aC.length : Int)) = false := decide_eq_false c23; clear c23
      by_cases c63 : (aC.length : Int) ≤ 3
      ·rw [if_pos c63] at H; have eN : decide ((aC.length : Int) ≤ 3) = true := decide_eq_true c63; have eM : decide (aC.length ≤ 3) = true := decide_eq_true (by omega); clear c63
       by_cases c64 : (aC.length : Int) > 0
       ·rw [if_pos c64] at H; have eL : decide (0 < (aC.length : Int)) = true := decide_eq_true c64; have eK : decide (0 < aC.length) = true := decide_eq_true (by omega); clear c64; obtain rfl := Option.some.inj H; obtain ⟨Ao65, co65, eo65⟩ := Kd.R_slice aH.out; subst eo65
        go_wp2
        go_ret
        exact ⟨by exact eW_, by exact hSet_ HB⟩
       ·rw [if_neg c64] at H; have eL : decide (0 < (aC.length : Int)) = false := decide_eq_false c64; have eK : decide (0 < aC.length) = false := decide_eq_false (by omega); clear c64; obtain rfl := Option.some.inj H; obtain ⟨Ao66, co66, eo66⟩ := Kd.R_slice aH.out; subst eo66; have hnb67 := aL.out; have hnc67 := aK.out; obtain ⟨hcz68_0, hcz68_1, hcz68_2⟩ := c3_ aA; obtain ⟨hfz68_0, hfz68_1, hfz68_2⟩ := f3_ aA
        go_wp2
        go_ret
        exact ⟨by exact eW_, by exact hSet_ HB⟩
      ·rw [if_neg c63] at H; have eN : decide ((aC.length : Int) ≤ 3) = false := decide_eq_false c63; have eM : decide (aC.length ≤ 3) = false := decide_eq_false (by omega); clear c63; obtain rfl := Option.some.inj H; obtain ⟨Ao69, co69, eo69⟩ := Kd.R_slice aH.out; subst eo69
       go_wp2
       go_ret
       exact ⟨by exact eW_, by exact hSet_ HB⟩
 ·rw [if_neg c4] at H; exact absurd ((Option.some.inj H).trans HRT.out) (by decide)
end Go.Proofs.Ytjlemkdilbnmlaa.P

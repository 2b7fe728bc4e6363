/- What this function of the program comes to, and that the machine's call does it. No condition. -/
import Derived.Test.YtgipbmjkgciccaaPRef05Same
namespace Go.Proofs.Ytgipbmjkgciccaa.P
set_option maxHeartbeats 8000000
set_option maxRecDepth 100000
open Go.RowKit Go.Proofs.YtgipbmjkgciccaaW.PrintWords Go.Proofs.YtgipbmjkgciccaaW.PrintLast Go.Proofs.YtgipbmjkgciccaaW.PrintMore
attribute [local go_sem] qz_ qx_ vf_ ve_ qr_ qq_ qy_ qw_ Go.Proofs.YtgipbmjkgciccaaW.Hw.string_gtr
set_option linter.unusedVariables false
set_option linter.unusedSimpArgs false
def ref06_Same.l0 : Nat → List (S39) → List (S39) → Int → Option (Bool)
 | 0, _, _, _ => none
 | k + 1, x0, x1, x5 => if x5 < (x0.length : Int) then (if 0 ≤ x5 then (if x5 < (x1.length : Int) then (if ((rd_T39 x0 x5).f0) = ((rd_T39 x1 x5).f0) then ((ref05_Same.f k ((rd_T39 x0 x5).f1.f0) ((rd_T39 x0 x5).f1.f1) ((rd_T39 x0 x5).f1.f2) ((rd_T39 x1 x5).f1.f0) ((rd_T39 x1 x5).f1.f1) ((rd_T39 x1 x5).f1.f2)).bind fun cP => (if cP = true then (ref06_Same.l0 k x0 x1 (wrap64 (x5 + 1))) else (some false))) else (some false)) else (none)) else (none)) else (some true)
def ref06_Same.f (k : Nat) (l0 : List (S39)) (l1 : List (S39)) : Option (Bool) := if (l0.length : Int) = (l1.length : Int) then (ref06_Same.l0 k l0 l1 0) else (some false)
theorem ref06_Same.mono_l : ∀ k, (∀ y0 y1 y2, LeO (ref06_Same.l0 k y0 y1 y2) (ref06_Same.l0 (k + 1) y0 y1 y2))
 | 0 => fun _ _ _ r h => by simp [ref06_Same.l0] at h
 | k + 1 => by
  have ih0 := ref06_Same.mono_l k
  ·intro y0 y1 y2
   unfold ref06_Same.l0
   repeat' first
   | (with_reducible exact ih0 _ _ _)
   | (with_reducible exact ref05_Same.mono _ _ _ _ _ _ _)
   | (with_reducible exact LeO.refl _)
   | (with_reducible exact LeO.none _)
   | (with_reducible refine LeO.ite ?_ ?_)
   | (with_reducible refine LeO.bind ?_ (fun _ => ?_))
   | exact ih0 _ _ _
   | exact ref05_Same.mono _ _ _ _ _ _ _
   | exact LeO.none _
   | refine LeO.ite ?_ ?_
   | refine LeO.bind ?_ (fun _ => ?_)
theorem ref06_Same.mono : ∀ a0 a1 k, LeO (ref06_Same.f k a0 a1) (ref06_Same.f (k + 1) a0 a1) := by
 intro a0 a1 k; have ih0 := ref06_Same.mono_l k
 unfold ref06_Same.f
 repeat' first
   | (with_reducible exact ih0 _ _ _)
   | (with_reducible exact ref05_Same.mono _ _ _ _ _ _ _)
   | (with_reducible exact LeO.refl _)
   | (with_reducible exact LeO.none _)
   | (with_reducible refine LeO.ite ?_ ?_)
   | (with_reducible refine LeO.bind ?_ (fun _ => ?_))
   | exact ih0 _ _ _
   | exact ref05_Same.mono _ _ _ _ _ _ _
   | exact LeO.none _
   | refine LeO.ite ?_ ?_
   | refine LeO.bind ?_ (fun _ => ?_)
def ref06_Same.T6 : Bool × List (List Nat × List Nat) := (true, [([], []), ([], []), ([0, 1], [0, 1]), ([2], [2]), ([3], [3]), ([], []), ([], []), ([5, 6], [5, 6]), ([7], [7]), ([8], [8]), ([4, 9], [4, 9]), ([10], [10]), ([11], [11]), ([11], [11]), ([12, 13, 11], [11, 12, 13]), ([14, 11], [11, 14]), ([15, 11], [11, 15]), ([11], [11]), ([11], [11]), ([17, 18, 11], [11, 17, 18]), ([19, 11], [11, 19]), ([20, 11], [11, 20]), ([16, 21, 11, 11], [11, 16, 21]), ([22, 11], [11, 22]), ([11, 23], [11, 23])])
def ref06_Same.B6 : List Nat := [0, 0, 3, 7, 15, 0, 0, 96, 224, 480, 1023, 2047, 4095, 4095, 16383, 32767, 65535, 4095, 4095, 397311, 921599, 1970175, 4194303, 8388607, 16777215]
theorem ref06_Same.tab6 : rtab .any (opsOf Try.f22 6) = ref06_Same.T6 := by kernel_rfl
theorem ref06_Same.bits6 : waitsOk ref06_Same.T6.2 ref06_Same.B6 = true := by kernel_rfl
theorem ref06_Same.calls (k : Nat) (A0 : Option Addr) (c0 : Nat) (l0 : List (S39)) (A1 : Option Addr) (c1 : Nat) (l1 : List (S39)) (r : Bool) (w : World) (hr0 : Kd.C k39 w A0 l0.length l0) (hc0 : l0.length ≤ c0) (hr1 : Kd.C k39 w A1 l1.length l1) (hc1 : l1.length ≤ c1) (h : ref06_Same.f k l0 l1 = some r) :
  Calls Try.prog 22 #[.slice A0 l0.length c0, .slice A1 l1.length c1] w fun e w' => e = .returned (.bool r) ∧ Below w.heap.size w w' := by
 have hu35 := Try.underlying35; have HR0 := Zq_.mk hr0; have HC0 := Zq_.mk hc0; clear hr0 hc0; have HR1 := Zq_.mk hr1; have HC1 := Zq_.mk hc1; clear hr1 hc1; have HB := Zq_.mk (Below.refl w.heap.size w); have H : (if (l0.length : Int) = (l1.length : Int) then (ref06_Same.l0 k l0 l1 0) else (some false)) = some r := h; clear h
 by_cases c3 : (l0.length : Int) = (l1.length : Int)
 ·rw [if_pos c3] at H; have cY : ((l0.length : Int) == (l1.length : Int)) = true := beq_iff_eq.mpr c3; have cX : ((l0.length : Int) != (l1.length : Int)) = false := bne_eq_false_iff_eq.mpr c3
  have cW : (l0.length == l1.length) = true := by first | simpa using c3 | (simp at c3 ⊢; omega)
  clear c3; have H' := Zq_.mk H; clear H
  go_enter Try.func22, Try.ntmps22
  go_wp2
  go_loopg [5] k (fun kq v5 w' => ∃ (aA : Int), v5 = .int .i64 aA ∧ Zq_ (ref06_Same.l0 kq l0 l1 aA = some r) ∧ Zq_ (kq ≤ k) ∧ Zq_ (Below w.heap.size w w'))
  case atStart => exact ⟨(0), eS_, H', ⟨Nat.le_refl _⟩, ⟨hB_ HB⟩⟩
  case round =>
   clear H'
   try clear c1
   try clear c2
   try clear p2
   try clear c3
   try clear cY
   try clear cX
   try clear cW
   obtain ⟨aA, rfl, HA, HK1, HB⟩ := hrel
   cases gk with
   | zero => exact absurd HA.out (by simp [ref06_Same.l0])
   | succ k1 =>
    have H := HA.out; clear HA; simp only [ref06_Same.l0] at H
    by_cases c4 : aA < (l0.length : Int)
    ·rw [if_pos c4] at H; have c4b0 : decide (aA < (l0.length : Int)) = true := decide_eq_true c4; clear c4
     by_cases c5 : 0 ≤ aA
     ·rw [if_pos c5] at H; have c5b0 : decide (0 ≤ aA) = true := decide_eq_true c5; clear c5
      by_cases c6 : aA < (l1.length : Int)
      ·rw [if_pos c6] at H; have c6b0 : decide (aA < (l1.length : Int)) = true := decide_eq_true c6; clear c6
       by_cases c7 : ((rd_T39 l0 aA).f0) = ((rd_T39 l1 aA).f0)
       ·rw [if_pos c7] at H; have c7b0 : (((rd_T39 l0 aA).f0) == ((rd_T39 l1 aA).f0)) = true := beq_iff_eq.mpr c7; have c7b1 : (((rd_T39 l0 aA).f0) != ((rd_T39 l1 aA).f0)) = false := bne_eq_false_iff_eq.mpr c7; clear c7; replace H := ob_ H; obtain ⟨cP, A80, H⟩ := H; replace H : (if cP = true then (ref06_Same.l0 k1 l0 l1 (wrap64 (aA + 1))) else (some false)) = some r := H; have A8 := Zq_.mk A80; clear A80
        by_cases c9 : cP = true
        ·subst c9
         have H1 : (ref06_Same.l0 k1 l0 l1 (wrap64 (aA + 1))) = some r := by rw [if_pos rfl] at H; exact H
         clear H; have H := H1; clear H1; have H' := Zq_.mk H; clear H; (try go_wp2); replace HB := Zq_.mk (qj_ HB.out); have bW : 0 ≤ (aA : Int) := dA_; have bU : aA < (l0.length : Int) := dA_; obtain ⟨cI, cC, bY, cM, aI, aH, aG, aC, aS, aU⟩ := at_T39 HR0.out aA bW bU; have aZ := aC; have bA := aG; have bB := aH; have bC := aI; cases cM; replace aI := hC_ HB aI; replace aH := hC_ HB aH; replace aG := hC_ HB aG; replace aC := hC_ HB aC; have bS := Zq_.mk aU; have cK := Zq_.mk aS; clear aU aS; replace bW := eq_true bW; replace bU := eq_true bU; have bV : 0 ≤ (aA : Int) := dA_; have bT : aA < (l1.length : Int) := dA_; obtain ⟨cH, cB, bX, cL, aF, aE, aD, aB, aR, aT⟩ := at_T39 HR1.out aA bV bT; have aV := aB; have aW := aD; have aX := aE; have aY := aF; cases cL; replace aF := hC_ HB aF; replace aE := hC_ HB aE; replace aD := hC_ HB aD; replace aB := hC_ HB aB; have bR := Zq_.mk aT; have cJ := Zq_.mk aR; clear aT aR; replace bV := eq_true bV; replace bT := eq_true bT; have cG : 0 ≤ (aA : Int) := dA_; have cE : aA < (l0.length : Int) := dA_; obtain ⟨cO, cV, cT, cR, aQ, aP, aO, aK, bM, bO⟩ := at_T39 HR0.out aA cG cE; have bH := aK; have bI := aO; have bJ := aP; have bK := aQ; obtain rfl : cI = cO := (by injection cR); replace aQ := hC_ HB aQ; replace aP := hC_ HB aP; replace aO := hC_ HB aO; replace aK := hC_ HB aK; have bQ := Zq_.mk bO; have cA := Zq_.mk bM; clear bO bM; replace cG := eq_true cG; replace cE := eq_true cE; have ea_ := Option.some.inj (aC.symm.trans aK)
         injection ea_ with ea_ en_ ec_
         subst ea_; subst ec_; clear en_; have cF : 0 ≤ (aA : Int) := dA_; have cD : aA < (l1.length : Int) := dA_; obtain ⟨cN, cU, cS, cQ, aN, aM, aL, aJ, bL, bN⟩ := at_T39 HR1.out aA cF cD; have bD := aJ; have bE := aL; have bF := aM; have bG := aN; obtain rfl : cH = cN := (by injection cQ); replace aN := hC_ HB aN; replace aM := hC_ HB aM; replace aL := hC_ HB aL; replace aJ := hC_ HB aJ; have bP := Zq_.mk bN; have bZ := Zq_.mk bL; clear bN bL; replace cF := eq_true cF; replace cD := eq_true cD; have ea_ := Option.some.inj (aB.symm.trans aJ)
         injection ea_ with ea_ en_ ec_
         subst ea_; subst ec_; clear en_; refine gS_ 25 (hA_ (hC_ HB bC) (hA_ (hC_ HB bB) (hA_ (hC_ HB bA) (hA_ (hC_ HB aZ) (hA_ (hC_ HB aY) (hA_ (hC_ HB aX) (hA_ (hC_ HB aW) (hA_ (hC_ HB aV) (hA_ (hC_ HB bK) (hA_ (hC_ HB bJ) (hA_ (hC_ HB bI) (hA_ (hC_ HB bH) (hA_ (hC_ HB bG) (hA_ (hC_ HB bF) (hA_ (hC_ HB bE) (hZ_ (hC_ HB bD))))))))))))))))) (fun hHeld => ?_); refine ql_ ref06_Same.tab6 ref06_Same.bits6 (fun HT_ HW_ => ?_); generalize wr.drew = w10 at HB bS bR bQ bP aI aH aG aC aF aE aD aB aQ aP aO aK aN aM aL aJ hHeld ⊢; refine pQ_ 0 HT_ ?_; refine pQ_ 1 HT_ ?_; refine pQ_ 2 HT_ ?_; refine pQ_ 3 HT_ ?_; refine pQ_ 5 HT_ ?_; refine pQ_ 6 HT_ ?_; refine pQ_ 7 HT_ ?_; refine pQ_ 8 HT_ ?_; refine tL_ 4 HT_ HW_ hHeld ?_; refine tL_ 9 HT_ HW_ hHeld ?_; refine pQ_ 10 HT_ ?_; refine pQ_ 11 HT_ ?_; refine pQ_ 12 HT_ ?_; refine pQ_ 13 HT_ ?_; refine pQ_ 14 HT_ ?_; refine pQ_ 15 HT_ ?_; refine pQ_ 17 HT_ ?_; refine pQ_ 18 HT_ ?_; refine pQ_ 19 HT_ ?_; refine pQ_ 20 HT_ ?_; refine tL_ 16 HT_ HW_ hHeld ?_; refine tL_ 21 HT_ HW_ hHeld ?_; refine one_ (i := 22) (N := some 39) (bz_ 25 8388607) rfl rfl (one_of HT_.out (by kernel_rfl)) (by decide) (fun K hK => ?_); refine goes_ Try.func38 (by kernel_rfl) rfl #[.agg #[.int .i64 ((rd_T39 l0 aA).f1.f0), .int .i64 ((rd_T39 l0 aA).f1.f1), .slice cC ((rd_T39 l0 aA).f1.f2).length bY], .agg #[.int .i64 ((rd_T39 l1 aA).f1.f0), .int .i64 ((rd_T39 l1 aA).f1.f1), .slice cB ((rd_T39 l1 aA).f1.f2).length bX]] (by rfl) rfl rfl (by (try simp only [List.map_toArray, List.map_cons, List.map_nil]); first | done | rfl | (simp only [List.length_drop, List.length_take]; rfl)) ?_
         with_reducible refine (ref05_Same.calls k1 ((rd_T39 l0 aA).f1.f0) ((rd_T39 l0 aA).f1.f1) _ _ ((rd_T39 l0 aA).f1.f2) ((rd_T39 l1 aA).f1.f0) ((rd_T39 l1 aA).f1.f1) _ _ ((rd_T39 l1 aA).f1.f2) true _ ?side1 ?side2 ?side3 ?side4 A8.out).mono ?_
         (case side1 => exact cX_ (Kd.qk_ bQ.out HB.out)); (case side2 => exact cA.out); (case side3 => exact cX_ (Kd.qk_ bP.out HB.out)); (case side4 => exact bZ.out); rintro e w11 ⟨rfl, hb⟩; refine ⟨_, rfl, ?_⟩; replace HB := Zq_.mk (qa_ (hB_ HB) hb); (try clear hb); refine hK.out _ _ ⟨(hC_ HB bC), (hC_ HB bB), (hC_ HB bA), (hC_ HB aZ), (hC_ HB aY), (hC_ HB aX), (hC_ HB aW), (hC_ HB aV), (hC_ HB bK), (hC_ HB bJ), (hC_ HB bI), (hC_ HB bH), (hC_ HB bG), (hC_ HB bF), (hC_ HB bE), (hC_ HB bD)⟩ (fun hHeld => ?_); clear hK K; refine norm_ (a' := ?_) ?_ ?_; rotate_left
         ·show Act.put _ (some 39) _ = _
          simp only [Act.put, sa_, sb_, sc_, i64_w, i32_w]; rfl
         refine pQ_ 23 HT_ ?_; refine pQ_ 24 HT_ ?_; refine done_ (qv_ HT_.out (by kernel_rfl)) ?_; (try go_wp2)
         go_roundg k1
         case measure => have := HK1.out; omega
         case rel => exact ⟨(wrap64 (aA + 1)), eS_, H', ⟨by have := HK1.out; omega⟩, ⟨hB_ HB⟩⟩
        ·replace c9 := Bool.eq_false_iff.mpr c9; subst c9
         have H1 : (some false) = some r := by rw [if_neg (show ¬ (false = true) by decide)] at H; exact H
         clear H; have H := H1; clear H1; obtain rfl := Option.some.inj H; (try go_wp2); replace HB := Zq_.mk (qj_ HB.out); have bW : 0 ≤ (aA : Int) := dA_; have bU : aA < (l0.length : Int) := dA_; obtain ⟨cI, cC, bY, cM, aI, aH, aG, aC, aS, aU⟩ := at_T39 HR0.out aA bW bU; have aZ := aC; have bA := aG; have bB := aH; have bC := aI; cases cM; replace aI := hC_ HB aI; replace aH := hC_ HB aH; replace aG := hC_ HB aG; replace aC := hC_ HB aC; have bS := Zq_.mk aU; have cK := Zq_.mk aS; clear aU aS; replace bW := eq_true bW; replace bU := eq_true bU; have bV : 0 ≤ (aA : Int) := dA_; have bT : aA < (l1.length : Int) := dA_; obtain ⟨cH, cB, bX, cL, aF, aE, aD, aB, aR, aT⟩ := at_T39 HR1.out aA bV bT; have aV := aB; have aW := aD; have aX := aE; have aY := aF; cases cL; replace aF := hC_ HB aF; replace aE := hC_ HB aE; replace aD := hC_ HB aD; replace aB := hC_ HB aB; have bR := Zq_.mk aT; have cJ := Zq_.mk aR; clear aT aR; replace bV := eq_true bV; replace bT := eq_true bT; have cG : 0 ≤ (aA : Int) := dA_; have cE : aA < (l0.length : Int) := dA_; obtain ⟨cO, cV, cT, cR, aQ, aP, aO, aK, bM, bO⟩ := at_T39 HR0.out aA cG cE; have bH := aK; have bI := aO; have bJ := aP; have bK := aQ; obtain rfl : cI = cO := (by injection cR); replace aQ := hC_ HB aQ; replace aP := hC_ HB aP; replace aO := hC_ HB aO; replace aK := hC_ HB aK; have bQ := Zq_.mk bO; have cA := Zq_.mk bM; clear bO bM; replace cG := eq_true cG; replace cE := eq_true cE; have ea_ := Option.some.inj (aC.symm.trans aK)
         injection ea_ with ea_ en_ ec_
         subst ea_; subst ec_; clear en_; have cF : 0 ≤ (aA : Int) := dA_; have cD : aA < (l1.length : Int) := dA_; obtain ⟨cN, cU, cS, cQ, aN, aM, aL, aJ, bL, bN⟩ := at_T39 HR1.out aA cF cD; have bD := aJ; have bE := aL; have bF := aM; have bG := aN; obtain rfl : cH = cN := (by injection cQ); replace aN := hC_ HB aN; replace aM := hC_ HB aM; replace aL := hC_ HB aL; replace aJ := hC_ HB aJ; have bP := Zq_.mk bN; have bZ := Zq_.mk bL; clear bN bL; replace cF := eq_true cF; replace cD := eq_true cD; have ea_ := Option.some.inj (aB.symm.trans aJ)
         injection ea_ with ea_ en_ ec_
         subst ea_; subst ec_; clear en_; refine gS_ 25 (hA_ (hC_ HB bC) (hA_ (hC_ HB bB) (hA_ (hC_ HB bA) (hA_ (hC_ HB aZ) (hA_ (hC_ HB aY) (hA_ (hC_ HB aX) (hA_ (hC_ HB aW) (hA_ (hC_ HB aV) (hA_ (hC_ HB bK) (hA_ (hC_ HB bJ) (hA_ (hC_ HB bI) (hA_ (hC_ HB bH) (hA_ (hC_ HB bG) (hA_ (hC_ HB bF) (hA_ (hC_ HB bE) (hZ_ (hC_ HB bD))))))))))))))))) (fun hHeld => ?_); refine ql_ ref06_Same.tab6 ref06_Same.bits6 (fun HT_ HW_ => ?_); generalize wr.drew = w12 at HB bS bR bQ bP aI aH aG aC aF aE aD aB aQ aP aO aK aN aM aL aJ hHeld ⊢; refine pQ_ 0 HT_ ?_; refine pQ_ 1 HT_ ?_; refine pQ_ 2 HT_ ?_; refine pQ_ 3 HT_ ?_; refine pQ_ 5 HT_ ?_; refine pQ_ 6 HT_ ?_; refine pQ_ 7 HT_ ?_; refine pQ_ 8 HT_ ?_; refine tL_ 4 HT_ HW_ hHeld ?_; refine tL_ 9 HT_ HW_ hHeld ?_; refine pQ_ 10 HT_ ?_; refine pQ_ 11 HT_ ?_; refine pQ_ 12 HT_ ?_; refine pQ_ 13 HT_ ?_; refine pQ_ 14 HT_ ?_; refine pQ_ 15 HT_ ?_; refine pQ_ 17 HT_ ?_; refine pQ_ 18 HT_ ?_; refine pQ_ 19 HT_ ?_; refine pQ_ 20 HT_ ?_; refine tL_ 16 HT_ HW_ hHeld ?_; refine tL_ 21 HT_ HW_ hHeld ?_; refine one_ (i := 22) (N := some 39) (bz_ 25 8388607) rfl rfl (one_of HT_.out (by kernel_rfl)) (by decide) (fun K hK => ?_); refine goes_ Try.func38 (by kernel_rfl) rfl #[.agg #[.int .i64 ((rd_T39 l0 aA).f1.f0), .int .i64 ((rd_T39 l0 aA).f1.f1), .slice cC ((rd_T39 l0 aA).f1.f2).length bY], .agg #[.int .i64 ((rd_T39 l1 aA).f1.f0), .int .i64 ((rd_T39 l1 aA).f1.f1), .slice cB ((rd_T39 l1 aA).f1.f2).length bX]] (by rfl) rfl rfl (by (try simp only [List.map_toArray, List.map_cons, List.map_nil]); first | done | rfl | (simp only [List.length_drop, List.length_take]; rfl)) ?_
         with_reducible refine (ref05_Same.calls k1 ((rd_T39 l0 aA).f1.f0) ((rd_T39 l0 aA).f1.f1) _ _ ((rd_T39 l0 aA).f1.f2) ((rd_T39 l1 aA).f1.f0) ((rd_T39 l1 aA).f1.f1) _ _ ((rd_T39 l1 aA).f1.f2) false _ ?side1 ?side2 ?side3 ?side4 A8.out).mono ?_
         (case side1 => exact cX_ (Kd.qk_ bQ.out HB.out)); (case side2 => exact cA.out); (case side3 => exact cX_ (Kd.qk_ bP.out HB.out)); (case side4 => exact bZ.out); rintro e w13 ⟨rfl, hb⟩; refine ⟨_, rfl, ?_⟩; replace HB := Zq_.mk (qa_ (hB_ HB) hb); (try clear hb); refine hK.out _ _ ⟨(hC_ HB bC), (hC_ HB bB), (hC_ HB bA), (hC_ HB aZ), (hC_ HB aY), (hC_ HB aX), (hC_ HB aW), (hC_ HB aV), (hC_ HB bK), (hC_ HB bJ), (hC_ HB bI), (hC_ HB bH), (hC_ HB bG), (hC_ HB bF), (hC_ HB bE), (hC_ HB bD)⟩ (fun hHeld => ?_); clear hK K; refine norm_ (a' := ?_) ?_ ?_; rotate_left
         ·show Act.put _ (some 39) _ = _
          simp only [Act.put, sa_, sb_, sc_, i64_w, i32_w]; rfl
         refine pQ_ 23 HT_ ?_; refine pQ_ 24 HT_ ?_; refine done_ (qv_ HT_.out (by kernel_rfl)) ?_; (try go_wp2)
         go_ret
         exact ⟨by exact eW_, hB_ HB⟩
       ·rw [if_neg c7] at H; have c7b0 : (((rd_T39 l0 aA).f0) == ((rd_T39 l1 aA).f0)) = false := beq_eq_false_iff_ne.mpr c7; have c7b1 : (((rd_T39 l0 aA).f0) != ((rd_T39 l1 aA).f0)) = true := bne_iff_ne.mpr c7; obtain rfl := Option.some.inj H; (try go_wp2); replace HB := Zq_.mk (qj_ HB.out); have bW : 0 ≤ (aA : Int) := dA_; have bU : aA < (l0.length : Int) := dA_; obtain ⟨cI, cC, bY, cM, aI, aH, aG, aC, aS, aU⟩ := at_T39 HR0.out aA bW bU; have aZ := aC; have bA := aG; have bB := aH; have bC := aI; cases cM; replace aI := hC_ HB aI; replace aH := hC_ HB aH; replace aG := hC_ HB aG; replace aC := hC_ HB aC; have bS := Zq_.mk aU; have cK := Zq_.mk aS; clear aU aS; replace bW := eq_true bW; replace bU := eq_true bU; have bV : 0 ≤ (aA : Int) := dA_; have bT : aA < (l1.length : Int) := dA_; obtain ⟨cH, cB, bX, cL, aF, aE, aD, aB, aR, aT⟩ := at_T39 HR1.out aA bV bT; have aV := aB; have aW := aD; have aX := aE; have aY := aF; cases cL; replace aF := hC_ HB aF; replace aE := hC_ HB aE; replace aD := hC_ HB aD; replace aB := hC_ HB aB; have bR := Zq_.mk aT; have cJ := Zq_.mk aR; clear aT aR; replace bV := eq_true bV; replace bT := eq_true bT; refine gS_ 25 (hA_ (hC_ HB bC) (hA_ (hC_ HB bB) (hA_ (hC_ HB bA) (hA_ (hC_ HB aZ) (hA_ (hC_ HB aY) (hA_ (hC_ HB aX) (hA_ (hC_ HB aW) (hZ_ (hC_ HB aV))))))))) (fun hHeld => ?_); refine ql_ ref06_Same.tab6 ref06_Same.bits6 (fun HT_ HW_ => ?_); generalize wr.drew = w14 at HB bS bR aI aH aG aC aF aE aD aB hHeld ⊢; refine pQ_ 0 HT_ ?_; refine pQ_ 1 HT_ ?_; refine pQ_ 2 HT_ ?_; refine pQ_ 3 HT_ ?_; refine pQ_ 5 HT_ ?_; refine pQ_ 6 HT_ ?_; refine pQ_ 7 HT_ ?_; refine pQ_ 8 HT_ ?_; refine tL_ 4 HT_ HW_ hHeld ?_; refine tL_ 9 HT_ HW_ hHeld ?_; refine pQ_ 10 HT_ ?_; refine pQ_ 11 HT_ ?_; refine pV_ 12 HT_ ?_; refine pV_ 13 HT_ ?_; refine pV_ 14 HT_ ?_; refine pV_ 15 HT_ ?_; refine pV_ 16 HT_ ?_; refine pV_ 17 HT_ ?_; refine pV_ 18 HT_ ?_; refine pV_ 19 HT_ ?_; refine pV_ 20 HT_ ?_; refine pV_ 21 HT_ ?_; refine pV_ 22 HT_ ?_; refine pV_ 23 HT_ ?_; refine pQ_ 24 HT_ ?_; refine done_ (qv_ HT_.out (by kernel_rfl)) ?_; (try go_wp2)
        go_ret
        exact ⟨by exact eW_, hB_ HB⟩
      ·rw [if_neg c6] at H; exact absurd H (by simp)
     ·rw [if_neg c5] at H; exact absurd H (by simp)
    ·rw [if_neg c4] at H; have c4b0 : decide (aA < (l0.length : Int)) = false := decide_eq_false c4; clear c4; obtain rfl := Option.some.inj H
     go_wp2
     go_ret
     exact ⟨by exact eW_, hB_ HB⟩
 ·rw [if_neg c3] at H; have cY : ((l0.length : Int) == (l1.length : Int)) = false := beq_eq_false_iff_ne.mpr c3; have cX : ((l0.length : Int) != (l1.length : Int)) = true := bne_iff_ne.mpr c3
  have cW : (l0.length == l1.length) = false := by first | simpa using c3 | (simp at c3 ⊢; omega)
  obtain rfl := Option.some.inj H
  go_enter Try.func22, Try.ntmps22
  go_wp2
  go_ret
  exact ⟨by exact eW_, hB_ HB⟩
end Go.Proofs.Ytgipbmjkgciccaa.P

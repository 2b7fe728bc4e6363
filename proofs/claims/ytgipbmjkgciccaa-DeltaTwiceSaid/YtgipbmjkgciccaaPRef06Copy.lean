/- What this function of the program comes to, and that the machine's call does it. No condition. -/
import Derived.Test.YtgipbmjkgciccaaP0
import Derived.Test.YtgipbmjkgciccaaHw
namespace Go.Proofs.Ytgipbmjkgciccaa.P
set_option maxHeartbeats 8000000
set_option maxRecDepth 100000
open Go.RowKit Go.Proofs.YtgipbmjkgciccaaW.PrintWords Go.Proofs.YtgipbmjkgciccaaW.PrintLast Go.Proofs.YtgipbmjkgciccaaW.PrintMore
attribute [local go_sem] qz_ qx_ vf_ ve_ qr_ qq_ qy_ qw_ Go.Proofs.YtgipbmjkgciccaaW.Hw.string_gtr
set_option linter.unusedVariables false
set_option linter.unusedSimpArgs false
def ref05_Copy.f (aE : Int) (aG : Int) (aD : List (S58)) : Option (Int × Int × (List (S58))) := (some (([] : List (S58)) : List (S58))).bind fun bD => (if bD.length + aD.length < 4398046511104 then (some (aE, aG, (bD ++ aD))) else (none))
theorem ref05_Copy.calls (aE : Int) (aG : Int) (bN : Option Addr) (bM : Nat) (aD : List (S58)) (r1 : Int) (r2 : Int) (r3 : List (S58)) (w : World) (cC : Kd.C k58 w bN aD.length aD) (cD : aD.length ≤ bM) (h : ref05_Copy.f aE aG aD = some (r1, r2, r3)) :
  Calls Try.prog 41 #[.agg #[.int .i64 aE, .int .i64 aG, .slice bN aD.length bM]] w fun e w' => ∃ v2_ : Value, e = .returned (.agg #[.int .i64 r1, .int .i64 r2, v2_]) ∧ Kd.R k58 58 w' w.heap.size (fun _ => True) v2_ r3 ∧ Below w.heap.size w w' := by
 have hu35 := Try.underlying35; have cS := Zq_.mk cC; have HC0_2 := Zq_.mk cD; clear cC cD; have HB := Zq_.mk (Below.refl w.heap.size w); have H : ((some (([] : List (S58)) : List (S58))).bind fun bD => (if bD.length + aD.length < 4398046511104 then (some (aE, aG, (bD ++ aD))) else (none))) = some (r1, r2, r3) := h; clear h; obtain ⟨bD, bK⟩ : ∃ y_ : List (S58), y_ = (([] : List (S58))) := ⟨_, rfl⟩
 replace H : (if bD.length + aD.length < 4398046511104 then (some (aE, aG, (bD ++ aD))) else (none)) = some (r1, r2, r3) := by first | (rw [bK]; with_reducible exact H) | (have H2_ := (Option.bind_some _ _).symm.trans H; rw [bK]; with_reducible exact H2_) | (have H2_ := (Option.bind_some _ _).symm.trans H; with_reducible exact H2_) | with_reducible exact H | (rw [bK]; exact H) | exact H
 have cE := Zq_.mk bK; clear bK
 by_cases c2 : bD.length + aD.length < 4398046511104
 ·rw [if_pos c2] at H; have LMc2 := Zq_.mk c2; clear c2; obtain ⟨cN, bJ⟩ : ∃ y_ : List (S58), y_ = (bD ++ aD) := ⟨_, rfl⟩
  replace H : (some (aE, aG, cN)) = some (r1, r2, r3) := by first | (rw [bJ]; with_reducible exact H) | (have H2_ := (Option.bind_some _ _).symm.trans H; rw [bJ]; with_reducible exact H2_) | (have H2_ := (Option.bind_some _ _).symm.trans H; with_reducible exact H2_) | with_reducible exact H | (rw [bJ]; exact H) | exact H
  have cR := Zq_.mk bJ; clear bJ; simp only [Option.some.injEq, Prod.mk.injEq] at H; obtain ⟨rfl, rfl, rfl⟩ := H
  go_enter Try.func41, Try.ntmps41
  go_wp2_with (first | ((with_reducible refine qe_ (N := 1) rfl ?_); refine bE_ 1 #[.int .i64 aE, .int .i64 aG, .slice bN aD.length bM] 35 ?_; intro bE hg w3 hbox hb; have aC := Zq_.mk (hbox); have GW101 := gW_ (w := w) hg (hB_ HB); have GE101 := gW_ (w := w) hg (hB_ HB); replace HB := Zq_.mk (qa_ (hB_ HB) hb); clear hb hbox hg) | ((with_reducible refine qe_ (N := 2) rfl ?_); refine bE_ 2 #[.int .i64 0, .int .i64 0, .slice none 0 0] 35 ?_; intro bL hg w4 hbox hb; have aW := Zq_.mk (hbox); have GW102 := gW_ (w := w) hg (by exact hSet_ HB); have GE102 := gW_ (w := w) hg (by exact hSet_ HB); replace HB := Zq_.mk (qa_ (by exact hSet_ HB) hb); have bY := Zq_.mk ((by rw [hg]; exact Nat.ne_of_lt (blk_lt (g := bE) (o := .cells #[.int .i64 aE, .int .i64 aG, .slice bN aD.length bM] 35 (0, 0)) (by exact bK_ aC)) : bE ≠ bL)); have bG := Zq_.mk ((by rw [hg]; exact Nat.ne_of_gt (blk_lt (g := bE) (o := .cells #[.int .i64 aE, .int .i64 aG, .slice bN aD.length bM] 35 (0, 0)) (by exact bK_ aC)) : bL ≠ bE)); replace aC := Zq_.mk (qd_ (g := bE) (o := .cells #[.int .i64 aE, .int .i64 aG, .slice bN aD.length bM] 35 (0, 0)) (by exact bK_ aC) hb); clear hb hbox hg) | ((with_reducible refine qe_ (N := 3) rfl ?_); refine Kd.R_lit k58 _ 58 ?hg (N := 3) ?hd (xs := ([] : List (S58))) (inner := []) (ok := fun _ => True) (okp := fun _ => True) ?hr ?hp (fun _ hk => hk) trivial (Below.refl _ _) (Nat.le_refl _) (by simp) ?_; (case hd => rfl); (case hg => rfl); (case hr => first | (go_simp; done) | (go_simp; rfl)); (case hp => exact (Reps.none _ _)); intro v104 w5 ho6 hb hg_ hnew_; clear hg_ hnew_; (first | rw [← cE.out] at ho6 | (simp only [Int.reduceToNat] at ho6; rw [← cE.out] at ho6)); have bV := Zq_.mk (Kd.vd_ ho6 (qb_ (by exact hSet_ HB))); replace aC := Zq_.mk (qd_ (g := bE) (o := .cells #[.int .i64 aE, .int .i64 aG, .slice bN aD.length bM] 35 (0, 0)) (by exact bK_ aC) hb); replace aW := Zq_.mk (qd_ (g := bL) (o := .cells #[.int .i64 0, .int .i64 0, .slice none 0 0] 35 (0, 0)) (by exact bK_ aW) hb); replace HB := Zq_.mk (qa_ (by exact hSet_ HB) hb); clear hb ho6; have hnb7 := bY.out; have hnc7 := bG.out; obtain ⟨hcz8_0, hcz8_1, hcz8_2⟩ := c3_ aC; obtain ⟨hfz8_0, hfz8_1, hfz8_2⟩ := f3_ aC) | ((with_reducible refine qs_ (b := .append) (xs := #[.tmp 3, .tmp 5]) rfl ?_); at_builtin; refine Kd.R_append_rows k58 (w0 := w) w.heap.size rfl (.tmp 3) (.tmp 5) 33 58 (.agg #[(.int .i64 0), (.int .i64 0), (.string ⟨#[]⟩)]) 32 rfl Try.underlying33 info58 rfl (by decide) (by omega) v104 bD aD _ _ _ (fun _ => True) (fun _ => False) rfl rfl ?aO ?aR (fun _ _ h => h) (fun _ h => h.elim) ?aF ?aB ?aS ?aL ?_; (case aR => exact cX_ (Kd.qk_ cS.out HB.out)); (case aB => exact (by exact hSet_ HB)); (case aF => exact (fun _ _ => trivial)); (case aO => exact (vX_ bV)); (case aS => exact (qb_ (by exact hSet_ HB))); (case aL => have := LMc2.out; omega); intro v107 w9 ho hb hg hat; rw [← cR.out] at ho; replace aC := Zq_.mk (va_ (g := bE) (o := .cells #[.int .i64 aE, .int .i64 aG, .slice bN aD.length bM] 35 (0, 0)) (by exact bK_ aC) hg (Kd.R_ne bV.out aC.out (by decide))); replace aW := Zq_.mk (va_ (g := bL) (o := .cells #[.int .i64 0, .int .i64 0, .slice none 0 0] 35 (0, 0)) (by exact bK_ aW) hg (Kd.R_ne bV.out aW.out (by decide))); replace HB := Zq_.mk (hb); have cF := Zq_.mk (ho); clear bV; clear ho hb hg hat; obtain ⟨Ao10, co10, eo10⟩ := Kd.vh_ cF.out; subst eo10; obtain ⟨hcz11_0, hcz11_1, hcz11_2⟩ := c3_ aC; obtain ⟨hfz11_0, hfz11_1, hfz11_2⟩ := f3_ aC; obtain ⟨hcz12_0, hcz12_1, hcz12_2⟩ := c3_ aW; obtain ⟨hfz12_0, hfz12_1, hfz12_2⟩ := f3_ aW))
  refine bodyPost_ret (results_cell_row rfl _ _ bL 35 #[.int .i64 aE, .int .i64 aG, .slice Ao10 cN.length co10] (0, 0) _ rfl (by refine bP_ (cs := #[.int .i64 aE, .int .i64 aG, .slice none 0 0]) 2 ?_; refine bP_ (cs := #[.int .i64 aE, .int .i64 0, .slice none 0 0]) 1 ?_; refine bP_ (cs := #[.int .i64 0, .int .i64 0, .slice none 0 0]) 0 ?_; refine bF_ bG ?_; (with_reducible repeat (first | refine qh_ ?_ _ | refine qf_ ?_ | refine qg_ ?_ _)); exact aW.out) Try.underlying35 rfl (by kernel_rfl)) rfl ?_; exact ⟨_, by exact eW_, by (with_reducible repeat (first | apply Kd.qu_ | apply Kd.qt_ | apply Kd.R_drew)); exact Kd.R_mono (Kd.R_far (Kd.R_far (Kd.R_far (Kd.R_far (Kd.vg_ (Kd.vg_ cF.out aC.out (by decide)) aW.out (by decide)) (fun _ hk => hk.1.2) _) (fun _ hk => hk.2) _) (fun _ hk => hk.2) _) (fun _ hk => hk.2) _) (fun _ hk => trivial), by exact hSet_ HB⟩
 ·rw [if_neg c2] at H; exact absurd H (by simp)
def ref06_Copy.l0 : Nat → List (S39) → List (S39) → Int → Option ((List (S39)))
 | 0, _, _, _ => none
 | k + 1, x0, x3, x4 => if x4 < (x0.length : Int) then (if 0 ≤ x4 then ((ref05_Copy.f ((rd_T39 x0 x4).f1.f0) ((rd_T39 x0 x4).f1.f1) ((rd_T39 x0 x4).f1.f2)).bind fun bZ => (if x3.length < 2932031007402 then (ref06_Copy.l0 k x0 (x3 ++ [(⟨(rd_T39 x0 x4).f0, (⟨bZ.1, bZ.2.1, bZ.2.2⟩ : S35)⟩ : S39)]) (wrap64 (x4 + 1))) else (none))) else (none)) else (some x3)
def ref06_Copy.f (k : Nat) (l0 : List (S39)) : Option ((List (S39))) := ref06_Copy.l0 k l0 ([] : List (S39)) 0
theorem ref06_Copy.mono_l : ∀ k, (∀ y0 y1 y2, LeO (ref06_Copy.l0 k y0 y1 y2) (ref06_Copy.l0 (k + 1) y0 y1 y2))
 | 0 => fun _ _ _ r h => by simp [ref06_Copy.l0] at h
 | k + 1 => by
  have ih0 := ref06_Copy.mono_l k
  ·intro y0 y1 y2
   unfold ref06_Copy.l0
   repeat' first
   | (with_reducible exact ih0 _ _ _)
   | (with_reducible exact LeO.refl _)
   | (with_reducible exact LeO.none _)
   | (with_reducible refine LeO.ite ?_ ?_)
   | (with_reducible refine LeO.bind ?_ (fun _ => ?_))
   | exact ih0 _ _ _
   | exact LeO.none _
   | refine LeO.ite ?_ ?_
   | refine LeO.bind ?_ (fun _ => ?_)
theorem ref06_Copy.mono : ∀ a0 k, LeO (ref06_Copy.f k a0) (ref06_Copy.f (k + 1) a0) := by
 intro a0 k; have ih0 := ref06_Copy.mono_l k
 unfold ref06_Copy.f
 repeat' first
   | (with_reducible exact ih0 _ _ _)
   | (with_reducible exact LeO.refl _)
   | (with_reducible exact LeO.none _)
   | (with_reducible refine LeO.ite ?_ ?_)
   | (with_reducible refine LeO.bind ?_ (fun _ => ?_))
   | exact ih0 _ _ _
   | exact LeO.none _
   | refine LeO.ite ?_ ?_
   | refine LeO.bind ?_ (fun _ => ?_)
def ref06_Copy.T5 : Bool × List (List Nat × List Nat) := (true, [([], []), ([], []), ([], []), ([1, 2], [1, 2]), ([3], [3]), ([4], [4]), ([], []), ([], []), ([6, 7], [6, 7]), ([8], [8]), ([9], [9]), ([10], [10]), ([5, 11], [5, 11]), ([12], [12]), ([0, 13, 11], [0, 13]), ([14, 14, 0, 1, 2, 3, 4, 5, 6, 7, 8, 9, 10, 11, 12, 13, 14], [0, 14])])
def ref06_Copy.B5 : List Nat := [0, 0, 0, 6, 14, 30, 0, 0, 192, 448, 960, 1984, 4094, 8190, 16383, 32767]
theorem ref06_Copy.tab5 : rtab .any (opsOf Try.f27 5) = ref06_Copy.T5 := by kernel_rfl
theorem ref06_Copy.bits5 : waitsOk ref06_Copy.T5.2 ref06_Copy.B5 = true := by kernel_rfl
theorem ref06_Copy.calls (k : Nat) (A0 : Option Addr) (c0 : Nat) (l0 : List (S39)) (r : List (S39)) (w : World) (hr0 : Kd.C k39 w A0 l0.length l0) (hc0 : l0.length ≤ c0) (h : ref06_Copy.f k l0 = some r) :
  Calls Try.prog 27 #[.slice A0 l0.length c0] w fun e w' => ∃ v0_ : Value, e = .returned (v0_) ∧ Kd.S k39 39 w' w.heap.size (fun _ => True) v0_ r ∧ Below w.heap.size w w' := by
 have hu35 := Try.underlying35; have hu39 := Try.underlying39; have HR0 := Zq_.mk hr0; have HC0 := Zq_.mk hc0; clear hr0 hc0; have HB := Zq_.mk (Below.refl w.heap.size w); have H : (ref06_Copy.l0 k l0 ([] : List (S39)) 0) = some r := h; clear h; have H' := Zq_.mk H; clear H
 go_enter Try.func27, Try.ntmps27
 go_wp2
 go_loopg [3, 4] k (fun kq v3 v4 w' => ∃ (bH : List (S39)) (aA : Int), v4 = .int .i64 aA ∧ Zq_ (ref06_Copy.l0 kq l0 bH aA = some r) ∧ Zq_ (kq ≤ k) ∧ Zq_ (Kd.S k39 39 w' w.heap.size (fun _ => True) v3 bH) ∧ Zq_ (Below w.heap.size w w'))
 case atStart => exact ⟨(([] : List (S39))), (0), eS_, H', ⟨Nat.le_refl _⟩, ⟨by first | exact Kd.S_nil _ _ _ _ _ | exact Kd.N_nil _ _ _ _ _ | exact Kd.V_nil _ _ _ _ _ | exact Kd.Q_nil _ _ _ _ _ | exact Kd.R_nil _ _ _ _ _⟩, ⟨hB_ HB⟩⟩
 case round =>
  clear H'; obtain ⟨bH, aA, rfl, HA, HK1, bF, HB⟩ := hrel
  cases gk with
  | zero => exact absurd HA.out (by simp [ref06_Copy.l0])
  | succ k1 =>
   have H := HA.out; clear HA; simp only [ref06_Copy.l0] at H
   by_cases c2 : aA < (l0.length : Int)
   ·rw [if_pos c2] at H; have c2b0 : decide (aA < (l0.length : Int)) = true := decide_eq_true c2; clear c2
    by_cases c3 : 0 ≤ aA
    ·rw [if_pos c3] at H; have c3b0 : decide (0 ≤ aA) = true := decide_eq_true c3; clear c3; replace H := ob_ H; obtain ⟨⟨bX, bW, bO⟩, A40, H⟩ := H; replace H : (if bH.length < 2932031007402 then (ref06_Copy.l0 k1 l0 (bH ++ [(⟨(rd_T39 l0 aA).f0, (⟨bX, bW, bO⟩ : S35)⟩ : S39)]) (wrap64 (aA + 1))) else (none)) = some r := H; have A4 := Zq_.mk A40; clear A40
     by_cases c5 : bH.length < 2932031007402
     ·rw [if_pos c5] at H; have LMc5 := Zq_.mk c5; clear c5; obtain ⟨cM, bI⟩ : ∃ y_ : List (S39), y_ = (bH ++ [(⟨(rd_T39 l0 aA).f0, (⟨bX, bW, bO⟩ : S35)⟩ : S39)]) := ⟨_, rfl⟩
      replace H : (ref06_Copy.l0 k1 l0 cM (wrap64 (aA + 1))) = some r := by first | (rw [bI]; with_reducible exact H) | (have H2_ := (Option.bind_some _ _).symm.trans H; rw [bI]; with_reducible exact H2_) | (have H2_ := (Option.bind_some _ _).symm.trans H; with_reducible exact H2_) | with_reducible exact H | (rw [bI]; exact H) | exact H
      have cQ := Zq_.mk bI; clear bI; have H' := Zq_.mk H; clear H; (try go_wp2); replace bF := Zq_.mk (Kd.S_drew bF.out); replace HB := Zq_.mk (qj_ HB.out); have cJ : 0 ≤ (aA : Int) := dA_; have cH : aA < (l0.length : Int) := dA_; obtain ⟨cP, cL, cK, e101, bC, bB, bA, aI, bQ, bS⟩ := at_T39 HR0.out aA cJ cH; have aQ := aI; have aT := bA; have aU := bB; have aV := bC; cases e101; replace bC := hC_ HB bC; replace bB := hC_ HB bB; replace bA := hC_ HB bA; replace aI := hC_ HB aI; have cA := Zq_.mk bS; have HC101_3 := Zq_.mk bQ; clear bS bQ; replace cJ := eq_true cJ; replace cH := eq_true cH; have cI : 0 ≤ (aA : Int) := dA_; have cG : aA < (l0.length : Int) := dA_; obtain ⟨cO, A102_3, c102_3, e102, aZ, aY, aX, aH, bP, bR⟩ := at_T39 HR0.out aA cI cG; have aJ := aH; have aK := aX; have aM := aY; have aN := aZ; obtain rfl : cP = cO := (by injection e102); replace aZ := hC_ HB aZ; replace aY := hC_ HB aY; replace aX := hC_ HB aX; replace aH := hC_ HB aH; have bT := Zq_.mk bR; have cB := Zq_.mk bP; clear bR bP; replace cI := eq_true cI; replace cG := eq_true cG; have ea_ := Option.some.inj (aI.symm.trans aH)
      injection ea_ with ea_ en_ ec_
      subst ea_; subst ec_; clear en_; refine gS_ 16 (hA_ (hC_ HB aV) (hA_ (hC_ HB aU) (hA_ (hC_ HB aT) (hA_ (hC_ HB aQ) (hA_ (hC_ HB aN) (hA_ (hC_ HB aM) (hA_ (hC_ HB aK) (hZ_ (hC_ HB aJ))))))))) (fun hHeld => ?_); refine ql_ ref06_Copy.tab5 ref06_Copy.bits5 (fun HT_ HW_ => ?_); generalize wr.drew = w6 at bF HB cA bT bC bB bA aI aZ aY aX aH hHeld ⊢; refine pQ_ 0 HT_ ?_; refine pQ_ 1 HT_ ?_; refine pQ_ 2 HT_ ?_; refine pQ_ 3 HT_ ?_; refine pQ_ 4 HT_ ?_; refine pQ_ 6 HT_ ?_; refine pQ_ 7 HT_ ?_; refine pQ_ 8 HT_ ?_; refine pQ_ 9 HT_ ?_; refine tL_ 5 HT_ HW_ hHeld ?_; refine tL_ 10 HT_ HW_ hHeld ?_; refine one_ (i := 11) (N := some 22) (bz_ 16 4095) rfl rfl (one_of HT_.out (by kernel_rfl)) (by decide) (fun K hK => ?_); refine goes_ Try.func41 (by kernel_rfl) rfl #[.agg #[.int .i64 ((rd_T39 l0 aA).f1.f0), .int .i64 ((rd_T39 l0 aA).f1.f1), .slice cL ((rd_T39 l0 aA).f1.f2).length cK]] (by rfl) rfl rfl (by (try simp only [List.map_toArray, List.map_cons, List.map_nil]); first | done | rfl | (simp only [List.length_drop, List.length_take]; rfl)) ?_
      with_reducible refine (ref05_Copy.calls ((rd_T39 l0 aA).f1.f0) ((rd_T39 l0 aA).f1.f1) _ _ ((rd_T39 l0 aA).f1.f2) bX bW bO _ ?side1 ?side2 A4.out).mono ?_
      (case side1 => exact cX_ (Kd.qk_ bT.out HB.out)); (case side2 => exact cB.out); rintro e w7 ⟨v106, rfl, ho0, hb⟩; refine ⟨_, rfl, ?_⟩; replace bF := Zq_.mk (Kd.S_elder' (vX_ bF) (Kd.R_base ho0) hb); have bU := Zq_.mk (Kd.vd_ ho0 (qb_ (hB_ HB))); replace HB := Zq_.mk (qa_ (hB_ HB) hb); (try clear hb); (try clear ho0); obtain ⟨Ao8, co8, eo8⟩ := Kd.vh_ bU.out; (first | subst eo8 | (injection eo8 with f1_ f2_ f3_; have f4_ := f1_.symm; have f5_ := f3_.symm; clear f1_ f2_ f3_; subst f4_; subst f5_)); refine hK.out _ _ ⟨(hC_ HB aV), (hC_ HB aU), (hC_ HB aT), (hC_ HB aQ), (hC_ HB aN), (hC_ HB aM), (hC_ HB aK), (hC_ HB aJ)⟩ (fun hHeld => ?_); clear hK K; refine norm_ (a' := ?_) ?_ ?_; rotate_left
      ·show Act.put _ (some 22) _ = _
       simp only [Act.put, sa_, sb_, sc_, i64_w, i32_w]; rfl
      refine pQ_ 12 HT_ ?_; refine one_ (i := 13) (N := some 24) (bz_ 16 16383) rfl rfl (one_of HT_.out (by kernel_rfl)) (by decide) (fun K hK => ?_); refine value_ (w1 := ?_) (v := ?_) (by rfl) rfl ?_ ?_; rotate_left 2
      ·go_simp
       constructor
       ·rfl
       ·rfl
      refine hK.out _ _ ⟨(World.cell?_alloc_lt _ _ _ (wb_ _ _ ((hC_ HB aV)))).trans ((hC_ HB aV)), (World.cell?_alloc_lt _ _ _ (wb_ _ _ ((hC_ HB aU)))).trans ((hC_ HB aU)), (World.cell?_alloc_lt _ _ _ (wb_ _ _ ((hC_ HB aT)))).trans ((hC_ HB aT)), (World.cell?_alloc_lt _ _ _ (wb_ _ _ ((hC_ HB aQ)))).trans ((hC_ HB aQ)), (World.cell?_alloc_lt _ _ _ (wb_ _ _ ((hC_ HB aN)))).trans ((hC_ HB aN)), (World.cell?_alloc_lt _ _ _ (wb_ _ _ ((hC_ HB aM)))).trans ((hC_ HB aM)), (World.cell?_alloc_lt _ _ _ (wb_ _ _ ((hC_ HB aK)))).trans ((hC_ HB aK)), (World.cell?_alloc_lt _ _ _ (wb_ _ _ ((hC_ HB aJ)))).trans ((hC_ HB aJ))⟩ (fun hHeld => ?_); clear hK K; refine norm_ (a' := ?_) ?_ ?_; rotate_left
      ·show Act.put _ (some 24) _ = _
       simp only [Act.put, sa_, sb_, sc_, i64_w, i32_w]; rfl
      refine one_ (i := 14) (N := some 25) (bz_ 16 32767) rfl rfl (one_of HT_.out (by kernel_rfl)) (by decide) (fun K hK => ?_); refine Kd.S_append_step k39 (w0 := w) w.heap.size (by rfl) (.tmp 11) (.tmp 24) 22 39 (.agg #[(.int .i64 0), (.int .i64 0), (.int .i64 0), (.slice none 0 0)]) 48 rfl Try.underlying22 info39 rfl (by decide) (by omega) u3 bH (⟨(rd_T39 l0 aA).f0, (⟨bX, bW, bO⟩ : S35)⟩ : S39) [.int .i64 ((rd_T39 l0 aA).f0), .int .i64 bX, .int .i64 bW, .slice Ao8 bO.length co8] (fun _ => True) (fun k_ => some k_ = (.slice Ao8 bO.length co8 : Value).ownBlock) rfl rfl ?aP (fun k_ hk_ => ((Kd.R_mono (ok' := fun k_ => ((fun _ => True)) k_ ∧ some k_ ≠ (u3 : Value).ownBlock) (Kd.R_apart' (bU.out) (Kd.S_typed bF.out) (by decide)) (fun k_ hk => ⟨trivial, hk.2⟩))).1 k_ hk_.symm) ?aF ?aO ?aB ?aS ?aL ?_; (case aP => exact k39_mkM _ _ _ (⟨(rd_T39 l0 aA).f0, (⟨bX, bW, bO⟩ : S35)⟩ : S39) (Kd.R_mono (Kd.R_tight rfl (Kd.R_mono (ok' := fun k_ => ((fun _ => True)) k_ ∧ some k_ ≠ (u3 : Value).ownBlock) (Kd.R_apart' (bU.out) (Kd.S_typed bF.out) (by decide)) (fun k_ hk => ⟨trivial, hk.2⟩))) (fun _ h_ => h_))); (case aB => exact (hB_ HB)); (case aF => exact (fun _ _ => trivial)); (case aO => exact (by (with_reducible repeat (first | apply Kd.S_alloc | apply Kd.S_drewN | apply Kd.S_drew)); exact Kd.S_mono bF.out (fun k_ hk => ⟨trivial, fun e_ => hk.2 e_⟩))); (case aS => exact (qb_ (hB_ HB))); (case aL => have := LMc5.out; omega); intro v109 w9 ho hb hg hat; rw [← cQ.out] at ho; replace HB := Zq_.mk (hb); have cT := Zq_.mk (ho); clear bF bU; clear ho hb hg hat; refine hK.out _ _ ⟨(hC_ HB aV), (hC_ HB aU), (hC_ HB aT), (hC_ HB aQ), (hC_ HB aN), (hC_ HB aM), (hC_ HB aK), (hC_ HB aJ)⟩ (fun hHeld => ?_); clear hK K; refine norm_ (a' := ?_) ?_ ?_; rotate_left
      ·show Act.put _ (some 25) _ = _
       simp only [Act.put, sa_, sb_, sc_, i64_w, i32_w]; rfl
      refine pQ_ 15 HT_ ?_; refine done_ (qv_ HT_.out (by kernel_rfl)) ?_; (try go_wp2)
      go_roundg k1
      case measure => have := HK1.out; omega
      case rel => exact ⟨(cM), (wrap64 (aA + 1)), eS_, H', ⟨by have := HK1.out; omega⟩, ⟨by (with_reducible repeat (first | apply Kd.S_alloc | apply Kd.S_drewN | apply Kd.S_drew)); exact cT.out⟩, ⟨hB_ HB⟩⟩
     ·rw [if_neg c5] at H; exact absurd H (by simp)
    ·rw [if_neg c3] at H; exact absurd H (by simp)
   ·rw [if_neg c2] at H; have c2b0 : decide (aA < (l0.length : Int)) = false := decide_eq_false c2; clear c2; obtain rfl := Option.some.inj H
    go_wp2
    go_ret
    exact ⟨_, by exact eW_, by (with_reducible repeat (first | apply Kd.S_alloc | apply Kd.S_drewN | apply Kd.S_drew)); exact bF.out, hB_ HB⟩
end Go.Proofs.Ytgipbmjkgciccaa.P

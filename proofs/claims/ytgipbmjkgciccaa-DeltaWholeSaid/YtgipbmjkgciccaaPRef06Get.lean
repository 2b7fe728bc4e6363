/- What printed functions come to, and that the machine's calls do it. No condition. -/
import Derived.Test.YtgipbmjkgciccaaPApiEntry61
import Derived.Test.YtgipbmjkgciccaaPRef06Great
namespace Go.Proofs.Ytgipbmjkgciccaa.P
set_option maxHeartbeats 8000000
set_option maxRecDepth 100000
open Go.RowKit Go.Proofs.YtgipbmjkgciccaaW.PrintWords Go.Proofs.YtgipbmjkgciccaaW.PrintLast Go.Proofs.YtgipbmjkgciccaaW.PrintMore
attribute [local go_sem] qw_ qu_ vb_ va_ qp_ qo_ qv_ qt_ Go.Proofs.YtgipbmjkgciccaaW.Hw.string_gtr
set_option linter.unusedVariables false
set_option linter.unusedSimpArgs false
def ref06_Get.l0 : Nat → List (S39) → Int → Int → Option (Int × Int × (List (S58)) × Bool)
 | 0, _, _, _ => none
 | k + 1, x0, x1, x6 => if x6 < (x0.length : Int) then (if 0 ≤ x6 then (if ((rd_T39 x0 x6).f0) = x1 then ((ref05_Copy.f ((rd_T39 x0 x6).f1.f0) ((rd_T39 x0 x6).f1.f1) ((rd_T39 x0 x6).f1.f2)).bind fun aU => (some (aU.1, aU.2.1, aU.2.2, true))) else (ref06_Get.l0 k x0 x1 (wrap64 (x6 + 1)))) else (none)) else (some (0, 0, ([] : List (S58)), false))
def ref06_Get.f (k : Nat) (l0 : List (S39)) (a1 : Int) : Option (Int × Int × (List (S58)) × Bool) := ref06_Get.l0 k l0 a1 0
theorem ref06_Get.mono_l : ∀ k, (∀ y0 y1 y2, LeO (ref06_Get.l0 k y0 y1 y2) (ref06_Get.l0 (k + 1) y0 y1 y2))
 | 0 => fun _ _ _ r h => by simp [ref06_Get.l0] at h
 | k + 1 => by
  have ih0 := ref06_Get.mono_l k
  ·intro y0 y1 y2
   unfold ref06_Get.l0
   with_reducible repeat' first | exact ih0 _ _ _ | exact LeO.refl _ | exact LeO.none _ | refine LeO.ite ?_ ?_ | refine LeO.bind ?_ (fun _ => ?_)
theorem ref06_Get.mono : ∀ a0 a1 k, LeO (ref06_Get.f k a0 a1) (ref06_Get.f (k + 1) a0 a1) := by
 intro a0 a1 k; have ih0 := ref06_Get.mono_l k
 unfold ref06_Get.f
 with_reducible repeat' first | exact ih0 _ _ _ | exact LeO.refl _ | exact LeO.none _ | refine LeO.ite ?_ ?_ | refine LeO.bind ?_ (fun _ => ?_)
theorem ref06_Get.calls (k : Nat) (A0 : Option Addr) (c0 : Nat) (l0 : List (S39)) (a1 : Int) (r1 : Int) (r2 : Int) (r3 : List (S58)) (r4 : Bool) (w : World) (hr0 : Kd.C k39 w A0 l0.length l0) (hc0 : l0.length ≤ c0) (h : ref06_Get.f k l0 a1 = some (r1, r2, r3, r4)) :
  Calls Try.prog 17 #[.slice A0 l0.length c0, .int .i64 a1] w fun e w' => ∃ v2_ : Value, e = .returned (.tuple #[.agg #[.int .i64 r1, .int .i64 r2, v2_], .bool r4]) ∧ Kd.R k58 58 w' w.heap.size (fun _ => True) v2_ r3 ∧ Below w.heap.size w w' := by
 have hu35 := Try.underlying35; have HR0 := Zq_.mk hr0; have HC0 := Zq_.mk hc0; clear hr0 hc0; have HB := Zq_.mk (Below.refl w.heap.size w); have H : (ref06_Get.l0 k l0 a1 0) = some (r1, r2, r3, r4) := h; clear h; have H' := Zq_.mk H; clear H
 go_enter Try.func17, Try.ntmps17
 go_wp2_with (first | ((with_reducible refine qb_ (N := 4) rfl ?_); refine bE_ 4 #[.int .i64 0, .int .i64 0, .slice none 0 0] 35 ?_; intro aS hg w3 hbox hb; have aB := Zq_.mk (hbox); have GW101 := gW_ (w := w) hg (hB_ HB); have GE101 := gW_ (w := w) hg (hB_ HB); replace HB := sB_ HB hb; clear hb hbox hg))
 go_loopg [6] k (fun kq v6 w' => ∃ (aA : Int) (aJ : Int) (aI : Int), v6 = .int .i64 aA ∧ Zq_ (ref06_Get.l0 kq l0 a1 aA = some (r1, r2, r3, r4)) ∧ Zq_ (kq ≤ k) ∧ Zq_ (w'.heap[aS]? = some (.cells #[.int .i64 aJ, .int .i64 aI, (.slice none 0 0)] 35 (0, 0))) ∧ Zq_ (Below w.heap.size w w'))
 case atStart => exact ⟨(0), (0), (0), eS_, H', ⟨Nat.le_refl _⟩, ⟨by (with_reducible repeat (first | refine qq_ ?_ _ | refine qc_ ?_ | refine ql_ ?_ _)); exact aB.out⟩, ⟨by exact hSet_ HB⟩⟩
 case round =>
  clear H'
  try clear c1
  try clear p2
  obtain ⟨aA, aJ, aI, rfl, HA, HK1, aB, HB⟩ := hrel
  cases gk with
  | zero => exact absurd HA.out (by simp [ref06_Get.l0])
  | succ k1 =>
   have H := HA.out; clear HA; simp only [ref06_Get.l0] at H
   by_cases c4 : aA < (l0.length : Int)
   ·rw [if_pos c4] at H; have c4b0 : decide (aA < (l0.length : Int)) = true := decide_eq_true c4; clear c4
    by_cases c5 : 0 ≤ aA
    ·rw [if_pos c5] at H; have c5b0 : decide (0 ≤ aA) = true := decide_eq_true c5; clear c5
     by_cases c6 : ((rd_T39 l0 aA).f0) = a1
     ·rw [if_pos c6] at H; have c6b0 : (((rd_T39 l0 aA).f0) == a1) = true := beq_iff_eq.mpr c6; have c6b1 : (((rd_T39 l0 aA).f0) != a1) = false := bne_eq_false_iff_eq.mpr c6; clear c6; replace H := ob_ H; obtain ⟨⟨bE, bD, bC⟩, A70, H⟩ := H; replace H : (some (bE, bD, bC, true)) = some (r1, r2, r3, r4) := H; have A7 := Zq_.mk A70; clear A70; simp only [Option.some.injEq, Prod.mk.injEq] at H; obtain ⟨rfl, rfl, rfl, rfl⟩ := H; have aM : 0 ≤ (aA : Int) := dA_; have aL : aA < (l0.length : Int) := dA_; obtain ⟨bA, aV, aT, bH, aF, aE, aD, aC, aG, aH⟩ := at_T39 HR0.out aA aM aL; cases bH; replace aF := hC_ HB aF; replace aE := hC_ HB aE; replace aD := hC_ HB aD; replace aC := hC_ HB aC; have aX := Zq_.mk aH; have aZ := Zq_.mk aG; clear aH aG; replace aM := eq_true aM; replace aL := eq_true aL; have bG : 0 ≤ (aA : Int) := dA_; have bF : aA < (l0.length : Int) := dA_; obtain ⟨bI, A103_3, c103_3, e103, aP, aO, aN, aK, aQ, aR⟩ := at_T39 HR0.out aA bG bF; obtain rfl : bA = bI := (by injection e103); replace aP := hC_ HB aP; replace aO := hC_ HB aO; replace aN := hC_ HB aN; replace aK := hC_ HB aK; have aW := Zq_.mk aR; have aY := Zq_.mk aQ; clear aR aQ; replace bG := eq_true bG; replace bF := eq_true bF; have ea_ := Option.some.inj (aC.symm.trans aK)
      injection ea_ with ea_ en_ ec_
      subst ea_; subst ec_; clear en_
      go_wp2_with (first | ((with_reducible refine qd_ (f := 41) rfl ?_); refine goesL_ (some 25) rfl rfl Try.func41 (by kernel_rfl) rfl #[.agg #[.int .i64 ((rd_T39 l0 aA).f1.f0), .int .i64 ((rd_T39 l0 aA).f1.f1), .slice aV ((rd_T39 l0 aA).f1.f2).length aT]] rfl aR_ ?_; (with_reducible refine (ref05_Copy.calls ((rd_T39 l0 aA).f1.f0) ((rd_T39 l0 aA).f1.f1) _ _ ((rd_T39 l0 aA).f1.f2) bE bD bC _ ?side1 ?side2 A7.out).mono ?_); (case side1 => exact cX_ (Kd.qf_ aW.out HB.out)); (case side2 => exact aY.out); rintro e w8 ⟨v107, rfl, ho0, hb⟩; refine ⟨_, rfl, ?_⟩; have bB := Zq_.mk (Kd.qz_ ho0 (qa_ (by exact hSet_ HB))); replace aB := kB_ aB hb; replace HB := sB_ HB hb; (try clear hb); (try clear ho0); obtain ⟨hcz9_0, hcz9_1, hcz9_2⟩ := c3_ aB; obtain ⟨hfz9_0, hfz9_1, hfz9_2⟩ := f3_ aB; obtain ⟨Ao10, co10, eo10⟩ := Kd.ve_ bB.out; subst eo10))
      refine bodyPost_ret (results_ct rfl _ _ aS 35 #[.int .i64 bE, .int .i64 bD, .slice Ao10 bC.length co10] (0, 0) _ rfl (by exact bW3_ (bK_ aB)) Try.underlying35 rfl (by kernel_rfl)) rfl ?_; exact ⟨_, by exact eW_, by (with_reducible repeat (first | apply Kd.qj_ | apply Kd.qi_ | apply Kd.R_drew)); exact Kd.R_mono (Kd.R_far (Kd.R_far (Kd.R_far (Kd.qy_ bB.out aB.out (by decide)) (fun _ hk => hk.2) _) (fun _ hk => hk.2) _) (fun _ hk => hk.2) _) (fun _ hk => trivial), by exact hSet_ HB⟩
     ·rw [if_neg c6] at H; have c6b0 : (((rd_T39 l0 aA).f0) == a1) = false := beq_eq_false_iff_ne.mpr c6; have c6b1 : (((rd_T39 l0 aA).f0) != a1) = true := bne_iff_ne.mpr c6; have H' := Zq_.mk H; clear H; have aM : 0 ≤ (aA : Int) := dA_; have aL : aA < (l0.length : Int) := dA_; obtain ⟨bA, aV, aT, bH, aF, aE, aD, aC, aG, aH⟩ := at_T39 HR0.out aA aM aL; cases bH; replace aF := hC_ HB aF; replace aE := hC_ HB aE; replace aD := hC_ HB aD; replace aC := hC_ HB aC; have aX := Zq_.mk aH; have aZ := Zq_.mk aG; clear aH aG; replace aM := eq_true aM; replace aL := eq_true aL
      go_wp2
      go_roundg k1
      case measure => have := HK1.out; omega
      case rel => exact ⟨(wrap64 (aA + 1)), (aJ), (aI), eS_, H', ⟨by have := HK1.out; omega⟩, ⟨by (with_reducible repeat (first | refine qq_ ?_ _ | refine qc_ ?_ | refine ql_ ?_ _)); exact aB.out⟩, ⟨by exact hSet_ HB⟩⟩
    ·rw [if_neg c5] at H; exact absurd H (by simp)
   ·rw [if_neg c4] at H; have c4b0 : decide (aA < (l0.length : Int)) = false := decide_eq_false c4; clear c4; simp only [Option.some.injEq, Prod.mk.injEq] at H; obtain ⟨rfl, rfl, rfl, rfl⟩ := H; obtain ⟨hcz11_0, hcz11_1, hcz11_2⟩ := c3_ aB; obtain ⟨hfz11_0, hfz11_1, hfz11_2⟩ := f3_ aB
    go_wp2
    refine bodyPost_ret (results_ct rfl _ _ aS 35 #[.int .i64 0, .int .i64 0, .slice none 0 0] (0, 0) _ rfl (by exact bW3_ (bK_ aB)) Try.underlying35 rfl (by kernel_rfl)) rfl ?_; exact ⟨_, by exact eW_, by first | exact Kd.R_nil _ _ _ _ _ | exact Kd.N_nil _ _ _ _ _ | exact Kd.V_nil _ _ _ _ _ | exact Kd.Q_nil _ _ _ _ _ | exact Kd.S_nil _ _ _ _ _, by exact hSet_ HB⟩
def ref06_Without.l0 : Nat → List (S39) → Int → List (S39) → Int → Option ((List (S39)))
 | 0, _, _, _, _ => none
 | k + 1, x0, x1, x5, x6 => if x6 < (x0.length : Int) then (if 0 ≤ x6 then (if ((rd_T39 x0 x6).f0) = x1 then (ref06_Without.l0 k x0 x1 x5 (wrap64 (x6 + 1))) else (if x5.length < 2932031007402 then (ref06_Without.l0 k x0 x1 (x5 ++ [(⟨(rd_T39 x0 x6).f0, (⟨(rd_T39 x0 x6).f1.f0, (rd_T39 x0 x6).f1.f1, (rd_T39 x0 x6).f1.f2⟩ : S35)⟩ : S39)]) (wrap64 (x6 + 1))) else (none))) else (none)) else ((ref06_Copy.f k x5).bind fun bO => (some bO))
def ref06_Without.f (k : Nat) (l0 : List (S39)) (a1 : Int) : Option ((List (S39))) := ref06_Without.l0 k l0 a1 ([] : List (S39)) 0
theorem ref06_Without.mono_l : ∀ k, (∀ y0 y1 y2 y3, LeO (ref06_Without.l0 k y0 y1 y2 y3) (ref06_Without.l0 (k + 1) y0 y1 y2 y3))
 | 0 => fun _ _ _ _ r h => by simp [ref06_Without.l0] at h
 | k + 1 => by
  have ih0 := ref06_Without.mono_l k
  ·intro y0 y1 y2 y3
   unfold ref06_Without.l0
   with_reducible repeat' first | exact ih0 _ _ _ _ | exact ref06_Copy.mono _ _ | exact LeO.refl _ | exact LeO.none _ | refine LeO.ite ?_ ?_ | refine LeO.bind ?_ (fun _ => ?_)
theorem ref06_Without.mono : ∀ a0 a1 k, LeO (ref06_Without.f k a0 a1) (ref06_Without.f (k + 1) a0 a1) := by
 intro a0 a1 k; have ih0 := ref06_Without.mono_l k
 unfold ref06_Without.f
 with_reducible repeat' first | exact ih0 _ _ _ _ | exact ref06_Copy.mono _ _ | exact LeO.refl _ | exact LeO.none _ | refine LeO.ite ?_ ?_ | refine LeO.bind ?_ (fun _ => ?_)
theorem ref06_Without.calls (k : Nat) (P0_ : Nat → Prop) (A0 : Option Addr) (c0 : Nat) (l0 : List (S39)) (a1 : Int) (r : List (S39)) (w : World) (hs0 : Kd.V k39 39 w w.heap.size (fun k_ => P0_ k_) (.slice A0 l0.length c0) l0) (h : ref06_Without.f k l0 a1 = some r) :
  Calls Try.prog 54 #[.slice A0 l0.length c0, .int .i64 a1] w fun e w' => ∃ v0_ : Value, e = .returned (v0_) ∧ Kd.N k39 39 w' w.heap.size (fun k_ => (P0_ k_ ∨ w.heap.size ≤ k_)) v0_ r ∧ Below w.heap.size w w' := by
 have hu39 := Try.underlying39; have HO0 := Zq_.mk (show Kd.V k39 39 w w.heap.size (fun k_ => (P0_ k_ ∨ w.heap.size ≤ k_)) (.slice A0 l0.length c0) l0 from Kd.V_mono hs0 (fun k_ hk => .inl hk)); have HB := Zq_.mk (Below.refl w.heap.size w); have H : (ref06_Without.l0 k l0 a1 ([] : List (S39)) 0) = some r := h; clear h; have H' := Zq_.mk H; clear H
 go_enter Try.func54, Try.ntmps54
 go_wp2
 go_loopg [5, 6] k (fun kq v5 v6 w' => ∃ (aQ : List (S39)) (aA : Int), v6 = .int .i64 aA ∧ Zq_ (ref06_Without.l0 kq l0 a1 aQ aA = some r) ∧ Zq_ (kq ≤ k) ∧ Zq_ (Kd.V k39 39 w' w.heap.size (fun k_ => (P0_ k_ ∨ w.heap.size ≤ k_) ∧ some k_ ≠ (v5 : Value).ownBlock) (.slice A0 l0.length c0) l0) ∧ Zq_ (Kd.N k39 39 w' w.heap.size (fun k_ => (P0_ k_ ∨ w.heap.size ≤ k_)) v5 aQ) ∧ Zq_ (Below w.heap.size w w'))
 case atStart => exact ⟨(([] : List (S39))), (0), eS_, H', ⟨Nat.le_refl _⟩, ⟨by refine vM_ ?_; exact Kd.V_mono HO0.out (fun _ hk => ⟨hk, (by simp [Value.ownBlock])⟩)⟩, ⟨by first | exact Kd.S_nil _ _ _ _ _ | exact Kd.N_nil _ _ _ _ _ | exact Kd.V_nil _ _ _ _ _ | exact Kd.Q_nil _ _ _ _ _ | exact Kd.R_nil _ _ _ _ _⟩, ⟨hB_ HB⟩⟩
 case round =>
  clear H'
  try clear p2
  obtain ⟨aQ, aA, rfl, HA, HK1, aG, aW, HB⟩ := hrel
  cases gk with
  | zero => exact absurd HA.out (by simp [ref06_Without.l0])
  | succ k1 =>
   have H := HA.out; clear HA; simp only [ref06_Without.l0] at H
   by_cases c3 : aA < (l0.length : Int)
   ·rw [if_pos c3] at H; have c3b0 : decide (aA < (l0.length : Int)) = true := decide_eq_true c3; clear c3
    by_cases c4 : 0 ≤ aA
    ·rw [if_pos c4] at H; have c4b0 : decide (0 ≤ aA) = true := decide_eq_true c4; clear c4
     by_cases c5 : ((rd_T39 l0 aA).f0) = a1
     ·rw [if_pos c5] at H; have c5b0 : (((rd_T39 l0 aA).f0) == a1) = true := beq_iff_eq.mpr c5; have c5b1 : (((rd_T39 l0 aA).f0) != a1) = false := bne_eq_false_iff_eq.mpr c5; clear c5; have H' := Zq_.mk H; clear H; have aU : 0 ≤ (aA : Int) := dA_; have aT : aA < (l0.length : Int) := dA_; obtain ⟨bN, bF, bE, bQ, bK, bJ, bI, aJ, aH, aI⟩ := at_T39 (Kd.V_reads' aG.out).2.2 aA aU aT; cases bQ; obtain ⟨ce101, aY, hMe101, aN⟩ := Kd.V_get aG.out z39 aA aU (by first | exact aT | exact dA_ | (have e_ := (Kd.V_reads' aG.out).1; omega)); obtain ⟨ua101_3, uc101_3, rfl, aD, aE⟩ := k39_openF hMe101; have aC := aN 3 _ rfl; rw [vg_ _ _ 3 (by omega)] at aC; replace aC := Option.some.inj (aC.symm.trans aJ)
      injection aC with hva_ hvn_ hvc_
      rw [hva_] at aE; rw [hvc_] at aD; have aX := Zq_.mk (show Kd.V k58 58 _ w.heap.size _ _ ((rd_T39 l0 aA).f1.f2) from Kd.V_mk aD aE); clear hva_ hvn_ hvc_ aE aD; clear aN aY; have bL := Zq_.mk aI; have bM := Zq_.mk aH; clear aI aH; replace aU := eq_true aU; replace aT := eq_true aT
      go_wp2
      go_roundg k1
      case measure => have := HK1.out; omega
      case rel => exact ⟨(aQ), (wrap64 (aA + 1)), eS_, H', ⟨by have := HK1.out; omega⟩, ⟨by refine vM_ ?_; exact aG.out⟩, ⟨by (with_reducible repeat (first | apply Kd.vi_ | apply Kd.vh_ | apply Kd.N_drew)); exact aW.out⟩, ⟨hB_ HB⟩⟩
     ·rw [if_neg c5] at H; have c5b0 : (((rd_T39 l0 aA).f0) == a1) = false := beq_eq_false_iff_ne.mpr c5; have c5b1 : (((rd_T39 l0 aA).f0) != a1) = true := bne_iff_ne.mpr c5
      by_cases c6 : aQ.length < 2932031007402
      ·rw [if_pos c6] at H; have LMc6 := Zq_.mk c6; clear c6; obtain ⟨bR, bC⟩ : ∃ y_ : List (S39), y_ = (aQ ++ [(⟨(rd_T39 l0 aA).f0, (⟨(rd_T39 l0 aA).f1.f0, (rd_T39 l0 aA).f1.f1, (rd_T39 l0 aA).f1.f2⟩ : S35)⟩ : S39)]) := ⟨_, rfl⟩
       replace H : (ref06_Without.l0 k1 l0 a1 bR (wrap64 (aA + 1))) = some r := hY_ bC H
       have bT := Zq_.mk bC; clear bC; have H' := Zq_.mk H; clear H; have aU : 0 ≤ (aA : Int) := dA_; have aT : aA < (l0.length : Int) := dA_; obtain ⟨bN, bF, bE, bQ, bK, bJ, bI, aJ, aH, aI⟩ := at_T39 (Kd.V_reads' aG.out).2.2 aA aU aT; cases bQ; obtain ⟨ce101, aY, hMe101, aN⟩ := Kd.V_get aG.out z39 aA aU (by first | exact aT | exact dA_ | (have e_ := (Kd.V_reads' aG.out).1; omega)); obtain ⟨ua101_3, uc101_3, rfl, aD, aE⟩ := k39_openF hMe101; have aC := aN 3 _ rfl; rw [vg_ _ _ 3 (by omega)] at aC; replace aC := Option.some.inj (aC.symm.trans aJ)
       injection aC with hva_ hvn_ hvc_
       rw [hva_] at aE; rw [hvc_] at aD; have aX := Zq_.mk (show Kd.V k58 58 _ w.heap.size _ _ ((rd_T39 l0 aA).f1.f2) from Kd.V_mk aD aE); clear hva_ hvn_ hvc_ aE aD; clear aN aY; have bL := Zq_.mk aI; have bM := Zq_.mk aH; clear aI aH; replace aU := eq_true aU; replace aT := eq_true aT; have bH : 0 ≤ (aA : Int) := dA_; have bG : aA < (l0.length : Int) := dA_; obtain ⟨bS, A102_3, c102_3, e102, hx102_0, hx102_1, hx102_2, aZ, bA, bB⟩ := at_T39 (Kd.V_reads' aG.out).2.2 aA bH bG; obtain rfl : bN = bS := (by injection e102); obtain ⟨ce102, bP, hMe102, bD⟩ := Kd.V_get aG.out z39 aA bH (by first | exact bG | exact dA_ | (have e_ := (Kd.V_reads' aG.out).1; omega)); obtain ⟨ua102_3, uc102_3, rfl, aR, aV⟩ := k39_openF hMe102; have aK := bD 3 _ rfl; rw [vg_ _ _ 3 (by omega)] at aK; replace aK := Option.some.inj (aK.symm.trans aZ)
       injection aK with hva_ hvn_ hvc_
       rw [hva_] at aV; rw [hvc_] at aR; have aM := Zq_.mk (show Kd.V k58 58 _ w.heap.size _ _ ((rd_T39 l0 aA).f1.f2) from Kd.V_mk aR aV); clear hva_ hvn_ hvc_ aV aR; clear bD bP; have HR102_3 := Zq_.mk bB; have HC102_3 := Zq_.mk bA; clear bB bA; replace bH := eq_true bH; replace bG := eq_true bG; have ea_ := Option.some.inj (aJ.symm.trans aZ)
       injection ea_ with ea_ en_ ec_
       subst ea_; subst ec_; clear en_
       go_wp2_with (first | ((with_reducible refine qr_ (b := .append) (xs := #[.tmp 20, .tmp 25]) rfl ?_); at_builtin; refine Kd.N_append k39 (w0 := w) w.heap.size rfl (.tmp 20) (.tmp 25) 22 39 (.agg #[(.int .i64 0), (.int .i64 0), (.int .i64 0), (.slice none 0 0)]) 48 rfl Try.underlying22 info39 rfl (by decide) (by omega) u5 aQ (⟨(rd_T39 l0 aA).f0, (⟨(rd_T39 l0 aA).f1.f0, (rd_T39 l0 aA).f1.f1, (rd_T39 l0 aA).f1.f2⟩ : S35)⟩ : S39) [.int .i64 ((rd_T39 l0 aA).f0), .int .i64 ((rd_T39 l0 aA).f1.f0), .int .i64 ((rd_T39 l0 aA).f1.f1), .slice bF ((rd_T39 l0 aA).f1.f2).length bE] (fun k_ => (P0_ k_ ∨ w.heap.size ≤ k_)) (fun k_ => ((fun k_ => (P0_ k_ ∨ w.heap.size ≤ k_))) k_ ∧ some k_ ≠ (u5 : Value).ownBlock) rfl rfl ?aP (fun _ hk => hk) ?aF ?aO ?aB ?aS ?aL ?_; (case aP => exact (k39_mkF _ _ (⟨(rd_T39 l0 aA).f0, (⟨(rd_T39 l0 aA).f1.f0, (rd_T39 l0 aA).f1.f1, (rd_T39 l0 aA).f1.f2⟩ : S35)⟩ : S39) (Kd.V_reads' (Kd.V_mono (ok' := (fun k_ => ((fun k_ => (P0_ k_ ∨ w.heap.size ≤ k_))) k_ ∧ some k_ ≠ (u5 : Value).ownBlock)) (aM.out) (fun k_ hk => ⟨hk.1, hk.2⟩))).2.1 (Kd.V_F (Kd.V_mono (ok' := (fun k_ => ((fun k_ => (P0_ k_ ∨ w.heap.size ≤ k_))) k_ ∧ some k_ ≠ (u5 : Value).ownBlock)) (aM.out) (fun k_ hk => ⟨hk.1, hk.2⟩))))); (case aB => exact (hB_ HB)); (case aF => exact (fun k_ hk => (.inr (Nat.le_trans (qa_ (hB_ HB)) hk)))); (case aO => exact (vX_ aW)); (case aS => exact (qa_ (hB_ HB))); (case aL => have := LMc6.out; omega); intro v104 w7 ho hb hg hat; rw [← bT.out] at ho; replace aG := Zq_.mk (Kd.qx_ (ok := (fun k_ => (P0_ k_ ∨ w.heap.size ≤ k_))) (by (with_reducible repeat (first | apply Kd.V_alloc | apply Kd.V_drewN | apply Kd.V_drew)); first | exact aG.out | exact Kd.V_mono aG.out (fun _ hk => ⟨⟨hk.1, hk.2.2⟩, hk.2.1⟩)) hg hat); replace aX := Zq_.mk (Kd.qx_ (ok := (fun k_ => (P0_ k_ ∨ w.heap.size ≤ k_))) (vX_ aX) hg hat); replace aM := Zq_.mk (Kd.qx_ (ok := (fun k_ => (P0_ k_ ∨ w.heap.size ≤ k_))) (vX_ aM) hg hat); replace HB := Zq_.mk (hb); have bV := Zq_.mk (ho); clear aW; clear ho hb hg hat))
       go_roundg k1
       case measure => have := HK1.out; omega
       case rel => exact ⟨(bR), (wrap64 (aA + 1)), eS_, H', ⟨by have := HK1.out; omega⟩, ⟨by refine vM_ ?_; exact aG.out⟩, ⟨by (with_reducible repeat (first | apply Kd.vi_ | apply Kd.vh_ | apply Kd.N_drew)); exact bV.out⟩, ⟨hB_ HB⟩⟩
      ·rw [if_neg c6] at H; exact absurd H (by simp)
    ·rw [if_neg c4] at H; exact absurd H (by simp)
   ·rw [if_neg c3] at H; have c3b0 : decide (aA < (l0.length : Int)) = false := decide_eq_false c3; clear c3; replace H := ob_ H; obtain ⟨bO, A80, H⟩ := H; (try dsimp only at H); have A8 := Zq_.mk A80; clear A80; obtain rfl := Option.some.inj H; obtain ⟨Ao9, co9, eo9⟩ := Kd.N_slice aW.out; subst eo9
    go_wp2_with (first | ((with_reducible refine qd_ (f := 27) rfl ?_); refine goesL_ (some 28) rfl rfl Try.func27 (by kernel_rfl) rfl #[.slice Ao9 aQ.length co9] rfl aR_ ?_; (with_reducible refine (ref06_Copy.calls k1 _ _ aQ bO _ ?side1 ?side2 A8.out).mono ?_); (case side1 => exact cX_ ((Kd.N_reads' aW.out).2.2)); (case side2 => exact (Kd.N_reads' aW.out).2.1); rintro e w10 ⟨v107, rfl, ho0, hb⟩; refine ⟨_, rfl, ?_⟩; replace aG := Zq_.mk (Kd.V_elder' (vX_ aG) (by first | exact Kd.N_base ho0 | exact Kd.S_base ho0) hb); have bU := Zq_.mk (Kd.N_lower (Kd.N_mono (ok' := fun k_ => (P0_ k_ ∨ w.heap.size ≤ k_) ∧ some k_ ≠ (.slice Ao9 aQ.length co9 : Value).ownBlock) (Kd.S_N (Kd.S_bound ho0)) (fun k_ hk_ => ⟨(.inr (Nat.le_trans (qa_ (hB_ HB)) hk_.2.1)), (Kd.fresh' (Kd.N_lt (vX_ aW)) k_ hk_.2.1)⟩)) (qa_ (hB_ HB))); replace aW := Zq_.mk (Kd.N_elder' (vX_ aW) (by first | exact Kd.N_base ho0 | exact Kd.S_base ho0) hb); replace HB := sB_ HB hb; (try clear hb); (try clear ho0)))
    go_ret
    exact ⟨_, by exact eW_, by (with_reducible repeat (first | apply Kd.vi_ | apply Kd.vh_ | apply Kd.N_drew)); exact Kd.N_mono bU.out (fun _ hk => hk.1), hB_ HB⟩
def state_Copy.f (aI : Int) (aJ : Int) (aG : List (S58)) : Option (Int × Int × (List (S58))) := (api_Entry_61.f aG).bind fun aE => (some (aI, aJ, aE))
theorem state_Copy.calls (aI : Int) (aJ : Int) (aW : Option Addr) (aU : Nat) (aG : List (S58)) (r1 : Int) (r2 : Int) (r3 : List (S58)) (w : World) (aY : Kd.C k58 w aW aG.length aG) (bA : aG.length ≤ aU) (h : state_Copy.f aI aJ aG = some (r1, r2, r3)) :
  Calls Try.prog 40 #[.agg #[.int .i64 aI, .int .i64 aJ, .slice aW aG.length aU]] w fun e w' => ∃ v2_ : Value, e = .returned (.agg #[.int .i64 r1, .int .i64 r2, v2_]) ∧ Kd.R k58 58 w' w.heap.size (fun _ => True) v2_ r3 ∧ Below w.heap.size w w' := by
 have hu35 := Try.underlying35; have bH := Zq_.mk aY; have bJ := Zq_.mk bA; clear aY bA; have HB := Zq_.mk (Below.refl w.heap.size w); have H : ((api_Entry_61.f aG).bind fun aE => (some (aI, aJ, aE))) = some (r1, r2, r3) := h; clear h; replace H := ob_ H; obtain ⟨aE, A20, H⟩ := H; replace H : (some (aI, aJ, aE)) = some (r1, r2, r3) := H; have A2 := Zq_.mk A20; clear A20; simp only [Option.some.injEq, Prod.mk.injEq] at H; obtain ⟨rfl, rfl, rfl⟩ := H
 go_enter Try.func40, Try.ntmps40
 go_wp2_with (first | ((with_reducible refine qb_ (N := 1) rfl ?_); refine bE_ 1 #[.int .i64 aI, .int .i64 aJ, .slice aW aG.length aU] 35 ?_; intro bF hg w3 hbox hb; have aA := Zq_.mk (hbox); have bL := gW_ (w := w) hg (hB_ HB); have bN := gW_ (w := w) hg (hB_ HB); replace HB := sB_ HB hb; clear hb hbox hg) | ((with_reducible refine qb_ (N := 2) rfl ?_); refine bE_ 2 #[.int .i64 0, .int .i64 0, .slice none 0 0] 35 ?_; intro aM hg w4 hbox hb; have aB := Zq_.mk (hbox); have bK := gW_ (w := w) hg (by exact hSet_ HB); have bM := gW_ (w := w) hg (by exact hSet_ HB); replace HB := sB_ HB hb; have aD := nL_ aA hg; have aC := nG_ aA hg; replace aA := kB_ aA hb; clear hb hbox hg; have hnb5 := aD.out; have hnc5 := aC.out; obtain ⟨hcz6_0, hcz6_1, hcz6_2⟩ := c3_ aA; obtain ⟨hfz6_0, hfz6_1, hfz6_2⟩ := f3_ aA) | ((with_reducible refine qd_ (f := 61) rfl ?_); refine goesL_ (some 5) rfl rfl Try.func61 (by kernel_rfl) rfl #[.slice aW aG.length aU] rfl aR_ ?_; (with_reducible refine (api_Entry_61.calls _ _ aG aE _ ?side1 ?side2 A2.out).mono ?_); (case side1 => exact cX_ (Kd.qf_ bH.out HB.out)); (case side2 => exact bJ.out); rintro e w7 ⟨v104, rfl, ho0, hb⟩; refine ⟨_, rfl, ?_⟩; have bC := Zq_.mk (Kd.qz_ ho0 (qa_ (by exact hSet_ HB))); replace aA := kB_ aA hb; replace aB := kB_ aB hb; replace HB := sB_ HB hb; (try clear hb); (try clear ho0); obtain ⟨Ao8, co8, eo8⟩ := Kd.ve_ bC.out; subst eo8; obtain ⟨hcz9_0, hcz9_1, hcz9_2⟩ := c3_ aA; obtain ⟨hfz9_0, hfz9_1, hfz9_2⟩ := f3_ aA; obtain ⟨aS, aR, aQ⟩ := c3_ aB; obtain ⟨aP, aO, aN⟩ := f3_ aB))
 refine bodyPost_ret (results_cell_row rfl _ _ aM 35 #[.int .i64 aI, .int .i64 aJ, .slice Ao8 aE.length co8] (0, 0) _ rfl (by refine bP_ (cs := #[.int .i64 aI, .int .i64 aJ, .slice none 0 0]) 2 ?_; refine bP_ (cs := #[.int .i64 aI, .int .i64 0, .slice none 0 0]) 1 ?_; refine bP_ (cs := #[.int .i64 0, .int .i64 0, .slice none 0 0]) 0 ?_; refine bF_ aC ?_; exact bK_ aB) Try.underlying35 rfl (by kernel_rfl)) rfl ?_; exact ⟨_, by exact eW_, by (with_reducible repeat (first | apply Kd.qj_ | apply Kd.qi_ | apply Kd.R_drew)); exact Kd.R_mono (Kd.R_far (Kd.R_far (Kd.R_far (Kd.R_far (Kd.qy_ (Kd.qy_ bC.out aA.out (by decide)) aB.out (by decide)) (fun _ hk => hk.1.2) _) (fun _ hk => hk.2) _) (fun _ hk => hk.2) _) (fun _ hk => hk.2) _) (fun _ hk => trivial), by exact hSet_ HB⟩
def view_own.f (a0 : Int) (aL : Int) (aK : Int) (aF : List (S58)) : Option (Int × Int × Int × (List (S58))) := (state_Copy.f aL aK aF).bind fun aH => (some (a0, aH.1, aH.2.1, aH.2.2))
theorem view_own.calls (a0 : Int) (aL : Int) (aK : Int) (aV : Option Addr) (aT : Nat) (aF : List (S58)) (r1 : Int) (r2 : Int) (r3 : Int) (r4 : List (S58)) (w : World) (aX : Kd.C k58 w aV aF.length aF) (aZ : aF.length ≤ aT) (h : view_own.f a0 aL aK aF = some (r1, r2, r3, r4)) :
  Calls Try.prog 66 #[.int .i64 a0, .agg #[.int .i64 aL, .int .i64 aK, .slice aV aF.length aT]] w fun e w' => ∃ v3_ : Value, e = .returned (.agg #[.int .i64 r1, .int .i64 r2, .int .i64 r3, v3_]) ∧ Kd.R k58 58 w' w.heap.size (fun _ => True) v3_ r4 ∧ Below w.heap.size w w' := by
 have hu35 := Try.underlying35; have hu39 := Try.underlying39; have bG := Zq_.mk aX; have bI := Zq_.mk aZ; clear aX aZ; have HB := Zq_.mk (Below.refl w.heap.size w); have H : ((state_Copy.f aL aK aF).bind fun aH => (some (a0, aH.1, aH.2.1, aH.2.2))) = some (r1, r2, r3, r4) := h; clear h; replace H := ob_ H; obtain ⟨⟨aE, bE, bD⟩, A30, H⟩ := H; replace H : (some (a0, aE, bE, bD)) = some (r1, r2, r3, r4) := H; have A3 := Zq_.mk A30; clear A30; simp only [Option.some.injEq, Prod.mk.injEq] at H; obtain ⟨rfl, rfl, rfl, rfl⟩ := H
 go_enter Try.func66, Try.ntmps66
 go_wp2_with (first | ((with_reducible refine qb_ (N := 3) rfl ?_); refine bE_ 3 #[.int .i64 aL, .int .i64 aK, .slice aV aF.length aT] 35 ?_; intro bF hg w4 hbox hb; have aA := Zq_.mk (hbox); have bL := gW_ (w := w) hg (hB_ HB); have bN := gW_ (w := w) hg (hB_ HB); replace HB := sB_ HB hb; clear hb hbox hg) | ((with_reducible refine qb_ (N := 4) rfl ?_); refine bE_ 4 #[.int .i64 0, .int .i64 0, .int .i64 0, .slice none 0 0] 39 ?_; intro aM hg w5 hbox hb; have aB := Zq_.mk (hbox); have bK := gW_ (w := w) hg (by exact hSet_ HB); have bM := gW_ (w := w) hg (by exact hSet_ HB); replace HB := sB_ HB hb; have aD := nL_ aA hg; have aC := nG_ aA hg; replace aA := kB_ aA hb; clear hb hbox hg; have hnb6 := aD.out; have hnc6 := aC.out; obtain ⟨hcz7_0, hcz7_1, hcz7_2⟩ := c3_ aA; obtain ⟨hfz7_0, hfz7_1, hfz7_2⟩ := f3_ aA) | ((with_reducible refine qd_ (f := 40) rfl ?_); refine goesL_ (some 7) rfl rfl Try.func40 (by kernel_rfl) rfl #[.agg #[.int .i64 aL, .int .i64 aK, .slice aV aF.length aT]] rfl aR_ ?_; (with_reducible refine (state_Copy.calls aL aK _ _ aF aE bE bD _ ?side1 ?side2 A3.out).mono ?_); (case side1 => exact cX_ (Kd.qf_ bG.out HB.out)); (case side2 => exact bI.out); rintro e w8 ⟨v106, rfl, ho0, hb⟩; refine ⟨_, rfl, ?_⟩; have bB := Zq_.mk (Kd.qz_ ho0 (qa_ (by exact hSet_ HB))); replace aA := kB_ aA hb; replace aB := kB_ aB hb; replace HB := sB_ HB hb; (try clear hb); (try clear ho0); obtain ⟨Ao9, co9, eo9⟩ := Kd.ve_ bB.out; subst eo9; obtain ⟨aS, aR, aQ, hcz10_3⟩ := c4_ aB; obtain ⟨aP, aO, aN, hfz10_3⟩ := f4_ aB))
 refine bodyPost_ret (results_cell_row rfl _ _ aM 39 #[.int .i64 a0, .int .i64 aE, .int .i64 bE, .slice Ao9 bD.length co9] (0, 0) _ rfl (by exact bW4_ (bK_ aB)) Try.underlying39 rfl (by kernel_rfl)) rfl ?_; exact ⟨_, by exact eW_, by (with_reducible repeat (first | apply Kd.qj_ | apply Kd.qi_ | apply Kd.R_drew)); exact Kd.R_mono (Kd.R_far (Kd.R_far (Kd.R_far (Kd.R_far (Kd.qy_ bB.out aB.out (by decide)) (fun _ hk => hk.2) _) (fun _ hk => hk.2) _) (fun _ hk => hk.2) _) (fun _ hk => hk.2) _) (fun _ hk => trivial), by exact hSet_ HB⟩
def delta_Full.l0 : Nat → List (S53) → List (S39) → Int → Int → Option ((List (S53)))
 | 0, _, _, _, _ => none
 | k + 1, x3, x6, x7, x8 => if x8 < x7 then (if 0 ≤ x8 then (if x8 < (x6.length : Int) then ((state_Copy.f ((rd_T39 x6 x8).f1.f0) ((rd_T39 x6 x8).f1.f1) ((rd_T39 x6 x8).f1.f2)).bind fun aY => (if x3.length < 2513169434916 then (delta_Full.l0 k (x3 ++ [(⟨(rd_T39 x6 x8).f0, 0, (⟨aY.1, aY.2.1, aY.2.2⟩ : S35)⟩ : S53)]) x6 x7 (wrap64 (x8 + 1))) else (none))) else (none)) else (none)) else (some x3)
def delta_Full.f (k : Nat) (l0 : List (S39)) : Option ((List (S53))) := delta_Full.l0 k ([] : List (S53)) l0 (l0.length : Int) 0
theorem delta_Full.mono_l : ∀ k, (∀ y0 y1 y2 y3, LeO (delta_Full.l0 k y0 y1 y2 y3) (delta_Full.l0 (k + 1) y0 y1 y2 y3))
 | 0 => fun _ _ _ _ r h => by simp [delta_Full.l0] at h
 | k + 1 => by
  have ih0 := delta_Full.mono_l k
  ·intro y0 y1 y2 y3
   unfold delta_Full.l0
   with_reducible repeat' first | exact ih0 _ _ _ _ | exact LeO.refl _ | exact LeO.none _ | refine LeO.ite ?_ ?_ | refine LeO.bind ?_ (fun _ => ?_)
theorem delta_Full.mono : ∀ a0 k, LeO (delta_Full.f k a0) (delta_Full.f (k + 1) a0) := by
 intro a0 k; have ih0 := delta_Full.mono_l k
 unfold delta_Full.f
 with_reducible repeat' first | exact ih0 _ _ _ _ | exact LeO.refl _ | exact LeO.none _ | refine LeO.ite ?_ ?_ | refine LeO.bind ?_ (fun _ => ?_)
def delta_Full.T5 : Bool × List (List Nat × List Nat) := (true, [([], []), ([], []), ([1], [1]), ([], []), ([3], [3]), ([4], [4]), ([2, 5], [2, 5]), ([6], [6]), ([0, 7, 5], [0, 7]), ([8, 8, 0, 1, 2, 3, 4, 5, 6, 7, 8], [0, 8])])
def delta_Full.B5 : List Nat := [0, 0, 2, 0, 8, 24, 62, 126, 255, 511]
theorem delta_Full.tab5 : rtab .any (opsOf Try.f14 5) = delta_Full.T5 := by kernel_rfl
theorem delta_Full.bits5 : waitsOk delta_Full.T5.2 delta_Full.B5 = true := by kernel_rfl
theorem delta_Full.calls (k : Nat) (A0 : Option Addr) (c0 : Nat) (l0 : List (S39)) (r : List (S53)) (w : World) (hr0 : Kd.C k39 w A0 l0.length l0) (hc0 : l0.length ≤ c0) (h : delta_Full.f k l0 = some r) :
  Calls Try.prog 14 #[.slice A0 l0.length c0] w fun e w' => ∃ v0_ : Value, e = .returned (v0_) ∧ Kd.S k53 53 w' w.heap.size (fun _ => True) v0_ r ∧ Below w.heap.size w w' := by
 have hu39 := Try.underlying39; have hu35 := Try.underlying35; have hu53 := Try.underlying53; have HR0 := Zq_.mk hr0; have HC0 := Zq_.mk hc0; clear hr0 hc0; have HB := Zq_.mk (Below.refl w.heap.size w); have H : (delta_Full.l0 k ([] : List (S53)) l0 (l0.length : Int) 0) = some r := h; clear h; have H' := Zq_.mk H; clear H
 go_enter Try.func14, Try.ntmps14
 go_wp2
 go_loopg [3, 8] k (fun kq v3 v8 w' => ∃ (aI : List (S53)) (aA : Int), v8 = .int .i64 aA ∧ Zq_ (delta_Full.l0 kq aI l0 (l0.length : Int) aA = some r) ∧ Zq_ (kq ≤ k) ∧ Zq_ (Kd.S k53 53 w' w.heap.size (fun _ => True) v3 aI) ∧ Zq_ (Below w.heap.size w w'))
 case atStart => exact ⟨(([] : List (S53))), (0), eS_, H', ⟨Nat.le_refl _⟩, ⟨by first | exact Kd.S_nil _ _ _ _ _ | exact Kd.N_nil _ _ _ _ _ | exact Kd.V_nil _ _ _ _ _ | exact Kd.Q_nil _ _ _ _ _ | exact Kd.R_nil _ _ _ _ _⟩, ⟨hB_ HB⟩⟩
 case round =>
  clear H'
  try clear c1
  obtain ⟨aI, aA, rfl, HA, HK1, aD, HB⟩ := hrel
  cases gk with
  | zero => exact absurd HA.out (by simp [delta_Full.l0])
  | succ k1 =>
   have H := HA.out; clear HA; simp only [delta_Full.l0] at H
   by_cases c2 : aA < (l0.length : Int)
   ·rw [if_pos c2] at H; have c2b0 : decide (aA < (l0.length : Int)) = true := decide_eq_true c2; clear c2
    by_cases c3 : 0 ≤ aA
    ·rw [if_pos c3] at H; have c3b0 : decide (0 ≤ aA) = true := decide_eq_true c3; clear c3
     by_cases c4 : aA < (l0.length : Int)
     ·rw [if_pos c4] at H; have c4b0 : decide (aA < (l0.length : Int)) = true := decide_eq_true c4; clear c4; replace H := ob_ H; obtain ⟨⟨aW, aV, aU⟩, A50, H⟩ := H; (try dsimp only at H); have A5 := Zq_.mk A50; clear A50
      by_cases c6 : aI.length < 2513169434916
      ·rw [if_pos c6] at H; have LMc6 := Zq_.mk c6; clear c6; obtain ⟨bD, aX⟩ : ∃ y_ : List (S53), y_ = (aI ++ [(⟨(rd_T39 l0 aA).f0, 0, (⟨aW, aV, aU⟩ : S35)⟩ : S53)]) := ⟨_, rfl⟩
       replace H : (delta_Full.l0 k1 bD l0 (l0.length : Int) (wrap64 (aA + 1))) = some r := hY_ aX H
       have bG := Zq_.mk aX; clear aX; have H' := Zq_.mk H; clear H; have bC : 0 ≤ (aA : Int) := dA_; have bB : aA < (l0.length : Int) := dA_; obtain ⟨ad101, aH, aG, e101, aN, aM, aK, aJ, aQ, aR⟩ := at_T39 HR0.out aA bC bB; cases e101; replace aN := hC_ HB aN; replace aM := hC_ HB aM; replace aK := hC_ HB aK; replace aJ := hC_ HB aJ; have aZ := Zq_.mk aR; have bA := Zq_.mk aQ; clear aR aQ; replace bC := eq_true bC; replace bB := eq_true bB
       try go_wp2_with (first | ((with_reducible refine qb_ (N := 5) rfl ?_); refine bE_ 5 #[.int .i64 0, .int .i64 0, .int .i64 0, .slice none 0 0] 39 ?_; intro aE hg w7 hbox hb; replace aD := vV_ Kd.S_below aD hb; have aC := Zq_.mk (hbox); have GW102 := gW_ (w := w) hg (hB_ HB); have GE102 := gW_ (w := w) hg (hB_ HB); replace HB := sB_ HB hb; clear hb hbox hg; obtain ⟨hcz8_0, hcz8_1, hcz8_2, hcz8_3⟩ := c4_ aC; obtain ⟨hfz8_0, hfz8_1, hfz8_2, hfz8_3⟩ := f4_ aC))
       obtain ⟨w9, hW_⟩ : ∃ w_, w_ = ((((w7.setCell ⟨aE, 0, none⟩ (.int .i64 ((rd_T39 l0 aA).f0))).setCell ⟨aE, 1, none⟩ (.int .i64 ((rd_T39 l0 aA).f1.f0))).setCell ⟨aE, 2, none⟩ (.int .i64 ((rd_T39 l0 aA).f1.f1))).setCell ⟨aE, 3, none⟩ (.slice aH ((rd_T39 l0 aA).f1.f2).length aG)) := ⟨_, rfl⟩; have n0_ : Zq_ (Kd.S k53 53 w9 w.heap.size (fun _ => True) u3 aI) := (by subst hW_; exact ⟨by (with_reducible repeat (first | apply Kd.S_alloc | apply Kd.S_drewN | apply Kd.S_drew)); exact Kd.S_mono (Kd.S_far (Kd.S_far (Kd.S_far (Kd.S_far (Kd.S_types aD.out aC.out (by decide)) (fun _ hk => hk.2) _) (fun _ hk => hk.2) _) (fun _ hk => hk.2) _) (fun _ hk => hk.2) _) (fun _ hk => trivial)⟩); have n1_ : Zq_ (w9.heap[aE]? = some (.cells #[.int .i64 ((rd_T39 l0 aA).f0), .int .i64 ((rd_T39 l0 aA).f1.f0), .int .i64 ((rd_T39 l0 aA).f1.f1), .slice aH ((rd_T39 l0 aA).f1.f2).length aG] 39 (0, 0))) := (by subst hW_; exact ⟨by exact bW4_ (bK_ aC)⟩); have n2_ : Zq_ (Below w.heap.size w w9) := (by subst hW_; exact ⟨by exact hSet_ HB⟩); (try clear aD); (try clear aC); (try clear HB); rw [← hW_]; clear hW_; have aD := n0_; have aC := n1_; have HB := n2_; clear n0_ n1_ n2_; replace aD := Zq_.mk (Kd.S_drew aD.out); replace aC := Zq_.mk (qc_ aC.out); replace HB := Zq_.mk (qe_ HB.out); refine gS_ 10 (hA_ (b0_ aC) (hA_ (b1_ aC) (hA_ (b2_ aC) (hZ_ (b3_ aC))))) (fun hHeld => ?_); refine qm_ delta_Full.tab5 delta_Full.bits5 (fun HT_ HW_ => ?_); generalize w9.drew = w10 at aD aC HB hHeld ⊢; refine pQ_ 0 HT_ ?_; refine pQ_ 1 HT_ ?_; refine pQ_ 3 HT_ ?_; refine tL_ 2 HT_ HW_ hHeld ?_; refine tL_ 4 HT_ HW_ hHeld ?_; refine oN_ 5 17 10 63 HT_ (fun K hK => ?_); refine goes_ Try.func40 (by kernel_rfl) rfl #[.agg #[.int .i64 ((rd_T39 l0 aA).f1.f0), .int .i64 ((rd_T39 l0 aA).f1.f1), .slice aH ((rd_T39 l0 aA).f1.f2).length aG]] (by rfl) rfl rfl aR_ ?_
       with_reducible refine (state_Copy.calls ((rd_T39 l0 aA).f1.f0) ((rd_T39 l0 aA).f1.f1) _ _ ((rd_T39 l0 aA).f1.f2) aW aV aU _ ?side1 ?side2 A5.out).mono ?_
       (case side1 => exact cX_ (Kd.qf_ aZ.out HB.out)); (case side2 => exact bA.out); rintro e w11 ⟨v106, rfl, ho0, hb⟩; refine ⟨_, rfl, ?_⟩; replace aD := Zq_.mk (Kd.S_elder' (vX_ aD) (Kd.R_base ho0) hb); have aT := Zq_.mk (Kd.qz_ ho0 (qa_ (by exact hSet_ HB))); replace aC := kB_ aC hb; replace HB := sB_ HB hb; (try clear hb); (try clear ho0); obtain ⟨bI, bF, bE⟩ := Kd.ve_ aT.out; (first | subst bE | (injection bE with f1_ f2_ f3_; have f4_ := f1_.symm; have f5_ := f3_.symm; clear f1_ f2_ f3_; subst f4_; subst f5_)); refine hK.out _ _ (c4_ aC) (fun hHeld => ?_); clear hK K; refine norm_ (a' := ?_) ?_ ?_; rotate_left
       ·show Act.put _ (some 17) _ = _
        simp only [Act.put, sa_, sb_, sc_, i64_w, i32_w]; rfl
       refine pQ_ 6 HT_ ?_; refine oN_ 7 19 10 255 HT_ (fun K hK => ?_); refine value_ (w1 := ?_) (v := ?_) (by rfl) rfl ?_ ?_; rotate_left 2
       ·go_simp
        constructor
        ·rfl
        ·rfl
       refine hK.out _ _ ⟨(qg_ (ql_ aC.out _) 0).trans rfl, (qg_ (ql_ aC.out _) 1).trans rfl, (qg_ (ql_ aC.out _) 2).trans rfl, (qg_ (ql_ aC.out _) 3).trans rfl⟩ (fun hHeld => ?_); clear hK K; refine norm_ (a' := ?_) ?_ ?_; rotate_left
       ·show Act.put _ (some 19) _ = _
        simp only [Act.put, sa_, sb_, sc_, i64_w, i32_w]; rfl
       refine oN_ 8 20 10 511 HT_ (fun K hK => ?_); refine Kd.S_append_step k53 (w0 := w) w.heap.size (by rfl) (.tmp 12) (.tmp 19) 27 53 (.agg #[(.int .i64 0), (.int .i64 0), (.int .i64 0), (.int .i64 0), (.slice none 0 0)]) 56 rfl Try.underlying27 info53 rfl (by decide) (by omega) u3 aI (⟨(rd_T39 l0 aA).f0, 0, (⟨aW, aV, aU⟩ : S35)⟩ : S53) [.int .i64 ((rd_T39 l0 aA).f0), .int .i64 0, .int .i64 aW, .int .i64 aV, .slice bI aU.length bF] (fun _ => True) (fun k_ => some k_ = (.slice bI aU.length bF : Value).ownBlock) rfl rfl ?aP (fun k_ hk_ => ((Kd.R_mono (ok' := fun k_ => ((fun _ => True)) k_ ∧ some k_ ≠ (u3 : Value).ownBlock) (Kd.R_apart' (aT.out) (Kd.S_typed aD.out) (by decide)) (fun k_ hk => ⟨trivial, hk.2⟩))).1 k_ hk_.symm) ?aF ?aO ?aB ?aS ?aL ?_; (case aP => exact k53_mkM _ _ _ (⟨(rd_T39 l0 aA).f0, 0, (⟨aW, aV, aU⟩ : S35)⟩ : S53) (Kd.R_mono (Kd.R_tight rfl (Kd.R_mono (ok' := fun k_ => ((fun _ => True)) k_ ∧ some k_ ≠ (u3 : Value).ownBlock) (Kd.R_apart' (aT.out) (Kd.S_typed aD.out) (by decide)) (fun k_ hk => ⟨trivial, hk.2⟩))) (fun _ h_ => h_))); (case aB => exact (by exact hSet_ HB)); (case aF => exact (fun _ _ => trivial)); (case aO => exact (by (with_reducible repeat (first | apply Kd.S_alloc | apply Kd.S_drewN | apply Kd.S_drew)); exact Kd.S_mono aD.out (fun k_ hk => ⟨trivial, fun e_ => hk.2 e_⟩))); (case aS => exact (qa_ (by exact hSet_ HB))); (case aL => have := LMc6.out; omega); intro v109 w13 ho hb hg hat; rw [← bG.out] at ho; replace aC := Zq_.mk (qs_ (g := aE) (o := .cells #[.int .i64 ((rd_T39 l0 aA).f0), .int .i64 ((rd_T39 l0 aA).f1.f0), .int .i64 ((rd_T39 l0 aA).f1.f1), .slice aH ((rd_T39 l0 aA).f1.f2).length aG] 39 (0, 0)) (by exact bK_ aC) hg (Kd.S_ne aD.out aC.out (by decide))); replace HB := Zq_.mk (hb); have bH := Zq_.mk (ho); clear aD aT; clear ho hb hg hat; refine hK.out _ _ (c4_ aC) (fun hHeld => ?_); clear hK K; refine norm_ (a' := ?_) ?_ ?_; rotate_left
       ·show Act.put _ (some 20) _ = _
        simp only [Act.put, sa_, sb_, sc_, i64_w, i32_w]; rfl
       refine pQ_ 9 HT_ ?_; refine dN_ HT_ ?_; (try go_wp2)
       go_roundg k1
       case measure => have := HK1.out; omega
       case rel => exact ⟨(bD), (wrap64 (aA + 1)), eS_, H', ⟨by have := HK1.out; omega⟩, ⟨by (with_reducible repeat (first | apply Kd.S_alloc | apply Kd.S_drewN | apply Kd.S_drew)); exact bH.out⟩, ⟨by exact hSet_ HB⟩⟩
      ·rw [if_neg c6] at H; exact absurd H (by simp)
     ·rw [if_neg c4] at H; exact absurd H (by simp)
    ·rw [if_neg c3] at H; exact absurd H (by simp)
   ·rw [if_neg c2] at H; have c2b0 : decide (aA < (l0.length : Int)) = false := decide_eq_false c2; clear c2; obtain rfl := Option.some.inj H
    go_wp2
    go_ret
    exact ⟨_, by exact eW_, by (with_reducible repeat (first | apply Kd.S_alloc | apply Kd.S_drewN | apply Kd.S_drew)); exact aD.out, hB_ HB⟩
def ref06_Same.l0 : Nat → List (S39) → List (S39) → Int → Option (Bool)
 | 0, _, _, _ => none
 | k + 1, x0, x1, x5 => if x5 < (x0.length : Int) then (if 0 ≤ x5 then (if x5 < (x1.length : Int) then (if ((rd_T39 x0 x5).f0) = ((rd_T39 x1 x5).f0) then ((ref05_Same.f k ((rd_T39 x0 x5).f1.f0) ((rd_T39 x0 x5).f1.f1) ((rd_T39 x0 x5).f1.f2) ((rd_T39 x1 x5).f1.f0) ((rd_T39 x1 x5).f1.f1) ((rd_T39 x1 x5).f1.f2)).bind fun cP => (if cP = true then (ref06_Same.l0 k x0 x1 (wrap64 (x5 + 1))) else (some false))) else (some false)) else (none)) else (none)) else (some true)
def ref06_Same.f (k : Nat) (l0 : List (S39)) (l1 : List (S39)) : Option (Bool) := if (l0.length : Int) = (l1.length : Int) then (ref06_Same.l0 k l0 l1 0) else (some false)
theorem ref06_Same.mono_l : ∀ k, (∀ y0 y1 y2, LeO (ref06_Same.l0 k y0 y1 y2) (ref06_Same.l0 (k + 1) y0 y1 y2))
 | 0 => fun _ _ _ r h => by simp [ref06_Same.l0] at h
 | k + 1 => by
  have ih0 := ref06_Same.mono_l k
  ·intro y0 y1 y2
   unfold ref06_Same.l0
   with_reducible repeat' first | exact ih0 _ _ _ | exact ref05_Same.mono _ _ _ _ _ _ _ | exact LeO.refl _ | exact LeO.none _ | refine LeO.ite ?_ ?_ | refine LeO.bind ?_ (fun _ => ?_)
theorem ref06_Same.mono : ∀ a0 a1 k, LeO (ref06_Same.f k a0 a1) (ref06_Same.f (k + 1) a0 a1) := by
 intro a0 a1 k; have ih0 := ref06_Same.mono_l k
 unfold ref06_Same.f
 with_reducible repeat' first | exact ih0 _ _ _ | exact ref05_Same.mono _ _ _ _ _ _ _ | exact LeO.refl _ | exact LeO.none _ | refine LeO.ite ?_ ?_ | refine LeO.bind ?_ (fun _ => ?_)
def ref06_Same.T6 : Bool × List (List Nat × List Nat) := (true, [([], []), ([], []), ([0, 1], [0, 1]), ([2], [2]), ([3], [3]), ([], []), ([], []), ([5, 6], [5, 6]), ([7], [7]), ([8], [8]), ([4, 9], [4, 9]), ([10], [10]), ([11], [11]), ([11], [11]), ([12, 13, 11], [11, 12, 13]), ([14, 11], [11, 14]), ([15, 11], [11, 15]), ([11], [11]), ([11], [11]), ([17, 18, 11], [11, 17, 18]), ([19, 11], [11, 19]), ([20, 11], [11, 20]), ([16, 21, 11, 11], [11, 16, 21]), ([22, 11], [11, 22]), ([11, 23], [11, 23])])
def ref06_Same.B6 : List Nat := [0, 0, 3, 7, 15, 0, 0, 96, 224, 480, 1023, 2047, 4095, 4095, 16383, 32767, 65535, 4095, 4095, 397311, 921599, 1970175, 4194303, 8388607, 16777215]
theorem ref06_Same.tab6 : rtab .any (opsOf Try.f22 6) = ref06_Same.T6 := by kernel_rfl
theorem ref06_Same.bits6 : waitsOk ref06_Same.T6.2 ref06_Same.B6 = true := by kernel_rfl
theorem ref06_Same.calls (k : Nat) (A0 : Option Addr) (c0 : Nat) (l0 : List (S39)) (A1 : Option Addr) (c1 : Nat) (l1 : List (S39)) (r : Bool) (w : World) (hr0 : Kd.C k39 w A0 l0.length l0) (hc0 : l0.length ≤ c0) (hr1 : Kd.C k39 w A1 l1.length l1) (hc1 : l1.length ≤ c1) (h : ref06_Same.f k l0 l1 = some r) :
  Calls Try.prog 22 #[.slice A0 l0.length c0, .slice A1 l1.length c1] w fun e w' => e = .returned (.bool r) ∧ Below w.heap.size w w' := by
 have hu35 := Try.underlying35; have HR0 := Zq_.mk hr0; have HC0 := Zq_.mk hc0; clear hr0 hc0; have HR1 := Zq_.mk hr1; have HC1 := Zq_.mk hc1; clear hr1 hc1; have HB := Zq_.mk (Below.refl w.heap.size w); have H : (if (l0.length : Int) = (l1.length : Int) then (ref06_Same.l0 k l0 l1 0) else (some false)) = some r := h; clear h
 by_cases c3 : (l0.length : Int) = (l1.length : Int)
 ·rw [if_pos c3] at H; have cY : ((l0.length : Int) == (l1.length : Int)) = true := beq_iff_eq.mpr c3; have cX : ((l0.length : Int) != (l1.length : Int)) = false := bne_eq_false_iff_eq.mpr c3
  have cW : (l0.length == l1.length) = true := by first | simpa using c3 | (simp at c3 ⊢; omega)
  clear c3; have H' := Zq_.mk H; clear H
  go_enter Try.func22, Try.ntmps22
  go_wp2
  go_loopg [5] k (fun kq v5 w' => ∃ (aA : Int), v5 = .int .i64 aA ∧ Zq_ (ref06_Same.l0 kq l0 l1 aA = some r) ∧ Zq_ (kq ≤ k) ∧ Zq_ (Below w.heap.size w w'))
  case atStart => exact ⟨(0), eS_, H', ⟨Nat.le_refl _⟩, ⟨hB_ HB⟩⟩
  case round =>
   clear H'
   try clear c1
   try clear c2
   try clear p2
   try clear c3
   try clear cY
   try clear cX
   try clear cW
   obtain ⟨aA, rfl, HA, HK1, HB⟩ := hrel
   cases gk with
   | zero => exact absurd HA.out (by simp [ref06_Same.l0])
   | succ k1 =>
    have H := HA.out; clear HA; simp only [ref06_Same.l0] at H
    by_cases c4 : aA < (l0.length : Int)
    ·rw [if_pos c4] at H; have c4b0 : decide (aA < (l0.length : Int)) = true := decide_eq_true c4; clear c4
     by_cases c5 : 0 ≤ aA
     ·rw [if_pos c5] at H; have c5b0 : decide (0 ≤ aA) = true := decide_eq_true c5; clear c5
      by_cases c6 : aA < (l1.length : Int)
      ·rw [if_pos c6] at H; have c6b0 : decide (aA < (l1.length : Int)) = true := decide_eq_true c6; clear c6
       by_cases c7 : ((rd_T39 l0 aA).f0) = ((rd_T39 l1 aA).f0)
       ·rw [if_pos c7] at H; have c7b0 : (((rd_T39 l0 aA).f0) == ((rd_T39 l1 aA).f0)) = true := beq_iff_eq.mpr c7; have c7b1 : (((rd_T39 l0 aA).f0) != ((rd_T39 l1 aA).f0)) = false := bne_eq_false_iff_eq.mpr c7; clear c7; replace H := ob_ H; obtain ⟨cP, A80, H⟩ := H; (try dsimp only at H); have A8 := Zq_.mk A80; clear A80
        by_cases c9 : cP = true
        ·subst c9
         rw [if_pos rfl] at H; have H' := Zq_.mk H; clear H; (try go_wp2); replace HB := Zq_.mk (qe_ HB.out); have bW : 0 ≤ (aA : Int) := dA_; have bU : aA < (l0.length : Int) := dA_; obtain ⟨cI, cC, bY, cM, aI, aH, aG, aC, aS, aU⟩ := at_T39 HR0.out aA bW bU; have aZ := aC; have bA := aG; have bB := aH; have bC := aI; cases cM; replace aI := hC_ HB aI; replace aH := hC_ HB aH; replace aG := hC_ HB aG; replace aC := hC_ HB aC; have bS := Zq_.mk aU; have cK := Zq_.mk aS; clear aU aS; replace bW := eq_true bW; replace bU := eq_true bU; have bV : 0 ≤ (aA : Int) := dA_; have bT : aA < (l1.length : Int) := dA_; obtain ⟨cH, cB, bX, cL, aF, aE, aD, aB, aR, aT⟩ := at_T39 HR1.out aA bV bT; have aV := aB; have aW := aD; have aX := aE; have aY := aF; cases cL; replace aF := hC_ HB aF; replace aE := hC_ HB aE; replace aD := hC_ HB aD; replace aB := hC_ HB aB; have bR := Zq_.mk aT; have cJ := Zq_.mk aR; clear aT aR; replace bV := eq_true bV; replace bT := eq_true bT; have cG : 0 ≤ (aA : Int) := dA_; have cE : aA < (l0.length : Int) := dA_; obtain ⟨cO, cV, cT, cR, aQ, aP, aO, aK, bM, bO⟩ := at_T39 HR0.out aA cG cE; have bH := aK; have bI := aO; have bJ := aP; have bK := aQ; obtain rfl : cI = cO := (by injection cR); replace aQ := hC_ HB aQ; replace aP := hC_ HB aP; replace aO := hC_ HB aO; replace aK := hC_ HB aK; have bQ := Zq_.mk bO; have cA := Zq_.mk bM; clear bO bM; replace cG := eq_true cG; replace cE := eq_true cE; have ea_ := Option.some.inj (aC.symm.trans aK)
         injection ea_ with ea_ en_ ec_
         subst ea_; subst ec_; clear en_; have cF : 0 ≤ (aA : Int) := dA_; have cD : aA < (l1.length : Int) := dA_; obtain ⟨cN, cU, cS, cQ, aN, aM, aL, aJ, bL, bN⟩ := at_T39 HR1.out aA cF cD; have bD := aJ; have bE := aL; have bF := aM; have bG := aN; obtain rfl : cH = cN := (by injection cQ); replace aN := hC_ HB aN; replace aM := hC_ HB aM; replace aL := hC_ HB aL; replace aJ := hC_ HB aJ; have bP := Zq_.mk bN; have bZ := Zq_.mk bL; clear bN bL; replace cF := eq_true cF; replace cD := eq_true cD; have ea_ := Option.some.inj (aB.symm.trans aJ)
         injection ea_ with ea_ en_ ec_
         subst ea_; subst ec_; clear en_; refine gS_ 25 (hA_ (hC_ HB bC) (hA_ (hC_ HB bB) (hA_ (hC_ HB bA) (hA_ (hC_ HB aZ) (hA_ (hC_ HB aY) (hA_ (hC_ HB aX) (hA_ (hC_ HB aW) (hA_ (hC_ HB aV) (hA_ (hC_ HB bK) (hA_ (hC_ HB bJ) (hA_ (hC_ HB bI) (hA_ (hC_ HB bH) (hA_ (hC_ HB bG) (hA_ (hC_ HB bF) (hA_ (hC_ HB bE) (hZ_ (hC_ HB bD))))))))))))))))) (fun hHeld => ?_); refine qm_ ref06_Same.tab6 ref06_Same.bits6 (fun HT_ HW_ => ?_); generalize wr.drew = w10 at HB bS bR bQ bP aI aH aG aC aF aE aD aB aQ aP aO aK aN aM aL aJ hHeld ⊢; refine up0_ 0 ?_; (iterate 4 refine pN_ ?_); refine pQ_ 5 HT_ ?_; refine pQ_ 6 HT_ ?_; refine pQ_ 7 HT_ ?_; refine pQ_ 8 HT_ ?_; refine tL_ 4 HT_ HW_ hHeld ?_; refine up0_ 9 ?_; (iterate 7 first | refine pN_ ?_ | refine tN_ ?_); refine pQ_ 17 HT_ ?_; refine pQ_ 18 HT_ ?_; refine pQ_ 19 HT_ ?_; refine pQ_ 20 HT_ ?_; refine tL_ 16 HT_ HW_ hHeld ?_; refine tL_ 21 HT_ HW_ hHeld ?_; refine oN_ 22 39 25 8388607 HT_ (fun K hK => ?_); refine goes_ Try.func38 (by kernel_rfl) rfl #[.agg #[.int .i64 ((rd_T39 l0 aA).f1.f0), .int .i64 ((rd_T39 l0 aA).f1.f1), .slice cC ((rd_T39 l0 aA).f1.f2).length bY], .agg #[.int .i64 ((rd_T39 l1 aA).f1.f0), .int .i64 ((rd_T39 l1 aA).f1.f1), .slice cB ((rd_T39 l1 aA).f1.f2).length bX]] (by rfl) rfl rfl aR_ ?_
         with_reducible refine (ref05_Same.calls k1 ((rd_T39 l0 aA).f1.f0) ((rd_T39 l0 aA).f1.f1) _ _ ((rd_T39 l0 aA).f1.f2) ((rd_T39 l1 aA).f1.f0) ((rd_T39 l1 aA).f1.f1) _ _ ((rd_T39 l1 aA).f1.f2) true _ ?side1 ?side2 ?side3 ?side4 A8.out).mono ?_
         (case side1 => exact cX_ (Kd.qf_ bQ.out HB.out)); (case side2 => exact cA.out); (case side3 => exact cX_ (Kd.qf_ bP.out HB.out)); (case side4 => exact bZ.out); rintro e w11 ⟨rfl, hb⟩; refine ⟨_, rfl, ?_⟩; replace HB := sB_ HB hb; (try clear hb); refine hK.out _ _ ⟨(hC_ HB bC), (hC_ HB bB), (hC_ HB bA), (hC_ HB aZ), (hC_ HB aY), (hC_ HB aX), (hC_ HB aW), (hC_ HB aV), (hC_ HB bK), (hC_ HB bJ), (hC_ HB bI), (hC_ HB bH), (hC_ HB bG), (hC_ HB bF), (hC_ HB bE), (hC_ HB bD)⟩ (fun hHeld => ?_); clear hK K; refine norm_ (a' := ?_) ?_ ?_; rotate_left
         ·show Act.put _ (some 39) _ = _
          simp only [Act.put, sa_, sb_, sc_, i64_w, i32_w]; rfl
         refine pQ_ 23 HT_ ?_; refine pQ_ 24 HT_ ?_; refine dN_ HT_ ?_; (try go_wp2)
         go_roundg k1
         case measure => have := HK1.out; omega
         case rel => exact ⟨(wrap64 (aA + 1)), eS_, H', ⟨by have := HK1.out; omega⟩, ⟨hB_ HB⟩⟩
        ·replace c9 := Bool.eq_false_iff.mpr c9; subst c9
         have H1 : (some false) = some r := by rw [if_neg (show ¬ (false = true) by decide)] at H; exact H
         clear H; have H := H1; clear H1; obtain rfl := Option.some.inj H; (try go_wp2); replace HB := Zq_.mk (qe_ HB.out); have bW : 0 ≤ (aA : Int) := dA_; have bU : aA < (l0.length : Int) := dA_; obtain ⟨cI, cC, bY, cM, aI, aH, aG, aC, aS, aU⟩ := at_T39 HR0.out aA bW bU; have aZ := aC; have bA := aG; have bB := aH; have bC := aI; cases cM; replace aI := hC_ HB aI; replace aH := hC_ HB aH; replace aG := hC_ HB aG; replace aC := hC_ HB aC; have bS := Zq_.mk aU; have cK := Zq_.mk aS; clear aU aS; replace bW := eq_true bW; replace bU := eq_true bU; have bV : 0 ≤ (aA : Int) := dA_; have bT : aA < (l1.length : Int) := dA_; obtain ⟨cH, cB, bX, cL, aF, aE, aD, aB, aR, aT⟩ := at_T39 HR1.out aA bV bT; have aV := aB; have aW := aD; have aX := aE; have aY := aF; cases cL; replace aF := hC_ HB aF; replace aE := hC_ HB aE; replace aD := hC_ HB aD; replace aB := hC_ HB aB; have bR := Zq_.mk aT; have cJ := Zq_.mk aR; clear aT aR; replace bV := eq_true bV; replace bT := eq_true bT; have cG : 0 ≤ (aA : Int) := dA_; have cE : aA < (l0.length : Int) := dA_; obtain ⟨cO, cV, cT, cR, aQ, aP, aO, aK, bM, bO⟩ := at_T39 HR0.out aA cG cE; have bH := aK; have bI := aO; have bJ := aP; have bK := aQ; obtain rfl : cI = cO := (by injection cR); replace aQ := hC_ HB aQ; replace aP := hC_ HB aP; replace aO := hC_ HB aO; replace aK := hC_ HB aK; have bQ := Zq_.mk bO; have cA := Zq_.mk bM; clear bO bM; replace cG := eq_true cG; replace cE := eq_true cE; have ea_ := Option.some.inj (aC.symm.trans aK)
         injection ea_ with ea_ en_ ec_
         subst ea_; subst ec_; clear en_; have cF : 0 ≤ (aA : Int) := dA_; have cD : aA < (l1.length : Int) := dA_; obtain ⟨cN, cU, cS, cQ, aN, aM, aL, aJ, bL, bN⟩ := at_T39 HR1.out aA cF cD; have bD := aJ; have bE := aL; have bF := aM; have bG := aN; obtain rfl : cH = cN := (by injection cQ); replace aN := hC_ HB aN; replace aM := hC_ HB aM; replace aL := hC_ HB aL; replace aJ := hC_ HB aJ; have bP := Zq_.mk bN; have bZ := Zq_.mk bL; clear bN bL; replace cF := eq_true cF; replace cD := eq_true cD; have ea_ := Option.some.inj (aB.symm.trans aJ)
         injection ea_ with ea_ en_ ec_
         subst ea_; subst ec_; clear en_; refine gS_ 25 (hA_ (hC_ HB bC) (hA_ (hC_ HB bB) (hA_ (hC_ HB bA) (hA_ (hC_ HB aZ) (hA_ (hC_ HB aY) (hA_ (hC_ HB aX) (hA_ (hC_ HB aW) (hA_ (hC_ HB aV) (hA_ (hC_ HB bK) (hA_ (hC_ HB bJ) (hA_ (hC_ HB bI) (hA_ (hC_ HB bH) (hA_ (hC_ HB bG) (hA_ (hC_ HB bF) (hA_ (hC_ HB bE) (hZ_ (hC_ HB bD))))))))))))))))) (fun hHeld => ?_); refine qm_ ref06_Same.tab6 ref06_Same.bits6 (fun HT_ HW_ => ?_); generalize wr.drew = w12 at HB bS bR bQ bP aI aH aG aC aF aE aD aB aQ aP aO aK aN aM aL aJ hHeld ⊢; refine up0_ 0 ?_; (iterate 4 refine pN_ ?_); refine pQ_ 5 HT_ ?_; refine pQ_ 6 HT_ ?_; refine pQ_ 7 HT_ ?_; refine pQ_ 8 HT_ ?_; refine tL_ 4 HT_ HW_ hHeld ?_; refine up0_ 9 ?_; (iterate 7 first | refine pN_ ?_ | refine tN_ ?_); refine pQ_ 17 HT_ ?_; refine pQ_ 18 HT_ ?_; refine pQ_ 19 HT_ ?_; refine pQ_ 20 HT_ ?_; refine tL_ 16 HT_ HW_ hHeld ?_; refine tL_ 21 HT_ HW_ hHeld ?_; refine oN_ 22 39 25 8388607 HT_ (fun K hK => ?_); refine goes_ Try.func38 (by kernel_rfl) rfl #[.agg #[.int .i64 ((rd_T39 l0 aA).f1.f0), .int .i64 ((rd_T39 l0 aA).f1.f1), .slice cC ((rd_T39 l0 aA).f1.f2).length bY], .agg #[.int .i64 ((rd_T39 l1 aA).f1.f0), .int .i64 ((rd_T39 l1 aA).f1.f1), .slice cB ((rd_T39 l1 aA).f1.f2).length bX]] (by rfl) rfl rfl aR_ ?_
         with_reducible refine (ref05_Same.calls k1 ((rd_T39 l0 aA).f1.f0) ((rd_T39 l0 aA).f1.f1) _ _ ((rd_T39 l0 aA).f1.f2) ((rd_T39 l1 aA).f1.f0) ((rd_T39 l1 aA).f1.f1) _ _ ((rd_T39 l1 aA).f1.f2) false _ ?side1 ?side2 ?side3 ?side4 A8.out).mono ?_
         (case side1 => exact cX_ (Kd.qf_ bQ.out HB.out)); (case side2 => exact cA.out); (case side3 => exact cX_ (Kd.qf_ bP.out HB.out)); (case side4 => exact bZ.out); rintro e w13 ⟨rfl, hb⟩; refine ⟨_, rfl, ?_⟩; replace HB := sB_ HB hb; (try clear hb); refine hK.out _ _ ⟨(hC_ HB bC), (hC_ HB bB), (hC_ HB bA), (hC_ HB aZ), (hC_ HB aY), (hC_ HB aX), (hC_ HB aW), (hC_ HB aV), (hC_ HB bK), (hC_ HB bJ), (hC_ HB bI), (hC_ HB bH), (hC_ HB bG), (hC_ HB bF), (hC_ HB bE), (hC_ HB bD)⟩ (fun hHeld => ?_); clear hK K; refine norm_ (a' := ?_) ?_ ?_; rotate_left
         ·show Act.put _ (some 39) _ = _
          simp only [Act.put, sa_, sb_, sc_, i64_w, i32_w]; rfl
         refine pQ_ 23 HT_ ?_; refine pQ_ 24 HT_ ?_; refine dN_ HT_ ?_; (try go_wp2)
         go_ret
         exact ⟨by exact eW_, hB_ HB⟩
       ·rw [if_neg c7] at H; have c7b0 : (((rd_T39 l0 aA).f0) == ((rd_T39 l1 aA).f0)) = false := beq_eq_false_iff_ne.mpr c7; have c7b1 : (((rd_T39 l0 aA).f0) != ((rd_T39 l1 aA).f0)) = true := bne_iff_ne.mpr c7; obtain rfl := Option.some.inj H; (try go_wp2); replace HB := Zq_.mk (qe_ HB.out); have bW : 0 ≤ (aA : Int) := dA_; have bU : aA < (l0.length : Int) := dA_; obtain ⟨cI, cC, bY, cM, aI, aH, aG, aC, aS, aU⟩ := at_T39 HR0.out aA bW bU; have aZ := aC; have bA := aG; have bB := aH; have bC := aI; cases cM; replace aI := hC_ HB aI; replace aH := hC_ HB aH; replace aG := hC_ HB aG; replace aC := hC_ HB aC; have bS := Zq_.mk aU; have cK := Zq_.mk aS; clear aU aS; replace bW := eq_true bW; replace bU := eq_true bU; have bV : 0 ≤ (aA : Int) := dA_; have bT : aA < (l1.length : Int) := dA_; obtain ⟨cH, cB, bX, cL, aF, aE, aD, aB, aR, aT⟩ := at_T39 HR1.out aA bV bT; have aV := aB; have aW := aD; have aX := aE; have aY := aF; cases cL; replace aF := hC_ HB aF; replace aE := hC_ HB aE; replace aD := hC_ HB aD; replace aB := hC_ HB aB; have bR := Zq_.mk aT; have cJ := Zq_.mk aR; clear aT aR; replace bV := eq_true bV; replace bT := eq_true bT; refine gS_ 25 (hA_ (hC_ HB bC) (hA_ (hC_ HB bB) (hA_ (hC_ HB bA) (hA_ (hC_ HB aZ) (hA_ (hC_ HB aY) (hA_ (hC_ HB aX) (hA_ (hC_ HB aW) (hZ_ (hC_ HB aV))))))))) (fun hHeld => ?_); refine qm_ ref06_Same.tab6 ref06_Same.bits6 (fun HT_ HW_ => ?_); generalize wr.drew = w14 at HB bS bR aI aH aG aC aF aE aD aB hHeld ⊢; refine up0_ 0 ?_; (iterate 4 refine pN_ ?_); refine pQ_ 5 HT_ ?_; refine pQ_ 6 HT_ ?_; refine pQ_ 7 HT_ ?_; refine pQ_ 8 HT_ ?_; refine tL_ 4 HT_ HW_ hHeld ?_; refine up0_ 9 ?_; (iterate 16 first | refine vN_ ?_ | refine pN_ ?_ | refine tN_ ?_); refine dN_ HT_ ?_; (try go_wp2)
        go_ret
        exact ⟨by exact eW_, hB_ HB⟩
      ·rw [if_neg c6] at H; exact absurd H (by simp)
     ·rw [if_neg c5] at H; exact absurd H (by simp)
    ·rw [if_neg c4] at H; have c4b0 : decide (aA < (l0.length : Int)) = false := decide_eq_false c4; clear c4; obtain rfl := Option.some.inj H
     go_wp2
     go_ret
     exact ⟨by exact eW_, hB_ HB⟩
 ·rw [if_neg c3] at H; have cY : ((l0.length : Int) == (l1.length : Int)) = false := beq_eq_false_iff_ne.mpr c3; have cX : ((l0.length : Int) != (l1.length : Int)) = true := bne_iff_ne.mpr c3
  have cW : (l0.length == l1.length) = false := by first | simpa using c3 | (simp at c3 ⊢; omega)
  obtain rfl := Option.some.inj H
  go_enter Try.func22, Try.ntmps22
  go_wp2
  go_ret
  exact ⟨by exact eW_, hB_ HB⟩
def ref07_Of.l0 : Nat → List (S39) → List (S60) → Int → Option ((List (S60)))
 | 0, _, _, _ => none
 | k + 1, x0, x3, x4 => if x4 < (x0.length : Int) then (if 0 ≤ x4 then ((ref05_Top.f k ((rd_T39 x0 x4).f1.f0) ((rd_T39 x0 x4).f1.f1) ((rd_T39 x0 x4).f1.f2)).bind fun bG => (if x3.length < 5864062014805 then (ref07_Of.l0 k x0 (x3 ++ [(⟨(rd_T39 x0 x4).f0, (rd_T39 x0 x4).f1.f0, bG⟩ : S60)]) (wrap64 (x4 + 1))) else (none))) else (none)) else (some x3)
def ref07_Of.f (k : Nat) (l0 : List (S39)) : Option ((List (S60))) := ref07_Of.l0 k l0 ([] : List (S60)) 0
theorem ref07_Of.mono_l : ∀ k, (∀ y0 y1 y2, LeO (ref07_Of.l0 k y0 y1 y2) (ref07_Of.l0 (k + 1) y0 y1 y2))
 | 0 => fun _ _ _ r h => by simp [ref07_Of.l0] at h
 | k + 1 => by
  have ih0 := ref07_Of.mono_l k
  ·intro y0 y1 y2
   unfold ref07_Of.l0
   with_reducible repeat' first | exact ih0 _ _ _ | exact ref05_Top.mono _ _ _ _ | exact LeO.refl _ | exact LeO.none _ | refine LeO.ite ?_ ?_ | refine LeO.bind ?_ (fun _ => ?_)
theorem ref07_Of.mono : ∀ a0 k, LeO (ref07_Of.f k a0) (ref07_Of.f (k + 1) a0) := by
 intro a0 k; have ih0 := ref07_Of.mono_l k
 unfold ref07_Of.f
 with_reducible repeat' first | exact ih0 _ _ _ | exact ref05_Top.mono _ _ _ _ | exact LeO.refl _ | exact LeO.none _ | refine LeO.ite ?_ ?_ | refine LeO.bind ?_ (fun _ => ?_)
def ref07_Of.T5 : Bool × List (List Nat × List Nat) := (true, [([], []), ([], []), ([], []), ([1, 2], [1, 2]), ([3], [3]), ([4], [4]), ([], []), ([], []), ([6, 7], [6, 7]), ([8], [8]), ([9], [9]), ([10], [10]), ([], []), ([], []), ([12, 13], [12, 13]), ([14], [14]), ([15], [15]), ([16], [16]), ([5, 11, 17], [5, 11, 17]), ([18], [18]), ([0, 19, 17], [0, 19]), ([20, 20, 0, 1, 2, 3, 4, 5, 6, 7, 8, 9, 10, 11, 12, 13, 14, 15, 16, 17, 18, 19, 20], [0, 20])])
def ref07_Of.B5 : List Nat := [0, 0, 0, 6, 14, 30, 0, 0, 192, 448, 960, 1984, 0, 0, 12288, 28672, 61440, 126976, 262142, 524286, 1048575, 2097151]
theorem ref07_Of.tab5 : rtab .any (opsOf Try.f20 5) = ref07_Of.T5 := by kernel_rfl
theorem ref07_Of.bits5 : waitsOk ref07_Of.T5.2 ref07_Of.B5 = true := by kernel_rfl
theorem ref07_Of.calls (k : Nat) (A0 : Option Addr) (c0 : Nat) (l0 : List (S39)) (r : List (S60)) (w : World) (hr0 : Kd.C k39 w A0 l0.length l0) (hc0 : l0.length ≤ c0) (h : ref07_Of.f k l0 = some r) :
  Calls Try.prog 20 #[.slice A0 l0.length c0] w fun e w' => ∃ v0_ : Value, e = .returned (v0_) ∧ Kd.R k60 60 w' w.heap.size (fun _ => True) v0_ r ∧ Below w.heap.size w w' := by
 have hu35 := Try.underlying35; have hu60 := Try.underlying60; have HR0 := Zq_.mk hr0; have HC0 := Zq_.mk hc0; clear hr0 hc0; have HB := Zq_.mk (Below.refl w.heap.size w); have H : (ref07_Of.l0 k l0 ([] : List (S60)) 0) = some r := h; clear h; have H' := Zq_.mk H; clear H
 go_enter Try.func20, Try.ntmps20
 go_wp2
 go_loopg [3, 4] k (fun kq v3 v4 w' => ∃ (bO : List (S60)) (aA : Int), v4 = .int .i64 aA ∧ Zq_ (ref07_Of.l0 kq l0 bO aA = some r) ∧ Zq_ (kq ≤ k) ∧ Zq_ (Kd.R k60 60 w' w.heap.size (fun _ => True) v3 bO) ∧ Zq_ (Below w.heap.size w w'))
 case atStart => exact ⟨(([] : List (S60))), (0), eS_, H', ⟨Nat.le_refl _⟩, ⟨by first | exact Kd.R_nil _ _ _ _ _ | exact Kd.N_nil _ _ _ _ _ | exact Kd.V_nil _ _ _ _ _ | exact Kd.Q_nil _ _ _ _ _ | exact Kd.S_nil _ _ _ _ _⟩, ⟨hB_ HB⟩⟩
 case round =>
  clear H'; obtain ⟨bO, aA, rfl, HA, HK1, bF, HB⟩ := hrel
  cases gk with
  | zero => exact absurd HA.out (by simp [ref07_Of.l0])
  | succ k1 =>
   have H := HA.out; clear HA; simp only [ref07_Of.l0] at H
   by_cases c2 : aA < (l0.length : Int)
   ·rw [if_pos c2] at H; have c2b0 : decide (aA < (l0.length : Int)) = true := decide_eq_true c2; clear c2
    by_cases c3 : 0 ≤ aA
    ·rw [if_pos c3] at H; have c3b0 : decide (0 ≤ aA) = true := decide_eq_true c3; clear c3; replace H := ob_ H; obtain ⟨bG, A40, H⟩ := H; (try dsimp only at H); have A4 := Zq_.mk A40; clear A40
     by_cases c5 : bO.length < 5864062014805
     ·rw [if_pos c5] at H; have LMc5 := Zq_.mk c5; clear c5; obtain ⟨cC, bP⟩ : ∃ y_ : List (S60), y_ = (bO ++ [(⟨(rd_T39 l0 aA).f0, (rd_T39 l0 aA).f1.f0, bG⟩ : S60)]) := ⟨_, rfl⟩
      replace H : (ref07_Of.l0 k1 l0 cC (wrap64 (aA + 1))) = some r := hY_ bP H
      have cF := Zq_.mk bP; clear bP; have H' := Zq_.mk H; clear H; (try go_wp2); replace bF := Zq_.mk (Kd.R_drew bF.out); replace HB := Zq_.mk (qe_ HB.out); have bZ : 0 ≤ (aA : Int) := dA_; have bW : aA < (l0.length : Int) := dA_; obtain ⟨bT, cB, cA, e101, bE, bD, bC, aC, bJ, bM⟩ := at_T39 HR0.out aA bZ bW; have aR := aC; have aT := bC; have aU := bD; have aV := bE; cases e101; replace bE := hC_ HB bE; replace bD := hC_ HB bD; replace bC := hC_ HB bC; replace aC := hC_ HB aC; have bR := Zq_.mk bM; have HC101_3 := Zq_.mk bJ; clear bM bJ; replace bZ := eq_true bZ; replace bW := eq_true bW; have bY : 0 ≤ (aA : Int) := dA_; have bV : aA < (l0.length : Int) := dA_; obtain ⟨cE, A102_3, c102_3, e102, bB, bA, aZ, aE, bI, bL⟩ := at_T39 HR0.out aA bY bV; have aK := aE; have aM := aZ; have aN := bA; have aQ := bB; obtain rfl : bT = cE := (by injection e102); replace bB := hC_ HB bB; replace bA := hC_ HB bA; replace aZ := hC_ HB aZ; replace aE := hC_ HB aE; have bQ := Zq_.mk bL; have HC102_3 := Zq_.mk bI; clear bL bI; replace bY := eq_true bY; replace bV := eq_true bV; have ea_ := Option.some.inj (aC.symm.trans aE)
      injection ea_ with ea_ en_ ec_
      subst ea_; subst ec_; clear en_; have bX : 0 ≤ (aA : Int) := dA_; have bU : aA < (l0.length : Int) := dA_; obtain ⟨cD, A103_3, c103_3, e103, aY, aX, aW, aD, bH, bK⟩ := at_T39 HR0.out aA bX bU; have aG := aD; have aH := aW; have aI := aX; have aJ := aY; obtain rfl : bT = cD := (by injection e103); replace aY := hC_ HB aY; replace aX := hC_ HB aX; replace aW := hC_ HB aW; replace aD := hC_ HB aD; have bN := Zq_.mk bK; have bS := Zq_.mk bH; clear bK bH; replace bX := eq_true bX; replace bU := eq_true bU; have ea_ := Option.some.inj (aC.symm.trans aD)
      injection ea_ with ea_ en_ ec_
      subst ea_; subst ec_; clear en_; refine gS_ 22 (hA_ (hC_ HB aV) (hA_ (hC_ HB aU) (hA_ (hC_ HB aT) (hA_ (hC_ HB aR) (hA_ (hC_ HB aQ) (hA_ (hC_ HB aN) (hA_ (hC_ HB aM) (hA_ (hC_ HB aK) (hA_ (hC_ HB aJ) (hA_ (hC_ HB aI) (hA_ (hC_ HB aH) (hZ_ (hC_ HB aG))))))))))))) (fun hHeld => ?_); refine qm_ ref07_Of.tab5 ref07_Of.bits5 (fun HT_ HW_ => ?_); generalize wr.drew = w6 at bF HB bR bQ bN bE bD bC aC bB bA aZ aE aY aX aW aD hHeld ⊢; refine up0_ 0 ?_; (iterate 5 refine pN_ ?_); refine pQ_ 6 HT_ ?_; refine pQ_ 7 HT_ ?_; refine pQ_ 8 HT_ ?_; refine pQ_ 9 HT_ ?_; refine pQ_ 10 HT_ ?_; refine pQ_ 12 HT_ ?_; refine pQ_ 13 HT_ ?_; refine pQ_ 14 HT_ ?_; refine pQ_ 15 HT_ ?_; refine tL_ 5 HT_ HW_ hHeld ?_; refine tL_ 11 HT_ HW_ hHeld ?_; refine tL_ 16 HT_ HW_ hHeld ?_; refine oN_ 17 28 22 262143 HT_ (fun K hK => ?_); refine goes_ Try.func43 (by kernel_rfl) rfl #[.agg #[.int .i64 ((rd_T39 l0 aA).f1.f0), .int .i64 ((rd_T39 l0 aA).f1.f1), .slice cB ((rd_T39 l0 aA).f1.f2).length cA]] (by rfl) rfl rfl aR_ ?_
      with_reducible refine (ref05_Top.calls k1 ((rd_T39 l0 aA).f1.f0) ((rd_T39 l0 aA).f1.f1) _ _ ((rd_T39 l0 aA).f1.f2) bG _ ?side1 ?side2 A4.out).mono ?_
      (case side1 => exact cX_ (Kd.qf_ bN.out HB.out)); (case side2 => exact bS.out); rintro e w7 ⟨rfl, hb⟩; refine ⟨_, rfl, ?_⟩; replace bF := vV_ Kd.qk_ bF hb; replace HB := sB_ HB hb; (try clear hb); refine hK.out _ _ ⟨(hC_ HB aV), (hC_ HB aU), (hC_ HB aT), (hC_ HB aR), (hC_ HB aQ), (hC_ HB aN), (hC_ HB aM), (hC_ HB aK), (hC_ HB aJ), (hC_ HB aI), (hC_ HB aH), (hC_ HB aG)⟩ (fun hHeld => ?_); clear hK K; refine norm_ (a' := ?_) ?_ ?_; rotate_left
      ·show Act.put _ (some 28) _ = _
       simp only [Act.put, sa_, sb_, sc_, i64_w, i32_w]; rfl
      refine pQ_ 18 HT_ ?_; refine oN_ 19 30 22 1048575 HT_ (fun K hK => ?_); refine value_ (w1 := ?_) (v := ?_) (by rfl) rfl ?_ ?_; rotate_left 2
      ·go_simp
       constructor
       ·rfl
       ·rfl
      refine hK.out _ _ ⟨(World.cell?_alloc_lt _ _ _ (wb_ _ _ ((hC_ HB aV)))).trans ((hC_ HB aV)), (World.cell?_alloc_lt _ _ _ (wb_ _ _ ((hC_ HB aU)))).trans ((hC_ HB aU)), (World.cell?_alloc_lt _ _ _ (wb_ _ _ ((hC_ HB aT)))).trans ((hC_ HB aT)), (World.cell?_alloc_lt _ _ _ (wb_ _ _ ((hC_ HB aR)))).trans ((hC_ HB aR)), (World.cell?_alloc_lt _ _ _ (wb_ _ _ ((hC_ HB aQ)))).trans ((hC_ HB aQ)), (World.cell?_alloc_lt _ _ _ (wb_ _ _ ((hC_ HB aN)))).trans ((hC_ HB aN)), (World.cell?_alloc_lt _ _ _ (wb_ _ _ ((hC_ HB aM)))).trans ((hC_ HB aM)), (World.cell?_alloc_lt _ _ _ (wb_ _ _ ((hC_ HB aK)))).trans ((hC_ HB aK)), (World.cell?_alloc_lt _ _ _ (wb_ _ _ ((hC_ HB aJ)))).trans ((hC_ HB aJ)), (World.cell?_alloc_lt _ _ _ (wb_ _ _ ((hC_ HB aI)))).trans ((hC_ HB aI)), (World.cell?_alloc_lt _ _ _ (wb_ _ _ ((hC_ HB aH)))).trans ((hC_ HB aH)), (World.cell?_alloc_lt _ _ _ (wb_ _ _ ((hC_ HB aG)))).trans ((hC_ HB aG))⟩ (fun hHeld => ?_); clear hK K; refine norm_ (a' := ?_) ?_ ?_; rotate_left
      ·show Act.put _ (some 30) _ = _
       simp only [Act.put, sa_, sb_, sc_, i64_w, i32_w]; rfl
      refine oN_ 20 31 22 2097151 HT_ (fun K hK => ?_); refine Kd.R_append_step k60 (w0 := w) w.heap.size (by rfl) (.tmp 11) (.tmp 30) 23 60 (.agg #[(.int .i64 0), (.int .i64 0), (.int .i64 0)]) 24 rfl Try.underlying23 info60 rfl (by decide) (by omega) u3 bO (⟨(rd_T39 l0 aA).f0, (rd_T39 l0 aA).f1.f0, bG⟩ : S60) [.int .i64 ((rd_T39 l0 aA).f0), .int .i64 ((rd_T39 l0 aA).f1.f0), .int .i64 bG] (fun _ => True) (fun _ => False) rfl rfl ?aP (fun _ hk => hk.elim) ?aF ?aO ?aB ?aS ?aL ?_; (case aP => exact k60_mkM _ _ _ (⟨(rd_T39 l0 aA).f0, (rd_T39 l0 aA).f1.f0, bG⟩ : S60)); (case aB => exact (hB_ HB)); (case aF => exact (fun _ _ => trivial)); (case aO => exact (vX_ bF)); (case aS => exact (qa_ (hB_ HB))); (case aL => have := LMc5.out; omega); intro v106 w8 ho hb hg hat; rw [← cF.out] at ho; replace HB := Zq_.mk (hb); have cG := Zq_.mk (ho); clear bF; clear ho hb hg hat; refine hK.out _ _ ⟨(hC_ HB aV), (hC_ HB aU), (hC_ HB aT), (hC_ HB aR), (hC_ HB aQ), (hC_ HB aN), (hC_ HB aM), (hC_ HB aK), (hC_ HB aJ), (hC_ HB aI), (hC_ HB aH), (hC_ HB aG)⟩ (fun hHeld => ?_); clear hK K; refine norm_ (a' := ?_) ?_ ?_; rotate_left
      ·show Act.put _ (some 31) _ = _
       simp only [Act.put, sa_, sb_, sc_, i64_w, i32_w]; rfl
      refine pQ_ 21 HT_ ?_; refine dN_ HT_ ?_; (try go_wp2)
      go_roundg k1
      case measure => have := HK1.out; omega
      case rel => exact ⟨(cC), (wrap64 (aA + 1)), eS_, H', ⟨by have := HK1.out; omega⟩, ⟨by (with_reducible repeat (first | apply Kd.qj_ | apply Kd.qi_ | apply Kd.R_drew)); exact cG.out⟩, ⟨hB_ HB⟩⟩
     ·rw [if_neg c5] at H; exact absurd H (by simp)
    ·rw [if_neg c3] at H; exact absurd H (by simp)
   ·rw [if_neg c2] at H; have c2b0 : decide (aA < (l0.length : Int)) = false := decide_eq_false c2; clear c2; obtain rfl := Option.some.inj H
    go_wp2
    go_ret
    exact ⟨_, by exact eW_, by (with_reducible repeat (first | apply Kd.qj_ | apply Kd.qi_ | apply Kd.R_drew)); exact bF.out, hB_ HB⟩
def view_Copy.l0 : Nat → List (S39) → List (S39) → Int → Int → Option ((List (S39)))
 | 0, _, _, _, _ => none
 | k + 1, x3, x9, x10, x11 => if x11 < x10 then (if 0 ≤ x11 then (if x11 < (x9.length : Int) then ((view_own.f ((rd_T39 x9 x11).f0) ((rd_T39 x9 x11).f1.f0) ((rd_T39 x9 x11).f1.f1) ((rd_T39 x9 x11).f1.f2)).bind fun aP => (if x11 < (x3.length : Int) then (view_Copy.l0 k (x3.set (x11 : Int).toNat (⟨aP.1, (⟨aP.2.1, aP.2.2.1, aP.2.2.2⟩ : S35)⟩ : S39)) x9 x10 (wrap64 (x11 + 1))) else (none))) else (none)) else (none)) else (some x3)
def view_Copy.f (k : Nat) (l0 : List (S39)) : Option ((List (S39))) := if 0 ≤ (l0.length : Int) then (if ((l0.length : Int) : Int).toNat ≤ 5864062014805 then (view_Copy.l0 k (List.replicate ((l0.length : Int) : Int).toNat z39) l0 (l0.length : Int) 0) else (none)) else (none)
theorem view_Copy.mono_l : ∀ k, (∀ y0 y1 y2 y3, LeO (view_Copy.l0 k y0 y1 y2 y3) (view_Copy.l0 (k + 1) y0 y1 y2 y3))
 | 0 => fun _ _ _ _ r h => by simp [view_Copy.l0] at h
 | k + 1 => by
  have ih0 := view_Copy.mono_l k
  ·intro y0 y1 y2 y3
   unfold view_Copy.l0
   with_reducible repeat' first | exact ih0 _ _ _ _ | exact LeO.refl _ | exact LeO.none _ | refine LeO.ite ?_ ?_ | refine LeO.bind ?_ (fun _ => ?_)
theorem view_Copy.mono : ∀ a0 k, LeO (view_Copy.f k a0) (view_Copy.f (k + 1) a0) := by
 intro a0 k; have ih0 := view_Copy.mono_l k
 unfold view_Copy.f
 with_reducible repeat' first | exact ih0 _ _ _ _ | exact LeO.refl _ | exact LeO.none _ | refine LeO.ite ?_ ?_ | refine LeO.bind ?_ (fun _ => ?_)
theorem view_Copy.calls (k : Nat) (A0 : Option Addr) (c0 : Nat) (l0 : List (S39)) (r : List (S39)) (w : World) (hr0 : Kd.C k39 w A0 l0.length l0) (hc0 : l0.length ≤ c0) (h : view_Copy.f k l0 = some r) :
  Calls Try.prog 47 #[.slice A0 l0.length c0] w fun e w' => ∃ v0_ : Value, e = .returned (v0_) ∧ Kd.S k39 39 w' w.heap.size (fun _ => True) v0_ r ∧ Below w.heap.size w w' := by
 have hu39 := Try.underlying39; have hu35 := Try.underlying35; have HR0 := Zq_.mk hr0; have HC0 := Zq_.mk hc0; clear hr0 hc0; have HB := Zq_.mk (Below.refl w.heap.size w); have H : (if 0 ≤ (l0.length : Int) then (if ((l0.length : Int) : Int).toNat ≤ 5864062014805 then (view_Copy.l0 k (List.replicate ((l0.length : Int) : Int).toNat z39) l0 (l0.length : Int) 0) else (none)) else (none)) = some r := h; clear h
 by_cases c2 : 0 ≤ (l0.length : Int)
 ·rw [if_pos c2] at H; have c2b0 := eq_true c2; have c2b1 : decide (0 ≤ (l0.length : Int)) = true := decide_eq_true c2; clear c2
  by_cases c3 : ((l0.length : Int) : Int).toNat ≤ 5864062014805
  ·rw [if_pos c3] at H; have c3b0 := eq_true c3; have c3b1 : decide (((l0.length : Int) : Int).toNat ≤ 5864062014805) = true := decide_eq_true c3; clear c3; obtain ⟨bH, aV⟩ : ∃ y_ : List (S39), y_ = (List.replicate ((l0.length : Int) : Int).toNat z39) := ⟨_, rfl⟩
   replace H : (view_Copy.l0 k bH l0 (l0.length : Int) 0) = some r := hY_ aV H
   have aZ := Zq_.mk aV; clear aV; have H' := Zq_.mk H; clear H
   go_enter Try.func47, Try.ntmps47
   go_wp2_with (first | ((with_reducible refine qb_ (N := 8) rfl ?_); refine Kd.S_make k39 _ 39 rfl (N := 8) rfl 22 _ _ rfl (l0.length : Int) rfl rfl Try.underlying22 (.agg #[(.int .i64 0), (.int .i64 0), (.int .i64 0), (.slice none 0 0)]) 48 info39 rfl (by decide) (by omega) z39 (ok := fun _ => True) (okp := fun _ => True) (k39_mkM _ _ _ z39 (Kd.R_nil _ _ _ _ _)) (fun _ hk => hk) trivial (dA_) (Nat.le_trans (Nat.mul_le_mul_right _ (dA_ : (l0.length : Int).toNat ≤ 5864062014805)) (by omega)) (Below.refl _ _) (Nat.le_refl _) ?_; intro v102 w4 ho5 hb hg_ hnew_; clear hg_ hnew_; (first | rw [← aZ.out] at ho5 | (simp only [Int.reduceToNat] at ho5; rw [← aZ.out] at ho5)); have bM := Zq_.mk (Kd.S_lower ho5 (qa_ (hB_ HB))); replace HB := sB_ HB hb; clear hb ho5))
   go_loopg [11] k (fun kq v11 w' => ∃ (aC : List (S39)) (aA : Int), v11 = .int .i64 aA ∧ Zq_ (view_Copy.l0 kq aC l0 (l0.length : Int) aA = some r) ∧ Zq_ (kq ≤ k) ∧ Zq_ (Kd.S k39 39 w' w.heap.size (fun _ => True) v102 aC) ∧ Zq_ (Below w.heap.size w w'))
   case atStart => exact ⟨(bH), (0), eS_, H', ⟨Nat.le_refl _⟩, ⟨by (with_reducible repeat (first | apply Kd.S_alloc | apply Kd.S_drewN | apply Kd.S_drew)); exact bM.out⟩, ⟨hB_ HB⟩⟩
   case round =>
    clear H'
    try clear c2
    try clear c2b0
    try clear c2b1
    try clear p2
    try clear c3
    try clear c3b0
    try clear c3b1
    try clear c4
    obtain ⟨aC, aA, rfl, HA, HK1, aB, HB⟩ := hrel
    cases gk with
    | zero => exact absurd HA.out (by simp [view_Copy.l0])
    | succ k1 =>
     have H := HA.out; clear HA; simp only [view_Copy.l0] at H
     by_cases c6 : aA < (l0.length : Int)
     ·rw [if_pos c6] at H; have c6b0 : decide (aA < (l0.length : Int)) = true := decide_eq_true c6; clear c6
      by_cases c7 : 0 ≤ aA
      ·rw [if_pos c7] at H; have c7b0 : decide (0 ≤ aA) = true := decide_eq_true c7; clear c7
       by_cases c8 : aA < (l0.length : Int)
       ·rw [if_pos c8] at H; have c8b0 : decide (aA < (l0.length : Int)) = true := decide_eq_true c8; clear c8; replace H := ob_ H; obtain ⟨⟨aT, aS, aR, aW⟩, A90, H⟩ := H; (try dsimp only at H); have A9 := Zq_.mk A90; clear A90
        by_cases c10 : aA < (aC.length : Int)
        ·rw [if_pos c10] at H; have c10b0 : decide (aA < (aC.length : Int)) = true := decide_eq_true c10; clear c10; obtain ⟨bA, aU⟩ : ∃ y_ : List (S39), y_ = (aC.set (aA : Int).toNat (⟨aT, (⟨aS, aR, aW⟩ : S35)⟩ : S39)) := ⟨_, rfl⟩
         replace H : (view_Copy.l0 k1 bA l0 (l0.length : Int) (wrap64 (aA + 1))) = some r := hY_ aU H
         have bL := Zq_.mk aU; clear aU; have H' := Zq_.mk H; clear H; have bC : 0 ≤ (aA : Int) := dA_; have bB : aA < (l0.length : Int) := dA_; obtain ⟨ad104, aI, aH, e104, aM, aL, aK, aJ, aN, aO⟩ := at_T39 HR0.out aA bC bB; cases e104; replace aM := hC_ HB aM; replace aL := hC_ HB aL; replace aK := hC_ HB aK; replace aJ := hC_ HB aJ; have aX := Zq_.mk aO; have aY := Zq_.mk aN; clear aO aN; replace bC := eq_true bC; replace bB := eq_true bB
         go_wp2_with (first | ((with_reducible refine qb_ (N := 5) rfl ?_); refine bE_ 5 #[.int .i64 0, .int .i64 0, .int .i64 0, .slice none 0 0] 39 ?_; intro aD hg w12 hbox hb; replace aB := Zq_.mk (Kd.S_below (Kd.S_elderB (vX_ aB) aD (Nat.le_of_eq hg.symm)) hb); have aE := Zq_.mk (hbox); have GW105 := gW_ (w := w) hg (hB_ HB); have GE105 := gW_ (w := w) hg (hB_ HB); replace HB := sB_ HB hb; clear hb hbox hg; obtain ⟨hcz13_0, hcz13_1, hcz13_2, hcz13_3⟩ := c4_ aE; obtain ⟨hfz13_0, hfz13_1, hfz13_2, hfz13_3⟩ := f4_ aE) | ((with_reducible refine qd_ (f := 66) rfl ?_); refine goesL_ (some 22) rfl rfl Try.func66 (by kernel_rfl) rfl #[.int .i64 ((rd_T39 l0 aA).f0), .agg #[.int .i64 ((rd_T39 l0 aA).f1.f0), .int .i64 ((rd_T39 l0 aA).f1.f1), .slice aI ((rd_T39 l0 aA).f1.f2).length aH]] rfl aR_ ?_; (with_reducible refine (view_own.calls ((rd_T39 l0 aA).f0) ((rd_T39 l0 aA).f1.f0) ((rd_T39 l0 aA).f1.f1) _ _ ((rd_T39 l0 aA).f1.f2) aT aS aR aW _ ?side1 ?side2 A9.out).mono ?_); (case side1 => exact Kd.qf_ aX.out (by exact hSet_ HB)); (case side2 => exact aY.out); rintro e w14 ⟨v110, rfl, ho0, hb⟩; refine ⟨_, rfl, ?_⟩; replace aB := Zq_.mk (Kd.S_elder' (by (with_reducible repeat (first | apply Kd.S_alloc | apply Kd.S_drewN | apply Kd.S_drew)); exact (Kd.S_mono (Kd.S_far (Kd.S_far (Kd.S_far (Kd.S_far (Kd.S_mono aB.out (fun k_ hk => (⟨hk, hk.2⟩ : _ ∧ k_ ≠ aD))) (fun _ hk => hk.2) _) (fun _ hk => hk.2) _) (fun _ hk => hk.2) _) (fun _ hk => hk.2) _) (fun _ h_ => h_.1))) (Kd.R_base ho0) hb); have aQ := Zq_.mk (Kd.qz_ ho0 (qa_ (by exact hSet_ HB))); replace aE := Zq_.mk (blk_below (g := aD) (o := .cells #[.int .i64 ((rd_T39 l0 aA).f0), .int .i64 ((rd_T39 l0 aA).f1.f0), .int .i64 ((rd_T39 l0 aA).f1.f1), .slice aI ((rd_T39 l0 aA).f1.f2).length aH] 39 (0, 0)) (by exact bW4_ (bK_ aE)) hb); replace HB := sB_ HB hb; (try clear hb); (try clear ho0); have p11 : 0 ≤ (aA : Int) := dA_; have q11 : (aA : Int) < ((aC.length : Int) : Int) := dA_; obtain ⟨go11, bK, bJ, bI, gl11, cl11, HG11⟩ := Kd.S_form aB.out (by omega); (first | cases bJ | (injection bJ with ea_ en_ ec_; (first | subst ea_ | (injection ea_ with ea_; subst ea_)); subst ec_; clear en_)); have GB11 := Zq_.mk bI; have GG11 := Zq_.mk HG11; clear bI gl11 HG11; obtain ⟨_, ce11, hcl11, hM11, aG, hfr11, _, _⟩ := Kd.S_elem aB.out z39 (aA : Int) p11 q11; obtain ⟨ve11_3, rfl, ge11_3⟩ := k39_openM hM11; have hx11_0 : w14.cell? ⟨go11, (aA : Int).toNat * 4, none⟩ = some (.int .i64 ((rd_T39 aC aA).f0)) := aG 0 _ rfl; have hx11_1 : w14.cell? ⟨go11, (aA : Int).toNat * 4 + 1, none⟩ = some (.int .i64 ((rd_T39 aC aA).f1.f0)) := aG 1 _ rfl; have hx11_2 : w14.cell? ⟨go11, (aA : Int).toNat * 4 + 2, none⟩ = some (.int .i64 ((rd_T39 aC aA).f1.f1)) := aG 2 _ rfl; have hx11_3 : w14.cell? ⟨go11, (aA : Int).toNat * 4 + 3, none⟩ = some (ve11_3) := aG 3 _ rfl; have hf11_0 : w14.frozen? ⟨go11, (aA : Int).toNat * 4, none⟩ = false := hfr11 0; have hf11_1 : w14.frozen? ⟨go11, (aA : Int).toNat * 4 + 1, none⟩ = false := hfr11 1; have hf11_2 : w14.frozen? ⟨go11, (aA : Int).toNat * 4 + 2, none⟩ = false := hfr11 2; have hf11_3 : w14.frozen? ⟨go11, (aA : Int).toNat * 4 + 3, none⟩ = false := hfr11 3; clear hcl11 aG hfr11 hM11; replace p11 := eq_true p11; replace q11 := eq_true q11; have n_ := Zq_.mk (Kd.S_mono (ok' := (fun k_ => some k_ ≠ (v110 : Value).ownBlock ∧ k_ ≠ aD)) aB.out (fun k_ hk => ⟨hk.2, hk.1.2⟩)); clear aB; have aB := n_; clear n_; have HX15 := Zq_.mk (show Kd.S k39 39 w14 w.heap.size (fun k_ => ((fun k_ => k_ ≠ aD)) k_ ∧ ¬ ((fun k_ => some k_ = (v110 : Value).ownBlock)) k_) (.slice (some ⟨go11, 0, none⟩) aC.length bK) aC from (by (with_reducible repeat (first | apply Kd.S_alloc | apply Kd.S_drewN | apply Kd.S_drew)); exact Kd.S_mono aB.out (fun k_ hk => ⟨hk.2, fun e_ => hk.1 e_⟩))); obtain ⟨oki15, ce15, hcl15, hM15, aF, hfr15, hoki15, hH15⟩ := Kd.S_elem HX15.out z39 (aA : Int) (dA_) (by have h_ : (aA : Int) < ((aC.length : Int) : Int) := dA_; first | exact h_ | (have e_ := (Kd.S_reads' aB.out).1; omega) | simpa using h_); obtain ⟨ve15_3, rfl, ge15_3⟩ := k39_openM hM15; have HP15 := Kd.S_seg hH15 (dA_) (by have h_ : (aA : Int) < ((aC.length : Int) : Int) := dA_; first | exact h_ | (have e_ := (Kd.S_reads' aB.out).1; omega) | simpa using h_) (seg := [.int .i64 aT, .int .i64 aS, .int .i64 aR, v110]) (j := 0) (show 4 ≤ 4 from by decide) (x' := (⟨aT, (⟨aS, aR, aW⟩ : S35)⟩ : S39)) (k39_mkM _ _ _ (⟨aT, (⟨aS, aR, aW⟩ : S35)⟩ : S39) (Kd.R_mono (Kd.R_tight rfl (Kd.R_mono (ok' := fun k_ => ((fun k_ => k_ ≠ aD)) k_ ∧ k_ ≠ go11) (Kd.qy_ (Kd.R_apart' (aQ.out) (Kd.S_typed aB.out) (by decide)) aE.out (by decide)) (fun k_ hk => ⟨hk.2, fun e_ => (hk.1.2) (by rw [e_]; rfl)⟩))) (fun _ h_ => Or.inr (h_)))) (fun _ hk => hk) (fun k_ hk_ => ((Kd.R_mono (ok' := fun k_ => ((fun k_ => k_ ≠ aD)) k_ ∧ k_ ≠ go11) (Kd.qy_ (Kd.R_apart' (aQ.out) (Kd.S_typed aB.out) (by decide)) aE.out (by decide)) (fun k_ hk => ⟨hk.2, fun e_ => (hk.1.2) (by rw [e_]; rfl)⟩))).1 k_ hk_.symm); have bG := aF 0 _ rfl; (try simp only [show (k39).sz = 4 from rfl, Nat.mul_one, Nat.add_zero] at bG); have hf15_0 := hfr15 0; (try simp only [show (k39).sz = 4 from rfl, Nat.mul_one, Nat.add_zero] at hf15_0); have bF := aF 1 _ rfl; (try simp only [show (k39).sz = 4 from rfl, Nat.mul_one, Nat.add_zero] at bF); have hf15_1 := hfr15 1; (try simp only [show (k39).sz = 4 from rfl, Nat.mul_one, Nat.add_zero] at hf15_1); have bE := aF 2 _ rfl; (try simp only [show (k39).sz = 4 from rfl, Nat.mul_one, Nat.add_zero] at bE); have hf15_2 := hfr15 2; (try simp only [show (k39).sz = 4 from rfl, Nat.mul_one, Nat.add_zero] at hf15_2); have bD := aF 3 _ rfl; (try simp only [show (k39).sz = 4 from rfl, Nat.mul_one, Nat.add_zero] at bD); have hf15_3 := hfr15 3; (try simp only [show (k39).sz = 4 from rfl, Nat.mul_one, Nat.add_zero] at hf15_3); clear hcl15 aF hfr15 hM15 hoki15 hH15) | ((with_reducible refine gate_store (t := 39) (p := 23) rfl ?_); refine store_event (t := 39) (p := 23) (v := ?vo_w16) (w1 := ((((w14.setCell ⟨go11, (aA : Int).toNat * 4, none⟩ (.int .i64 aT)).setCell ⟨go11, (aA : Int).toNat * 4 + 1, none⟩ (.int .i64 aS)).setCell ⟨go11, (aA : Int).toNat * 4 + 2, none⟩ (.int .i64 aR)).setCell ⟨go11, (aA : Int).toNat * 4 + 3, none⟩ (v110))) ?hg ?ho ?hn ?hr ?_; (case ho => rfl); (case hg => rfl); (case hn => rfl); (case hr => first | (go_simp; done) | (go_simp; rfl) | (obtain ⟨Ao_, co_, rfl⟩ := Kd.ve_ aQ.out; first | (go_simp; done) | (go_simp; rfl))); intro w16 hw; have hg : w14.grownBy w16 (some go11) := (by rw [hw]; exact HP15.2); have hp_ : Kd.S k39 39 w16 w.heap.size (fun k_ => k_ ≠ aD) (.slice (some ⟨go11, 0, none⟩) aC.length bK) bA := (by rw [hw, bL.out]; exact HP15.1); clear HP15; replace aE := Zq_.mk (qs_ (g := aD) (o := .cells #[.int .i64 ((rd_T39 l0 aA).f0), .int .i64 ((rd_T39 l0 aA).f1.f0), .int .i64 ((rd_T39 l0 aA).f1.f1), .slice aI ((rd_T39 l0 aA).f1.f2).length aH] 39 (0, 0)) (by exact bK_ aE) hg (Kd.S_away aB.out (fun _ hk => hk.2))); replace aB := Zq_.mk (hp_); replace HB := Zq_.mk ((by rw [hw]; exact below_set (below_set (below_set (below_set (HB.out) GB11.out) GB11.out) GB11.out) GB11.out : Below w.heap.size w w16)); clear aQ; clear hg hw hp_))
         go_roundg k1
         case measure => have := HK1.out; omega
         case rel => exact ⟨(bA), (wrap64 (aA + 1)), eS_, H', ⟨by have := HK1.out; omega⟩, ⟨by (with_reducible repeat (first | apply Kd.S_alloc | apply Kd.S_drewN | apply Kd.S_drew)); exact Kd.S_mono aB.out (fun _ hk => trivial)⟩, ⟨by exact hSet_ HB⟩⟩
        ·rw [if_neg c10] at H; exact absurd H (by simp)
       ·rw [if_neg c8] at H; exact absurd H (by simp)
      ·rw [if_neg c7] at H; exact absurd H (by simp)
     ·rw [if_neg c6] at H; have c6b0 : decide (aA < (l0.length : Int)) = false := decide_eq_false c6; clear c6; obtain rfl := Option.some.inj H
      go_wp2
      go_ret
      exact ⟨_, by exact eW_, by (with_reducible repeat (first | apply Kd.S_alloc | apply Kd.S_drewN | apply Kd.S_drew)); exact aB.out, hB_ HB⟩
  ·rw [if_neg c3] at H; exact absurd H (by simp)
 ·rw [if_neg c2] at H; exact absurd H (by simp)
end Go.Proofs.Ytgipbmjkgciccaa.P

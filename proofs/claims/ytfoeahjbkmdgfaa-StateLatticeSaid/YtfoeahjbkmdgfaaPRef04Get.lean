/- What this function of the program comes to, and that the machine's call does it. No condition. -/
import Derived.Test.YtfoeahjbkmdgfaaP0
import Derived.Test.YtfoeahjbkmdgfaaHw
import Derived.Test.YtfoeahjbkmdgfaaPApiEntry45
namespace Go.Proofs.Ytfoeahjbkmdgfaa.P
set_option maxHeartbeats 8000000
set_option maxRecDepth 100000
open Go.RowKit Go.Proofs.YtfoeahjbkmdgfaaW.PrintWords Go.Proofs.YtfoeahjbkmdgfaaW.PrintLast Go.Proofs.YtfoeahjbkmdgfaaW.PrintMore
attribute [local go_sem] qw_ qu_ va_ qz_ qq_ qp_ qv_ qt_ Go.Proofs.YtfoeahjbkmdgfaaW.Hw.string_gtr
set_option linter.unusedVariables false
set_option linter.unusedSimpArgs false
def ref04_Get.l0 : Nat → List (S40) → Int → Int → Option (Int × Int × ByteArray × Bool)
 | 0, _, _, _ => none
 | k + 1, x0, x1, x6 => if x6 < (x0.length : Int) then (if 0 ≤ x6 then (if ((rd_T40 x0 x6).f0) = x1 then (some ((rd_T40 x0 x6).f0, (rd_T40 x0 x6).f1, (rd_T40 x0 x6).f2, true)) else (ref04_Get.l0 k x0 x1 (wrap64 (x6 + 1)))) else (none)) else (some (0, 0, (⟨#[]⟩ : ByteArray), false))
def ref04_Get.f (k : Nat) (l0 : List (S40)) (a1 : Int) : Option (Int × Int × ByteArray × Bool) := ref04_Get.l0 k l0 a1 0
theorem ref04_Get.mono_l : ∀ k, (∀ y0 y1 y2, LeO (ref04_Get.l0 k y0 y1 y2) (ref04_Get.l0 (k + 1) y0 y1 y2))
 | 0 => fun _ _ _ r h => by simp [ref04_Get.l0] at h
 | k + 1 => by
  have ih0 := ref04_Get.mono_l k
  ·intro y0 y1 y2
   unfold ref04_Get.l0
   repeat' first
   | (with_reducible exact ih0 _ _ _)
   | (with_reducible exact LeO.refl _)
   | (with_reducible exact LeO.none _)
   | (with_reducible refine LeO.ite ?_ ?_)
   | (with_reducible refine LeO.bind ?_ (fun _ => ?_))
   | exact ih0 _ _ _
   | exact LeO.none _
   | refine LeO.ite ?_ ?_
   | refine LeO.bind ?_ (fun _ => ?_)
theorem ref04_Get.mono : ∀ a0 a1 k, LeO (ref04_Get.f k a0 a1) (ref04_Get.f (k + 1) a0 a1) := by
 intro a0 a1 k; have ih0 := ref04_Get.mono_l k
 unfold ref04_Get.f
 repeat' first
   | (with_reducible exact ih0 _ _ _)
   | (with_reducible exact LeO.refl _)
   | (with_reducible exact LeO.none _)
   | (with_reducible refine LeO.ite ?_ ?_)
   | (with_reducible refine LeO.bind ?_ (fun _ => ?_))
   | exact ih0 _ _ _
   | exact LeO.none _
   | refine LeO.ite ?_ ?_
   | refine LeO.bind ?_ (fun _ => ?_)
theorem ref04_Get.calls (k : Nat) (A0 : Option Addr) (c0 : Nat) (l0 : List (S40)) (a1 : Int) (r1 : Int) (r2 : Int) (r3 : ByteArray) (r4 : Bool) (w : World) (hr0 : Kd.C k40 w A0 l0.length l0) (hc0 : l0.length ≤ c0) (h : ref04_Get.f k l0 a1 = some (r1, r2, r3, r4)) :
  Calls Try.prog 52 #[.slice A0 l0.length c0, .int .i64 a1] w fun e w' => e = .returned (.tuple #[.agg #[.int .i64 r1, .int .i64 r2, .string r3], .bool r4]) ∧ Below w.heap.size w w' := by
 have hu40 := Try.underlying40; have HR0 := Zq_.mk hr0; have HC0 := Zq_.mk hc0; clear hr0 hc0; have HB := Zq_.mk (Below.refl w.heap.size w); have H : (ref04_Get.l0 k l0 a1 0) = some (r1, r2, r3, r4) := h; clear h; have H' := Zq_.mk H; clear H
 go_enter Try.func52, Try.ntmps52
 go_wp2_with (first | ((with_reducible refine qi_ (N := 4) rfl ?_); refine bE_ 4 #[.int .i64 0, .int .i64 0, .string (⟨#[]⟩ : ByteArray)] 40 ?_; intro aI hg w3 hbox hb; have aE := Zq_.mk (hbox); have GW101 := gW_ (w := w) hg (hB_ HB); have GE101 := gW_ (w := w) hg (hB_ HB); replace HB := Zq_.mk (qb_ (hB_ HB) hb); clear hb hbox hg))
 go_loopg [6] k (fun kq v6 w' => ∃ (aC : Int) (aD : Int) (aB : Int) (aA : ByteArray), v6 = .int .i64 aC ∧ Zq_ (ref04_Get.l0 kq l0 a1 aC = some (r1, r2, r3, r4)) ∧ Zq_ (kq ≤ k) ∧ Zq_ (w'.heap[aI]? = some (.cells #[.int .i64 aD, .int .i64 aB, .string aA] 40 (0, 0))) ∧ Zq_ (Below w.heap.size w w'))
 case atStart => exact ⟨(0), (0), (0), ((⟨#[]⟩ : ByteArray)), eS_, H', ⟨Nat.le_refl _⟩, ⟨by (with_reducible repeat (first | refine qg_ ?_ _ | refine qf_ ?_ | refine qh_ ?_ _)); exact aE.out⟩, ⟨by exact hSet_ HB⟩⟩
 case round =>
  clear H'
  try clear p2
  obtain ⟨aC, aD, aB, aA, rfl, HA, HK1, aE, HB⟩ := hrel
  cases gk with
  | zero => exact absurd HA.out (by simp [ref04_Get.l0])
  | succ k1 =>
   have H := HA.out; clear HA; simp only [ref04_Get.l0] at H
   by_cases c4 : aC < (l0.length : Int)
   ·rw [if_pos c4] at H; have c4b0 : decide (aC < (l0.length : Int)) = true := decide_eq_true c4; clear c4
    by_cases c5 : 0 ≤ aC
    ·rw [if_pos c5] at H; have c5b0 : decide (0 ≤ aC) = true := decide_eq_true c5; clear c5
     by_cases c6 : ((rd_T40 l0 aC).f0) = a1
     ·rw [if_pos c6] at H; have c6b0 : (((rd_T40 l0 aC).f0) == a1) = true := beq_iff_eq.mpr c6; have c6b1 : (((rd_T40 l0 aC).f0) != a1) = false := bne_eq_false_iff_eq.mpr c6; clear c6; simp only [Option.some.injEq, Prod.mk.injEq] at H; obtain ⟨rfl, rfl, rfl, rfl⟩ := H; have aK : 0 ≤ (aC : Int) := dA_; have aJ : aC < (l0.length : Int) := dA_; obtain ⟨aO, aR, aH, aG, aF⟩ := at_T40 HR0.out aC aK aJ; cases aR; replace aH := hC_ HB aH; replace aG := hC_ HB aG; replace aF := hC_ HB aF; replace aK := eq_true aK; replace aJ := eq_true aJ; have aQ : 0 ≤ (aC : Int) := dA_; have aP : aC < (l0.length : Int) := dA_; obtain ⟨aS, e103, aN, aM, aL⟩ := at_T40 HR0.out aC aQ aP; obtain rfl : aO = aS := (by injection e103); replace aN := hC_ HB aN; replace aM := hC_ HB aM; replace aL := hC_ HB aL; replace aQ := eq_true aQ; replace aP := eq_true aP; have hcz7_0 : wr.cell? ⟨aI, 0, none⟩ = some (.int .i64 aD) := (qj_ aE.out 0).trans rfl; have hcz7_1 : wr.cell? ⟨aI, 1, none⟩ = some (.int .i64 aB) := (qj_ aE.out 1).trans rfl; have hcz7_2 : wr.cell? ⟨aI, 2, none⟩ = some (.string aA) := (qj_ aE.out 2).trans rfl; obtain ⟨hfz7_0, hfz7_1, hfz7_2⟩ := f3_ aE
      go_wp2
      refine bodyPost_ret (results_ct rfl _ _ aI 40 #[.int .i64 ((rd_T40 l0 aC).f0), .int .i64 ((rd_T40 l0 aC).f1), .string ((rd_T40 l0 aC).f2)] (0, 0) _ rfl (by refine bP_ (cs := #[.int .i64 ((rd_T40 l0 aC).f0), .int .i64 ((rd_T40 l0 aC).f1), .string aA]) 2 ?_; refine bP_ (cs := #[.int .i64 ((rd_T40 l0 aC).f0), .int .i64 aB, .string aA]) 1 ?_; refine bP_ (cs := #[.int .i64 aD, .int .i64 aB, .string aA]) 0 ?_; (with_reducible repeat (first | refine qg_ ?_ _ | refine qf_ ?_ | refine qh_ ?_ _)); exact aE.out) Try.underlying40 rfl (by kernel_rfl)) rfl ?_; exact ⟨by exact eW_, by exact hSet_ HB⟩
     ·rw [if_neg c6] at H; have c6b0 : (((rd_T40 l0 aC).f0) == a1) = false := beq_eq_false_iff_ne.mpr c6; have c6b1 : (((rd_T40 l0 aC).f0) != a1) = true := bne_iff_ne.mpr c6; have H' := Zq_.mk H; clear H; have aK : 0 ≤ (aC : Int) := dA_; have aJ : aC < (l0.length : Int) := dA_; obtain ⟨aO, aR, aH, aG, aF⟩ := at_T40 HR0.out aC aK aJ; cases aR; replace aH := hC_ HB aH; replace aG := hC_ HB aG; replace aF := hC_ HB aF; replace aK := eq_true aK; replace aJ := eq_true aJ
      go_wp2
      go_roundg k1
      case measure => have := HK1.out; omega
      case rel => exact ⟨(wrap64 (aC + 1)), (aD), (aB), (aA), eS_, H', ⟨by have := HK1.out; omega⟩, ⟨by (with_reducible repeat (first | refine qg_ ?_ _ | refine qf_ ?_ | refine qh_ ?_ _)); exact aE.out⟩, ⟨by exact hSet_ HB⟩⟩
    ·rw [if_neg c5] at H; exact absurd H (by simp)
   ·rw [if_neg c4] at H; have c4b0 : decide (aC < (l0.length : Int)) = false := decide_eq_false c4; clear c4; simp only [Option.some.injEq, Prod.mk.injEq] at H; obtain ⟨rfl, rfl, rfl, rfl⟩ := H; have hcz8_0 : wr.cell? ⟨aI, 0, none⟩ = some (.int .i64 aD) := (qj_ aE.out 0).trans rfl; have hcz8_1 : wr.cell? ⟨aI, 1, none⟩ = some (.int .i64 aB) := (qj_ aE.out 1).trans rfl; have hcz8_2 : wr.cell? ⟨aI, 2, none⟩ = some (.string aA) := (qj_ aE.out 2).trans rfl; obtain ⟨hfz8_0, hfz8_1, hfz8_2⟩ := f3_ aE
    go_wp2
    refine bodyPost_ret (results_ct rfl _ _ aI 40 #[.int .i64 0, .int .i64 0, .string (⟨#[]⟩ : ByteArray)] (0, 0) _ rfl (by refine bP_ (cs := #[.int .i64 0, .int .i64 0, .string aA]) 2 ?_; refine bP_ (cs := #[.int .i64 0, .int .i64 aB, .string aA]) 1 ?_; refine bP_ (cs := #[.int .i64 aD, .int .i64 aB, .string aA]) 0 ?_; (with_reducible repeat (first | refine qg_ ?_ _ | refine qf_ ?_ | refine qh_ ?_ _)); exact aE.out) Try.underlying40 rfl (by kernel_rfl)) rfl ?_; exact ⟨by exact eW_, by exact hSet_ HB⟩
def ref04_May.f (aC : Int) (aB : Int) (aD : ByteArray) : Option (Bool) := if aC ≥ 0 then (if aC < 12 then (if aB ≥ 1 then (if aB ≤ 1099511627776 then (some (decide ((aD.size : Int) ≤ 200))) else (some false)) else (some false)) else (some false)) else (some false)
theorem ref04_May.calls (aC : Int) (aB : Int) (aD : ByteArray) (r : Bool) (w : World) (h : ref04_May.f aC aB aD = some r) :
  Calls Try.prog 33 #[.agg #[.int .i64 aC, .int .i64 aB, .string aD]] w fun e w' => e = .returned (.bool r) ∧ Below w.heap.size w w' := by
 have hu40 := Try.underlying40; have HB := Zq_.mk (Below.refl w.heap.size w); have H : (if aC ≥ 0 then (if aC < 12 then (if aB ≥ 1 then (if aB ≤ 1099511627776 then (some (decide ((aD.size : Int) ≤ 200))) else (some false)) else (some false)) else (some false)) else (some false)) = some r := h; clear h
 by_cases c2 : aC ≥ 0
 ·rw [if_pos c2] at H; have c2b0 : decide (0 ≤ aC) = true := decide_eq_true c2; clear c2
  by_cases c3 : aC < 12
  ·rw [if_pos c3] at H; have c3b0 : decide (aC < 12) = true := decide_eq_true c3; clear c3
   by_cases c4 : aB ≥ 1
   ·rw [if_pos c4] at H; have c4b0 : decide (1 ≤ aB) = true := decide_eq_true c4; clear c4
    by_cases c5 : aB ≤ 1099511627776
    ·rw [if_pos c5] at H; have c5b0 : decide (aB ≤ 1099511627776) = true := decide_eq_true c5; clear c5; obtain rfl := Option.some.inj H
     go_enter Try.func33, Try.ntmps33
     go_wp2_with (first | ((with_reducible refine qi_ (N := 1) rfl ?_); (try (refine vc_ (by rfl) ?_; dsimp only)); refine bE_ 1 #[.int .i64 aC, .int .i64 aB, .string aD] 40 ?_; intro aE hg w6 hbox hb; have aA := Zq_.mk (hbox); have aF := gW_ (w := w) hg (hB_ HB); have aG := gW_ (w := w) hg (hB_ HB); replace HB := Zq_.mk (qb_ (hB_ HB) hb); clear hb hbox hg; obtain ⟨hcz7_0, hcz7_1, hcz7_2⟩ := c3_ aA; obtain ⟨hfz7_0, hfz7_1, hfz7_2⟩ := f3_ aA))
     go_ret
     exact ⟨by exact eW_, by exact hSet_ HB⟩
    ·rw [if_neg c5] at H; have c5b0 : decide (aB ≤ 1099511627776) = false := decide_eq_false c5; clear c5; obtain rfl := Option.some.inj H
     go_enter Try.func33, Try.ntmps33
     go_wp2_with (first | ((with_reducible refine qi_ (N := 1) rfl ?_); (try (refine vc_ (by rfl) ?_; dsimp only)); refine bE_ 1 #[.int .i64 aC, .int .i64 aB, .string aD] 40 ?_; intro aE hg w8 hbox hb; have aA := Zq_.mk (hbox); have aF := gW_ (w := w) hg (hB_ HB); have aG := gW_ (w := w) hg (hB_ HB); replace HB := Zq_.mk (qb_ (hB_ HB) hb); clear hb hbox hg; obtain ⟨hcz9_0, hcz9_1, hcz9_2⟩ := c3_ aA; obtain ⟨hfz9_0, hfz9_1, hfz9_2⟩ := f3_ aA))
     go_ret
     exact ⟨by exact eW_, by exact hSet_ HB⟩
   ·rw [if_neg c4] at H; have c4b0 : decide (1 ≤ aB) = false := decide_eq_false c4; clear c4; obtain rfl := Option.some.inj H
    go_enter Try.func33, Try.ntmps33
    go_wp2_with (first | ((with_reducible refine qi_ (N := 1) rfl ?_); (try (refine vc_ (by rfl) ?_; dsimp only)); refine bE_ 1 #[.int .i64 aC, .int .i64 aB, .string aD] 40 ?_; intro aE hg w10 hbox hb; have aA := Zq_.mk (hbox); have aF := gW_ (w := w) hg (hB_ HB); have aG := gW_ (w := w) hg (hB_ HB); replace HB := Zq_.mk (qb_ (hB_ HB) hb); clear hb hbox hg; obtain ⟨hcz11_0, hcz11_1, hcz11_2⟩ := c3_ aA; obtain ⟨hfz11_0, hfz11_1, hfz11_2⟩ := f3_ aA))
    go_ret
    exact ⟨by exact eW_, by exact hSet_ HB⟩
  ·rw [if_neg c3] at H; have c3b0 : decide (aC < 12) = false := decide_eq_false c3; clear c3; obtain rfl := Option.some.inj H
   go_enter Try.func33, Try.ntmps33
   go_wp2_with (first | ((with_reducible refine qi_ (N := 1) rfl ?_); (try (refine vc_ (by rfl) ?_; dsimp only)); refine bE_ 1 #[.int .i64 aC, .int .i64 aB, .string aD] 40 ?_; intro aE hg w12 hbox hb; have aA := Zq_.mk (hbox); have aF := gW_ (w := w) hg (hB_ HB); have aG := gW_ (w := w) hg (hB_ HB); replace HB := Zq_.mk (qb_ (hB_ HB) hb); clear hb hbox hg; obtain ⟨hcz13_0, hcz13_1, hcz13_2⟩ := c3_ aA; obtain ⟨hfz13_0, hfz13_1, hfz13_2⟩ := f3_ aA))
   go_ret
   exact ⟨by exact eW_, by exact hSet_ HB⟩
 ·rw [if_neg c2] at H; have c2b0 : decide (0 ≤ aC) = false := decide_eq_false c2; clear c2; obtain rfl := Option.some.inj H
  go_enter Try.func33, Try.ntmps33
  go_wp2_with (first | ((with_reducible refine qi_ (N := 1) rfl ?_); (try (refine vc_ (by rfl) ?_; dsimp only)); refine bE_ 1 #[.int .i64 aC, .int .i64 aB, .string aD] 40 ?_; intro aE hg w14 hbox hb; have aA := Zq_.mk (hbox); have aF := gW_ (w := w) hg (hB_ HB); have aG := gW_ (w := w) hg (hB_ HB); replace HB := Zq_.mk (qb_ (hB_ HB) hb); clear hb hbox hg; obtain ⟨hcz15_0, hcz15_1, hcz15_2⟩ := c3_ aA; obtain ⟨hfz15_0, hfz15_1, hfz15_2⟩ := f3_ aA))
  go_ret
  exact ⟨by exact eW_, by exact hSet_ HB⟩
def ref05_Copy.f (aD : Int) (aE : Int) (aC : List (S40)) : Option (Int × Int × (List (S40))) := (some (([] : List (S40)) : List (S40))).bind fun aH => (if aH.length + aC.length < 4398046511104 then (some (aD, aE, (aH ++ aC))) else (none))
theorem ref05_Copy.calls (aD : Int) (aE : Int) (aQ : Option Addr) (aP : Nat) (aC : List (S40)) (r1 : Int) (r2 : Int) (r3 : List (S40)) (w : World) (aV : Kd.C k40 w aQ aC.length aC) (aW : aC.length ≤ aP) (h : ref05_Copy.f aD aE aC = some (r1, r2, r3)) :
  Calls Try.prog 11 #[.agg #[.int .i64 aD, .int .i64 aE, .slice aQ aC.length aP]] w fun e w' => ∃ v2_ : Value, e = .returned (.agg #[.int .i64 r1, .int .i64 r2, v2_]) ∧ Kd.R k40 40 w' w.heap.size (fun _ => True) v2_ r3 ∧ Below w.heap.size w w' := by
 have hu24 := Try.underlying24; have bB := Zq_.mk aV; have HC0_2 := Zq_.mk aW; clear aV aW; have HB := Zq_.mk (Below.refl w.heap.size w); have H : ((some (([] : List (S40)) : List (S40))).bind fun aH => (if aH.length + aC.length < 4398046511104 then (some (aD, aE, (aH ++ aC))) else (none))) = some (r1, r2, r3) := h; clear h; obtain ⟨aH, aM⟩ : ∃ y_ : List (S40), y_ = (([] : List (S40))) := ⟨_, rfl⟩
 replace H : (if aH.length + aC.length < 4398046511104 then (some (aD, aE, (aH ++ aC))) else (none)) = some (r1, r2, r3) := by first | (rw [aM]; with_reducible exact H) | (have H2_ := (Option.bind_some _ _).symm.trans H; rw [aM]; with_reducible exact H2_) | (have H2_ := (Option.bind_some _ _).symm.trans H; with_reducible exact H2_) | with_reducible exact H | (rw [aM]; exact H) | exact H
 have aX := Zq_.mk aM; clear aM
 by_cases c2 : aH.length + aC.length < 4398046511104
 ·rw [if_pos c2] at H; have LMc2 := Zq_.mk c2; clear c2; obtain ⟨aZ, aK⟩ : ∃ y_ : List (S40), y_ = (aH ++ aC) := ⟨_, rfl⟩
  replace H : (some (aD, aE, aZ)) = some (r1, r2, r3) := by first | (rw [aK]; with_reducible exact H) | (have H2_ := (Option.bind_some _ _).symm.trans H; rw [aK]; with_reducible exact H2_) | (have H2_ := (Option.bind_some _ _).symm.trans H; with_reducible exact H2_) | with_reducible exact H | (rw [aK]; exact H) | exact H
  have bA := Zq_.mk aK; clear aK; simp only [Option.some.injEq, Prod.mk.injEq] at H; obtain ⟨rfl, rfl, rfl⟩ := H
  go_enter Try.func11, Try.ntmps11
  go_wp2_with (first | ((with_reducible refine qi_ (N := 1) rfl ?_); refine bE_ 1 #[.int .i64 aD, .int .i64 aE, .slice aQ aC.length aP] 24 ?_; intro aI hg w3 hbox hb; have aA := Zq_.mk (hbox); have GW101 := gW_ (w := w) hg (hB_ HB); have GE101 := gW_ (w := w) hg (hB_ HB); replace HB := Zq_.mk (qb_ (hB_ HB) hb); clear hb hbox hg) | ((with_reducible refine qi_ (N := 2) rfl ?_); refine bE_ 2 #[.int .i64 0, .int .i64 0, .slice none 0 0] 24 ?_; intro aN hg w4 hbox hb; have aG := Zq_.mk (hbox); have GW102 := gW_ (w := w) hg (by exact hSet_ HB); have GE102 := gW_ (w := w) hg (by exact hSet_ HB); replace HB := Zq_.mk (qb_ (by exact hSet_ HB) hb); have aU := Zq_.mk ((by rw [hg]; exact Nat.ne_of_lt (blk_lt (g := aI) (o := .cells #[.int .i64 aD, .int .i64 aE, .slice aQ aC.length aP] 24 (0, 0)) (by exact bK_ aA)) : aI ≠ aN)); have aJ := Zq_.mk ((by rw [hg]; exact Nat.ne_of_gt (blk_lt (g := aI) (o := .cells #[.int .i64 aD, .int .i64 aE, .slice aQ aC.length aP] 24 (0, 0)) (by exact bK_ aA)) : aN ≠ aI)); replace aA := Zq_.mk (qa_ (g := aI) (o := .cells #[.int .i64 aD, .int .i64 aE, .slice aQ aC.length aP] 24 (0, 0)) (by exact bK_ aA) hb); clear hb hbox hg) | ((with_reducible refine qi_ (N := 3) rfl ?_); refine Kd.R_lit k40 _ 40 ?hg (N := 3) ?hd (xs := ([] : List (S40))) (inner := []) (ok := fun _ => True) (okp := fun _ => True) ?hr ?hp (fun _ hk => hk) trivial (Below.refl _ _) (Nat.le_refl _) (by simp) ?_; (case hd => rfl); (case hg => rfl); (case hr => first | (go_simp; done) | (go_simp; rfl)); (case hp => exact (Reps.none _ _)); intro v104 w5 ho6 hb hg_ hnew_; clear hg_ hnew_; (first | rw [← aX.out] at ho6 | (simp only [Int.reduceToNat] at ho6; rw [← aX.out] at ho6)); have aT := Zq_.mk (Kd.qx_ ho6 (qe_ (by exact hSet_ HB))); replace aA := Zq_.mk (qa_ (g := aI) (o := .cells #[.int .i64 aD, .int .i64 aE, .slice aQ aC.length aP] 24 (0, 0)) (by exact bK_ aA) hb); replace aG := Zq_.mk (qa_ (g := aN) (o := .cells #[.int .i64 0, .int .i64 0, .slice none 0 0] 24 (0, 0)) (by exact bK_ aG) hb); replace HB := Zq_.mk (qb_ (by exact hSet_ HB) hb); clear hb ho6; have hnb7 := aU.out; have hnc7 := aJ.out; obtain ⟨hcz8_0, hcz8_1, hcz8_2⟩ := c3_ aA; obtain ⟨hfz8_0, hfz8_1, hfz8_2⟩ := f3_ aA) | ((with_reducible refine qy_ (b := .append) (xs := #[.tmp 3, .tmp 5]) rfl ?_); at_builtin; refine Kd.R_append_rows k40 (w0 := w) w.heap.size rfl (.tmp 3) (.tmp 5) 22 40 (.agg #[(.int .i64 0), (.int .i64 0), (.string ⟨#[]⟩)]) 32 rfl Try.underlying22 info40 rfl (by decide) (by omega) v104 aH aC _ _ _ (fun _ => True) (fun _ => False) rfl rfl ?aO ?aR (fun _ _ h => h) (fun _ h => h.elim) ?aF ?aB ?aS ?aL ?_; (case aR => exact cX_ (Kd.ve_ bB.out HB.out)); (case aB => exact (by exact hSet_ HB)); (case aF => exact (fun _ _ => trivial)); (case aO => exact (vX_ aT)); (case aS => exact (qe_ (by exact hSet_ HB))); (case aL => have := LMc2.out; omega); intro v107 w9 ho hb hg hat; rw [← bA.out] at ho; replace aA := Zq_.mk (blk_grown (g := aI) (o := .cells #[.int .i64 aD, .int .i64 aE, .slice aQ aC.length aP] 24 (0, 0)) (by exact bK_ aA) hg (Kd.R_ne aT.out aA.out (by decide))); replace aG := Zq_.mk (blk_grown (g := aN) (o := .cells #[.int .i64 0, .int .i64 0, .slice none 0 0] 24 (0, 0)) (by exact bK_ aG) hg (Kd.R_ne aT.out aG.out (by decide))); replace HB := Zq_.mk (hb); have aY := Zq_.mk (ho); clear aT; clear ho hb hg hat; obtain ⟨Ao10, co10, eo10⟩ := Kd.vb_ aY.out; subst eo10; obtain ⟨hcz11_0, hcz11_1, hcz11_2⟩ := c3_ aA; obtain ⟨hfz11_0, hfz11_1, hfz11_2⟩ := f3_ aA; obtain ⟨hcz12_0, hcz12_1, hcz12_2⟩ := c3_ aG; obtain ⟨hfz12_0, hfz12_1, hfz12_2⟩ := f3_ aG))
  refine bodyPost_ret (results_cell_row rfl _ _ aN 24 #[.int .i64 aD, .int .i64 aE, .slice Ao10 aZ.length co10] (0, 0) _ rfl (by refine bP_ (cs := #[.int .i64 aD, .int .i64 aE, .slice none 0 0]) 2 ?_; refine bP_ (cs := #[.int .i64 aD, .int .i64 0, .slice none 0 0]) 1 ?_; refine bP_ (cs := #[.int .i64 0, .int .i64 0, .slice none 0 0]) 0 ?_; refine bF_ aJ ?_; (with_reducible repeat (first | refine qg_ ?_ _ | refine qf_ ?_ | refine qh_ ?_ _)); exact aG.out) Try.underlying24 rfl (by kernel_rfl)) rfl ?_; exact ⟨_, by exact eW_, by (with_reducible repeat (first | apply Kd.qm_ | apply Kd.ql_ | apply Kd.R_drew)); exact Kd.R_mono (Kd.R_far (Kd.R_far (Kd.R_far (Kd.R_far (Kd.vd_ (Kd.vd_ aY.out aA.out (by decide)) aG.out (by decide)) (fun _ hk => hk.1.2) _) (fun _ hk => hk.2) _) (fun _ hk => hk.2) _) (fun _ hk => hk.2) _) (fun _ hk => trivial), by exact hSet_ HB⟩
 ·rw [if_neg c2] at H; exact absurd H (by simp)
open Go.Proofs.YtfoeahjbkmdgfaaW.Hw in
theorem ContainsFuncE.calls (p : S40 → Bool) (g : Nat) (lb : Array Value) (eg : ∀ args w, (callFunc g args).run Try.prog w = .ok (.enter g args) w) (A0 : Option Addr) (c0 : Nat) (l0 : List S40) (w : World)
  (hp : PredK Try.prog k40 g lb aggOf p w) (hr0 : Kd.C k40 w A0 l0.length l0) :
  Calls Try.prog 54 #[.slice A0 l0.length c0, .func (.func g) #[] lb] w fun e w' => e = .returned (.bool (l0.any p)) ∧ Below w.heap.size w w' := by
 have hcall := IndexFuncE.calls p g lb eg A0 c0 l0 w hp hr0; rw [← idxI_any]; generalize idxI p l0 = r at hcall ⊢; clear hp hr0
 go_enter Try.func54, Try.ntmps54
 go_wp2_with fail
 refine hcall.mono ?_; rintro e w1 ⟨rfl, hb1⟩
 go_wp2_with fail
 go_ret
 exact ⟨rfl, hb1⟩
def entry_place.f (l0 : List S40) (a1 : Int) : Option Int := some (Go.Proofs.YtfoeahjbkmdgfaaW.Hw.idxI (fun x => x.f0 == a1) l0)
open Go.Proofs.YtfoeahjbkmdgfaaW.Hw in
theorem entry_place.pred (a1 : Int) (g : Nat) (w : World) (hc : w.cell? ⟨g, 0, none⟩ = some (.int .i64 a1)) : PredK Try.prog k40 65 #[.pointer (some ⟨g, 0, none⟩)] aggOf (fun x => x.f0 == a1) w := by
 intro W x cs hb hx; have hcW := (hb.cell (wb_ w _ hc)).trans hc; obtain rfl := k40_open hx; clear hx hb hc; have HB := Zq_.mk (Below.refl W.heap.size W)
 go_enter Try.func65, Try.ntmps65
 go_wp2_with (first | ((with_reducible refine qi_ (N := 2) rfl ?_); (try (refine vc_ (by rfl) ?_; dsimp only)); refine bE_ 2 #[.int .i64 x.f0, .int .i64 x.f1, .string x.f2] 40 ?_; intro aL hg_ w102 hbox_ hb_; have n0_ := Zq_.mk (qb_ (hB_ HB) hb_); have GE102 := Zq_.mk ((by rw [hg_]; exact (qe_ (hB_ HB)) : W.heap.size ≤ aL)); have n1_ := Zq_.mk (hbox_); clear HB; have HB := n0_; have aC := n1_; clear n0_ n1_; clear hb_ hbox_ hg_; obtain ⟨aJ, aI, aH⟩ := c3_ aC; obtain ⟨aF, aE, aD⟩ := f3_ aC; have hcw_ := pw_cell_below HB.out hcW))
 go_ret
 exact ⟨by first | rfl | (simp; done) | (simp [*]; done), (hB_ HB)⟩
open Go.Proofs.YtfoeahjbkmdgfaaW.Hw in
theorem entry_place.calls (A0 : Option Addr) (c0 : Nat) (l0 : List S40) (a1 : Int) (r : Int) (w : World) (hr0 : Kd.C k40 w A0 l0.length l0) (hc0 : l0.length ≤ c0) (h : entry_place.f l0 a1 = some r) :
  Calls Try.prog 63 #[.slice A0 l0.length c0, .int .i64 a1] w fun e w' => e = .returned (.int .i64 r) ∧ Below w.heap.size w w' := by
 unfold entry_place.f at h
 obtain rfl := Option.some.inj h; clear h; have HC := Zq_.mk (fun (W : World) (g : Nat) (hW : Below w.heap.size w W) (hc : W.cell? ⟨g, 0, none⟩ = some (.int .i64 a1)) => IndexFuncE.calls (fun x => x.f0 == a1) 65 #[.pointer (some ⟨g, 0, none⟩)] (fun args w => enters Try.prog Try.func65 (by kernel_rfl) (by kernel_rfl) args w) A0 c0 l0 W (entry_place.pred a1 g W hc) (Kd.ve_ hr0 hW)); generalize idxI (fun x : S40 => x.f0 == a1) l0 = b at HC ⊢; clear hr0 hc0; have HB := Zq_.mk (Below.refl w.heap.size w)
 go_enter Try.func63, Try.ntmps63
 go_wp2_with (first | ((with_reducible refine qi_ (N := 3) rfl ?_); (try (refine vc_ (by rfl) ?_; dsimp only)); refine bE_ 3 #[.int .i64 a1] 3 ?_; intro aB hg_ w101 hbox_ hb_; have n0_ := Zq_.mk (qb_ (hB_ HB) hb_); have GE101 := Zq_.mk ((by rw [hg_]; exact (qe_ (hB_ HB)) : w.heap.size ≤ aB)); have n1_ := Zq_.mk (hbox_); clear HB; have HB := n0_; have aA := n1_; clear n0_ n1_; clear hb_ hbox_ hg_; have aK := cz_ aA 0 (.int .i64 a1); have aG := qr_ aA.out 0) | (go_at_call 62; refine (HC.out _ aB (hB_ HB) ((qj_ (by exact bK_ aA) 0).trans rfl)).mono ?_; rintro e w3 ⟨rfl, hb3⟩; have n0_ := Zq_.mk (qb_ (hB_ HB) hb3); have m101_ := Zq_.mk (blk_bel (by exact bK_ aA) hb3); clear HB; have HB := n0_; clear n0_; clear aA; have aA := m101_; clear m101_; clear hb3))
 go_ret
 exact ⟨by first | rfl | (simp; done) | (simp [*]; done), (hB_ HB)⟩
def entry_Right.l0 : Nat → Int → List (S40) → Int → Int → Option (Bool)
 | 0, _, _, _, _ => none
 | k + 1, x3, x6, x7, x8 => if x8 < x7 then (if 0 ≤ x8 then (if x8 < (x6.length : Int) then (if ((rd_T40 x6 x8).f0) ≤ x3 then (some false) else ((entry_May.f ((rd_T40 x6 x8).f0) ((rd_T40 x6 x8).f1) ((rd_T40 x6 x8).f2)).bind fun aK => (if aK = true then (entry_Right.l0 k ((rd_T40 x6 x8).f0) x6 x7 (wrap64 (x8 + 1))) else (some false)))) else (none)) else (none)) else (some true)
def entry_Right.f (k : Nat) (l0 : List (S40)) : Option (Bool) := entry_Right.l0 k (-1) l0 (l0.length : Int) 0
theorem entry_Right.mono_l : ∀ k, (∀ y0 y1 y2 y3, LeO (entry_Right.l0 k y0 y1 y2 y3) (entry_Right.l0 (k + 1) y0 y1 y2 y3))
 | 0 => fun _ _ _ _ r h => by simp [entry_Right.l0] at h
 | k + 1 => by
  have ih0 := entry_Right.mono_l k
  ·intro y0 y1 y2 y3
   unfold entry_Right.l0
   repeat' first
   | (with_reducible exact ih0 _ _ _ _)
   | (with_reducible exact LeO.refl _)
   | (with_reducible exact LeO.none _)
   | (with_reducible refine LeO.ite ?_ ?_)
   | (with_reducible refine LeO.bind ?_ (fun _ => ?_))
   | exact ih0 _ _ _ _
   | exact LeO.none _
   | refine LeO.ite ?_ ?_
   | refine LeO.bind ?_ (fun _ => ?_)
theorem entry_Right.mono : ∀ a0 k, LeO (entry_Right.f k a0) (entry_Right.f (k + 1) a0) := by
 intro a0 k; have ih0 := entry_Right.mono_l k
 unfold entry_Right.f
 repeat' first
   | (with_reducible exact ih0 _ _ _ _)
   | (with_reducible exact LeO.refl _)
   | (with_reducible exact LeO.none _)
   | (with_reducible refine LeO.ite ?_ ?_)
   | (with_reducible refine LeO.bind ?_ (fun _ => ?_))
   | exact ih0 _ _ _ _
   | exact LeO.none _
   | refine LeO.ite ?_ ?_
   | refine LeO.bind ?_ (fun _ => ?_)
theorem entry_Right.calls (k : Nat) (A0 : Option Addr) (c0 : Nat) (l0 : List (S40)) (r : Bool) (w : World) (hr0 : Kd.C k40 w A0 l0.length l0) (hc0 : l0.length ≤ c0) (h : entry_Right.f k l0 = some r) :
  Calls Try.prog 40 #[.slice A0 l0.length c0] w fun e w' => e = .returned (.bool r) ∧ Below w.heap.size w w' := by
 have hu40 := Try.underlying40; have HR0 := Zq_.mk hr0; have HC0 := Zq_.mk hc0; clear hr0 hc0; have HB := Zq_.mk (Below.refl w.heap.size w); have H : (entry_Right.l0 k (-1) l0 (l0.length : Int) 0) = some r := h; clear h; have H' := Zq_.mk H; clear H
 go_enter Try.func40, Try.ntmps40
 go_wp2
 go_loopg [3, 8] k (fun kq v3 v8 w' => ∃ (aI : Int) (aA : Int), v3 = .int .i64 aI ∧ v8 = .int .i64 aA ∧ Zq_ (entry_Right.l0 kq aI l0 (l0.length : Int) aA = some r) ∧ Zq_ (kq ≤ k) ∧ Zq_ (Below w.heap.size w w'))
 case atStart => exact ⟨((-1)), (0), eS_, eS_, H', ⟨Nat.le_refl _⟩, ⟨hB_ HB⟩⟩
 case round =>
  clear H'; obtain ⟨aI, aA, rfl, rfl, HA, HK1, HB⟩ := hrel
  cases gk with
  | zero => exact absurd HA.out (by simp [entry_Right.l0])
  | succ k1 =>
   have H := HA.out; clear HA; simp only [entry_Right.l0] at H
   by_cases c2 : aA < (l0.length : Int)
   ·rw [if_pos c2] at H; have c2b0 : decide (aA < (l0.length : Int)) = true := decide_eq_true c2; clear c2
    by_cases c3 : 0 ≤ aA
    ·rw [if_pos c3] at H; have c3b0 : decide (0 ≤ aA) = true := decide_eq_true c3; clear c3
     by_cases c4 : aA < (l0.length : Int)
     ·rw [if_pos c4] at H; have c4b0 : decide (aA < (l0.length : Int)) = true := decide_eq_true c4; clear c4
      by_cases c5 : ((rd_T40 l0 aA).f0) ≤ aI
      ·rw [if_pos c5] at H; have c5b0 : decide (((rd_T40 l0 aA).f0) ≤ aI) = true := decide_eq_true c5; clear c5; obtain rfl := Option.some.inj H; have aG : 0 ≤ (aA : Int) := dA_; have aF : aA < (l0.length : Int) := dA_; obtain ⟨aL, aJ, aD, aC, aB⟩ := at_T40 HR0.out aA aG aF; cases aJ; replace aD := hC_ HB aD; replace aC := hC_ HB aC; replace aB := hC_ HB aB; replace aG := eq_true aG; replace aF := eq_true aF
       go_wp2_with (first | ((with_reducible refine qi_ (N := 5) rfl ?_); refine bE_ 5 #[.int .i64 0, .int .i64 0, .string (⟨#[]⟩ : ByteArray)] 40 ?_; intro aH hg w6 hbox hb; have aE := Zq_.mk (hbox); have aM := gW_ (w := w) hg (hB_ HB); have aN := gW_ (w := w) hg (hB_ HB); replace HB := Zq_.mk (qb_ (hB_ HB) hb); clear hb hbox hg; obtain ⟨hcz7_0, hcz7_1, hcz7_2⟩ := c3_ aE; obtain ⟨hfz7_0, hfz7_1, hfz7_2⟩ := f3_ aE))
       go_ret
       exact ⟨by exact eW_, by exact hSet_ HB⟩
      ·rw [if_neg c5] at H; have c5b0 : decide (((rd_T40 l0 aA).f0) ≤ aI) = false := decide_eq_false c5; clear c5; replace H := ob_ H; obtain ⟨aK, A80, H⟩ := H; replace H : (if aK = true then (entry_Right.l0 k1 ((rd_T40 l0 aA).f0) l0 (l0.length : Int) (wrap64 (aA + 1))) else (some false)) = some r := H; have A8 := Zq_.mk A80; clear A80
       by_cases c9 : aK = true
       ·subst c9
        have H1 : (entry_Right.l0 k1 ((rd_T40 l0 aA).f0) l0 (l0.length : Int) (wrap64 (aA + 1))) = some r := by rw [if_pos rfl] at H; exact H
        clear H; have H := H1; clear H1; have H' := Zq_.mk H; clear H; have aG : 0 ≤ (aA : Int) := dA_; have aF : aA < (l0.length : Int) := dA_; obtain ⟨aL, aJ, aD, aC, aB⟩ := at_T40 HR0.out aA aG aF; cases aJ; replace aD := hC_ HB aD; replace aC := hC_ HB aC; replace aB := hC_ HB aB; replace aG := eq_true aG; replace aF := eq_true aF
        go_wp2_with (first | ((with_reducible refine qi_ (N := 5) rfl ?_); refine bE_ 5 #[.int .i64 0, .int .i64 0, .string (⟨#[]⟩ : ByteArray)] 40 ?_; intro aH hg w10 hbox hb; have aE := Zq_.mk (hbox); have aM := gW_ (w := w) hg (hB_ HB); have aN := gW_ (w := w) hg (hB_ HB); replace HB := Zq_.mk (qb_ (hB_ HB) hb); clear hb hbox hg; obtain ⟨hcz11_0, hcz11_1, hcz11_2⟩ := c3_ aE; obtain ⟨hfz11_0, hfz11_1, hfz11_2⟩ := f3_ aE) | (go_at_call 30; (with_reducible refine (entry_May.calls ((rd_T40 l0 aA).f0) ((rd_T40 l0 aA).f1) ((rd_T40 l0 aA).f2) true _ A8.out).mono ?_); rintro e w12 ⟨rfl, hb⟩; replace aE := Zq_.mk (qa_ (g := aH) (o := .cells #[.int .i64 ((rd_T40 l0 aA).f0), .int .i64 ((rd_T40 l0 aA).f1), .string ((rd_T40 l0 aA).f2)] 40 (0, 0)) (by refine bP_ (cs := #[.int .i64 ((rd_T40 l0 aA).f0), .int .i64 ((rd_T40 l0 aA).f1), .string (⟨#[]⟩ : ByteArray)]) 2 ?_; refine bP_ (cs := #[.int .i64 ((rd_T40 l0 aA).f0), .int .i64 0, .string (⟨#[]⟩ : ByteArray)]) 1 ?_; refine bP_ (cs := #[.int .i64 0, .int .i64 0, .string (⟨#[]⟩ : ByteArray)]) 0 ?_; (with_reducible repeat (first | refine qg_ ?_ _ | refine qf_ ?_ | refine qh_ ?_ _)); exact aE.out) hb); replace HB := Zq_.mk (qb_ (by exact hSet_ HB) hb); (try clear hb); obtain ⟨hcz13_0, hcz13_1, hcz13_2⟩ := c3_ aE; obtain ⟨hfz13_0, hfz13_1, hfz13_2⟩ := f3_ aE))
        go_roundg k1
        case measure => have := HK1.out; omega
        case rel => exact ⟨((rd_T40 l0 aA).f0), (wrap64 (aA + 1)), eS_, eS_, H', ⟨by have := HK1.out; omega⟩, ⟨by exact hSet_ HB⟩⟩
       ·replace c9 := Bool.eq_false_iff.mpr c9; subst c9
        have H1 : (some false) = some r := by rw [if_neg (show ¬ (false = true) by decide)] at H; exact H
        clear H; have H := H1; clear H1; obtain rfl := Option.some.inj H; have aG : 0 ≤ (aA : Int) := dA_; have aF : aA < (l0.length : Int) := dA_; obtain ⟨aL, aJ, aD, aC, aB⟩ := at_T40 HR0.out aA aG aF; cases aJ; replace aD := hC_ HB aD; replace aC := hC_ HB aC; replace aB := hC_ HB aB; replace aG := eq_true aG; replace aF := eq_true aF
        go_wp2_with (first | ((with_reducible refine qi_ (N := 5) rfl ?_); refine bE_ 5 #[.int .i64 0, .int .i64 0, .string (⟨#[]⟩ : ByteArray)] 40 ?_; intro aH hg w14 hbox hb; have aE := Zq_.mk (hbox); have aM := gW_ (w := w) hg (hB_ HB); have aN := gW_ (w := w) hg (hB_ HB); replace HB := Zq_.mk (qb_ (hB_ HB) hb); clear hb hbox hg; obtain ⟨hcz15_0, hcz15_1, hcz15_2⟩ := c3_ aE; obtain ⟨hfz15_0, hfz15_1, hfz15_2⟩ := f3_ aE) | (go_at_call 30; (with_reducible refine (entry_May.calls ((rd_T40 l0 aA).f0) ((rd_T40 l0 aA).f1) ((rd_T40 l0 aA).f2) false _ A8.out).mono ?_); rintro e w16 ⟨rfl, hb⟩; replace aE := Zq_.mk (qa_ (g := aH) (o := .cells #[.int .i64 ((rd_T40 l0 aA).f0), .int .i64 ((rd_T40 l0 aA).f1), .string ((rd_T40 l0 aA).f2)] 40 (0, 0)) (by refine bP_ (cs := #[.int .i64 ((rd_T40 l0 aA).f0), .int .i64 ((rd_T40 l0 aA).f1), .string (⟨#[]⟩ : ByteArray)]) 2 ?_; refine bP_ (cs := #[.int .i64 ((rd_T40 l0 aA).f0), .int .i64 0, .string (⟨#[]⟩ : ByteArray)]) 1 ?_; refine bP_ (cs := #[.int .i64 0, .int .i64 0, .string (⟨#[]⟩ : ByteArray)]) 0 ?_; (with_reducible repeat (first | refine qg_ ?_ _ | refine qf_ ?_ | refine qh_ ?_ _)); exact aE.out) hb); replace HB := Zq_.mk (qb_ (by exact hSet_ HB) hb); (try clear hb)))
        go_ret
        exact ⟨by exact eW_, by exact hSet_ HB⟩
     ·rw [if_neg c4] at H; exact absurd H (by simp)
    ·rw [if_neg c3] at H; exact absurd H (by simp)
   ·rw [if_neg c2] at H; have c2b0 : decide (aA < (l0.length : Int)) = false := decide_eq_false c2; clear c2; obtain rfl := Option.some.inj H
    go_wp2
    go_ret
    exact ⟨by exact eW_, hB_ HB⟩
section
attribute [local go_sem high] eqA40
def ref04_Same.l0 : Nat → List (S40) → List (S40) → Int → Option (Bool)
 | 0, _, _, _ => none
 | k + 1, x0, x1, x5 => if x5 < (x0.length : Int) then (if 0 ≤ x5 then (if x5 < (x1.length : Int) then (if (!(((rd_T40 x0 x5).f0) == ((rd_T40 x1 x5).f0)) || (!(((rd_T40 x0 x5).f1) == ((rd_T40 x1 x5).f1)) || (!((((rd_T40 x0 x5).f2).toList) == (((rd_T40 x1 x5).f2).toList))))) = true then (some false) else (ref04_Same.l0 k x0 x1 (wrap64 (x5 + 1)))) else (none)) else (none)) else (some true)
def ref04_Same.f (k : Nat) (l0 : List (S40)) (l1 : List (S40)) : Option (Bool) := if (l0.length : Int) = (l1.length : Int) then (ref04_Same.l0 k l0 l1 0) else (some false)
theorem ref04_Same.mono_l : ∀ k, (∀ y0 y1 y2, LeO (ref04_Same.l0 k y0 y1 y2) (ref04_Same.l0 (k + 1) y0 y1 y2))
 | 0 => fun _ _ _ r h => by simp [ref04_Same.l0] at h
 | k + 1 => by
  have ih0 := ref04_Same.mono_l k
  ·intro y0 y1 y2
   unfold ref04_Same.l0
   repeat' first
   | (with_reducible exact ih0 _ _ _)
   | (with_reducible exact LeO.refl _)
   | (with_reducible exact LeO.none _)
   | (with_reducible refine LeO.ite ?_ ?_)
   | (with_reducible refine LeO.bind ?_ (fun _ => ?_))
   | exact ih0 _ _ _
   | exact LeO.none _
   | refine LeO.ite ?_ ?_
   | refine LeO.bind ?_ (fun _ => ?_)
theorem ref04_Same.mono : ∀ a0 a1 k, LeO (ref04_Same.f k a0 a1) (ref04_Same.f (k + 1) a0 a1) := by
 intro a0 a1 k; have ih0 := ref04_Same.mono_l k
 unfold ref04_Same.f
 repeat' first
   | (with_reducible exact ih0 _ _ _)
   | (with_reducible exact LeO.refl _)
   | (with_reducible exact LeO.none _)
   | (with_reducible refine LeO.ite ?_ ?_)
   | (with_reducible refine LeO.bind ?_ (fun _ => ?_))
   | exact ih0 _ _ _
   | exact LeO.none _
   | refine LeO.ite ?_ ?_
   | refine LeO.bind ?_ (fun _ => ?_)
theorem ref04_Same.calls (k : Nat) (A0 : Option Addr) (c0 : Nat) (l0 : List (S40)) (A1 : Option Addr) (c1 : Nat) (l1 : List (S40)) (r : Bool) (w : World) (hr0 : Kd.C k40 w A0 l0.length l0) (hc0 : l0.length ≤ c0) (hr1 : Kd.C k40 w A1 l1.length l1) (hc1 : l1.length ≤ c1) (h : ref04_Same.f k l0 l1 = some r) :
  Calls Try.prog 35 #[.slice A0 l0.length c0, .slice A1 l1.length c1] w fun e w' => e = .returned (.bool r) ∧ Drawn0 w w' := by
 have hu40 := Try.underlying40; have HR0 := Zq_.mk hr0; have HC0 := Zq_.mk hc0; clear hr0 hc0; have HR1 := Zq_.mk hr1; have HC1 := Zq_.mk hc1; clear hr1 hc1; have H : (if (l0.length : Int) = (l1.length : Int) then (ref04_Same.l0 k l0 l1 0) else (some false)) = some r := h; clear h
 by_cases c3 : (l0.length : Int) = (l1.length : Int)
 ·rw [if_pos c3] at H; have aP : ((l0.length : Int) == (l1.length : Int)) = true := beq_iff_eq.mpr c3; have aO : ((l0.length : Int) != (l1.length : Int)) = false := bne_eq_false_iff_eq.mpr c3
  have aN : (l0.length == l1.length) = true := by first | simpa using c3 | (simp at c3 ⊢; omega)
  clear c3; have H' := Zq_.mk H; clear H
  go_enter Try.func35, Try.ntmps35
  go_wp2
  repeat (go_quiet (fail); try go_wp2)
  go_loopg [5] k (fun kq v5 w' => ∃ (aA : Int), v5 = .int .i64 aA ∧ Zq_ (ref04_Same.l0 kq l0 l1 aA = some r) ∧ Zq_ (kq ≤ k) ∧ Drawn0 w w')
  case atStart => exact ⟨(0), eS_, H', ⟨Nat.le_refl _⟩, by repeat (first | exact Drawn0.refl _ | apply Drawn0.step)⟩
  case round =>
   clear H'
   try clear c1
   try clear p2
   try clear c3
   try clear aP
   try clear aO
   try clear aN
   obtain ⟨aA, rfl, HA, HK1, ⟨m1, rfl⟩⟩ := hrel
   cases gk with
   | zero => exact absurd HA.out (by simp [ref04_Same.l0])
   | succ k1 =>
    have H := HA.out; clear HA; simp only [ref04_Same.l0] at H
    by_cases c4 : aA < (l0.length : Int)
    ·rw [if_pos c4] at H; have c4b0 : decide (aA < (l0.length : Int)) = true := decide_eq_true c4; clear c4
     by_cases c5 : 0 ≤ aA
     ·rw [if_pos c5] at H; have c5b0 : decide (0 ≤ aA) = true := decide_eq_true c5; clear c5
      by_cases c6 : aA < (l1.length : Int)
      ·rw [if_pos c6] at H; have c6b0 : decide (aA < (l1.length : Int)) = true := decide_eq_true c6; clear c6
       by_cases c7 : (!(((rd_T40 l0 aA).f0) == ((rd_T40 l1 aA).f0)) || (!(((rd_T40 l0 aA).f1) == ((rd_T40 l1 aA).f1)) || (!((((rd_T40 l0 aA).f2).toList) == (((rd_T40 l1 aA).f2).toList))))) = true
       ·rw [if_pos c7] at H; have c7b0 : (!(((rd_T40 l0 aA).f0) == ((rd_T40 l1 aA).f0)) || (!(((rd_T40 l0 aA).f1) == ((rd_T40 l1 aA).f1)) || (!((((rd_T40 l0 aA).f2).toList) == (((rd_T40 l1 aA).f2).toList))))) = true := c7; clear c7; obtain rfl := Option.some.inj H; have aE : 0 ≤ (aA : Int) := dA_; have aC : aA < (l0.length : Int) := dA_; obtain ⟨aR, aM, aK, aJ, aI⟩ := at_T40 HR0.out aA aE aC; cases aM; replace aE := eq_true aE; replace aC := eq_true aC; have aD : 0 ≤ (aA : Int) := dA_; have aB : aA < (l1.length : Int) := dA_; obtain ⟨aQ, aL, aH, aG, aF⟩ := at_T40 HR1.out aA aD aB; cases aL; replace aD := eq_true aD; replace aB := eq_true aB
        go_wp2
        repeat (go_quiet (fail); try go_wp2)
        go_ret
        exact ⟨by first | rfl | (simp; done) | (simp [*]; done), by repeat (first | exact Drawn0.refl _ | apply Drawn0.step)⟩
       ·rw [if_neg c7] at H
        have c7b0 : (!(((rd_T40 l0 aA).f0) == ((rd_T40 l1 aA).f0)) || (!(((rd_T40 l0 aA).f1) == ((rd_T40 l1 aA).f1)) || (!((((rd_T40 l0 aA).f2).toList) == (((rd_T40 l1 aA).f2).toList))))) = false := by simpa using c7
        clear c7; have H' := Zq_.mk H; clear H; have aE : 0 ≤ (aA : Int) := dA_; have aC : aA < (l0.length : Int) := dA_; obtain ⟨aR, aM, aK, aJ, aI⟩ := at_T40 HR0.out aA aE aC; cases aM; replace aE := eq_true aE; replace aC := eq_true aC; have aD : 0 ≤ (aA : Int) := dA_; have aB : aA < (l1.length : Int) := dA_; obtain ⟨aQ, aL, aH, aG, aF⟩ := at_T40 HR1.out aA aD aB; cases aL; replace aD := eq_true aD; replace aB := eq_true aB
        go_wp2
        repeat (go_quiet (fail); try go_wp2)
        go_roundg k1
        case measure => have := HK1.out; omega
        case rel => exact ⟨(wrap64 (aA + 1)), eS_, H', ⟨by have := HK1.out; omega⟩, by repeat (first | exact Drawn0.refl _ | apply Drawn0.step)⟩
      ·rw [if_neg c6] at H; exact absurd H (by simp)
     ·rw [if_neg c5] at H; exact absurd H (by simp)
    ·rw [if_neg c4] at H; have c4b0 : decide (aA < (l0.length : Int)) = false := decide_eq_false c4; clear c4; obtain rfl := Option.some.inj H
     go_wp2
     repeat (go_quiet (fail); try go_wp2)
     go_ret
     exact ⟨by first | rfl | (simp; done) | (simp [*]; done), by repeat (first | exact Drawn0.refl _ | apply Drawn0.step)⟩
 ·rw [if_neg c3] at H; have aP : ((l0.length : Int) == (l1.length : Int)) = false := beq_eq_false_iff_ne.mpr c3; have aO : ((l0.length : Int) != (l1.length : Int)) = true := bne_iff_ne.mpr c3
  have aN : (l0.length == l1.length) = false := by first | simpa using c3 | (simp at c3 ⊢; omega)
  obtain rfl := Option.some.inj H
  go_enter Try.func35, Try.ntmps35
  go_wp2
  repeat (go_quiet (fail); try go_wp2)
  go_ret
  exact ⟨by first | rfl | (simp; done) | (simp [*]; done), by repeat (first | exact Drawn0.refl _ | apply Drawn0.step)⟩
end
def ref05_Great.f (k : Nat) (aE : Int) (aD : Int) (aA : List (S40)) : Option (Bool) := (ref04_Great.f k aA).bind fun aB => (some aB)
theorem ref05_Great.mono : ∀ a0 a1 a2 k, LeO (ref05_Great.f k a0 a1 a2) (ref05_Great.f (k + 1) a0 a1 a2) := by
 intro a0 a1 a2 k
 unfold ref05_Great.f
 repeat' first
   | (with_reducible exact ref04_Great.mono _ _)
   | (with_reducible exact LeO.refl _)
   | (with_reducible exact LeO.none _)
   | (with_reducible refine LeO.ite ?_ ?_)
   | (with_reducible refine LeO.bind ?_ (fun _ => ?_))
   | exact ref04_Great.mono _ _
   | exact LeO.none _
   | refine LeO.ite ?_ ?_
   | refine LeO.bind ?_ (fun _ => ?_)
theorem ref05_Great.calls (k : Nat) (aE : Int) (aD : Int) (aF : Option Addr) (aC : Nat) (aA : List (S40)) (r : Bool) (w : World) (aG : Kd.C k40 w aF aA.length aA) (aH : aA.length ≤ aC) (h : ref05_Great.f k aE aD aA = some r) :
  Calls Try.prog 29 #[.agg #[.int .i64 aE, .int .i64 aD, .slice aF aA.length aC]] w fun e w' => e = .returned (.bool r) ∧ Below w.heap.size w w' := by
 have hu24 := Try.underlying24; have aJ := Zq_.mk aG; have aK := Zq_.mk aH; clear aG aH; have HB := Zq_.mk (Below.refl w.heap.size w); have H : ((ref04_Great.f k aA).bind fun aB => (some aB)) = some r := h; clear h; replace H := ob_ H; obtain ⟨aB, A20, H⟩ := H; replace H : (some aB) = some r := H; have A2 := Zq_.mk A20; clear A20; obtain rfl := Option.some.inj H
 go_enter Try.func29, Try.ntmps29
 go_wp2_with (first | ((with_reducible refine qi_ (N := 1) rfl ?_); refine bE_ 1 #[.int .i64 aE, .int .i64 aD, .slice aF aA.length aC] 24 ?_; intro gb101 hg w3 hbox hb; have aI := Zq_.mk (hbox); have GW101 := gW_ (w := w) hg (hB_ HB); have GE101 := gW_ (w := w) hg (hB_ HB); replace HB := Zq_.mk (qb_ (hB_ HB) hb); clear hb hbox hg; obtain ⟨hcz4_0, hcz4_1, hcz4_2⟩ := c3_ aI; obtain ⟨hfz4_0, hfz4_1, hfz4_2⟩ := f3_ aI) | ((with_reducible refine qn_ (f := 47) rfl ?_); refine goesL_ (some 5) rfl rfl Try.func47 (by kernel_rfl) rfl #[.slice aF aA.length aC] rfl (by (try simp only [List.map_toArray, List.map_cons, List.map_nil]); first | done | rfl | (simp only [List.length_drop, List.length_take]; rfl)) ?_; (with_reducible refine (ref04_Great.calls k _ _ aA aB _ ?side1 ?side2 A2.out).mono ?_); (case side1 => exact cX_ (Kd.ve_ aJ.out HB.out)); (case side2 => exact aK.out); rintro e w' ⟨rfl, ⟨nd, rfl⟩⟩; refine ⟨_, rfl, ?_⟩))
 go_ret
 exact ⟨by exact eW_, by exact hSet_ HB⟩
end Go.Proofs.Ytfoeahjbkmdgfaa.P

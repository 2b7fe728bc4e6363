/- What this function of the program comes to, and that the machine's call does it. No condition. -/
import Derived.Test.YtgipbmjkgciccaaPRef06Copy
namespace Go.Proofs.Ytgipbmjkgciccaa.P
set_option maxHeartbeats 8000000
set_option maxRecDepth 100000
open Go.RowKit Go.Proofs.YtgipbmjkgciccaaW.PrintWords Go.Proofs.YtgipbmjkgciccaaW.PrintLast Go.Proofs.YtgipbmjkgciccaaW.PrintMore
attribute [local go_sem] max2_int min2_int max_two min_two max_three min_three max_four min_four Go.Proofs.YtgipbmjkgciccaaW.Hw.string_gtr
set_option linter.unusedVariables false
set_option linter.unusedSimpArgs false
def ref06_Get.l0 : Nat → List (S39) → Int → Int → Option (Int × Int × (List (S58)) × Bool)
 | 0, _, _, _ => none
 | k + 1, x0, x1, x6 => if x6 < (x0.length : Int) then (if 0 ≤ x6 then (if ((rd_T39 x0 x6).f0) = x1 then ((ref05_Copy.f ((rd_T39 x0 x6).f1.f0) ((rd_T39 x0 x6).f1.f1) ((rd_T39 x0 x6).f1.f2)).bind fun bt104 => (some (bt104.1, bt104.2.1, bt104.2.2, true))) else (ref06_Get.l0 k x0 x1 (wrap64 (x6 + 1)))) else (none)) else (some (0, 0, ([] : List (S58)), false))
def ref06_Get.f (k : Nat) (l0 : List (S39)) (a1 : Int) : Option (Int × Int × (List (S58)) × Bool) := ref06_Get.l0 k l0 a1 0
theorem ref06_Get.mono_l : ∀ k, (∀ y0 y1 y2, LeO (ref06_Get.l0 k y0 y1 y2) (ref06_Get.l0 (k + 1) y0 y1 y2))
 | 0 => fun _ _ _ r h => by simp [ref06_Get.l0] at h
 | k + 1 => by
  have ih0 := ref06_Get.mono_l k
  ·intro y0 y1 y2
   unfold ref06_Get.l0
   repeat' first
   | (with_reducible exact ih0 _ _ _)
   | (with_reducible exact LeO.refl _)
   | (with_reducible exact LeO.none _)
   | (with_reducible refine LeO.ite ?_ ?_)
   | (with_reducible refine LeO.bind ?_ (fun _ => ?_))
   | exact ih0 _ _ _
   | exact LeO.none _
   | refine LeO.ite ?_ ?_
   | refine LeO.bind ?_ (fun _ => ?_)
theorem ref06_Get.mono : ∀ a0 a1 k, LeO (ref06_Get.f k a0 a1) (ref06_Get.f (k + 1) a0 a1) := by
 intro a0 a1 k; have ih0 := ref06_Get.mono_l k
 unfold ref06_Get.f
 repeat' first
   | (with_reducible exact ih0 _ _ _)
   | (with_reducible exact LeO.refl _)
   | (with_reducible exact LeO.none _)
   | (with_reducible refine LeO.ite ?_ ?_)
   | (with_reducible refine LeO.bind ?_ (fun _ => ?_))
   | exact ih0 _ _ _
   | exact LeO.none _
   | refine LeO.ite ?_ ?_
   | refine LeO.bind ?_ (fun _ => ?_)
theorem ref06_Get.calls (k : Nat) (A0 : Option Addr) (c0 : Nat) (l0 : List (S39)) (a1 : Int) (r1 : Int) (r2 : Int) (r3 : List (S58)) (r4 : Bool) (w : World) (hr0 : Kd.C k39 w A0 l0.length l0) (hc0 : l0.length ≤ c0) (h : ref06_Get.f k l0 a1 = some (r1, r2, r3, r4)) :
  Calls Try.prog 17 #[.slice A0 l0.length c0, .int .i64 a1] w fun e w' => ∃ v2_ : Value, e = .returned (.tuple #[.agg #[.int .i64 r1, .int .i64 r2, v2_], .bool r4]) ∧ Kd.R k58 58 w' w.heap.size (fun _ => True) v2_ r3 ∧ Below w.heap.size w w' := by
 have hu35 := Try.underlying35; have HR0 := Zq_.mk hr0; have HC0 := Zq_.mk hc0; clear hr0 hc0; have HB := Zq_.mk (Below.refl w.heap.size w); have H : (ref06_Get.l0 k l0 a1 0) = some (r1, r2, r3, r4) := h; clear h; have H' := Zq_.mk H; clear H
 go_enter Try.func17, Try.ntmps17
 go_wp2_with (first | ((with_reducible refine qq_ (N := 4) rfl ?_); refine qo_ ?hg (N := 4) ?hd (cs := #[.int .i64 0, .int .i64 0, .slice none 0 0]) (t := 35) ?hr ?_; (case hd => rfl); (case hg => rfl); (case hr => first | (go_simp; done) | (go_simp; rfl)); intro gb101 hg w3 hbox hb; have BK101 := Zq_.mk (hbox); have GW101 := gW_ (w := w) hg (hB_ HB); have GE101 := gW_ (w := w) hg (hB_ HB); replace HB := Zq_.mk (ql_ (hB_ HB) hb); clear hb hbox hg))
 go_loopg [6] k (fun kq v6 w' => ∃ (x6_1 : Int) (x102000_1 : Int) (x102001_1 : Int), v6 = .int .i64 x6_1 ∧ Zq_ (ref06_Get.l0 kq l0 a1 x6_1 = some (r1, r2, r3, r4)) ∧ Zq_ (kq ≤ k) ∧ Zq_ (w'.heap[gb101]? = some (.cells #[.int .i64 x102000_1, .int .i64 x102001_1, (.slice none 0 0)] 35 (0, 0))) ∧ Zq_ (Below w.heap.size w w'))
 case atStart => exact ⟨(0), (0), (0), (by first | rfl | (simp; done) | (simp [*]; done)), H', ⟨Nat.le_refl _⟩, ⟨by (with_reducible repeat (first | refine qg_ ?_ _ | refine qi_ ?_ | refine qf_ ?_ _)); exact BK101.out⟩, ⟨by exact hSet_ HB⟩⟩
 case round =>
  clear H'
  try clear c1
  try clear p2
  obtain ⟨x6_1, x102000_1, x102001_1, rfl, HA, HK1, BK101, HB⟩ := hrel
  cases gk with
  | zero => exact absurd HA.out (by simp [ref06_Get.l0])
  | succ k1 =>
   have H := HA.out; clear HA; simp only [ref06_Get.l0] at H
   by_cases c4 : x6_1 < (l0.length : Int)
   ·rw [if_pos c4] at H; have c4b0 : decide (x6_1 < (l0.length : Int)) = true := decide_eq_true c4; clear c4
    by_cases c5 : 0 ≤ x6_1
    ·rw [if_pos c5] at H; have c5b0 : decide (0 ≤ x6_1) = true := decide_eq_true c5; clear c5
     by_cases c6 : ((rd_T39 l0 x6_1).f0) = a1
     ·rw [if_pos c6] at H; have c6b0 : (((rd_T39 l0 x6_1).f0) == a1) = true := beq_iff_eq.mpr c6; have c6b1 : (((rd_T39 l0 x6_1).f0) != a1) = false := bne_eq_false_iff_eq.mpr c6; clear c6; replace H := ob_ H; obtain ⟨⟨t104, t105, t106⟩, A70, H⟩ := H; replace H : (some (t104, t105, t106, true)) = some (r1, r2, r3, r4) := H; have A7 := Zq_.mk A70; clear A70; simp only [Option.some.injEq, Prod.mk.injEq] at H; obtain ⟨rfl, rfl, rfl, rfl⟩ := H; have p102 : 0 ≤ (x6_1 : Int) := dA_; have q102 : x6_1 < (l0.length : Int) := dA_; obtain ⟨ad102, A102_3, c102_3, e102, hx102_0, hx102_1, hx102_2, hx102_3, hl102_3, hi102_3⟩ := at_T39 HR0.out x6_1 p102 q102; cases e102; replace hx102_0 := hC_ HB hx102_0; replace hx102_1 := hC_ HB hx102_1; replace hx102_2 := hC_ HB hx102_2; replace hx102_3 := hC_ HB hx102_3; have HR102_3 := Zq_.mk hi102_3; have HC102_3 := Zq_.mk hl102_3; clear hi102_3 hl102_3; replace p102 := eq_true p102; replace q102 := eq_true q102; have p103 : 0 ≤ (x6_1 : Int) := dA_; have q103 : x6_1 < (l0.length : Int) := dA_; obtain ⟨ad103, A103_3, c103_3, e103, hx103_0, hx103_1, hx103_2, hx103_3, hl103_3, hi103_3⟩ := at_T39 HR0.out x6_1 p103 q103; obtain rfl : ad102 = ad103 := (by injection e103); replace hx103_0 := hC_ HB hx103_0; replace hx103_1 := hC_ HB hx103_1; replace hx103_2 := hC_ HB hx103_2; replace hx103_3 := hC_ HB hx103_3; have HR103_3 := Zq_.mk hi103_3; have HC103_3 := Zq_.mk hl103_3; clear hi103_3 hl103_3; replace p103 := eq_true p103; replace q103 := eq_true q103; have ea_ := Option.some.inj (hx102_3.symm.trans hx103_3)
      injection ea_ with ea_ en_ ec_
      subst ea_; subst ec_; clear en_
      go_wp2_with (first | ((with_reducible refine va_ (f := 41) rfl ?_); refine goesL_ (some 25) rfl rfl Try.func41 (by kernel_rfl) rfl #[.agg #[.int .i64 ((rd_T39 l0 x6_1).f1.f0), .int .i64 ((rd_T39 l0 x6_1).f1.f1), .slice A102_3 ((rd_T39 l0 x6_1).f1.f2).length c102_3]] rfl (by (try simp only [List.map_toArray, List.map_cons, List.map_nil]); first | done | rfl | (simp only [List.length_drop, List.length_take]; rfl)) ?_; (with_reducible refine (ref05_Copy.calls ((rd_T39 l0 x6_1).f1.f0) ((rd_T39 l0 x6_1).f1.f1) _ _ ((rd_T39 l0 x6_1).f1.f2) t104 t105 t106 _ ?side1 ?side2 A7.out).mono ?_); (case side1 => exact cX_ (Kd.qz_ HR103_3.out HB.out)); (case side2 => exact HC103_3.out); rintro e w8 ⟨v107, rfl, ho0, hb⟩; refine ⟨_, rfl, ?_⟩; have HO108 := Zq_.mk (Kd.R_lower ho0 (qj_ (by exact hSet_ HB))); replace BK101 := Zq_.mk (qs_ (g := gb101) (o := .cells #[.int .i64 x102000_1, .int .i64 x102001_1, .slice none 0 0] 35 (0, 0)) (by exact bK_ BK101) hb); replace HB := Zq_.mk (ql_ (by exact hSet_ HB) hb); (try clear hb); (try clear ho0); have hcz9_0 := cz_ BK101 0 (.int .i64 x102000_1); have hcz9_1 := cz_ BK101 1 (.int .i64 x102001_1); have hcz9_2 := cz_ BK101 2 (.slice none 0 0); have hfz9_0 := qe_ BK101.out 0; have hfz9_1 := qe_ BK101.out 1; have hfz9_2 := qe_ BK101.out 2; obtain ⟨Ao10, co10, eo10⟩ := Kd.R_slice HO108.out; subst eo10))
      refine bodyPost_ret (results_ct rfl _ _ gb101 35 #[.int .i64 t104, .int .i64 t105, .slice Ao10 t106.length co10] (0, 0) _ rfl (by refine bP_ (cs := #[.int .i64 t104, .int .i64 t105, .slice none 0 0]) 2 ?_; refine bP_ (cs := #[.int .i64 t104, .int .i64 x102001_1, .slice none 0 0]) 1 ?_; refine bP_ (cs := #[.int .i64 x102000_1, .int .i64 x102001_1, .slice none 0 0]) 0 ?_; (with_reducible repeat (first | refine qg_ ?_ _ | refine qi_ ?_ | refine qf_ ?_ _)); exact BK101.out) Try.underlying35 rfl (by kernel_rfl)) rfl ?_; exact ⟨_, by first | rfl | (simp [errW_none, errW_some] <;> rfl) | (simp [*, errW_none, errW_some] <;> rfl), by (with_reducible repeat (first | apply Kd.qu_ | apply Kd.qt_ | apply Kd.R_drew)); exact Kd.R_mono (Kd.R_far (p := ⟨gb101, 2, none⟩) (Kd.R_far (p := ⟨gb101, 1, none⟩) (Kd.R_far (p := ⟨gb101, 0, none⟩) (Kd.R_types HO108.out BK101.out (by decide)) (fun _ hk => hk.2) (.int .i64 t104)) (fun _ hk => hk.2) (.int .i64 t105)) (fun _ hk => hk.2) (.slice Ao10 t106.length co10)) (fun _ hk => trivial), by exact hSet_ HB⟩
     ·rw [if_neg c6] at H; have c6b0 : (((rd_T39 l0 x6_1).f0) == a1) = false := beq_eq_false_iff_ne.mpr c6; have c6b1 : (((rd_T39 l0 x6_1).f0) != a1) = true := bne_iff_ne.mpr c6; have H' := Zq_.mk H; clear H; have p102 : 0 ≤ (x6_1 : Int) := dA_; have q102 : x6_1 < (l0.length : Int) := dA_; obtain ⟨ad102, A102_3, c102_3, e102, hx102_0, hx102_1, hx102_2, hx102_3, hl102_3, hi102_3⟩ := at_T39 HR0.out x6_1 p102 q102; cases e102; replace hx102_0 := hC_ HB hx102_0; replace hx102_1 := hC_ HB hx102_1; replace hx102_2 := hC_ HB hx102_2; replace hx102_3 := hC_ HB hx102_3; have HR102_3 := Zq_.mk hi102_3; have HC102_3 := Zq_.mk hl102_3; clear hi102_3 hl102_3; replace p102 := eq_true p102; replace q102 := eq_true q102
      go_wp2
      go_roundg k1
      case measure => have := HK1.out; omega
      case rel => exact ⟨(wrap64 (x6_1 + 1)), (x102000_1), (x102001_1), (by first | rfl | (simp; done) | (simp [*]; done)), H', ⟨by have := HK1.out; omega⟩, ⟨by (with_reducible repeat (first | refine qg_ ?_ _ | refine qi_ ?_ | refine qf_ ?_ _)); exact BK101.out⟩, ⟨by exact hSet_ HB⟩⟩
    ·rw [if_neg c5] at H; exact absurd H (by simp)
   ·rw [if_neg c4] at H; have c4b0 : decide (x6_1 < (l0.length : Int)) = false := decide_eq_false c4; clear c4; simp only [Option.some.injEq, Prod.mk.injEq] at H; obtain ⟨rfl, rfl, rfl, rfl⟩ := H; have hcz11_0 : wr.cell? ⟨gb101, 0, none⟩ = some (.int .i64 x102000_1) := (qd_ BK101.out 0).trans rfl; have hcz11_1 : wr.cell? ⟨gb101, 1, none⟩ = some (.int .i64 x102001_1) := (qd_ BK101.out 1).trans rfl; have hcz11_2 : wr.cell? ⟨gb101, 2, none⟩ = some (.slice none 0 0) := (qd_ BK101.out 2).trans rfl; have hfz11_0 := qe_ BK101.out 0; have hfz11_1 := qe_ BK101.out 1; have hfz11_2 := qe_ BK101.out 2
    go_wp2
    refine bodyPost_ret (results_ct rfl _ _ gb101 35 #[.int .i64 0, .int .i64 0, .slice none 0 0] (0, 0) _ rfl (by refine bP_ (cs := #[.int .i64 0, .int .i64 0, .slice none 0 0]) 2 ?_; refine bP_ (cs := #[.int .i64 0, .int .i64 x102001_1, .slice none 0 0]) 1 ?_; refine bP_ (cs := #[.int .i64 x102000_1, .int .i64 x102001_1, .slice none 0 0]) 0 ?_; (with_reducible repeat (first | refine qg_ ?_ _ | refine qi_ ?_ | refine qf_ ?_ _)); exact BK101.out) Try.underlying35 rfl (by kernel_rfl)) rfl ?_; exact ⟨_, by first | rfl | (simp [errW_none, errW_some] <;> rfl) | (simp [*, errW_none, errW_some] <;> rfl), by first | exact Kd.R_nil _ _ _ _ _ | exact Kd.N_nil _ _ _ _ _ | exact Kd.V_nil _ _ _ _ _ | exact Kd.Q_nil _ _ _ _ _ | exact Kd.S_nil _ _ _ _ _, by exact hSet_ HB⟩
end Go.Proofs.Ytgipbmjkgciccaa.P

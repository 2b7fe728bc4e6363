/- What this function of the program comes to, and that the machine's call does it. No condition. -/
import Derived.Test.YthpbggknfhchlaaP0
import Derived.Test.YthpbggknfhchlaaHw
namespace Go.Proofs.Ythpbggknfhchlaa.P
set_option maxHeartbeats 8000000
set_option maxRecDepth 100000
open Go.RowKit Go.Proofs.YthpbggknfhchlaaW.PrintWords Go.Proofs.YthpbggknfhchlaaW.PrintLast Go.Proofs.YthpbggknfhchlaaW.PrintMore
attribute [local go_sem] max2_int min2_int max_two min_two ve_ vd_ max_four min_four Go.Proofs.YthpbggknfhchlaaW.Hw.string_gtr
set_option linter.unusedVariables false
set_option linter.unusedSimpArgs false
def ref04_Get.l0 : Nat → List (S60) → Int → Int → Option (Int × Int × ByteArray × Bool)
 | 0, _, _, _ => none
 | k + 1, x0, x1, x6 => if x6 < (x0.length : Int) then (if 0 ≤ x6 then (if ((rd_T60 x0 x6).f0) = x1 then (some ((rd_T60 x0 x6).f0, (rd_T60 x0 x6).f1, (rd_T60 x0 x6).f2, true)) else (ref04_Get.l0 k x0 x1 (wrap64 (x6 + 1)))) else (none)) else (some (0, 0, (⟨#[]⟩ : ByteArray), false))
def ref04_Get.f (k : Nat) (l0 : List (S60)) (a1 : Int) : Option (Int × Int × ByteArray × Bool) := ref04_Get.l0 k l0 a1 0
theorem ref04_Get.mono_l : ∀ k, (∀ y0 y1 y2, LeO (ref04_Get.l0 k y0 y1 y2) (ref04_Get.l0 (k + 1) y0 y1 y2))
 | 0 => fun _ _ _ r h => by simp [ref04_Get.l0] at h
 | k + 1 => by
  have ih0 := ref04_Get.mono_l k
  ·intro y0 y1 y2
   unfold ref04_Get.l0
   repeat' first
   | (with_reducible exact ih0 _ _ _)
   | (with_reducible exact LeO.refl _)
   | (with_reducible exact LeO.none _)
   | (with_reducible refine LeO.ite ?_ ?_)
   | (with_reducible refine LeO.bind ?_ (fun _ => ?_))
   | exact ih0 _ _ _
   | exact LeO.none _
   | refine LeO.ite ?_ ?_
   | refine LeO.bind ?_ (fun _ => ?_)
theorem ref04_Get.mono : ∀ a0 a1 k, LeO (ref04_Get.f k a0 a1) (ref04_Get.f (k + 1) a0 a1) := by
 intro a0 a1 k; have ih0 := ref04_Get.mono_l k
 unfold ref04_Get.f
 repeat' first
   | (with_reducible exact ih0 _ _ _)
   | (with_reducible exact LeO.refl _)
   | (with_reducible exact LeO.none _)
   | (with_reducible refine LeO.ite ?_ ?_)
   | (with_reducible refine LeO.bind ?_ (fun _ => ?_))
   | exact ih0 _ _ _
   | exact LeO.none _
   | refine LeO.ite ?_ ?_
   | refine LeO.bind ?_ (fun _ => ?_)
theorem ref04_Get.calls (k : Nat) (A0 : Option Addr) (c0 : Nat) (l0 : List (S60)) (a1 : Int) (r1 : Int) (r2 : Int) (r3 : ByteArray) (r4 : Bool) (w : World) (hr0 : Kd.C k60 w A0 l0.length l0) (hc0 : l0.length ≤ c0) (h : ref04_Get.f k l0 a1 = some (r1, r2, r3, r4)) :
  Calls Try.prog 64 #[.slice A0 l0.length c0, .int .i64 a1] w fun e w' => e = .returned (.tuple #[.agg #[.int .i64 r1, .int .i64 r2, .string r3], .bool r4]) ∧ Below w.heap.size w w' := by
 have hu60 := Try.underlying60; have HR0 := Zq_.mk hr0; have HC0 := Zq_.mk hc0; clear hr0 hc0; have HB := Zq_.mk (Below.refl w.heap.size w); have H : (ref04_Get.l0 k l0 a1 0) = some (r1, r2, r3, r4) := h; clear h; have H' := Zq_.mk H; clear H
 go_enter Try.func64, Try.ntmps64
 go_wp2_with (first | ((with_reducible refine qt_ (N := 4) rfl ?_); refine qr_ ?hg (N := 4) ?hd (cs := #[.int .i64 0, .int .i64 0, .string (⟨#[]⟩ : ByteArray)]) (t := 60) ?hr ?_; (case hd => rfl); (case hg => rfl); (case hr => first | (go_simp; done) | (go_simp; rfl)); intro gb101 hg w3 hbox hb; have BK101 := Zq_.mk (hbox); have GW101 := Zq_.mk ((by rw [hg]; exact (qi_ (hB_ HB)) : w.heap.size ≤ gb101)); have GE101 := Zq_.mk ((by rw [hg]; exact (qi_ (hB_ HB)) : w.heap.size ≤ gb101)); replace HB := Zq_.mk (qm_ (hB_ HB) hb); clear hb hbox hg))
 go_loopg [6] k (fun kq v6 w' => ∃ (x6_1 : Int) (x102000_1 : Int) (x102001_1 : Int) (x102002_1 : ByteArray), v6 = .int .i64 x6_1 ∧ Zq_ (ref04_Get.l0 kq l0 a1 x6_1 = some (r1, r2, r3, r4)) ∧ Zq_ (kq ≤ k) ∧ Zq_ (w'.heap[gb101]? = some (.cells #[.int .i64 x102000_1, .int .i64 x102001_1, .string x102002_1] 60 (0, 0))) ∧ Zq_ (Below w.heap.size w w'))
 case atStart => exact ⟨(0), (0), (0), ((⟨#[]⟩ : ByteArray)), (by first | rfl | (simp; done) | (simp [*]; done)), H', ⟨Nat.le_refl _⟩, ⟨by (with_reducible repeat (first | refine qg_ ?_ _ | refine qj_ ?_ | refine qd_ ?_ _)); exact BK101.out⟩, ⟨by exact hSet_ HB⟩⟩
 case round =>
  clear H'
  try clear p2
  obtain ⟨x6_1, x102000_1, x102001_1, x102002_1, rfl, HA, HK1, BK101, HB⟩ := hrel
  cases gk with
  | zero => exact absurd HA.out (by simp [ref04_Get.l0])
  | succ k1 =>
   have H := HA.out; clear HA; simp only [ref04_Get.l0] at H
   by_cases c4 : x6_1 < (l0.length : Int)
   ·rw [if_pos c4] at H; have c4b0 : decide (x6_1 < (l0.length : Int)) = true := decide_eq_true c4; clear c4
    by_cases c5 : 0 ≤ x6_1
    ·rw [if_pos c5] at H; have c5b0 : decide (0 ≤ x6_1) = true := decide_eq_true c5; clear c5
     by_cases c6 : ((rd_T60 l0 x6_1).f0) = a1
     ·rw [if_pos c6] at H; have c6b0 : (((rd_T60 l0 x6_1).f0) == a1) = true := beq_iff_eq.mpr c6; have c6b1 : (((rd_T60 l0 x6_1).f0) != a1) = false := bne_eq_false_iff_eq.mpr c6; clear c6; simp only [Option.some.injEq, Prod.mk.injEq] at H; obtain ⟨rfl, rfl, rfl, rfl⟩ := H; have p102 : 0 ≤ (x6_1 : Int) := dA_; have q102 : x6_1 < (l0.length : Int) := dA_; obtain ⟨ad102, e102, hx102_0, hx102_1, hx102_2⟩ := at_T60 HR0.out x6_1 p102 q102; cases e102; replace hx102_0 := hC_ HB hx102_0; replace hx102_1 := hC_ HB hx102_1; replace hx102_2 := hC_ HB hx102_2; replace p102 := eq_true p102; replace q102 := eq_true q102; have p103 : 0 ≤ (x6_1 : Int) := dA_; have q103 : x6_1 < (l0.length : Int) := dA_; obtain ⟨ad103, e103, hx103_0, hx103_1, hx103_2⟩ := at_T60 HR0.out x6_1 p103 q103; obtain rfl : ad102 = ad103 := (by injection e103); replace hx103_0 := hC_ HB hx103_0; replace hx103_1 := hC_ HB hx103_1; replace hx103_2 := hC_ HB hx103_2; replace p103 := eq_true p103; replace q103 := eq_true q103; have hcz7_0 : wr.cell? ⟨gb101, 0, none⟩ = some (.int .i64 x102000_1) := (qh_ BK101.out 0).trans rfl; have hcz7_1 : wr.cell? ⟨gb101, 1, none⟩ = some (.int .i64 x102001_1) := (qh_ BK101.out 1).trans rfl; have hcz7_2 : wr.cell? ⟨gb101, 2, none⟩ = some (.string x102002_1) := (qh_ BK101.out 2).trans rfl; have hfz7_0 := qe_ BK101.out 0; have hfz7_1 := qe_ BK101.out 1; have hfz7_2 := qe_ BK101.out 2
      go_wp2
      refine bodyPost_ret (results_ct rfl _ _ gb101 60 #[.int .i64 ((rd_T60 l0 x6_1).f0), .int .i64 ((rd_T60 l0 x6_1).f1), .string ((rd_T60 l0 x6_1).f2)] (0, 0) _ rfl (by (with_reducible repeat (first | refine qg_ ?_ _ | refine qj_ ?_ | refine qd_ ?_ _)); refine qy_ (cs := #[.int .i64 ((rd_T60 l0 x6_1).f0), .int .i64 ((rd_T60 l0 x6_1).f1), .string x102002_1]) ?_ 2 _ rfl; (with_reducible repeat (first | refine qg_ ?_ _ | refine qj_ ?_ | refine qd_ ?_ _)); refine qy_ (cs := #[.int .i64 ((rd_T60 l0 x6_1).f0), .int .i64 x102001_1, .string x102002_1]) ?_ 1 _ rfl; (with_reducible repeat (first | refine qg_ ?_ _ | refine qj_ ?_ | refine qd_ ?_ _)); refine qy_ (cs := #[.int .i64 x102000_1, .int .i64 x102001_1, .string x102002_1]) ?_ 0 _ rfl; (with_reducible repeat (first | refine qg_ ?_ _ | refine qj_ ?_ | refine qd_ ?_ _)); exact BK101.out) Try.underlying60 rfl (by kernel_rfl)) rfl ?_; exact ⟨by first | rfl | (simp [errW_none, errW_some] <;> rfl) | (simp [*, errW_none, errW_some] <;> rfl), by exact hSet_ HB⟩
     ·rw [if_neg c6] at H; have c6b0 : (((rd_T60 l0 x6_1).f0) == a1) = false := beq_eq_false_iff_ne.mpr c6; have c6b1 : (((rd_T60 l0 x6_1).f0) != a1) = true := bne_iff_ne.mpr c6; have H' := Zq_.mk H; clear H; have p102 : 0 ≤ (x6_1 : Int) := dA_; have q102 : x6_1 < (l0.length : Int) := dA_; obtain ⟨ad102, e102, hx102_0, hx102_1, hx102_2⟩ := at_T60 HR0.out x6_1 p102 q102; cases e102; replace hx102_0 := hC_ HB hx102_0; replace hx102_1 := hC_ HB hx102_1; replace hx102_2 := hC_ HB hx102_2; replace p102 := eq_true p102; replace q102 := eq_true q102
      go_wp2
      go_roundg k1
      case measure => have := HK1.out; omega
      case rel => exact ⟨(wrap64 (x6_1 + 1)), (x102000_1), (x102001_1), (x102002_1), (by first | rfl | (simp; done) | (simp [*]; done)), H', ⟨by have := HK1.out; omega⟩, ⟨by (with_reducible repeat (first | refine qg_ ?_ _ | refine qj_ ?_ | refine qd_ ?_ _)); exact BK101.out⟩, ⟨by exact hSet_ HB⟩⟩
    ·rw [if_neg c5] at H; exact absurd H (by simp)
   ·rw [if_neg c4] at H; have c4b0 : decide (x6_1 < (l0.length : Int)) = false := decide_eq_false c4; clear c4; simp only [Option.some.injEq, Prod.mk.injEq] at H; obtain ⟨rfl, rfl, rfl, rfl⟩ := H; have hcz8_0 : wr.cell? ⟨gb101, 0, none⟩ = some (.int .i64 x102000_1) := (qh_ BK101.out 0).trans rfl; have hcz8_1 : wr.cell? ⟨gb101, 1, none⟩ = some (.int .i64 x102001_1) := (qh_ BK101.out 1).trans rfl; have hcz8_2 : wr.cell? ⟨gb101, 2, none⟩ = some (.string x102002_1) := (qh_ BK101.out 2).trans rfl; have hfz8_0 := qe_ BK101.out 0; have hfz8_1 := qe_ BK101.out 1; have hfz8_2 := qe_ BK101.out 2
    go_wp2
    refine bodyPost_ret (results_ct rfl _ _ gb101 60 #[.int .i64 0, .int .i64 0, .string (⟨#[]⟩ : ByteArray)] (0, 0) _ rfl (by (with_reducible repeat (first | refine qg_ ?_ _ | refine qj_ ?_ | refine qd_ ?_ _)); refine qy_ (cs := #[.int .i64 0, .int .i64 0, .string x102002_1]) ?_ 2 _ rfl; (with_reducible repeat (first | refine qg_ ?_ _ | refine qj_ ?_ | refine qd_ ?_ _)); refine qy_ (cs := #[.int .i64 0, .int .i64 x102001_1, .string x102002_1]) ?_ 1 _ rfl; (with_reducible repeat (first | refine qg_ ?_ _ | refine qj_ ?_ | refine qd_ ?_ _)); refine qy_ (cs := #[.int .i64 x102000_1, .int .i64 x102001_1, .string x102002_1]) ?_ 0 _ rfl; (with_reducible repeat (first | refine qg_ ?_ _ | refine qj_ ?_ | refine qd_ ?_ _)); exact BK101.out) Try.underlying60 rfl (by kernel_rfl)) rfl ?_; exact ⟨by first | rfl | (simp [errW_none, errW_some] <;> rfl) | (simp [*, errW_none, errW_some] <;> rfl), by exact hSet_ HB⟩
end Go.Proofs.Ythpbggknfhchlaa.P

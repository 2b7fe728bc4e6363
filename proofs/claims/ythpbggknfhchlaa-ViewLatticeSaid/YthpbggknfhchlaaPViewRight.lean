/- What this function of the program comes to, and that the machine's call does it. No condition. -/
import Derived.Test.YthpbggknfhchlaaPStateRight
namespace Go.Proofs.Ythpbggknfhchlaa.P
set_option maxHeartbeats 8000000
set_option maxRecDepth 100000
open Go.RowKit Go.Proofs.YthpbggknfhchlaaW.PrintWords Go.Proofs.YthpbggknfhchlaaW.PrintLast Go.Proofs.YthpbggknfhchlaaW.PrintMore
attribute [local go_sem] max2_int min2_int max_two min_two ve_ vd_ max_four min_four Go.Proofs.YthpbggknfhchlaaW.Hw.string_gtr
set_option linter.unusedVariables false
set_option linter.unusedSimpArgs false
def view_Right.l0 : Nat → Int → List (S41) → Int → Int → Option (Bool)
 | 0, _, _, _, _ => none
 | k + 1, x3, x6, x7, x8 => if x8 < x7 then (if 0 ≤ x8 then (if x8 < (x6.length : Int) then (if ((rd_T41 x6 x8).f0) ≤ x3 then (some false) else (if ((rd_T41 x6 x8).f0) ≥ 8 then (some false) else ((state_Right.f k ((rd_T41 x6 x8).f1.f0) ((rd_T41 x6 x8).f1.f1) ((rd_T41 x6 x8).f1.f2)).bind fun t103 => (if t103 = true then (view_Right.l0 k ((rd_T41 x6 x8).f0) x6 x7 (wrap64 (x8 + 1))) else (some false))))) else (none)) else (none)) else (some true)
def view_Right.f (k : Nat) (l0 : List (S41)) : Option (Bool) := view_Right.l0 k (-1) l0 (l0.length : Int) 0
theorem view_Right.mono_l : ∀ k, (∀ y0 y1 y2 y3, LeO (view_Right.l0 k y0 y1 y2 y3) (view_Right.l0 (k + 1) y0 y1 y2 y3))
 | 0 => fun _ _ _ _ r h => by simp [view_Right.l0] at h
 | k + 1 => by
  have ih0 := view_Right.mono_l k
  ·intro y0 y1 y2 y3
   unfold view_Right.l0
   repeat' first
   | (with_reducible exact ih0 _ _ _ _)
   | (with_reducible exact state_Right.mono _ _ _ _)
   | (with_reducible exact LeO.refl _)
   | (with_reducible exact LeO.none _)
   | (with_reducible refine LeO.ite ?_ ?_)
   | (with_reducible refine LeO.bind ?_ (fun _ => ?_))
   | exact ih0 _ _ _ _
   | exact state_Right.mono _ _ _ _
   | exact LeO.none _
   | refine LeO.ite ?_ ?_
   | refine LeO.bind ?_ (fun _ => ?_)
theorem view_Right.mono : ∀ a0 k, LeO (view_Right.f k a0) (view_Right.f (k + 1) a0) := by
 intro a0 k; have ih0 := view_Right.mono_l k
 unfold view_Right.f
 repeat' first
   | (with_reducible exact ih0 _ _ _ _)
   | (with_reducible exact state_Right.mono _ _ _ _)
   | (with_reducible exact LeO.refl _)
   | (with_reducible exact LeO.none _)
   | (with_reducible refine LeO.ite ?_ ?_)
   | (with_reducible refine LeO.bind ?_ (fun _ => ?_))
   | exact ih0 _ _ _ _
   | exact state_Right.mono _ _ _ _
   | exact LeO.none _
   | refine LeO.ite ?_ ?_
   | refine LeO.bind ?_ (fun _ => ?_)
theorem view_Right.calls (k : Nat) (A0 : Option Addr) (c0 : Nat) (l0 : List (S41)) (r : Bool) (w : World) (hr0 : Kd.C k41 w A0 l0.length l0) (hc0 : l0.length ≤ c0) (h : view_Right.f k l0 = some r) :
  Calls Try.prog 19 #[.slice A0 l0.length c0] w fun e w' => e = .returned (.bool r) ∧ Below w.heap.size w w' := by
 have hu41 := Try.underlying41; have hu25 := Try.underlying25; have HR0 := Zq_.mk hr0; have HC0 := Zq_.mk hc0; clear hr0 hc0; have HB := Zq_.mk (Below.refl w.heap.size w); have H : (view_Right.l0 k (-1) l0 (l0.length : Int) 0) = some r := h; clear h; have H' := Zq_.mk H; clear H
 go_enter Try.func19, Try.ntmps19
 go_wp2
 go_loopg [3, 8] k (fun kq v3 v8 w' => ∃ (x3_1 : Int) (x8_1 : Int), v3 = .int .i64 x3_1 ∧ v8 = .int .i64 x8_1 ∧ Zq_ (view_Right.l0 kq x3_1 l0 (l0.length : Int) x8_1 = some r) ∧ Zq_ (kq ≤ k) ∧ Zq_ (Below w.heap.size w w'))
 case atStart => exact ⟨((-1)), (0), (by first | rfl | (simp; done) | (simp [*]; done)), (by first | rfl | (simp; done) | (simp [*]; done)), H', ⟨Nat.le_refl _⟩, ⟨hB_ HB⟩⟩
 case round =>
  clear H'
  try clear c1
  obtain ⟨x3_1, x8_1, rfl, rfl, HA, HK1, HB⟩ := hrel
  cases gk with
  | zero => exact absurd HA.out (by simp [view_Right.l0])
  | succ k1 =>
   have H := HA.out; clear HA; simp only [view_Right.l0] at H
   by_cases c2 : x8_1 < (l0.length : Int)
   ·rw [if_pos c2] at H; have c2b0 : decide (x8_1 < (l0.length : Int)) = true := decide_eq_true c2; clear c2
    by_cases c3 : 0 ≤ x8_1
    ·rw [if_pos c3] at H; have c3b0 : decide (0 ≤ x8_1) = true := decide_eq_true c3; clear c3
     by_cases c4 : x8_1 < (l0.length : Int)
     ·rw [if_pos c4] at H; have c4b0 : decide (x8_1 < (l0.length : Int)) = true := decide_eq_true c4; clear c4
      by_cases c5 : ((rd_T41 l0 x8_1).f0) ≤ x3_1
      ·rw [if_pos c5] at H; have c5b0 : decide (((rd_T41 l0 x8_1).f0) ≤ x3_1) = true := decide_eq_true c5; clear c5; obtain rfl := Option.some.inj H; have p101 : 0 ≤ (x8_1 : Int) := dA_; have q101 : x8_1 < (l0.length : Int) := dA_; obtain ⟨ad101, A101_3, c101_3, e101, hx101_0, hx101_1, hx101_2, hx101_3, hl101_3, hi101_3⟩ := at_T41 HR0.out x8_1 p101 q101; cases e101; replace hx101_0 := hC_ HB hx101_0; replace hx101_1 := hC_ HB hx101_1; replace hx101_2 := hC_ HB hx101_2; replace hx101_3 := hC_ HB hx101_3; have HR101_3 := Zq_.mk hi101_3; have HC101_3 := Zq_.mk hl101_3; clear hi101_3 hl101_3; replace p101 := eq_true p101; replace q101 := eq_true q101
       go_wp2_with (first | ((with_reducible refine qt_ (N := 5) rfl ?_); refine qr_ ?hg (N := 5) ?hd (cs := #[.int .i64 0, .int .i64 0, .int .i64 0, .slice none 0 0]) (t := 41) ?hr ?_; (case hd => rfl); (case hg => rfl); (case hr => first | (go_simp; done) | (go_simp; rfl)); intro gb102 hg w6 hbox hb; have BK102 := Zq_.mk (hbox); have GW102 := Zq_.mk ((by rw [hg]; exact (qi_ (hB_ HB)) : w.heap.size ≤ gb102)); have GE102 := Zq_.mk ((by rw [hg]; exact (qi_ (hB_ HB)) : w.heap.size ≤ gb102)); replace HB := Zq_.mk (qm_ (hB_ HB) hb); clear hb hbox hg; have hcz7_0 : w6.cell? ⟨gb102, 0, none⟩ = some (.int .i64 0) := (qh_ BK102.out 0).trans rfl; have hcz7_1 : w6.cell? ⟨gb102, 1, none⟩ = some (.int .i64 0) := (qh_ BK102.out 1).trans rfl; have hcz7_2 : w6.cell? ⟨gb102, 2, none⟩ = some (.int .i64 0) := (qh_ BK102.out 2).trans rfl; have hcz7_3 : w6.cell? ⟨gb102, 3, none⟩ = some (.slice none 0 0) := (qh_ BK102.out 3).trans rfl; have hfz7_0 := qe_ BK102.out 0; have hfz7_1 := qe_ BK102.out 1; have hfz7_2 := qe_ BK102.out 2; have hfz7_3 := qe_ BK102.out 3))
       go_ret
       exact ⟨by first | rfl | (simp [errW_none, errW_some] <;> rfl) | (simp [*, errW_none, errW_some] <;> rfl), by exact hSet_ HB⟩
      ·rw [if_neg c5] at H; have c5b0 : decide (((rd_T41 l0 x8_1).f0) ≤ x3_1) = false := decide_eq_false c5; clear c5
       by_cases c8 : ((rd_T41 l0 x8_1).f0) ≥ 8
       ·rw [if_pos c8] at H; have c8b0 : decide (8 ≤ ((rd_T41 l0 x8_1).f0)) = true := decide_eq_true c8; clear c8; obtain rfl := Option.some.inj H; have p101 : 0 ≤ (x8_1 : Int) := dA_; have q101 : x8_1 < (l0.length : Int) := dA_; obtain ⟨ad101, A101_3, c101_3, e101, hx101_0, hx101_1, hx101_2, hx101_3, hl101_3, hi101_3⟩ := at_T41 HR0.out x8_1 p101 q101; cases e101; replace hx101_0 := hC_ HB hx101_0; replace hx101_1 := hC_ HB hx101_1; replace hx101_2 := hC_ HB hx101_2; replace hx101_3 := hC_ HB hx101_3; have HR101_3 := Zq_.mk hi101_3; have HC101_3 := Zq_.mk hl101_3; clear hi101_3 hl101_3; replace p101 := eq_true p101; replace q101 := eq_true q101
        go_wp2_with (first | ((with_reducible refine qt_ (N := 5) rfl ?_); refine qr_ ?hg (N := 5) ?hd (cs := #[.int .i64 0, .int .i64 0, .int .i64 0, .slice none 0 0]) (t := 41) ?hr ?_; (case hd => rfl); (case hg => rfl); (case hr => first | (go_simp; done) | (go_simp; rfl)); intro gb102 hg w9 hbox hb; have BK102 := Zq_.mk (hbox); have GW102 := Zq_.mk ((by rw [hg]; exact (qi_ (hB_ HB)) : w.heap.size ≤ gb102)); have GE102 := Zq_.mk ((by rw [hg]; exact (qi_ (hB_ HB)) : w.heap.size ≤ gb102)); replace HB := Zq_.mk (qm_ (hB_ HB) hb); clear hb hbox hg; have hcz10_0 : w9.cell? ⟨gb102, 0, none⟩ = some (.int .i64 0) := (qh_ BK102.out 0).trans rfl; have hcz10_1 : w9.cell? ⟨gb102, 1, none⟩ = some (.int .i64 0) := (qh_ BK102.out 1).trans rfl; have hcz10_2 : w9.cell? ⟨gb102, 2, none⟩ = some (.int .i64 0) := (qh_ BK102.out 2).trans rfl; have hcz10_3 : w9.cell? ⟨gb102, 3, none⟩ = some (.slice none 0 0) := (qh_ BK102.out 3).trans rfl; have hfz10_0 := qe_ BK102.out 0; have hfz10_1 := qe_ BK102.out 1; have hfz10_2 := qe_ BK102.out 2; have hfz10_3 := qe_ BK102.out 3))
        go_ret
        exact ⟨by first | rfl | (simp [errW_none, errW_some] <;> rfl) | (simp [*, errW_none, errW_some] <;> rfl), by exact hSet_ HB⟩
       ·rw [if_neg c8] at H; have c8b0 : decide (8 ≤ ((rd_T41 l0 x8_1).f0)) = false := decide_eq_false c8; clear c8; replace H := ob_ H; obtain ⟨t103, A110, H⟩ := H; replace H : (if t103 = true then (view_Right.l0 k1 ((rd_T41 l0 x8_1).f0) l0 (l0.length : Int) (wrap64 (x8_1 + 1))) else (some false)) = some r := H; have A11 := Zq_.mk A110; clear A110
        by_cases c12 : t103 = true
        ·subst c12
         have H1 : (view_Right.l0 k1 ((rd_T41 l0 x8_1).f0) l0 (l0.length : Int) (wrap64 (x8_1 + 1))) = some r := by rw [if_pos rfl] at H; exact H
         clear H; have H := H1; clear H1; have H' := Zq_.mk H; clear H; have p101 : 0 ≤ (x8_1 : Int) := dA_; have q101 : x8_1 < (l0.length : Int) := dA_; obtain ⟨ad101, A101_3, c101_3, e101, hx101_0, hx101_1, hx101_2, hx101_3, hl101_3, hi101_3⟩ := at_T41 HR0.out x8_1 p101 q101; cases e101; replace hx101_0 := hC_ HB hx101_0; replace hx101_1 := hC_ HB hx101_1; replace hx101_2 := hC_ HB hx101_2; replace hx101_3 := hC_ HB hx101_3; have HR101_3 := Zq_.mk hi101_3; have HC101_3 := Zq_.mk hl101_3; clear hi101_3 hl101_3; replace p101 := eq_true p101; replace q101 := eq_true q101
         go_wp2_with (first | ((with_reducible refine qt_ (N := 5) rfl ?_); refine qr_ ?hg (N := 5) ?hd (cs := #[.int .i64 0, .int .i64 0, .int .i64 0, .slice none 0 0]) (t := 41) ?hr ?_; (case hd => rfl); (case hg => rfl); (case hr => first | (go_simp; done) | (go_simp; rfl)); intro gb102 hg w13 hbox hb; have BK102 := Zq_.mk (hbox); have GW102 := Zq_.mk ((by rw [hg]; exact (qi_ (hB_ HB)) : w.heap.size ≤ gb102)); have GE102 := Zq_.mk ((by rw [hg]; exact (qi_ (hB_ HB)) : w.heap.size ≤ gb102)); replace HB := Zq_.mk (qm_ (hB_ HB) hb); clear hb hbox hg; have hcz14_0 : w13.cell? ⟨gb102, 0, none⟩ = some (.int .i64 0) := (qh_ BK102.out 0).trans rfl; have hcz14_1 : w13.cell? ⟨gb102, 1, none⟩ = some (.int .i64 0) := (qh_ BK102.out 1).trans rfl; have hcz14_2 : w13.cell? ⟨gb102, 2, none⟩ = some (.int .i64 0) := (qh_ BK102.out 2).trans rfl; have hcz14_3 : w13.cell? ⟨gb102, 3, none⟩ = some (.slice none 0 0) := (qh_ BK102.out 3).trans rfl; have hfz14_0 := qe_ BK102.out 0; have hfz14_1 := qe_ BK102.out 1; have hfz14_2 := qe_ BK102.out 2; have hfz14_3 := qe_ BK102.out 3) | (go_at_call 41; (with_reducible refine (state_Right.calls k1 ((rd_T41 l0 x8_1).f1.f0) ((rd_T41 l0 x8_1).f1.f1) _ _ ((rd_T41 l0 x8_1).f1.f2) true _ ?side1 ?side2 A11.out).mono ?_); (case side1 => exact Kd.vb_ HR101_3.out (by exact hSet_ HB)); (case side2 => exact HC101_3.out); rintro e w15 ⟨rfl, hb⟩; replace BK102 := Zq_.mk (qs_ (g := gb102) (o := .cells #[.int .i64 ((rd_T41 l0 x8_1).f0), .int .i64 ((rd_T41 l0 x8_1).f1.f0), .int .i64 ((rd_T41 l0 x8_1).f1.f1), .slice A101_3 ((rd_T41 l0 x8_1).f1.f2).length c101_3] 41 (0, 0)) (by (with_reducible repeat (first | refine qg_ ?_ _ | refine qj_ ?_ | refine qd_ ?_ _)); refine qy_ (cs := #[.int .i64 ((rd_T41 l0 x8_1).f0), .int .i64 ((rd_T41 l0 x8_1).f1.f0), .int .i64 ((rd_T41 l0 x8_1).f1.f1), .slice none 0 0]) ?_ 3 _ rfl; (with_reducible repeat (first | refine qg_ ?_ _ | refine qj_ ?_ | refine qd_ ?_ _)); refine qy_ (cs := #[.int .i64 ((rd_T41 l0 x8_1).f0), .int .i64 ((rd_T41 l0 x8_1).f1.f0), .int .i64 0, .slice none 0 0]) ?_ 2 _ rfl; (with_reducible repeat (first | refine qg_ ?_ _ | refine qj_ ?_ | refine qd_ ?_ _)); refine qy_ (cs := #[.int .i64 ((rd_T41 l0 x8_1).f0), .int .i64 0, .int .i64 0, .slice none 0 0]) ?_ 1 _ rfl; (with_reducible repeat (first | refine qg_ ?_ _ | refine qj_ ?_ | refine qd_ ?_ _)); refine qy_ (cs := #[.int .i64 0, .int .i64 0, .int .i64 0, .slice none 0 0]) ?_ 0 _ rfl; (with_reducible repeat (first | refine qg_ ?_ _ | refine qj_ ?_ | refine qd_ ?_ _)); exact BK102.out) hb); replace HB := Zq_.mk (qm_ (by exact hSet_ HB) hb); (try clear hb); have hcz16_0 : w15.cell? ⟨gb102, 0, none⟩ = some (.int .i64 ((rd_T41 l0 x8_1).f0)) := (qh_ BK102.out 0).trans rfl; have hcz16_1 : w15.cell? ⟨gb102, 1, none⟩ = some (.int .i64 ((rd_T41 l0 x8_1).f1.f0)) := (qh_ BK102.out 1).trans rfl; have hcz16_2 : w15.cell? ⟨gb102, 2, none⟩ = some (.int .i64 ((rd_T41 l0 x8_1).f1.f1)) := (qh_ BK102.out 2).trans rfl; have hcz16_3 : w15.cell? ⟨gb102, 3, none⟩ = some (.slice A101_3 ((rd_T41 l0 x8_1).f1.f2).length c101_3) := (qh_ BK102.out 3).trans rfl; have hfz16_0 := qe_ BK102.out 0; have hfz16_1 := qe_ BK102.out 1; have hfz16_2 := qe_ BK102.out 2; have hfz16_3 := qe_ BK102.out 3))
         go_roundg k1
         case measure => have := HK1.out; omega
         case rel => exact ⟨((rd_T41 l0 x8_1).f0), (wrap64 (x8_1 + 1)), (by first | rfl | (simp; done) | (simp [*]; done)), (by first | rfl | (simp; done) | (simp [*]; done)), H', ⟨by have := HK1.out; omega⟩, ⟨by exact hSet_ HB⟩⟩
        ·replace c12 := Bool.eq_false_iff.mpr c12; subst c12
         have H1 : (some false) = some r := by rw [if_neg (show ¬ (false = true) by decide)] at H; exact H
         clear H; have H := H1; clear H1; obtain rfl := Option.some.inj H; have p101 : 0 ≤ (x8_1 : Int) := dA_; have q101 : x8_1 < (l0.length : Int) := dA_; obtain ⟨ad101, A101_3, c101_3, e101, hx101_0, hx101_1, hx101_2, hx101_3, hl101_3, hi101_3⟩ := at_T41 HR0.out x8_1 p101 q101; cases e101; replace hx101_0 := hC_ HB hx101_0; replace hx101_1 := hC_ HB hx101_1; replace hx101_2 := hC_ HB hx101_2; replace hx101_3 := hC_ HB hx101_3; have HR101_3 := Zq_.mk hi101_3; have HC101_3 := Zq_.mk hl101_3; clear hi101_3 hl101_3; replace p101 := eq_true p101; replace q101 := eq_true q101
         go_wp2_with (first | ((with_reducible refine qt_ (N := 5) rfl ?_); refine qr_ ?hg (N := 5) ?hd (cs := #[.int .i64 0, .int .i64 0, .int .i64 0, .slice none 0 0]) (t := 41) ?hr ?_; (case hd => rfl); (case hg => rfl); (case hr => first | (go_simp; done) | (go_simp; rfl)); intro gb102 hg w17 hbox hb; have BK102 := Zq_.mk (hbox); have GW102 := Zq_.mk ((by rw [hg]; exact (qi_ (hB_ HB)) : w.heap.size ≤ gb102)); have GE102 := Zq_.mk ((by rw [hg]; exact (qi_ (hB_ HB)) : w.heap.size ≤ gb102)); replace HB := Zq_.mk (qm_ (hB_ HB) hb); clear hb hbox hg; have hcz18_0 : w17.cell? ⟨gb102, 0, none⟩ = some (.int .i64 0) := (qh_ BK102.out 0).trans rfl; have hcz18_1 : w17.cell? ⟨gb102, 1, none⟩ = some (.int .i64 0) := (qh_ BK102.out 1).trans rfl; have hcz18_2 : w17.cell? ⟨gb102, 2, none⟩ = some (.int .i64 0) := (qh_ BK102.out 2).trans rfl; have hcz18_3 : w17.cell? ⟨gb102, 3, none⟩ = some (.slice none 0 0) := (qh_ BK102.out 3).trans rfl; have hfz18_0 := qe_ BK102.out 0; have hfz18_1 := qe_ BK102.out 1; have hfz18_2 := qe_ BK102.out 2; have hfz18_3 := qe_ BK102.out 3) | (go_at_call 41; (with_reducible refine (state_Right.calls k1 ((rd_T41 l0 x8_1).f1.f0) ((rd_T41 l0 x8_1).f1.f1) _ _ ((rd_T41 l0 x8_1).f1.f2) false _ ?side1 ?side2 A11.out).mono ?_); (case side1 => exact Kd.vb_ HR101_3.out (by exact hSet_ HB)); (case side2 => exact HC101_3.out); rintro e w19 ⟨rfl, hb⟩; replace BK102 := Zq_.mk (qs_ (g := gb102) (o := .cells #[.int .i64 ((rd_T41 l0 x8_1).f0), .int .i64 ((rd_T41 l0 x8_1).f1.f0), .int .i64 ((rd_T41 l0 x8_1).f1.f1), .slice A101_3 ((rd_T41 l0 x8_1).f1.f2).length c101_3] 41 (0, 0)) (by (with_reducible repeat (first | refine qg_ ?_ _ | refine qj_ ?_ | refine qd_ ?_ _)); refine qy_ (cs := #[.int .i64 ((rd_T41 l0 x8_1).f0), .int .i64 ((rd_T41 l0 x8_1).f1.f0), .int .i64 ((rd_T41 l0 x8_1).f1.f1), .slice none 0 0]) ?_ 3 _ rfl; (with_reducible repeat (first | refine qg_ ?_ _ | refine qj_ ?_ | refine qd_ ?_ _)); refine qy_ (cs := #[.int .i64 ((rd_T41 l0 x8_1).f0), .int .i64 ((rd_T41 l0 x8_1).f1.f0), .int .i64 0, .slice none 0 0]) ?_ 2 _ rfl; (with_reducible repeat (first | refine qg_ ?_ _ | refine qj_ ?_ | refine qd_ ?_ _)); refine qy_ (cs := #[.int .i64 ((rd_T41 l0 x8_1).f0), .int .i64 0, .int .i64 0, .slice none 0 0]) ?_ 1 _ rfl; (with_reducible repeat (first | refine qg_ ?_ _ | refine qj_ ?_ | refine qd_ ?_ _)); refine qy_ (cs := #[.int .i64 0, .int .i64 0, .int .i64 0, .slice none 0 0]) ?_ 0 _ rfl; (with_reducible repeat (first | refine qg_ ?_ _ | refine qj_ ?_ | refine qd_ ?_ _)); exact BK102.out) hb); replace HB := Zq_.mk (qm_ (by exact hSet_ HB) hb); (try clear hb)))
         go_ret
         exact ⟨by first | rfl | (simp [errW_none, errW_some] <;> rfl) | (simp [*, errW_none, errW_some] <;> rfl), by exact hSet_ HB⟩
     ·rw [if_neg c4] at H; exact absurd H (by simp)
    ·rw [if_neg c3] at H; exact absurd H (by simp)
   ·rw [if_neg c2] at H; have c2b0 : decide (x8_1 < (l0.length : Int)) = false := decide_eq_false c2; clear c2; obtain rfl := Option.some.inj H
    go_wp2
    go_ret
    exact ⟨by first | rfl | (simp [errW_none, errW_some] <;> rfl) | (simp [*, errW_none, errW_some] <;> rfl), hB_ HB⟩
end Go.Proofs.Ythpbggknfhchlaa.P

/- What this function of the program comes to, and that the machine's call does it. No condition. -/
import Derived.Test.YthpbggknfhchlaaPRef04Right
namespace Go.Proofs.Ythpbggknfhchlaa.P
set_option maxHeartbeats 8000000
set_option maxRecDepth 100000
open Go.RowKit Go.Proofs.YthpbggknfhchlaaW.PrintWords Go.Proofs.YthpbggknfhchlaaW.PrintLast Go.Proofs.YthpbggknfhchlaaW.PrintMore
attribute [local go_sem] max2_int min2_int max_two min_two ve_ vd_ max_four min_four Go.Proofs.YthpbggknfhchlaaW.Hw.string_gtr
set_option linter.unusedVariables false
set_option linter.unusedSimpArgs false
def ref05_Right.f (k : Nat) (a0_0 : Int) (a0_1 : Int) (l0_2 : List (S60)) : Option (Bool) := if a0_0 ≥ 1 then (if a0_0 ≤ 1099511627776 then (if a0_1 ≥ 0 then (if a0_1 ≤ 1099511627776 then ((ref04_Right.f k l0_2).bind fun t102 => (some t102)) else (some false)) else (some false)) else (some false)) else (some false)
theorem ref05_Right.mono : ∀ a0 a1 a2 k, LeO (ref05_Right.f k a0 a1 a2) (ref05_Right.f (k + 1) a0 a1 a2) := by
 intro a0 a1 a2 k
 unfold ref05_Right.f
 repeat' first
   | (with_reducible exact ref04_Right.mono _ _)
   | (with_reducible exact LeO.refl _)
   | (with_reducible exact LeO.none _)
   | (with_reducible refine LeO.ite ?_ ?_)
   | (with_reducible refine LeO.bind ?_ (fun _ => ?_))
   | exact ref04_Right.mono _ _
   | exact LeO.none _
   | refine LeO.ite ?_ ?_
   | refine LeO.bind ?_ (fun _ => ?_)
theorem ref05_Right.calls (k : Nat) (a0_0 : Int) (a0_1 : Int) (A0_2 : Option Addr) (c0_2 : Nat) (l0_2 : List (S60)) (r : Bool) (w : World) (hr0_2 : Kd.C k60 w A0_2 l0_2.length l0_2) (hc0_2 : l0_2.length ≤ c0_2) (h : ref05_Right.f k a0_0 a0_1 l0_2 = some r) :
  Calls Try.prog 12 #[.agg #[.int .i64 a0_0, .int .i64 a0_1, .slice A0_2 l0_2.length c0_2]] w fun e w' => e = .returned (.bool r) ∧ Below w.heap.size w w' := by
 have hu25 := Try.underlying25; have HR0_2 := Zq_.mk hr0_2; have HC0_2 := Zq_.mk hc0_2; clear hr0_2 hc0_2; have HB := Zq_.mk (Below.refl w.heap.size w); have H : (if a0_0 ≥ 1 then (if a0_0 ≤ 1099511627776 then (if a0_1 ≥ 0 then (if a0_1 ≤ 1099511627776 then ((ref04_Right.f k l0_2).bind fun t102 => (some t102)) else (some false)) else (some false)) else (some false)) else (some false)) = some r := h; clear h
 by_cases c2 : a0_0 ≥ 1
 ·rw [if_pos c2] at H; have c2b0 : decide (1 ≤ a0_0) = true := decide_eq_true c2; clear c2
  by_cases c3 : a0_0 ≤ 1099511627776
  ·rw [if_pos c3] at H; have c3b0 : decide (a0_0 ≤ 1099511627776) = true := decide_eq_true c3; clear c3
   by_cases c4 : a0_1 ≥ 0
   ·rw [if_pos c4] at H; have c4b0 : decide (0 ≤ a0_1) = true := decide_eq_true c4; clear c4
    by_cases c5 : a0_1 ≤ 1099511627776
    ·rw [if_pos c5] at H; have c5b0 : decide (a0_1 ≤ 1099511627776) = true := decide_eq_true c5; clear c5; replace H := ob_ H; obtain ⟨t102, A60, H⟩ := H; replace H : (some t102) = some r := H; have A6 := Zq_.mk A60; clear A60; obtain rfl := Option.some.inj H
     go_enter Try.func12, Try.ntmps12
     go_wp2_with (first | ((with_reducible refine qt_ (N := 1) rfl ?_); refine qr_ ?hg (N := 1) ?hd (cs := #[.int .i64 a0_0, .int .i64 a0_1, .slice A0_2 l0_2.length c0_2]) (t := 25) ?hr ?_; (case hd => rfl); (case hg => rfl); (case hr => first | (go_simp; done) | (go_simp; rfl)); intro gb101 hg w7 hbox hb; have BK101 := Zq_.mk (hbox); have GW101 := Zq_.mk ((by rw [hg]; exact (qi_ (hB_ HB)) : w.heap.size ≤ gb101)); have GE101 := Zq_.mk ((by rw [hg]; exact (qi_ (hB_ HB)) : w.heap.size ≤ gb101)); replace HB := Zq_.mk (qm_ (hB_ HB) hb); clear hb hbox hg; have hcz8_0 : w7.cell? ⟨gb101, 0, none⟩ = some (.int .i64 a0_0) := (qh_ BK101.out 0).trans rfl; have hcz8_1 : w7.cell? ⟨gb101, 1, none⟩ = some (.int .i64 a0_1) := (qh_ BK101.out 1).trans rfl; have hcz8_2 : w7.cell? ⟨gb101, 2, none⟩ = some (.slice A0_2 l0_2.length c0_2) := (qh_ BK101.out 2).trans rfl; have hfz8_0 := qe_ BK101.out 0; have hfz8_1 := qe_ BK101.out 1; have hfz8_2 := qe_ BK101.out 2) | (go_at_call 34; (with_reducible refine (ref04_Right.calls k _ _ l0_2 t102 _ ?side1 ?side2 A6.out).mono ?_); (case side1 => exact cX_ (Kd.vb_ HR0_2.out HB.out)); (case side2 => exact HC0_2.out); rintro e w9 ⟨rfl, hb⟩; replace BK101 := Zq_.mk (qs_ (g := gb101) (o := .cells #[.int .i64 a0_0, .int .i64 a0_1, .slice A0_2 l0_2.length c0_2] 25 (0, 0)) (by exact bK_ BK101) hb); replace HB := Zq_.mk (qm_ (by exact hSet_ HB) hb); (try clear hb)))
     go_ret
     exact ⟨by first | rfl | (simp [errW_none, errW_some] <;> rfl) | (simp [*, errW_none, errW_some] <;> rfl), by exact hSet_ HB⟩
    ·rw [if_neg c5] at H; have c5b0 : decide (a0_1 ≤ 1099511627776) = false := decide_eq_false c5; clear c5; obtain rfl := Option.some.inj H
     go_enter Try.func12, Try.ntmps12
     go_wp2_with (first | ((with_reducible refine qt_ (N := 1) rfl ?_); refine qr_ ?hg (N := 1) ?hd (cs := #[.int .i64 a0_0, .int .i64 a0_1, .slice A0_2 l0_2.length c0_2]) (t := 25) ?hr ?_; (case hd => rfl); (case hg => rfl); (case hr => first | (go_simp; done) | (go_simp; rfl)); intro gb101 hg w10 hbox hb; have BK101 := Zq_.mk (hbox); have GW101 := Zq_.mk ((by rw [hg]; exact (qi_ (hB_ HB)) : w.heap.size ≤ gb101)); have GE101 := Zq_.mk ((by rw [hg]; exact (qi_ (hB_ HB)) : w.heap.size ≤ gb101)); replace HB := Zq_.mk (qm_ (hB_ HB) hb); clear hb hbox hg; have hcz11_0 : w10.cell? ⟨gb101, 0, none⟩ = some (.int .i64 a0_0) := (qh_ BK101.out 0).trans rfl; have hcz11_1 : w10.cell? ⟨gb101, 1, none⟩ = some (.int .i64 a0_1) := (qh_ BK101.out 1).trans rfl; have hcz11_2 : w10.cell? ⟨gb101, 2, none⟩ = some (.slice A0_2 l0_2.length c0_2) := (qh_ BK101.out 2).trans rfl; have hfz11_0 := qe_ BK101.out 0; have hfz11_1 := qe_ BK101.out 1; have hfz11_2 := qe_ BK101.out 2))
     go_ret
     exact ⟨by first | rfl | (simp [errW_none, errW_some] <;> rfl) | (simp [*, errW_none, errW_some] <;> rfl), by exact hSet_ HB⟩
   ·rw [if_neg c4] at H; have c4b0 : decide (0 ≤ a0_1) = false := decide_eq_false c4; clear c4; obtain rfl := Option.some.inj H
    go_enter Try.func12, Try.ntmps12
    go_wp2_with (first | ((with_reducible refine qt_ (N := 1) rfl ?_); refine qr_ ?hg (N := 1) ?hd (cs := #[.int .i64 a0_0, .int .i64 a0_1, .slice A0_2 l0_2.length c0_2]) (t := 25) ?hr ?_; (case hd => rfl); (case hg => rfl); (case hr => first | (go_simp; done) | (go_simp; rfl)); intro gb101 hg w12 hbox hb; have BK101 := Zq_.mk (hbox); have GW101 := Zq_.mk ((by rw [hg]; exact (qi_ (hB_ HB)) : w.heap.size ≤ gb101)); have GE101 := Zq_.mk ((by rw [hg]; exact (qi_ (hB_ HB)) : w.heap.size ≤ gb101)); replace HB := Zq_.mk (qm_ (hB_ HB) hb); clear hb hbox hg; have hcz13_0 : w12.cell? ⟨gb101, 0, none⟩ = some (.int .i64 a0_0) := (qh_ BK101.out 0).trans rfl; have hcz13_1 : w12.cell? ⟨gb101, 1, none⟩ = some (.int .i64 a0_1) := (qh_ BK101.out 1).trans rfl; have hcz13_2 : w12.cell? ⟨gb101, 2, none⟩ = some (.slice A0_2 l0_2.length c0_2) := (qh_ BK101.out 2).trans rfl; have hfz13_0 := qe_ BK101.out 0; have hfz13_1 := qe_ BK101.out 1; have hfz13_2 := qe_ BK101.out 2))
    go_ret
    exact ⟨by first | rfl | (simp [errW_none, errW_some] <;> rfl) | (simp [*, errW_none, errW_some] <;> rfl), by exact hSet_ HB⟩
  ·rw [if_neg c3] at H; have c3b0 : decide (a0_0 ≤ 1099511627776) = false := decide_eq_false c3; clear c3; obtain rfl := Option.some.inj H
   go_enter Try.func12, Try.ntmps12
   go_wp2_with (first | ((with_reducible refine qt_ (N := 1) rfl ?_); refine qr_ ?hg (N := 1) ?hd (cs := #[.int .i64 a0_0, .int .i64 a0_1, .slice A0_2 l0_2.length c0_2]) (t := 25) ?hr ?_; (case hd => rfl); (case hg => rfl); (case hr => first | (go_simp; done) | (go_simp; rfl)); intro gb101 hg w14 hbox hb; have BK101 := Zq_.mk (hbox); have GW101 := Zq_.mk ((by rw [hg]; exact (qi_ (hB_ HB)) : w.heap.size ≤ gb101)); have GE101 := Zq_.mk ((by rw [hg]; exact (qi_ (hB_ HB)) : w.heap.size ≤ gb101)); replace HB := Zq_.mk (qm_ (hB_ HB) hb); clear hb hbox hg; have hcz15_0 : w14.cell? ⟨gb101, 0, none⟩ = some (.int .i64 a0_0) := (qh_ BK101.out 0).trans rfl; have hcz15_1 : w14.cell? ⟨gb101, 1, none⟩ = some (.int .i64 a0_1) := (qh_ BK101.out 1).trans rfl; have hcz15_2 : w14.cell? ⟨gb101, 2, none⟩ = some (.slice A0_2 l0_2.length c0_2) := (qh_ BK101.out 2).trans rfl; have hfz15_0 := qe_ BK101.out 0; have hfz15_1 := qe_ BK101.out 1; have hfz15_2 := qe_ BK101.out 2))
   go_ret
   exact ⟨by first | rfl | (simp [errW_none, errW_some] <;> rfl) | (simp [*, errW_none, errW_some] <;> rfl), by exact hSet_ HB⟩
 ·rw [if_neg c2] at H; have c2b0 : decide (1 ≤ a0_0) = false := decide_eq_false c2; clear c2; obtain rfl := Option.some.inj H
  go_enter Try.func12, Try.ntmps12
  go_wp2_with (first | ((with_reducible refine qt_ (N := 1) rfl ?_); refine qr_ ?hg (N := 1) ?hd (cs := #[.int .i64 a0_0, .int .i64 a0_1, .slice A0_2 l0_2.length c0_2]) (t := 25) ?hr ?_; (case hd => rfl); (case hg => rfl); (case hr => first | (go_simp; done) | (go_simp; rfl)); intro gb101 hg w16 hbox hb; have BK101 := Zq_.mk (hbox); have GW101 := Zq_.mk ((by rw [hg]; exact (qi_ (hB_ HB)) : w.heap.size ≤ gb101)); have GE101 := Zq_.mk ((by rw [hg]; exact (qi_ (hB_ HB)) : w.heap.size ≤ gb101)); replace HB := Zq_.mk (qm_ (hB_ HB) hb); clear hb hbox hg; have hcz17_0 : w16.cell? ⟨gb101, 0, none⟩ = some (.int .i64 a0_0) := (qh_ BK101.out 0).trans rfl; have hcz17_1 : w16.cell? ⟨gb101, 1, none⟩ = some (.int .i64 a0_1) := (qh_ BK101.out 1).trans rfl; have hcz17_2 : w16.cell? ⟨gb101, 2, none⟩ = some (.slice A0_2 l0_2.length c0_2) := (qh_ BK101.out 2).trans rfl; have hfz17_0 := qe_ BK101.out 0; have hfz17_1 := qe_ BK101.out 1; have hfz17_2 := qe_ BK101.out 2))
  go_ret
  exact ⟨by first | rfl | (simp [errW_none, errW_some] <;> rfl) | (simp [*, errW_none, errW_some] <;> rfl), by exact hSet_ HB⟩
end Go.Proofs.Ythpbggknfhchlaa.P

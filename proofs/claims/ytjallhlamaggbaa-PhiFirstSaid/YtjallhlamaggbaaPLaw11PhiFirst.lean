/- What this function of the program comes to, and that the machine's call does it: written by a program (wip/tool). No condition. -/
import Derived.Test.YtjallhlamaggbaaP0
import Derived.Test.YtjallhlamaggbaaPPhiFirst
import Derived.Test.YtjallhlamaggbaaPPhiSuspect
import Derived.Test.YtjallhlamaggbaaPLaw11Alive
import Derived.Test.YtjallhlamaggbaaPRef10Right
import Derived.Test.YtjallhlamaggbaaHw
namespace Go.Proofs.Ytjallhlamaggbaa.P
open Go.RowKit Go.Proofs.YtjallhlamaggbaaW.PrintWords Go.Proofs.YtjallhlamaggbaaW.PrintLast Go.Proofs.YtjallhlamaggbaaW.PrintMore
attribute [local go_sem] max2_int min2_int max_two min_two max_three min_three max_four min_four   -- for this text's walks alone
set_option linter.unusedVariables false
set_option linter.unusedSimpArgs false
/-! ### law11_PhiFirst: function 4 -/
def law11_PhiFirst.j0 : Nat → Int → Int → Bool → Int → List Int → Option (Bool)
 | 0, _, _, _, _, _ => none
 | k + 1, x1, x2, x24, x102000, x102001 => if x24 = true then (some true) else ((phi_First.f k x102000 x102001 (wrap64 (x1)) (wrap64 (x2))).bind fun bt104 => (if bt104.2 = 0 then ((phi_Suspect.f k x102000 x102001 bt104.1 (wrap64 (x1)) (wrap64 (x2))).bind fun t106 => (if t106 = true then ((phi_Suspect.f k x102000 x102001 (wrap64 (bt104.1 - 1)) (wrap64 (x1)) (wrap64 (x2))).bind fun t107 => (if t107 = true then (some false) else (if bt104.1 > x102000 then (if bt104.1 = 1099511627776 then (some true) else ((phi_Suspect.f k x102000 x102001 (wrap64 (bt104.1 + 1)) (wrap64 (x1)) (wrap64 (x2))).bind fun t108 => (some t108))) else (some false)))) else (some false))) else (some (bt104.2 == 8))))
def law11_PhiFirst.f (k : Nat) (a0_0 : Int) (l0_1 : List Int) (a1 : Int) (a2 : Int) : Option (Bool) := (law11_alive.f k).bind fun t102 => (if t102 = true then (if (l0_1.length : Int) > 16 then (law11_PhiFirst.j0 k a1 a2 true a0_0 l0_1) else ((ref10_Right.f k a0_0 l0_1).bind fun t103 => (if t103 = true then (law11_PhiFirst.j0 k a1 a2 (decide (a0_0 < 0)) a0_0 l0_1) else (law11_PhiFirst.j0 k a1 a2 true a0_0 l0_1)))) else (some false))
theorem law11_PhiFirst.mono_l : ∀ k, (∀ y0 y1 y2 y3 y4, LeO (law11_PhiFirst.j0 k y0 y1 y2 y3 y4) (law11_PhiFirst.j0 (k + 1) y0 y1 y2 y3 y4))
 | 0 => fun _ _ _ _ _ r h => by simp [law11_PhiFirst.j0] at h
 | k + 1 => by
  have ih0 := law11_PhiFirst.mono_l k
  ·intro y0 y1 y2 y3 y4
   unfold law11_PhiFirst.j0
   repeat' first
   | (with_reducible exact ih0 _ _ _ _ _)
   | (with_reducible exact law11_alive.mono _)
   | (with_reducible exact ref10_Right.mono _ _ _)
   | (with_reducible exact phi_First.mono _ _ _ _ _)
   | (with_reducible exact phi_Suspect.mono _ _ _ _ _ _)
   | (with_reducible exact LeO.refl _)
   | (with_reducible exact LeO.none _)
   | (with_reducible refine LeO.ite ?_ ?_)
   | (with_reducible refine LeO.bind ?_ (fun _ => ?_))
   | exact ih0 _ _ _ _ _
   | exact law11_alive.mono _
   | exact ref10_Right.mono _ _ _
   | exact phi_First.mono _ _ _ _ _
   | exact phi_Suspect.mono _ _ _ _ _ _
   | exact LeO.none _
   | refine LeO.ite ?_ ?_
   | refine LeO.bind ?_ (fun _ => ?_)
theorem law11_PhiFirst.mono : ∀ a0 a1 a2 a3 k, LeO (law11_PhiFirst.f k a0 a1 a2 a3) (law11_PhiFirst.f (k + 1) a0 a1 a2 a3) := by
 intro a0 a1 a2 a3 k
 have ih0 := law11_PhiFirst.mono_l k
 unfold law11_PhiFirst.f
 repeat' first
   | (with_reducible exact ih0 _ _ _ _ _)
   | (with_reducible exact law11_alive.mono _)
   | (with_reducible exact ref10_Right.mono _ _ _)
   | (with_reducible exact phi_First.mono _ _ _ _ _)
   | (with_reducible exact phi_Suspect.mono _ _ _ _ _ _)
   | (with_reducible exact LeO.refl _)
   | (with_reducible exact LeO.none _)
   | (with_reducible refine LeO.ite ?_ ?_)
   | (with_reducible refine LeO.bind ?_ (fun _ => ?_))
   | exact ih0 _ _ _ _ _
   | exact law11_alive.mono _
   | exact ref10_Right.mono _ _ _
   | exact phi_First.mono _ _ _ _ _
   | exact phi_Suspect.mono _ _ _ _ _ _
   | exact LeO.none _
   | refine LeO.ite ?_ ?_
   | refine LeO.bind ?_ (fun _ => ?_)
set_option maxHeartbeats 8000000 in
set_option maxRecDepth 100000 in
theorem law11_PhiFirst.calls (k : Nat) (a0_0 : Int) (A0_1 : Option Addr) (c0_1 : Nat) (l0_1 : List Int) (a1 : Int) (a2 : Int) (r : Bool) (w : World) (hr0_1 : Kd.C (Kd.int .i64) w A0_1 l0_1.length l0_1) (hc0_1 : l0_1.length ≤ c0_1) (h : law11_PhiFirst.f k a0_0 l0_1 a1 a2 = some r) :
  Calls Try.prog 4 #[.agg #[.int .i64 a0_0, .slice A0_1 l0_1.length c0_1], .int .u16 a1, .int .u16 a2] w fun e w' => e = .returned (.bool r) ∧ Below w.heap.size w w' := by
 have hu24 := Try.underlying24
 have HR0_1 := Aside0.mk hr0_1
 have HC0_1 := Aside0.mk hc0_1
 clear hr0_1 hc0_1
 have HB := Aside0.mk (Below.refl w.heap.size w)
 have H : ((law11_alive.f k).bind fun t102 => (if t102 = true then (if (l0_1.length : Int) > 16 then (law11_PhiFirst.j0 k a1 a2 true a0_0 l0_1) else ((ref10_Right.f k a0_0 l0_1).bind fun t103 => (if t103 = true then (law11_PhiFirst.j0 k a1 a2 (decide (a0_0 < 0)) a0_0 l0_1) else (law11_PhiFirst.j0 k a1 a2 true a0_0 l0_1)))) else (some false))) = some r := h
 clear h
 replace H := ob_ H
 obtain ⟨t102, A40, H⟩ := H
 replace H : (if t102 = true then (if (l0_1.length : Int) > 16 then (law11_PhiFirst.j0 k a1 a2 true a0_0 l0_1) else ((ref10_Right.f k a0_0 l0_1).bind fun t103 => (if t103 = true then (law11_PhiFirst.j0 k a1 a2 (decide (a0_0 < 0)) a0_0 l0_1) else (law11_PhiFirst.j0 k a1 a2 true a0_0 l0_1)))) else (some false)) = some r := H
 have A4 := Aside0.mk A40
 clear A40
 by_cases c5 : t102 = true
 ·subst c5
  have H1 : (if (l0_1.length : Int) > 16 then (law11_PhiFirst.j0 k a1 a2 true a0_0 l0_1) else ((ref10_Right.f k a0_0 l0_1).bind fun t103 => (if t103 = true then (law11_PhiFirst.j0 k a1 a2 (decide (a0_0 < 0)) a0_0 l0_1) else (law11_PhiFirst.j0 k a1 a2 true a0_0 l0_1)))) = some r := by rw [if_pos rfl] at H; exact H
  clear H
  have H := H1
  clear H1
  have HC6 := Aside0.mk H
  clear H
  go_enter Try.func4, Try.ntmps4
  go_upto_region 3 with (first | ((with_reducible refine qo_ (N := 3) rfl ?_); refine qn_ ?hg (N := 3) ?hd (cs := #[.int .i64 a0_0, .slice A0_1 l0_1.length c0_1]) (t := 24) ?hr ?_; (case hd => rfl); (case hg => rfl); (case hr => first | (go_simp; done) | (go_simp; rfl)); intro gb101 hg w7 hbox hb; have n0_ := Aside0.mk (qj_ (by repeat (first | (with_reducible first | exact HB.out | apply qc_ | apply qa_ | apply qb_) | exact HB.out)) hb); have n1_ := Aside0.mk (hbox); have n2_ := Aside0.mk ((by rw [hg]; exact (ql_ (by repeat (first | (with_reducible first | exact HB.out | apply qc_ | apply qa_ | apply qb_) | exact HB.out))) : w.heap.size ≤ gb101)); have n3_ := Aside0.mk ((by rw [hg]; exact (ql_ (by repeat (first | (with_reducible first | exact HB.out | apply qc_ | apply qa_ | apply qb_) | exact HB.out))) : w.heap.size ≤ gb101)); clear HB; have HB := n0_; have BK101 := n1_; have GW101 := n2_; have GE101 := n3_; clear n0_ n1_ n2_ n3_; clear hb hbox hg) | ((with_reducible refine qm_ (f := 8) rfl ?_); refine goesL_ (some 9) rfl rfl Try.func8 (by kernel_rfl) rfl #[] rfl (by (try simp only [List.map_toArray, List.map_cons, List.map_nil]); first | done | rfl | (simp only [List.length_drop, List.length_take]; rfl)) ?_; (with_reducible refine (law11_alive.calls k  true _ A4.out).mono ?_); rintro e w8 ⟨rfl, hb⟩; refine ⟨_, rfl, ?_⟩; have n0_ := Aside0.mk (qk_ (g := gb101) (o := .cells #[.int .i64 a0_0, .slice A0_1 l0_1.length c0_1] 24 (0, 0)) (by (with_reducible repeat (first | refine qe_ ?_ _ | refine qg_ ?_ | refine qf_ ?_ _)); exact BK101.out) hb); have n1_ := Aside0.mk (qj_ (by repeat (first | (with_reducible first | exact HB.out | apply qc_ | apply qa_ | apply qb_ | refine qd_ ?_ GE101.out) | exact HB.out)) hb); clear BK101; clear HB; have BK101 := n0_; have HB := n1_; clear n0_ n1_; (try clear hb); (try clear hb2); (try clear hk); (try clear hi)))
  (try simp only [Act.put, sa_, sb_, sc_])
  go_cut [24] (fun v24 wc => ∃ (kq : Nat) (x24_5 : Bool), v24 = .bool x24_5 ∧ Aside0 (law11_PhiFirst.j0 kq a1 a2 x24_5 a0_0 l0_1 = some r) ∧ Aside0 (kq ≤ k) ∧ Aside0 (wc.heap[gb101]? = some (.cells #[.int .i64 a0_0, (.slice A0_1 l0_1.length c0_1)] 24 (0, 0))) ∧ Aside0 (Below w.heap.size w wc))
  case first =>
   have H := HC6.out
   clear HC6
   by_cases c9 : (l0_1.length : Int) > 16
   ·rw [if_pos c9] at H
    have c9b0 : decide (16 < (l0_1.length : Int)) = true := decide_eq_true c9
    have c9b1 : decide (16 < l0_1.length) = true := decide_eq_true (by omega)
    clear c9
    (first | rw [c9b0] | (simp only [i64_w, i32_w]; rw [c9b0]) | skip)
    have H' := Aside0.mk H
    clear H
    have hcz10_0 : w8.cell? ⟨gb101, 0, none⟩ = some (.int .i64 a0_0) := (qi_ BK101.out 0).trans rfl
    have hcz10_1 : w8.cell? ⟨gb101, 1, none⟩ = some (.slice A0_1 l0_1.length c0_1) := (qi_ BK101.out 1).trans rfl
    have hfz10_0 := qh_ BK101.out 0
    have hfz10_1 := qh_ BK101.out 1
    go_wp2
    go_meet
    case rel => exact ⟨_, (true), (by first | rfl | (simp; done) | (simp [*]; done)), H', ⟨by first | omega | exact Nat.le_refl _⟩, ⟨by (with_reducible repeat (first | refine qe_ ?_ _ | refine qg_ ?_ | refine qf_ ?_ _)); exact BK101.out⟩, ⟨by repeat (first | (with_reducible first | exact HB.out | apply qc_ | apply qa_ | apply qb_ | refine qd_ ?_ GE101.out) | exact HB.out)⟩⟩
   ·rw [if_neg c9] at H
    have c9b0 : decide (16 < (l0_1.length : Int)) = false := decide_eq_false c9
    have c9b1 : decide (16 < l0_1.length) = false := decide_eq_false (by omega)
    clear c9
    (first | rw [c9b0] | (simp only [i64_w, i32_w]; rw [c9b0]) | skip)
    replace H := ob_ H
    obtain ⟨t103, A110, H⟩ := H
    replace H : (if t103 = true then (law11_PhiFirst.j0 k a1 a2 (decide (a0_0 < 0)) a0_0 l0_1) else (law11_PhiFirst.j0 k a1 a2 true a0_0 l0_1)) = some r := H
    have A11 := Aside0.mk A110
    clear A110
    by_cases c12 : t103 = true
    ·subst c12
     have H1 : (law11_PhiFirst.j0 k a1 a2 (decide (a0_0 < 0)) a0_0 l0_1) = some r := by rw [if_pos rfl] at H; exact H
     clear H
     have H := H1
     clear H1
     have H' := Aside0.mk H
     clear H
     have hcz13_0 : w8.cell? ⟨gb101, 0, none⟩ = some (.int .i64 a0_0) := (qi_ BK101.out 0).trans rfl
     have hcz13_1 : w8.cell? ⟨gb101, 1, none⟩ = some (.slice A0_1 l0_1.length c0_1) := (qi_ BK101.out 1).trans rfl
     have hfz13_0 := qh_ BK101.out 0
     have hfz13_1 := qh_ BK101.out 1
     go_wp2_with (first | (go_at_call 9; (with_reducible refine (ref10_Right.calls k a0_0 _ _ l0_1 true _ ?side1 ?side2 A11.out).mono ?_); (case side1 => repeat (first | exact (Kd.C_below HR0_1.out HB.out) | (with_reducible refine Kd.qq_ ?_ _) | (with_reducible refine Kd.qp_ ?_ _) | (with_reducible refine Kd.C_drew ?_))); (case side2 => exact HC0_1.out); rintro e w14 ⟨rfl, hb⟩; have n0_ := Aside0.mk (qk_ (g := gb101) (o := .cells #[.int .i64 a0_0, .slice A0_1 l0_1.length c0_1] 24 (0, 0)) (by (with_reducible repeat (first | refine qe_ ?_ _ | refine qg_ ?_ | refine qf_ ?_ _)); exact BK101.out) hb); have n1_ := Aside0.mk (qj_ (by repeat (first | (with_reducible first | exact HB.out | apply qc_ | apply qa_ | apply qb_ | refine qd_ ?_ GE101.out) | exact HB.out)) hb); clear BK101; clear HB; have BK101 := n0_; have HB := n1_; clear n0_ n1_; (try clear hb); (try clear hb2); (try clear hk); (try clear hi); have hcz15_0 : w14.cell? ⟨gb101, 0, none⟩ = some (.int .i64 a0_0) := (qi_ BK101.out 0).trans rfl; have hcz15_1 : w14.cell? ⟨gb101, 1, none⟩ = some (.slice A0_1 l0_1.length c0_1) := (qi_ BK101.out 1).trans rfl; have hfz15_0 := qh_ BK101.out 0; have hfz15_1 := qh_ BK101.out 1))
     go_meet
     case rel => exact ⟨_, (decide (a0_0 < 0)), (by first | rfl | (simp; done) | (simp [*]; done)), H', ⟨by first | omega | exact Nat.le_refl _⟩, ⟨by (with_reducible repeat (first | refine qe_ ?_ _ | refine qg_ ?_ | refine qf_ ?_ _)); exact BK101.out⟩, ⟨by repeat (first | (with_reducible first | exact HB.out | apply qc_ | apply qa_ | apply qb_ | refine qd_ ?_ GE101.out) | exact HB.out)⟩⟩
    ·replace c12 := Bool.eq_false_iff.mpr c12
     subst c12
     have H1 : (law11_PhiFirst.j0 k a1 a2 true a0_0 l0_1) = some r := by rw [if_neg (show ¬ (false = true) by decide)] at H; exact H
     clear H
     have H := H1
     clear H1
     have H' := Aside0.mk H
     clear H
     have hcz16_0 : w8.cell? ⟨gb101, 0, none⟩ = some (.int .i64 a0_0) := (qi_ BK101.out 0).trans rfl
     have hcz16_1 : w8.cell? ⟨gb101, 1, none⟩ = some (.slice A0_1 l0_1.length c0_1) := (qi_ BK101.out 1).trans rfl
     have hfz16_0 := qh_ BK101.out 0
     have hfz16_1 := qh_ BK101.out 1
     go_wp2_with (first | (go_at_call 9; (with_reducible refine (ref10_Right.calls k a0_0 _ _ l0_1 false _ ?side1 ?side2 A11.out).mono ?_); (case side1 => repeat (first | exact (Kd.C_below HR0_1.out HB.out) | (with_reducible refine Kd.qq_ ?_ _) | (with_reducible refine Kd.qp_ ?_ _) | (with_reducible refine Kd.C_drew ?_))); (case side2 => exact HC0_1.out); rintro e w17 ⟨rfl, hb⟩; have n0_ := Aside0.mk (qk_ (g := gb101) (o := .cells #[.int .i64 a0_0, .slice A0_1 l0_1.length c0_1] 24 (0, 0)) (by (with_reducible repeat (first | refine qe_ ?_ _ | refine qg_ ?_ | refine qf_ ?_ _)); exact BK101.out) hb); have n1_ := Aside0.mk (qj_ (by repeat (first | (with_reducible first | exact HB.out | apply qc_ | apply qa_ | apply qb_ | refine qd_ ?_ GE101.out) | exact HB.out)) hb); clear BK101; clear HB; have BK101 := n0_; have HB := n1_; clear n0_ n1_; (try clear hb); (try clear hb2); (try clear hk); (try clear hi)))
     go_meet
     case rel => exact ⟨_, (true), (by first | rfl | (simp; done) | (simp [*]; done)), H', ⟨by first | omega | exact Nat.le_refl _⟩, ⟨by (with_reducible repeat (first | refine qe_ ?_ _ | refine qg_ ?_ | refine qf_ ?_ _)); exact BK101.out⟩, ⟨by repeat (first | (with_reducible first | exact HB.out | apply qc_ | apply qa_ | apply qb_ | refine qd_ ?_ GE101.out) | exact HB.out)⟩⟩
  case rest =>
   clear HC6
   try clear c1
   try clear p2
   try clear c4
   try clear c5
   try clear c8
   try clear c9
   try clear c9b0
   try clear c9b1
   try clear c12
   try clear hcz10_0
   try clear hcz10_1
   try clear hcz13_0
   try clear hcz13_1
   try clear hcz15_0
   try clear hcz15_1
   try clear hcz16_0
   try clear hcz16_1
   try clear hfz10_0
   try clear hfz10_1
   try clear hfz13_0
   try clear hfz13_1
   try clear hfz15_0
   try clear hfz15_1
   try clear hfz16_0
   try clear hfz16_1
   obtain ⟨kq, x24_5, rfl, HA, HJ5, BK101, HB⟩ := hcut
   cases kq with
   | zero => exact absurd HA.out (by simp [law11_PhiFirst.j0])
   | succ kj5 =>
    have H := HA.out
    clear HA
    simp only [law11_PhiFirst.j0] at H
    by_cases c18 : x24_5 = true
    ·subst c18
     have H1 : (some true) = some r := by rw [if_pos rfl] at H; exact H
     clear H
     have H := H1
     clear H1
     obtain rfl := Option.some.inj H
     go_wp2
     go_ret
     exact ⟨by first | rfl | (simp [errW_none, errW_some] <;> rfl) | (simp [*, errW_none, errW_some] <;> rfl), by repeat (first | (with_reducible first | exact HB.out | apply qc_ | apply qa_ | apply qb_ | refine qd_ ?_ GE101.out) | exact HB.out)⟩
    ·replace c18 := Bool.eq_false_iff.mpr c18
     subst c18
     have H1 : ((phi_First.f kj5 a0_0 l0_1 (wrap64 (a1)) (wrap64 (a2))).bind fun bt104 => (if bt104.2 = 0 then ((phi_Suspect.f kj5 a0_0 l0_1 bt104.1 (wrap64 (a1)) (wrap64 (a2))).bind fun t106 => (if t106 = true then ((phi_Suspect.f kj5 a0_0 l0_1 (wrap64 (bt104.1 - 1)) (wrap64 (a1)) (wrap64 (a2))).bind fun t107 => (if t107 = true then (some false) else (if bt104.1 > a0_0 then (if bt104.1 = 1099511627776 then (some true) else ((phi_Suspect.f kj5 a0_0 l0_1 (wrap64 (bt104.1 + 1)) (wrap64 (a1)) (wrap64 (a2))).bind fun t108 => (some t108))) else (some false)))) else (some false))) else (some (bt104.2 == 8)))) = some r := by rw [if_neg (show ¬ (false = true) by decide)] at H; exact H
     clear H
     have H := H1
     clear H1
     replace H := ob_ H
     obtain ⟨⟨t104, t105⟩, A190, H⟩ := H
     replace H : (if t105 = 0 then ((phi_Suspect.f kj5 a0_0 l0_1 t104 (wrap64 (a1)) (wrap64 (a2))).bind fun t106 => (if t106 = true then ((phi_Suspect.f kj5 a0_0 l0_1 (wrap64 (t104 - 1)) (wrap64 (a1)) (wrap64 (a2))).bind fun t107 => (if t107 = true then (some false) else (if t104 > a0_0 then (if t104 = 1099511627776 then (some true) else ((phi_Suspect.f kj5 a0_0 l0_1 (wrap64 (t104 + 1)) (wrap64 (a1)) (wrap64 (a2))).bind fun t108 => (some t108))) else (some false)))) else (some false))) else (some (t105 == 8))) = some r := H
     have A19 := Aside0.mk A190
     clear A190
     by_cases c20 : t105 = 0
     ·rw [if_pos c20] at H
      have c20b0 : (t105 == 0) = true := beq_iff_eq.mpr c20
      have c20b1 : (t105 != 0) = false := bne_eq_false_iff_eq.mpr c20
      clear c20
      replace H := ob_ H
      obtain ⟨t106, A210, H⟩ := H
      replace H : (if t106 = true then ((phi_Suspect.f kj5 a0_0 l0_1 (wrap64 (t104 - 1)) (wrap64 (a1)) (wrap64 (a2))).bind fun t107 => (if t107 = true then (some false) else (if t104 > a0_0 then (if t104 = 1099511627776 then (some true) else ((phi_Suspect.f kj5 a0_0 l0_1 (wrap64 (t104 + 1)) (wrap64 (a1)) (wrap64 (a2))).bind fun t108 => (some t108))) else (some false)))) else (some false)) = some r := H
      have A21 := Aside0.mk A210
      clear A210
      by_cases c22 : t106 = true
      ·subst c22
       have H1 : ((phi_Suspect.f kj5 a0_0 l0_1 (wrap64 (t104 - 1)) (wrap64 (a1)) (wrap64 (a2))).bind fun t107 => (if t107 = true then (some false) else (if t104 > a0_0 then (if t104 = 1099511627776 then (some true) else ((phi_Suspect.f kj5 a0_0 l0_1 (wrap64 (t104 + 1)) (wrap64 (a1)) (wrap64 (a2))).bind fun t108 => (some t108))) else (some false)))) = some r := by rw [if_pos rfl] at H; exact H
       clear H
       have H := H1
       clear H1
       replace H := ob_ H
       obtain ⟨t107, A230, H⟩ := H
       replace H : (if t107 = true then (some false) else (if t104 > a0_0 then (if t104 = 1099511627776 then (some true) else ((phi_Suspect.f kj5 a0_0 l0_1 (wrap64 (t104 + 1)) (wrap64 (a1)) (wrap64 (a2))).bind fun t108 => (some t108))) else (some false))) = some r := H
       have A23 := Aside0.mk A230
       clear A230
       by_cases c24 : t107 = true
       ·subst c24
        have H1 : (some false) = some r := by rw [if_pos rfl] at H; exact H
        clear H
        have H := H1
        clear H1
        obtain rfl := Option.some.inj H
        have hcz25_0 : wc.cell? ⟨gb101, 0, none⟩ = some (.int .i64 a0_0) := (qi_ BK101.out 0).trans rfl
        have hcz25_1 : wc.cell? ⟨gb101, 1, none⟩ = some (.slice A0_1 l0_1.length c0_1) := (qi_ BK101.out 1).trans rfl
        have hfz25_0 := qh_ BK101.out 0
        have hfz25_1 := qh_ BK101.out 1
        go_wp2_with (first | ((with_reducible refine qm_ (f := 13) rfl ?_); refine goesL_ (some 31) rfl rfl Try.func13 (by kernel_rfl) rfl #[.agg #[.int .i64 a0_0, .slice A0_1 l0_1.length c0_1], .int .i64 (wrap64 (a1)), .int .i64 (wrap64 (a2))] rfl (by (try simp only [List.map_toArray, List.map_cons, List.map_nil]); first | done | rfl | (simp only [List.length_drop, List.length_take]; rfl)) ?_; (with_reducible refine (phi_First.calls kj5 a0_0 _ _ l0_1 (wrap64 (a1)) (wrap64 (a2)) t104 t105 _ ?side1 ?side2 A19.out).mono ?_); (case side1 => repeat (first | exact (Kd.C_below HR0_1.out HB.out) | (with_reducible refine Kd.qq_ ?_ _) | (with_reducible refine Kd.qp_ ?_ _) | (with_reducible refine Kd.C_drew ?_))); (case side2 => exact HC0_1.out); rintro e w26 ⟨rfl, hb⟩; refine ⟨_, rfl, ?_⟩; have n0_ := Aside0.mk (qk_ (g := gb101) (o := .cells #[.int .i64 a0_0, .slice A0_1 l0_1.length c0_1] 24 (0, 0)) (by (with_reducible repeat (first | refine qe_ ?_ _ | refine qg_ ?_ | refine qf_ ?_ _)); exact BK101.out) hb); have n1_ := Aside0.mk (qj_ (by repeat (first | (with_reducible first | exact HB.out | apply qc_ | apply qa_ | apply qb_ | refine qd_ ?_ GE101.out) | exact HB.out)) hb); clear BK101; clear HB; have BK101 := n0_; have HB := n1_; clear n0_ n1_; (try clear hb); (try clear hb2); (try clear hk); (try clear hi); have hcz27_0 : w26.cell? ⟨gb101, 0, none⟩ = some (.int .i64 a0_0) := (qi_ BK101.out 0).trans rfl; have hcz27_1 : w26.cell? ⟨gb101, 1, none⟩ = some (.slice A0_1 l0_1.length c0_1) := (qi_ BK101.out 1).trans rfl; have hfz27_0 := qh_ BK101.out 0; have hfz27_1 := qh_ BK101.out 1) | ((with_reducible refine qm_ (f := 14) rfl ?_); refine goesL_ (some 44) rfl rfl Try.func14 (by kernel_rfl) rfl #[.agg #[.int .i64 a0_0, .slice A0_1 l0_1.length c0_1], .int .i64 t104, .int .i64 (wrap64 (a1)), .int .i64 (wrap64 (a2))] rfl (by (try simp only [List.map_toArray, List.map_cons, List.map_nil]); first | done | rfl | (simp only [List.length_drop, List.length_take]; rfl)) ?_; (with_reducible refine (phi_Suspect.calls kj5 a0_0 _ _ l0_1 t104 (wrap64 (a1)) (wrap64 (a2)) true _ ?side1 ?side2 A21.out).mono ?_); (case side1 => repeat (first | exact (Kd.C_below HR0_1.out HB.out) | (with_reducible refine Kd.qq_ ?_ _) | (with_reducible refine Kd.qp_ ?_ _) | (with_reducible refine Kd.C_drew ?_))); (case side2 => exact HC0_1.out); rintro e w28 ⟨rfl, hb⟩; refine ⟨_, rfl, ?_⟩; have n0_ := Aside0.mk (qk_ (g := gb101) (o := .cells #[.int .i64 a0_0, .slice A0_1 l0_1.length c0_1] 24 (0, 0)) (by (with_reducible repeat (first | refine qe_ ?_ _ | refine qg_ ?_ | refine qf_ ?_ _)); exact BK101.out) hb); have n1_ := Aside0.mk (qj_ (by repeat (first | (with_reducible first | exact HB.out | apply qc_ | apply qa_ | apply qb_ | refine qd_ ?_ GE101.out) | exact HB.out)) hb); clear BK101; clear HB; have BK101 := n0_; have HB := n1_; clear n0_ n1_; (try clear hb); (try clear hb2); (try clear hk); (try clear hi); have hcz29_0 : w28.cell? ⟨gb101, 0, none⟩ = some (.int .i64 a0_0) := (qi_ BK101.out 0).trans rfl; have hcz29_1 : w28.cell? ⟨gb101, 1, none⟩ = some (.slice A0_1 l0_1.length c0_1) := (qi_ BK101.out 1).trans rfl; have hfz29_0 := qh_ BK101.out 0; have hfz29_1 := qh_ BK101.out 1) | (go_at_call 14; (with_reducible refine (phi_Suspect.calls kj5 a0_0 _ _ l0_1 (wrap64 (t104 - 1)) (wrap64 (a1)) (wrap64 (a2)) true _ ?side1 ?side2 A23.out).mono ?_); (case side1 => repeat (first | exact (Kd.C_below HR0_1.out HB.out) | (with_reducible refine Kd.qq_ ?_ _) | (with_reducible refine Kd.qp_ ?_ _) | (with_reducible refine Kd.C_drew ?_))); (case side2 => exact HC0_1.out); rintro e w30 ⟨rfl, hb⟩; have n0_ := Aside0.mk (qk_ (g := gb101) (o := .cells #[.int .i64 a0_0, .slice A0_1 l0_1.length c0_1] 24 (0, 0)) (by (with_reducible repeat (first | refine qe_ ?_ _ | refine qg_ ?_ | refine qf_ ?_ _)); exact BK101.out) hb); have n1_ := Aside0.mk (qj_ (by repeat (first | (with_reducible first | exact HB.out | apply qc_ | apply qa_ | apply qb_ | refine qd_ ?_ GE101.out) | exact HB.out)) hb); clear BK101; clear HB; have BK101 := n0_; have HB := n1_; clear n0_ n1_; (try clear hb); (try clear hb2); (try clear hk); (try clear hi)))
        go_ret
        exact ⟨by first | rfl | (simp [errW_none, errW_some] <;> rfl) | (simp [*, errW_none, errW_some] <;> rfl), by repeat (first | (with_reducible first | exact HB.out | apply qc_ | apply qa_ | apply qb_ | refine qd_ ?_ GE101.out) | exact HB.out)⟩
       ·replace c24 := Bool.eq_false_iff.mpr c24
        subst c24
        have H1 : (if t104 > a0_0 then (if t104 = 1099511627776 then (some true) else ((phi_Suspect.f kj5 a0_0 l0_1 (wrap64 (t104 + 1)) (wrap64 (a1)) (wrap64 (a2))).bind fun t108 => (some t108))) else (some false)) = some r := by rw [if_neg (show ¬ (false = true) by decide)] at H; exact H
        clear H
        have H := H1
        clear H1
        by_cases c31 : t104 > a0_0
        ·rw [if_pos c31] at H
         have c31b0 : decide (a0_0 < t104) = true := decide_eq_true c31
         clear c31
         by_cases c32 : t104 = 1099511627776
         ·rw [if_pos c32] at H
          have c32b0 : (t104 == 1099511627776) = true := beq_iff_eq.mpr c32
          have c32b1 : (t104 != 1099511627776) = false := bne_eq_false_iff_eq.mpr c32
          clear c32
          obtain rfl := Option.some.inj H
          have hcz33_0 : wc.cell? ⟨gb101, 0, none⟩ = some (.int .i64 a0_0) := (qi_ BK101.out 0).trans rfl
          have hcz33_1 : wc.cell? ⟨gb101, 1, none⟩ = some (.slice A0_1 l0_1.length c0_1) := (qi_ BK101.out 1).trans rfl
          have hfz33_0 := qh_ BK101.out 0
          have hfz33_1 := qh_ BK101.out 1
          go_wp2_with (first | ((with_reducible refine qm_ (f := 13) rfl ?_); refine goesL_ (some 31) rfl rfl Try.func13 (by kernel_rfl) rfl #[.agg #[.int .i64 a0_0, .slice A0_1 l0_1.length c0_1], .int .i64 (wrap64 (a1)), .int .i64 (wrap64 (a2))] rfl (by (try simp only [List.map_toArray, List.map_cons, List.map_nil]); first | done | rfl | (simp only [List.length_drop, List.length_take]; rfl)) ?_; (with_reducible refine (phi_First.calls kj5 a0_0 _ _ l0_1 (wrap64 (a1)) (wrap64 (a2)) t104 t105 _ ?side1 ?side2 A19.out).mono ?_); (case side1 => repeat (first | exact (Kd.C_below HR0_1.out HB.out) | (with_reducible refine Kd.qq_ ?_ _) | (with_reducible refine Kd.qp_ ?_ _) | (with_reducible refine Kd.C_drew ?_))); (case side2 => exact HC0_1.out); rintro e w34 ⟨rfl, hb⟩; refine ⟨_, rfl, ?_⟩; have n0_ := Aside0.mk (qk_ (g := gb101) (o := .cells #[.int .i64 a0_0, .slice A0_1 l0_1.length c0_1] 24 (0, 0)) (by (with_reducible repeat (first | refine qe_ ?_ _ | refine qg_ ?_ | refine qf_ ?_ _)); exact BK101.out) hb); have n1_ := Aside0.mk (qj_ (by repeat (first | (with_reducible first | exact HB.out | apply qc_ | apply qa_ | apply qb_ | refine qd_ ?_ GE101.out) | exact HB.out)) hb); clear BK101; clear HB; have BK101 := n0_; have HB := n1_; clear n0_ n1_; (try clear hb); (try clear hb2); (try clear hk); (try clear hi); have hcz35_0 : w34.cell? ⟨gb101, 0, none⟩ = some (.int .i64 a0_0) := (qi_ BK101.out 0).trans rfl; have hcz35_1 : w34.cell? ⟨gb101, 1, none⟩ = some (.slice A0_1 l0_1.length c0_1) := (qi_ BK101.out 1).trans rfl; have hfz35_0 := qh_ BK101.out 0; have hfz35_1 := qh_ BK101.out 1) | ((with_reducible refine qm_ (f := 14) rfl ?_); refine goesL_ (some 44) rfl rfl Try.func14 (by kernel_rfl) rfl #[.agg #[.int .i64 a0_0, .slice A0_1 l0_1.length c0_1], .int .i64 t104, .int .i64 (wrap64 (a1)), .int .i64 (wrap64 (a2))] rfl (by (try simp only [List.map_toArray, List.map_cons, List.map_nil]); first | done | rfl | (simp only [List.length_drop, List.length_take]; rfl)) ?_; (with_reducible refine (phi_Suspect.calls kj5 a0_0 _ _ l0_1 t104 (wrap64 (a1)) (wrap64 (a2)) true _ ?side1 ?side2 A21.out).mono ?_); (case side1 => repeat (first | exact (Kd.C_below HR0_1.out HB.out) | (with_reducible refine Kd.qq_ ?_ _) | (with_reducible refine Kd.qp_ ?_ _) | (with_reducible refine Kd.C_drew ?_))); (case side2 => exact HC0_1.out); rintro e w36 ⟨rfl, hb⟩; refine ⟨_, rfl, ?_⟩; have n0_ := Aside0.mk (qk_ (g := gb101) (o := .cells #[.int .i64 a0_0, .slice A0_1 l0_1.length c0_1] 24 (0, 0)) (by (with_reducible repeat (first | refine qe_ ?_ _ | refine qg_ ?_ | refine qf_ ?_ _)); exact BK101.out) hb); have n1_ := Aside0.mk (qj_ (by repeat (first | (with_reducible first | exact HB.out | apply qc_ | apply qa_ | apply qb_ | refine qd_ ?_ GE101.out) | exact HB.out)) hb); clear BK101; clear HB; have BK101 := n0_; have HB := n1_; clear n0_ n1_; (try clear hb); (try clear hb2); (try clear hk); (try clear hi); have hcz37_0 : w36.cell? ⟨gb101, 0, none⟩ = some (.int .i64 a0_0) := (qi_ BK101.out 0).trans rfl; have hcz37_1 : w36.cell? ⟨gb101, 1, none⟩ = some (.slice A0_1 l0_1.length c0_1) := (qi_ BK101.out 1).trans rfl; have hfz37_0 := qh_ BK101.out 0; have hfz37_1 := qh_ BK101.out 1) | (go_at_call 14; (with_reducible refine (phi_Suspect.calls kj5 a0_0 _ _ l0_1 (wrap64 (t104 - 1)) (wrap64 (a1)) (wrap64 (a2)) false _ ?side1 ?side2 A23.out).mono ?_); (case side1 => repeat (first | exact (Kd.C_below HR0_1.out HB.out) | (with_reducible refine Kd.qq_ ?_ _) | (with_reducible refine Kd.qp_ ?_ _) | (with_reducible refine Kd.C_drew ?_))); (case side2 => exact HC0_1.out); rintro e w38 ⟨rfl, hb⟩; have n0_ := Aside0.mk (qk_ (g := gb101) (o := .cells #[.int .i64 a0_0, .slice A0_1 l0_1.length c0_1] 24 (0, 0)) (by (with_reducible repeat (first | refine qe_ ?_ _ | refine qg_ ?_ | refine qf_ ?_ _)); exact BK101.out) hb); have n1_ := Aside0.mk (qj_ (by repeat (first | (with_reducible first | exact HB.out | apply qc_ | apply qa_ | apply qb_ | refine qd_ ?_ GE101.out) | exact HB.out)) hb); clear BK101; clear HB; have BK101 := n0_; have HB := n1_; clear n0_ n1_; (try clear hb); (try clear hb2); (try clear hk); (try clear hi); have hcz39_0 : w38.cell? ⟨gb101, 0, none⟩ = some (.int .i64 a0_0) := (qi_ BK101.out 0).trans rfl; have hcz39_1 : w38.cell? ⟨gb101, 1, none⟩ = some (.slice A0_1 l0_1.length c0_1) := (qi_ BK101.out 1).trans rfl; have hfz39_0 := qh_ BK101.out 0; have hfz39_1 := qh_ BK101.out 1))
          go_ret
          exact ⟨by first | rfl | (simp [errW_none, errW_some] <;> rfl) | (simp [*, errW_none, errW_some] <;> rfl), by repeat (first | (with_reducible first | exact HB.out | apply qc_ | apply qa_ | apply qb_ | refine qd_ ?_ GE101.out) | exact HB.out)⟩
         ·rw [if_neg c32] at H
          have c32b0 : (t104 == 1099511627776) = false := beq_eq_false_iff_ne.mpr c32
          have c32b1 : (t104 != 1099511627776) = true := bne_iff_ne.mpr c32
          replace H := ob_ H
          obtain ⟨t108, A400, H⟩ := H
          replace H : (some t108) = some r := H
          have A40 := Aside0.mk A400
          clear A400
          obtain rfl := Option.some.inj H
          have hcz41_0 : wc.cell? ⟨gb101, 0, none⟩ = some (.int .i64 a0_0) := (qi_ BK101.out 0).trans rfl
          have hcz41_1 : wc.cell? ⟨gb101, 1, none⟩ = some (.slice A0_1 l0_1.length c0_1) := (qi_ BK101.out 1).trans rfl
          have hfz41_0 := qh_ BK101.out 0
          have hfz41_1 := qh_ BK101.out 1
          go_wp2_with (first | ((with_reducible refine qm_ (f := 13) rfl ?_); refine goesL_ (some 31) rfl rfl Try.func13 (by kernel_rfl) rfl #[.agg #[.int .i64 a0_0, .slice A0_1 l0_1.length c0_1], .int .i64 (wrap64 (a1)), .int .i64 (wrap64 (a2))] rfl (by (try simp only [List.map_toArray, List.map_cons, List.map_nil]); first | done | rfl | (simp only [List.length_drop, List.length_take]; rfl)) ?_; (with_reducible refine (phi_First.calls kj5 a0_0 _ _ l0_1 (wrap64 (a1)) (wrap64 (a2)) t104 t105 _ ?side1 ?side2 A19.out).mono ?_); (case side1 => repeat (first | exact (Kd.C_below HR0_1.out HB.out) | (with_reducible refine Kd.qq_ ?_ _) | (with_reducible refine Kd.qp_ ?_ _) | (with_reducible refine Kd.C_drew ?_))); (case side2 => exact HC0_1.out); rintro e w42 ⟨rfl, hb⟩; refine ⟨_, rfl, ?_⟩; have n0_ := Aside0.mk (qk_ (g := gb101) (o := .cells #[.int .i64 a0_0, .slice A0_1 l0_1.length c0_1] 24 (0, 0)) (by (with_reducible repeat (first | refine qe_ ?_ _ | refine qg_ ?_ | refine qf_ ?_ _)); exact BK101.out) hb); have n1_ := Aside0.mk (qj_ (by repeat (first | (with_reducible first | exact HB.out | apply qc_ | apply qa_ | apply qb_ | refine qd_ ?_ GE101.out) | exact HB.out)) hb); clear BK101; clear HB; have BK101 := n0_; have HB := n1_; clear n0_ n1_; (try clear hb); (try clear hb2); (try clear hk); (try clear hi); have hcz43_0 : w42.cell? ⟨gb101, 0, none⟩ = some (.int .i64 a0_0) := (qi_ BK101.out 0).trans rfl; have hcz43_1 : w42.cell? ⟨gb101, 1, none⟩ = some (.slice A0_1 l0_1.length c0_1) := (qi_ BK101.out 1).trans rfl; have hfz43_0 := qh_ BK101.out 0; have hfz43_1 := qh_ BK101.out 1) | ((with_reducible refine qm_ (f := 14) rfl ?_); refine goesL_ (some 44) rfl rfl Try.func14 (by kernel_rfl) rfl #[.agg #[.int .i64 a0_0, .slice A0_1 l0_1.length c0_1], .int .i64 t104, .int .i64 (wrap64 (a1)), .int .i64 (wrap64 (a2))] rfl (by (try simp only [List.map_toArray, List.map_cons, List.map_nil]); first | done | rfl | (simp only [List.length_drop, List.length_take]; rfl)) ?_; (with_reducible refine (phi_Suspect.calls kj5 a0_0 _ _ l0_1 t104 (wrap64 (a1)) (wrap64 (a2)) true _ ?side1 ?side2 A21.out).mono ?_); (case side1 => repeat (first | exact (Kd.C_below HR0_1.out HB.out) | (with_reducible refine Kd.qq_ ?_ _) | (with_reducible refine Kd.qp_ ?_ _) | (with_reducible refine Kd.C_drew ?_))); (case side2 => exact HC0_1.out); rintro e w44 ⟨rfl, hb⟩; refine ⟨_, rfl, ?_⟩; have n0_ := Aside0.mk (qk_ (g := gb101) (o := .cells #[.int .i64 a0_0, .slice A0_1 l0_1.length c0_1] 24 (0, 0)) (by (with_reducible repeat (first | refine qe_ ?_ _ | refine qg_ ?_ | refine qf_ ?_ _)); exact BK101.out) hb); have n1_ := Aside0.mk (qj_ (by repeat (first | (with_reducible first | exact HB.out | apply qc_ | apply qa_ | apply qb_ | refine qd_ ?_ GE101.out) | exact HB.out)) hb); clear BK101; clear HB; have BK101 := n0_; have HB := n1_; clear n0_ n1_; (try clear hb); (try clear hb2); (try clear hk); (try clear hi); have hcz45_0 : w44.cell? ⟨gb101, 0, none⟩ = some (.int .i64 a0_0) := (qi_ BK101.out 0).trans rfl; have hcz45_1 : w44.cell? ⟨gb101, 1, none⟩ = some (.slice A0_1 l0_1.length c0_1) := (qi_ BK101.out 1).trans rfl; have hfz45_0 := qh_ BK101.out 0; have hfz45_1 := qh_ BK101.out 1) | (go_at_call 14; (with_reducible refine (phi_Suspect.calls kj5 a0_0 _ _ l0_1 (wrap64 (t104 - 1)) (wrap64 (a1)) (wrap64 (a2)) false _ ?side1 ?side2 A23.out).mono ?_); (case side1 => repeat (first | exact (Kd.C_below HR0_1.out HB.out) | (with_reducible refine Kd.qq_ ?_ _) | (with_reducible refine Kd.qp_ ?_ _) | (with_reducible refine Kd.C_drew ?_))); (case side2 => exact HC0_1.out); rintro e w46 ⟨rfl, hb⟩; have n0_ := Aside0.mk (qk_ (g := gb101) (o := .cells #[.int .i64 a0_0, .slice A0_1 l0_1.length c0_1] 24 (0, 0)) (by (with_reducible repeat (first | refine qe_ ?_ _ | refine qg_ ?_ | refine qf_ ?_ _)); exact BK101.out) hb); have n1_ := Aside0.mk (qj_ (by repeat (first | (with_reducible first | exact HB.out | apply qc_ | apply qa_ | apply qb_ | refine qd_ ?_ GE101.out) | exact HB.out)) hb); clear BK101; clear HB; have BK101 := n0_; have HB := n1_; clear n0_ n1_; (try clear hb); (try clear hb2); (try clear hk); (try clear hi); have hcz47_0 : w46.cell? ⟨gb101, 0, none⟩ = some (.int .i64 a0_0) := (qi_ BK101.out 0).trans rfl; have hcz47_1 : w46.cell? ⟨gb101, 1, none⟩ = some (.slice A0_1 l0_1.length c0_1) := (qi_ BK101.out 1).trans rfl; have hfz47_0 := qh_ BK101.out 0; have hfz47_1 := qh_ BK101.out 1) | (go_at_call 14; (with_reducible refine (phi_Suspect.calls kj5 a0_0 _ _ l0_1 (wrap64 (t104 + 1)) (wrap64 (a1)) (wrap64 (a2)) t108 _ ?side1 ?side2 A40.out).mono ?_); (case side1 => repeat (first | exact (Kd.C_below HR0_1.out HB.out) | (with_reducible refine Kd.qq_ ?_ _) | (with_reducible refine Kd.qp_ ?_ _) | (with_reducible refine Kd.C_drew ?_))); (case side2 => exact HC0_1.out); rintro e w48 ⟨rfl, hb⟩; have n0_ := Aside0.mk (qk_ (g := gb101) (o := .cells #[.int .i64 a0_0, .slice A0_1 l0_1.length c0_1] 24 (0, 0)) (by (with_reducible repeat (first | refine qe_ ?_ _ | refine qg_ ?_ | refine qf_ ?_ _)); exact BK101.out) hb); have n1_ := Aside0.mk (qj_ (by repeat (first | (with_reducible first | exact HB.out | apply qc_ | apply qa_ | apply qb_ | refine qd_ ?_ GE101.out) | exact HB.out)) hb); clear BK101; clear HB; have BK101 := n0_; have HB := n1_; clear n0_ n1_; (try clear hb); (try clear hb2); (try clear hk); (try clear hi)))
          go_ret
          exact ⟨by first | rfl | (simp [errW_none, errW_some] <;> rfl) | (simp [*, errW_none, errW_some] <;> rfl), by repeat (first | (with_reducible first | exact HB.out | apply qc_ | apply qa_ | apply qb_ | refine qd_ ?_ GE101.out) | exact HB.out)⟩
        ·rw [if_neg c31] at H
         have c31b0 : decide (a0_0 < t104) = false := decide_eq_false c31
         clear c31
         obtain rfl := Option.some.inj H
         have hcz49_0 : wc.cell? ⟨gb101, 0, none⟩ = some (.int .i64 a0_0) := (qi_ BK101.out 0).trans rfl
         have hcz49_1 : wc.cell? ⟨gb101, 1, none⟩ = some (.slice A0_1 l0_1.length c0_1) := (qi_ BK101.out 1).trans rfl
         have hfz49_0 := qh_ BK101.out 0
         have hfz49_1 := qh_ BK101.out 1
         go_wp2_with (first | ((with_reducible refine qm_ (f := 13) rfl ?_); refine goesL_ (some 31) rfl rfl Try.func13 (by kernel_rfl) rfl #[.agg #[.int .i64 a0_0, .slice A0_1 l0_1.length c0_1], .int .i64 (wrap64 (a1)), .int .i64 (wrap64 (a2))] rfl (by (try simp only [List.map_toArray, List.map_cons, List.map_nil]); first | done | rfl | (simp only [List.length_drop, List.length_take]; rfl)) ?_; (with_reducible refine (phi_First.calls kj5 a0_0 _ _ l0_1 (wrap64 (a1)) (wrap64 (a2)) t104 t105 _ ?side1 ?side2 A19.out).mono ?_); (case side1 => repeat (first | exact (Kd.C_below HR0_1.out HB.out) | (with_reducible refine Kd.qq_ ?_ _) | (with_reducible refine Kd.qp_ ?_ _) | (with_reducible refine Kd.C_drew ?_))); (case side2 => exact HC0_1.out); rintro e w50 ⟨rfl, hb⟩; refine ⟨_, rfl, ?_⟩; have n0_ := Aside0.mk (qk_ (g := gb101) (o := .cells #[.int .i64 a0_0, .slice A0_1 l0_1.length c0_1] 24 (0, 0)) (by (with_reducible repeat (first | refine qe_ ?_ _ | refine qg_ ?_ | refine qf_ ?_ _)); exact BK101.out) hb); have n1_ := Aside0.mk (qj_ (by repeat (first | (with_reducible first | exact HB.out | apply qc_ | apply qa_ | apply qb_ | refine qd_ ?_ GE101.out) | exact HB.out)) hb); clear BK101; clear HB; have BK101 := n0_; have HB := n1_; clear n0_ n1_; (try clear hb); (try clear hb2); (try clear hk); (try clear hi); have hcz51_0 : w50.cell? ⟨gb101, 0, none⟩ = some (.int .i64 a0_0) := (qi_ BK101.out 0).trans rfl; have hcz51_1 : w50.cell? ⟨gb101, 1, none⟩ = some (.slice A0_1 l0_1.length c0_1) := (qi_ BK101.out 1).trans rfl; have hfz51_0 := qh_ BK101.out 0; have hfz51_1 := qh_ BK101.out 1) | ((with_reducible refine qm_ (f := 14) rfl ?_); refine goesL_ (some 44) rfl rfl Try.func14 (by kernel_rfl) rfl #[.agg #[.int .i64 a0_0, .slice A0_1 l0_1.length c0_1], .int .i64 t104, .int .i64 (wrap64 (a1)), .int .i64 (wrap64 (a2))] rfl (by (try simp only [List.map_toArray, List.map_cons, List.map_nil]); first | done | rfl | (simp only [List.length_drop, List.length_take]; rfl)) ?_; (with_reducible refine (phi_Suspect.calls kj5 a0_0 _ _ l0_1 t104 (wrap64 (a1)) (wrap64 (a2)) true _ ?side1 ?side2 A21.out).mono ?_); (case side1 => repeat (first | exact (Kd.C_below HR0_1.out HB.out) | (with_reducible refine Kd.qq_ ?_ _) | (with_reducible refine Kd.qp_ ?_ _) | (with_reducible refine Kd.C_drew ?_))); (case side2 => exact HC0_1.out); rintro e w52 ⟨rfl, hb⟩; refine ⟨_, rfl, ?_⟩; have n0_ := Aside0.mk (qk_ (g := gb101) (o := .cells #[.int .i64 a0_0, .slice A0_1 l0_1.length c0_1] 24 (0, 0)) (by (with_reducible repeat (first | refine qe_ ?_ _ | refine qg_ ?_ | refine qf_ ?_ _)); exact BK101.out) hb); have n1_ := Aside0.mk (qj_ (by repeat (first | (with_reducible first | exact HB.out | apply qc_ | apply qa_ | apply qb_ | refine qd_ ?_ GE101.out) | exact HB.out)) hb); clear BK101; clear HB; have BK101 := n0_; have HB := n1_; clear n0_ n1_; (try clear hb); (try clear hb2); (try clear hk); (try clear hi); have hcz53_0 : w52.cell? ⟨gb101, 0, none⟩ = some (.int .i64 a0_0) := (qi_ BK101.out 0).trans rfl; have hcz53_1 : w52.cell? ⟨gb101, 1, none⟩ = some (.slice A0_1 l0_1.length c0_1) := (qi_ BK101.out 1).trans rfl; have hfz53_0 := qh_ BK101.out 0; have hfz53_1 := qh_ BK101.out 1) | (go_at_call 14; (with_reducible refine (phi_Suspect.calls kj5 a0_0 _ _ l0_1 (wrap64 (t104 - 1)) (wrap64 (a1)) (wrap64 (a2)) false _ ?side1 ?side2 A23.out).mono ?_); (case side1 => repeat (first | exact (Kd.C_below HR0_1.out HB.out) | (with_reducible refine Kd.qq_ ?_ _) | (with_reducible refine Kd.qp_ ?_ _) | (with_reducible refine Kd.C_drew ?_))); (case side2 => exact HC0_1.out); rintro e w54 ⟨rfl, hb⟩; have n0_ := Aside0.mk (qk_ (g := gb101) (o := .cells #[.int .i64 a0_0, .slice A0_1 l0_1.length c0_1] 24 (0, 0)) (by (with_reducible repeat (first | refine qe_ ?_ _ | refine qg_ ?_ | refine qf_ ?_ _)); exact BK101.out) hb); have n1_ := Aside0.mk (qj_ (by repeat (first | (with_reducible first | exact HB.out | apply qc_ | apply qa_ | apply qb_ | refine qd_ ?_ GE101.out) | exact HB.out)) hb); clear BK101; clear HB; have BK101 := n0_; have HB := n1_; clear n0_ n1_; (try clear hb); (try clear hb2); (try clear hk); (try clear hi); have hcz55_0 : w54.cell? ⟨gb101, 0, none⟩ = some (.int .i64 a0_0) := (qi_ BK101.out 0).trans rfl; have hcz55_1 : w54.cell? ⟨gb101, 1, none⟩ = some (.slice A0_1 l0_1.length c0_1) := (qi_ BK101.out 1).trans rfl; have hfz55_0 := qh_ BK101.out 0; have hfz55_1 := qh_ BK101.out 1))
         go_ret
         exact ⟨by first | rfl | (simp [errW_none, errW_some] <;> rfl) | (simp [*, errW_none, errW_some] <;> rfl), by repeat (first | (with_reducible first | exact HB.out | apply qc_ | apply qa_ | apply qb_ | refine qd_ ?_ GE101.out) | exact HB.out)⟩
      ·replace c22 := Bool.eq_false_iff.mpr c22
       subst c22
       have H1 : (some false) = some r := by rw [if_neg (show ¬ (false = true) by decide)] at H; exact H
       clear H
       have H := H1
       clear H1
       obtain rfl := Option.some.inj H
       have hcz56_0 : wc.cell? ⟨gb101, 0, none⟩ = some (.int .i64 a0_0) := (qi_ BK101.out 0).trans rfl
       have hcz56_1 : wc.cell? ⟨gb101, 1, none⟩ = some (.slice A0_1 l0_1.length c0_1) := (qi_ BK101.out 1).trans rfl
       have hfz56_0 := qh_ BK101.out 0
       have hfz56_1 := qh_ BK101.out 1
       go_wp2_with (first | ((with_reducible refine qm_ (f := 13) rfl ?_); refine goesL_ (some 31) rfl rfl Try.func13 (by kernel_rfl) rfl #[.agg #[.int .i64 a0_0, .slice A0_1 l0_1.length c0_1], .int .i64 (wrap64 (a1)), .int .i64 (wrap64 (a2))] rfl (by (try simp only [List.map_toArray, List.map_cons, List.map_nil]); first | done | rfl | (simp only [List.length_drop, List.length_take]; rfl)) ?_; (with_reducible refine (phi_First.calls kj5 a0_0 _ _ l0_1 (wrap64 (a1)) (wrap64 (a2)) t104 t105 _ ?side1 ?side2 A19.out).mono ?_); (case side1 => repeat (first | exact (Kd.C_below HR0_1.out HB.out) | (with_reducible refine Kd.qq_ ?_ _) | (with_reducible refine Kd.qp_ ?_ _) | (with_reducible refine Kd.C_drew ?_))); (case side2 => exact HC0_1.out); rintro e w57 ⟨rfl, hb⟩; refine ⟨_, rfl, ?_⟩; have n0_ := Aside0.mk (qk_ (g := gb101) (o := .cells #[.int .i64 a0_0, .slice A0_1 l0_1.length c0_1] 24 (0, 0)) (by (with_reducible repeat (first | refine qe_ ?_ _ | refine qg_ ?_ | refine qf_ ?_ _)); exact BK101.out) hb); have n1_ := Aside0.mk (qj_ (by repeat (first | (with_reducible first | exact HB.out | apply qc_ | apply qa_ | apply qb_ | refine qd_ ?_ GE101.out) | exact HB.out)) hb); clear BK101; clear HB; have BK101 := n0_; have HB := n1_; clear n0_ n1_; (try clear hb); (try clear hb2); (try clear hk); (try clear hi); have hcz58_0 : w57.cell? ⟨gb101, 0, none⟩ = some (.int .i64 a0_0) := (qi_ BK101.out 0).trans rfl; have hcz58_1 : w57.cell? ⟨gb101, 1, none⟩ = some (.slice A0_1 l0_1.length c0_1) := (qi_ BK101.out 1).trans rfl; have hfz58_0 := qh_ BK101.out 0; have hfz58_1 := qh_ BK101.out 1) | ((with_reducible refine qm_ (f := 14) rfl ?_); refine goesL_ (some 44) rfl rfl Try.func14 (by kernel_rfl) rfl #[.agg #[.int .i64 a0_0, .slice A0_1 l0_1.length c0_1], .int .i64 t104, .int .i64 (wrap64 (a1)), .int .i64 (wrap64 (a2))] rfl (by (try simp only [List.map_toArray, List.map_cons, List.map_nil]); first | done | rfl | (simp only [List.length_drop, List.length_take]; rfl)) ?_; (with_reducible refine (phi_Suspect.calls kj5 a0_0 _ _ l0_1 t104 (wrap64 (a1)) (wrap64 (a2)) false _ ?side1 ?side2 A21.out).mono ?_); (case side1 => repeat (first | exact (Kd.C_below HR0_1.out HB.out) | (with_reducible refine Kd.qq_ ?_ _) | (with_reducible refine Kd.qp_ ?_ _) | (with_reducible refine Kd.C_drew ?_))); (case side2 => exact HC0_1.out); rintro e w59 ⟨rfl, hb⟩; refine ⟨_, rfl, ?_⟩; have n0_ := Aside0.mk (qk_ (g := gb101) (o := .cells #[.int .i64 a0_0, .slice A0_1 l0_1.length c0_1] 24 (0, 0)) (by (with_reducible repeat (first | refine qe_ ?_ _ | refine qg_ ?_ | refine qf_ ?_ _)); exact BK101.out) hb); have n1_ := Aside0.mk (qj_ (by repeat (first | (with_reducible first | exact HB.out | apply qc_ | apply qa_ | apply qb_ | refine qd_ ?_ GE101.out) | exact HB.out)) hb); clear BK101; clear HB; have BK101 := n0_; have HB := n1_; clear n0_ n1_; (try clear hb); (try clear hb2); (try clear hk); (try clear hi)))
       go_ret
       exact ⟨by first | rfl | (simp [errW_none, errW_some] <;> rfl) | (simp [*, errW_none, errW_some] <;> rfl), by repeat (first | (with_reducible first | exact HB.out | apply qc_ | apply qa_ | apply qb_ | refine qd_ ?_ GE101.out) | exact HB.out)⟩
     ·rw [if_neg c20] at H
      have c20b0 : (t105 == 0) = false := beq_eq_false_iff_ne.mpr c20
      have c20b1 : (t105 != 0) = true := bne_iff_ne.mpr c20
      obtain rfl := Option.some.inj H
      have hcz60_0 : wc.cell? ⟨gb101, 0, none⟩ = some (.int .i64 a0_0) := (qi_ BK101.out 0).trans rfl
      have hcz60_1 : wc.cell? ⟨gb101, 1, none⟩ = some (.slice A0_1 l0_1.length c0_1) := (qi_ BK101.out 1).trans rfl
      have hfz60_0 := qh_ BK101.out 0
      have hfz60_1 := qh_ BK101.out 1
      go_wp2_with (first | ((with_reducible refine qm_ (f := 13) rfl ?_); refine goesL_ (some 31) rfl rfl Try.func13 (by kernel_rfl) rfl #[.agg #[.int .i64 a0_0, .slice A0_1 l0_1.length c0_1], .int .i64 (wrap64 (a1)), .int .i64 (wrap64 (a2))] rfl (by (try simp only [List.map_toArray, List.map_cons, List.map_nil]); first | done | rfl | (simp only [List.length_drop, List.length_take]; rfl)) ?_; (with_reducible refine (phi_First.calls kj5 a0_0 _ _ l0_1 (wrap64 (a1)) (wrap64 (a2)) t104 t105 _ ?side1 ?side2 A19.out).mono ?_); (case side1 => repeat (first | exact (Kd.C_below HR0_1.out HB.out) | (with_reducible refine Kd.qq_ ?_ _) | (with_reducible refine Kd.qp_ ?_ _) | (with_reducible refine Kd.C_drew ?_))); (case side2 => exact HC0_1.out); rintro e w61 ⟨rfl, hb⟩; refine ⟨_, rfl, ?_⟩; have n0_ := Aside0.mk (qk_ (g := gb101) (o := .cells #[.int .i64 a0_0, .slice A0_1 l0_1.length c0_1] 24 (0, 0)) (by (with_reducible repeat (first | refine qe_ ?_ _ | refine qg_ ?_ | refine qf_ ?_ _)); exact BK101.out) hb); have n1_ := Aside0.mk (qj_ (by repeat (first | (with_reducible first | exact HB.out | apply qc_ | apply qa_ | apply qb_ | refine qd_ ?_ GE101.out) | exact HB.out)) hb); clear BK101; clear HB; have BK101 := n0_; have HB := n1_; clear n0_ n1_; (try clear hb); (try clear hb2); (try clear hk); (try clear hi)))
      go_ret
      exact ⟨by first | rfl | (simp [errW_none, errW_some] <;> rfl) | (simp [*, errW_none, errW_some] <;> rfl), by repeat (first | (with_reducible first | exact HB.out | apply qc_ | apply qa_ | apply qb_ | refine qd_ ?_ GE101.out) | exact HB.out)⟩
 ·replace c5 := Bool.eq_false_iff.mpr c5
  subst c5
  have H1 : (some false) = some r := by rw [if_neg (show ¬ (false = true) by decide)] at H; exact H
  clear H
  have H := H1
  clear H1
  obtain rfl := Option.some.inj H
  go_enter Try.func4, Try.ntmps4
  go_wp2_with (first | ((with_reducible refine qo_ (N := 3) rfl ?_); refine qn_ ?hg (N := 3) ?hd (cs := #[.int .i64 a0_0, .slice A0_1 l0_1.length c0_1]) (t := 24) ?hr ?_; (case hd => rfl); (case hg => rfl); (case hr => first | (go_simp; done) | (go_simp; rfl)); intro gb101 hg w62 hbox hb; have n0_ := Aside0.mk (qj_ (by repeat (first | (with_reducible first | exact HB.out | apply qc_ | apply qa_ | apply qb_) | exact HB.out)) hb); have n1_ := Aside0.mk (hbox); have n2_ := Aside0.mk ((by rw [hg]; exact (ql_ (by repeat (first | (with_reducible first | exact HB.out | apply qc_ | apply qa_ | apply qb_) | exact HB.out))) : w.heap.size ≤ gb101)); have n3_ := Aside0.mk ((by rw [hg]; exact (ql_ (by repeat (first | (with_reducible first | exact HB.out | apply qc_ | apply qa_ | apply qb_) | exact HB.out))) : w.heap.size ≤ gb101)); clear HB; have HB := n0_; have BK101 := n1_; have GW101 := n2_; have GE101 := n3_; clear n0_ n1_ n2_ n3_; clear hb hbox hg) | ((with_reducible refine qm_ (f := 8) rfl ?_); refine goesL_ (some 9) rfl rfl Try.func8 (by kernel_rfl) rfl #[] rfl (by (try simp only [List.map_toArray, List.map_cons, List.map_nil]); first | done | rfl | (simp only [List.length_drop, List.length_take]; rfl)) ?_; (with_reducible refine (law11_alive.calls k  false _ A4.out).mono ?_); rintro e w63 ⟨rfl, hb⟩; refine ⟨_, rfl, ?_⟩; have n0_ := Aside0.mk (qk_ (g := gb101) (o := .cells #[.int .i64 a0_0, .slice A0_1 l0_1.length c0_1] 24 (0, 0)) (by (with_reducible repeat (first | refine qe_ ?_ _ | refine qg_ ?_ | refine qf_ ?_ _)); exact BK101.out) hb); have n1_ := Aside0.mk (qj_ (by repeat (first | (with_reducible first | exact HB.out | apply qc_ | apply qa_ | apply qb_ | refine qd_ ?_ GE101.out) | exact HB.out)) hb); clear BK101; clear HB; have BK101 := n0_; have HB := n1_; clear n0_ n1_; (try clear hb); (try clear hb2); (try clear hk); (try clear hi)))
  go_ret
  exact ⟨by first | rfl | (simp [errW_none, errW_some] <;> rfl) | (simp [*, errW_none, errW_some] <;> rfl), by repeat (first | (with_reducible first | exact HB.out | apply qc_ | apply qa_ | apply qb_ | refine qd_ ?_ GE101.out) | exact HB.out)⟩
end Go.Proofs.Ytjallhlamaggbaa.P

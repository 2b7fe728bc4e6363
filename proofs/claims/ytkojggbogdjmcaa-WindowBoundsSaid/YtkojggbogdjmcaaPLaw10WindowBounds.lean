/- What this function of the program comes to, and that the machine's call does it: written by a program (wip/tool). No condition. -/
import Derived.Test.YtkojggbogdjmcaaP0
import Derived.Test.YtkojggbogdjmcaaPWindowNew
import Derived.Test.YtkojggbogdjmcaaPWindowRight
import Derived.Test.YtkojggbogdjmcaaPWindowArrive
import Derived.Test.YtkojggbogdjmcaaPWindowMean
import Derived.Test.YtkojggbogdjmcaaPLaw10Alive
import Derived.Test.YtkojggbogdjmcaaHw
namespace Go.Proofs.Ytkojggbogdjmcaa.P
open Go.RowKit Go.Proofs.YtkojggbogdjmcaaW.PrintWords Go.Proofs.YtkojggbogdjmcaaW.PrintLast Go.Proofs.YtkojggbogdjmcaaW.PrintMore
attribute [local go_sem] max2_int min2_int max_two min_two max_three min_three max_four min_four   -- for this text's walks alone
set_option linter.unusedVariables false
set_option linter.unusedSimpArgs false
/-! ### law10_WindowBounds: function 3 -/
mutual
def law10_WindowBounds.l0 : Nat → List Int → Int → Int → Int → Int → Int → List Int → Option (Bool)
 | 0, _, _, _, _, _, _, _ => none
 | k + 1, x0, x1, x6, x7, x8, x107000, x107001 => if x8 < (x0.length : Int) then (if 0 ≤ x8 then ((window_Arrive.f k x107000 x107001 (wrap64 (x6 + (wrap64 (rd x0 x8)))) (wrap64 (x1))).bind fun bt108 => (if bt108.2.2 = 0 then ((window_Right.f bt108.1 bt108.2.1).bind fun t114 => (if t114 = true then (if bt108.1 = (wrap64 (x6 + (wrap64 (rd x0 x8)))) then (law10_WindowBounds.j1 k x0 x1 (wrap64 (x6 + (wrap64 (rd x0 x8)))) x7 x8 ((bt108.2.1.length : Int) != (mn x8 16)) bt108.1 bt108.2.1) else (law10_WindowBounds.j1 k x0 x1 (wrap64 (x6 + (wrap64 (rd x0 x8)))) x7 x8 true bt108.1 bt108.2.1)) else (law10_WindowBounds.j1 k x0 x1 (wrap64 (x6 + (wrap64 (rd x0 x8)))) x7 x8 true bt108.1 bt108.2.1))) else (law10_WindowBounds.j1 k x0 x1 (wrap64 (x6 + (wrap64 (rd x0 x8)))) x7 x8 true bt108.1 bt108.2.1))) else (none)) else (some true)
def law10_WindowBounds.j1 : Nat → List Int → Int → Int → Int → Int → Bool → Int → List Int → Option (Bool)
 | 0, _, _, _, _, _, _, _, _ => none
 | k + 1, x0, x1, x6, x7, x8, x63, x114000, x114001 => if x63 = true then (some false) else (law10_WindowBounds.l1 k x0 x1 x6 x7 x8 0 x114000 x114001)
def law10_WindowBounds.l1 : Nat → List Int → Int → Int → Int → Int → Int → Int → List Int → Option (Bool)
 | 0, _, _, _, _, _, _, _, _ => none
 | k + 1, x0, x1, x6, x7, x8, x11, x114000, x114001 => if x11 < (x114001.length : Int) then (if 0 ≤ x11 then (if (rd x114001 x11) < 1 then (some false) else (if (rd x114001 x11) > x7 then (some false) else (law10_WindowBounds.l1 k x0 x1 x6 x7 x8 (wrap64 (x11 + 1)) x114000 x114001))) else (none)) else ((window_Mean.f k x114000 x114001 (wrap64 (x1))).bind fun t117 => (if t117 < 1 then (some false) else (if t117 > x7 then (some false) else (law10_WindowBounds.l0 k x0 x1 x6 x7 (wrap64 (x8 + 1)) x114000 x114001))))
end
def law10_WindowBounds.f (k : Nat) (l0 : List Int) (a1 : Int) : Option (Bool) := (law10_alive.f k).bind fun t101 => (if t101 = true then (if (l0.length : Int) > 200 then (some true) else ((window_New.f).bind fun bt102 => (law10_WindowBounds.l0 k l0 a1 0 (mx 1 (wrap64 (a1))) 0 bt102.1 bt102.2))) else (some false))
theorem law10_WindowBounds.mono_l : ∀ k, (∀ y0 y1 y2 y3 y4 y5 y6, LeO (law10_WindowBounds.l0 k y0 y1 y2 y3 y4 y5 y6) (law10_WindowBounds.l0 (k + 1) y0 y1 y2 y3 y4 y5 y6)) ∧ (∀ y0 y1 y2 y3 y4 y5 y6 y7, LeO (law10_WindowBounds.j1 k y0 y1 y2 y3 y4 y5 y6 y7) (law10_WindowBounds.j1 (k + 1) y0 y1 y2 y3 y4 y5 y6 y7)) ∧ (∀ y0 y1 y2 y3 y4 y5 y6 y7, LeO (law10_WindowBounds.l1 k y0 y1 y2 y3 y4 y5 y6 y7) (law10_WindowBounds.l1 (k + 1) y0 y1 y2 y3 y4 y5 y6 y7))
 | 0 => ⟨fun _ _ _ _ _ _ _ r h => by simp [law10_WindowBounds.l0] at h, fun _ _ _ _ _ _ _ _ r h => by simp [law10_WindowBounds.j1] at h, fun _ _ _ _ _ _ _ _ r h => by simp [law10_WindowBounds.l1] at h⟩
 | k + 1 => by
  obtain ⟨ih0, ih1, ih2⟩ := law10_WindowBounds.mono_l k
  refine ⟨?_, ?_, ?_⟩
  ·intro y0 y1 y2 y3 y4 y5 y6
   unfold law10_WindowBounds.l0
   repeat' first
   | (with_reducible exact ih0 _ _ _ _ _ _ _)
   | (with_reducible exact ih1 _ _ _ _ _ _ _ _)
   | (with_reducible exact ih2 _ _ _ _ _ _ _ _)
   | (with_reducible exact law10_alive.mono _)
   | (with_reducible exact window_Arrive.mono _ _ _ _ _)
   | (with_reducible exact window_Mean.mono _ _ _ _)
   | (with_reducible exact LeO.refl _)
   | (with_reducible exact LeO.none _)
   | (with_reducible refine LeO.ite ?_ ?_)
   | (with_reducible refine LeO.bind ?_ (fun _ => ?_))
   | exact ih0 _ _ _ _ _ _ _
   | exact ih1 _ _ _ _ _ _ _ _
   | exact ih2 _ _ _ _ _ _ _ _
   | exact law10_alive.mono _
   | exact window_Arrive.mono _ _ _ _ _
   | exact window_Mean.mono _ _ _ _
   | exact LeO.none _
   | refine LeO.ite ?_ ?_
   | refine LeO.bind ?_ (fun _ => ?_)
  ·intro y0 y1 y2 y3 y4 y5 y6 y7
   unfold law10_WindowBounds.j1
   repeat' first
   | (with_reducible exact ih0 _ _ _ _ _ _ _)
   | (with_reducible exact ih1 _ _ _ _ _ _ _ _)
   | (with_reducible exact ih2 _ _ _ _ _ _ _ _)
   | (with_reducible exact law10_alive.mono _)
   | (with_reducible exact window_Arrive.mono _ _ _ _ _)
   | (with_reducible exact window_Mean.mono _ _ _ _)
   | (with_reducible exact LeO.refl _)
   | (with_reducible exact LeO.none _)
   | (with_reducible refine LeO.ite ?_ ?_)
   | (with_reducible refine LeO.bind ?_ (fun _ => ?_))
   | exact ih0 _ _ _ _ _ _ _
   | exact ih1 _ _ _ _ _ _ _ _
   | exact ih2 _ _ _ _ _ _ _ _
   | exact law10_alive.mono _
   | exact window_Arrive.mono _ _ _ _ _
   | exact window_Mean.mono _ _ _ _
   | exact LeO.none _
   | refine LeO.ite ?_ ?_
   | refine LeO.bind ?_ (fun _ => ?_)
  ·intro y0 y1 y2 y3 y4 y5 y6 y7
   unfold law10_WindowBounds.l1
   repeat' first
   | (with_reducible exact ih0 _ _ _ _ _ _ _)
   | (with_reducible exact ih1 _ _ _ _ _ _ _ _)
   | (with_reducible exact ih2 _ _ _ _ _ _ _ _)
   | (with_reducible exact law10_alive.mono _)
   | (with_reducible exact window_Arrive.mono _ _ _ _ _)
   | (with_reducible exact window_Mean.mono _ _ _ _)
   | (with_reducible exact LeO.refl _)
   | (with_reducible exact LeO.none _)
   | (with_reducible refine LeO.ite ?_ ?_)
   | (with_reducible refine LeO.bind ?_ (fun _ => ?_))
   | exact ih0 _ _ _ _ _ _ _
   | exact ih1 _ _ _ _ _ _ _ _
   | exact ih2 _ _ _ _ _ _ _ _
   | exact law10_alive.mono _
   | exact window_Arrive.mono _ _ _ _ _
   | exact window_Mean.mono _ _ _ _
   | exact LeO.none _
   | refine LeO.ite ?_ ?_
   | refine LeO.bind ?_ (fun _ => ?_)
theorem law10_WindowBounds.mono : ∀ a0 a1 k, LeO (law10_WindowBounds.f k a0 a1) (law10_WindowBounds.f (k + 1) a0 a1) := by
 intro a0 a1 k
 obtain ⟨ih0, ih1, ih2⟩ := law10_WindowBounds.mono_l k
 unfold law10_WindowBounds.f
 repeat' first
   | (with_reducible exact ih0 _ _ _ _ _ _ _)
   | (with_reducible exact ih1 _ _ _ _ _ _ _ _)
   | (with_reducible exact ih2 _ _ _ _ _ _ _ _)
   | (with_reducible exact law10_alive.mono _)
   | (with_reducible exact window_Arrive.mono _ _ _ _ _)
   | (with_reducible exact window_Mean.mono _ _ _ _)
   | (with_reducible exact LeO.refl _)
   | (with_reducible exact LeO.none _)
   | (with_reducible refine LeO.ite ?_ ?_)
   | (with_reducible refine LeO.bind ?_ (fun _ => ?_))
   | exact ih0 _ _ _ _ _ _ _
   | exact ih1 _ _ _ _ _ _ _ _
   | exact ih2 _ _ _ _ _ _ _ _
   | exact law10_alive.mono _
   | exact window_Arrive.mono _ _ _ _ _
   | exact window_Mean.mono _ _ _ _
   | exact LeO.none _
   | refine LeO.ite ?_ ?_
   | refine LeO.bind ?_ (fun _ => ?_)
set_option maxHeartbeats 8000000 in
set_option maxRecDepth 100000 in
theorem law10_WindowBounds.calls (k : Nat) (A0 : Option Addr) (c0 : Nat) (l0 : List Int) (a1 : Int) (r : Bool) (w : World) (hr0 : Kd.C (Kd.int .u16) w A0 l0.length l0) (hc0 : l0.length ≤ c0) (h : law10_WindowBounds.f k l0 a1 = some r) :
  Calls Try.prog 3 #[.slice A0 l0.length c0, .int .u16 a1] w fun e w' => e = .returned (.bool r) ∧ Below w.heap.size w w' := by
 have hu27 := Try.underlying27
 have HR0 := Aside0.mk hr0
 have HC0 := Aside0.mk hc0
 clear hr0 hc0
 have HB := Aside0.mk (Below.refl w.heap.size w)
 have H : ((law10_alive.f k).bind fun t101 => (if t101 = true then (if (l0.length : Int) > 200 then (some true) else ((window_New.f).bind fun bt102 => (law10_WindowBounds.l0 k l0 a1 0 (mx 1 (wrap64 (a1))) 0 bt102.1 bt102.2))) else (some false))) = some r := h
 clear h
 replace H := ob_ H
 obtain ⟨t101, A30, H⟩ := H
 replace H : (if t101 = true then (if (l0.length : Int) > 200 then (some true) else ((window_New.f).bind fun bt102 => (law10_WindowBounds.l0 k l0 a1 0 (mx 1 (wrap64 (a1))) 0 bt102.1 bt102.2))) else (some false)) = some r := H
 have A3 := Aside0.mk A30
 clear A30
 by_cases c4 : t101 = true
 ·subst c4
  have H1 : (if (l0.length : Int) > 200 then (some true) else ((window_New.f).bind fun bt102 => (law10_WindowBounds.l0 k l0 a1 0 (mx 1 (wrap64 (a1))) 0 bt102.1 bt102.2))) = some r := by rw [if_pos rfl] at H; exact H
  clear H
  have H := H1
  clear H1
  by_cases c5 : (l0.length : Int) > 200
  ·rw [if_pos c5] at H
   have c5b0 : decide (200 < (l0.length : Int)) = true := decide_eq_true c5
   have c5b1 : decide (200 < l0.length) = true := decide_eq_true (by omega)
   clear c5
   obtain rfl := Option.some.inj H
   go_enter Try.func3, Try.ntmps3
   go_wp2_with (first | ((with_reducible refine qn_ (f := 7) rfl ?_); refine goesL_ (some 13) rfl rfl Try.func7 (by kernel_rfl) rfl #[] rfl (by (try simp only [List.map_toArray, List.map_cons, List.map_nil]); first | done | rfl | (simp only [List.length_drop, List.length_take]; rfl)) ?_; (with_reducible refine (law10_alive.calls k  true _ A3.out).mono ?_); rintro e w6 ⟨rfl, hb⟩; refine ⟨_, rfl, ?_⟩; have n0_ := Aside0.mk (qm_ (by repeat (first | (with_reducible first | exact HB.out | apply qb_ | apply qa_ | apply qc_) | exact HB.out)) hb); clear HB; have HB := n0_; clear n0_; (try clear hb); (try clear hb2); (try clear hk); (try clear hi)))
   go_ret
   exact ⟨by first | rfl | (simp [errW_none, errW_some] <;> rfl) | (simp [*, errW_none, errW_some] <;> rfl), by repeat (first | (with_reducible first | exact HB.out | apply qb_ | apply qa_ | apply qc_) | exact HB.out)⟩
  ·rw [if_neg c5] at H
   have c5b0 : decide (200 < (l0.length : Int)) = false := decide_eq_false c5
   have c5b1 : decide (200 < l0.length) = false := decide_eq_false (by omega)
   clear c5
   replace H := ob_ H
   obtain ⟨⟨t102, t103⟩, A70, H⟩ := H
   replace H : (law10_WindowBounds.l0 k l0 a1 0 (mx 1 (wrap64 (a1))) 0 t102 t103) = some r := H
   have A7 := Aside0.mk A70
   clear A70
   obtain ⟨ji8, hji8⟩ : ∃ j_ : Int, (mx 1 (wrap64 (a1))) = j_ := ⟨_, rfl⟩
   replace H : (law10_WindowBounds.l0 k l0 a1 0 ji8 0 t102 t103) = some r := by first | (rw [hji8] at H; exact H) | (simp only [hji8] at H ⊢; exact H)
   (try rw [hji8] at A3)
   (try rw [hji8] at A7)
   (try (have hji8l : 1 ≤ ji8 := by (rw [← hji8]; unfold mx; (repeat' split) <;> omega)))
   (try (have hji8m : 0 ≤ ji8 := by omega))
   have hji8_ : (if 1 < (wrap64 (a1)) then (wrap64 (a1)) else 1) = ji8 := hji8
   have H' := Aside0.mk H
   clear H
   go_enter Try.func3, Try.ntmps3
   go_wp2_with (first | ((with_reducible refine qn_ (f := 7) rfl ?_); refine goesL_ (some 13) rfl rfl Try.func7 (by kernel_rfl) rfl #[] rfl (by (try simp only [List.map_toArray, List.map_cons, List.map_nil]); first | done | rfl | (simp only [List.length_drop, List.length_take]; rfl)) ?_; (with_reducible refine (law10_alive.calls k  true _ A3.out).mono ?_); rintro e w9 ⟨rfl, hb⟩; refine ⟨_, rfl, ?_⟩; have n0_ := Aside0.mk (qm_ (by repeat (first | (with_reducible first | exact HB.out | apply qb_ | apply qa_ | apply qc_) | exact HB.out)) hb); clear HB; have HB := n0_; clear n0_; (try clear hb); (try clear hb2); (try clear hk); (try clear hi)) | ((with_reducible refine qn_ (f := 8) rfl ?_); refine goesL_ (some 18) rfl rfl Try.func8 (by kernel_rfl) rfl #[] rfl (by (try simp only [List.map_toArray, List.map_cons, List.map_nil]); first | done | rfl | (simp only [List.length_drop, List.length_take]; rfl)) ?_; (with_reducible refine (window_New.calls  t102 t103 _ A7.out).mono ?_); rintro e w10 ⟨v104, rfl, ho0, hb⟩; refine ⟨_, rfl, ?_⟩; have n0_ := Aside0.mk (Kd.R_lower ho0 (ql_ (by repeat (first | (with_reducible first | exact HB.out | apply qb_ | apply qa_ | apply qc_) | exact HB.out)))); have n1_ := Aside0.mk (qm_ (by repeat (first | (with_reducible first | exact HB.out | apply qb_ | apply qa_ | apply qc_) | exact HB.out)) hb); clear HB; have HO105 := n0_; have HB := n1_; clear n0_ n1_; (try clear hb); (try clear hb2); (try clear hk); (try clear hi); (try clear ho0)) | ((with_reducible refine gate_dst (N := 5) rfl ?_); (try (refine gate_guard (by rfl) ?_; dsimp only)); refine box_event ?hg (N := 5) ?hd (cs := #[.int .i64 0, .slice none 0 0]) (t := 27) ?hr ?_; (case hd => rfl); (case hg => rfl); (case hr => first | (go_simp; done) | (go_simp; rfl)); intro gb106 hg w11 hbox hb; have n0_ := Aside0.mk (Kd.R_below (by (with_reducible repeat (first | apply Kd.qr_ | apply Kd.qq_ | apply Kd.R_drew)); exact HO105.out) hb); have n1_ := Aside0.mk (qm_ (by repeat (first | (with_reducible first | exact HB.out | apply qb_ | apply qa_ | apply qc_) | exact HB.out)) hb); have n2_ := Aside0.mk (hbox); have n3_ := Aside0.mk ((by rw [hg]; exact (ql_ (by repeat (first | (with_reducible first | exact HB.out | apply qb_ | apply qa_ | apply qc_) | exact HB.out))) : w.heap.size ≤ gb106)); have n4_ := Aside0.mk ((by rw [hg]; exact (ql_ (by repeat (first | (with_reducible first | exact HB.out | apply qb_ | apply qa_ | apply qc_) | exact HB.out))) : w.heap.size ≤ gb106)); clear HO105; clear HB; have HO105 := n0_; have HB := n1_; have BK106 := n2_; have GW106 := n3_; have GE106 := n4_; clear n0_ n1_ n2_ n3_ n4_; clear hb hbox hg; have hcz12_0 : w11.cell? ⟨gb106, 0, none⟩ = some (.int .i64 0) := (qi_ BK106.out 0).trans rfl; have hcz12_1 : w11.cell? ⟨gb106, 1, none⟩ = some (.slice none 0 0) := (qi_ BK106.out 1).trans rfl; have hfz12_0 := qf_ BK106.out 0; have hfz12_1 := qf_ BK106.out 1; obtain ⟨Ao13, co13, eo13⟩ := Kd.R_slice HO105.out; subst eo13))
   go_loopg [6, 8] k (fun kq v6 v8 w' => ∃ (x6_1 : Int) (x8_1 : Int) (x107000_1 : Int) (x107001_1 : List Int) (u107001 : Value), v6 = .int .i64 x6_1 ∧ v8 = .int .i64 x8_1 ∧ Aside0 (law10_WindowBounds.l0 kq l0 a1 x6_1 ji8 x8_1 x107000_1 x107001_1 = some r) ∧ Aside0 (kq ≤ k) ∧ Aside0 (Kd.V (Kd.int .i64) 3 w' w.heap.size (fun k_ => k_ ≠ gb106) u107001 x107001_1) ∧ Aside0 (w'.heap[gb106]? = some (.cells #[.int .i64 x107000_1, u107001] 27 (0, 0))) ∧ Aside0 (Below w.heap.size w w'))
   case atStart => exact ⟨(0), (0), (t102), (t103), (.slice Ao13 t103.length co13), (by first | rfl | (simp; done) | (simp [*]; done)), (by first | rfl | (simp; done) | (simp [*]; done)), H', ⟨Nat.le_refl _⟩, ⟨Kd.R_V (by (with_reducible repeat (first | apply Kd.qr_ | apply Kd.qq_ | apply Kd.R_drew)); exact Kd.R_mono (Kd.R_far (p := ⟨gb106, 1, none⟩) (Kd.R_far (p := ⟨gb106, 0, none⟩) (Kd.R_types (Kd.R_types HO105.out BK106.out (by decide)) BK106.out (by decide)) (fun _ hk => hk.2) (.int .i64 t102)) (fun _ hk => hk.2) (.slice Ao13 t103.length co13)) (fun _ hk => hk.1.2))⟩, ⟨by (with_reducible repeat (first | refine qd_ ?_ _ | refine qh_ ?_ | refine qe_ ?_ _)); refine blk_put (cs := #[.int .i64 t102, .slice none 0 0]) ?_ 1 _ rfl; (with_reducible repeat (first | refine qd_ ?_ _ | refine qh_ ?_ | refine qe_ ?_ _)); refine blk_put (cs := #[.int .i64 0, .slice none 0 0]) ?_ 0 _ rfl; (with_reducible repeat (first | refine qd_ ?_ _ | refine qh_ ?_ | refine qe_ ?_ _)); exact BK106.out⟩, ⟨by repeat (first | (with_reducible first | exact HB.out | apply qb_ | apply qa_ | apply qc_ | refine qg_ ?_ GE106.out) | exact HB.out)⟩⟩
   case round =>
    clear H'
    try clear p2
    try clear c3
    try clear c4
    try clear c5
    try clear c5b0
    try clear c5b1
    try clear p6
    try clear c7
    try clear c8
    try clear hcz12_0
    try clear hcz12_1
    try clear hfz12_0
    try clear hfz12_1
    obtain ⟨x6_1, x8_1, x107000_1, x107001_1, u107001, rfl, rfl, HA, HK1, HO_107001, BK106, HB⟩ := hrel
    cases gk with
    | zero => exact absurd HA.out (by simp [law10_WindowBounds.l0])
    | succ k1 =>
     have H := HA.out
     clear HA
     simp only [law10_WindowBounds.l0] at H
     by_cases c14 : x8_1 < (l0.length : Int)
     ·rw [if_pos c14] at H
      have c14b0 : decide (x8_1 < (l0.length : Int)) = true := decide_eq_true c14
      clear c14
      by_cases c15 : 0 ≤ x8_1
      ·rw [if_pos c15] at H
       have c15b0 : decide (0 ≤ x8_1) = true := decide_eq_true c15
       clear c15
       replace H := ob_ H
       obtain ⟨⟨t108, t109, t112⟩, A160, H⟩ := H
       replace H : (if t112 = 0 then ((window_Right.f t108 t109).bind fun t114 => (if t114 = true then (if t108 = (wrap64 (x6_1 + (wrap64 (rd l0 x8_1)))) then (law10_WindowBounds.j1 k1 l0 a1 (wrap64 (x6_1 + (wrap64 (rd l0 x8_1)))) ji8 x8_1 ((t109.length : Int) != (mn x8_1 16)) t108 t109) else (law10_WindowBounds.j1 k1 l0 a1 (wrap64 (x6_1 + (wrap64 (rd l0 x8_1)))) ji8 x8_1 true t108 t109)) else (law10_WindowBounds.j1 k1 l0 a1 (wrap64 (x6_1 + (wrap64 (rd l0 x8_1)))) ji8 x8_1 true t108 t109))) else (law10_WindowBounds.j1 k1 l0 a1 (wrap64 (x6_1 + (wrap64 (rd l0 x8_1)))) ji8 x8_1 true t108 t109)) = some r := H
       have A16 := Aside0.mk A160
       clear A160
       have HC17 := Aside0.mk H
       clear H
       have p107 : 0 ≤ (x8_1 : Int) := of_decide_eq_true (by first | (with_reducible assumption) | assumption)
       have q107 : x8_1 < (l0.length : Int) := of_decide_eq_true (by first | (with_reducible assumption) | assumption)
       obtain ⟨ad107, e107, hx107_0⟩ := Kd.at_int HR0.out x8_1 p107 q107
       cases e107
       replace hx107_0 := (HB.out.cell (wb_ w _ hx107_0)).trans hx107_0
       replace p107 := eq_true p107
       replace q107 := eq_true q107
       have hcz18_0 : wr.cell? ⟨gb106, 0, none⟩ = some (.int .i64 x107000_1) := (qi_ BK106.out 0).trans rfl
       have hcz18_1 : wr.cell? ⟨gb106, 1, none⟩ = some (u107001) := (qi_ BK106.out 1).trans rfl
       have hfz18_0 := qf_ BK106.out 0
       have hfz18_1 := qf_ BK106.out 1
       obtain ⟨Ao19, co19, eo19⟩ := Kd.V_slice HO_107001.out
       subst eo19
       go_upto_region 13 with (first | ((with_reducible refine qn_ (f := 9) rfl ?_); refine goesL_ (some 40) rfl rfl Try.func9 (by kernel_rfl) rfl #[.agg #[.int .i64 x107000_1, .slice Ao19 x107001_1.length co19], .int .i64 (wrap64 (x6_1 + (wrap64 (rd l0 x8_1)))), .int .i64 (wrap64 (a1))] rfl (by (try simp only [List.map_toArray, List.map_cons, List.map_nil]); first | done | rfl | (simp only [List.length_drop, List.length_take]; rfl)) ?_; (with_reducible refine (window_Arrive.calls k1 x107000_1 (fun k_ => k_ ≠ gb106) _ _ x107001_1 (wrap64 (x6_1 + (wrap64 (rd l0 x8_1)))) (wrap64 (a1)) t108 t109 t112 _ ?side1 A16.out).mono ?_); (case side1 => exact HO_107001.out); rintro e w20 ⟨v110, rfl, ho0, hb⟩; refine ⟨_, rfl, ?_⟩; have n0_ := Aside0.mk (Kd.qo_ (by (with_reducible repeat (first | apply Kd.qk_ | apply Kd.qj_ | apply Kd.V_drew)); exact HO_107001.out) hb); have n1_ := Aside0.mk (Kd.V_lower (Kd.V_mono (ok' := fun k_ => k_ ≠ gb106) ho0 (fun k_ hk_ => Or.elim hk_ (fun hs_ => hs_) (fun hn_ => (Kd.freshB (g := gb106) (o := .cells #[.int .i64 x107000_1, .slice Ao19 x107001_1.length co19] 27 (0, 0)) (by (with_reducible repeat (first | refine qd_ ?_ _ | refine qh_ ?_ | refine qe_ ?_ _)); exact BK106.out) k_ hn_)))) (ql_ (by repeat (first | (with_reducible first | exact HB.out | apply qb_ | apply qa_ | apply qc_ | refine qg_ ?_ GE106.out) | exact HB.out)))); have n2_ := Aside0.mk (qp_ (g := gb106) (o := .cells #[.int .i64 x107000_1, .slice Ao19 x107001_1.length co19] 27 (0, 0)) (by (with_reducible repeat (first | refine qd_ ?_ _ | refine qh_ ?_ | refine qe_ ?_ _)); exact BK106.out) hb); have n3_ := Aside0.mk (qm_ (by repeat (first | (with_reducible first | exact HB.out | apply qb_ | apply qa_ | apply qc_ | refine qg_ ?_ GE106.out) | exact HB.out)) hb); clear HO_107001; clear BK106; clear HB; have HO_107001 := n0_; have HO111 := n1_; have BK106 := n2_; have HB := n3_; clear n0_ n1_ n2_ n3_; (try clear hb); (try clear hb2); (try clear hk); (try clear hi); (try clear ho0)) | ((with_reducible refine gate_dst (N := 9) rfl ?_); (try (refine gate_guard (by rfl) ?_; dsimp only)); refine box_event ?hg (N := 9) ?hd (cs := #[.int .i64 0, .slice none 0 0]) (t := 27) ?hr ?_; (case hd => rfl); (case hg => rfl); (case hr => first | (go_simp; done) | (go_simp; rfl)); intro gb113 hg w21 hbox hb; have n0_ := Aside0.mk (Kd.qo_ (Kd.V_elderB (by (with_reducible repeat (first | apply Kd.qk_ | apply Kd.qj_ | apply Kd.V_drew)); exact HO_107001.out) gb113 (Nat.le_of_eq hg.symm)) hb); have n1_ := Aside0.mk (Kd.qo_ (Kd.V_elderB (by (with_reducible repeat (first | apply Kd.qk_ | apply Kd.qj_ | apply Kd.V_drew)); exact HO111.out) gb113 (Nat.le_of_eq hg.symm)) hb); have n2_ := Aside0.mk (qp_ (g := gb106) (o := .cells #[.int .i64 x107000_1, .slice Ao19 x107001_1.length co19] 27 (0, 0)) (by (with_reducible repeat (first | refine qd_ ?_ _ | refine qh_ ?_ | refine qe_ ?_ _)); exact BK106.out) hb); have n3_ := Aside0.mk (qm_ (by repeat (first | (with_reducible first | exact HB.out | apply qb_ | apply qa_ | apply qc_ | refine qg_ ?_ GE106.out) | exact HB.out)) hb); have n4_ := Aside0.mk (hbox); have n5_ := Aside0.mk ((by rw [hg]; exact (ql_ (by repeat (first | (with_reducible first | exact HB.out | apply qb_ | apply qa_ | apply qc_ | refine qg_ ?_ GE106.out) | exact HB.out))) : w.heap.size ≤ gb113)); have n6_ := Aside0.mk ((by rw [hg]; exact (ql_ (by repeat (first | (with_reducible first | exact HB.out | apply qb_ | apply qa_ | apply qc_ | refine qg_ ?_ GE106.out) | exact HB.out))) : w.heap.size ≤ gb113)); have n7_ := Aside0.mk ((by rw [hg]; exact Nat.ne_of_lt (blk_lt (g := gb106) (o := .cells #[.int .i64 x107000_1, .slice Ao19 x107001_1.length co19] 27 (0, 0)) (by (with_reducible repeat (first | refine qd_ ?_ _ | refine qh_ ?_ | refine qe_ ?_ _)); exact BK106.out)) : gb106 ≠ gb113)); have n8_ := Aside0.mk ((by rw [hg]; exact Nat.ne_of_gt (blk_lt (g := gb106) (o := .cells #[.int .i64 x107000_1, .slice Ao19 x107001_1.length co19] 27 (0, 0)) (by (with_reducible repeat (first | refine qd_ ?_ _ | refine qh_ ?_ | refine qe_ ?_ _)); exact BK106.out)) : gb113 ≠ gb106)); clear HO_107001; clear HO111; clear BK106; clear HB; have HO_107001 := n0_; have HO111 := n1_; have BK106 := n2_; have HB := n3_; have BK113 := n4_; have GW113 := n5_; have GE113 := n6_; have NB106_113 := n7_; have NB113_106 := n8_; clear n0_ n1_ n2_ n3_ n4_ n5_ n6_ n7_ n8_; clear hb hbox hg; have hnb22 := NB113_106.out; have hnc22 := NB106_113.out; have hcz23_0 : w21.cell? ⟨gb113, 0, none⟩ = some (.int .i64 0) := (qi_ BK113.out 0).trans rfl; have hcz23_1 : w21.cell? ⟨gb113, 1, none⟩ = some (.slice none 0 0) := (qi_ BK113.out 1).trans rfl; have hfz23_0 := qf_ BK113.out 0; have hfz23_1 := qf_ BK113.out 1; obtain ⟨Ao24, co24, eo24⟩ := Kd.V_slice HO111.out; subst eo24))
       (try simp only [Act.put, sa_, sb_, sc_])
       go_cut [63] (fun v63 wc => ∃ (kq : Nat) (x63_16 : Bool), v63 = .bool x63_16 ∧ Aside0 (law10_WindowBounds.j1 kq l0 a1 (wrap64 (x6_1 + (wrap64 (rd l0 x8_1)))) ji8 x8_1 x63_16 t108 t109 = some r) ∧ Aside0 (kq ≤ k1) ∧ Aside0 (Kd.V (Kd.int .i64) 3 wc w.heap.size (fun k_ => k_ ≠ gb106 ∧ k_ ≠ gb113) (.slice Ao19 x107001_1.length co19) x107001_1) ∧ Aside0 (Kd.V (Kd.int .i64) 3 wc w.heap.size (fun k_ => k_ ≠ gb106 ∧ k_ ≠ gb113) (.slice Ao24 t109.length co24) t109) ∧ Aside0 (wc.heap[gb106]? = some (.cells #[.int .i64 x107000_1, (.slice Ao19 x107001_1.length co19)] 27 (0, 0))) ∧ Aside0 (wc.heap[gb113]? = some (.cells #[.int .i64 t108, (.slice Ao24 t109.length co24)] 27 (0, 0))) ∧ Aside0 (Below w.heap.size w wc))
       case first =>
        have H := HC17.out
        clear HC17
        by_cases c25 : t112 = 0
        ·rw [if_pos c25] at H
         have c25b0 : (t112 == 0) = true := beq_iff_eq.mpr c25
         have c25b1 : (t112 != 0) = false := bne_eq_false_iff_eq.mpr c25
         clear c25
         (first | rw [c25b0] | (simp only [i64_w, i32_w]; rw [c25b0]) | skip)
         replace H := ob_ H
         obtain ⟨t114, A260, H⟩ := H
         replace H : (if t114 = true then (if t108 = (wrap64 (x6_1 + (wrap64 (rd l0 x8_1)))) then (law10_WindowBounds.j1 k1 l0 a1 (wrap64 (x6_1 + (wrap64 (rd l0 x8_1)))) ji8 x8_1 ((t109.length : Int) != (mn x8_1 16)) t108 t109) else (law10_WindowBounds.j1 k1 l0 a1 (wrap64 (x6_1 + (wrap64 (rd l0 x8_1)))) ji8 x8_1 true t108 t109)) else (law10_WindowBounds.j1 k1 l0 a1 (wrap64 (x6_1 + (wrap64 (rd l0 x8_1)))) ji8 x8_1 true t108 t109)) = some r := H
         have A26 := Aside0.mk A260
         clear A260
         by_cases c27 : t114 = true
         ·subst c27
          have H1 : (if t108 = (wrap64 (x6_1 + (wrap64 (rd l0 x8_1)))) then (law10_WindowBounds.j1 k1 l0 a1 (wrap64 (x6_1 + (wrap64 (rd l0 x8_1)))) ji8 x8_1 ((t109.length : Int) != (mn x8_1 16)) t108 t109) else (law10_WindowBounds.j1 k1 l0 a1 (wrap64 (x6_1 + (wrap64 (rd l0 x8_1)))) ji8 x8_1 true t108 t109)) = some r := by rw [if_pos rfl] at H; exact H
          clear H
          have H := H1
          clear H1
          by_cases c28 : t108 = (wrap64 (x6_1 + (wrap64 (rd l0 x8_1))))
          ·rw [if_pos c28] at H
           have c28b0 : (t108 == (wrap64 (x6_1 + (wrap64 (rd l0 x8_1))))) = true := beq_iff_eq.mpr c28
           have c28b1 : (t108 != (wrap64 (x6_1 + (wrap64 (rd l0 x8_1))))) = false := bne_eq_false_iff_eq.mpr c28
           clear c28
           obtain ⟨ji29, hji29⟩ : ∃ j_ : Int, (mn x8_1 16) = j_ := ⟨_, rfl⟩
           replace H : (law10_WindowBounds.j1 k1 l0 a1 (wrap64 (x6_1 + (wrap64 (rd l0 x8_1)))) ji8 x8_1 ((t109.length : Int) != (ji29)) t108 t109) = some r := by first | (rw [hji29] at H; exact H) | (simp only [hji29] at H ⊢; exact H)
           (try rw [hji29] at A26)
           have hji29_ : (if 16 < x8_1 then 16 else x8_1) = ji29 := hji29
           have H' := Aside0.mk H
           clear H
           have hnb30 := NB113_106.out
           have hnc30 := NB106_113.out
           have hcz31_0 : w21.cell? ⟨gb113, 0, none⟩ = some (.int .i64 0) := (qi_ BK113.out 0).trans rfl
           have hcz31_1 : w21.cell? ⟨gb113, 1, none⟩ = some (.slice none 0 0) := (qi_ BK113.out 1).trans rfl
           have hfz31_0 := qf_ BK113.out 0
           have hfz31_1 := qf_ BK113.out 1
           go_wp2_with (first | (go_at_call 10; (with_reducible refine (window_Right.calls t108 _ _ t109 true _ ?side1 ?side2 A26.out).mono ?_); (case side1 => refine (Kd.V_reads' (e := 3) (base := w.heap.size) (ok := fun k_ => (k_ ≠ gb106 ∧ k_ ≠ gb113)) (n := t109.length) (c := co24) ?_).2.2; exact (by (with_reducible repeat (first | apply Kd.qk_ | apply Kd.qj_ | apply Kd.V_drew)); exact (Kd.V_mono (Kd.V_far (p := ⟨gb113, 1, none⟩) (Kd.V_far (p := ⟨gb113, 0, none⟩) (Kd.V_mono HO111.out (fun k_ hk => (⟨hk, hk.2⟩ : _ ∧ k_ ≠ gb113))) (fun _ hk => hk.2) (.int .i64 t108)) (fun _ hk => hk.2) (.slice Ao24 t109.length co24)) (fun _ h_ => h_.1)))); (case side2 => exact (Kd.V_reads' HO111.out).2.1); rintro e w32 ⟨rfl, hb⟩; have n0_ := Aside0.mk (Kd.qo_ (by (with_reducible repeat (first | apply Kd.qk_ | apply Kd.qj_ | apply Kd.V_drew)); exact (Kd.V_mono (Kd.V_far (p := ⟨gb113, 1, none⟩) (Kd.V_far (p := ⟨gb113, 0, none⟩) (Kd.V_mono HO_107001.out (fun k_ hk => (⟨hk, hk.2⟩ : _ ∧ k_ ≠ gb113))) (fun _ hk => hk.2) (.int .i64 t108)) (fun _ hk => hk.2) (.slice Ao24 t109.length co24)) (fun _ h_ => h_.1))) hb); have n1_ := Aside0.mk (Kd.qo_ (by (with_reducible repeat (first | apply Kd.qk_ | apply Kd.qj_ | apply Kd.V_drew)); exact (Kd.V_mono (Kd.V_far (p := ⟨gb113, 1, none⟩) (Kd.V_far (p := ⟨gb113, 0, none⟩) (Kd.V_mono HO111.out (fun k_ hk => (⟨hk, hk.2⟩ : _ ∧ k_ ≠ gb113))) (fun _ hk => hk.2) (.int .i64 t108)) (fun _ hk => hk.2) (.slice Ao24 t109.length co24)) (fun _ h_ => h_.1))) hb); have n2_ := Aside0.mk (qp_ (g := gb106) (o := .cells #[.int .i64 x107000_1, .slice Ao19 x107001_1.length co19] 27 (0, 0)) (by (with_reducible repeat (first | refine qd_ ?_ _ | refine qh_ ?_ | refine qe_ ?_ _)); refine blk_far ?_ NB106_113.out _; (with_reducible repeat (first | refine qd_ ?_ _ | refine qh_ ?_ | refine qe_ ?_ _)); refine blk_far ?_ NB106_113.out _; (with_reducible repeat (first | refine qd_ ?_ _ | refine qh_ ?_ | refine qe_ ?_ _)); exact BK106.out) hb); have n3_ := Aside0.mk (qp_ (g := gb113) (o := .cells #[.int .i64 t108, .slice Ao24 t109.length co24] 27 (0, 0)) (by (with_reducible repeat (first | refine qd_ ?_ _ | refine qh_ ?_ | refine qe_ ?_ _)); refine blk_put (cs := #[.int .i64 t108, .slice none 0 0]) ?_ 1 _ rfl; (with_reducible repeat (first | refine qd_ ?_ _ | refine qh_ ?_ | refine qe_ ?_ _)); refine blk_put (cs := #[.int .i64 0, .slice none 0 0]) ?_ 0 _ rfl; (with_reducible repeat (first | refine qd_ ?_ _ | refine qh_ ?_ | refine qe_ ?_ _)); exact BK113.out) hb); have n4_ := Aside0.mk (qm_ (by repeat (first | (with_reducible first | exact HB.out | apply qb_ | apply qa_ | apply qc_ | refine qg_ ?_ GE106.out | refine qg_ ?_ GE113.out) | exact HB.out)) hb); clear HO_107001; clear HO111; clear BK106; clear BK113; clear HB; have HO_107001 := n0_; have HO111 := n1_; have BK106 := n2_; have BK113 := n3_; have HB := n4_; clear n0_ n1_ n2_ n3_ n4_; (try clear hb); (try clear hb2); (try clear hk); (try clear hi); have hcz33_0 : w32.cell? ⟨gb113, 0, none⟩ = some (.int .i64 t108) := (qi_ BK113.out 0).trans rfl; have hcz33_1 : w32.cell? ⟨gb113, 1, none⟩ = some (.slice Ao24 t109.length co24) := (qi_ BK113.out 1).trans rfl; have hfz33_0 := qf_ BK113.out 0; have hfz33_1 := qf_ BK113.out 1))
           go_meet
           case rel => exact ⟨_, (((t109.length : Int) != (ji29))), (by first | rfl | (simp; done) | (simp only [← hji29] <;> (first | rfl | simp)) | (simp [*]; done)), H', ⟨by have := HK1.out; first | omega | exact Nat.le_refl _⟩, ⟨by (with_reducible repeat (first | apply Kd.qk_ | apply Kd.qj_ | apply Kd.V_drew)); exact HO_107001.out⟩, ⟨by (with_reducible repeat (first | apply Kd.qk_ | apply Kd.qj_ | apply Kd.V_drew)); exact HO111.out⟩, ⟨by (with_reducible repeat (first | refine qd_ ?_ _ | refine qh_ ?_ | refine qe_ ?_ _)); exact BK106.out⟩, ⟨by (with_reducible repeat (first | refine qd_ ?_ _ | refine qh_ ?_ | refine qe_ ?_ _)); exact BK113.out⟩, ⟨by repeat (first | (with_reducible first | exact HB.out | apply qb_ | apply qa_ | apply qc_ | refine qg_ ?_ GE106.out | refine qg_ ?_ GE113.out) | exact HB.out)⟩⟩
          ·rw [if_neg c28] at H
           have c28b0 : (t108 == (wrap64 (x6_1 + (wrap64 (rd l0 x8_1))))) = false := beq_eq_false_iff_ne.mpr c28
           have c28b1 : (t108 != (wrap64 (x6_1 + (wrap64 (rd l0 x8_1))))) = true := bne_iff_ne.mpr c28
           have H' := Aside0.mk H
           clear H
           have hnb34 := NB113_106.out
           have hnc34 := NB106_113.out
           have hcz35_0 : w21.cell? ⟨gb113, 0, none⟩ = some (.int .i64 0) := (qi_ BK113.out 0).trans rfl
           have hcz35_1 : w21.cell? ⟨gb113, 1, none⟩ = some (.slice none 0 0) := (qi_ BK113.out 1).trans rfl
           have hfz35_0 := qf_ BK113.out 0
           have hfz35_1 := qf_ BK113.out 1
           go_wp2_with (first | (go_at_call 10; (with_reducible refine (window_Right.calls t108 _ _ t109 true _ ?side1 ?side2 A26.out).mono ?_); (case side1 => refine (Kd.V_reads' (e := 3) (base := w.heap.size) (ok := fun k_ => (k_ ≠ gb106 ∧ k_ ≠ gb113)) (n := t109.length) (c := co24) ?_).2.2; exact (by (with_reducible repeat (first | apply Kd.qk_ | apply Kd.qj_ | apply Kd.V_drew)); exact (Kd.V_mono (Kd.V_far (p := ⟨gb113, 1, none⟩) (Kd.V_far (p := ⟨gb113, 0, none⟩) (Kd.V_mono HO111.out (fun k_ hk => (⟨hk, hk.2⟩ : _ ∧ k_ ≠ gb113))) (fun _ hk => hk.2) (.int .i64 t108)) (fun _ hk => hk.2) (.slice Ao24 t109.length co24)) (fun _ h_ => h_.1)))); (case side2 => exact (Kd.V_reads' HO111.out).2.1); rintro e w36 ⟨rfl, hb⟩; have n0_ := Aside0.mk (Kd.qo_ (by (with_reducible repeat (first | apply Kd.qk_ | apply Kd.qj_ | apply Kd.V_drew)); exact (Kd.V_mono (Kd.V_far (p := ⟨gb113, 1, none⟩) (Kd.V_far (p := ⟨gb113, 0, none⟩) (Kd.V_mono HO_107001.out (fun k_ hk => (⟨hk, hk.2⟩ : _ ∧ k_ ≠ gb113))) (fun _ hk => hk.2) (.int .i64 t108)) (fun _ hk => hk.2) (.slice Ao24 t109.length co24)) (fun _ h_ => h_.1))) hb); have n1_ := Aside0.mk (Kd.qo_ (by (with_reducible repeat (first | apply Kd.qk_ | apply Kd.qj_ | apply Kd.V_drew)); exact (Kd.V_mono (Kd.V_far (p := ⟨gb113, 1, none⟩) (Kd.V_far (p := ⟨gb113, 0, none⟩) (Kd.V_mono HO111.out (fun k_ hk => (⟨hk, hk.2⟩ : _ ∧ k_ ≠ gb113))) (fun _ hk => hk.2) (.int .i64 t108)) (fun _ hk => hk.2) (.slice Ao24 t109.length co24)) (fun _ h_ => h_.1))) hb); have n2_ := Aside0.mk (qp_ (g := gb106) (o := .cells #[.int .i64 x107000_1, .slice Ao19 x107001_1.length co19] 27 (0, 0)) (by (with_reducible repeat (first | refine qd_ ?_ _ | refine qh_ ?_ | refine qe_ ?_ _)); refine blk_far ?_ NB106_113.out _; (with_reducible repeat (first | refine qd_ ?_ _ | refine qh_ ?_ | refine qe_ ?_ _)); refine blk_far ?_ NB106_113.out _; (with_reducible repeat (first | refine qd_ ?_ _ | refine qh_ ?_ | refine qe_ ?_ _)); exact BK106.out) hb); have n3_ := Aside0.mk (qp_ (g := gb113) (o := .cells #[.int .i64 t108, .slice Ao24 t109.length co24] 27 (0, 0)) (by (with_reducible repeat (first | refine qd_ ?_ _ | refine qh_ ?_ | refine qe_ ?_ _)); refine blk_put (cs := #[.int .i64 t108, .slice none 0 0]) ?_ 1 _ rfl; (with_reducible repeat (first | refine qd_ ?_ _ | refine qh_ ?_ | refine qe_ ?_ _)); refine blk_put (cs := #[.int .i64 0, .slice none 0 0]) ?_ 0 _ rfl; (with_reducible repeat (first | refine qd_ ?_ _ | refine qh_ ?_ | refine qe_ ?_ _)); exact BK113.out) hb); have n4_ := Aside0.mk (qm_ (by repeat (first | (with_reducible first | exact HB.out | apply qb_ | apply qa_ | apply qc_ | refine qg_ ?_ GE106.out | refine qg_ ?_ GE113.out) | exact HB.out)) hb); clear HO_107001; clear HO111; clear BK106; clear BK113; clear HB; have HO_107001 := n0_; have HO111 := n1_; have BK106 := n2_; have BK113 := n3_; have HB := n4_; clear n0_ n1_ n2_ n3_ n4_; (try clear hb); (try clear hb2); (try clear hk); (try clear hi); have hcz37_0 : w36.cell? ⟨gb113, 0, none⟩ = some (.int .i64 t108) := (qi_ BK113.out 0).trans rfl; have hcz37_1 : w36.cell? ⟨gb113, 1, none⟩ = some (.slice Ao24 t109.length co24) := (qi_ BK113.out 1).trans rfl; have hfz37_0 := qf_ BK113.out 0; have hfz37_1 := qf_ BK113.out 1))
           go_meet
           case rel => exact ⟨_, (true), (by first | rfl | (simp; done) | (simp [*]; done)), H', ⟨by have := HK1.out; first | omega | exact Nat.le_refl _⟩, ⟨by (with_reducible repeat (first | apply Kd.qk_ | apply Kd.qj_ | apply Kd.V_drew)); exact HO_107001.out⟩, ⟨by (with_reducible repeat (first | apply Kd.qk_ | apply Kd.qj_ | apply Kd.V_drew)); exact HO111.out⟩, ⟨by (with_reducible repeat (first | refine qd_ ?_ _ | refine qh_ ?_ | refine qe_ ?_ _)); exact BK106.out⟩, ⟨by (with_reducible repeat (first | refine qd_ ?_ _ | refine qh_ ?_ | refine qe_ ?_ _)); exact BK113.out⟩, ⟨by repeat (first | (with_reducible first | exact HB.out | apply qb_ | apply qa_ | apply qc_ | refine qg_ ?_ GE106.out | refine qg_ ?_ GE113.out) | exact HB.out)⟩⟩
         ·replace c27 := Bool.eq_false_iff.mpr c27
          subst c27
          have H1 : (law10_WindowBounds.j1 k1 l0 a1 (wrap64 (x6_1 + (wrap64 (rd l0 x8_1)))) ji8 x8_1 true t108 t109) = some r := by rw [if_neg (show ¬ (false = true) by decide)] at H; exact H
          clear H
          have H := H1
          clear H1
          have H' := Aside0.mk H
          clear H
          have hnb38 := NB113_106.out
          have hnc38 := NB106_113.out
          have hcz39_0 : w21.cell? ⟨gb113, 0, none⟩ = some (.int .i64 0) := (qi_ BK113.out 0).trans rfl
          have hcz39_1 : w21.cell? ⟨gb113, 1, none⟩ = some (.slice none 0 0) := (qi_ BK113.out 1).trans rfl
          have hfz39_0 := qf_ BK113.out 0
          have hfz39_1 := qf_ BK113.out 1
          go_wp2_with (first | (go_at_call 10; (with_reducible refine (window_Right.calls t108 _ _ t109 false _ ?side1 ?side2 A26.out).mono ?_); (case side1 => refine (Kd.V_reads' (e := 3) (base := w.heap.size) (ok := fun k_ => (k_ ≠ gb106 ∧ k_ ≠ gb113)) (n := t109.length) (c := co24) ?_).2.2; exact (by (with_reducible repeat (first | apply Kd.qk_ | apply Kd.qj_ | apply Kd.V_drew)); exact (Kd.V_mono (Kd.V_far (p := ⟨gb113, 1, none⟩) (Kd.V_far (p := ⟨gb113, 0, none⟩) (Kd.V_mono HO111.out (fun k_ hk => (⟨hk, hk.2⟩ : _ ∧ k_ ≠ gb113))) (fun _ hk => hk.2) (.int .i64 t108)) (fun _ hk => hk.2) (.slice Ao24 t109.length co24)) (fun _ h_ => h_.1)))); (case side2 => exact (Kd.V_reads' HO111.out).2.1); rintro e w40 ⟨rfl, hb⟩; have n0_ := Aside0.mk (Kd.qo_ (by (with_reducible repeat (first | apply Kd.qk_ | apply Kd.qj_ | apply Kd.V_drew)); exact (Kd.V_mono (Kd.V_far (p := ⟨gb113, 1, none⟩) (Kd.V_far (p := ⟨gb113, 0, none⟩) (Kd.V_mono HO_107001.out (fun k_ hk => (⟨hk, hk.2⟩ : _ ∧ k_ ≠ gb113))) (fun _ hk => hk.2) (.int .i64 t108)) (fun _ hk => hk.2) (.slice Ao24 t109.length co24)) (fun _ h_ => h_.1))) hb); have n1_ := Aside0.mk (Kd.qo_ (by (with_reducible repeat (first | apply Kd.qk_ | apply Kd.qj_ | apply Kd.V_drew)); exact (Kd.V_mono (Kd.V_far (p := ⟨gb113, 1, none⟩) (Kd.V_far (p := ⟨gb113, 0, none⟩) (Kd.V_mono HO111.out (fun k_ hk => (⟨hk, hk.2⟩ : _ ∧ k_ ≠ gb113))) (fun _ hk => hk.2) (.int .i64 t108)) (fun _ hk => hk.2) (.slice Ao24 t109.length co24)) (fun _ h_ => h_.1))) hb); have n2_ := Aside0.mk (qp_ (g := gb106) (o := .cells #[.int .i64 x107000_1, .slice Ao19 x107001_1.length co19] 27 (0, 0)) (by (with_reducible repeat (first | refine qd_ ?_ _ | refine qh_ ?_ | refine qe_ ?_ _)); refine blk_far ?_ NB106_113.out _; (with_reducible repeat (first | refine qd_ ?_ _ | refine qh_ ?_ | refine qe_ ?_ _)); refine blk_far ?_ NB106_113.out _; (with_reducible repeat (first | refine qd_ ?_ _ | refine qh_ ?_ | refine qe_ ?_ _)); exact BK106.out) hb); have n3_ := Aside0.mk (qp_ (g := gb113) (o := .cells #[.int .i64 t108, .slice Ao24 t109.length co24] 27 (0, 0)) (by (with_reducible repeat (first | refine qd_ ?_ _ | refine qh_ ?_ | refine qe_ ?_ _)); refine blk_put (cs := #[.int .i64 t108, .slice none 0 0]) ?_ 1 _ rfl; (with_reducible repeat (first | refine qd_ ?_ _ | refine qh_ ?_ | refine qe_ ?_ _)); refine blk_put (cs := #[.int .i64 0, .slice none 0 0]) ?_ 0 _ rfl; (with_reducible repeat (first | refine qd_ ?_ _ | refine qh_ ?_ | refine qe_ ?_ _)); exact BK113.out) hb); have n4_ := Aside0.mk (qm_ (by repeat (first | (with_reducible first | exact HB.out | apply qb_ | apply qa_ | apply qc_ | refine qg_ ?_ GE106.out | refine qg_ ?_ GE113.out) | exact HB.out)) hb); clear HO_107001; clear HO111; clear BK106; clear BK113; clear HB; have HO_107001 := n0_; have HO111 := n1_; have BK106 := n2_; have BK113 := n3_; have HB := n4_; clear n0_ n1_ n2_ n3_ n4_; (try clear hb); (try clear hb2); (try clear hk); (try clear hi)))
          go_meet
          case rel => exact ⟨_, (true), (by first | rfl | (simp; done) | (simp [*]; done)), H', ⟨by have := HK1.out; first | omega | exact Nat.le_refl _⟩, ⟨by (with_reducible repeat (first | apply Kd.qk_ | apply Kd.qj_ | apply Kd.V_drew)); exact HO_107001.out⟩, ⟨by (with_reducible repeat (first | apply Kd.qk_ | apply Kd.qj_ | apply Kd.V_drew)); exact HO111.out⟩, ⟨by (with_reducible repeat (first | refine qd_ ?_ _ | refine qh_ ?_ | refine qe_ ?_ _)); exact BK106.out⟩, ⟨by (with_reducible repeat (first | refine qd_ ?_ _ | refine qh_ ?_ | refine qe_ ?_ _)); exact BK113.out⟩, ⟨by repeat (first | (with_reducible first | exact HB.out | apply qb_ | apply qa_ | apply qc_ | refine qg_ ?_ GE106.out | refine qg_ ?_ GE113.out) | exact HB.out)⟩⟩
        ·rw [if_neg c25] at H
         have c25b0 : (t112 == 0) = false := beq_eq_false_iff_ne.mpr c25
         have c25b1 : (t112 != 0) = true := bne_iff_ne.mpr c25
         (first | rw [c25b0] | (simp only [i64_w, i32_w]; rw [c25b0]) | skip)
         have H' := Aside0.mk H
         clear H
         go_wp2
         go_meet
         case rel => exact ⟨_, (true), (by first | rfl | (simp; done) | (simp [*]; done)), H', ⟨by have := HK1.out; first | omega | exact Nat.le_refl _⟩, ⟨by (with_reducible repeat (first | apply Kd.qk_ | apply Kd.qj_ | apply Kd.V_drew)); exact Kd.V_mono (Kd.V_far (p := ⟨gb113, 1, none⟩) (Kd.V_far (p := ⟨gb113, 0, none⟩) (Kd.V_mono HO_107001.out (fun k_ hk => (⟨hk, hk.2⟩ : _ ∧ k_ ≠ gb113))) (fun _ hk => hk.2) (.int .i64 t108)) (fun _ hk => hk.2) (.slice Ao24 t109.length co24)) (fun _ hk => ⟨hk.1.1, hk.1.2⟩)⟩, ⟨by (with_reducible repeat (first | apply Kd.qk_ | apply Kd.qj_ | apply Kd.V_drew)); exact Kd.V_mono (Kd.V_far (p := ⟨gb113, 1, none⟩) (Kd.V_far (p := ⟨gb113, 0, none⟩) (Kd.V_mono HO111.out (fun k_ hk => (⟨hk, hk.2⟩ : _ ∧ k_ ≠ gb113))) (fun _ hk => hk.2) (.int .i64 t108)) (fun _ hk => hk.2) (.slice Ao24 t109.length co24)) (fun _ hk => ⟨hk.1.1, hk.1.2⟩)⟩, ⟨by (with_reducible repeat (first | refine qd_ ?_ _ | refine qh_ ?_ | refine qe_ ?_ _)); refine blk_far ?_ NB106_113.out _; (with_reducible repeat (first | refine qd_ ?_ _ | refine qh_ ?_ | refine qe_ ?_ _)); refine blk_far ?_ NB106_113.out _; (with_reducible repeat (first | refine qd_ ?_ _ | refine qh_ ?_ | refine qe_ ?_ _)); exact BK106.out⟩, ⟨by (with_reducible repeat (first | refine qd_ ?_ _ | refine qh_ ?_ | refine qe_ ?_ _)); refine blk_put (cs := #[.int .i64 t108, .slice none 0 0]) ?_ 1 _ rfl; (with_reducible repeat (first | refine qd_ ?_ _ | refine qh_ ?_ | refine qe_ ?_ _)); refine blk_put (cs := #[.int .i64 0, .slice none 0 0]) ?_ 0 _ rfl; (with_reducible repeat (first | refine qd_ ?_ _ | refine qh_ ?_ | refine qe_ ?_ _)); exact BK113.out⟩, ⟨by repeat (first | (with_reducible first | exact HB.out | apply qb_ | apply qa_ | apply qc_ | refine qg_ ?_ GE106.out | refine qg_ ?_ GE113.out) | exact HB.out)⟩⟩
       case rest =>
        clear HC17
        try clear c1
        try clear p1
        try clear q1
        try clear hx1
        try clear c2
        try clear p2
        try clear c3
        try clear c4
        try clear c5
        try clear c5b0
        try clear c5b1
        try clear p6
        try clear c7
        try clear c8
        try clear c9
        try clear p10
        try clear q10
        try clear hx10
        try clear c14
        try clear c14b0
        try clear c15
        try clear c15b0
        try clear c22
        try clear c25
        try clear c25b0
        try clear c25b1
        try clear c27
        try clear c28
        try clear c28b0
        try clear c28b1
        try clear c30
        try clear c34
        try clear c38
        try clear hcz12_0
        try clear hcz12_1
        try clear hcz18_0
        try clear hcz18_1
        try clear hcz23_0
        try clear hcz23_1
        try clear hcz31_0
        try clear hcz31_1
        try clear hcz33_0
        try clear hcz33_1
        try clear hcz35_0
        try clear hcz35_1
        try clear hcz37_0
        try clear hcz37_1
        try clear hcz39_0
        try clear hcz39_1
        try clear hfz12_0
        try clear hfz12_1
        try clear hfz18_0
        try clear hfz18_1
        try clear hfz23_0
        try clear hfz23_1
        try clear hfz31_0
        try clear hfz31_1
        try clear hfz33_0
        try clear hfz33_1
        try clear hfz35_0
        try clear hfz35_1
        try clear hfz37_0
        try clear hfz37_1
        try clear hfz39_0
        try clear hfz39_1
        try clear hx107_0
        try clear p107
        try clear p2
        try clear p6
        try clear q107
        obtain ⟨kq, x63_16, rfl, HA, HJ16, HO_107001, HO_114001, BK106, BK113, HB⟩ := hcut
        cases kq with
        | zero => exact absurd HA.out (by simp [law10_WindowBounds.j1])
        | succ kj16 =>
         have H := HA.out
         clear HA
         simp only [law10_WindowBounds.j1] at H
         by_cases c41 : x63_16 = true
         ·subst c41
          have H1 : (some false) = some r := by rw [if_pos rfl] at H; exact H
          clear H
          have H := H1
          clear H1
          obtain rfl := Option.some.inj H
          go_wp2
          go_ret
          exact ⟨by first | rfl | (simp [errW_none, errW_some] <;> rfl) | (simp only [← hji8]; first | rfl | (simp [errW_none, errW_some] <;> rfl)) | (simp [*, errW_none, errW_some] <;> rfl), by repeat (first | (with_reducible first | exact HB.out | apply qb_ | apply qa_ | apply qc_ | refine qg_ ?_ GE106.out | refine qg_ ?_ GE113.out) | exact HB.out)⟩
         ·replace c41 := Bool.eq_false_iff.mpr c41
          subst c41
          have H1 : (law10_WindowBounds.l1 kj16 l0 a1 (wrap64 (x6_1 + (wrap64 (rd l0 x8_1)))) ji8 x8_1 0 t108 t109) = some r := by rw [if_neg (show ¬ (false = true) by decide)] at H; exact H
          clear H
          have H := H1
          clear H1
          have H' := Aside0.mk H
          clear H
          go_wp2
          go_loopg [11] kj16 (fun kq v11 w' => ∃ (x11_3 : Int), v11 = .int .i64 x11_3 ∧ Aside0 (law10_WindowBounds.l1 kq l0 a1 (wrap64 (x6_1 + (wrap64 (rd l0 x8_1)))) ji8 x8_1 x11_3 t108 t109 = some r) ∧ Aside0 (kq ≤ kj16) ∧ Aside0 (Kd.V (Kd.int .i64) 3 w' w.heap.size (fun k_ => k_ ≠ gb106 ∧ k_ ≠ gb113) (.slice Ao19 x107001_1.length co19) x107001_1) ∧ Aside0 (Kd.V (Kd.int .i64) 3 w' w.heap.size (fun k_ => k_ ≠ gb106 ∧ k_ ≠ gb113) (.slice Ao24 t109.length co24) t109) ∧ Aside0 (w'.heap[gb106]? = some (.cells #[.int .i64 x107000_1, (.slice Ao19 x107001_1.length co19)] 27 (0, 0))) ∧ Aside0 (w'.heap[gb113]? = some (.cells #[.int .i64 t108, (.slice Ao24 t109.length co24)] 27 (0, 0))) ∧ Aside0 (Below w.heap.size w w'))
          case atStart => exact ⟨(0), (by first | rfl | (simp; done) | (simp [*]; done)), H', ⟨Nat.le_refl _⟩, ⟨by (with_reducible repeat (first | apply Kd.qk_ | apply Kd.qj_ | apply Kd.V_drew)); exact HO_107001.out⟩, ⟨by (with_reducible repeat (first | apply Kd.qk_ | apply Kd.qj_ | apply Kd.V_drew)); exact HO_114001.out⟩, ⟨by (with_reducible repeat (first | refine qd_ ?_ _ | refine qh_ ?_ | refine qe_ ?_ _)); exact BK106.out⟩, ⟨by (with_reducible repeat (first | refine qd_ ?_ _ | refine qh_ ?_ | refine qe_ ?_ _)); exact BK113.out⟩, ⟨by repeat (first | (with_reducible first | exact HB.out | apply qb_ | apply qa_ | apply qc_ | refine qg_ ?_ GE106.out | refine qg_ ?_ GE113.out) | exact HB.out)⟩⟩
          case round =>
           clear H'
           try clear c1
           try clear p1
           try clear q1
           try clear hx1
           try clear c2
           try clear p2
           try clear c3
           try clear c4
           try clear c5
           try clear c5b0
           try clear c5b1
           try clear p6
           try clear c7
           try clear c8
           try clear c9
           try clear p10
           try clear q10
           try clear hx10
           try clear c14
           try clear c14b0
           try clear c15
           try clear c15b0
           try clear c22
           try clear c25
           try clear c25b0
           try clear c25b1
           try clear c27
           try clear c28
           try clear c28b0
           try clear c28b1
           try clear c30
           try clear c34
           try clear c38
           try clear c41
           try clear hcz12_0
           try clear hcz12_1
           try clear hcz18_0
           try clear hcz18_1
           try clear hcz23_0
           try clear hcz23_1
           try clear hcz31_0
           try clear hcz31_1
           try clear hcz33_0
           try clear hcz33_1
           try clear hcz35_0
           try clear hcz35_1
           try clear hcz37_0
           try clear hcz37_1
           try clear hcz39_0
           try clear hcz39_1
           try clear hfz12_0
           try clear hfz12_1
           try clear hfz18_0
           try clear hfz18_1
           try clear hfz23_0
           try clear hfz23_1
           try clear hfz31_0
           try clear hfz31_1
           try clear hfz33_0
           try clear hfz33_1
           try clear hfz35_0
           try clear hfz35_1
           try clear hfz37_0
           try clear hfz37_1
           try clear hfz39_0
           try clear hfz39_1
           try clear hx107_0
           try clear p1
           try clear p10
           try clear p107
           try clear p2
           try clear p6
           try clear q1
           try clear q10
           try clear q107
           obtain ⟨x11_3, rfl, HA, HK3, HO_107001, HO_114001, BK106, BK113, HB⟩ := hrel
           cases gk with
           | zero => exact absurd HA.out (by simp [law10_WindowBounds.l1])
           | succ k3 =>
            have H := HA.out
            clear HA
            simp only [law10_WindowBounds.l1] at H
            by_cases c42 : x11_3 < (t109.length : Int)
            ·rw [if_pos c42] at H
             have c42b0 : decide (x11_3 < (t109.length : Int)) = true := decide_eq_true c42
             clear c42
             by_cases c43 : 0 ≤ x11_3
             ·rw [if_pos c43] at H
              have c43b0 : decide (0 ≤ x11_3) = true := decide_eq_true c43
              clear c43
              by_cases c44 : (rd t109 x11_3) < 1
              ·rw [if_pos c44] at H
               have c44b0 : decide ((rd t109 x11_3) < 1) = true := decide_eq_true c44
               clear c44
               obtain rfl := Option.some.inj H
               have hnb45 := NB113_106.out
               have hnc45 := NB106_113.out
               have hcz46_0 : wr.cell? ⟨gb113, 0, none⟩ = some (.int .i64 t108) := (qi_ BK113.out 0).trans rfl
               have hcz46_1 : wr.cell? ⟨gb113, 1, none⟩ = some (.slice Ao24 t109.length co24) := (qi_ BK113.out 1).trans rfl
               have hfz46_0 := qf_ BK113.out 0
               have hfz46_1 := qf_ BK113.out 1
               have p115 : 0 ≤ (x11_3 : Int) := of_decide_eq_true (by first | (with_reducible assumption) | assumption)
               have q115 : x11_3 < (t109.length : Int) := of_decide_eq_true (by first | (with_reducible assumption) | assumption)
               obtain ⟨ad115, e115, hx115_0⟩ := Kd.at_int (Kd.V_reads' HO_114001.out).2.2 x11_3 p115 q115
               cases e115
               replace p115 := eq_true p115
               replace q115 := eq_true q115
               go_wp2
               go_ret
               exact ⟨by first | rfl | (simp [errW_none, errW_some] <;> rfl) | (simp only [← hji8]; first | rfl | (simp [errW_none, errW_some] <;> rfl)) | (simp [*, errW_none, errW_some] <;> rfl), by repeat (first | (with_reducible first | exact HB.out | apply qb_ | apply qa_ | apply qc_ | refine qg_ ?_ GE106.out | refine qg_ ?_ GE113.out) | exact HB.out)⟩
              ·rw [if_neg c44] at H
               have c44b0 : decide ((rd t109 x11_3) < 1) = false := decide_eq_false c44
               clear c44
               by_cases c47 : (rd t109 x11_3) > ji8
               ·rw [if_pos c47] at H
                have c47b0 : decide (ji8 < (rd t109 x11_3)) = true := decide_eq_true c47
                clear c47
                obtain rfl := Option.some.inj H
                have hnb48 := NB113_106.out
                have hnc48 := NB106_113.out
                have hcz49_0 : wr.cell? ⟨gb113, 0, none⟩ = some (.int .i64 t108) := (qi_ BK113.out 0).trans rfl
                have hcz49_1 : wr.cell? ⟨gb113, 1, none⟩ = some (.slice Ao24 t109.length co24) := (qi_ BK113.out 1).trans rfl
                have hfz49_0 := qf_ BK113.out 0
                have hfz49_1 := qf_ BK113.out 1
                have p115 : 0 ≤ (x11_3 : Int) := of_decide_eq_true (by first | (with_reducible assumption) | assumption)
                have q115 : x11_3 < (t109.length : Int) := of_decide_eq_true (by first | (with_reducible assumption) | assumption)
                obtain ⟨ad115, e115, hx115_0⟩ := Kd.at_int (Kd.V_reads' HO_114001.out).2.2 x11_3 p115 q115
                cases e115
                replace p115 := eq_true p115
                replace q115 := eq_true q115
                have p116 : 0 ≤ (x11_3 : Int) := of_decide_eq_true (by first | (with_reducible assumption) | assumption)
                have q116 : x11_3 < (t109.length : Int) := of_decide_eq_true (by first | (with_reducible assumption) | assumption)
                obtain ⟨ad116, e116, hx116_0⟩ := Kd.at_int (Kd.V_reads' HO_114001.out).2.2 x11_3 p116 q116
                obtain rfl : ad115 = ad116 := (by injection e116)
                replace p116 := eq_true p116
                replace q116 := eq_true q116
                go_wp2
                go_ret
                exact ⟨by first | rfl | (simp [errW_none, errW_some] <;> rfl) | (simp only [← hji8]; first | rfl | (simp [errW_none, errW_some] <;> rfl)) | (simp [*, errW_none, errW_some] <;> rfl), by repeat (first | (with_reducible first | exact HB.out | apply qb_ | apply qa_ | apply qc_ | refine qg_ ?_ GE106.out | refine qg_ ?_ GE113.out) | exact HB.out)⟩
               ·rw [if_neg c47] at H
                have c47b0 : decide (ji8 < (rd t109 x11_3)) = false := decide_eq_false c47
                clear c47
                have H' := Aside0.mk H
                clear H
                have hnb50 := NB113_106.out
                have hnc50 := NB106_113.out
                have hcz51_0 : wr.cell? ⟨gb113, 0, none⟩ = some (.int .i64 t108) := (qi_ BK113.out 0).trans rfl
                have hcz51_1 : wr.cell? ⟨gb113, 1, none⟩ = some (.slice Ao24 t109.length co24) := (qi_ BK113.out 1).trans rfl
                have hfz51_0 := qf_ BK113.out 0
                have hfz51_1 := qf_ BK113.out 1
                have p115 : 0 ≤ (x11_3 : Int) := of_decide_eq_true (by first | (with_reducible assumption) | assumption)
                have q115 : x11_3 < (t109.length : Int) := of_decide_eq_true (by first | (with_reducible assumption) | assumption)
                obtain ⟨ad115, e115, hx115_0⟩ := Kd.at_int (Kd.V_reads' HO_114001.out).2.2 x11_3 p115 q115
                cases e115
                replace p115 := eq_true p115
                replace q115 := eq_true q115
                have p116 : 0 ≤ (x11_3 : Int) := of_decide_eq_true (by first | (with_reducible assumption) | assumption)
                have q116 : x11_3 < (t109.length : Int) := of_decide_eq_true (by first | (with_reducible assumption) | assumption)
                obtain ⟨ad116, e116, hx116_0⟩ := Kd.at_int (Kd.V_reads' HO_114001.out).2.2 x11_3 p116 q116
                obtain rfl : ad115 = ad116 := (by injection e116)
                replace p116 := eq_true p116
                replace q116 := eq_true q116
                go_wp2
                go_roundg k3
                case measure => have := HK1.out; have := HJ16.out; have := HK3.out; omega
                case rel => exact ⟨(wrap64 (x11_3 + 1)), (by first | rfl | (simp; done) | (simp [*]; done)), H', ⟨by have := HK1.out; have := HJ16.out; have := HK3.out; omega⟩, ⟨by (with_reducible repeat (first | apply Kd.qk_ | apply Kd.qj_ | apply Kd.V_drew)); exact HO_107001.out⟩, ⟨by (with_reducible repeat (first | apply Kd.qk_ | apply Kd.qj_ | apply Kd.V_drew)); exact HO_114001.out⟩, ⟨by (with_reducible repeat (first | refine qd_ ?_ _ | refine qh_ ?_ | refine qe_ ?_ _)); exact BK106.out⟩, ⟨by (with_reducible repeat (first | refine qd_ ?_ _ | refine qh_ ?_ | refine qe_ ?_ _)); exact BK113.out⟩, ⟨by repeat (first | (with_reducible first | exact HB.out | apply qb_ | apply qa_ | apply qc_ | refine qg_ ?_ GE106.out | refine qg_ ?_ GE113.out) | exact HB.out)⟩⟩
             ·rw [if_neg c43] at H
              exact absurd H (by simp)
            ·rw [if_neg c42] at H
             have c42b0 : decide (x11_3 < (t109.length : Int)) = false := decide_eq_false c42
             clear c42
             replace H := ob_ H
             obtain ⟨t117, A520, H⟩ := H
             replace H : (if t117 < 1 then (some false) else (if t117 > ji8 then (some false) else (law10_WindowBounds.l0 k3 l0 a1 (wrap64 (x6_1 + (wrap64 (rd l0 x8_1)))) ji8 (wrap64 (x8_1 + 1)) t108 t109))) = some r := H
             have A52 := Aside0.mk A520
             clear A520
             by_cases c53 : t117 < 1
             ·rw [if_pos c53] at H
              have c53b0 : decide (t117 < 1) = true := decide_eq_true c53
              clear c53
              obtain rfl := Option.some.inj H
              have hnb54 := NB113_106.out
              have hnc54 := NB106_113.out
              have hcz55_0 : wr.cell? ⟨gb113, 0, none⟩ = some (.int .i64 t108) := (qi_ BK113.out 0).trans rfl
              have hcz55_1 : wr.cell? ⟨gb113, 1, none⟩ = some (.slice Ao24 t109.length co24) := (qi_ BK113.out 1).trans rfl
              have hfz55_0 := qf_ BK113.out 0
              have hfz55_1 := qf_ BK113.out 1
              go_wp2_with (first | ((with_reducible refine qn_ (f := 11) rfl ?_); refine goesL_ (some 89) rfl rfl Try.func11 (by kernel_rfl) rfl #[.agg #[.int .i64 t108, .slice Ao24 t109.length co24], .int .i64 (wrap64 (a1))] rfl (by (try simp only [List.map_toArray, List.map_cons, List.map_nil]); first | done | rfl | (simp only [List.length_drop, List.length_take]; rfl)) ?_; (with_reducible refine (window_Mean.calls k3 t108 _ _ t109 (wrap64 (a1)) t117 _ ?side1 ?side2 A52.out).mono ?_); (case side1 => repeat (first | exact (Kd.V_reads' HO_114001.out).2.2 | (with_reducible refine Kd.C_alloc ?_ _) | (with_reducible refine Kd.C_drewN ?_ _) | (with_reducible refine Kd.C_drew ?_))); (case side2 => exact (Kd.V_reads' HO_114001.out).2.1); rintro e w56 ⟨rfl, hb⟩; refine ⟨_, rfl, ?_⟩; have n0_ := Aside0.mk (Kd.qo_ (by (with_reducible repeat (first | apply Kd.qk_ | apply Kd.qj_ | apply Kd.V_drew)); exact HO_107001.out) hb); have n1_ := Aside0.mk (Kd.qo_ (by (with_reducible repeat (first | apply Kd.qk_ | apply Kd.qj_ | apply Kd.V_drew)); exact HO_114001.out) hb); have n2_ := Aside0.mk (qp_ (g := gb106) (o := .cells #[.int .i64 x107000_1, .slice Ao19 x107001_1.length co19] 27 (0, 0)) (by (with_reducible repeat (first | refine qd_ ?_ _ | refine qh_ ?_ | refine qe_ ?_ _)); exact BK106.out) hb); have n3_ := Aside0.mk (qp_ (g := gb113) (o := .cells #[.int .i64 t108, .slice Ao24 t109.length co24] 27 (0, 0)) (by (with_reducible repeat (first | refine qd_ ?_ _ | refine qh_ ?_ | refine qe_ ?_ _)); exact BK113.out) hb); have n4_ := Aside0.mk (qm_ (by repeat (first | (with_reducible first | exact HB.out | apply qb_ | apply qa_ | apply qc_ | refine qg_ ?_ GE106.out | refine qg_ ?_ GE113.out) | exact HB.out)) hb); clear HO_107001; clear HO_114001; clear BK106; clear BK113; clear HB; have HO_107001 := n0_; have HO_114001 := n1_; have BK106 := n2_; have BK113 := n3_; have HB := n4_; clear n0_ n1_ n2_ n3_ n4_; (try clear hb); (try clear hb2); (try clear hk); (try clear hi)))
              go_ret
              exact ⟨by first | rfl | (simp [errW_none, errW_some] <;> rfl) | (simp only [← hji8]; first | rfl | (simp [errW_none, errW_some] <;> rfl)) | (simp [*, errW_none, errW_some] <;> rfl), by repeat (first | (with_reducible first | exact HB.out | apply qb_ | apply qa_ | apply qc_ | refine qg_ ?_ GE106.out | refine qg_ ?_ GE113.out) | exact HB.out)⟩
             ·rw [if_neg c53] at H
              have c53b0 : decide (t117 < 1) = false := decide_eq_false c53
              clear c53
              by_cases c57 : t117 > ji8
              ·rw [if_pos c57] at H
               have c57b0 : decide (ji8 < t117) = true := decide_eq_true c57
               clear c57
               obtain rfl := Option.some.inj H
               have hnb58 := NB113_106.out
               have hnc58 := NB106_113.out
               have hcz59_0 : wr.cell? ⟨gb113, 0, none⟩ = some (.int .i64 t108) := (qi_ BK113.out 0).trans rfl
               have hcz59_1 : wr.cell? ⟨gb113, 1, none⟩ = some (.slice Ao24 t109.length co24) := (qi_ BK113.out 1).trans rfl
               have hfz59_0 := qf_ BK113.out 0
               have hfz59_1 := qf_ BK113.out 1
               go_wp2_with (first | ((with_reducible refine qn_ (f := 11) rfl ?_); refine goesL_ (some 89) rfl rfl Try.func11 (by kernel_rfl) rfl #[.agg #[.int .i64 t108, .slice Ao24 t109.length co24], .int .i64 (wrap64 (a1))] rfl (by (try simp only [List.map_toArray, List.map_cons, List.map_nil]); first | done | rfl | (simp only [List.length_drop, List.length_take]; rfl)) ?_; (with_reducible refine (window_Mean.calls k3 t108 _ _ t109 (wrap64 (a1)) t117 _ ?side1 ?side2 A52.out).mono ?_); (case side1 => repeat (first | exact (Kd.V_reads' HO_114001.out).2.2 | (with_reducible refine Kd.C_alloc ?_ _) | (with_reducible refine Kd.C_drewN ?_ _) | (with_reducible refine Kd.C_drew ?_))); (case side2 => exact (Kd.V_reads' HO_114001.out).2.1); rintro e w60 ⟨rfl, hb⟩; refine ⟨_, rfl, ?_⟩; have n0_ := Aside0.mk (Kd.qo_ (by (with_reducible repeat (first | apply Kd.qk_ | apply Kd.qj_ | apply Kd.V_drew)); exact HO_107001.out) hb); have n1_ := Aside0.mk (Kd.qo_ (by (with_reducible repeat (first | apply Kd.qk_ | apply Kd.qj_ | apply Kd.V_drew)); exact HO_114001.out) hb); have n2_ := Aside0.mk (qp_ (g := gb106) (o := .cells #[.int .i64 x107000_1, .slice Ao19 x107001_1.length co19] 27 (0, 0)) (by (with_reducible repeat (first | refine qd_ ?_ _ | refine qh_ ?_ | refine qe_ ?_ _)); exact BK106.out) hb); have n3_ := Aside0.mk (qp_ (g := gb113) (o := .cells #[.int .i64 t108, .slice Ao24 t109.length co24] 27 (0, 0)) (by (with_reducible repeat (first | refine qd_ ?_ _ | refine qh_ ?_ | refine qe_ ?_ _)); exact BK113.out) hb); have n4_ := Aside0.mk (qm_ (by repeat (first | (with_reducible first | exact HB.out | apply qb_ | apply qa_ | apply qc_ | refine qg_ ?_ GE106.out | refine qg_ ?_ GE113.out) | exact HB.out)) hb); clear HO_107001; clear HO_114001; clear BK106; clear BK113; clear HB; have HO_107001 := n0_; have HO_114001 := n1_; have BK106 := n2_; have BK113 := n3_; have HB := n4_; clear n0_ n1_ n2_ n3_ n4_; (try clear hb); (try clear hb2); (try clear hk); (try clear hi)))
               go_ret
               exact ⟨by first | rfl | (simp [errW_none, errW_some] <;> rfl) | (simp only [← hji8]; first | rfl | (simp [errW_none, errW_some] <;> rfl)) | (simp [*, errW_none, errW_some] <;> rfl), by repeat (first | (with_reducible first | exact HB.out | apply qb_ | apply qa_ | apply qc_ | refine qg_ ?_ GE106.out | refine qg_ ?_ GE113.out) | exact HB.out)⟩
              ·rw [if_neg c57] at H
               have c57b0 : decide (ji8 < t117) = false := decide_eq_false c57
               clear c57
               have H' := Aside0.mk H
               clear H
               have hnb61 := NB113_106.out
               have hnc61 := NB106_113.out
               have hcz62_0 : wr.cell? ⟨gb113, 0, none⟩ = some (.int .i64 t108) := (qi_ BK113.out 0).trans rfl
               have hcz62_1 : wr.cell? ⟨gb113, 1, none⟩ = some (.slice Ao24 t109.length co24) := (qi_ BK113.out 1).trans rfl
               have hfz62_0 := qf_ BK113.out 0
               have hfz62_1 := qf_ BK113.out 1
               go_wp2_with (first | ((with_reducible refine qn_ (f := 11) rfl ?_); refine goesL_ (some 89) rfl rfl Try.func11 (by kernel_rfl) rfl #[.agg #[.int .i64 t108, .slice Ao24 t109.length co24], .int .i64 (wrap64 (a1))] rfl (by (try simp only [List.map_toArray, List.map_cons, List.map_nil]); first | done | rfl | (simp only [List.length_drop, List.length_take]; rfl)) ?_; (with_reducible refine (window_Mean.calls k3 t108 _ _ t109 (wrap64 (a1)) t117 _ ?side1 ?side2 A52.out).mono ?_); (case side1 => repeat (first | exact (Kd.V_reads' HO_114001.out).2.2 | (with_reducible refine Kd.C_alloc ?_ _) | (with_reducible refine Kd.C_drewN ?_ _) | (with_reducible refine Kd.C_drew ?_))); (case side2 => exact (Kd.V_reads' HO_114001.out).2.1); rintro e w63 ⟨rfl, hb⟩; refine ⟨_, rfl, ?_⟩; have n0_ := Aside0.mk (Kd.qo_ (by (with_reducible repeat (first | apply Kd.qk_ | apply Kd.qj_ | apply Kd.V_drew)); exact HO_107001.out) hb); have n1_ := Aside0.mk (Kd.qo_ (by (with_reducible repeat (first | apply Kd.qk_ | apply Kd.qj_ | apply Kd.V_drew)); exact HO_114001.out) hb); have n2_ := Aside0.mk (qp_ (g := gb106) (o := .cells #[.int .i64 x107000_1, .slice Ao19 x107001_1.length co19] 27 (0, 0)) (by (with_reducible repeat (first | refine qd_ ?_ _ | refine qh_ ?_ | refine qe_ ?_ _)); exact BK106.out) hb); have n3_ := Aside0.mk (qp_ (g := gb113) (o := .cells #[.int .i64 t108, .slice Ao24 t109.length co24] 27 (0, 0)) (by (with_reducible repeat (first | refine qd_ ?_ _ | refine qh_ ?_ | refine qe_ ?_ _)); exact BK113.out) hb); have n4_ := Aside0.mk (qm_ (by repeat (first | (with_reducible first | exact HB.out | apply qb_ | apply qa_ | apply qc_ | refine qg_ ?_ GE106.out | refine qg_ ?_ GE113.out) | exact HB.out)) hb); clear HO_107001; clear HO_114001; clear BK106; clear BK113; clear HB; have HO_107001 := n0_; have HO_114001 := n1_; have BK106 := n2_; have BK113 := n3_; have HB := n4_; clear n0_ n1_ n2_ n3_ n4_; (try clear hb); (try clear hb2); (try clear hk); (try clear hi); have hcz64_0 : w63.cell? ⟨gb113, 0, none⟩ = some (.int .i64 t108) := (qi_ BK113.out 0).trans rfl; have hcz64_1 : w63.cell? ⟨gb113, 1, none⟩ = some (.slice Ao24 t109.length co24) := (qi_ BK113.out 1).trans rfl; have hfz64_0 := qf_ BK113.out 0; have hfz64_1 := qf_ BK113.out 1; have hcz65_0 : w63.cell? ⟨gb106, 0, none⟩ = some (.int .i64 x107000_1) := (qi_ BK106.out 0).trans rfl; have hcz65_1 : w63.cell? ⟨gb106, 1, none⟩ = some (.slice Ao19 x107001_1.length co19) := (qi_ BK106.out 1).trans rfl; have hfz65_0 := qf_ BK106.out 0; have hfz65_1 := qf_ BK106.out 1))
               go_roundg k3
               case measure => have := HK1.out; have := HJ16.out; have := HK3.out; omega
               case rel => exact ⟨((wrap64 (x6_1 + (wrap64 (rd l0 x8_1))))), (wrap64 (x8_1 + 1)), (t108), (t109), (.slice Ao24 t109.length co24), (by first | rfl | (simp; done) | (simp [*]; done)), (by first | rfl | (simp; done) | (simp [*]; done)), H', ⟨by have := HK1.out; have := HJ16.out; have := HK3.out; omega⟩, ⟨by (with_reducible repeat (first | apply Kd.qk_ | apply Kd.qj_ | apply Kd.V_drew)); exact Kd.V_mono (Kd.V_far (p := ⟨gb106, 1, none⟩) (Kd.V_far (p := ⟨gb106, 0, none⟩) (Kd.V_mono HO_114001.out (fun k_ hk => (⟨hk, hk.1⟩ : _ ∧ k_ ≠ gb106))) (fun _ hk => hk.2) (.int .i64 t108)) (fun _ hk => hk.2) (.slice Ao24 t109.length co24)) (fun _ hk => hk.1.1)⟩, ⟨by (with_reducible repeat (first | refine qd_ ?_ _ | refine qh_ ?_ | refine qe_ ?_ _)); refine blk_put (cs := #[.int .i64 t108, .slice Ao19 x107001_1.length co19]) ?_ 1 _ rfl; (with_reducible repeat (first | refine qd_ ?_ _ | refine qh_ ?_ | refine qe_ ?_ _)); refine blk_put (cs := #[.int .i64 x107000_1, .slice Ao19 x107001_1.length co19]) ?_ 0 _ rfl; (with_reducible repeat (first | refine qd_ ?_ _ | refine qh_ ?_ | refine qe_ ?_ _)); exact BK106.out⟩, ⟨by repeat (first | (with_reducible first | exact HB.out | apply qb_ | apply qa_ | apply qc_ | refine qg_ ?_ GE106.out | refine qg_ ?_ GE113.out) | exact HB.out)⟩⟩
      ·rw [if_neg c15] at H
       exact absurd H (by simp)
     ·rw [if_neg c14] at H
      have c14b0 : decide (x8_1 < (l0.length : Int)) = false := decide_eq_false c14
      clear c14
      obtain rfl := Option.some.inj H
      go_wp2
      go_ret
      exact ⟨by first | rfl | (simp [errW_none, errW_some] <;> rfl) | (simp only [← hji8]; first | rfl | (simp [errW_none, errW_some] <;> rfl)) | (simp [*, errW_none, errW_some] <;> rfl), by repeat (first | (with_reducible first | exact HB.out | apply qb_ | apply qa_ | apply qc_ | refine qg_ ?_ GE106.out) | exact HB.out)⟩
 ·replace c4 := Bool.eq_false_iff.mpr c4
  subst c4
  have H1 : (some false) = some r := by rw [if_neg (show ¬ (false = true) by decide)] at H; exact H
  clear H
  have H := H1
  clear H1
  obtain rfl := Option.some.inj H
  go_enter Try.func3, Try.ntmps3
  go_wp2_with (first | ((with_reducible refine qn_ (f := 7) rfl ?_); refine goesL_ (some 13) rfl rfl Try.func7 (by kernel_rfl) rfl #[] rfl (by (try simp only [List.map_toArray, List.map_cons, List.map_nil]); first | done | rfl | (simp only [List.length_drop, List.length_take]; rfl)) ?_; (with_reducible refine (law10_alive.calls k  false _ A3.out).mono ?_); rintro e w66 ⟨rfl, hb⟩; refine ⟨_, rfl, ?_⟩; have n0_ := Aside0.mk (qm_ (by repeat (first | (with_reducible first | exact HB.out | apply qb_ | apply qa_ | apply qc_) | exact HB.out)) hb); clear HB; have HB := n0_; clear n0_; (try clear hb); (try clear hb2); (try clear hk); (try clear hi)))
  go_ret
  exact ⟨by first | rfl | (simp [errW_none, errW_some] <;> rfl) | (simp [*, errW_none, errW_some] <;> rfl), by repeat (first | (with_reducible first | exact HB.out | apply qb_ | apply qa_ | apply qc_) | exact HB.out)⟩
/-- THE ONE PURE STATEMENT of law10_WindowBounds: yours. -/
def law10_WindowBounds.Pure : Prop := ∀ (l0 : List Int) (a1 : Int), l0.length ≤ maxLen → l0.length * 2 ≤ 140737488351232 → (∀ x ∈ l0, (Lit.int .u16 x).wf = true) → (Lit.int .u16 a1).wf = true → ∃ k, law10_WindowBounds.f k l0 a1 = some true
theorem law10_WindowBounds.walk (P : law10_WindowBounds.Pure) (a0 : Option Addr) (len0 cap0 : Nat) (z0 : List Int) (a1 : Int) (w : World) (w0 : (a0 = none ∧ len0 = 0 ∧ cap0 = 0 ∧ z0 = []) ∨ ∃ x, a0 = some x ∧ len0 ≤ cap0 ∧ cap0 ≤ maxLen ∧ z0.length = cap0 ∧ (∀ i, i < z0.length → w.cell? (x.add i) = some (.int .u16 (z0.getD i 0))) ∧ ∀ n ∈ z0, (Lit.int .u16 n).wf = true) (y0 : len0 * 2 ≤ 140737488351232) (w1 : (Lit.int .u16 a1).wf = true) :
  Calls Try.prog 3 #[.slice a0 len0 cap0, .int .u16 a1] w fun e w' => e = .returned (.bool true) ∧ Below w.heap.size w w' := by
 obtain ⟨l0, rfl, hr0, hm0, hw0, hc0⟩ := ReadsInt.ofRowC w0
 obtain ⟨k, h⟩ := P l0 a1 hm0 y0 hw0 w1
 refine (law10_WindowBounds.calls k _ _ l0 a1 true w (Kd.C_of_reads (d := (0 : Int)) (h1 := fun _ => rfl) hr0) hc0 h).mono ?_
 rintro e w' ⟨rfl, hd⟩
 exact ⟨rfl, hd⟩
end Go.Proofs.Ytkojggbogdjmcaa.P

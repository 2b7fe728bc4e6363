/- What this function of the program comes to, and that the machine's call does it: written by a program (wip/tool). No condition. -/
import Derived.Test.YtkojggbogdjmcaaP0
import Derived.Test.YtkojggbogdjmcaaPWindowNew
import Derived.Test.YtkojggbogdjmcaaPWindowArrive
import Derived.Test.YtkojggbogdjmcaaPWindowMean
import Derived.Test.YtkojggbogdjmcaaPLaw10Alive
import Derived.Test.YtkojggbogdjmcaaHw
namespace Go.Proofs.Ytkojggbogdjmcaa.P
open Go.RowKit Go.Proofs.YtkojggbogdjmcaaW.PrintWords Go.Proofs.YtkojggbogdjmcaaW.PrintLast Go.Proofs.YtkojggbogdjmcaaW.PrintMore
attribute [local go_sem] max2_int min2_int max_two min_two max_three min_three max_four min_four   -- for this text's walks alone
set_option linter.unusedVariables false
set_option linter.unusedSimpArgs false
/-! ### law10_WindowSteady: function 5 -/
def law10_WindowSteady.l0 : Nat → Int → Int → Int → Int → Int → List Int → Option (Bool)
 | 0, _, _, _, _, _, _ => none
 | k + 1, x1, x2, x8, x9, x107000, x107001 => if x9 < x8 then ((window_Arrive.f k x107000 x107001 (wrap64 (x9 * (wrap64 (x1)))) (wrap64 (x2))).bind fun bt107 => (if bt107.2.2 = 0 then (law10_WindowSteady.l0 k x1 x2 x8 (wrap64 (x9 + 1)) bt107.1 bt107.2.1) else (some false))) else ((window_Mean.f k x107000 x107001 999).bind fun t113 => (if t113 = (mx 1 (mn (wrap64 (x1)) (wrap64 (x2)))) then (some ((x107001.length : Int) == (mn (wrap64 (x8 - 1)) 16))) else (some false)))
def law10_WindowSteady.f (k : Nat) (a0 : Int) (a1 : Int) (a2 : Int) : Option (Bool) := (law10_alive.f k).bind fun t101 => (if t101 = true then ((window_New.f).bind fun bt102 => (law10_WindowSteady.l0 k a1 a2 (wrap64 (2 + (Int.tmod (wrap64 (a0)) 60))) 0 bt102.1 bt102.2)) else (some false))
theorem law10_WindowSteady.mono_l : ∀ k, (∀ y0 y1 y2 y3 y4 y5, LeO (law10_WindowSteady.l0 k y0 y1 y2 y3 y4 y5) (law10_WindowSteady.l0 (k + 1) y0 y1 y2 y3 y4 y5))
 | 0 => fun _ _ _ _ _ _ r h => by simp [law10_WindowSteady.l0] at h
 | k + 1 => by
  have ih0 := law10_WindowSteady.mono_l k
  ·intro y0 y1 y2 y3 y4 y5
   unfold law10_WindowSteady.l0
   repeat' first
   | (with_reducible exact ih0 _ _ _ _ _ _)
   | (with_reducible exact law10_alive.mono _)
   | (with_reducible exact window_Arrive.mono _ _ _ _ _)
   | (with_reducible exact window_Mean.mono _ _ _ _)
   | (with_reducible exact LeO.refl _)
   | (with_reducible exact LeO.none _)
   | (with_reducible refine LeO.ite ?_ ?_)
   | (with_reducible refine LeO.bind ?_ (fun _ => ?_))
   | exact ih0 _ _ _ _ _ _
   | exact law10_alive.mono _
   | exact window_Arrive.mono _ _ _ _ _
   | exact window_Mean.mono _ _ _ _
   | exact LeO.none _
   | refine LeO.ite ?_ ?_
   | refine LeO.bind ?_ (fun _ => ?_)
theorem law10_WindowSteady.mono : ∀ a0 a1 a2 k, LeO (law10_WindowSteady.f k a0 a1 a2) (law10_WindowSteady.f (k + 1) a0 a1 a2) := by
 intro a0 a1 a2 k
 have ih0 := law10_WindowSteady.mono_l k
 unfold law10_WindowSteady.f
 repeat' first
   | (with_reducible exact ih0 _ _ _ _ _ _)
   | (with_reducible exact law10_alive.mono _)
   | (with_reducible exact window_Arrive.mono _ _ _ _ _)
   | (with_reducible exact window_Mean.mono _ _ _ _)
   | (with_reducible exact LeO.refl _)
   | (with_reducible exact LeO.none _)
   | (with_reducible refine LeO.ite ?_ ?_)
   | (with_reducible refine LeO.bind ?_ (fun _ => ?_))
   | exact ih0 _ _ _ _ _ _
   | exact law10_alive.mono _
   | exact window_Arrive.mono _ _ _ _ _
   | exact window_Mean.mono _ _ _ _
   | exact LeO.none _
   | refine LeO.ite ?_ ?_
   | refine LeO.bind ?_ (fun _ => ?_)
set_option maxHeartbeats 8000000 in
set_option maxRecDepth 100000 in
theorem law10_WindowSteady.calls (k : Nat) (a0 : Int) (a1 : Int) (a2 : Int) (r : Bool) (w : World) (h : law10_WindowSteady.f k a0 a1 a2 = some r) :
  Calls Try.prog 5 #[.int .u8 a0, .int .u8 a1, .int .u8 a2] w fun e w' => e = .returned (.bool r) ∧ Below w.heap.size w w' := by
 have hu27 := Try.underlying27
 have HB := Aside0.mk (Below.refl w.heap.size w)
 have H : ((law10_alive.f k).bind fun t101 => (if t101 = true then ((window_New.f).bind fun bt102 => (law10_WindowSteady.l0 k a1 a2 (wrap64 (2 + (Int.tmod (wrap64 (a0)) 60))) 0 bt102.1 bt102.2)) else (some false))) = some r := h
 clear h
 replace H := ob_ H
 obtain ⟨t101, A40, H⟩ := H
 replace H : (if t101 = true then ((window_New.f).bind fun bt102 => (law10_WindowSteady.l0 k a1 a2 (wrap64 (2 + (Int.tmod (wrap64 (a0)) 60))) 0 bt102.1 bt102.2)) else (some false)) = some r := H
 have A4 := Aside0.mk A40
 clear A40
 by_cases c5 : t101 = true
 ·subst c5
  have H1 : ((window_New.f).bind fun bt102 => (law10_WindowSteady.l0 k a1 a2 (wrap64 (2 + (Int.tmod (wrap64 (a0)) 60))) 0 bt102.1 bt102.2)) = some r := by rw [if_pos rfl] at H; exact H
  clear H
  have H := H1
  clear H1
  replace H := ob_ H
  obtain ⟨⟨t102, t103⟩, A60, H⟩ := H
  replace H : (law10_WindowSteady.l0 k a1 a2 (wrap64 (2 + (Int.tmod (wrap64 (a0)) 60))) 0 t102 t103) = some r := H
  have A6 := Aside0.mk A60
  clear A60
  have H' := Aside0.mk H
  clear H
  go_enter Try.func5, Try.ntmps5
  go_wp2_with (first | ((with_reducible refine qn_ (f := 7) rfl ?_); refine goesL_ (some 12) rfl rfl Try.func7 (by kernel_rfl) rfl #[] rfl (by (try simp only [List.map_toArray, List.map_cons, List.map_nil]); first | done | rfl | (simp only [List.length_drop, List.length_take]; rfl)) ?_; (with_reducible refine (law10_alive.calls k  true _ A4.out).mono ?_); rintro e w7 ⟨rfl, hb⟩; refine ⟨_, rfl, ?_⟩; have n0_ := Aside0.mk (qm_ (by repeat (first | (with_reducible first | exact HB.out | apply qb_ | apply qa_ | apply qc_) | exact HB.out)) hb); clear HB; have HB := n0_; clear n0_; (try clear hb); (try clear hb2); (try clear hk); (try clear hi)) | ((with_reducible refine qn_ (f := 8) rfl ?_); refine goesL_ (some 14) rfl rfl Try.func8 (by kernel_rfl) rfl #[] rfl (by (try simp only [List.map_toArray, List.map_cons, List.map_nil]); first | done | rfl | (simp only [List.length_drop, List.length_take]; rfl)) ?_; (with_reducible refine (window_New.calls  t102 t103 _ A6.out).mono ?_); rintro e w8 ⟨v104, rfl, ho0, hb⟩; refine ⟨_, rfl, ?_⟩; have n0_ := Aside0.mk (Kd.R_lower ho0 (ql_ (by repeat (first | (with_reducible first | exact HB.out | apply qb_ | apply qa_ | apply qc_) | exact HB.out)))); have n1_ := Aside0.mk (qm_ (by repeat (first | (with_reducible first | exact HB.out | apply qb_ | apply qa_ | apply qc_) | exact HB.out)) hb); clear HB; have HO105 := n0_; have HB := n1_; clear n0_ n1_; (try clear hb); (try clear hb2); (try clear hk); (try clear hi); (try clear ho0)) | ((with_reducible refine gate_dst (N := 7) rfl ?_); (try (refine gate_guard (by rfl) ?_; dsimp only)); refine box_event ?hg (N := 7) ?hd (cs := #[.int .i64 0, .slice none 0 0]) (t := 27) ?hr ?_; (case hd => rfl); (case hg => rfl); (case hr => first | (go_simp; done) | (go_simp; rfl)); intro gb106 hg w9 hbox hb; have n0_ := Aside0.mk (Kd.R_below (by (with_reducible repeat (first | apply Kd.qr_ | apply Kd.qq_ | apply Kd.R_drew)); exact HO105.out) hb); have n1_ := Aside0.mk (qm_ (by repeat (first | (with_reducible first | exact HB.out | apply qb_ | apply qa_ | apply qc_) | exact HB.out)) hb); have n2_ := Aside0.mk (hbox); have n3_ := Aside0.mk ((by rw [hg]; exact (ql_ (by repeat (first | (with_reducible first | exact HB.out | apply qb_ | apply qa_ | apply qc_) | exact HB.out))) : w.heap.size ≤ gb106)); have n4_ := Aside0.mk ((by rw [hg]; exact (ql_ (by repeat (first | (with_reducible first | exact HB.out | apply qb_ | apply qa_ | apply qc_) | exact HB.out))) : w.heap.size ≤ gb106)); clear HO105; clear HB; have HO105 := n0_; have HB := n1_; have BK106 := n2_; have GW106 := n3_; have GE106 := n4_; clear n0_ n1_ n2_ n3_ n4_; clear hb hbox hg; have hcz10_0 : w9.cell? ⟨gb106, 0, none⟩ = some (.int .i64 0) := (qi_ BK106.out 0).trans rfl; have hcz10_1 : w9.cell? ⟨gb106, 1, none⟩ = some (.slice none 0 0) := (qi_ BK106.out 1).trans rfl; have hfz10_0 := qf_ BK106.out 0; have hfz10_1 := qf_ BK106.out 1; obtain ⟨Ao11, co11, eo11⟩ := Kd.R_slice HO105.out; subst eo11))
  go_loopg [9] k (fun kq v9 w' => ∃ (x9_1 : Int) (x107000_1 : Int) (x107001_1 : List Int) (u107001 : Value), v9 = .int .i64 x9_1 ∧ Aside0 (law10_WindowSteady.l0 kq a1 a2 (wrap64 (2 + (Int.tmod (wrap64 (a0)) 60))) x9_1 x107000_1 x107001_1 = some r) ∧ Aside0 (kq ≤ k) ∧ Aside0 (Kd.V (Kd.int .i64) 3 w' w.heap.size (fun k_ => k_ ≠ gb106) u107001 x107001_1) ∧ Aside0 (w'.heap[gb106]? = some (.cells #[.int .i64 x107000_1, u107001] 27 (0, 0))) ∧ Aside0 (Below w.heap.size w w'))
  case atStart => exact ⟨(0), (t102), (t103), (.slice Ao11 t103.length co11), (by first | rfl | (simp; done) | (simp [*]; done)), H', ⟨Nat.le_refl _⟩, ⟨Kd.R_V (by (with_reducible repeat (first | apply Kd.qr_ | apply Kd.qq_ | apply Kd.R_drew)); exact Kd.R_mono (Kd.R_far (p := ⟨gb106, 1, none⟩) (Kd.R_far (p := ⟨gb106, 0, none⟩) (Kd.R_types (Kd.R_types HO105.out BK106.out (by decide)) BK106.out (by decide)) (fun _ hk => hk.2) (.int .i64 t102)) (fun _ hk => hk.2) (.slice Ao11 t103.length co11)) (fun _ hk => hk.1.2))⟩, ⟨by (with_reducible repeat (first | refine qd_ ?_ _ | refine qh_ ?_ | refine qe_ ?_ _)); refine blk_put (cs := #[.int .i64 t102, .slice none 0 0]) ?_ 1 _ rfl; (with_reducible repeat (first | refine qd_ ?_ _ | refine qh_ ?_ | refine qe_ ?_ _)); refine blk_put (cs := #[.int .i64 0, .slice none 0 0]) ?_ 0 _ rfl; (with_reducible repeat (first | refine qd_ ?_ _ | refine qh_ ?_ | refine qe_ ?_ _)); exact BK106.out⟩, ⟨by repeat (first | (with_reducible first | exact HB.out | apply qb_ | apply qa_ | apply qc_ | refine qg_ ?_ GE106.out) | exact HB.out)⟩⟩
  case round =>
   clear H'
   try clear p2
   try clear c5
   try clear p6
   try clear c7
   try clear c8
   try clear hcz10_0
   try clear hcz10_1
   try clear hfz10_0
   try clear hfz10_1
   obtain ⟨x9_1, x107000_1, x107001_1, u107001, rfl, HA, HK1, HO_107001, BK106, HB⟩ := hrel
   cases gk with
   | zero => exact absurd HA.out (by simp [law10_WindowSteady.l0])
   | succ k1 =>
    have H := HA.out
    clear HA
    simp only [law10_WindowSteady.l0] at H
    by_cases c12 : x9_1 < (wrap64 (2 + (Int.tmod (wrap64 (a0)) 60)))
    ·rw [if_pos c12] at H
     have c12b0 : decide (x9_1 < (wrap64 (2 + (Int.tmod (wrap64 (a0)) 60)))) = true := decide_eq_true c12
     clear c12
     replace H := ob_ H
     obtain ⟨⟨t107, t108, t111⟩, A130, H⟩ := H
     replace H : (if t111 = 0 then (law10_WindowSteady.l0 k1 a1 a2 (wrap64 (2 + (Int.tmod (wrap64 (a0)) 60))) (wrap64 (x9_1 + 1)) t107 t108) else (some false)) = some r := H
     have A13 := Aside0.mk A130
     clear A130
     by_cases c14 : t111 = 0
     ·rw [if_pos c14] at H
      have c14b0 : (t111 == 0) = true := beq_iff_eq.mpr c14
      have c14b1 : (t111 != 0) = false := bne_eq_false_iff_eq.mpr c14
      clear c14
      have H' := Aside0.mk H
      clear H
      have hcz15_0 : wr.cell? ⟨gb106, 0, none⟩ = some (.int .i64 x107000_1) := (qi_ BK106.out 0).trans rfl
      have hcz15_1 : wr.cell? ⟨gb106, 1, none⟩ = some (u107001) := (qi_ BK106.out 1).trans rfl
      have hfz15_0 := qf_ BK106.out 0
      have hfz15_1 := qf_ BK106.out 1
      obtain ⟨Ao16, co16, eo16⟩ := Kd.V_slice HO_107001.out
      subst eo16
      go_wp2_with (first | ((with_reducible refine qn_ (f := 9) rfl ?_); refine goesL_ (some 32) rfl rfl Try.func9 (by kernel_rfl) rfl #[.agg #[.int .i64 x107000_1, .slice Ao16 x107001_1.length co16], .int .i64 (wrap64 (x9_1 * (wrap64 (a1)))), .int .i64 (wrap64 (a2))] rfl (by (try simp only [List.map_toArray, List.map_cons, List.map_nil]); first | done | rfl | (simp only [List.length_drop, List.length_take]; rfl)) ?_; (with_reducible refine (window_Arrive.calls k1 x107000_1 (fun k_ => k_ ≠ gb106) _ _ x107001_1 (wrap64 (x9_1 * (wrap64 (a1)))) (wrap64 (a2)) t107 t108 t111 _ ?side1 A13.out).mono ?_); (case side1 => exact HO_107001.out); rintro e w17 ⟨v109, rfl, ho0, hb⟩; refine ⟨_, rfl, ?_⟩; have n0_ := Aside0.mk (Kd.qo_ (by (with_reducible repeat (first | apply Kd.qk_ | apply Kd.qj_ | apply Kd.V_drew)); exact HO_107001.out) hb); have n1_ := Aside0.mk (Kd.V_lower (Kd.V_mono (ok' := fun k_ => k_ ≠ gb106) ho0 (fun k_ hk_ => Or.elim hk_ (fun hs_ => hs_) (fun hn_ => (Kd.freshB (g := gb106) (o := .cells #[.int .i64 x107000_1, .slice Ao16 x107001_1.length co16] 27 (0, 0)) (by (with_reducible repeat (first | refine qd_ ?_ _ | refine qh_ ?_ | refine qe_ ?_ _)); exact BK106.out) k_ hn_)))) (ql_ (by repeat (first | (with_reducible first | exact HB.out | apply qb_ | apply qa_ | apply qc_ | refine qg_ ?_ GE106.out) | exact HB.out)))); have n2_ := Aside0.mk (qp_ (g := gb106) (o := .cells #[.int .i64 x107000_1, .slice Ao16 x107001_1.length co16] 27 (0, 0)) (by (with_reducible repeat (first | refine qd_ ?_ _ | refine qh_ ?_ | refine qe_ ?_ _)); exact BK106.out) hb); have n3_ := Aside0.mk (qm_ (by repeat (first | (with_reducible first | exact HB.out | apply qb_ | apply qa_ | apply qc_ | refine qg_ ?_ GE106.out) | exact HB.out)) hb); clear HO_107001; clear BK106; clear HB; have HO_107001 := n0_; have HO110 := n1_; have BK106 := n2_; have HB := n3_; clear n0_ n1_ n2_ n3_; (try clear hb); (try clear hb2); (try clear hk); (try clear hi); (try clear ho0)) | ((with_reducible refine gate_dst (N := 10) rfl ?_); (try (refine gate_guard (by rfl) ?_; dsimp only)); refine box_event ?hg (N := 10) ?hd (cs := #[.int .i64 0, .slice none 0 0]) (t := 27) ?hr ?_; (case hd => rfl); (case hg => rfl); (case hr => first | (go_simp; done) | (go_simp; rfl)); intro gb112 hg w18 hbox hb; have n0_ := Aside0.mk (Kd.qo_ (Kd.V_elderB (by (with_reducible repeat (first | apply Kd.qk_ | apply Kd.qj_ | apply Kd.V_drew)); exact HO_107001.out) gb112 (Nat.le_of_eq hg.symm)) hb); have n1_ := Aside0.mk (Kd.qo_ (Kd.V_elderB (by (with_reducible repeat (first | apply Kd.qk_ | apply Kd.qj_ | apply Kd.V_drew)); exact HO110.out) gb112 (Nat.le_of_eq hg.symm)) hb); have n2_ := Aside0.mk (qp_ (g := gb106) (o := .cells #[.int .i64 x107000_1, .slice Ao16 x107001_1.length co16] 27 (0, 0)) (by (with_reducible repeat (first | refine qd_ ?_ _ | refine qh_ ?_ | refine qe_ ?_ _)); exact BK106.out) hb); have n3_ := Aside0.mk (qm_ (by repeat (first | (with_reducible first | exact HB.out | apply qb_ | apply qa_ | apply qc_ | refine qg_ ?_ GE106.out) | exact HB.out)) hb); have n4_ := Aside0.mk (hbox); have n5_ := Aside0.mk ((by rw [hg]; exact (ql_ (by repeat (first | (with_reducible first | exact HB.out | apply qb_ | apply qa_ | apply qc_ | refine qg_ ?_ GE106.out) | exact HB.out))) : w.heap.size ≤ gb112)); have n6_ := Aside0.mk ((by rw [hg]; exact (ql_ (by repeat (first | (with_reducible first | exact HB.out | apply qb_ | apply qa_ | apply qc_ | refine qg_ ?_ GE106.out) | exact HB.out))) : w.heap.size ≤ gb112)); have n7_ := Aside0.mk ((by rw [hg]; exact Nat.ne_of_lt (blk_lt (g := gb106) (o := .cells #[.int .i64 x107000_1, .slice Ao16 x107001_1.length co16] 27 (0, 0)) (by (with_reducible repeat (first | refine qd_ ?_ _ | refine qh_ ?_ | refine qe_ ?_ _)); exact BK106.out)) : gb106 ≠ gb112)); have n8_ := Aside0.mk ((by rw [hg]; exact Nat.ne_of_gt (blk_lt (g := gb106) (o := .cells #[.int .i64 x107000_1, .slice Ao16 x107001_1.length co16] 27 (0, 0)) (by (with_reducible repeat (first | refine qd_ ?_ _ | refine qh_ ?_ | refine qe_ ?_ _)); exact BK106.out)) : gb112 ≠ gb106)); clear HO_107001; clear HO110; clear BK106; clear HB; have HO_107001 := n0_; have HO110 := n1_; have BK106 := n2_; have HB := n3_; have BK112 := n4_; have GW112 := n5_; have GE112 := n6_; have NB106_112 := n7_; have NB112_106 := n8_; clear n0_ n1_ n2_ n3_ n4_ n5_ n6_ n7_ n8_; clear hb hbox hg; have hnb19 := NB112_106.out; have hnc19 := NB106_112.out; have hcz20_0 : w18.cell? ⟨gb112, 0, none⟩ = some (.int .i64 0) := (qi_ BK112.out 0).trans rfl; have hcz20_1 : w18.cell? ⟨gb112, 1, none⟩ = some (.slice none 0 0) := (qi_ BK112.out 1).trans rfl; have hfz20_0 := qf_ BK112.out 0; have hfz20_1 := qf_ BK112.out 1; obtain ⟨Ao21, co21, eo21⟩ := Kd.V_slice HO110.out; subst eo21; have hcz22_0 : w18.cell? ⟨gb106, 0, none⟩ = some (.int .i64 x107000_1) := (qi_ BK106.out 0).trans rfl; have hcz22_1 : w18.cell? ⟨gb106, 1, none⟩ = some (.slice Ao16 x107001_1.length co16) := (qi_ BK106.out 1).trans rfl; have hfz22_0 := qf_ BK106.out 0; have hfz22_1 := qf_ BK106.out 1))
      go_roundg k1
      case measure => have := HK1.out; omega
      case rel => exact ⟨(wrap64 (x9_1 + 1)), (t107), (t108), (.slice Ao21 t108.length co21), (by first | rfl | (simp; done) | (simp [*]; done)), H', ⟨by have := HK1.out; omega⟩, ⟨by (with_reducible repeat (first | apply Kd.qk_ | apply Kd.qj_ | apply Kd.V_drew)); exact Kd.V_mono (Kd.V_far (p := ⟨gb106, 1, none⟩) (Kd.V_far (p := ⟨gb106, 0, none⟩) (Kd.V_far (p := ⟨gb112, 1, none⟩) (Kd.V_far (p := ⟨gb112, 0, none⟩) (Kd.V_mono (Kd.V_mono HO110.out (fun k_ hk => (⟨hk, hk.2⟩ : _ ∧ k_ ≠ gb112))) (fun k_ hk => (⟨hk, hk.1.1⟩ : _ ∧ k_ ≠ gb106))) (fun _ hk => hk.1.2) (.int .i64 t107)) (fun _ hk => hk.1.2) (.slice Ao21 t108.length co21)) (fun _ hk => hk.2) (.int .i64 t107)) (fun _ hk => hk.2) (.slice Ao21 t108.length co21)) (fun _ hk => hk.1.1.1)⟩, ⟨by (with_reducible repeat (first | refine qd_ ?_ _ | refine qh_ ?_ | refine qe_ ?_ _)); refine blk_put (cs := #[.int .i64 t107, .slice Ao16 x107001_1.length co16]) ?_ 1 _ rfl; (with_reducible repeat (first | refine qd_ ?_ _ | refine qh_ ?_ | refine qe_ ?_ _)); refine blk_put (cs := #[.int .i64 x107000_1, .slice Ao16 x107001_1.length co16]) ?_ 0 _ rfl; (with_reducible repeat (first | refine qd_ ?_ _ | refine qh_ ?_ | refine qe_ ?_ _)); refine blk_far ?_ NB106_112.out _; (with_reducible repeat (first | refine qd_ ?_ _ | refine qh_ ?_ | refine qe_ ?_ _)); refine blk_far ?_ NB106_112.out _; (with_reducible repeat (first | refine qd_ ?_ _ | refine qh_ ?_ | refine qe_ ?_ _)); exact BK106.out⟩, ⟨by repeat (first | (with_reducible first | exact HB.out | apply qb_ | apply qa_ | apply qc_ | refine qg_ ?_ GE106.out | refine qg_ ?_ GE112.out) | exact HB.out)⟩⟩
     ·rw [if_neg c14] at H
      have c14b0 : (t111 == 0) = false := beq_eq_false_iff_ne.mpr c14
      have c14b1 : (t111 != 0) = true := bne_iff_ne.mpr c14
      obtain rfl := Option.some.inj H
      have hcz23_0 : wr.cell? ⟨gb106, 0, none⟩ = some (.int .i64 x107000_1) := (qi_ BK106.out 0).trans rfl
      have hcz23_1 : wr.cell? ⟨gb106, 1, none⟩ = some (u107001) := (qi_ BK106.out 1).trans rfl
      have hfz23_0 := qf_ BK106.out 0
      have hfz23_1 := qf_ BK106.out 1
      obtain ⟨Ao24, co24, eo24⟩ := Kd.V_slice HO_107001.out
      subst eo24
      go_wp2_with (first | ((with_reducible refine qn_ (f := 9) rfl ?_); refine goesL_ (some 32) rfl rfl Try.func9 (by kernel_rfl) rfl #[.agg #[.int .i64 x107000_1, .slice Ao24 x107001_1.length co24], .int .i64 (wrap64 (x9_1 * (wrap64 (a1)))), .int .i64 (wrap64 (a2))] rfl (by (try simp only [List.map_toArray, List.map_cons, List.map_nil]); first | done | rfl | (simp only [List.length_drop, List.length_take]; rfl)) ?_; (with_reducible refine (window_Arrive.calls k1 x107000_1 (fun k_ => k_ ≠ gb106) _ _ x107001_1 (wrap64 (x9_1 * (wrap64 (a1)))) (wrap64 (a2)) t107 t108 t111 _ ?side1 A13.out).mono ?_); (case side1 => exact HO_107001.out); rintro e w25 ⟨v109, rfl, ho0, hb⟩; refine ⟨_, rfl, ?_⟩; have n0_ := Aside0.mk (Kd.qo_ (by (with_reducible repeat (first | apply Kd.qk_ | apply Kd.qj_ | apply Kd.V_drew)); exact HO_107001.out) hb); have n1_ := Aside0.mk (Kd.V_lower (Kd.V_mono (ok' := fun k_ => k_ ≠ gb106) ho0 (fun k_ hk_ => Or.elim hk_ (fun hs_ => hs_) (fun hn_ => (Kd.freshB (g := gb106) (o := .cells #[.int .i64 x107000_1, .slice Ao24 x107001_1.length co24] 27 (0, 0)) (by (with_reducible repeat (first | refine qd_ ?_ _ | refine qh_ ?_ | refine qe_ ?_ _)); exact BK106.out) k_ hn_)))) (ql_ (by repeat (first | (with_reducible first | exact HB.out | apply qb_ | apply qa_ | apply qc_ | refine qg_ ?_ GE106.out) | exact HB.out)))); have n2_ := Aside0.mk (qp_ (g := gb106) (o := .cells #[.int .i64 x107000_1, .slice Ao24 x107001_1.length co24] 27 (0, 0)) (by (with_reducible repeat (first | refine qd_ ?_ _ | refine qh_ ?_ | refine qe_ ?_ _)); exact BK106.out) hb); have n3_ := Aside0.mk (qm_ (by repeat (first | (with_reducible first | exact HB.out | apply qb_ | apply qa_ | apply qc_ | refine qg_ ?_ GE106.out) | exact HB.out)) hb); clear HO_107001; clear BK106; clear HB; have HO_107001 := n0_; have HO110 := n1_; have BK106 := n2_; have HB := n3_; clear n0_ n1_ n2_ n3_; (try clear hb); (try clear hb2); (try clear hk); (try clear hi); (try clear ho0)) | ((with_reducible refine gate_dst (N := 10) rfl ?_); (try (refine gate_guard (by rfl) ?_; dsimp only)); refine box_event ?hg (N := 10) ?hd (cs := #[.int .i64 0, .slice none 0 0]) (t := 27) ?hr ?_; (case hd => rfl); (case hg => rfl); (case hr => first | (go_simp; done) | (go_simp; rfl)); intro gb112 hg w26 hbox hb; have n0_ := Aside0.mk (Kd.qo_ (Kd.V_elderB (by (with_reducible repeat (first | apply Kd.qk_ | apply Kd.qj_ | apply Kd.V_drew)); exact HO_107001.out) gb112 (Nat.le_of_eq hg.symm)) hb); have n1_ := Aside0.mk (Kd.qo_ (Kd.V_elderB (by (with_reducible repeat (first | apply Kd.qk_ | apply Kd.qj_ | apply Kd.V_drew)); exact HO110.out) gb112 (Nat.le_of_eq hg.symm)) hb); have n2_ := Aside0.mk (qp_ (g := gb106) (o := .cells #[.int .i64 x107000_1, .slice Ao24 x107001_1.length co24] 27 (0, 0)) (by (with_reducible repeat (first | refine qd_ ?_ _ | refine qh_ ?_ | refine qe_ ?_ _)); exact BK106.out) hb); have n3_ := Aside0.mk (qm_ (by repeat (first | (with_reducible first | exact HB.out | apply qb_ | apply qa_ | apply qc_ | refine qg_ ?_ GE106.out) | exact HB.out)) hb); have n4_ := Aside0.mk (hbox); have n5_ := Aside0.mk ((by rw [hg]; exact (ql_ (by repeat (first | (with_reducible first | exact HB.out | apply qb_ | apply qa_ | apply qc_ | refine qg_ ?_ GE106.out) | exact HB.out))) : w.heap.size ≤ gb112)); have n6_ := Aside0.mk ((by rw [hg]; exact (ql_ (by repeat (first | (with_reducible first | exact HB.out | apply qb_ | apply qa_ | apply qc_ | refine qg_ ?_ GE106.out) | exact HB.out))) : w.heap.size ≤ gb112)); have n7_ := Aside0.mk ((by rw [hg]; exact Nat.ne_of_lt (blk_lt (g := gb106) (o := .cells #[.int .i64 x107000_1, .slice Ao24 x107001_1.length co24] 27 (0, 0)) (by (with_reducible repeat (first | refine qd_ ?_ _ | refine qh_ ?_ | refine qe_ ?_ _)); exact BK106.out)) : gb106 ≠ gb112)); have n8_ := Aside0.mk ((by rw [hg]; exact Nat.ne_of_gt (blk_lt (g := gb106) (o := .cells #[.int .i64 x107000_1, .slice Ao24 x107001_1.length co24] 27 (0, 0)) (by (with_reducible repeat (first | refine qd_ ?_ _ | refine qh_ ?_ | refine qe_ ?_ _)); exact BK106.out)) : gb112 ≠ gb106)); clear HO_107001; clear HO110; clear BK106; clear HB; have HO_107001 := n0_; have HO110 := n1_; have BK106 := n2_; have HB := n3_; have BK112 := n4_; have GW112 := n5_; have GE112 := n6_; have NB106_112 := n7_; have NB112_106 := n8_; clear n0_ n1_ n2_ n3_ n4_ n5_ n6_ n7_ n8_; clear hb hbox hg; have hnb27 := NB112_106.out; have hnc27 := NB106_112.out; have hcz28_0 : w26.cell? ⟨gb112, 0, none⟩ = some (.int .i64 0) := (qi_ BK112.out 0).trans rfl; have hcz28_1 : w26.cell? ⟨gb112, 1, none⟩ = some (.slice none 0 0) := (qi_ BK112.out 1).trans rfl; have hfz28_0 := qf_ BK112.out 0; have hfz28_1 := qf_ BK112.out 1; obtain ⟨Ao29, co29, eo29⟩ := Kd.V_slice HO110.out; subst eo29))
      go_ret
      exact ⟨by first | rfl | (simp [errW_none, errW_some] <;> rfl) | (simp [*, errW_none, errW_some] <;> rfl), by repeat (first | (with_reducible first | exact HB.out | apply qb_ | apply qa_ | apply qc_ | refine qg_ ?_ GE106.out | refine qg_ ?_ GE112.out) | exact HB.out)⟩
    ·rw [if_neg c12] at H
     have c12b0 : decide (x9_1 < (wrap64 (2 + (Int.tmod (wrap64 (a0)) 60)))) = false := decide_eq_false c12
     clear c12
     replace H := ob_ H
     obtain ⟨t113, A300, H⟩ := H
     replace H : (if t113 = (mx 1 (mn (wrap64 (a1)) (wrap64 (a2)))) then (some ((x107001_1.length : Int) == (mn (wrap64 ((wrap64 (2 + (Int.tmod (wrap64 (a0)) 60))) - 1)) 16))) else (some false)) = some r := H
     have A30 := Aside0.mk A300
     clear A300
     obtain ⟨ji31, hji31⟩ : ∃ j_ : Int, (mn (wrap64 (a1)) (wrap64 (a2))) = j_ := ⟨_, rfl⟩
     replace H : (if t113 = (mx 1 (ji31)) then (some ((x107001_1.length : Int) == (mn (wrap64 ((wrap64 (2 + (Int.tmod (wrap64 (a0)) 60))) - 1)) 16))) else (some false)) = some r := by first | (rw [hji31] at H; exact H) | (simp only [hji31] at H ⊢; exact H)
     (try rw [hji31] at A30)
     have hji31_ : (if (wrap64 (a2)) < (wrap64 (a1)) then (wrap64 (a2)) else (wrap64 (a1))) = ji31 := hji31
     obtain ⟨ji32, hji32⟩ : ∃ j_ : Int, (mx 1 (ji31)) = j_ := ⟨_, rfl⟩
     replace H : (if t113 = (ji32) then (some ((x107001_1.length : Int) == (mn (wrap64 ((wrap64 (2 + (Int.tmod (wrap64 (a0)) 60))) - 1)) 16))) else (some false)) = some r := by first | (rw [hji32] at H; exact H) | (simp only [hji32] at H ⊢; exact H)
     (try rw [hji32] at A30)
     have hji32_ : (if 1 < (ji31) then (ji31) else 1) = ji32 := hji32
     by_cases c33 : t113 = (ji32)
     ·rw [if_pos c33] at H
      have c33b0 : (t113 == (ji32)) = true := beq_iff_eq.mpr c33
      have c33b1 : (t113 != (ji32)) = false := bne_eq_false_iff_eq.mpr c33
      clear c33
      obtain ⟨ji34, hji34⟩ : ∃ j_ : Int, (mn (wrap64 ((wrap64 (2 + (Int.tmod (wrap64 (a0)) 60))) - 1)) 16) = j_ := ⟨_, rfl⟩
      replace H : (some ((x107001_1.length : Int) == (ji34))) = some r := by first | (rw [hji34] at H; exact H) | (simp only [hji34] at H ⊢; exact H)
      (try rw [hji34] at A30)
      have hji34_ : (if 16 < (wrap64 ((wrap64 (2 + (Int.tmod (wrap64 (a0)) 60))) - 1)) then 16 else (wrap64 ((wrap64 (2 + (Int.tmod (wrap64 (a0)) 60))) - 1))) = ji34 := hji34
      obtain rfl := Option.some.inj H
      have hcz35_0 : wr.cell? ⟨gb106, 0, none⟩ = some (.int .i64 x107000_1) := (qi_ BK106.out 0).trans rfl
      have hcz35_1 : wr.cell? ⟨gb106, 1, none⟩ = some (u107001) := (qi_ BK106.out 1).trans rfl
      have hfz35_0 := qf_ BK106.out 0
      have hfz35_1 := qf_ BK106.out 1
      obtain ⟨Ao36, co36, eo36⟩ := Kd.V_slice HO_107001.out
      subst eo36
      go_wp2_with (first | ((with_reducible refine qn_ (f := 11) rfl ?_); refine goesL_ (some 39) rfl rfl Try.func11 (by kernel_rfl) rfl #[.agg #[.int .i64 x107000_1, .slice Ao36 x107001_1.length co36], .int .i64 999] rfl (by (try simp only [List.map_toArray, List.map_cons, List.map_nil]); first | done | rfl | (simp only [List.length_drop, List.length_take]; rfl)) ?_; (with_reducible refine (window_Mean.calls k1 x107000_1 _ _ x107001_1 999 t113 _ ?side1 ?side2 A30.out).mono ?_); (case side1 => repeat (first | exact (Kd.V_reads' HO_107001.out).2.2 | (with_reducible refine Kd.C_alloc ?_ _) | (with_reducible refine Kd.C_drewN ?_ _) | (with_reducible refine Kd.C_drew ?_))); (case side2 => exact (Kd.V_reads' HO_107001.out).2.1); rintro e w37 ⟨rfl, hb⟩; refine ⟨_, rfl, ?_⟩; have n0_ := Aside0.mk (Kd.qo_ (by (with_reducible repeat (first | apply Kd.qk_ | apply Kd.qj_ | apply Kd.V_drew)); exact HO_107001.out) hb); have n1_ := Aside0.mk (qp_ (g := gb106) (o := .cells #[.int .i64 x107000_1, .slice Ao36 x107001_1.length co36] 27 (0, 0)) (by (with_reducible repeat (first | refine qd_ ?_ _ | refine qh_ ?_ | refine qe_ ?_ _)); exact BK106.out) hb); have n2_ := Aside0.mk (qm_ (by repeat (first | (with_reducible first | exact HB.out | apply qb_ | apply qa_ | apply qc_ | refine qg_ ?_ GE106.out) | exact HB.out)) hb); clear HO_107001; clear BK106; clear HB; have HO_107001 := n0_; have BK106 := n1_; have HB := n2_; clear n0_ n1_ n2_; (try clear hb); (try clear hb2); (try clear hk); (try clear hi); have hcz38_0 : w37.cell? ⟨gb106, 0, none⟩ = some (.int .i64 x107000_1) := (qi_ BK106.out 0).trans rfl; have hcz38_1 : w37.cell? ⟨gb106, 1, none⟩ = some (.slice Ao36 x107001_1.length co36) := (qi_ BK106.out 1).trans rfl; have hfz38_0 := qf_ BK106.out 0; have hfz38_1 := qf_ BK106.out 1))
      go_ret
      exact ⟨by first | rfl | (simp [errW_none, errW_some] <;> rfl) | (simp only [← hji31, ← hji32, ← hji34]; first | rfl | (simp [errW_none, errW_some] <;> rfl)) | (simp [*, errW_none, errW_some] <;> rfl), by repeat (first | (with_reducible first | exact HB.out | apply qb_ | apply qa_ | apply qc_ | refine qg_ ?_ GE106.out) | exact HB.out)⟩
     ·rw [if_neg c33] at H
      have c33b0 : (t113 == (ji32)) = false := beq_eq_false_iff_ne.mpr c33
      have c33b1 : (t113 != (ji32)) = true := bne_iff_ne.mpr c33
      obtain rfl := Option.some.inj H
      have hcz39_0 : wr.cell? ⟨gb106, 0, none⟩ = some (.int .i64 x107000_1) := (qi_ BK106.out 0).trans rfl
      have hcz39_1 : wr.cell? ⟨gb106, 1, none⟩ = some (u107001) := (qi_ BK106.out 1).trans rfl
      have hfz39_0 := qf_ BK106.out 0
      have hfz39_1 := qf_ BK106.out 1
      obtain ⟨Ao40, co40, eo40⟩ := Kd.V_slice HO_107001.out
      subst eo40
      go_wp2_with (first | ((with_reducible refine qn_ (f := 11) rfl ?_); refine goesL_ (some 39) rfl rfl Try.func11 (by kernel_rfl) rfl #[.agg #[.int .i64 x107000_1, .slice Ao40 x107001_1.length co40], .int .i64 999] rfl (by (try simp only [List.map_toArray, List.map_cons, List.map_nil]); first | done | rfl | (simp only [List.length_drop, List.length_take]; rfl)) ?_; (with_reducible refine (window_Mean.calls k1 x107000_1 _ _ x107001_1 999 t113 _ ?side1 ?side2 A30.out).mono ?_); (case side1 => repeat (first | exact (Kd.V_reads' HO_107001.out).2.2 | (with_reducible refine Kd.C_alloc ?_ _) | (with_reducible refine Kd.C_drewN ?_ _) | (with_reducible refine Kd.C_drew ?_))); (case side2 => exact (Kd.V_reads' HO_107001.out).2.1); rintro e w41 ⟨rfl, hb⟩; refine ⟨_, rfl, ?_⟩; have n0_ := Aside0.mk (Kd.qo_ (by (with_reducible repeat (first | apply Kd.qk_ | apply Kd.qj_ | apply Kd.V_drew)); exact HO_107001.out) hb); have n1_ := Aside0.mk (qp_ (g := gb106) (o := .cells #[.int .i64 x107000_1, .slice Ao40 x107001_1.length co40] 27 (0, 0)) (by (with_reducible repeat (first | refine qd_ ?_ _ | refine qh_ ?_ | refine qe_ ?_ _)); exact BK106.out) hb); have n2_ := Aside0.mk (qm_ (by repeat (first | (with_reducible first | exact HB.out | apply qb_ | apply qa_ | apply qc_ | refine qg_ ?_ GE106.out) | exact HB.out)) hb); clear HO_107001; clear BK106; clear HB; have HO_107001 := n0_; have BK106 := n1_; have HB := n2_; clear n0_ n1_ n2_; (try clear hb); (try clear hb2); (try clear hk); (try clear hi)))
      go_ret
      exact ⟨by first | rfl | (simp [errW_none, errW_some] <;> rfl) | (simp only [← hji31, ← hji32]; first | rfl | (simp [errW_none, errW_some] <;> rfl)) | (simp [*, errW_none, errW_some] <;> rfl), by repeat (first | (with_reducible first | exact HB.out | apply qb_ | apply qa_ | apply qc_ | refine qg_ ?_ GE106.out) | exact HB.out)⟩
 ·replace c5 := Bool.eq_false_iff.mpr c5
  subst c5
  have H1 : (some false) = some r := by rw [if_neg (show ¬ (false = true) by decide)] at H; exact H
  clear H
  have H := H1
  clear H1
  obtain rfl := Option.some.inj H
  go_enter Try.func5, Try.ntmps5
  go_wp2_with (first | ((with_reducible refine qn_ (f := 7) rfl ?_); refine goesL_ (some 12) rfl rfl Try.func7 (by kernel_rfl) rfl #[] rfl (by (try simp only [List.map_toArray, List.map_cons, List.map_nil]); first | done | rfl | (simp only [List.length_drop, List.length_take]; rfl)) ?_; (with_reducible refine (law10_alive.calls k  false _ A4.out).mono ?_); rintro e w42 ⟨rfl, hb⟩; refine ⟨_, rfl, ?_⟩; have n0_ := Aside0.mk (qm_ (by repeat (first | (with_reducible first | exact HB.out | apply qb_ | apply qa_ | apply qc_) | exact HB.out)) hb); clear HB; have HB := n0_; clear n0_; (try clear hb); (try clear hb2); (try clear hk); (try clear hi)))
  go_ret
  exact ⟨by first | rfl | (simp [errW_none, errW_some] <;> rfl) | (simp [*, errW_none, errW_some] <;> rfl), by repeat (first | (with_reducible first | exact HB.out | apply qb_ | apply qa_ | apply qc_) | exact HB.out)⟩
/-- THE ONE PURE STATEMENT of law10_WindowSteady: yours. -/
def law10_WindowSteady.Pure : Prop := ∀ (a0 : Int) (a1 : Int) (a2 : Int), (Lit.int .u8 a0).wf = true → (Lit.int .u8 a1).wf = true → (Lit.int .u8 a2).wf = true → ∃ k, law10_WindowSteady.f k a0 a1 a2 = some true
theorem law10_WindowSteady.walk (P : law10_WindowSteady.Pure) (a0 : Int) (a1 : Int) (a2 : Int) (w : World) (w0 : (Lit.int .u8 a0).wf = true) (w1 : (Lit.int .u8 a1).wf = true) (w2 : (Lit.int .u8 a2).wf = true) :
  Calls Try.prog 5 #[.int .u8 a0, .int .u8 a1, .int .u8 a2] w fun e w' => e = .returned (.bool true) ∧ Below w.heap.size w w' := by
 obtain ⟨k, h⟩ := P a0 a1 a2 w0 w1 w2
 refine (law10_WindowSteady.calls k a0 a1 a2 true w h).mono ?_
 rintro e w' ⟨rfl, hd⟩
 exact ⟨rfl, hd⟩
end Go.Proofs.Ytkojggbogdjmcaa.P

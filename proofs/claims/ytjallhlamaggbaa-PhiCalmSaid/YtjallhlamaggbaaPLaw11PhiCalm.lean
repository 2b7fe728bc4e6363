/- What this function of the program comes to, and that the machine's call does it: written by a program (wip/tool). No condition. -/
import Derived.Test.YtjallhlamaggbaaP0
import Derived.Test.YtjallhlamaggbaaPPhiBound
import Derived.Test.YtjallhlamaggbaaPPhiSuspect
import Derived.Test.YtjallhlamaggbaaPLaw11Alive
import Derived.Test.YtjallhlamaggbaaPRef10Mean
import Derived.Test.YtjallhlamaggbaaPRef10New
import Derived.Test.YtjallhlamaggbaaPRef10Arrive
import Derived.Test.YtjallhlamaggbaaHw
namespace Go.Proofs.Ytjallhlamaggbaa.P
open Go.RowKit Go.Proofs.YtjallhlamaggbaaW.PrintWords Go.Proofs.YtjallhlamaggbaaW.PrintLast Go.Proofs.YtjallhlamaggbaaW.PrintMore
attribute [local go_sem] max2_int min2_int max_two min_two max_three min_three max_four min_four   -- for this text's walks alone
set_option linter.unusedVariables false
set_option linter.unusedSimpArgs false
/-! ### law11_PhiCalm: function 5 -/
mutual
def law11_PhiCalm.j0 : Nat → List Int → Int → Bool → Option (Bool)
 | 0, _, _, _ => none
 | k + 1, x0, x1, x19 => if x19 = true then (some true) else ((ref10_New.f).bind fun bt102 => (law11_PhiCalm.l0 k x0 x1 0 1 0 bt102.1 bt102.2))
def law11_PhiCalm.l0 : Nat → List Int → Int → Int → Int → Int → Int → List Int → Option (Bool)
 | 0, _, _, _, _, _, _, _ => none
 | k + 1, x0, x1, x6, x7, x8, x107000, x107001 => if x8 < (x0.length : Int) then (if 0 ≤ x8 then ((ref10_Arrive.f k x107000 x107001 (wrap64 (x6 + (mx 1 (wrap64 (rd x0 x8))))) 1000).bind fun bt109 => (law11_PhiCalm.l0 k x0 x1 (wrap64 (x6 + (mx 1 (wrap64 (rd x0 x8))))) (mx x7 (wrap64 (rd x0 x8))) (wrap64 (x8 + 1)) bt109.1 bt109.2.1)) else (none)) else ((ref10_Mean.f k x107000 x107001 1).bind fun t114 => (if (wrap64 (434 * x7)) ≥ (wrap64 ((wrap64 ((wrap64 (x1)) + 1)) * t114)) then (some true) else ((phi_Suspect.f k x107000 x107001 (wrap64 (x6 + x7)) 1 (wrap64 (x1))).bind fun t115 => (if t115 = true then (some false) else ((phi_Bound.f k (wrap64 (x1)) t114).bind fun t116 => (some (decide (t116 > x7))))))))
end
def law11_PhiCalm.f (k : Nat) (l0 : List Int) (a1 : Int) : Option (Bool) := (law11_alive.f k).bind fun t101 => (if t101 = true then (if (l0.length : Int) < 16 then (law11_PhiCalm.j0 k l0 a1 true) else (law11_PhiCalm.j0 k l0 a1 (decide ((l0.length : Int) > 200)))) else (some false))
theorem law11_PhiCalm.mono_l : ∀ k, (∀ y0 y1 y2, LeO (law11_PhiCalm.j0 k y0 y1 y2) (law11_PhiCalm.j0 (k + 1) y0 y1 y2)) ∧ (∀ y0 y1 y2 y3 y4 y5 y6, LeO (law11_PhiCalm.l0 k y0 y1 y2 y3 y4 y5 y6) (law11_PhiCalm.l0 (k + 1) y0 y1 y2 y3 y4 y5 y6))
 | 0 => ⟨fun _ _ _ r h => by simp [law11_PhiCalm.j0] at h, fun _ _ _ _ _ _ _ r h => by simp [law11_PhiCalm.l0] at h⟩
 | k + 1 => by
  obtain ⟨ih0, ih1⟩ := law11_PhiCalm.mono_l k
  refine ⟨?_, ?_⟩
  ·intro y0 y1 y2
   unfold law11_PhiCalm.j0
   repeat' first
   | (with_reducible exact ih0 _ _ _)
   | (with_reducible exact ih1 _ _ _ _ _ _ _)
   | (with_reducible exact law11_alive.mono _)
   | (with_reducible exact ref10_Arrive.mono _ _ _ _ _)
   | (with_reducible exact ref10_Mean.mono _ _ _ _)
   | (with_reducible exact phi_Bound.mono _ _ _)
   | (with_reducible exact phi_Suspect.mono _ _ _ _ _ _)
   | (with_reducible exact LeO.refl _)
   | (with_reducible exact LeO.none _)
   | (with_reducible refine LeO.ite ?_ ?_)
   | (with_reducible refine LeO.bind ?_ (fun _ => ?_))
   | exact ih0 _ _ _
   | exact ih1 _ _ _ _ _ _ _
   | exact law11_alive.mono _
   | exact ref10_Arrive.mono _ _ _ _ _
   | exact ref10_Mean.mono _ _ _ _
   | exact phi_Bound.mono _ _ _
   | exact phi_Suspect.mono _ _ _ _ _ _
   | exact LeO.none _
   | refine LeO.ite ?_ ?_
   | refine LeO.bind ?_ (fun _ => ?_)
  ·intro y0 y1 y2 y3 y4 y5 y6
   unfold law11_PhiCalm.l0
   repeat' first
   | (with_reducible exact ih0 _ _ _)
   | (with_reducible exact ih1 _ _ _ _ _ _ _)
   | (with_reducible exact law11_alive.mono _)
   | (with_reducible exact ref10_Arrive.mono _ _ _ _ _)
   | (with_reducible exact ref10_Mean.mono _ _ _ _)
   | (with_reducible exact phi_Bound.mono _ _ _)
   | (with_reducible exact phi_Suspect.mono _ _ _ _ _ _)
   | (with_reducible exact LeO.refl _)
   | (with_reducible exact LeO.none _)
   | (with_reducible refine LeO.ite ?_ ?_)
   | (with_reducible refine LeO.bind ?_ (fun _ => ?_))
   | exact ih0 _ _ _
   | exact ih1 _ _ _ _ _ _ _
   | exact law11_alive.mono _
   | exact ref10_Arrive.mono _ _ _ _ _
   | exact ref10_Mean.mono _ _ _ _
   | exact phi_Bound.mono _ _ _
   | exact phi_Suspect.mono _ _ _ _ _ _
   | exact LeO.none _
   | refine LeO.ite ?_ ?_
   | refine LeO.bind ?_ (fun _ => ?_)
theorem law11_PhiCalm.mono : ∀ a0 a1 k, LeO (law11_PhiCalm.f k a0 a1) (law11_PhiCalm.f (k + 1) a0 a1) := by
 intro a0 a1 k
 obtain ⟨ih0, ih1⟩ := law11_PhiCalm.mono_l k
 unfold law11_PhiCalm.f
 repeat' first
   | (with_reducible exact ih0 _ _ _)
   | (with_reducible exact ih1 _ _ _ _ _ _ _)
   | (with_reducible exact law11_alive.mono _)
   | (with_reducible exact ref10_Arrive.mono _ _ _ _ _)
   | (with_reducible exact ref10_Mean.mono _ _ _ _)
   | (with_reducible exact phi_Bound.mono _ _ _)
   | (with_reducible exact phi_Suspect.mono _ _ _ _ _ _)
   | (with_reducible exact LeO.refl _)
   | (with_reducible exact LeO.none _)
   | (with_reducible refine LeO.ite ?_ ?_)
   | (with_reducible refine LeO.bind ?_ (fun _ => ?_))
   | exact ih0 _ _ _
   | exact ih1 _ _ _ _ _ _ _
   | exact law11_alive.mono _
   | exact ref10_Arrive.mono _ _ _ _ _
   | exact ref10_Mean.mono _ _ _ _
   | exact phi_Bound.mono _ _ _
   | exact phi_Suspect.mono _ _ _ _ _ _
   | exact LeO.none _
   | refine LeO.ite ?_ ?_
   | refine LeO.bind ?_ (fun _ => ?_)
set_option maxHeartbeats 8000000 in
set_option maxRecDepth 100000 in
theorem law11_PhiCalm.calls (k : Nat) (A0 : Option Addr) (c0 : Nat) (l0 : List Int) (a1 : Int) (r : Bool) (w : World) (hr0 : Kd.C (Kd.int .u8) w A0 l0.length l0) (hc0 : l0.length ≤ c0) (h : law11_PhiCalm.f k l0 a1 = some r) :
  Calls Try.prog 5 #[.slice A0 l0.length c0, .int .u16 a1] w fun e w' => e = .returned (.bool r) ∧ Below w.heap.size w w' := by
 have hu24 := Try.underlying24
 have HR0 := Aside0.mk hr0
 have HC0 := Aside0.mk hc0
 clear hr0 hc0
 have HB := Aside0.mk (Below.refl w.heap.size w)
 have H : ((law11_alive.f k).bind fun t101 => (if t101 = true then (if (l0.length : Int) < 16 then (law11_PhiCalm.j0 k l0 a1 true) else (law11_PhiCalm.j0 k l0 a1 (decide ((l0.length : Int) > 200)))) else (some false))) = some r := h
 clear h
 replace H := ob_ H
 obtain ⟨t101, A30, H⟩ := H
 replace H : (if t101 = true then (if (l0.length : Int) < 16 then (law11_PhiCalm.j0 k l0 a1 true) else (law11_PhiCalm.j0 k l0 a1 (decide ((l0.length : Int) > 200)))) else (some false)) = some r := H
 have A3 := Aside0.mk A30
 clear A30
 by_cases c4 : t101 = true
 ·subst c4
  have H1 : (if (l0.length : Int) < 16 then (law11_PhiCalm.j0 k l0 a1 true) else (law11_PhiCalm.j0 k l0 a1 (decide ((l0.length : Int) > 200)))) = some r := by rw [if_pos rfl] at H; exact H
  clear H
  have H := H1
  clear H1
  have HC5 := Aside0.mk H
  clear H
  go_enter Try.func5, Try.ntmps5
  go_upto_region 3 with (first | ((with_reducible refine qm_ (f := 8) rfl ?_); refine goesL_ (some 10) rfl rfl Try.func8 (by kernel_rfl) rfl #[] rfl (by (try simp only [List.map_toArray, List.map_cons, List.map_nil]); first | done | rfl | (simp only [List.length_drop, List.length_take]; rfl)) ?_; (with_reducible refine (law11_alive.calls k  true _ A3.out).mono ?_); rintro e w6 ⟨rfl, hb⟩; refine ⟨_, rfl, ?_⟩; have n0_ := Aside0.mk (qj_ (by repeat (first | (with_reducible first | exact HB.out | apply qc_ | apply qa_ | apply qb_) | exact HB.out)) hb); clear HB; have HB := n0_; clear n0_; (try clear hb); (try clear hb2); (try clear hk); (try clear hi)))
  (try simp only [Act.put, sa_, sb_, sc_])
  go_cut [19] (fun v19 wc => ∃ (kq : Nat) (x19_4 : Bool), v19 = .bool x19_4 ∧ Aside0 (law11_PhiCalm.j0 kq l0 a1 x19_4 = some r) ∧ Aside0 (kq ≤ k) ∧ Aside0 (Below w.heap.size w wc))
  case first =>
   have H := HC5.out
   clear HC5
   by_cases c7 : (l0.length : Int) < 16
   ·rw [if_pos c7] at H
    have c7b0 : decide ((l0.length : Int) < 16) = true := decide_eq_true c7
    have c7b1 : decide (l0.length < 16) = true := decide_eq_true (by omega)
    clear c7
    (first | rw [c7b0] | (simp only [i64_w, i32_w]; rw [c7b0]) | skip)
    have H' := Aside0.mk H
    clear H
    go_wp2
    go_meet
    case rel => exact ⟨_, (true), (by first | rfl | (simp; done) | (simp [*]; done)), H', ⟨by first | omega | exact Nat.le_refl _⟩, ⟨by repeat (first | (with_reducible first | exact HB.out | apply qc_ | apply qa_ | apply qb_) | exact HB.out)⟩⟩
   ·rw [if_neg c7] at H
    have c7b0 : decide ((l0.length : Int) < 16) = false := decide_eq_false c7
    have c7b1 : decide (l0.length < 16) = false := decide_eq_false (by omega)
    clear c7
    (first | rw [c7b0] | (simp only [i64_w, i32_w]; rw [c7b0]) | skip)
    have H' := Aside0.mk H
    clear H
    go_wp2
    go_meet
    case rel => exact ⟨_, (decide ((l0.length : Int) > 200)), (by first | rfl | (simp; done) | (simp [*]; done)), H', ⟨by first | omega | exact Nat.le_refl _⟩, ⟨by repeat (first | (with_reducible first | exact HB.out | apply qc_ | apply qa_ | apply qb_) | exact HB.out)⟩⟩
  case rest =>
   clear HC5
   try clear p2
   try clear c4
   try clear c5
   try clear c7
   try clear c7b0
   try clear c7b1
   obtain ⟨kq, x19_4, rfl, HA, HJ4, HB⟩ := hcut
   cases kq with
   | zero => exact absurd HA.out (by simp [law11_PhiCalm.j0])
   | succ kj4 =>
    have H := HA.out
    clear HA
    simp only [law11_PhiCalm.j0] at H
    by_cases c8 : x19_4 = true
    ·subst c8
     have H1 : (some true) = some r := by rw [if_pos rfl] at H; exact H
     clear H
     have H := H1
     clear H1
     obtain rfl := Option.some.inj H
     go_wp2
     go_ret
     exact ⟨by first | rfl | (simp [errW_none, errW_some] <;> rfl) | (simp [*, errW_none, errW_some] <;> rfl), by repeat (first | (with_reducible first | exact HB.out | apply qc_ | apply qa_ | apply qb_) | exact HB.out)⟩
    ·replace c8 := Bool.eq_false_iff.mpr c8
     subst c8
     have H1 : ((ref10_New.f).bind fun bt102 => (law11_PhiCalm.l0 kj4 l0 a1 0 1 0 bt102.1 bt102.2)) = some r := by rw [if_neg (show ¬ (false = true) by decide)] at H; exact H
     clear H
     have H := H1
     clear H1
     replace H := ob_ H
     obtain ⟨⟨t102, t103⟩, A90, H⟩ := H
     replace H : (law11_PhiCalm.l0 kj4 l0 a1 0 1 0 t102 t103) = some r := H
     have A9 := Aside0.mk A90
     clear A90
     have H' := Aside0.mk H
     clear H
     go_wp2_with (first | ((with_reducible refine qm_ (f := 15) rfl ?_); refine goesL_ (some 20) rfl rfl Try.func15 (by kernel_rfl) rfl #[] rfl (by (try simp only [List.map_toArray, List.map_cons, List.map_nil]); first | done | rfl | (simp only [List.length_drop, List.length_take]; rfl)) ?_; (with_reducible refine (ref10_New.calls  t102 t103 _ A9.out).mono ?_); rintro e w10 ⟨v104, rfl, ho0, hb⟩; refine ⟨_, rfl, ?_⟩; have n0_ := Aside0.mk (Kd.R_lower ho0 (ql_ (by repeat (first | (with_reducible first | exact HB.out | apply qc_ | apply qa_ | apply qb_) | exact HB.out)))); have n1_ := Aside0.mk (qj_ (by repeat (first | (with_reducible first | exact HB.out | apply qc_ | apply qa_ | apply qb_) | exact HB.out)) hb); clear HB; have HO105 := n0_; have HB := n1_; clear n0_ n1_; (try clear hb); (try clear hb2); (try clear hk); (try clear hi); (try clear ho0)) | ((with_reducible refine qo_ (N := 5) rfl ?_); (try (refine gate_guard (by rfl) ?_; dsimp only)); refine qn_ ?hg (N := 5) ?hd (cs := #[.int .i64 0, .slice none 0 0]) (t := 24) ?hr ?_; (case hd => rfl); (case hg => rfl); (case hr => first | (go_simp; done) | (go_simp; rfl)); intro gb106 hg w11 hbox hb; have n0_ := Aside0.mk (Kd.R_below (by (with_reducible repeat (first | apply Kd.R_alloc | apply Kd.R_drewN | apply Kd.R_drew)); exact HO105.out) hb); have n1_ := Aside0.mk (qj_ (by repeat (first | (with_reducible first | exact HB.out | apply qc_ | apply qa_ | apply qb_) | exact HB.out)) hb); have n2_ := Aside0.mk (hbox); have n3_ := Aside0.mk ((by rw [hg]; exact (ql_ (by repeat (first | (with_reducible first | exact HB.out | apply qc_ | apply qa_ | apply qb_) | exact HB.out))) : w.heap.size ≤ gb106)); have n4_ := Aside0.mk ((by rw [hg]; exact (ql_ (by repeat (first | (with_reducible first | exact HB.out | apply qc_ | apply qa_ | apply qb_) | exact HB.out))) : w.heap.size ≤ gb106)); clear HO105; clear HB; have HO105 := n0_; have HB := n1_; have BK106 := n2_; have GW106 := n3_; have GE106 := n4_; clear n0_ n1_ n2_ n3_ n4_; clear hb hbox hg; have hcz12_0 : w11.cell? ⟨gb106, 0, none⟩ = some (.int .i64 0) := (qi_ BK106.out 0).trans rfl; have hcz12_1 : w11.cell? ⟨gb106, 1, none⟩ = some (.slice none 0 0) := (qi_ BK106.out 1).trans rfl; have hfz12_0 := qh_ BK106.out 0; have hfz12_1 := qh_ BK106.out 1; obtain ⟨Ao13, co13, eo13⟩ := Kd.R_slice HO105.out; subst eo13))
     go_loopg [6, 7, 8] kj4 (fun kq v6 v7 v8 w' => ∃ (x6_2 : Int) (x7_2 : Int) (x8_2 : Int) (x107000_2 : Int) (x107001_2 : List Int) (u107001 : Value), v6 = .int .i64 x6_2 ∧ v7 = .int .i64 x7_2 ∧ v8 = .int .i64 x8_2 ∧ Aside0 (law11_PhiCalm.l0 kq l0 a1 x6_2 x7_2 x8_2 x107000_2 x107001_2 = some r) ∧ Aside0 (kq ≤ kj4) ∧ Aside0 (Kd.V (Kd.int .i64) 3 w' w.heap.size (fun k_ => k_ ≠ gb106) u107001 x107001_2) ∧ Aside0 (w'.heap[gb106]? = some (.cells #[.int .i64 x107000_2, u107001] 24 (0, 0))) ∧ Aside0 (Below w.heap.size w w'))
     case atStart => exact ⟨(0), (1), (0), (t102), (t103), (.slice Ao13 t103.length co13), (by first | rfl | (simp; done) | (simp [*]; done)), (by first | rfl | (simp; done) | (simp [*]; done)), (by first | rfl | (simp; done) | (simp [*]; done)), H', ⟨Nat.le_refl _⟩, ⟨Kd.R_V (by (with_reducible repeat (first | apply Kd.R_alloc | apply Kd.R_drewN | apply Kd.R_drew)); exact Kd.R_mono (Kd.R_far (p := ⟨gb106, 1, none⟩) (Kd.R_far (p := ⟨gb106, 0, none⟩) (Kd.R_types (Kd.R_types HO105.out BK106.out (by decide)) BK106.out (by decide)) (fun _ hk => hk.2) (.int .i64 t102)) (fun _ hk => hk.2) (.slice Ao13 t103.length co13)) (fun _ hk => hk.1.2))⟩, ⟨by (with_reducible repeat (first | refine qe_ ?_ _ | refine qg_ ?_ | refine qf_ ?_ _)); refine qr_ (cs := #[.int .i64 t102, .slice none 0 0]) ?_ 1 _ rfl; (with_reducible repeat (first | refine qe_ ?_ _ | refine qg_ ?_ | refine qf_ ?_ _)); refine qr_ (cs := #[.int .i64 0, .slice none 0 0]) ?_ 0 _ rfl; (with_reducible repeat (first | refine qe_ ?_ _ | refine qg_ ?_ | refine qf_ ?_ _)); exact BK106.out⟩, ⟨by repeat (first | (with_reducible first | exact HB.out | apply qc_ | apply qa_ | apply qb_ | refine qd_ ?_ GE106.out) | exact HB.out)⟩⟩
     case round =>
      clear H'
      try clear c1
      try clear p2
      try clear c4
      try clear c5
      try clear c7
      try clear c7b0
      try clear c7b1
      try clear c8
      try clear hcz12_0
      try clear hcz12_1
      try clear hfz12_0
      try clear hfz12_1
      try clear p2
      obtain ⟨x6_2, x7_2, x8_2, x107000_2, x107001_2, u107001, rfl, rfl, rfl, HA, HK2, HO_107001, BK106, HB⟩ := hrel
      cases gk with
      | zero => exact absurd HA.out (by simp [law11_PhiCalm.l0])
      | succ k2 =>
       have H := HA.out
       clear HA
       simp only [law11_PhiCalm.l0] at H
       by_cases c14 : x8_2 < (l0.length : Int)
       ·rw [if_pos c14] at H
        have c14b0 : decide (x8_2 < (l0.length : Int)) = true := decide_eq_true c14
        clear c14
        by_cases c15 : 0 ≤ x8_2
        ·rw [if_pos c15] at H
         have c15b0 : decide (0 ≤ x8_2) = true := decide_eq_true c15
         clear c15
         obtain ⟨ji16, hji16⟩ : ∃ j_ : Int, (mx x7_2 (wrap64 (rd l0 x8_2))) = j_ := ⟨_, rfl⟩
         replace H : ((ref10_Arrive.f k2 x107000_2 x107001_2 (wrap64 (x6_2 + (mx 1 (wrap64 (rd l0 x8_2))))) 1000).bind fun bt109 => (law11_PhiCalm.l0 k2 l0 a1 (wrap64 (x6_2 + (mx 1 (wrap64 (rd l0 x8_2))))) ji16 (wrap64 (x8_2 + 1)) bt109.1 bt109.2.1)) = some r := by first | (rw [hji16] at H; exact H) | (simp only [hji16] at H ⊢; exact H)
         have hji16_ : (if x7_2 < (wrap64 (rd l0 x8_2)) then (wrap64 (rd l0 x8_2)) else x7_2) = ji16 := hji16
         obtain ⟨ji17, hji17⟩ : ∃ j_ : Int, (mx 1 (wrap64 (rd l0 x8_2))) = j_ := ⟨_, rfl⟩
         replace H : ((ref10_Arrive.f k2 x107000_2 x107001_2 (wrap64 (x6_2 + (ji17))) 1000).bind fun bt109 => (law11_PhiCalm.l0 k2 l0 a1 (wrap64 (x6_2 + (ji17))) ji16 (wrap64 (x8_2 + 1)) bt109.1 bt109.2.1)) = some r := by first | (rw [hji17] at H; exact H) | (simp only [hji17] at H ⊢; exact H)
         have hji17_ : (if 1 < (wrap64 (rd l0 x8_2)) then (wrap64 (rd l0 x8_2)) else 1) = ji17 := hji17
         replace H := ob_ H
         obtain ⟨⟨t109, t110, t113⟩, A180, H⟩ := H
         replace H : (law11_PhiCalm.l0 k2 l0 a1 (wrap64 (x6_2 + (ji17))) ji16 (wrap64 (x8_2 + 1)) t109 t110) = some r := H
         have A18 := Aside0.mk A180
         clear A180
         have H' := Aside0.mk H
         clear H
         have p107 : 0 ≤ (x8_2 : Int) := of_decide_eq_true (by first | (with_reducible assumption) | assumption)
         have q107 : x8_2 < (l0.length : Int) := of_decide_eq_true (by first | (with_reducible assumption) | assumption)
         obtain ⟨ad107, e107, hx107_0⟩ := Kd.at_int HR0.out x8_2 p107 q107
         cases e107
         replace hx107_0 := (HB.out.cell (wb_ w _ hx107_0)).trans hx107_0
         replace p107 := eq_true p107
         replace q107 := eq_true q107
         have p108 : 0 ≤ (x8_2 : Int) := of_decide_eq_true (by first | (with_reducible assumption) | assumption)
         have q108 : x8_2 < (l0.length : Int) := of_decide_eq_true (by first | (with_reducible assumption) | assumption)
         obtain ⟨ad108, e108, hx108_0⟩ := Kd.at_int HR0.out x8_2 p108 q108
         obtain rfl : ad107 = ad108 := (by injection e108)
         replace hx108_0 := (HB.out.cell (wb_ w _ hx108_0)).trans hx108_0
         replace p108 := eq_true p108
         replace q108 := eq_true q108
         have hcz19_0 : wr.cell? ⟨gb106, 0, none⟩ = some (.int .i64 x107000_2) := (qi_ BK106.out 0).trans rfl
         have hcz19_1 : wr.cell? ⟨gb106, 1, none⟩ = some (u107001) := (qi_ BK106.out 1).trans rfl
         have hfz19_0 := qh_ BK106.out 0
         have hfz19_1 := qh_ BK106.out 1
         obtain ⟨Ao20, co20, eo20⟩ := Kd.V_slice HO_107001.out
         subst eo20
         go_wp2_with (first | ((with_reducible refine qm_ (f := 16) rfl ?_); refine goesL_ (some 45) rfl rfl Try.func16 (by kernel_rfl) rfl #[.agg #[.int .i64 x107000_2, .slice Ao20 x107001_2.length co20], .int .i64 (wrap64 (x6_2 + (ji17))), .int .i64 1000] rfl (by (try simp only [List.map_toArray, List.map_cons, List.map_nil]); first | done | (simp only [hji17]; rfl) | rfl | (simp only [List.length_drop, List.length_take]; rfl)) ?_; (with_reducible refine (ref10_Arrive.calls k2 x107000_2 (fun k_ => k_ ≠ gb106) _ _ x107001_2 (wrap64 (x6_2 + (ji17))) 1000 t109 t110 t113 _ ?side1 A18.out).mono ?_); (case side1 => exact HO_107001.out); rintro e w21 ⟨v111, rfl, ho0, hb⟩; refine ⟨_, rfl, ?_⟩; have n0_ := Aside0.mk (Kd.V_below (by (with_reducible repeat (first | apply Kd.V_alloc | apply Kd.V_drewN | apply Kd.V_drew)); exact HO_107001.out) hb); have n1_ := Aside0.mk (Kd.V_lower (Kd.V_mono (ok' := fun k_ => k_ ≠ gb106) ho0 (fun k_ hk_ => Or.elim hk_ (fun hs_ => hs_) (fun hn_ => (Kd.freshB (g := gb106) (o := .cells #[.int .i64 x107000_2, .slice Ao20 x107001_2.length co20] 24 (0, 0)) (by (with_reducible repeat (first | refine qe_ ?_ _ | refine qg_ ?_ | refine qf_ ?_ _)); exact BK106.out) k_ hn_)))) (ql_ (by repeat (first | (with_reducible first | exact HB.out | apply qc_ | apply qa_ | apply qb_ | refine qd_ ?_ GE106.out) | exact HB.out)))); have n2_ := Aside0.mk (qk_ (g := gb106) (o := .cells #[.int .i64 x107000_2, .slice Ao20 x107001_2.length co20] 24 (0, 0)) (by (with_reducible repeat (first | refine qe_ ?_ _ | refine qg_ ?_ | refine qf_ ?_ _)); exact BK106.out) hb); have n3_ := Aside0.mk (qj_ (by repeat (first | (with_reducible first | exact HB.out | apply qc_ | apply qa_ | apply qb_ | refine qd_ ?_ GE106.out) | exact HB.out)) hb); clear HO_107001; clear BK106; clear HB; have HO_107001 := n0_; have HO112 := n1_; have BK106 := n2_; have HB := n3_; clear n0_ n1_ n2_ n3_; (try clear hb); (try clear hb2); (try clear hk); (try clear hi); (try clear ho0); have hcz22_0 : w21.cell? ⟨gb106, 0, none⟩ = some (.int .i64 x107000_2) := (qi_ BK106.out 0).trans rfl; have hcz22_1 : w21.cell? ⟨gb106, 1, none⟩ = some (.slice Ao20 x107001_2.length co20) := (qi_ BK106.out 1).trans rfl; have hfz22_0 := qh_ BK106.out 0; have hfz22_1 := qh_ BK106.out 1; obtain ⟨Ao23, co23, eo23⟩ := Kd.V_slice HO112.out; subst eo23))
         go_roundg k2
         case measure => have := HJ4.out; have := HK2.out; omega
         case rel => exact ⟨(wrap64 (x6_2 + (ji17))), (ji16), (wrap64 (x8_2 + 1)), (t109), (t110), (.slice Ao23 t110.length co23), (by first | rfl | (simp; done) | (simp only [← hji17] <;> (first | rfl | simp)) | (simp [*]; done)), (by first | rfl | (simp; done) | (simp only [← hji16] <;> (first | rfl | simp)) | (simp [*]; done)), (by first | rfl | (simp; done) | (simp [*]; done)), H', ⟨by have := HJ4.out; have := HK2.out; omega⟩, ⟨by (with_reducible repeat (first | apply Kd.V_alloc | apply Kd.V_drewN | apply Kd.V_drew)); exact Kd.V_mono (Kd.V_far (p := ⟨gb106, 1, none⟩) (Kd.V_far (p := ⟨gb106, 0, none⟩) (Kd.V_mono HO112.out (fun k_ hk => (⟨hk, hk⟩ : _ ∧ k_ ≠ gb106))) (fun _ hk => hk.2) (.int .i64 t109)) (fun _ hk => hk.2) (.slice Ao23 t110.length co23)) (fun _ hk => hk.1)⟩, ⟨by (with_reducible repeat (first | refine qe_ ?_ _ | refine qg_ ?_ | refine qf_ ?_ _)); refine qr_ (cs := #[.int .i64 t109, .slice Ao20 x107001_2.length co20]) ?_ 1 _ rfl; (with_reducible repeat (first | refine qe_ ?_ _ | refine qg_ ?_ | refine qf_ ?_ _)); refine qr_ (cs := #[.int .i64 x107000_2, .slice Ao20 x107001_2.length co20]) ?_ 0 _ rfl; (with_reducible repeat (first | refine qe_ ?_ _ | refine qg_ ?_ | refine qf_ ?_ _)); exact BK106.out⟩, ⟨by repeat (first | (with_reducible first | exact HB.out | apply qc_ | apply qa_ | apply qb_ | refine qd_ ?_ GE106.out) | exact HB.out)⟩⟩
        ·rw [if_neg c15] at H
         exact absurd H (by simp)
       ·rw [if_neg c14] at H
        have c14b0 : decide (x8_2 < (l0.length : Int)) = false := decide_eq_false c14
        clear c14
        replace H := ob_ H
        obtain ⟨t114, A240, H⟩ := H
        replace H : (if (wrap64 (434 * x7_2)) ≥ (wrap64 ((wrap64 ((wrap64 (a1)) + 1)) * t114)) then (some true) else ((phi_Suspect.f k2 x107000_2 x107001_2 (wrap64 (x6_2 + x7_2)) 1 (wrap64 (a1))).bind fun t115 => (if t115 = true then (some false) else ((phi_Bound.f k2 (wrap64 (a1)) t114).bind fun t116 => (some (decide (t116 > x7_2))))))) = some r := H
        have A24 := Aside0.mk A240
        clear A240
        by_cases c25 : (wrap64 (434 * x7_2)) ≥ (wrap64 ((wrap64 ((wrap64 (a1)) + 1)) * t114))
        ·rw [if_pos c25] at H
         have c25b0 : decide ((wrap64 ((wrap64 ((wrap64 (a1)) + 1)) * t114)) ≤ (wrap64 (434 * x7_2))) = true := decide_eq_true c25
         clear c25
         obtain rfl := Option.some.inj H
         have hcz26_0 : wr.cell? ⟨gb106, 0, none⟩ = some (.int .i64 x107000_2) := (qi_ BK106.out 0).trans rfl
         have hcz26_1 : wr.cell? ⟨gb106, 1, none⟩ = some (u107001) := (qi_ BK106.out 1).trans rfl
         have hfz26_0 := qh_ BK106.out 0
         have hfz26_1 := qh_ BK106.out 1
         obtain ⟨Ao27, co27, eo27⟩ := Kd.V_slice HO_107001.out
         subst eo27
         go_wp2_with (first | ((with_reducible refine qm_ (f := 11) rfl ?_); refine goesL_ (some 49) rfl rfl Try.func11 (by kernel_rfl) rfl #[.agg #[.int .i64 x107000_2, .slice Ao27 x107001_2.length co27], .int .i64 1] rfl (by (try simp only [List.map_toArray, List.map_cons, List.map_nil]); first | done | rfl | (simp only [List.length_drop, List.length_take]; rfl)) ?_; (with_reducible refine (ref10_Mean.calls k2 x107000_2 _ _ x107001_2 1 t114 _ ?side1 ?side2 A24.out).mono ?_); (case side1 => repeat (first | exact (Kd.V_reads' HO_107001.out).2.2 | (with_reducible refine Kd.qq_ ?_ _) | (with_reducible refine Kd.qp_ ?_ _) | (with_reducible refine Kd.C_drew ?_))); (case side2 => exact (Kd.V_reads' HO_107001.out).2.1); rintro e w28 ⟨rfl, hb⟩; refine ⟨_, rfl, ?_⟩; have n0_ := Aside0.mk (Kd.V_below (by (with_reducible repeat (first | apply Kd.V_alloc | apply Kd.V_drewN | apply Kd.V_drew)); exact HO_107001.out) hb); have n1_ := Aside0.mk (qk_ (g := gb106) (o := .cells #[.int .i64 x107000_2, .slice Ao27 x107001_2.length co27] 24 (0, 0)) (by (with_reducible repeat (first | refine qe_ ?_ _ | refine qg_ ?_ | refine qf_ ?_ _)); exact BK106.out) hb); have n2_ := Aside0.mk (qj_ (by repeat (first | (with_reducible first | exact HB.out | apply qc_ | apply qa_ | apply qb_ | refine qd_ ?_ GE106.out) | exact HB.out)) hb); clear HO_107001; clear BK106; clear HB; have HO_107001 := n0_; have BK106 := n1_; have HB := n2_; clear n0_ n1_ n2_; (try clear hb); (try clear hb2); (try clear hk); (try clear hi)))
         go_ret
         exact ⟨by first | rfl | (simp [errW_none, errW_some] <;> rfl) | (simp [*, errW_none, errW_some] <;> rfl), by repeat (first | (with_reducible first | exact HB.out | apply qc_ | apply qa_ | apply qb_ | refine qd_ ?_ GE106.out) | exact HB.out)⟩
        ·rw [if_neg c25] at H
         have c25b0 : decide ((wrap64 ((wrap64 ((wrap64 (a1)) + 1)) * t114)) ≤ (wrap64 (434 * x7_2))) = false := decide_eq_false c25
         clear c25
         replace H := ob_ H
         obtain ⟨t115, A290, H⟩ := H
         replace H : (if t115 = true then (some false) else ((phi_Bound.f k2 (wrap64 (a1)) t114).bind fun t116 => (some (decide (t116 > x7_2))))) = some r := H
         have A29 := Aside0.mk A290
         clear A290
         by_cases c30 : t115 = true
         ·subst c30
          have H1 : (some false) = some r := by rw [if_pos rfl] at H; exact H
          clear H
          have H := H1
          clear H1
          obtain rfl := Option.some.inj H
          have hcz31_0 : wr.cell? ⟨gb106, 0, none⟩ = some (.int .i64 x107000_2) := (qi_ BK106.out 0).trans rfl
          have hcz31_1 : wr.cell? ⟨gb106, 1, none⟩ = some (u107001) := (qi_ BK106.out 1).trans rfl
          have hfz31_0 := qh_ BK106.out 0
          have hfz31_1 := qh_ BK106.out 1
          obtain ⟨Ao32, co32, eo32⟩ := Kd.V_slice HO_107001.out
          subst eo32
          go_wp2_with (first | ((with_reducible refine qm_ (f := 11) rfl ?_); refine goesL_ (some 49) rfl rfl Try.func11 (by kernel_rfl) rfl #[.agg #[.int .i64 x107000_2, .slice Ao32 x107001_2.length co32], .int .i64 1] rfl (by (try simp only [List.map_toArray, List.map_cons, List.map_nil]); first | done | rfl | (simp only [List.length_drop, List.length_take]; rfl)) ?_; (with_reducible refine (ref10_Mean.calls k2 x107000_2 _ _ x107001_2 1 t114 _ ?side1 ?side2 A24.out).mono ?_); (case side1 => repeat (first | exact (Kd.V_reads' HO_107001.out).2.2 | (with_reducible refine Kd.qq_ ?_ _) | (with_reducible refine Kd.qp_ ?_ _) | (with_reducible refine Kd.C_drew ?_))); (case side2 => exact (Kd.V_reads' HO_107001.out).2.1); rintro e w33 ⟨rfl, hb⟩; refine ⟨_, rfl, ?_⟩; have n0_ := Aside0.mk (Kd.V_below (by (with_reducible repeat (first | apply Kd.V_alloc | apply Kd.V_drewN | apply Kd.V_drew)); exact HO_107001.out) hb); have n1_ := Aside0.mk (qk_ (g := gb106) (o := .cells #[.int .i64 x107000_2, .slice Ao32 x107001_2.length co32] 24 (0, 0)) (by (with_reducible repeat (first | refine qe_ ?_ _ | refine qg_ ?_ | refine qf_ ?_ _)); exact BK106.out) hb); have n2_ := Aside0.mk (qj_ (by repeat (first | (with_reducible first | exact HB.out | apply qc_ | apply qa_ | apply qb_ | refine qd_ ?_ GE106.out) | exact HB.out)) hb); clear HO_107001; clear BK106; clear HB; have HO_107001 := n0_; have BK106 := n1_; have HB := n2_; clear n0_ n1_ n2_; (try clear hb); (try clear hb2); (try clear hk); (try clear hi); have hcz34_0 : w33.cell? ⟨gb106, 0, none⟩ = some (.int .i64 x107000_2) := (qi_ BK106.out 0).trans rfl; have hcz34_1 : w33.cell? ⟨gb106, 1, none⟩ = some (.slice Ao32 x107001_2.length co32) := (qi_ BK106.out 1).trans rfl; have hfz34_0 := qh_ BK106.out 0; have hfz34_1 := qh_ BK106.out 1) | ((with_reducible refine qm_ (f := 14) rfl ?_); refine goesL_ (some 64) rfl rfl Try.func14 (by kernel_rfl) rfl #[.agg #[.int .i64 x107000_2, .slice Ao32 x107001_2.length co32], .int .i64 (wrap64 (x6_2 + x7_2)), .int .i64 1, .int .i64 (wrap64 (a1))] rfl (by (try simp only [List.map_toArray, List.map_cons, List.map_nil]); first | done | rfl | (simp only [List.length_drop, List.length_take]; rfl)) ?_; (with_reducible refine (phi_Suspect.calls k2 x107000_2 _ _ x107001_2 (wrap64 (x6_2 + x7_2)) 1 (wrap64 (a1)) true _ ?side1 ?side2 A29.out).mono ?_); (case side1 => repeat (first | exact (Kd.V_reads' HO_107001.out).2.2 | (with_reducible refine Kd.qq_ ?_ _) | (with_reducible refine Kd.qp_ ?_ _) | (with_reducible refine Kd.C_drew ?_))); (case side2 => exact (Kd.V_reads' HO_107001.out).2.1); rintro e w35 ⟨rfl, hb⟩; refine ⟨_, rfl, ?_⟩; have n0_ := Aside0.mk (Kd.V_below (by (with_reducible repeat (first | apply Kd.V_alloc | apply Kd.V_drewN | apply Kd.V_drew)); exact HO_107001.out) hb); have n1_ := Aside0.mk (qk_ (g := gb106) (o := .cells #[.int .i64 x107000_2, .slice Ao32 x107001_2.length co32] 24 (0, 0)) (by (with_reducible repeat (first | refine qe_ ?_ _ | refine qg_ ?_ | refine qf_ ?_ _)); exact BK106.out) hb); have n2_ := Aside0.mk (qj_ (by repeat (first | (with_reducible first | exact HB.out | apply qc_ | apply qa_ | apply qb_ | refine qd_ ?_ GE106.out) | exact HB.out)) hb); clear HO_107001; clear BK106; clear HB; have HO_107001 := n0_; have BK106 := n1_; have HB := n2_; clear n0_ n1_ n2_; (try clear hb); (try clear hb2); (try clear hk); (try clear hi)))
          go_ret
          exact ⟨by first | rfl | (simp [errW_none, errW_some] <;> rfl) | (simp [*, errW_none, errW_some] <;> rfl), by repeat (first | (with_reducible first | exact HB.out | apply qc_ | apply qa_ | apply qb_ | refine qd_ ?_ GE106.out) | exact HB.out)⟩
         ·replace c30 := Bool.eq_false_iff.mpr c30
          subst c30
          have H1 : ((phi_Bound.f k2 (wrap64 (a1)) t114).bind fun t116 => (some (decide (t116 > x7_2)))) = some r := by rw [if_neg (show ¬ (false = true) by decide)] at H; exact H
          clear H
          have H := H1
          clear H1
          replace H := ob_ H
          obtain ⟨t116, A360, H⟩ := H
          replace H : (some (decide (t116 > x7_2))) = some r := H
          have A36 := Aside0.mk A360
          clear A360
          obtain rfl := Option.some.inj H
          have hcz37_0 : wr.cell? ⟨gb106, 0, none⟩ = some (.int .i64 x107000_2) := (qi_ BK106.out 0).trans rfl
          have hcz37_1 : wr.cell? ⟨gb106, 1, none⟩ = some (u107001) := (qi_ BK106.out 1).trans rfl
          have hfz37_0 := qh_ BK106.out 0
          have hfz37_1 := qh_ BK106.out 1
          obtain ⟨Ao38, co38, eo38⟩ := Kd.V_slice HO_107001.out
          subst eo38
          go_wp2_with (first | ((with_reducible refine qm_ (f := 11) rfl ?_); refine goesL_ (some 49) rfl rfl Try.func11 (by kernel_rfl) rfl #[.agg #[.int .i64 x107000_2, .slice Ao38 x107001_2.length co38], .int .i64 1] rfl (by (try simp only [List.map_toArray, List.map_cons, List.map_nil]); first | done | rfl | (simp only [List.length_drop, List.length_take]; rfl)) ?_; (with_reducible refine (ref10_Mean.calls k2 x107000_2 _ _ x107001_2 1 t114 _ ?side1 ?side2 A24.out).mono ?_); (case side1 => repeat (first | exact (Kd.V_reads' HO_107001.out).2.2 | (with_reducible refine Kd.qq_ ?_ _) | (with_reducible refine Kd.qp_ ?_ _) | (with_reducible refine Kd.C_drew ?_))); (case side2 => exact (Kd.V_reads' HO_107001.out).2.1); rintro e w39 ⟨rfl, hb⟩; refine ⟨_, rfl, ?_⟩; have n0_ := Aside0.mk (Kd.V_below (by (with_reducible repeat (first | apply Kd.V_alloc | apply Kd.V_drewN | apply Kd.V_drew)); exact HO_107001.out) hb); have n1_ := Aside0.mk (qk_ (g := gb106) (o := .cells #[.int .i64 x107000_2, .slice Ao38 x107001_2.length co38] 24 (0, 0)) (by (with_reducible repeat (first | refine qe_ ?_ _ | refine qg_ ?_ | refine qf_ ?_ _)); exact BK106.out) hb); have n2_ := Aside0.mk (qj_ (by repeat (first | (with_reducible first | exact HB.out | apply qc_ | apply qa_ | apply qb_ | refine qd_ ?_ GE106.out) | exact HB.out)) hb); clear HO_107001; clear BK106; clear HB; have HO_107001 := n0_; have BK106 := n1_; have HB := n2_; clear n0_ n1_ n2_; (try clear hb); (try clear hb2); (try clear hk); (try clear hi); have hcz40_0 : w39.cell? ⟨gb106, 0, none⟩ = some (.int .i64 x107000_2) := (qi_ BK106.out 0).trans rfl; have hcz40_1 : w39.cell? ⟨gb106, 1, none⟩ = some (.slice Ao38 x107001_2.length co38) := (qi_ BK106.out 1).trans rfl; have hfz40_0 := qh_ BK106.out 0; have hfz40_1 := qh_ BK106.out 1) | ((with_reducible refine qm_ (f := 14) rfl ?_); refine goesL_ (some 64) rfl rfl Try.func14 (by kernel_rfl) rfl #[.agg #[.int .i64 x107000_2, .slice Ao38 x107001_2.length co38], .int .i64 (wrap64 (x6_2 + x7_2)), .int .i64 1, .int .i64 (wrap64 (a1))] rfl (by (try simp only [List.map_toArray, List.map_cons, List.map_nil]); first | done | rfl | (simp only [List.length_drop, List.length_take]; rfl)) ?_; (with_reducible refine (phi_Suspect.calls k2 x107000_2 _ _ x107001_2 (wrap64 (x6_2 + x7_2)) 1 (wrap64 (a1)) false _ ?side1 ?side2 A29.out).mono ?_); (case side1 => repeat (first | exact (Kd.V_reads' HO_107001.out).2.2 | (with_reducible refine Kd.qq_ ?_ _) | (with_reducible refine Kd.qp_ ?_ _) | (with_reducible refine Kd.C_drew ?_))); (case side2 => exact (Kd.V_reads' HO_107001.out).2.1); rintro e w41 ⟨rfl, hb⟩; refine ⟨_, rfl, ?_⟩; have n0_ := Aside0.mk (Kd.V_below (by (with_reducible repeat (first | apply Kd.V_alloc | apply Kd.V_drewN | apply Kd.V_drew)); exact HO_107001.out) hb); have n1_ := Aside0.mk (qk_ (g := gb106) (o := .cells #[.int .i64 x107000_2, .slice Ao38 x107001_2.length co38] 24 (0, 0)) (by (with_reducible repeat (first | refine qe_ ?_ _ | refine qg_ ?_ | refine qf_ ?_ _)); exact BK106.out) hb); have n2_ := Aside0.mk (qj_ (by repeat (first | (with_reducible first | exact HB.out | apply qc_ | apply qa_ | apply qb_ | refine qd_ ?_ GE106.out) | exact HB.out)) hb); clear HO_107001; clear BK106; clear HB; have HO_107001 := n0_; have BK106 := n1_; have HB := n2_; clear n0_ n1_ n2_; (try clear hb); (try clear hb2); (try clear hk); (try clear hi)) | (go_at_call 17; (with_reducible refine (phi_Bound.calls k2 (wrap64 (a1)) t114 t116 _ A36.out).mono ?_); rintro e w42 ⟨rfl, hb⟩; have n0_ := Aside0.mk (Kd.V_below (by (with_reducible repeat (first | apply Kd.V_alloc | apply Kd.V_drewN | apply Kd.V_drew)); exact HO_107001.out) hb); have n1_ := Aside0.mk (qk_ (g := gb106) (o := .cells #[.int .i64 x107000_2, .slice Ao38 x107001_2.length co38] 24 (0, 0)) (by (with_reducible repeat (first | refine qe_ ?_ _ | refine qg_ ?_ | refine qf_ ?_ _)); exact BK106.out) hb); have n2_ := Aside0.mk (qj_ (by repeat (first | (with_reducible first | exact HB.out | apply qc_ | apply qa_ | apply qb_ | refine qd_ ?_ GE106.out) | exact HB.out)) hb); clear HO_107001; clear BK106; clear HB; have HO_107001 := n0_; have BK106 := n1_; have HB := n2_; clear n0_ n1_ n2_; (try clear hb); (try clear hb2); (try clear hk); (try clear hi)))
          go_ret
          exact ⟨by first | rfl | (simp [errW_none, errW_some] <;> rfl) | (simp [*, errW_none, errW_some] <;> rfl), by repeat (first | (with_reducible first | exact HB.out | apply qc_ | apply qa_ | apply qb_ | refine qd_ ?_ GE106.out) | exact HB.out)⟩
 ·replace c4 := Bool.eq_false_iff.mpr c4
  subst c4
  have H1 : (some false) = some r := by rw [if_neg (show ¬ (false = true) by decide)] at H; exact H
  clear H
  have H := H1
  clear H1
  obtain rfl := Option.some.inj H
  go_enter Try.func5, Try.ntmps5
  go_wp2_with (first | ((with_reducible refine qm_ (f := 8) rfl ?_); refine goesL_ (some 10) rfl rfl Try.func8 (by kernel_rfl) rfl #[] rfl (by (try simp only [List.map_toArray, List.map_cons, List.map_nil]); first | done | rfl | (simp only [List.length_drop, List.length_take]; rfl)) ?_; (with_reducible refine (law11_alive.calls k  false _ A3.out).mono ?_); rintro e w43 ⟨rfl, hb⟩; refine ⟨_, rfl, ?_⟩; have n0_ := Aside0.mk (qj_ (by repeat (first | (with_reducible first | exact HB.out | apply qc_ | apply qa_ | apply qb_) | exact HB.out)) hb); clear HB; have HB := n0_; clear n0_; (try clear hb); (try clear hb2); (try clear hk); (try clear hi)))
  go_ret
  exact ⟨by first | rfl | (simp [errW_none, errW_some] <;> rfl) | (simp [*, errW_none, errW_some] <;> rfl), by repeat (first | (with_reducible first | exact HB.out | apply qc_ | apply qa_ | apply qb_) | exact HB.out)⟩
/-- THE ONE PURE STATEMENT of law11_PhiCalm: yours. -/
def law11_PhiCalm.Pure : Prop := ∀ (l0 : List Int) (a1 : Int), l0.length ≤ maxLen → l0.length * 1 ≤ 140737488351232 → (∀ x ∈ l0, (Lit.int .u8 x).wf = true) → (Lit.int .u16 a1).wf = true → ∃ k, law11_PhiCalm.f k l0 a1 = some true
theorem law11_PhiCalm.walk (P : law11_PhiCalm.Pure) (a0 : Option Addr) (len0 cap0 : Nat) (z0 : List Int) (a1 : Int) (w : World) (w0 : (a0 = none ∧ len0 = 0 ∧ cap0 = 0 ∧ z0 = []) ∨ ∃ x, a0 = some x ∧ len0 ≤ cap0 ∧ cap0 ≤ maxLen ∧ z0.length = cap0 ∧ (∀ i, i < z0.length → w.cell? (x.add i) = some (.int .u8 (z0.getD i 0))) ∧ ∀ n ∈ z0, (Lit.int .u8 n).wf = true) (y0 : len0 * 1 ≤ 140737488351232) (w1 : (Lit.int .u16 a1).wf = true) :
  Calls Try.prog 5 #[.slice a0 len0 cap0, .int .u16 a1] w fun e w' => e = .returned (.bool true) ∧ Below w.heap.size w w' := by
 obtain ⟨l0, rfl, hr0, hm0, hw0, hc0⟩ := ReadsInt.ofRowC w0
 obtain ⟨k, h⟩ := P l0 a1 hm0 y0 hw0 w1
 refine (law11_PhiCalm.calls k _ _ l0 a1 true w (Kd.C_of_reads (d := (0 : Int)) (h1 := fun _ => rfl) hr0) hc0 h).mono ?_
 rintro e w' ⟨rfl, hd⟩
 exact ⟨rfl, hd⟩
end Go.Proofs.Ytjallhlamaggbaa.P

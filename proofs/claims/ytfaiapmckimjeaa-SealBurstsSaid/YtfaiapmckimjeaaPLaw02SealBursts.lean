/- What this function of the program comes to, and that the machine's call does it: written by a program (wip/tool). No condition. -/
import Derived.Test.YtfaiapmckimjeaaP0
import Derived.Test.YtfaiapmckimjeaaPSealSeal
import Derived.Test.YtfaiapmckimjeaaPSealOpen
import Derived.Test.YtfaiapmckimjeaaPSealTurn
import Derived.Test.YtfaiapmckimjeaaPLaw02Alive
import Derived.Test.YtfaiapmckimjeaaPRef01Same
import Derived.Test.YtfaiapmckimjeaaHw
namespace Go.Proofs.Ytfaiapmckimjeaa.P
open Go.RowKit Go.Proofs.YtfaiapmckimjeaaW.PrintWords Go.Proofs.YtfaiapmckimjeaaW.PrintLast Go.Proofs.YtfaiapmckimjeaaW.PrintMore
attribute [local go_sem] max2_int min2_int max_two min_two max_three min_three max_four min_four Go.Proofs.YtfaiapmckimjeaaW.Hw.string_gtr   -- for this text's walks alone
set_option linter.unusedVariables false
set_option linter.unusedSimpArgs false
/-! ### law02_SealBursts: function 4 -/
mutual
def law02_SealBursts.j0 : Nat → Int → Int → List Int → Bool → Option (Bool)
 | 0, _, _, _, _ => none
 | k + 1, x1, x2, x7, x43 => if x43 = true then (some false) else (if (wrap64 (8 * (x7.length : Int))) = 0 then (none) else (law02_SealBursts.l0 k x2 x7 (wrap64 (8 * (x7.length : Int))) (Int.tmod (wrap64 (x1)) (wrap64 (8 * (x7.length : Int)))) 0 0))
def law02_SealBursts.l0 : Nat → Int → List Int → Int → Int → Int → Int → Option (Bool)
 | 0, _, _, _, _, _, _ => none
 | k + 1, x2, x7, x10, x11, x12, x13 => if x13 < 32 then (if 0 ≤ (IntKind.u64.wrap (x13)) then (if (Go.bits .and .u32 (shr .u32 x2 (IntKind.u64.wrap (x13))) 1) = 1 then (if (wrap64 (x11 + x13)) < x10 then ((seal_Turn.f x7 (wrap64 (x11 + x13))).bind fun t110 => (law02_SealBursts.l0 k x2 t110 x10 x11 (wrap64 (x12 + 1)) (wrap64 (x13 + 1)))) else (law02_SealBursts.l0 k x2 x7 x10 x11 x12 (wrap64 (x13 + 1)))) else (law02_SealBursts.l0 k x2 x7 x10 x11 x12 (wrap64 (x13 + 1)))) else (none)) else ((seal_Open.f k x7).bind fun bt113 => (some ((bt113.2 == 0) == (x12 == 0))))
end
def law02_SealBursts.f (k : Nat) (l0 : List Int) (a1 : Int) (a2 : Int) : Option (Bool) := (law02_alive.f k).bind fun t101 => (if t101 = true then (if (l0.length : Int) > 2000 then (some true) else ((seal_Seal.f k l0).bind fun t102 => ((seal_Open.f k t102).bind fun bt105 => (if bt105.2 = 0 then ((ref01_Same.f bt105.1 l0).bind fun t109 => (if t109 = true then (law02_SealBursts.j0 k a1 a2 t102 ((t102.length : Int) != (wrap64 ((l0.length : Int) + 4)))) else (law02_SealBursts.j0 k a1 a2 t102 true))) else (law02_SealBursts.j0 k a1 a2 t102 true))))) else (some false))
theorem law02_SealBursts.mono_l : ∀ k, (∀ y0 y1 y2 y3, LeO (law02_SealBursts.j0 k y0 y1 y2 y3) (law02_SealBursts.j0 (k + 1) y0 y1 y2 y3)) ∧ (∀ y0 y1 y2 y3 y4 y5, LeO (law02_SealBursts.l0 k y0 y1 y2 y3 y4 y5) (law02_SealBursts.l0 (k + 1) y0 y1 y2 y3 y4 y5))
 | 0 => ⟨fun _ _ _ _ r h => by simp [law02_SealBursts.j0] at h, fun _ _ _ _ _ _ r h => by simp [law02_SealBursts.l0] at h⟩
 | k + 1 => by
  obtain ⟨ih0, ih1⟩ := law02_SealBursts.mono_l k
  refine ⟨?_, ?_⟩
  ·intro y0 y1 y2 y3
   unfold law02_SealBursts.j0
   repeat' first
   | (with_reducible exact ih0 _ _ _ _)
   | (with_reducible exact ih1 _ _ _ _ _ _)
   | (with_reducible exact law02_alive.mono _)
   | (with_reducible exact seal_Open.mono _ _)
   | (with_reducible exact seal_Seal.mono _ _)
   | (with_reducible exact LeO.refl _)
   | (with_reducible exact LeO.none _)
   | (with_reducible refine LeO.ite ?_ ?_)
   | (with_reducible refine LeO.bind ?_ (fun _ => ?_))
   | exact ih0 _ _ _ _
   | exact ih1 _ _ _ _ _ _
   | exact law02_alive.mono _
   | exact seal_Open.mono _ _
   | exact seal_Seal.mono _ _
   | exact LeO.none _
   | refine LeO.ite ?_ ?_
   | refine LeO.bind ?_ (fun _ => ?_)
  ·intro y0 y1 y2 y3 y4 y5
   unfold law02_SealBursts.l0
   repeat' first
   | (with_reducible exact ih0 _ _ _ _)
   | (with_reducible exact ih1 _ _ _ _ _ _)
   | (with_reducible exact law02_alive.mono _)
   | (with_reducible exact seal_Open.mono _ _)
   | (with_reducible exact seal_Seal.mono _ _)
   | (with_reducible exact LeO.refl _)
   | (with_reducible exact LeO.none _)
   | (with_reducible refine LeO.ite ?_ ?_)
   | (with_reducible refine LeO.bind ?_ (fun _ => ?_))
   | exact ih0 _ _ _ _
   | exact ih1 _ _ _ _ _ _
   | exact law02_alive.mono _
   | exact seal_Open.mono _ _
   | exact seal_Seal.mono _ _
   | exact LeO.none _
   | refine LeO.ite ?_ ?_
   | refine LeO.bind ?_ (fun _ => ?_)
theorem law02_SealBursts.mono : ∀ a0 a1 a2 k, LeO (law02_SealBursts.f k a0 a1 a2) (law02_SealBursts.f (k + 1) a0 a1 a2) := by
 intro a0 a1 a2 k
 obtain ⟨ih0, ih1⟩ := law02_SealBursts.mono_l k
 unfold law02_SealBursts.f
 repeat' first
   | (with_reducible exact ih0 _ _ _ _)
   | (with_reducible exact ih1 _ _ _ _ _ _)
   | (with_reducible exact law02_alive.mono _)
   | (with_reducible exact seal_Open.mono _ _)
   | (with_reducible exact seal_Seal.mono _ _)
   | (with_reducible exact LeO.refl _)
   | (with_reducible exact LeO.none _)
   | (with_reducible refine LeO.ite ?_ ?_)
   | (with_reducible refine LeO.bind ?_ (fun _ => ?_))
   | exact ih0 _ _ _ _
   | exact ih1 _ _ _ _ _ _
   | exact law02_alive.mono _
   | exact seal_Open.mono _ _
   | exact seal_Seal.mono _ _
   | exact LeO.none _
   | refine LeO.ite ?_ ?_
   | refine LeO.bind ?_ (fun _ => ?_)
set_option maxHeartbeats 8000000 in
set_option maxRecDepth 100000 in
theorem law02_SealBursts.calls (k : Nat) (A0 : Option Addr) (c0 : Nat) (l0 : List Int) (a1 : Int) (a2 : Int) (r : Bool) (w : World) (hr0 : Kd.C (Kd.int .u8) w A0 l0.length l0) (hc0 : l0.length ≤ c0) (h : law02_SealBursts.f k l0 a1 a2 = some r) (hrt : r = true) :
  Calls Try.prog 4 #[.slice A0 l0.length c0, .int .u16 a1, .int .u32 a2] w fun e w' => e = .returned (.bool r) ∧ Below w.heap.size w w' := by
 have HRT := Aside0.mk hrt
 clear hrt
 have HR0 := Aside0.mk hr0
 have HC0 := Aside0.mk hc0
 clear hr0 hc0
 have HB := Aside0.mk (Below.refl w.heap.size w)
 have H : ((law02_alive.f k).bind fun t101 => (if t101 = true then (if (l0.length : Int) > 2000 then (some true) else ((seal_Seal.f k l0).bind fun t102 => ((seal_Open.f k t102).bind fun bt105 => (if bt105.2 = 0 then ((ref01_Same.f bt105.1 l0).bind fun t109 => (if t109 = true then (law02_SealBursts.j0 k a1 a2 t102 ((t102.length : Int) != (wrap64 ((l0.length : Int) + 4)))) else (law02_SealBursts.j0 k a1 a2 t102 true))) else (law02_SealBursts.j0 k a1 a2 t102 true))))) else (some false))) = some r := h
 clear h
 replace H := ob_ H
 obtain ⟨t101, A40, H⟩ := H
 replace H : (if t101 = true then (if (l0.length : Int) > 2000 then (some true) else ((seal_Seal.f k l0).bind fun t102 => ((seal_Open.f k t102).bind fun bt105 => (if bt105.2 = 0 then ((ref01_Same.f bt105.1 l0).bind fun t109 => (if t109 = true then (law02_SealBursts.j0 k a1 a2 t102 ((t102.length : Int) != (wrap64 ((l0.length : Int) + 4)))) else (law02_SealBursts.j0 k a1 a2 t102 true))) else (law02_SealBursts.j0 k a1 a2 t102 true))))) else (some false)) = some r := H
 have A4 := Aside0.mk A40
 clear A40
 by_cases c5 : t101 = true
 ·subst c5
  have H1 : (if (l0.length : Int) > 2000 then (some true) else ((seal_Seal.f k l0).bind fun t102 => ((seal_Open.f k t102).bind fun bt105 => (if bt105.2 = 0 then ((ref01_Same.f bt105.1 l0).bind fun t109 => (if t109 = true then (law02_SealBursts.j0 k a1 a2 t102 ((t102.length : Int) != (wrap64 ((l0.length : Int) + 4)))) else (law02_SealBursts.j0 k a1 a2 t102 true))) else (law02_SealBursts.j0 k a1 a2 t102 true))))) = some r := by rw [if_pos rfl] at H; exact H
  clear H
  have H := H1
  clear H1
  by_cases c6 : (l0.length : Int) > 2000
  ·rw [if_pos c6] at H
   have c6b0 : decide (2000 < (l0.length : Int)) = true := decide_eq_true c6
   have c6b1 : decide (2000 < l0.length) = true := decide_eq_true (by omega)
   clear c6
   obtain rfl := Option.some.inj H
   go_enter Try.func4, Try.ntmps4
   go_wp2_with (first | ((with_reducible refine gate_callee (f := 7) rfl ?_); refine goesL_ (some 16) rfl rfl Try.func7 (by kernel_rfl) rfl #[] rfl (by (try simp only [List.map_toArray, List.map_cons, List.map_nil]); first | done | rfl | (simp only [List.length_drop, List.length_take]; rfl)) ?_; (with_reducible refine (law02_alive.calls k  true _ A4.out).mono ?_); rintro e w7 ⟨rfl, hb⟩; refine ⟨_, rfl, ?_⟩; have n0_ := Aside0.mk (below_step (by repeat (first | (with_reducible first | exact HB.out | apply qb_ | apply qa_ | apply qc_) | exact HB.out)) hb); clear HB; have HB := n0_; clear n0_; (try clear hb); (try clear hb2); (try clear hk); (try clear hi)))
   go_ret
   exact ⟨by first | rfl | (simp [errW_none, errW_some] <;> rfl) | (simp [*, errW_none, errW_some] <;> rfl), by repeat (first | (with_reducible first | exact HB.out | apply qb_ | apply qa_ | apply qc_) | exact HB.out)⟩
  ·rw [if_neg c6] at H
   have c6b0 : decide (2000 < (l0.length : Int)) = false := decide_eq_false c6
   have c6b1 : decide (2000 < l0.length) = false := decide_eq_false (by omega)
   clear c6
   replace H := ob_ H
   obtain ⟨t102, A80, H⟩ := H
   replace H : ((seal_Open.f k t102).bind fun bt105 => (if bt105.2 = 0 then ((ref01_Same.f bt105.1 l0).bind fun t109 => (if t109 = true then (law02_SealBursts.j0 k a1 a2 t102 ((t102.length : Int) != (wrap64 ((l0.length : Int) + 4)))) else (law02_SealBursts.j0 k a1 a2 t102 true))) else (law02_SealBursts.j0 k a1 a2 t102 true))) = some r := H
   have A8 := Aside0.mk A80
   clear A80
   replace H := ob_ H
   obtain ⟨⟨t105, t108⟩, A90, H⟩ := H
   replace H : (if t108 = 0 then ((ref01_Same.f t105 l0).bind fun t109 => (if t109 = true then (law02_SealBursts.j0 k a1 a2 t102 ((t102.length : Int) != (wrap64 ((l0.length : Int) + 4)))) else (law02_SealBursts.j0 k a1 a2 t102 true))) else (law02_SealBursts.j0 k a1 a2 t102 true)) = some r := H
   have A9 := Aside0.mk A90
   clear A90
   have HC10 := Aside0.mk H
   clear H
   go_enter Try.func4, Try.ntmps4
   go_upto_region 7 with (first | ((with_reducible refine gate_callee (f := 7) rfl ?_); refine goesL_ (some 16) rfl rfl Try.func7 (by kernel_rfl) rfl #[] rfl (by (try simp only [List.map_toArray, List.map_cons, List.map_nil]); first | done | rfl | (simp only [List.length_drop, List.length_take]; rfl)) ?_; (with_reducible refine (law02_alive.calls k  true _ A4.out).mono ?_); rintro e w11 ⟨rfl, hb⟩; refine ⟨_, rfl, ?_⟩; have n0_ := Aside0.mk (below_step (by repeat (first | (with_reducible first | exact HB.out | apply qb_ | apply qa_ | apply qc_) | exact HB.out)) hb); clear HB; have HB := n0_; clear n0_; (try clear hb); (try clear hb2); (try clear hk); (try clear hi)) | ((with_reducible refine gate_callee (f := 13) rfl ?_); refine goesL_ (some 22) rfl rfl Try.func13 (by kernel_rfl) rfl #[.slice A0 l0.length c0] rfl (by (try simp only [List.map_toArray, List.map_cons, List.map_nil]); first | done | rfl | (simp only [List.length_drop, List.length_take]; rfl)) ?_; (with_reducible refine (seal_Seal.calls k (fun k_ => k_ < w.heap.size) _ _ l0 t102 _ ?side1 A8.out).mono ?_); (case side1 => exact Kd.V_mk HC0.out (Kd.F_below (Kd.C_F (Kd.heap_int .u8) HR0.out) (by repeat (first | (with_reducible first | exact HB.out | apply qb_ | apply qa_ | apply qc_) | exact HB.out)))); rintro e w12 ⟨v103, rfl, ho0, hb⟩; refine ⟨_, rfl, ?_⟩; have n0_ := Aside0.mk (Kd.R_lower (Kd.R_mono (ok' := fun k_ => True) ho0 (fun _ hk_ => trivial)) (below_size (by repeat (first | (with_reducible first | exact HB.out | apply qb_ | apply qa_ | apply qc_) | exact HB.out)))); have n1_ := Aside0.mk (below_step (by repeat (first | (with_reducible first | exact HB.out | apply qb_ | apply qa_ | apply qc_) | exact HB.out)) hb); clear HB; have HO104 := n0_; have HB := n1_; clear n0_ n1_; (try clear hb); (try clear hb2); (try clear hk); (try clear hi); (try clear ho0); obtain ⟨Ao13, co13, eo13⟩ := Kd.R_slice HO104.out; subst eo13) | ((with_reducible refine gate_callee (f := 8) rfl ?_); refine goesL_ (some 25) rfl rfl Try.func8 (by kernel_rfl) rfl #[.slice Ao13 t102.length co13] rfl (by (try simp only [List.map_toArray, List.map_cons, List.map_nil]); first | done | rfl | (simp only [List.length_drop, List.length_take]; rfl)) ?_; (with_reducible refine (seal_Open.calls k (fun k_ => some k_ = (.slice Ao13 t102.length co13 : Value).ownBlock) _ _ t102 t105 t108 _ ?side1 A9.out).mono ?_); (case side1 => exact Kd.R_V (Kd.R_tight rfl (HO104.out))); rintro e w14 ⟨v106, rfl, ho0, hb⟩; refine ⟨_, rfl, ?_⟩; have n0_ := Aside0.mk (Kd.R_below (by (with_reducible repeat (first | apply Kd.R_alloc | apply Kd.R_drewN | apply Kd.R_drew)); exact HO104.out) hb); have n1_ := Aside0.mk (Kd.V_lower (Kd.V_mono (ok' := fun k_ => True) ho0 (fun k_ hk_ => trivial)) (below_size (by repeat (first | (with_reducible first | exact HB.out | apply qb_ | apply qa_ | apply qc_) | exact HB.out)))); have n2_ := Aside0.mk (below_step (by repeat (first | (with_reducible first | exact HB.out | apply qb_ | apply qa_ | apply qc_) | exact HB.out)) hb); clear HO104; clear HB; have HO104 := n0_; have HO107 := n1_; have HB := n2_; clear n0_ n1_ n2_; (try clear hb); (try clear hb2); (try clear hk); (try clear hi); (try clear ho0)))
   (try simp only [Act.put, sa_, sb_, sc_])
   go_cut [43] (fun v43 wc => ∃ (kq : Nat) (x43_9 : Bool), v43 = .bool x43_9 ∧ Aside0 (law02_SealBursts.j0 kq a1 a2 t102 x43_9 = some r) ∧ Aside0 (kq ≤ k) ∧ Aside0 (Kd.R (Kd.int .u8) 5 wc w.heap.size (fun _ => True) (.slice Ao13 t102.length co13) t102) ∧ Aside0 (Below w.heap.size w wc))
   case first =>
    have H := HC10.out
    clear HC10
    by_cases c15 : t108 = 0
    ·rw [if_pos c15] at H
     have c15b0 : (t108 == 0) = true := beq_iff_eq.mpr c15
     have c15b1 : (t108 != 0) = false := bne_eq_false_iff_eq.mpr c15
     clear c15
     (first | rw [c15b0] | (simp only [i64_w, i32_w]; rw [c15b0]) | skip)
     replace H := ob_ H
     obtain ⟨t109, A160, H⟩ := H
     replace H : (if t109 = true then (law02_SealBursts.j0 k a1 a2 t102 ((t102.length : Int) != (wrap64 ((l0.length : Int) + 4)))) else (law02_SealBursts.j0 k a1 a2 t102 true)) = some r := H
     have A16 := Aside0.mk A160
     clear A160
     by_cases c17 : t109 = true
     ·subst c17
      have H1 : (law02_SealBursts.j0 k a1 a2 t102 ((t102.length : Int) != (wrap64 ((l0.length : Int) + 4)))) = some r := by rw [if_pos rfl] at H; exact H
      clear H
      have H := H1
      clear H1
      have H' := Aside0.mk H
      clear H
      obtain ⟨Ao18, co18, eo18⟩ := Kd.V_slice HO107.out
      subst eo18
      go_wp2_with (first | (go_at_call 12; (with_reducible refine (ref01_Same.calls _ _ t105 _ _ l0 true _ ?side1 ?side2 ?side3 ?side4 A16.out).mono ?_); (case side1 => repeat (first | exact (Kd.V_reads' HO107.out).2.2 | (with_reducible refine Kd.C_alloc ?_ _) | (with_reducible refine Kd.C_drewN ?_ _) | (with_reducible refine Kd.C_drew ?_))); (case side2 => exact (Kd.V_reads' HO107.out).2.1); (case side3 => repeat (first | exact (Kd.C_below HR0.out HB.out) | (with_reducible refine Kd.C_alloc ?_ _) | (with_reducible refine Kd.C_drewN ?_ _) | (with_reducible refine Kd.C_drew ?_))); (case side4 => exact HC0.out); rintro e w' ⟨rfl, ⟨nd, rfl⟩⟩))
      go_meet
      case rel => exact ⟨_, (((t102.length : Int) != (wrap64 ((l0.length : Int) + 4)))), (by first | rfl | (simp; done) | (simp [*]; done)), H', ⟨by first | omega | exact Nat.le_refl _⟩, ⟨by (with_reducible repeat (first | apply Kd.R_alloc | apply Kd.R_drewN | apply Kd.R_drew)); exact HO104.out⟩, ⟨by repeat (first | (with_reducible first | exact HB.out | apply qb_ | apply qa_ | apply qc_) | exact HB.out)⟩⟩
     ·replace c17 := Bool.eq_false_iff.mpr c17
      subst c17
      have H1 : (law02_SealBursts.j0 k a1 a2 t102 true) = some r := by rw [if_neg (show ¬ (false = true) by decide)] at H; exact H
      clear H
      have H := H1
      clear H1
      have H' := Aside0.mk H
      clear H
      obtain ⟨Ao19, co19, eo19⟩ := Kd.V_slice HO107.out
      subst eo19
      go_wp2_with (first | (go_at_call 12; (with_reducible refine (ref01_Same.calls _ _ t105 _ _ l0 false _ ?side1 ?side2 ?side3 ?side4 A16.out).mono ?_); (case side1 => repeat (first | exact (Kd.V_reads' HO107.out).2.2 | (with_reducible refine Kd.C_alloc ?_ _) | (with_reducible refine Kd.C_drewN ?_ _) | (with_reducible refine Kd.C_drew ?_))); (case side2 => exact (Kd.V_reads' HO107.out).2.1); (case side3 => repeat (first | exact (Kd.C_below HR0.out HB.out) | (with_reducible refine Kd.C_alloc ?_ _) | (with_reducible refine Kd.C_drewN ?_ _) | (with_reducible refine Kd.C_drew ?_))); (case side4 => exact HC0.out); rintro e w' ⟨rfl, ⟨nd, rfl⟩⟩))
      go_meet
      case rel => exact ⟨_, (true), (by first | rfl | (simp; done) | (simp [*]; done)), H', ⟨by first | omega | exact Nat.le_refl _⟩, ⟨by (with_reducible repeat (first | apply Kd.R_alloc | apply Kd.R_drewN | apply Kd.R_drew)); exact HO104.out⟩, ⟨by repeat (first | (with_reducible first | exact HB.out | apply qb_ | apply qa_ | apply qc_) | exact HB.out)⟩⟩
    ·rw [if_neg c15] at H
     have c15b0 : (t108 == 0) = false := beq_eq_false_iff_ne.mpr c15
     have c15b1 : (t108 != 0) = true := bne_iff_ne.mpr c15
     (first | rw [c15b0] | (simp only [i64_w, i32_w]; rw [c15b0]) | skip)
     have H' := Aside0.mk H
     clear H
     go_wp2
     go_meet
     case rel => exact ⟨_, (true), (by first | rfl | (simp; done) | (simp [*]; done)), H', ⟨by first | omega | exact Nat.le_refl _⟩, ⟨by (with_reducible repeat (first | apply Kd.R_alloc | apply Kd.R_drewN | apply Kd.R_drew)); exact HO104.out⟩, ⟨by repeat (first | (with_reducible first | exact HB.out | apply qb_ | apply qa_ | apply qc_) | exact HB.out)⟩⟩
   case rest =>
    clear HC10
    try clear c1
    try clear p2
    try clear c4
    try clear c5
    try clear c6
    try clear c6b0
    try clear c6b1
    try clear p6
    try clear c7
    try clear c8
    try clear c13
    try clear c15
    try clear c15b0
    try clear c15b1
    try clear c17
    obtain ⟨kq, x43_9, rfl, HA, HJ9, HO_7, HB⟩ := hcut
    cases kq with
    | zero => exact absurd HA.out (by simp [law02_SealBursts.j0])
    | succ kj9 =>
     have H := HA.out
     clear HA
     simp only [law02_SealBursts.j0] at H
     by_cases c20 : x43_9 = true
     ·subst c20
      have H1 : (some false) = some r := by rw [if_pos rfl] at H; exact H
      clear H
      have H := H1
      clear H1
      obtain rfl := Option.some.inj H
      go_wp2
      go_ret
      exact ⟨by first | rfl | (simp [errW_none, errW_some] <;> rfl) | (simp [*, errW_none, errW_some] <;> rfl), by repeat (first | (with_reducible first | exact HB.out | apply qb_ | apply qa_ | apply qc_) | exact HB.out)⟩
     ·replace c20 := Bool.eq_false_iff.mpr c20
      subst c20
      have H1 : (if (wrap64 (8 * (t102.length : Int))) = 0 then (none) else (law02_SealBursts.l0 kj9 a2 t102 (wrap64 (8 * (t102.length : Int))) (Int.tmod (wrap64 (a1)) (wrap64 (8 * (t102.length : Int)))) 0 0)) = some r := by rw [if_neg (show ¬ (false = true) by decide)] at H; exact H
      clear H
      have H := H1
      clear H1
      by_cases c21 : (wrap64 (8 * (t102.length : Int))) = 0
      ·rw [if_pos c21] at H
       exact absurd H (by simp)
      ·rw [if_neg c21] at H
       have c21b0 : ((wrap64 (8 * (t102.length : Int))) == 0) = false := beq_eq_false_iff_ne.mpr c21
       have c21b1 : ((wrap64 (8 * (t102.length : Int))) != 0) = true := bne_iff_ne.mpr c21
       have H' := Aside0.mk H
       clear H
       go_wp2
       go_loopg [7, 12, 13] kj9 (fun kq v7 v12 v13 w' => ∃ (x7_2 : List Int) (x12_2 : Int) (x13_2 : Int), v12 = .int .i64 x12_2 ∧ v13 = .int .i64 x13_2 ∧ Aside0 (law02_SealBursts.l0 kq a2 x7_2 (wrap64 (8 * (t102.length : Int))) (Int.tmod (wrap64 (a1)) (wrap64 (8 * (t102.length : Int)))) x12_2 x13_2 = some r) ∧ Aside0 (kq ≤ kj9) ∧ Aside0 (Kd.R (Kd.int .u8) 5 w' w.heap.size (fun _ => True) v7 x7_2) ∧ Aside0 (Below w.heap.size w w'))
       case atStart => exact ⟨(t102), (0), (0), (by first | rfl | (simp; done) | (simp [*]; done)), (by first | rfl | (simp; done) | (simp [*]; done)), H', ⟨Nat.le_refl _⟩, ⟨by (with_reducible repeat (first | apply Kd.R_alloc | apply Kd.R_drewN | apply Kd.R_drew)); exact HO_7.out⟩, ⟨by repeat (first | (with_reducible first | exact HB.out | apply qb_ | apply qa_ | apply qc_) | exact HB.out)⟩⟩
       case round =>
        clear H'
        try clear c1
        try clear c2
        try clear p2
        try clear c4
        try clear c5
        try clear c6
        try clear c6b0
        try clear c6b1
        try clear p6
        try clear c7
        try clear c8
        try clear c13
        try clear c15
        try clear c15b0
        try clear c15b1
        try clear c17
        try clear c20
        try clear c21
        try clear c21b0
        try clear c21b1
        try clear p2
        try clear p6
        obtain ⟨x7_2, x12_2, x13_2, rfl, rfl, HA, HK2, HO_7, HB⟩ := hrel
        cases gk with
        | zero => exact absurd HA.out (by simp [law02_SealBursts.l0])
        | succ k2 =>
         have H := HA.out
         clear HA
         simp only [law02_SealBursts.l0] at H
         by_cases c22 : x13_2 < 32
         ·rw [if_pos c22] at H
          have c22b0 : decide (x13_2 < 32) = true := decide_eq_true c22
          clear c22
          obtain ⟨ji23, hji23⟩ : ∃ j_ : Int, (IntKind.u64.wrap (x13_2)) = j_ := ⟨_, rfl⟩
          replace H : (if 0 ≤ (ji23) then (if (Go.bits .and .u32 (shr .u32 a2 (ji23)) 1) = 1 then (if (wrap64 ((Int.tmod (wrap64 (a1)) (wrap64 (8 * (t102.length : Int)))) + x13_2)) < (wrap64 (8 * (t102.length : Int))) then ((seal_Turn.f x7_2 (wrap64 ((Int.tmod (wrap64 (a1)) (wrap64 (8 * (t102.length : Int)))) + x13_2))).bind fun t110 => (law02_SealBursts.l0 k2 a2 t110 (wrap64 (8 * (t102.length : Int))) (Int.tmod (wrap64 (a1)) (wrap64 (8 * (t102.length : Int)))) (wrap64 (x12_2 + 1)) (wrap64 (x13_2 + 1)))) else (law02_SealBursts.l0 k2 a2 x7_2 (wrap64 (8 * (t102.length : Int))) (Int.tmod (wrap64 (a1)) (wrap64 (8 * (t102.length : Int)))) x12_2 (wrap64 (x13_2 + 1)))) else (law02_SealBursts.l0 k2 a2 x7_2 (wrap64 (8 * (t102.length : Int))) (Int.tmod (wrap64 (a1)) (wrap64 (8 * (t102.length : Int)))) x12_2 (wrap64 (x13_2 + 1)))) else (none)) = some r := by first | (rw [hji23] at H; exact H) | (simp only [hji23] at H ⊢; exact H)
          by_cases c24 : 0 ≤ (ji23)
          ·rw [if_pos c24] at H
           have c24b0 := eq_true c24
           have c24b1 : decide (0 ≤ (ji23)) = true := decide_eq_true c24
           clear c24
           obtain ⟨ji25, hji25⟩ : ∃ j_ : Int, (shr .u32 a2 (ji23)) = j_ := ⟨_, rfl⟩
           replace H : (if (Go.bits .and .u32 (ji25) 1) = 1 then (if (wrap64 ((Int.tmod (wrap64 (a1)) (wrap64 (8 * (t102.length : Int)))) + x13_2)) < (wrap64 (8 * (t102.length : Int))) then ((seal_Turn.f x7_2 (wrap64 ((Int.tmod (wrap64 (a1)) (wrap64 (8 * (t102.length : Int)))) + x13_2))).bind fun t110 => (law02_SealBursts.l0 k2 a2 t110 (wrap64 (8 * (t102.length : Int))) (Int.tmod (wrap64 (a1)) (wrap64 (8 * (t102.length : Int)))) (wrap64 (x12_2 + 1)) (wrap64 (x13_2 + 1)))) else (law02_SealBursts.l0 k2 a2 x7_2 (wrap64 (8 * (t102.length : Int))) (Int.tmod (wrap64 (a1)) (wrap64 (8 * (t102.length : Int)))) x12_2 (wrap64 (x13_2 + 1)))) else (law02_SealBursts.l0 k2 a2 x7_2 (wrap64 (8 * (t102.length : Int))) (Int.tmod (wrap64 (a1)) (wrap64 (8 * (t102.length : Int)))) x12_2 (wrap64 (x13_2 + 1)))) = some r := by first | (rw [hji25] at H; exact H) | (simp only [hji25] at H ⊢; exact H)
           have hji25_ : (a2 / 2 ^ min (ji23).toNat 32) = ji25 := hji25
           have hji25z : (ji23) ≤ 32 → (a2 / 2 ^ (ji23).toNat) = ji25 := shr_small hji25
           by_cases c26 : (Go.bits .and .u32 (ji25) 1) = 1
           ·rw [if_pos c26] at H
            have c26b0 : ((Go.bits .and .u32 (ji25) 1) == 1) = true := beq_iff_eq.mpr c26
            have c26b1 : ((Go.bits .and .u32 (ji25) 1) != 1) = false := bne_eq_false_iff_eq.mpr c26
            clear c26
            by_cases c27 : (wrap64 ((Int.tmod (wrap64 (a1)) (wrap64 (8 * (t102.length : Int)))) + x13_2)) < (wrap64 (8 * (t102.length : Int)))
            ·rw [if_pos c27] at H
             have c27b0 : decide ((wrap64 ((Int.tmod (wrap64 (a1)) (wrap64 (8 * (t102.length : Int)))) + x13_2)) < (wrap64 (8 * (t102.length : Int)))) = true := decide_eq_true c27
             clear c27
             replace H := ob_ H
             obtain ⟨t110, A280, H⟩ := H
             replace H : (law02_SealBursts.l0 k2 a2 t110 (wrap64 (8 * (t102.length : Int))) (Int.tmod (wrap64 (a1)) (wrap64 (8 * (t102.length : Int)))) (wrap64 (x12_2 + 1)) (wrap64 (x13_2 + 1))) = some r := H
             have A28 := Aside0.mk A280
             clear A280
             have H' := Aside0.mk H
             clear H
             obtain ⟨Ao29, co29, eo29⟩ := Kd.R_slice HO_7.out
             subst eo29
             go_wp2_with (first | ((with_reducible refine gate_callee (f := 15) rfl ?_); refine goesL_ (some 72) rfl rfl Try.func15 (by kernel_rfl) rfl #[.slice Ao29 x7_2.length co29, .int .i64 (wrap64 ((Int.tmod (wrap64 (a1)) (wrap64 (8 * (t102.length : Int)))) + x13_2))] rfl (by (try simp only [List.map_toArray, List.map_cons, List.map_nil]); first | done | rfl | (simp only [List.length_drop, List.length_take]; rfl)) ?_; (with_reducible refine (seal_Turn.calls _ _ x7_2 (wrap64 ((Int.tmod (wrap64 (a1)) (wrap64 (8 * (t102.length : Int)))) + x13_2)) t110 _ ?side1 ?side2 A28.out).mono ?_); (case side1 => repeat (first | exact (Kd.R_reads' HO_7.out).2.2 | (with_reducible refine Kd.C_alloc ?_ _) | (with_reducible refine Kd.C_drewN ?_ _) | (with_reducible refine Kd.C_drew ?_))); (case side2 => exact (Kd.R_reads' HO_7.out).2.1); rintro e w30 ⟨v111, rfl, ho0, hb⟩; refine ⟨_, rfl, ?_⟩; have n0_ := Aside0.mk (Kd.R_elder' (by (with_reducible repeat (first | apply Kd.R_alloc | apply Kd.R_drewN | apply Kd.R_drew)); exact HO_7.out) (Kd.R_base ho0) hb); have n1_ := Aside0.mk (Kd.R_lower (Kd.R_new' ho0 (Kd.R_lt (by (with_reducible repeat (first | apply Kd.R_alloc | apply Kd.R_drewN | apply Kd.R_drew)); exact HO_7.out))) (below_size (by repeat (first | (with_reducible first | exact HB.out | apply qb_ | apply qa_ | apply qc_) | exact HB.out)))); have n2_ := Aside0.mk (below_step (by repeat (first | (with_reducible first | exact HB.out | apply qb_ | apply qa_ | apply qc_) | exact HB.out)) hb); clear HO_7; clear HB; have HO_7 := n0_; have HO112 := n1_; have HB := n2_; clear n0_ n1_ n2_; (try clear hb); (try clear hb2); (try clear hk); (try clear hi); (try clear ho0)))
             go_roundg k2
             case measure => have := HJ9.out; have := HK2.out; omega
             case rel => exact ⟨(t110), (wrap64 (x12_2 + 1)), (wrap64 (x13_2 + 1)), (by first | rfl | (simp; done) | (simp [*]; done)), (by first | rfl | (simp; done) | (simp [*]; done)), H', ⟨by have := HJ9.out; have := HK2.out; omega⟩, ⟨by (with_reducible repeat (first | apply Kd.R_alloc | apply Kd.R_drewN | apply Kd.R_drew)); exact Kd.R_mono HO112.out (fun _ hk => trivial)⟩, ⟨by repeat (first | (with_reducible first | exact HB.out | apply qb_ | apply qa_ | apply qc_) | exact HB.out)⟩⟩
            ·rw [if_neg c27] at H
             have c27b0 : decide ((wrap64 ((Int.tmod (wrap64 (a1)) (wrap64 (8 * (t102.length : Int)))) + x13_2)) < (wrap64 (8 * (t102.length : Int)))) = false := decide_eq_false c27
             clear c27
             have H' := Aside0.mk H
             clear H
             go_wp2
             go_roundg k2
             case measure => have := HJ9.out; have := HK2.out; omega
             case rel => exact ⟨(x7_2), (x12_2), (wrap64 (x13_2 + 1)), (by first | rfl | (simp; done) | (simp [*]; done)), (by first | rfl | (simp; done) | (simp [*]; done)), H', ⟨by have := HJ9.out; have := HK2.out; omega⟩, ⟨by (with_reducible repeat (first | apply Kd.R_alloc | apply Kd.R_drewN | apply Kd.R_drew)); exact HO_7.out⟩, ⟨by repeat (first | (with_reducible first | exact HB.out | apply qb_ | apply qa_ | apply qc_) | exact HB.out)⟩⟩
           ·rw [if_neg c26] at H
            have c26b0 : ((Go.bits .and .u32 (ji25) 1) == 1) = false := beq_eq_false_iff_ne.mpr c26
            have c26b1 : ((Go.bits .and .u32 (ji25) 1) != 1) = true := bne_iff_ne.mpr c26
            have H' := Aside0.mk H
            clear H
            go_wp2
            go_roundg k2
            case measure => have := HJ9.out; have := HK2.out; omega
            case rel => exact ⟨(x7_2), (x12_2), (wrap64 (x13_2 + 1)), (by first | rfl | (simp; done) | (simp [*]; done)), (by first | rfl | (simp; done) | (simp [*]; done)), H', ⟨by have := HJ9.out; have := HK2.out; omega⟩, ⟨by (with_reducible repeat (first | apply Kd.R_alloc | apply Kd.R_drewN | apply Kd.R_drew)); exact HO_7.out⟩, ⟨by repeat (first | (with_reducible first | exact HB.out | apply qb_ | apply qa_ | apply qc_) | exact HB.out)⟩⟩
          ·rw [if_neg c24] at H
           exact absurd H (by simp)
         ·rw [if_neg c22] at H
          have c22b0 : decide (x13_2 < 32) = false := decide_eq_false c22
          clear c22
          replace H := ob_ H
          obtain ⟨⟨t113, t116⟩, A310, H⟩ := H
          replace H : (some ((t116 == 0) == (x12_2 == 0))) = some r := H
          have A31 := Aside0.mk A310
          clear A310
          obtain rfl := Option.some.inj H
          obtain ⟨Ao32, co32, eo32⟩ := Kd.R_slice HO_7.out
          subst eo32
          go_wp2_with (first | ((with_reducible refine gate_callee (f := 8) rfl ?_); refine goesL_ (some 77) rfl rfl Try.func8 (by kernel_rfl) rfl #[.slice Ao32 x7_2.length co32] rfl (by (try simp only [List.map_toArray, List.map_cons, List.map_nil]); first | done | rfl | (simp only [List.length_drop, List.length_take]; rfl)) ?_; (with_reducible refine (seal_Open.calls k2 (fun k_ => some k_ = (.slice Ao32 x7_2.length co32 : Value).ownBlock) _ _ x7_2 t113 t116 _ ?side1 A31.out).mono ?_); (case side1 => exact Kd.R_V (Kd.R_tight rfl (HO_7.out))); rintro e w33 ⟨v114, rfl, ho0, hb⟩; refine ⟨_, rfl, ?_⟩; have n0_ := Aside0.mk (Kd.R_below (by (with_reducible repeat (first | apply Kd.R_alloc | apply Kd.R_drewN | apply Kd.R_drew)); exact HO_7.out) hb); have n1_ := Aside0.mk (Kd.V_lower (Kd.V_mono (ok' := fun k_ => True) ho0 (fun k_ hk_ => trivial)) (below_size (by repeat (first | (with_reducible first | exact HB.out | apply qb_ | apply qa_ | apply qc_) | exact HB.out)))); have n2_ := Aside0.mk (below_step (by repeat (first | (with_reducible first | exact HB.out | apply qb_ | apply qa_ | apply qc_) | exact HB.out)) hb); clear HO_7; clear HB; have HO_7 := n0_; have HO115 := n1_; have HB := n2_; clear n0_ n1_ n2_; (try clear hb); (try clear hb2); (try clear hk); (try clear hi); (try clear ho0)))
          go_ret
          exact ⟨by first | rfl | (simp [errW_none, errW_some] <;> rfl) | (simp [*, errW_none, errW_some] <;> rfl), by repeat (first | (with_reducible first | exact HB.out | apply qb_ | apply qa_ | apply qc_) | exact HB.out)⟩
 ·rw [if_neg c5] at H
  exact absurd ((Option.some.inj H).trans HRT.out) (by decide)
/-- THE ONE PURE STATEMENT of law02_SealBursts: yours. -/
def law02_SealBursts.Pure : Prop := ∀ (l0 : List Int) (a1 : Int) (a2 : Int), l0.length ≤ maxLen → l0.length * 1 ≤ 140737488351232 → (∀ x ∈ l0, (Lit.int .u8 x).wf = true) → (Lit.int .u16 a1).wf = true → (Lit.int .u32 a2).wf = true → ∃ k, law02_SealBursts.f k l0 a1 a2 = some true
theorem law02_SealBursts.walk (P : law02_SealBursts.Pure) (a0 : Option Addr) (len0 cap0 : Nat) (z0 : List Int) (a1 : Int) (a2 : Int) (w : World) (w0 : (a0 = none ∧ len0 = 0 ∧ cap0 = 0 ∧ z0 = []) ∨ ∃ x, a0 = some x ∧ len0 ≤ cap0 ∧ cap0 ≤ maxLen ∧ z0.length = cap0 ∧ (∀ i, i < z0.length → w.cell? (x.add i) = some (.int .u8 (z0.getD i 0))) ∧ ∀ n ∈ z0, (Lit.int .u8 n).wf = true) (y0 : len0 * 1 ≤ 140737488351232) (w1 : (Lit.int .u16 a1).wf = true) (w2 : (Lit.int .u32 a2).wf = true) :
  Calls Try.prog 4 #[.slice a0 len0 cap0, .int .u16 a1, .int .u32 a2] w fun e w' => e = .returned (.bool true) ∧ Below w.heap.size w w' := by
 obtain ⟨l0, rfl, hr0, hm0, hw0, hc0⟩ := ReadsInt.ofRowC w0
 obtain ⟨k, h⟩ := P l0 a1 a2 hm0 y0 hw0 w1 w2
 refine (law02_SealBursts.calls k _ _ l0 a1 a2 true w (Kd.C_of_reads (d := (0 : Int)) (h1 := fun _ => rfl) hr0) hc0 h rfl).mono ?_
 rintro e w' ⟨rfl, hd⟩
 exact ⟨rfl, hd⟩
end Go.Proofs.Ytfaiapmckimjeaa.P

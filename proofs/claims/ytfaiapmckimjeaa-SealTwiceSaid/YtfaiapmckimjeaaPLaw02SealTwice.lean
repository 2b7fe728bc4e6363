/- What this function of the program comes to, and that the machine's call does it: written by a program (wip/tool). No condition. -/
import Derived.Test.YtfaiapmckimjeaaP0
import Derived.Test.YtfaiapmckimjeaaPSealSeal
import Derived.Test.YtfaiapmckimjeaaPSealOpen
import Derived.Test.YtfaiapmckimjeaaPSealTurn
import Derived.Test.YtfaiapmckimjeaaPLaw02Alive
import Derived.Test.YtfaiapmckimjeaaPRef01Same
import Derived.Test.YtfaiapmckimjeaaHw
namespace Go.Proofs.Ytfaiapmckimjeaa.P
open Go.RowKit Go.Proofs.YtfaiapmckimjeaaW.PrintWords Go.Proofs.YtfaiapmckimjeaaW.PrintLast Go.Proofs.YtfaiapmckimjeaaW.PrintMore
attribute [local go_sem] max2_int min2_int max_two min_two max_three min_three max_four min_four Go.Proofs.YtfaiapmckimjeaaW.Hw.string_gtr   -- for this text's walks alone
set_option linter.unusedVariables false
set_option linter.unusedSimpArgs false
/-! ### law02_SealTwice: function 6 -/
def law02_SealTwice.f (k : Nat) (l0 : List Int) (a1 : Int) : Option (Bool) := (law02_alive.f k).bind fun t101 => (if t101 = true then (if (l0.length : Int) > 1000 then (some true) else ((seal_Seal.f k l0).bind fun t102 => ((seal_Seal.f k t102).bind fun t105 => ((seal_Open.f k t105).bind fun bt108 => ((seal_Open.f k bt108.1).bind fun bt112 => (if bt108.2 = 0 then (if bt112.2 = 0 then ((ref01_Same.f bt112.1 l0).bind fun t116 => (if t116 = true then (if (bt108.1.length : Int) = (wrap64 ((l0.length : Int) + 4)) then ((seal_Turn.f l0 (wrap64 (a1))).bind fun t117 => ((seal_Turn.f t117 (wrap64 (a1))).bind fun t120 => ((ref01_Same.f t120 l0).bind fun t123 => (some t123)))) else (some false)) else (some false))) else (some false)) else (some false))))))) else (some false))
theorem law02_SealTwice.mono : ∀ a0 a1 k, LeO (law02_SealTwice.f k a0 a1) (law02_SealTwice.f (k + 1) a0 a1) := by
 intro a0 a1 k
 unfold law02_SealTwice.f
 repeat' first
   | (with_reducible exact law02_alive.mono _)
   | (with_reducible exact seal_Open.mono _ _)
   | (with_reducible exact seal_Seal.mono _ _)
   | (with_reducible exact LeO.refl _)
   | (with_reducible exact LeO.none _)
   | (with_reducible refine LeO.ite ?_ ?_)
   | (with_reducible refine LeO.bind ?_ (fun _ => ?_))
   | exact law02_alive.mono _
   | exact seal_Open.mono _ _
   | exact seal_Seal.mono _ _
   | exact LeO.none _
   | refine LeO.ite ?_ ?_
   | refine LeO.bind ?_ (fun _ => ?_)
set_option maxHeartbeats 8000000 in
set_option maxRecDepth 100000 in
theorem law02_SealTwice.calls (k : Nat) (A0 : Option Addr) (c0 : Nat) (l0 : List Int) (a1 : Int) (r : Bool) (w : World) (hr0 : Kd.C (Kd.int .u8) w A0 l0.length l0) (hc0 : l0.length ≤ c0) (h : law02_SealTwice.f k l0 a1 = some r) (hrt : r = true) :
  Calls Try.prog 6 #[.slice A0 l0.length c0, .int .u16 a1] w fun e w' => e = .returned (.bool r) ∧ Below w.heap.size w w' := by
 have HRT := Aside0.mk hrt
 clear hrt
 have HR0 := Aside0.mk hr0
 have HC0 := Aside0.mk hc0
 clear hr0 hc0
 have HB := Aside0.mk (Below.refl w.heap.size w)
 have H : ((law02_alive.f k).bind fun t101 => (if t101 = true then (if (l0.length : Int) > 1000 then (some true) else ((seal_Seal.f k l0).bind fun t102 => ((seal_Seal.f k t102).bind fun t105 => ((seal_Open.f k t105).bind fun bt108 => ((seal_Open.f k bt108.1).bind fun bt112 => (if bt108.2 = 0 then (if bt112.2 = 0 then ((ref01_Same.f bt112.1 l0).bind fun t116 => (if t116 = true then (if (bt108.1.length : Int) = (wrap64 ((l0.length : Int) + 4)) then ((seal_Turn.f l0 (wrap64 (a1))).bind fun t117 => ((seal_Turn.f t117 (wrap64 (a1))).bind fun t120 => ((ref01_Same.f t120 l0).bind fun t123 => (some t123)))) else (some false)) else (some false))) else (some false)) else (some false))))))) else (some false))) = some r := h
 clear h
 replace H := ob_ H
 obtain ⟨t101, A30, H⟩ := H
 replace H : (if t101 = true then (if (l0.length : Int) > 1000 then (some true) else ((seal_Seal.f k l0).bind fun t102 => ((seal_Seal.f k t102).bind fun t105 => ((seal_Open.f k t105).bind fun bt108 => ((seal_Open.f k bt108.1).bind fun bt112 => (if bt108.2 = 0 then (if bt112.2 = 0 then ((ref01_Same.f bt112.1 l0).bind fun t116 => (if t116 = true then (if (bt108.1.length : Int) = (wrap64 ((l0.length : Int) + 4)) then ((seal_Turn.f l0 (wrap64 (a1))).bind fun t117 => ((seal_Turn.f t117 (wrap64 (a1))).bind fun t120 => ((ref01_Same.f t120 l0).bind fun t123 => (some t123)))) else (some false)) else (some false))) else (some false)) else (some false))))))) else (some false)) = some r := H
 have A3 := Aside0.mk A30
 clear A30
 by_cases c4 : t101 = true
 ·subst c4
  have H1 : (if (l0.length : Int) > 1000 then (some true) else ((seal_Seal.f k l0).bind fun t102 => ((seal_Seal.f k t102).bind fun t105 => ((seal_Open.f k t105).bind fun bt108 => ((seal_Open.f k bt108.1).bind fun bt112 => (if bt108.2 = 0 then (if bt112.2 = 0 then ((ref01_Same.f bt112.1 l0).bind fun t116 => (if t116 = true then (if (bt108.1.length : Int) = (wrap64 ((l0.length : Int) + 4)) then ((seal_Turn.f l0 (wrap64 (a1))).bind fun t117 => ((seal_Turn.f t117 (wrap64 (a1))).bind fun t120 => ((ref01_Same.f t120 l0).bind fun t123 => (some t123)))) else (some false)) else (some false))) else (some false)) else (some false))))))) = some r := by rw [if_pos rfl] at H; exact H
  clear H
  have H := H1
  clear H1
  by_cases c5 : (l0.length : Int) > 1000
  ·rw [if_pos c5] at H
   have c5b0 : decide (1000 < (l0.length : Int)) = true := decide_eq_true c5
   have c5b1 : decide (1000 < l0.length) = true := decide_eq_true (by omega)
   clear c5
   obtain rfl := Option.some.inj H
   go_enter Try.func6, Try.ntmps6
   go_wp2_with (first | ((with_reducible refine gate_callee (f := 7) rfl ?_); refine goesL_ (some 9) rfl rfl Try.func7 (by kernel_rfl) rfl #[] rfl (by (try simp only [List.map_toArray, List.map_cons, List.map_nil]); first | done | rfl | (simp only [List.length_drop, List.length_take]; rfl)) ?_; (with_reducible refine (law02_alive.calls k  true _ A3.out).mono ?_); rintro e w6 ⟨rfl, hb⟩; refine ⟨_, rfl, ?_⟩; have n0_ := Aside0.mk (below_step (by repeat (first | (with_reducible first | exact HB.out | apply qb_ | apply qa_ | apply qc_) | exact HB.out)) hb); clear HB; have HB := n0_; clear n0_; (try clear hb); (try clear hb2); (try clear hk); (try clear hi)))
   go_ret
   exact ⟨by first | rfl | (simp [errW_none, errW_some] <;> rfl) | (simp [*, errW_none, errW_some] <;> rfl), by repeat (first | (with_reducible first | exact HB.out | apply qb_ | apply qa_ | apply qc_) | exact HB.out)⟩
  ·rw [if_neg c5] at H
   have c5b0 : decide (1000 < (l0.length : Int)) = false := decide_eq_false c5
   have c5b1 : decide (1000 < l0.length) = false := decide_eq_false (by omega)
   clear c5
   replace H := ob_ H
   obtain ⟨t102, A70, H⟩ := H
   replace H : ((seal_Seal.f k t102).bind fun t105 => ((seal_Open.f k t105).bind fun bt108 => ((seal_Open.f k bt108.1).bind fun bt112 => (if bt108.2 = 0 then (if bt112.2 = 0 then ((ref01_Same.f bt112.1 l0).bind fun t116 => (if t116 = true then (if (bt108.1.length : Int) = (wrap64 ((l0.length : Int) + 4)) then ((seal_Turn.f l0 (wrap64 (a1))).bind fun t117 => ((seal_Turn.f t117 (wrap64 (a1))).bind fun t120 => ((ref01_Same.f t120 l0).bind fun t123 => (some t123)))) else (some false)) else (some false))) else (some false)) else (some false))))) = some r := H
   have A7 := Aside0.mk A70
   clear A70
   replace H := ob_ H
   obtain ⟨t105, A80, H⟩ := H
   replace H : ((seal_Open.f k t105).bind fun bt108 => ((seal_Open.f k bt108.1).bind fun bt112 => (if bt108.2 = 0 then (if bt112.2 = 0 then ((ref01_Same.f bt112.1 l0).bind fun t116 => (if t116 = true then (if (bt108.1.length : Int) = (wrap64 ((l0.length : Int) + 4)) then ((seal_Turn.f l0 (wrap64 (a1))).bind fun t117 => ((seal_Turn.f t117 (wrap64 (a1))).bind fun t120 => ((ref01_Same.f t120 l0).bind fun t123 => (some t123)))) else (some false)) else (some false))) else (some false)) else (some false)))) = some r := H
   have A8 := Aside0.mk A80
   clear A80
   replace H := ob_ H
   obtain ⟨⟨t108, t111⟩, A90, H⟩ := H
   replace H : ((seal_Open.f k t108).bind fun bt112 => (if t111 = 0 then (if bt112.2 = 0 then ((ref01_Same.f bt112.1 l0).bind fun t116 => (if t116 = true then (if (t108.length : Int) = (wrap64 ((l0.length : Int) + 4)) then ((seal_Turn.f l0 (wrap64 (a1))).bind fun t117 => ((seal_Turn.f t117 (wrap64 (a1))).bind fun t120 => ((ref01_Same.f t120 l0).bind fun t123 => (some t123)))) else (some false)) else (some false))) else (some false)) else (some false))) = some r := H
   have A9 := Aside0.mk A90
   clear A90
   replace H := ob_ H
   obtain ⟨⟨t112, t115⟩, A100, H⟩ := H
   replace H : (if t111 = 0 then (if t115 = 0 then ((ref01_Same.f t112 l0).bind fun t116 => (if t116 = true then (if (t108.length : Int) = (wrap64 ((l0.length : Int) + 4)) then ((seal_Turn.f l0 (wrap64 (a1))).bind fun t117 => ((seal_Turn.f t117 (wrap64 (a1))).bind fun t120 => ((ref01_Same.f t120 l0).bind fun t123 => (some t123)))) else (some false)) else (some false))) else (some false)) else (some false)) = some r := H
   have A10 := Aside0.mk A100
   clear A100
   by_cases c11 : t111 = 0
   ·rw [if_pos c11] at H
    have c11b0 : (t111 == 0) = true := beq_iff_eq.mpr c11
    have c11b1 : (t111 != 0) = false := bne_eq_false_iff_eq.mpr c11
    clear c11
    by_cases c12 : t115 = 0
    ·rw [if_pos c12] at H
     have c12b0 : (t115 == 0) = true := beq_iff_eq.mpr c12
     have c12b1 : (t115 != 0) = false := bne_eq_false_iff_eq.mpr c12
     clear c12
     replace H := ob_ H
     obtain ⟨t116, A130, H⟩ := H
     replace H : (if t116 = true then (if (t108.length : Int) = (wrap64 ((l0.length : Int) + 4)) then ((seal_Turn.f l0 (wrap64 (a1))).bind fun t117 => ((seal_Turn.f t117 (wrap64 (a1))).bind fun t120 => ((ref01_Same.f t120 l0).bind fun t123 => (some t123)))) else (some false)) else (some false)) = some r := H
     have A13 := Aside0.mk A130
     clear A130
     by_cases c14 : t116 = true
     ·subst c14
      have H1 : (if (t108.length : Int) = (wrap64 ((l0.length : Int) + 4)) then ((seal_Turn.f l0 (wrap64 (a1))).bind fun t117 => ((seal_Turn.f t117 (wrap64 (a1))).bind fun t120 => ((ref01_Same.f t120 l0).bind fun t123 => (some t123)))) else (some false)) = some r := by rw [if_pos rfl] at H; exact H
      clear H
      have H := H1
      clear H1
      by_cases c15 : (t108.length : Int) = (wrap64 ((l0.length : Int) + 4))
      ·rw [if_pos c15] at H
       have c15b0 : ((t108.length : Int) == (wrap64 ((l0.length : Int) + 4))) = true := beq_iff_eq.mpr c15
       have c15b1 : ((t108.length : Int) != (wrap64 ((l0.length : Int) + 4))) = false := bne_eq_false_iff_eq.mpr c15
       clear c15
       replace H := ob_ H
       obtain ⟨t117, A160, H⟩ := H
       replace H : ((seal_Turn.f t117 (wrap64 (a1))).bind fun t120 => ((ref01_Same.f t120 l0).bind fun t123 => (some t123))) = some r := H
       have A16 := Aside0.mk A160
       clear A160
       replace H := ob_ H
       obtain ⟨t120, A170, H⟩ := H
       replace H : ((ref01_Same.f t120 l0).bind fun t123 => (some t123)) = some r := H
       have A17 := Aside0.mk A170
       clear A170
       replace H := ob_ H
       obtain ⟨t123, A180, H⟩ := H
       replace H : (some t123) = some r := H
       have A18 := Aside0.mk A180
       clear A180
       obtain rfl := Option.some.inj H
       go_enter Try.func6, Try.ntmps6
       go_wp2_with (first | ((with_reducible refine gate_callee (f := 7) rfl ?_); refine goesL_ (some 9) rfl rfl Try.func7 (by kernel_rfl) rfl #[] rfl (by (try simp only [List.map_toArray, List.map_cons, List.map_nil]); first | done | rfl | (simp only [List.length_drop, List.length_take]; rfl)) ?_; (with_reducible refine (law02_alive.calls k  true _ A3.out).mono ?_); rintro e w19 ⟨rfl, hb⟩; refine ⟨_, rfl, ?_⟩; have n0_ := Aside0.mk (below_step (by repeat (first | (with_reducible first | exact HB.out | apply qb_ | apply qa_ | apply qc_) | exact HB.out)) hb); clear HB; have HB := n0_; clear n0_; (try clear hb); (try clear hb2); (try clear hk); (try clear hi)) | ((with_reducible refine gate_callee (f := 13) rfl ?_); refine goesL_ (some 16) rfl rfl Try.func13 (by kernel_rfl) rfl #[.slice A0 l0.length c0] rfl (by (try simp only [List.map_toArray, List.map_cons, List.map_nil]); first | done | rfl | (simp only [List.length_drop, List.length_take]; rfl)) ?_; (with_reducible refine (seal_Seal.calls k (fun k_ => k_ < w.heap.size) _ _ l0 t102 _ ?side1 A7.out).mono ?_); (case side1 => exact Kd.V_mk HC0.out (Kd.F_below (Kd.C_F (Kd.heap_int .u8) HR0.out) (by repeat (first | (with_reducible first | exact HB.out | apply qb_ | apply qa_ | apply qc_) | exact HB.out)))); rintro e w20 ⟨v103, rfl, ho0, hb⟩; refine ⟨_, rfl, ?_⟩; have n0_ := Aside0.mk (Kd.R_lower (Kd.R_mono (ok' := fun k_ => True) ho0 (fun _ hk_ => trivial)) (below_size (by repeat (first | (with_reducible first | exact HB.out | apply qb_ | apply qa_ | apply qc_) | exact HB.out)))); have n1_ := Aside0.mk (below_step (by repeat (first | (with_reducible first | exact HB.out | apply qb_ | apply qa_ | apply qc_) | exact HB.out)) hb); clear HB; have HO104 := n0_; have HB := n1_; clear n0_ n1_; (try clear hb); (try clear hb2); (try clear hk); (try clear hi); (try clear ho0); obtain ⟨Ao21, co21, eo21⟩ := Kd.R_slice HO104.out; subst eo21) | ((with_reducible refine gate_callee (f := 13) rfl ?_); refine goesL_ (some 17) rfl rfl Try.func13 (by kernel_rfl) rfl #[.slice Ao21 t102.length co21] rfl (by (try simp only [List.map_toArray, List.map_cons, List.map_nil]); first | done | rfl | (simp only [List.length_drop, List.length_take]; rfl)) ?_; (with_reducible refine (seal_Seal.calls k (fun k_ => some k_ = (.slice Ao21 t102.length co21 : Value).ownBlock) _ _ t102 t105 _ ?side1 A8.out).mono ?_); (case side1 => exact Kd.R_V (Kd.R_tight rfl (HO104.out))); rintro e w22 ⟨v106, rfl, ho0, hb⟩; refine ⟨_, rfl, ?_⟩; have n0_ := Aside0.mk (Kd.R_elder' (by (with_reducible repeat (first | apply Kd.R_alloc | apply Kd.R_drewN | apply Kd.R_drew)); exact HO104.out) (Kd.R_base ho0) hb); have n1_ := Aside0.mk (Kd.R_lower (Kd.R_new' (Kd.R_mono (ok' := fun k_ => True) ho0 (fun _ hk_ => trivial)) (Kd.R_lt (by (with_reducible repeat (first | apply Kd.R_alloc | apply Kd.R_drewN | apply Kd.R_drew)); exact HO104.out))) (below_size (by repeat (first | (with_reducible first | exact HB.out | apply qb_ | apply qa_ | apply qc_) | exact HB.out)))); have n2_ := Aside0.mk (below_step (by repeat (first | (with_reducible first | exact HB.out | apply qb_ | apply qa_ | apply qc_) | exact HB.out)) hb); clear HO104; clear HB; have HO104 := n0_; have HO107 := n1_; have HB := n2_; clear n0_ n1_ n2_; (try clear hb); (try clear hb2); (try clear hk); (try clear hi); (try clear ho0); obtain ⟨Ao23, co23, eo23⟩ := Kd.R_slice HO107.out; subst eo23) | ((with_reducible refine gate_callee (f := 8) rfl ?_); refine goesL_ (some 18) rfl rfl Try.func8 (by kernel_rfl) rfl #[.slice Ao23 t105.length co23] rfl (by (try simp only [List.map_toArray, List.map_cons, List.map_nil]); first | done | rfl | (simp only [List.length_drop, List.length_take]; rfl)) ?_; (with_reducible refine (seal_Open.calls k (fun k_ => some k_ = (.slice Ao23 t105.length co23 : Value).ownBlock) _ _ t105 t108 t111 _ ?side1 A9.out).mono ?_); (case side1 => exact Kd.R_V (Kd.R_tight rfl (HO107.out))); rintro e w24 ⟨v109, rfl, ho0, hb⟩; refine ⟨_, rfl, ?_⟩; have n0_ := Aside0.mk (Kd.R_below (by (with_reducible repeat (first | apply Kd.R_alloc | apply Kd.R_drewN | apply Kd.R_drew)); exact HO104.out) hb); have n1_ := Aside0.mk (Kd.R_below (by (with_reducible repeat (first | apply Kd.R_alloc | apply Kd.R_drewN | apply Kd.R_drew)); exact HO107.out) hb); have n2_ := Aside0.mk (Kd.V_lower (Kd.V_mono (ok' := fun k_ => some k_ ≠ (.slice Ao21 t102.length co21 : Value).ownBlock) ho0 (fun k_ hk_ => Or.elim hk_ (fun hs_ => ((HO107.out).1 k_ hs_.symm).2) (fun hn_ => (Kd.fresh' (Kd.R_lt (by (with_reducible repeat (first | apply Kd.R_alloc | apply Kd.R_drewN | apply Kd.R_drew)); exact HO104.out)) k_ hn_)))) (below_size (by repeat (first | (with_reducible first | exact HB.out | apply qb_ | apply qa_ | apply qc_) | exact HB.out)))); have n3_ := Aside0.mk (below_step (by repeat (first | (with_reducible first | exact HB.out | apply qb_ | apply qa_ | apply qc_) | exact HB.out)) hb); clear HO104; clear HO107; clear HB; have HO104 := n0_; have HO107 := n1_; have HO110 := n2_; have HB := n3_; clear n0_ n1_ n2_ n3_; (try clear hb); (try clear hb2); (try clear hk); (try clear hi); (try clear ho0); obtain ⟨Ao25, co25, eo25⟩ := Kd.V_slice HO110.out; subst eo25) | ((with_reducible refine gate_callee (f := 8) rfl ?_); refine goesL_ (some 23) rfl rfl Try.func8 (by kernel_rfl) rfl #[.slice Ao25 t108.length co25] rfl (by (try simp only [List.map_toArray, List.map_cons, List.map_nil]); first | done | rfl | (simp only [List.length_drop, List.length_take]; rfl)) ?_; (with_reducible refine (seal_Open.calls k (fun k_ => some k_ ≠ (.slice Ao21 t102.length co21 : Value).ownBlock) _ _ t108 t112 t115 _ ?side1 A10.out).mono ?_); (case side1 => exact HO110.out); rintro e w26 ⟨v113, rfl, ho0, hb⟩; refine ⟨_, rfl, ?_⟩; have n0_ := Aside0.mk (Kd.R_below (by (with_reducible repeat (first | apply Kd.R_alloc | apply Kd.R_drewN | apply Kd.R_drew)); exact HO104.out) hb); have n1_ := Aside0.mk (Kd.R_below (by (with_reducible repeat (first | apply Kd.R_alloc | apply Kd.R_drewN | apply Kd.R_drew)); exact HO107.out) hb); have n2_ := Aside0.mk (Kd.V_below (by (with_reducible repeat (first | apply Kd.V_alloc | apply Kd.V_drewN | apply Kd.V_drew)); exact HO110.out) hb); have n3_ := Aside0.mk (Kd.V_lower (Kd.V_mono (ok' := fun k_ => some k_ ≠ (.slice Ao21 t102.length co21 : Value).ownBlock) ho0 (fun k_ hk_ => Or.elim hk_ (fun hs_ => hs_) (fun hn_ => (Kd.fresh' (Kd.R_lt (by (with_reducible repeat (first | apply Kd.R_alloc | apply Kd.R_drewN | apply Kd.R_drew)); exact HO104.out)) k_ hn_)))) (below_size (by repeat (first | (with_reducible first | exact HB.out | apply qb_ | apply qa_ | apply qc_) | exact HB.out)))); have n4_ := Aside0.mk (below_step (by repeat (first | (with_reducible first | exact HB.out | apply qb_ | apply qa_ | apply qc_) | exact HB.out)) hb); clear HO104; clear HO107; clear HO110; clear HB; have HO104 := n0_; have HO107 := n1_; have HO110 := n2_; have HO114 := n3_; have HB := n4_; clear n0_ n1_ n2_ n3_ n4_; (try clear hb); (try clear hb2); (try clear hk); (try clear hi); (try clear ho0); obtain ⟨Ao27, co27, eo27⟩ := Kd.V_slice HO114.out; subst eo27) | (go_at_call 12; (with_reducible refine (ref01_Same.calls _ _ t112 _ _ l0 true _ ?side1 ?side2 ?side3 ?side4 A13.out).mono ?_); (case side1 => repeat (first | exact (Kd.V_reads' HO114.out).2.2 | (with_reducible refine Kd.C_alloc ?_ _) | (with_reducible refine Kd.C_drewN ?_ _) | (with_reducible refine Kd.C_drew ?_))); (case side2 => exact (Kd.V_reads' HO114.out).2.1); (case side3 => repeat (first | exact (Kd.C_below HR0.out HB.out) | (with_reducible refine Kd.C_alloc ?_ _) | (with_reducible refine Kd.C_drewN ?_ _) | (with_reducible refine Kd.C_drew ?_))); (case side4 => exact HC0.out); rintro e w' ⟨rfl, ⟨nd, rfl⟩⟩) | (go_at_call 15; (with_reducible refine (seal_Turn.calls _ _ l0 (wrap64 (a1)) t117 _ ?side1 ?side2 A16.out).mono ?_); (case side1 => repeat (first | exact (Kd.C_below HR0.out (by repeat (first | (with_reducible first | exact HB.out | apply qb_ | apply qa_ | apply qc_) | exact HB.out))) | (with_reducible refine Kd.C_alloc ?_ _) | (with_reducible refine Kd.C_drewN ?_ _) | (with_reducible refine Kd.C_drew ?_))); (case side2 => exact HC0.out); rintro e w28 ⟨v118, rfl, ho0, hb⟩; have n0_ := Aside0.mk (Kd.R_elder' (by (with_reducible repeat (first | apply Kd.R_alloc | apply Kd.R_drewN | apply Kd.R_drew)); exact HO104.out) (Kd.R_base ho0) hb); have n1_ := Aside0.mk (Kd.R_elder' (by (with_reducible repeat (first | apply Kd.R_alloc | apply Kd.R_drewN | apply Kd.R_drew)); exact HO107.out) (Kd.R_base ho0) hb); have n2_ := Aside0.mk (Kd.V_elder' (by (with_reducible repeat (first | apply Kd.V_alloc | apply Kd.V_drewN | apply Kd.V_drew)); exact HO110.out) (Kd.R_base ho0) hb); have n3_ := Aside0.mk (Kd.V_elder' (by (with_reducible repeat (first | apply Kd.V_alloc | apply Kd.V_drewN | apply Kd.V_drew)); exact HO114.out) (Kd.R_base ho0) hb); have n4_ := Aside0.mk (Kd.R_lower (Kd.R_new' (Kd.R_new' ho0 (Kd.R_lt (by (with_reducible repeat (first | apply Kd.R_alloc | apply Kd.R_drewN | apply Kd.R_drew)); exact HO104.out))) (Kd.R_lt (by (with_reducible repeat (first | apply Kd.R_alloc | apply Kd.R_drewN | apply Kd.R_drew)); exact HO107.out))) (below_size (by repeat (first | (with_reducible first | exact HB.out | apply qb_ | apply qa_ | apply qc_) | exact HB.out)))); have n5_ := Aside0.mk (below_step (by repeat (first | (with_reducible first | exact HB.out | apply qb_ | apply qa_ | apply qc_) | exact HB.out)) hb); clear HO104; clear HO107; clear HO110; clear HO114; clear HB; have HO104 := n0_; have HO107 := n1_; have HO110 := n2_; have HO114 := n3_; have HO119 := n4_; have HB := n5_; clear n0_ n1_ n2_ n3_ n4_ n5_; (try clear hb); (try clear hb2); (try clear hk); (try clear hi); (try clear ho0); obtain ⟨Ao29, co29, eo29⟩ := Kd.R_slice HO119.out; subst eo29) | (go_at_call 15; (with_reducible refine (seal_Turn.calls _ _ t117 (wrap64 (a1)) t120 _ ?side1 ?side2 A17.out).mono ?_); (case side1 => repeat (first | exact (Kd.R_reads' HO119.out).2.2 | (with_reducible refine Kd.C_alloc ?_ _) | (with_reducible refine Kd.C_drewN ?_ _) | (with_reducible refine Kd.C_drew ?_))); (case side2 => exact (Kd.R_reads' HO119.out).2.1); rintro e w30 ⟨v121, rfl, ho0, hb⟩; have n0_ := Aside0.mk (Kd.R_elder' (by (with_reducible repeat (first | apply Kd.R_alloc | apply Kd.R_drewN | apply Kd.R_drew)); exact HO104.out) (Kd.R_base ho0) hb); have n1_ := Aside0.mk (Kd.R_elder' (by (with_reducible repeat (first | apply Kd.R_alloc | apply Kd.R_drewN | apply Kd.R_drew)); exact HO107.out) (Kd.R_base ho0) hb); have n2_ := Aside0.mk (Kd.V_elder' (by (with_reducible repeat (first | apply Kd.V_alloc | apply Kd.V_drewN | apply Kd.V_drew)); exact HO110.out) (Kd.R_base ho0) hb); have n3_ := Aside0.mk (Kd.V_elder' (by (with_reducible repeat (first | apply Kd.V_alloc | apply Kd.V_drewN | apply Kd.V_drew)); exact HO114.out) (Kd.R_base ho0) hb); have n4_ := Aside0.mk (Kd.R_elder' (by (with_reducible repeat (first | apply Kd.R_alloc | apply Kd.R_drewN | apply Kd.R_drew)); exact HO119.out) (Kd.R_base ho0) hb); have n5_ := Aside0.mk (Kd.R_lower (Kd.R_new' (Kd.R_new' (Kd.R_new' ho0 (Kd.R_lt (by (with_reducible repeat (first | apply Kd.R_alloc | apply Kd.R_drewN | apply Kd.R_drew)); exact HO104.out))) (Kd.R_lt (by (with_reducible repeat (first | apply Kd.R_alloc | apply Kd.R_drewN | apply Kd.R_drew)); exact HO107.out))) (Kd.R_lt (by (with_reducible repeat (first | apply Kd.R_alloc | apply Kd.R_drewN | apply Kd.R_drew)); exact HO119.out))) (below_size (by repeat (first | (with_reducible first | exact HB.out | apply qb_ | apply qa_ | apply qc_) | exact HB.out)))); have n6_ := Aside0.mk (below_step (by repeat (first | (with_reducible first | exact HB.out | apply qb_ | apply qa_ | apply qc_) | exact HB.out)) hb); clear HO104; clear HO107; clear HO110; clear HO114; clear HO119; clear HB; have HO104 := n0_; have HO107 := n1_; have HO110 := n2_; have HO114 := n3_; have HO119 := n4_; have HO122 := n5_; have HB := n6_; clear n0_ n1_ n2_ n3_ n4_ n5_ n6_; (try clear hb); (try clear hb2); (try clear hk); (try clear hi); (try clear ho0); obtain ⟨Ao31, co31, eo31⟩ := Kd.R_slice HO122.out; subst eo31) | (go_at_call 12; (with_reducible refine (ref01_Same.calls _ _ t120 _ _ l0 t123 _ ?side1 ?side2 ?side3 ?side4 A18.out).mono ?_); (case side1 => repeat (first | exact (Kd.R_reads' HO122.out).2.2 | (with_reducible refine Kd.C_alloc ?_ _) | (with_reducible refine Kd.C_drewN ?_ _) | (with_reducible refine Kd.C_drew ?_))); (case side2 => exact (Kd.R_reads' HO122.out).2.1); (case side3 => repeat (first | exact (Kd.C_below HR0.out HB.out) | (with_reducible refine Kd.C_alloc ?_ _) | (with_reducible refine Kd.C_drewN ?_ _) | (with_reducible refine Kd.C_drew ?_))); (case side4 => exact HC0.out); rintro e w' ⟨rfl, ⟨nd, rfl⟩⟩))
       go_ret
       exact ⟨by first | rfl | (simp [errW_none, errW_some] <;> rfl) | (simp [*, errW_none, errW_some] <;> rfl), by repeat (first | (with_reducible first | exact HB.out | apply qb_ | apply qa_ | apply qc_) | exact HB.out)⟩
      ·rw [if_neg c15] at H
       exact absurd ((Option.some.inj H).trans HRT.out) (by decide)
     ·rw [if_neg c14] at H
      exact absurd ((Option.some.inj H).trans HRT.out) (by decide)
    ·rw [if_neg c12] at H
     exact absurd ((Option.some.inj H).trans HRT.out) (by decide)
   ·rw [if_neg c11] at H
    exact absurd ((Option.some.inj H).trans HRT.out) (by decide)
 ·rw [if_neg c4] at H
  exact absurd ((Option.some.inj H).trans HRT.out) (by decide)
/-- THE ONE PURE STATEMENT of law02_SealTwice: yours. -/
def law02_SealTwice.Pure : Prop := ∀ (l0 : List Int) (a1 : Int), l0.length ≤ maxLen → l0.length * 1 ≤ 140737488351232 → (∀ x ∈ l0, (Lit.int .u8 x).wf = true) → (Lit.int .u16 a1).wf = true → ∃ k, law02_SealTwice.f k l0 a1 = some true
theorem law02_SealTwice.walk (P : law02_SealTwice.Pure) (a0 : Option Addr) (len0 cap0 : Nat) (z0 : List Int) (a1 : Int) (w : World) (w0 : (a0 = none ∧ len0 = 0 ∧ cap0 = 0 ∧ z0 = []) ∨ ∃ x, a0 = some x ∧ len0 ≤ cap0 ∧ cap0 ≤ maxLen ∧ z0.length = cap0 ∧ (∀ i, i < z0.length → w.cell? (x.add i) = some (.int .u8 (z0.getD i 0))) ∧ ∀ n ∈ z0, (Lit.int .u8 n).wf = true) (y0 : len0 * 1 ≤ 140737488351232) (w1 : (Lit.int .u16 a1).wf = true) :
  Calls Try.prog 6 #[.slice a0 len0 cap0, .int .u16 a1] w fun e w' => e = .returned (.bool true) ∧ Below w.heap.size w w' := by
 obtain ⟨l0, rfl, hr0, hm0, hw0, hc0⟩ := ReadsInt.ofRowC w0
 obtain ⟨k, h⟩ := P l0 a1 hm0 y0 hw0 w1
 refine (law02_SealTwice.calls k _ _ l0 a1 true w (Kd.C_of_reads (d := (0 : Int)) (h1 := fun _ => rfl) hr0) hc0 h rfl).mono ?_
 rintro e w' ⟨rfl, hd⟩
 exact ⟨rfl, hd⟩
end Go.Proofs.Ytfaiapmckimjeaa.P

/- What this function of the program comes to, and that the machine's call does it: written by a program (wip/tool). No condition. -/
import Derived.Test.YtfaiapmckimjeaaP0
import Derived.Test.YtfaiapmckimjeaaPSealSum
import Derived.Test.YtfaiapmckimjeaaPSealSeal
import Derived.Test.YtfaiapmckimjeaaPSealOpen
import Derived.Test.YtfaiapmckimjeaaPSealTurn
import Derived.Test.YtfaiapmckimjeaaPLaw02Alive
import Derived.Test.YtfaiapmckimjeaaPRef02Sum
import Derived.Test.YtfaiapmckimjeaaPRef02Seal
import Derived.Test.YtfaiapmckimjeaaPRef02Open
import Derived.Test.YtfaiapmckimjeaaPRef01Same
import Derived.Test.YtfaiapmckimjeaaPRef02Turn
import Derived.Test.YtfaiapmckimjeaaHw
namespace Go.Proofs.Ytfaiapmckimjeaa.P
open Go.RowKit Go.Proofs.YtfaiapmckimjeaaW.PrintWords Go.Proofs.YtfaiapmckimjeaaW.PrintLast Go.Proofs.YtfaiapmckimjeaaW.PrintMore
attribute [local go_sem] max2_int min2_int max_two min_two max_three min_three max_four min_four Go.Proofs.YtfaiapmckimjeaaW.Hw.string_gtr   -- for this text's walks alone
set_option linter.unusedVariables false
set_option linter.unusedSimpArgs false
/-! ### law02_SealSums: function 3 -/
def law02_SealSums.f (k : Nat) (l0 : List Int) (a1 : Int) : Option (Bool) := (law02_alive.f k).bind fun t101 => (if t101 = true then (if (l0.length : Int) > 3000 then (some true) else ((some (([] : List Int) : List Int)).bind fun y102 => (if y102.length + l0.length < 140737488355328 then ((some (y102 ++ l0 : List Int)).bind fun y105 => ((seal_Open.f k y105).bind fun bt108 => ((ref02_Open.f k l0).bind fun bt112 => ((seal_Sum.f k y105).bind fun t116 => ((ref02_Sum.f k l0).bind fun t117 => (if t116 = t117 then ((seal_Seal.f k y105).bind fun t118 => ((ref02_Seal.f k l0).bind fun t121 => ((ref01_Same.f t118 t121).bind fun t124 => (if t124 = true then ((ref01_Same.f bt108.1 bt112.1).bind fun t125 => (if t125 = true then (if bt108.2 = bt112.2 then ((seal_Turn.f y105 a1).bind fun t126 => ((ref02_Turn.f l0 a1).bind fun t129 => ((ref01_Same.f t126 t129).bind fun t132 => (if t132 = true then ((ref01_Same.f y105 l0).bind fun t133 => (some t133)) else (some false))))) else (some false)) else (some false))) else (some false))))) else (some false))))))) else (none)))) else (some false))
theorem law02_SealSums.mono : ∀ a0 a1 k, LeO (law02_SealSums.f k a0 a1) (law02_SealSums.f (k + 1) a0 a1) := by
 intro a0 a1 k
 unfold law02_SealSums.f
 repeat' first
   | (with_reducible exact law02_alive.mono _)
   | (with_reducible exact ref02_Open.mono _ _)
   | (with_reducible exact ref02_Seal.mono _ _)
   | (with_reducible exact ref02_Sum.mono _ _)
   | (with_reducible exact seal_Open.mono _ _)
   | (with_reducible exact seal_Seal.mono _ _)
   | (with_reducible exact seal_Sum.mono _ _)
   | (with_reducible exact LeO.refl _)
   | (with_reducible exact LeO.none _)
   | (with_reducible refine LeO.ite ?_ ?_)
   | (with_reducible refine LeO.bind ?_ (fun _ => ?_))
   | exact law02_alive.mono _
   | exact ref02_Open.mono _ _
   | exact ref02_Seal.mono _ _
   | exact ref02_Sum.mono _ _
   | exact seal_Open.mono _ _
   | exact seal_Seal.mono _ _
   | exact seal_Sum.mono _ _
   | exact LeO.none _
   | refine LeO.ite ?_ ?_
   | refine LeO.bind ?_ (fun _ => ?_)
set_option maxHeartbeats 8000000 in
set_option maxRecDepth 100000 in
theorem law02_SealSums.calls (k : Nat) (A0 : Option Addr) (c0 : Nat) (l0 : List Int) (a1 : Int) (r : Bool) (w : World) (hr0 : Kd.C (Kd.int .u8) w A0 l0.length l0) (hc0 : l0.length ≤ c0) (h : law02_SealSums.f k l0 a1 = some r) (hrt : r = true) :
  Calls Try.prog 3 #[.slice A0 l0.length c0, .int .i64 a1] w fun e w' => e = .returned (.bool r) ∧ Below w.heap.size w w' := by
 have HRT := Aside0.mk hrt
 clear hrt
 have HR0 := Aside0.mk hr0
 have HC0 := Aside0.mk hc0
 clear hr0 hc0
 have HB := Aside0.mk (Below.refl w.heap.size w)
 have H : ((law02_alive.f k).bind fun t101 => (if t101 = true then (if (l0.length : Int) > 3000 then (some true) else ((some (([] : List Int) : List Int)).bind fun y102 => (if y102.length + l0.length < 140737488355328 then ((some (y102 ++ l0 : List Int)).bind fun y105 => ((seal_Open.f k y105).bind fun bt108 => ((ref02_Open.f k l0).bind fun bt112 => ((seal_Sum.f k y105).bind fun t116 => ((ref02_Sum.f k l0).bind fun t117 => (if t116 = t117 then ((seal_Seal.f k y105).bind fun t118 => ((ref02_Seal.f k l0).bind fun t121 => ((ref01_Same.f t118 t121).bind fun t124 => (if t124 = true then ((ref01_Same.f bt108.1 bt112.1).bind fun t125 => (if t125 = true then (if bt108.2 = bt112.2 then ((seal_Turn.f y105 a1).bind fun t126 => ((ref02_Turn.f l0 a1).bind fun t129 => ((ref01_Same.f t126 t129).bind fun t132 => (if t132 = true then ((ref01_Same.f y105 l0).bind fun t133 => (some t133)) else (some false))))) else (some false)) else (some false))) else (some false))))) else (some false))))))) else (none)))) else (some false))) = some r := h
 clear h
 replace H := ob_ H
 obtain ⟨t101, A30, H⟩ := H
 replace H : (if t101 = true then (if (l0.length : Int) > 3000 then (some true) else ((some (([] : List Int) : List Int)).bind fun y102 => (if y102.length + l0.length < 140737488355328 then ((some (y102 ++ l0 : List Int)).bind fun y105 => ((seal_Open.f k y105).bind fun bt108 => ((ref02_Open.f k l0).bind fun bt112 => ((seal_Sum.f k y105).bind fun t116 => ((ref02_Sum.f k l0).bind fun t117 => (if t116 = t117 then ((seal_Seal.f k y105).bind fun t118 => ((ref02_Seal.f k l0).bind fun t121 => ((ref01_Same.f t118 t121).bind fun t124 => (if t124 = true then ((ref01_Same.f bt108.1 bt112.1).bind fun t125 => (if t125 = true then (if bt108.2 = bt112.2 then ((seal_Turn.f y105 a1).bind fun t126 => ((ref02_Turn.f l0 a1).bind fun t129 => ((ref01_Same.f t126 t129).bind fun t132 => (if t132 = true then ((ref01_Same.f y105 l0).bind fun t133 => (some t133)) else (some false))))) else (some false)) else (some false))) else (some false))))) else (some false))))))) else (none)))) else (some false)) = some r := H
 have A3 := Aside0.mk A30
 clear A30
 by_cases c4 : t101 = true
 ·subst c4
  have H1 : (if (l0.length : Int) > 3000 then (some true) else ((some (([] : List Int) : List Int)).bind fun y102 => (if y102.length + l0.length < 140737488355328 then ((some (y102 ++ l0 : List Int)).bind fun y105 => ((seal_Open.f k y105).bind fun bt108 => ((ref02_Open.f k l0).bind fun bt112 => ((seal_Sum.f k y105).bind fun t116 => ((ref02_Sum.f k l0).bind fun t117 => (if t116 = t117 then ((seal_Seal.f k y105).bind fun t118 => ((ref02_Seal.f k l0).bind fun t121 => ((ref01_Same.f t118 t121).bind fun t124 => (if t124 = true then ((ref01_Same.f bt108.1 bt112.1).bind fun t125 => (if t125 = true then (if bt108.2 = bt112.2 then ((seal_Turn.f y105 a1).bind fun t126 => ((ref02_Turn.f l0 a1).bind fun t129 => ((ref01_Same.f t126 t129).bind fun t132 => (if t132 = true then ((ref01_Same.f y105 l0).bind fun t133 => (some t133)) else (some false))))) else (some false)) else (some false))) else (some false))))) else (some false))))))) else (none)))) = some r := by rw [if_pos rfl] at H; exact H
  clear H
  have H := H1
  clear H1
  by_cases c5 : (l0.length : Int) > 3000
  ·rw [if_pos c5] at H
   have c5b0 : decide (3000 < (l0.length : Int)) = true := decide_eq_true c5
   have c5b1 : decide (3000 < l0.length) = true := decide_eq_true (by omega)
   clear c5
   obtain rfl := Option.some.inj H
   go_enter Try.func3, Try.ntmps3
   go_wp2_with (first | ((with_reducible refine gate_callee (f := 7) rfl ?_); refine goesL_ (some 10) rfl rfl Try.func7 (by kernel_rfl) rfl #[] rfl (by (try simp only [List.map_toArray, List.map_cons, List.map_nil]); first | done | rfl | (simp only [List.length_drop, List.length_take]; rfl)) ?_; (with_reducible refine (law02_alive.calls k  true _ A3.out).mono ?_); rintro e w6 ⟨rfl, hb⟩; refine ⟨_, rfl, ?_⟩; have n0_ := Aside0.mk (below_step (by repeat (first | (with_reducible first | exact HB.out | apply qb_ | apply qa_ | apply qc_) | exact HB.out)) hb); clear HB; have HB := n0_; clear n0_; (try clear hb); (try clear hb2); (try clear hk); (try clear hi)))
   go_ret
   exact ⟨by first | rfl | (simp [errW_none, errW_some] <;> rfl) | (simp [*, errW_none, errW_some] <;> rfl), by repeat (first | (with_reducible first | exact HB.out | apply qb_ | apply qa_ | apply qc_) | exact HB.out)⟩
  ·rw [if_neg c5] at H
   have c5b0 : decide (3000 < (l0.length : Int)) = false := decide_eq_false c5
   have c5b1 : decide (3000 < l0.length) = false := decide_eq_false (by omega)
   clear c5
   obtain ⟨y102, hy102⟩ : ∃ y_ : List Int, y_ = (([] : List Int)) := ⟨_, rfl⟩
   replace H : (if y102.length + l0.length < 140737488355328 then ((some (y102 ++ l0 : List Int)).bind fun y105 => ((seal_Open.f k y105).bind fun bt108 => ((ref02_Open.f k l0).bind fun bt112 => ((seal_Sum.f k y105).bind fun t116 => ((ref02_Sum.f k l0).bind fun t117 => (if t116 = t117 then ((seal_Seal.f k y105).bind fun t118 => ((ref02_Seal.f k l0).bind fun t121 => ((ref01_Same.f t118 t121).bind fun t124 => (if t124 = true then ((ref01_Same.f bt108.1 bt112.1).bind fun t125 => (if t125 = true then (if bt108.2 = bt112.2 then ((seal_Turn.f y105 a1).bind fun t126 => ((ref02_Turn.f l0 a1).bind fun t129 => ((ref01_Same.f t126 t129).bind fun t132 => (if t132 = true then ((ref01_Same.f y105 l0).bind fun t133 => (some t133)) else (some false))))) else (some false)) else (some false))) else (some false))))) else (some false))))))) else (none)) = some r := by first | (rw [hy102]; with_reducible exact H) | (have H2_ := (Option.bind_some _ _).symm.trans H; rw [hy102]; with_reducible exact H2_) | (have H2_ := (Option.bind_some _ _).symm.trans H; with_reducible exact H2_) | with_reducible exact H | (rw [hy102]; exact H) | exact H
   have Ny102 := Aside0.mk hy102
   clear hy102
   by_cases c7 : y102.length + l0.length < 140737488355328
   ·rw [if_pos c7] at H
    have LMc7 := Aside0.mk c7
    clear c7
    obtain ⟨y105, hy105⟩ : ∃ y_ : List Int, y_ = (y102 ++ l0) := ⟨_, rfl⟩
    replace H : ((seal_Open.f k y105).bind fun bt108 => ((ref02_Open.f k l0).bind fun bt112 => ((seal_Sum.f k y105).bind fun t116 => ((ref02_Sum.f k l0).bind fun t117 => (if t116 = t117 then ((seal_Seal.f k y105).bind fun t118 => ((ref02_Seal.f k l0).bind fun t121 => ((ref01_Same.f t118 t121).bind fun t124 => (if t124 = true then ((ref01_Same.f bt108.1 bt112.1).bind fun t125 => (if t125 = true then (if bt108.2 = bt112.2 then ((seal_Turn.f y105 a1).bind fun t126 => ((ref02_Turn.f l0 a1).bind fun t129 => ((ref01_Same.f t126 t129).bind fun t132 => (if t132 = true then ((ref01_Same.f y105 l0).bind fun t133 => (some t133)) else (some false))))) else (some false)) else (some false))) else (some false))))) else (some false)))))) = some r := by first | (rw [hy105]; with_reducible exact H) | (have H2_ := (Option.bind_some _ _).symm.trans H; rw [hy105]; with_reducible exact H2_) | (have H2_ := (Option.bind_some _ _).symm.trans H; with_reducible exact H2_) | with_reducible exact H | (rw [hy105]; exact H) | exact H
    have Ny105 := Aside0.mk hy105
    clear hy105
    replace H := ob_ H
    obtain ⟨⟨t108, t111⟩, A80, H⟩ := H
    replace H : ((ref02_Open.f k l0).bind fun bt112 => ((seal_Sum.f k y105).bind fun t116 => ((ref02_Sum.f k l0).bind fun t117 => (if t116 = t117 then ((seal_Seal.f k y105).bind fun t118 => ((ref02_Seal.f k l0).bind fun t121 => ((ref01_Same.f t118 t121).bind fun t124 => (if t124 = true then ((ref01_Same.f t108 bt112.1).bind fun t125 => (if t125 = true then (if t111 = bt112.2 then ((seal_Turn.f y105 a1).bind fun t126 => ((ref02_Turn.f l0 a1).bind fun t129 => ((ref01_Same.f t126 t129).bind fun t132 => (if t132 = true then ((ref01_Same.f y105 l0).bind fun t133 => (some t133)) else (some false))))) else (some false)) else (some false))) else (some false))))) else (some false))))) = some r := H
    have A8 := Aside0.mk A80
    clear A80
    replace H := ob_ H
    obtain ⟨⟨t112, t115⟩, A90, H⟩ := H
    replace H : ((seal_Sum.f k y105).bind fun t116 => ((ref02_Sum.f k l0).bind fun t117 => (if t116 = t117 then ((seal_Seal.f k y105).bind fun t118 => ((ref02_Seal.f k l0).bind fun t121 => ((ref01_Same.f t118 t121).bind fun t124 => (if t124 = true then ((ref01_Same.f t108 t112).bind fun t125 => (if t125 = true then (if t111 = t115 then ((seal_Turn.f y105 a1).bind fun t126 => ((ref02_Turn.f l0 a1).bind fun t129 => ((ref01_Same.f t126 t129).bind fun t132 => (if t132 = true then ((ref01_Same.f y105 l0).bind fun t133 => (some t133)) else (some false))))) else (some false)) else (some false))) else (some false))))) else (some false)))) = some r := H
    have A9 := Aside0.mk A90
    clear A90
    replace H := ob_ H
    obtain ⟨t116, A100, H⟩ := H
    replace H : ((ref02_Sum.f k l0).bind fun t117 => (if t116 = t117 then ((seal_Seal.f k y105).bind fun t118 => ((ref02_Seal.f k l0).bind fun t121 => ((ref01_Same.f t118 t121).bind fun t124 => (if t124 = true then ((ref01_Same.f t108 t112).bind fun t125 => (if t125 = true then (if t111 = t115 then ((seal_Turn.f y105 a1).bind fun t126 => ((ref02_Turn.f l0 a1).bind fun t129 => ((ref01_Same.f t126 t129).bind fun t132 => (if t132 = true then ((ref01_Same.f y105 l0).bind fun t133 => (some t133)) else (some false))))) else (some false)) else (some false))) else (some false))))) else (some false))) = some r := H
    have A10 := Aside0.mk A100
    clear A100
    replace H := ob_ H
    obtain ⟨t117, A110, H⟩ := H
    replace H : (if t116 = t117 then ((seal_Seal.f k y105).bind fun t118 => ((ref02_Seal.f k l0).bind fun t121 => ((ref01_Same.f t118 t121).bind fun t124 => (if t124 = true then ((ref01_Same.f t108 t112).bind fun t125 => (if t125 = true then (if t111 = t115 then ((seal_Turn.f y105 a1).bind fun t126 => ((ref02_Turn.f l0 a1).bind fun t129 => ((ref01_Same.f t126 t129).bind fun t132 => (if t132 = true then ((ref01_Same.f y105 l0).bind fun t133 => (some t133)) else (some false))))) else (some false)) else (some false))) else (some false))))) else (some false)) = some r := H
    have A11 := Aside0.mk A110
    clear A110
    by_cases c12 : t116 = t117
    ·rw [if_pos c12] at H
     have c12b0 : (t116 == t117) = true := beq_iff_eq.mpr c12
     have c12b1 : (t116 != t117) = false := bne_eq_false_iff_eq.mpr c12
     clear c12
     replace H := ob_ H
     obtain ⟨t118, A130, H⟩ := H
     replace H : ((ref02_Seal.f k l0).bind fun t121 => ((ref01_Same.f t118 t121).bind fun t124 => (if t124 = true then ((ref01_Same.f t108 t112).bind fun t125 => (if t125 = true then (if t111 = t115 then ((seal_Turn.f y105 a1).bind fun t126 => ((ref02_Turn.f l0 a1).bind fun t129 => ((ref01_Same.f t126 t129).bind fun t132 => (if t132 = true then ((ref01_Same.f y105 l0).bind fun t133 => (some t133)) else (some false))))) else (some false)) else (some false))) else (some false)))) = some r := H
     have A13 := Aside0.mk A130
     clear A130
     replace H := ob_ H
     obtain ⟨t121, A140, H⟩ := H
     replace H : ((ref01_Same.f t118 t121).bind fun t124 => (if t124 = true then ((ref01_Same.f t108 t112).bind fun t125 => (if t125 = true then (if t111 = t115 then ((seal_Turn.f y105 a1).bind fun t126 => ((ref02_Turn.f l0 a1).bind fun t129 => ((ref01_Same.f t126 t129).bind fun t132 => (if t132 = true then ((ref01_Same.f y105 l0).bind fun t133 => (some t133)) else (some false))))) else (some false)) else (some false))) else (some false))) = some r := H
     have A14 := Aside0.mk A140
     clear A140
     replace H := ob_ H
     obtain ⟨t124, A150, H⟩ := H
     replace H : (if t124 = true then ((ref01_Same.f t108 t112).bind fun t125 => (if t125 = true then (if t111 = t115 then ((seal_Turn.f y105 a1).bind fun t126 => ((ref02_Turn.f l0 a1).bind fun t129 => ((ref01_Same.f t126 t129).bind fun t132 => (if t132 = true then ((ref01_Same.f y105 l0).bind fun t133 => (some t133)) else (some false))))) else (some false)) else (some false))) else (some false)) = some r := H
     have A15 := Aside0.mk A150
     clear A150
     by_cases c16 : t124 = true
     ·subst c16
      have H1 : ((ref01_Same.f t108 t112).bind fun t125 => (if t125 = true then (if t111 = t115 then ((seal_Turn.f y105 a1).bind fun t126 => ((ref02_Turn.f l0 a1).bind fun t129 => ((ref01_Same.f t126 t129).bind fun t132 => (if t132 = true then ((ref01_Same.f y105 l0).bind fun t133 => (some t133)) else (some false))))) else (some false)) else (some false))) = some r := by rw [if_pos rfl] at H; exact H
      clear H
      have H := H1
      clear H1
      replace H := ob_ H
      obtain ⟨t125, A170, H⟩ := H
      replace H : (if t125 = true then (if t111 = t115 then ((seal_Turn.f y105 a1).bind fun t126 => ((ref02_Turn.f l0 a1).bind fun t129 => ((ref01_Same.f t126 t129).bind fun t132 => (if t132 = true then ((ref01_Same.f y105 l0).bind fun t133 => (some t133)) else (some false))))) else (some false)) else (some false)) = some r := H
      have A17 := Aside0.mk A170
      clear A170
      by_cases c18 : t125 = true
      ·subst c18
       have H1 : (if t111 = t115 then ((seal_Turn.f y105 a1).bind fun t126 => ((ref02_Turn.f l0 a1).bind fun t129 => ((ref01_Same.f t126 t129).bind fun t132 => (if t132 = true then ((ref01_Same.f y105 l0).bind fun t133 => (some t133)) else (some false))))) else (some false)) = some r := by rw [if_pos rfl] at H; exact H
       clear H
       have H := H1
       clear H1
       by_cases c19 : t111 = t115
       ·rw [if_pos c19] at H
        have c19b0 : (t111 == t115) = true := beq_iff_eq.mpr c19
        have c19b1 : (t111 != t115) = false := bne_eq_false_iff_eq.mpr c19
        clear c19
        replace H := ob_ H
        obtain ⟨t126, A200, H⟩ := H
        replace H : ((ref02_Turn.f l0 a1).bind fun t129 => ((ref01_Same.f t126 t129).bind fun t132 => (if t132 = true then ((ref01_Same.f y105 l0).bind fun t133 => (some t133)) else (some false)))) = some r := H
        have A20 := Aside0.mk A200
        clear A200
        replace H := ob_ H
        obtain ⟨t129, A210, H⟩ := H
        replace H : ((ref01_Same.f t126 t129).bind fun t132 => (if t132 = true then ((ref01_Same.f y105 l0).bind fun t133 => (some t133)) else (some false))) = some r := H
        have A21 := Aside0.mk A210
        clear A210
        replace H := ob_ H
        obtain ⟨t132, A220, H⟩ := H
        replace H : (if t132 = true then ((ref01_Same.f y105 l0).bind fun t133 => (some t133)) else (some false)) = some r := H
        have A22 := Aside0.mk A220
        clear A220
        by_cases c23 : t132 = true
        ·subst c23
         have H1 : ((ref01_Same.f y105 l0).bind fun t133 => (some t133)) = some r := by rw [if_pos rfl] at H; exact H
         clear H
         have H := H1
         clear H1
         replace H := ob_ H
         obtain ⟨t133, A240, H⟩ := H
         replace H : (some t133) = some r := H
         have A24 := Aside0.mk A240
         clear A240
         obtain rfl := Option.some.inj H
         go_enter Try.func3, Try.ntmps3
         go_wp2_with (first | ((with_reducible refine gate_callee (f := 7) rfl ?_); refine goesL_ (some 10) rfl rfl Try.func7 (by kernel_rfl) rfl #[] rfl (by (try simp only [List.map_toArray, List.map_cons, List.map_nil]); first | done | rfl | (simp only [List.length_drop, List.length_take]; rfl)) ?_; (with_reducible refine (law02_alive.calls k  true _ A3.out).mono ?_); rintro e w25 ⟨rfl, hb⟩; refine ⟨_, rfl, ?_⟩; have n0_ := Aside0.mk (below_step (by repeat (first | (with_reducible first | exact HB.out | apply qb_ | apply qa_ | apply qc_) | exact HB.out)) hb); clear HB; have HB := n0_; clear n0_; (try clear hb); (try clear hb2); (try clear hk); (try clear hi)) | ((with_reducible refine gate_dst (N := 15) rfl ?_); refine Kd.R_lit (Kd.int .u8) _ 5 ?hg (N := 15) ?hd (xs := ([] : List Int)) (inner := []) (ok := fun _ => True) (okp := fun _ => True) ?hr ?hp (fun _ hk => hk) trivial (Below.refl _ _) (Nat.le_refl _) (by simp) ?_; (case hd => rfl); (case hg => rfl); (case hr => first | (go_simp; done) | (go_simp; rfl)); (case hp => exact (Reps.none _ _)); intro v103 w26 ho27 hb hg_ hnew_; clear hg_ hnew_; (first | rw [← Ny102.out] at ho27 | (simp only [Int.reduceToNat] at ho27; rw [← Ny102.out] at ho27)); have n0_ := Aside0.mk (Kd.R_lower ho27 (below_size (by repeat (first | (with_reducible first | exact HB.out | apply qb_ | apply qa_ | apply qc_) | exact HB.out)))); have n1_ := Aside0.mk (below_step (by repeat (first | (with_reducible first | exact HB.out | apply qb_ | apply qa_ | apply qc_) | exact HB.out)) hb); clear HB; have HO104 := n0_; have HB := n1_; clear n0_ n1_; clear hb ho27) | ((with_reducible refine gate_builtin (b := .append) (xs := #[.tmp 15, .tmp 16]) rfl ?_); at_builtin; refine Kd.R_append_rows (Kd.int .u8) (w0 := w) w.heap.size rfl (.tmp 15) (.tmp 16) 22 5 (.int .u8 0) 1 rfl Try.underlying22 info5 rfl (by decide) (by omega) v103 y102 l0 _ _ _ (fun _ => True) (fun _ => False) rfl rfl ?aO ?aR (fun _ _ h => h) (fun _ h => h.elim) ?aF ?aB ?aS ?aL ?_; (case aR => repeat (first | exact (Kd.C_below HR0.out HB.out) | (with_reducible refine Kd.C_alloc ?_ _) | (with_reducible refine Kd.C_drewN ?_ _) | (with_reducible refine Kd.C_drew ?_))); (case aB => exact (by repeat (first | (with_reducible first | exact HB.out | apply qb_ | apply qa_ | apply qc_) | exact HB.out))); (case aF => exact (fun _ _ => trivial)); (case aO => exact (by (with_reducible repeat (first | apply Kd.R_alloc | apply Kd.R_drewN | apply Kd.R_drew)); exact HO104.out)); (case aS => exact (below_size (by repeat (first | (with_reducible first | exact HB.out | apply qb_ | apply qa_ | apply qc_) | exact HB.out)))); (case aL => have := LMc7.out; omega); intro v106 w28 ho hb hg hat; rw [← Ny105.out] at ho; have n0_ := Aside0.mk (hb); have n1_ := Aside0.mk (ho); clear HB; clear HO104; have HB := n0_; have HO107 := n1_; clear n0_ n1_; clear ho hb hg hat; obtain ⟨Ao29, co29, eo29⟩ := Kd.R_slice HO107.out; subst eo29) | ((with_reducible refine gate_callee (f := 8) rfl ?_); refine goesL_ (some 20) rfl rfl Try.func8 (by kernel_rfl) rfl #[.slice Ao29 y105.length co29] rfl (by (try simp only [List.map_toArray, List.map_cons, List.map_nil]); first | done | rfl | (simp only [List.length_drop, List.length_take]; rfl)) ?_; (with_reducible refine (seal_Open.calls k (fun k_ => some k_ = (.slice Ao29 y105.length co29 : Value).ownBlock) _ _ y105 t108 t111 _ ?side1 A8.out).mono ?_); (case side1 => exact Kd.R_V (Kd.R_tight rfl (HO107.out))); rintro e w30 ⟨v109, rfl, ho0, hb⟩; refine ⟨_, rfl, ?_⟩; have n0_ := Aside0.mk (Kd.R_below (by (with_reducible repeat (first | apply Kd.R_alloc | apply Kd.R_drewN | apply Kd.R_drew)); exact HO107.out) hb); have n1_ := Aside0.mk (Kd.V_lower (Kd.V_mono (ok' := fun k_ => True) ho0 (fun k_ hk_ => trivial)) (below_size (by repeat (first | (with_reducible first | exact HB.out | apply qb_ | apply qa_ | apply qc_) | exact HB.out)))); have n2_ := Aside0.mk (below_step (by repeat (first | (with_reducible first | exact HB.out | apply qb_ | apply qa_ | apply qc_) | exact HB.out)) hb); clear HO107; clear HB; have HO107 := n0_; have HO110 := n1_; have HB := n2_; clear n0_ n1_ n2_; (try clear hb); (try clear hb2); (try clear hk); (try clear hi); (try clear ho0)) | ((with_reducible refine gate_callee (f := 9) rfl ?_); refine goesL_ (some 25) rfl rfl Try.func9 (by kernel_rfl) rfl #[.slice A0 l0.length c0] rfl (by (try simp only [List.map_toArray, List.map_cons, List.map_nil]); first | done | rfl | (simp only [List.length_drop, List.length_take]; rfl)) ?_; (with_reducible refine (ref02_Open.calls k (fun k_ => k_ < w.heap.size) _ _ l0 t112 t115 _ ?side1 A9.out).mono ?_); (case side1 => exact Kd.V_mk HC0.out (Kd.F_below (Kd.C_F (Kd.heap_int .u8) HR0.out) (by repeat (first | (with_reducible first | exact HB.out | apply qb_ | apply qa_ | apply qc_) | exact HB.out)))); rintro e w31 ⟨v113, rfl, ho0, hb⟩; refine ⟨_, rfl, ?_⟩; have n0_ := Aside0.mk (Kd.R_below (by (with_reducible repeat (first | apply Kd.R_alloc | apply Kd.R_drewN | apply Kd.R_drew)); exact HO107.out) hb); have n1_ := Aside0.mk (Kd.V_below (by (with_reducible repeat (first | apply Kd.V_alloc | apply Kd.V_drewN | apply Kd.V_drew)); exact HO110.out) hb); have n2_ := Aside0.mk (Kd.V_lower (Kd.V_mono (ok' := fun k_ => some k_ ≠ (.slice Ao29 y105.length co29 : Value).ownBlock) ho0 (fun k_ hk_ => Or.elim hk_ (fun hs_ => fun e_ => Nat.not_le.2 hs_ (Kd.R_base HO107.out k_ e_.symm)) (fun hn_ => (Kd.fresh' (Kd.R_lt (by (with_reducible repeat (first | apply Kd.R_alloc | apply Kd.R_drewN | apply Kd.R_drew)); exact HO107.out)) k_ hn_)))) (below_size (by repeat (first | (with_reducible first | exact HB.out | apply qb_ | apply qa_ | apply qc_) | exact HB.out)))); have n3_ := Aside0.mk (below_step (by repeat (first | (with_reducible first | exact HB.out | apply qb_ | apply qa_ | apply qc_) | exact HB.out)) hb); clear HO107; clear HO110; clear HB; have HO107 := n0_; have HO110 := n1_; have HO114 := n2_; have HB := n3_; clear n0_ n1_ n2_ n3_; (try clear hb); (try clear hb2); (try clear hk); (try clear hi); (try clear ho0)) | ((with_reducible refine gate_callee (f := 10) rfl ?_); refine goesL_ (some 29) rfl rfl Try.func10 (by kernel_rfl) rfl #[.slice Ao29 y105.length co29] rfl (by (try simp only [List.map_toArray, List.map_cons, List.map_nil]); first | done | rfl | (simp only [List.length_drop, List.length_take]; rfl)) ?_; (with_reducible refine (seal_Sum.calls k _ _ y105 t116 _ ?side1 ?side2 A10.out).mono ?_); (case side1 => repeat (first | exact (Kd.R_reads' HO107.out).2.2 | (with_reducible refine Kd.C_alloc ?_ _) | (with_reducible refine Kd.C_drewN ?_ _) | (with_reducible refine Kd.C_drew ?_))); (case side2 => exact (Kd.R_reads' HO107.out).2.1); rintro e w' ⟨rfl, ⟨nd, rfl⟩⟩; refine ⟨_, rfl, ?_⟩) | ((with_reducible refine gate_callee (f := 11) rfl ?_); refine goesL_ (some 31) rfl rfl Try.func11 (by kernel_rfl) rfl #[.slice A0 l0.length c0] rfl (by (try simp only [List.map_toArray, List.map_cons, List.map_nil]); first | done | rfl | (simp only [List.length_drop, List.length_take]; rfl)) ?_; (with_reducible refine (ref02_Sum.calls k _ _ l0 t117 _ ?side1 ?side2 A11.out).mono ?_); (case side1 => repeat (first | exact (Kd.C_below HR0.out (by repeat (first | (with_reducible first | exact HB.out | apply qb_ | apply qa_ | apply qc_) | exact HB.out))) | (with_reducible refine Kd.C_alloc ?_ _) | (with_reducible refine Kd.C_drewN ?_ _) | (with_reducible refine Kd.C_drew ?_))); (case side2 => exact HC0.out); rintro e w' ⟨rfl, ⟨nd, rfl⟩⟩; refine ⟨_, rfl, ?_⟩) | (go_at_call 13; (with_reducible refine (seal_Seal.calls k (fun k_ => some k_ = (.slice Ao29 y105.length co29 : Value).ownBlock) _ _ y105 t118 _ ?side1 A13.out).mono ?_); (case side1 => exact Kd.R_V (Kd.R_tight rfl (HO107.out))); rintro e w32 ⟨v119, rfl, ho0, hb⟩; have n0_ := Aside0.mk (Kd.R_elder' (by (with_reducible repeat (first | apply Kd.R_alloc | apply Kd.R_drewN | apply Kd.R_drew)); exact HO107.out) (Kd.R_base ho0) hb); have n1_ := Aside0.mk (Kd.V_elder' (by (with_reducible repeat (first | apply Kd.V_alloc | apply Kd.V_drewN | apply Kd.V_drew)); exact HO110.out) (Kd.R_base ho0) hb); have n2_ := Aside0.mk (Kd.V_elder' (by (with_reducible repeat (first | apply Kd.V_alloc | apply Kd.V_drewN | apply Kd.V_drew)); exact HO114.out) (Kd.R_base ho0) hb); have n3_ := Aside0.mk (Kd.R_lower (Kd.R_new' (Kd.R_mono (ok' := fun k_ => True) ho0 (fun _ hk_ => trivial)) (Kd.R_lt (by (with_reducible repeat (first | apply Kd.R_alloc | apply Kd.R_drewN | apply Kd.R_drew)); exact HO107.out))) (below_size (by repeat (first | (with_reducible first | exact HB.out | apply qb_ | apply qa_ | apply qc_) | exact HB.out)))); have n4_ := Aside0.mk (below_step (by repeat (first | (with_reducible first | exact HB.out | apply qb_ | apply qa_ | apply qc_) | exact HB.out)) hb); clear HO107; clear HO110; clear HO114; clear HB; have HO107 := n0_; have HO110 := n1_; have HO114 := n2_; have HO120 := n3_; have HB := n4_; clear n0_ n1_ n2_ n3_ n4_; (try clear hb); (try clear hb2); (try clear hk); (try clear hi); (try clear ho0)) | (go_at_call 14; (with_reducible refine (ref02_Seal.calls k _ _ l0 t121 _ ?side1 ?side2 A14.out).mono ?_); (case side1 => repeat (first | exact (Kd.C_below HR0.out HB.out) | (with_reducible refine Kd.C_alloc ?_ _) | (with_reducible refine Kd.C_drewN ?_ _) | (with_reducible refine Kd.C_drew ?_))); (case side2 => exact HC0.out); rintro e w33 ⟨v122, rfl, ho0, hb⟩; have n0_ := Aside0.mk (Kd.R_elder' (by (with_reducible repeat (first | apply Kd.R_alloc | apply Kd.R_drewN | apply Kd.R_drew)); exact HO107.out) (Kd.R_base ho0) hb); have n1_ := Aside0.mk (Kd.V_elder' (by (with_reducible repeat (first | apply Kd.V_alloc | apply Kd.V_drewN | apply Kd.V_drew)); exact HO110.out) (Kd.R_base ho0) hb); have n2_ := Aside0.mk (Kd.V_elder' (by (with_reducible repeat (first | apply Kd.V_alloc | apply Kd.V_drewN | apply Kd.V_drew)); exact HO114.out) (Kd.R_base ho0) hb); have n3_ := Aside0.mk (Kd.R_elder' (by (with_reducible repeat (first | apply Kd.R_alloc | apply Kd.R_drewN | apply Kd.R_drew)); exact HO120.out) (Kd.R_base ho0) hb); have n4_ := Aside0.mk (Kd.R_lower (Kd.R_new' (Kd.R_new' ho0 (Kd.R_lt (by (with_reducible repeat (first | apply Kd.R_alloc | apply Kd.R_drewN | apply Kd.R_drew)); exact HO107.out))) (Kd.R_lt (by (with_reducible repeat (first | apply Kd.R_alloc | apply Kd.R_drewN | apply Kd.R_drew)); exact HO120.out))) (below_size (by repeat (first | (with_reducible first | exact HB.out | apply qb_ | apply qa_ | apply qc_) | exact HB.out)))); have n5_ := Aside0.mk (below_step (by repeat (first | (with_reducible first | exact HB.out | apply qb_ | apply qa_ | apply qc_) | exact HB.out)) hb); clear HO107; clear HO110; clear HO114; clear HO120; clear HB; have HO107 := n0_; have HO110 := n1_; have HO114 := n2_; have HO120 := n3_; have HO123 := n4_; have HB := n5_; clear n0_ n1_ n2_ n3_ n4_ n5_; (try clear hb); (try clear hb2); (try clear hk); (try clear hi); (try clear ho0); obtain ⟨Ao34, co34, eo34⟩ := Kd.R_slice HO120.out; subst eo34; obtain ⟨Ao35, co35, eo35⟩ := Kd.R_slice HO123.out; subst eo35) | (go_at_call 12; (with_reducible refine (ref01_Same.calls _ _ t118 _ _ t121 true _ ?side1 ?side2 ?side3 ?side4 A15.out).mono ?_); (case side1 => repeat (first | exact (Kd.R_reads' HO120.out).2.2 | (with_reducible refine Kd.C_alloc ?_ _) | (with_reducible refine Kd.C_drewN ?_ _) | (with_reducible refine Kd.C_drew ?_))); (case side2 => exact (Kd.R_reads' HO120.out).2.1); (case side3 => repeat (first | exact (Kd.R_reads' HO123.out).2.2 | (with_reducible refine Kd.C_alloc ?_ _) | (with_reducible refine Kd.C_drewN ?_ _) | (with_reducible refine Kd.C_drew ?_))); (case side4 => exact (Kd.R_reads' HO123.out).2.1); rintro e w' ⟨rfl, ⟨nd, rfl⟩⟩; obtain ⟨Ao36, co36, eo36⟩ := Kd.V_slice HO110.out; subst eo36; obtain ⟨Ao37, co37, eo37⟩ := Kd.V_slice HO114.out; subst eo37) | (go_at_call 12; (with_reducible refine (ref01_Same.calls _ _ t108 _ _ t112 true _ ?side1 ?side2 ?side3 ?side4 A17.out).mono ?_); (case side1 => repeat (first | exact (Kd.V_reads' HO110.out).2.2 | (with_reducible refine Kd.C_alloc ?_ _) | (with_reducible refine Kd.C_drewN ?_ _) | (with_reducible refine Kd.C_drew ?_))); (case side2 => exact (Kd.V_reads' HO110.out).2.1); (case side3 => repeat (first | exact (Kd.V_reads' HO114.out).2.2 | (with_reducible refine Kd.C_alloc ?_ _) | (with_reducible refine Kd.C_drewN ?_ _) | (with_reducible refine Kd.C_drew ?_))); (case side4 => exact (Kd.V_reads' HO114.out).2.1); rintro e w' ⟨rfl, ⟨nd, rfl⟩⟩) | (go_at_call 15; (with_reducible refine (seal_Turn.calls _ _ y105 a1 t126 _ ?side1 ?side2 A20.out).mono ?_); (case side1 => repeat (first | exact (Kd.R_reads' HO107.out).2.2 | (with_reducible refine Kd.C_alloc ?_ _) | (with_reducible refine Kd.C_drewN ?_ _) | (with_reducible refine Kd.C_drew ?_))); (case side2 => exact (Kd.R_reads' HO107.out).2.1); rintro e w38 ⟨v127, rfl, ho0, hb⟩; have n0_ := Aside0.mk (Kd.R_elder' (by (with_reducible repeat (first | apply Kd.R_alloc | apply Kd.R_drewN | apply Kd.R_drew)); exact HO107.out) (Kd.R_base ho0) hb); have n1_ := Aside0.mk (Kd.V_elder' (by (with_reducible repeat (first | apply Kd.V_alloc | apply Kd.V_drewN | apply Kd.V_drew)); exact HO110.out) (Kd.R_base ho0) hb); have n2_ := Aside0.mk (Kd.V_elder' (by (with_reducible repeat (first | apply Kd.V_alloc | apply Kd.V_drewN | apply Kd.V_drew)); exact HO114.out) (Kd.R_base ho0) hb); have n3_ := Aside0.mk (Kd.R_elder' (by (with_reducible repeat (first | apply Kd.R_alloc | apply Kd.R_drewN | apply Kd.R_drew)); exact HO120.out) (Kd.R_base ho0) hb); have n4_ := Aside0.mk (Kd.R_elder' (by (with_reducible repeat (first | apply Kd.R_alloc | apply Kd.R_drewN | apply Kd.R_drew)); exact HO123.out) (Kd.R_base ho0) hb); have n5_ := Aside0.mk (Kd.R_lower (Kd.R_new' (Kd.R_new' (Kd.R_new' ho0 (Kd.R_lt (by (with_reducible repeat (first | apply Kd.R_alloc | apply Kd.R_drewN | apply Kd.R_drew)); exact HO107.out))) (Kd.R_lt (by (with_reducible repeat (first | apply Kd.R_alloc | apply Kd.R_drewN | apply Kd.R_drew)); exact HO120.out))) (Kd.R_lt (by (with_reducible repeat (first | apply Kd.R_alloc | apply Kd.R_drewN | apply Kd.R_drew)); exact HO123.out))) (below_size (by repeat (first | (with_reducible first | exact HB.out | apply qb_ | apply qa_ | apply qc_) | exact HB.out)))); have n6_ := Aside0.mk (below_step (by repeat (first | (with_reducible first | exact HB.out | apply qb_ | apply qa_ | apply qc_) | exact HB.out)) hb); clear HO107; clear HO110; clear HO114; clear HO120; clear HO123; clear HB; have HO107 := n0_; have HO110 := n1_; have HO114 := n2_; have HO120 := n3_; have HO123 := n4_; have HO128 := n5_; have HB := n6_; clear n0_ n1_ n2_ n3_ n4_ n5_ n6_; (try clear hb); (try clear hb2); (try clear hk); (try clear hi); (try clear ho0)) | (go_at_call 16; (with_reducible refine (ref02_Turn.calls _ _ l0 a1 t129 _ ?side1 ?side2 A21.out).mono ?_); (case side1 => repeat (first | exact (Kd.C_below HR0.out HB.out) | (with_reducible refine Kd.C_alloc ?_ _) | (with_reducible refine Kd.C_drewN ?_ _) | (with_reducible refine Kd.C_drew ?_))); (case side2 => exact HC0.out); rintro e w39 ⟨v130, rfl, ho0, hb⟩; have n0_ := Aside0.mk (Kd.R_elder' (by (with_reducible repeat (first | apply Kd.R_alloc | apply Kd.R_drewN | apply Kd.R_drew)); exact HO107.out) (Kd.R_base ho0) hb); have n1_ := Aside0.mk (Kd.V_elder' (by (with_reducible repeat (first | apply Kd.V_alloc | apply Kd.V_drewN | apply Kd.V_drew)); exact HO110.out) (Kd.R_base ho0) hb); have n2_ := Aside0.mk (Kd.V_elder' (by (with_reducible repeat (first | apply Kd.V_alloc | apply Kd.V_drewN | apply Kd.V_drew)); exact HO114.out) (Kd.R_base ho0) hb); have n3_ := Aside0.mk (Kd.R_elder' (by (with_reducible repeat (first | apply Kd.R_alloc | apply Kd.R_drewN | apply Kd.R_drew)); exact HO120.out) (Kd.R_base ho0) hb); have n4_ := Aside0.mk (Kd.R_elder' (by (with_reducible repeat (first | apply Kd.R_alloc | apply Kd.R_drewN | apply Kd.R_drew)); exact HO123.out) (Kd.R_base ho0) hb); have n5_ := Aside0.mk (Kd.R_elder' (by (with_reducible repeat (first | apply Kd.R_alloc | apply Kd.R_drewN | apply Kd.R_drew)); exact HO128.out) (Kd.R_base ho0) hb); have n6_ := Aside0.mk (Kd.R_lower (Kd.R_new' (Kd.R_new' (Kd.R_new' (Kd.R_new' ho0 (Kd.R_lt (by (with_reducible repeat (first | apply Kd.R_alloc | apply Kd.R_drewN | apply Kd.R_drew)); exact HO107.out))) (Kd.R_lt (by (with_reducible repeat (first | apply Kd.R_alloc | apply Kd.R_drewN | apply Kd.R_drew)); exact HO120.out))) (Kd.R_lt (by (with_reducible repeat (first | apply Kd.R_alloc | apply Kd.R_drewN | apply Kd.R_drew)); exact HO123.out))) (Kd.R_lt (by (with_reducible repeat (first | apply Kd.R_alloc | apply Kd.R_drewN | apply Kd.R_drew)); exact HO128.out))) (below_size (by repeat (first | (with_reducible first | exact HB.out | apply qb_ | apply qa_ | apply qc_) | exact HB.out)))); have n7_ := Aside0.mk (below_step (by repeat (first | (with_reducible first | exact HB.out | apply qb_ | apply qa_ | apply qc_) | exact HB.out)) hb); clear HO107; clear HO110; clear HO114; clear HO120; clear HO123; clear HO128; clear HB; have HO107 := n0_; have HO110 := n1_; have HO114 := n2_; have HO120 := n3_; have HO123 := n4_; have HO128 := n5_; have HO131 := n6_; have HB := n7_; clear n0_ n1_ n2_ n3_ n4_ n5_ n6_ n7_; (try clear hb); (try clear hb2); (try clear hk); (try clear hi); (try clear ho0); obtain ⟨Ao40, co40, eo40⟩ := Kd.R_slice HO128.out; subst eo40; obtain ⟨Ao41, co41, eo41⟩ := Kd.R_slice HO131.out; subst eo41) | (go_at_call 12; (with_reducible refine (ref01_Same.calls _ _ t126 _ _ t129 true _ ?side1 ?side2 ?side3 ?side4 A22.out).mono ?_); (case side1 => repeat (first | exact (Kd.R_reads' HO128.out).2.2 | (with_reducible refine Kd.C_alloc ?_ _) | (with_reducible refine Kd.C_drewN ?_ _) | (with_reducible refine Kd.C_drew ?_))); (case side2 => exact (Kd.R_reads' HO128.out).2.1); (case side3 => repeat (first | exact (Kd.R_reads' HO131.out).2.2 | (with_reducible refine Kd.C_alloc ?_ _) | (with_reducible refine Kd.C_drewN ?_ _) | (with_reducible refine Kd.C_drew ?_))); (case side4 => exact (Kd.R_reads' HO131.out).2.1); rintro e w' ⟨rfl, ⟨nd, rfl⟩⟩) | (go_at_call 12; (with_reducible refine (ref01_Same.calls _ _ y105 _ _ l0 t133 _ ?side1 ?side2 ?side3 ?side4 A24.out).mono ?_); (case side1 => repeat (first | exact (Kd.R_reads' HO107.out).2.2 | (with_reducible refine Kd.C_alloc ?_ _) | (with_reducible refine Kd.C_drewN ?_ _) | (with_reducible refine Kd.C_drew ?_))); (case side2 => exact (Kd.R_reads' HO107.out).2.1); (case side3 => repeat (first | exact (Kd.C_below HR0.out (by repeat (first | (with_reducible first | exact HB.out | apply qb_ | apply qa_ | apply qc_) | exact HB.out))) | (with_reducible refine Kd.C_alloc ?_ _) | (with_reducible refine Kd.C_drewN ?_ _) | (with_reducible refine Kd.C_drew ?_))); (case side4 => exact HC0.out); rintro e w' ⟨rfl, ⟨nd, rfl⟩⟩))
         go_ret
         exact ⟨by first | rfl | (simp [errW_none, errW_some] <;> rfl) | (simp [*, errW_none, errW_some] <;> rfl), by repeat (first | (with_reducible first | exact HB.out | apply qb_ | apply qa_ | apply qc_) | exact HB.out)⟩
        ·rw [if_neg c23] at H
         exact absurd ((Option.some.inj H).trans HRT.out) (by decide)
       ·rw [if_neg c19] at H
        exact absurd ((Option.some.inj H).trans HRT.out) (by decide)
      ·rw [if_neg c18] at H
       exact absurd ((Option.some.inj H).trans HRT.out) (by decide)
     ·rw [if_neg c16] at H
      exact absurd ((Option.some.inj H).trans HRT.out) (by decide)
    ·rw [if_neg c12] at H
     exact absurd ((Option.some.inj H).trans HRT.out) (by decide)
   ·rw [if_neg c7] at H
    exact absurd H (by simp)
 ·rw [if_neg c4] at H
  exact absurd ((Option.some.inj H).trans HRT.out) (by decide)
/-- THE ONE PURE STATEMENT of law02_SealSums: yours. -/
def law02_SealSums.Pure : Prop := ∀ (l0 : List Int) (a1 : Int), l0.length ≤ maxLen → l0.length * 1 ≤ 140737488351232 → (∀ x ∈ l0, (Lit.int .u8 x).wf = true) → (Lit.int .i64 a1).wf = true → ∃ k, law02_SealSums.f k l0 a1 = some true
theorem law02_SealSums.walk (P : law02_SealSums.Pure) (a0 : Option Addr) (len0 cap0 : Nat) (z0 : List Int) (a1 : Int) (w : World) (w0 : (a0 = none ∧ len0 = 0 ∧ cap0 = 0 ∧ z0 = []) ∨ ∃ x, a0 = some x ∧ len0 ≤ cap0 ∧ cap0 ≤ maxLen ∧ z0.length = cap0 ∧ (∀ i, i < z0.length → w.cell? (x.add i) = some (.int .u8 (z0.getD i 0))) ∧ ∀ n ∈ z0, (Lit.int .u8 n).wf = true) (y0 : len0 * 1 ≤ 140737488351232) (w1 : (Lit.int .i64 a1).wf = true) :
  Calls Try.prog 3 #[.slice a0 len0 cap0, .int .i64 a1] w fun e w' => e = .returned (.bool true) ∧ Below w.heap.size w w' := by
 obtain ⟨l0, rfl, hr0, hm0, hw0, hc0⟩ := ReadsInt.ofRowC w0
 obtain ⟨k, h⟩ := P l0 a1 hm0 y0 hw0 w1
 refine (law02_SealSums.calls k _ _ l0 a1 true w (Kd.C_of_reads (d := (0 : Int)) (h1 := fun _ => rfl) hr0) hc0 h rfl).mono ?_
 rintro e w' ⟨rfl, hd⟩
 exact ⟨rfl, hd⟩
end Go.Proofs.Ytfaiapmckimjeaa.P

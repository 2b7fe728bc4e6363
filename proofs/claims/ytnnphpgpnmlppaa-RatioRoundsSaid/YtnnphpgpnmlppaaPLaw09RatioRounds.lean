/- What this function of the program comes to, and that the machine's call does it: written by a program (wip/tool). No condition. -/
import Derived.Test.YtnnphpgpnmlppaaP0
import Derived.Test.YtnnphpgpnmlppaaPRatioMulDiv
import Derived.Test.YtnnphpgpnmlppaaPRatioCmp
import Derived.Test.YtnnphpgpnmlppaaPLaw09Alive
import Derived.Test.YtnnphpgpnmlppaaHw
namespace Go.Proofs.Ytnnphpgpnmlppaa.P
open Go.RowKit Go.Proofs.YtnnphpgpnmlppaaW.PrintWords Go.Proofs.YtnnphpgpnmlppaaW.PrintLast Go.Proofs.YtnnphpgpnmlppaaW.PrintMore
attribute [local go_sem] max2_int min2_int max_two min_two max_three min_three max_four min_four   -- for this text's walks alone
set_option linter.unusedVariables false
set_option linter.unusedSimpArgs false
/-! ### law09_RatioRounds: function 4 -/
def law09_RatioRounds.f (k : Nat) (a0 : Int) (a1 : Int) (a2 : Int) : Option (Bool) := (law09_alive.f k).bind fun t101 => (if t101 = true then (if a2 = 0 then (some true) else ((ratio_MulDiv.f k (wrap64 (a0)) (wrap64 (a1)) (wrap64 (a2))).bind fun bt102 => (if bt102.2 = 0 then (if (IntKind.u64.wrap ((IntKind.u64.wrap (bt102.1)) * (IntKind.u64.wrap (a2)))) ≤ (IntKind.u64.wrap ((IntKind.u64.wrap (a0)) * (IntKind.u64.wrap (a1)))) then (if (IntKind.u64.wrap ((IntKind.u64.wrap ((IntKind.u64.wrap (a0)) * (IntKind.u64.wrap (a1)))) - (IntKind.u64.wrap ((IntKind.u64.wrap (bt102.1)) * (IntKind.u64.wrap (a2)))))) < (IntKind.u64.wrap (a2)) then ((ratio_Cmp.f k bt102.1 1 (wrap64 (bt102.1 + 1)) 1).bind fun t104 => (if t104 = (-1) then ((ratio_Cmp.f k (wrap64 (a0)) (wrap64 (a2)) (wrap64 (a0)) (wrap64 (a2))).bind fun t105 => (some (t105 == 0))) else (some false))) else (some false)) else (some false)) else (if bt102.2 = 8 then (if (IntKind.u64.wrap (a2)) = 0 then (none) else (if (IntKind.u64.wrap (Int.tdiv (IntKind.u64.wrap ((IntKind.u64.wrap (a0)) * (IntKind.u64.wrap (a1)))) (IntKind.u64.wrap (a2)))) > 4611686018427387904 then (some (bt102.1 == 0)) else (some false))) else (some false))))) else (some false))
theorem law09_RatioRounds.mono : ∀ a0 a1 a2 k, LeO (law09_RatioRounds.f k a0 a1 a2) (law09_RatioRounds.f (k + 1) a0 a1 a2) := by
 intro a0 a1 a2 k
 unfold law09_RatioRounds.f
 repeat' first
   | (with_reducible exact law09_alive.mono _)
   | (with_reducible exact ratio_Cmp.mono _ _ _ _ _)
   | (with_reducible exact ratio_MulDiv.mono _ _ _ _)
   | (with_reducible exact LeO.refl _)
   | (with_reducible exact LeO.none _)
   | (with_reducible refine LeO.ite ?_ ?_)
   | (with_reducible refine LeO.bind ?_ (fun _ => ?_))
   | exact law09_alive.mono _
   | exact ratio_Cmp.mono _ _ _ _ _
   | exact ratio_MulDiv.mono _ _ _ _
   | exact LeO.none _
   | refine LeO.ite ?_ ?_
   | refine LeO.bind ?_ (fun _ => ?_)
set_option maxHeartbeats 8000000 in
set_option maxRecDepth 100000 in
theorem law09_RatioRounds.calls (k : Nat) (a0 : Int) (a1 : Int) (a2 : Int) (r : Bool) (w : World) (h : law09_RatioRounds.f k a0 a1 a2 = some r) :
  Calls Try.prog 4 #[.int .u32 a0, .int .u32 a1, .int .u32 a2] w fun e w' => e = .returned (.bool r) ∧ Below w.heap.size w w' := by
 have HB := Aside0.mk (Below.refl w.heap.size w)
 have H : ((law09_alive.f k).bind fun t101 => (if t101 = true then (if a2 = 0 then (some true) else ((ratio_MulDiv.f k (wrap64 (a0)) (wrap64 (a1)) (wrap64 (a2))).bind fun bt102 => (if bt102.2 = 0 then (if (IntKind.u64.wrap ((IntKind.u64.wrap (bt102.1)) * (IntKind.u64.wrap (a2)))) ≤ (IntKind.u64.wrap ((IntKind.u64.wrap (a0)) * (IntKind.u64.wrap (a1)))) then (if (IntKind.u64.wrap ((IntKind.u64.wrap ((IntKind.u64.wrap (a0)) * (IntKind.u64.wrap (a1)))) - (IntKind.u64.wrap ((IntKind.u64.wrap (bt102.1)) * (IntKind.u64.wrap (a2)))))) < (IntKind.u64.wrap (a2)) then ((ratio_Cmp.f k bt102.1 1 (wrap64 (bt102.1 + 1)) 1).bind fun t104 => (if t104 = (-1) then ((ratio_Cmp.f k (wrap64 (a0)) (wrap64 (a2)) (wrap64 (a0)) (wrap64 (a2))).bind fun t105 => (some (t105 == 0))) else (some false))) else (some false)) else (some false)) else (if bt102.2 = 8 then (if (IntKind.u64.wrap (a2)) = 0 then (none) else (if (IntKind.u64.wrap (Int.tdiv (IntKind.u64.wrap ((IntKind.u64.wrap (a0)) * (IntKind.u64.wrap (a1)))) (IntKind.u64.wrap (a2)))) > 4611686018427387904 then (some (bt102.1 == 0)) else (some false))) else (some false))))) else (some false))) = some r := h
 clear h
 replace H := ob_ H
 obtain ⟨t101, A40, H⟩ := H
 replace H : (if t101 = true then (if a2 = 0 then (some true) else ((ratio_MulDiv.f k (wrap64 (a0)) (wrap64 (a1)) (wrap64 (a2))).bind fun bt102 => (if bt102.2 = 0 then (if (IntKind.u64.wrap ((IntKind.u64.wrap (bt102.1)) * (IntKind.u64.wrap (a2)))) ≤ (IntKind.u64.wrap ((IntKind.u64.wrap (a0)) * (IntKind.u64.wrap (a1)))) then (if (IntKind.u64.wrap ((IntKind.u64.wrap ((IntKind.u64.wrap (a0)) * (IntKind.u64.wrap (a1)))) - (IntKind.u64.wrap ((IntKind.u64.wrap (bt102.1)) * (IntKind.u64.wrap (a2)))))) < (IntKind.u64.wrap (a2)) then ((ratio_Cmp.f k bt102.1 1 (wrap64 (bt102.1 + 1)) 1).bind fun t104 => (if t104 = (-1) then ((ratio_Cmp.f k (wrap64 (a0)) (wrap64 (a2)) (wrap64 (a0)) (wrap64 (a2))).bind fun t105 => (some (t105 == 0))) else (some false))) else (some false)) else (some false)) else (if bt102.2 = 8 then (if (IntKind.u64.wrap (a2)) = 0 then (none) else (if (IntKind.u64.wrap (Int.tdiv (IntKind.u64.wrap ((IntKind.u64.wrap (a0)) * (IntKind.u64.wrap (a1)))) (IntKind.u64.wrap (a2)))) > 4611686018427387904 then (some (bt102.1 == 0)) else (some false))) else (some false))))) else (some false)) = some r := H
 have A4 := Aside0.mk A40
 clear A40
 by_cases c5 : t101 = true
 ·subst c5
  have H1 : (if a2 = 0 then (some true) else ((ratio_MulDiv.f k (wrap64 (a0)) (wrap64 (a1)) (wrap64 (a2))).bind fun bt102 => (if bt102.2 = 0 then (if (IntKind.u64.wrap ((IntKind.u64.wrap (bt102.1)) * (IntKind.u64.wrap (a2)))) ≤ (IntKind.u64.wrap ((IntKind.u64.wrap (a0)) * (IntKind.u64.wrap (a1)))) then (if (IntKind.u64.wrap ((IntKind.u64.wrap ((IntKind.u64.wrap (a0)) * (IntKind.u64.wrap (a1)))) - (IntKind.u64.wrap ((IntKind.u64.wrap (bt102.1)) * (IntKind.u64.wrap (a2)))))) < (IntKind.u64.wrap (a2)) then ((ratio_Cmp.f k bt102.1 1 (wrap64 (bt102.1 + 1)) 1).bind fun t104 => (if t104 = (-1) then ((ratio_Cmp.f k (wrap64 (a0)) (wrap64 (a2)) (wrap64 (a0)) (wrap64 (a2))).bind fun t105 => (some (t105 == 0))) else (some false))) else (some false)) else (some false)) else (if bt102.2 = 8 then (if (IntKind.u64.wrap (a2)) = 0 then (none) else (if (IntKind.u64.wrap (Int.tdiv (IntKind.u64.wrap ((IntKind.u64.wrap (a0)) * (IntKind.u64.wrap (a1)))) (IntKind.u64.wrap (a2)))) > 4611686018427387904 then (some (bt102.1 == 0)) else (some false))) else (some false))))) = some r := by rw [if_pos rfl] at H; exact H
  clear H
  have H := H1
  clear H1
  by_cases c6 : a2 = 0
  ·rw [if_pos c6] at H
   have c6b0 : (a2 == 0) = true := beq_iff_eq.mpr c6
   have c6b1 : (a2 != 0) = false := bne_eq_false_iff_eq.mpr c6
   clear c6
   obtain rfl := Option.some.inj H
   go_enter Try.func4, Try.ntmps4
   go_wp2_with (first | ((with_reducible refine qd_ (f := 8) rfl ?_); refine goesL_ (some 11) rfl rfl Try.func8 (by kernel_rfl) rfl #[] rfl (by (try simp only [List.map_toArray, List.map_cons, List.map_nil]); first | done | rfl | (simp only [List.length_drop, List.length_take]; rfl)) ?_; (with_reducible refine (law09_alive.calls k  true _ A4.out).mono ?_); rintro e w7 ⟨rfl, hb⟩; refine ⟨_, rfl, ?_⟩; have n0_ := Aside0.mk (below_step (by repeat (first | (with_reducible first | exact HB.out | apply qb_ | apply qa_ | apply qc_) | exact HB.out)) hb); clear HB; have HB := n0_; clear n0_; (try clear hb); (try clear hb2); (try clear hk); (try clear hi)))
   go_ret
   exact ⟨by first | rfl | (simp [errW_none, errW_some] <;> rfl) | (simp [*, errW_none, errW_some] <;> rfl), by repeat (first | (with_reducible first | exact HB.out | apply qb_ | apply qa_ | apply qc_) | exact HB.out)⟩
  ·rw [if_neg c6] at H
   have c6b0 : (a2 == 0) = false := beq_eq_false_iff_ne.mpr c6
   have c6b1 : (a2 != 0) = true := bne_iff_ne.mpr c6
   replace H := ob_ H
   obtain ⟨⟨t102, t103⟩, A80, H⟩ := H
   replace H : (if t103 = 0 then (if (IntKind.u64.wrap ((IntKind.u64.wrap (t102)) * (IntKind.u64.wrap (a2)))) ≤ (IntKind.u64.wrap ((IntKind.u64.wrap (a0)) * (IntKind.u64.wrap (a1)))) then (if (IntKind.u64.wrap ((IntKind.u64.wrap ((IntKind.u64.wrap (a0)) * (IntKind.u64.wrap (a1)))) - (IntKind.u64.wrap ((IntKind.u64.wrap (t102)) * (IntKind.u64.wrap (a2)))))) < (IntKind.u64.wrap (a2)) then ((ratio_Cmp.f k t102 1 (wrap64 (t102 + 1)) 1).bind fun t104 => (if t104 = (-1) then ((ratio_Cmp.f k (wrap64 (a0)) (wrap64 (a2)) (wrap64 (a0)) (wrap64 (a2))).bind fun t105 => (some (t105 == 0))) else (some false))) else (some false)) else (some false)) else (if t103 = 8 then (if (IntKind.u64.wrap (a2)) = 0 then (none) else (if (IntKind.u64.wrap (Int.tdiv (IntKind.u64.wrap ((IntKind.u64.wrap (a0)) * (IntKind.u64.wrap (a1)))) (IntKind.u64.wrap (a2)))) > 4611686018427387904 then (some (t102 == 0)) else (some false))) else (some false))) = some r := H
   have A8 := Aside0.mk A80
   clear A80
   by_cases c9 : t103 = 0
   ·rw [if_pos c9] at H
    have c9b0 : (t103 == 0) = true := beq_iff_eq.mpr c9
    have c9b1 : (t103 != 0) = false := bne_eq_false_iff_eq.mpr c9
    clear c9
    by_cases c10 : (IntKind.u64.wrap ((IntKind.u64.wrap (t102)) * (IntKind.u64.wrap (a2)))) ≤ (IntKind.u64.wrap ((IntKind.u64.wrap (a0)) * (IntKind.u64.wrap (a1))))
    ·rw [if_pos c10] at H
     have c10b0 : decide ((IntKind.u64.wrap ((IntKind.u64.wrap (t102)) * (IntKind.u64.wrap (a2)))) ≤ (IntKind.u64.wrap ((IntKind.u64.wrap (a0)) * (IntKind.u64.wrap (a1))))) = true := decide_eq_true c10
     clear c10
     by_cases c11 : (IntKind.u64.wrap ((IntKind.u64.wrap ((IntKind.u64.wrap (a0)) * (IntKind.u64.wrap (a1)))) - (IntKind.u64.wrap ((IntKind.u64.wrap (t102)) * (IntKind.u64.wrap (a2)))))) < (IntKind.u64.wrap (a2))
     ·rw [if_pos c11] at H
      have c11b0 : decide ((IntKind.u64.wrap ((IntKind.u64.wrap ((IntKind.u64.wrap (a0)) * (IntKind.u64.wrap (a1)))) - (IntKind.u64.wrap ((IntKind.u64.wrap (t102)) * (IntKind.u64.wrap (a2)))))) < (IntKind.u64.wrap (a2))) = true := decide_eq_true c11
      clear c11
      replace H := ob_ H
      obtain ⟨t104, A120, H⟩ := H
      replace H : (if t104 = (-1) then ((ratio_Cmp.f k (wrap64 (a0)) (wrap64 (a2)) (wrap64 (a0)) (wrap64 (a2))).bind fun t105 => (some (t105 == 0))) else (some false)) = some r := H
      have A12 := Aside0.mk A120
      clear A120
      by_cases c13 : t104 = (-1)
      ·rw [if_pos c13] at H
       have c13b0 : (t104 == (-1)) = true := beq_iff_eq.mpr c13
       have c13b1 : (t104 != (-1)) = false := bne_eq_false_iff_eq.mpr c13
       clear c13
       replace H := ob_ H
       obtain ⟨t105, A140, H⟩ := H
       replace H : (some (t105 == 0)) = some r := H
       have A14 := Aside0.mk A140
       clear A140
       obtain rfl := Option.some.inj H
       go_enter Try.func4, Try.ntmps4
       go_wp2_with (first | ((with_reducible refine qd_ (f := 8) rfl ?_); refine goesL_ (some 11) rfl rfl Try.func8 (by kernel_rfl) rfl #[] rfl (by (try simp only [List.map_toArray, List.map_cons, List.map_nil]); first | done | rfl | (simp only [List.length_drop, List.length_take]; rfl)) ?_; (with_reducible refine (law09_alive.calls k  true _ A4.out).mono ?_); rintro e w15 ⟨rfl, hb⟩; refine ⟨_, rfl, ?_⟩; have n0_ := Aside0.mk (below_step (by repeat (first | (with_reducible first | exact HB.out | apply qb_ | apply qa_ | apply qc_) | exact HB.out)) hb); clear HB; have HB := n0_; clear n0_; (try clear hb); (try clear hb2); (try clear hk); (try clear hi)) | ((with_reducible refine qd_ (f := 9) rfl ?_); refine goesL_ (some 22) rfl rfl Try.func9 (by kernel_rfl) rfl #[.int .i64 (wrap64 (a0)), .int .i64 (wrap64 (a1)), .int .i64 (wrap64 (a2))] rfl (by (try simp only [List.map_toArray, List.map_cons, List.map_nil]); first | done | rfl | (simp only [List.length_drop, List.length_take]; rfl)) ?_; (with_reducible refine (ratio_MulDiv.calls k (wrap64 (a0)) (wrap64 (a1)) (wrap64 (a2)) t102 t103 _ A8.out).mono ?_); rintro e w' ⟨rfl, ⟨nd, rfl⟩⟩; refine ⟨_, rfl, ?_⟩) | (go_at_call 15; (with_reducible refine (ratio_Cmp.calls k t102 1 (wrap64 (t102 + 1)) 1 t104 _ A12.out).mono ?_); rintro e w16 ⟨rfl, hb⟩; have n0_ := Aside0.mk (below_step (by repeat (first | (with_reducible first | exact HB.out | apply qb_ | apply qa_ | apply qc_) | exact HB.out)) hb); clear HB; have HB := n0_; clear n0_; (try clear hb); (try clear hb2); (try clear hk); (try clear hi)) | (go_at_call 15; (with_reducible refine (ratio_Cmp.calls k (wrap64 (a0)) (wrap64 (a2)) (wrap64 (a0)) (wrap64 (a2)) t105 _ A14.out).mono ?_); rintro e w17 ⟨rfl, hb⟩; have n0_ := Aside0.mk (below_step (by repeat (first | (with_reducible first | exact HB.out | apply qb_ | apply qa_ | apply qc_) | exact HB.out)) hb); clear HB; have HB := n0_; clear n0_; (try clear hb); (try clear hb2); (try clear hk); (try clear hi)))
       go_ret
       exact ⟨by first | rfl | (simp [errW_none, errW_some] <;> rfl) | (simp [*, errW_none, errW_some] <;> rfl), by repeat (first | (with_reducible first | exact HB.out | apply qb_ | apply qa_ | apply qc_) | exact HB.out)⟩
      ·rw [if_neg c13] at H
       have c13b0 : (t104 == (-1)) = false := beq_eq_false_iff_ne.mpr c13
       have c13b1 : (t104 != (-1)) = true := bne_iff_ne.mpr c13
       obtain rfl := Option.some.inj H
       go_enter Try.func4, Try.ntmps4
       go_wp2_with (first | ((with_reducible refine qd_ (f := 8) rfl ?_); refine goesL_ (some 11) rfl rfl Try.func8 (by kernel_rfl) rfl #[] rfl (by (try simp only [List.map_toArray, List.map_cons, List.map_nil]); first | done | rfl | (simp only [List.length_drop, List.length_take]; rfl)) ?_; (with_reducible refine (law09_alive.calls k  true _ A4.out).mono ?_); rintro e w18 ⟨rfl, hb⟩; refine ⟨_, rfl, ?_⟩; have n0_ := Aside0.mk (below_step (by repeat (first | (with_reducible first | exact HB.out | apply qb_ | apply qa_ | apply qc_) | exact HB.out)) hb); clear HB; have HB := n0_; clear n0_; (try clear hb); (try clear hb2); (try clear hk); (try clear hi)) | ((with_reducible refine qd_ (f := 9) rfl ?_); refine goesL_ (some 22) rfl rfl Try.func9 (by kernel_rfl) rfl #[.int .i64 (wrap64 (a0)), .int .i64 (wrap64 (a1)), .int .i64 (wrap64 (a2))] rfl (by (try simp only [List.map_toArray, List.map_cons, List.map_nil]); first | done | rfl | (simp only [List.length_drop, List.length_take]; rfl)) ?_; (with_reducible refine (ratio_MulDiv.calls k (wrap64 (a0)) (wrap64 (a1)) (wrap64 (a2)) t102 t103 _ A8.out).mono ?_); rintro e w' ⟨rfl, ⟨nd, rfl⟩⟩; refine ⟨_, rfl, ?_⟩) | (go_at_call 15; (with_reducible refine (ratio_Cmp.calls k t102 1 (wrap64 (t102 + 1)) 1 t104 _ A12.out).mono ?_); rintro e w19 ⟨rfl, hb⟩; have n0_ := Aside0.mk (below_step (by repeat (first | (with_reducible first | exact HB.out | apply qb_ | apply qa_ | apply qc_) | exact HB.out)) hb); clear HB; have HB := n0_; clear n0_; (try clear hb); (try clear hb2); (try clear hk); (try clear hi)))
       go_ret
       exact ⟨by first | rfl | (simp [errW_none, errW_some] <;> rfl) | (simp [*, errW_none, errW_some] <;> rfl), by repeat (first | (with_reducible first | exact HB.out | apply qb_ | apply qa_ | apply qc_) | exact HB.out)⟩
     ·rw [if_neg c11] at H
      have c11b0 : decide ((IntKind.u64.wrap ((IntKind.u64.wrap ((IntKind.u64.wrap (a0)) * (IntKind.u64.wrap (a1)))) - (IntKind.u64.wrap ((IntKind.u64.wrap (t102)) * (IntKind.u64.wrap (a2)))))) < (IntKind.u64.wrap (a2))) = false := decide_eq_false c11
      clear c11
      obtain rfl := Option.some.inj H
      go_enter Try.func4, Try.ntmps4
      go_wp2_with (first | ((with_reducible refine qd_ (f := 8) rfl ?_); refine goesL_ (some 11) rfl rfl Try.func8 (by kernel_rfl) rfl #[] rfl (by (try simp only [List.map_toArray, List.map_cons, List.map_nil]); first | done | rfl | (simp only [List.length_drop, List.length_take]; rfl)) ?_; (with_reducible refine (law09_alive.calls k  true _ A4.out).mono ?_); rintro e w20 ⟨rfl, hb⟩; refine ⟨_, rfl, ?_⟩; have n0_ := Aside0.mk (below_step (by repeat (first | (with_reducible first | exact HB.out | apply qb_ | apply qa_ | apply qc_) | exact HB.out)) hb); clear HB; have HB := n0_; clear n0_; (try clear hb); (try clear hb2); (try clear hk); (try clear hi)) | ((with_reducible refine qd_ (f := 9) rfl ?_); refine goesL_ (some 22) rfl rfl Try.func9 (by kernel_rfl) rfl #[.int .i64 (wrap64 (a0)), .int .i64 (wrap64 (a1)), .int .i64 (wrap64 (a2))] rfl (by (try simp only [List.map_toArray, List.map_cons, List.map_nil]); first | done | rfl | (simp only [List.length_drop, List.length_take]; rfl)) ?_; (with_reducible refine (ratio_MulDiv.calls k (wrap64 (a0)) (wrap64 (a1)) (wrap64 (a2)) t102 t103 _ A8.out).mono ?_); rintro e w' ⟨rfl, ⟨nd, rfl⟩⟩; refine ⟨_, rfl, ?_⟩))
      go_ret
      exact ⟨by first | rfl | (simp [errW_none, errW_some] <;> rfl) | (simp [*, errW_none, errW_some] <;> rfl), by repeat (first | (with_reducible first | exact HB.out | apply qb_ | apply qa_ | apply qc_) | exact HB.out)⟩
    ·rw [if_neg c10] at H
     have c10b0 : decide ((IntKind.u64.wrap ((IntKind.u64.wrap (t102)) * (IntKind.u64.wrap (a2)))) ≤ (IntKind.u64.wrap ((IntKind.u64.wrap (a0)) * (IntKind.u64.wrap (a1))))) = false := decide_eq_false c10
     clear c10
     obtain rfl := Option.some.inj H
     go_enter Try.func4, Try.ntmps4
     go_wp2_with (first | ((with_reducible refine qd_ (f := 8) rfl ?_); refine goesL_ (some 11) rfl rfl Try.func8 (by kernel_rfl) rfl #[] rfl (by (try simp only [List.map_toArray, List.map_cons, List.map_nil]); first | done | rfl | (simp only [List.length_drop, List.length_take]; rfl)) ?_; (with_reducible refine (law09_alive.calls k  true _ A4.out).mono ?_); rintro e w21 ⟨rfl, hb⟩; refine ⟨_, rfl, ?_⟩; have n0_ := Aside0.mk (below_step (by repeat (first | (with_reducible first | exact HB.out | apply qb_ | apply qa_ | apply qc_) | exact HB.out)) hb); clear HB; have HB := n0_; clear n0_; (try clear hb); (try clear hb2); (try clear hk); (try clear hi)) | ((with_reducible refine qd_ (f := 9) rfl ?_); refine goesL_ (some 22) rfl rfl Try.func9 (by kernel_rfl) rfl #[.int .i64 (wrap64 (a0)), .int .i64 (wrap64 (a1)), .int .i64 (wrap64 (a2))] rfl (by (try simp only [List.map_toArray, List.map_cons, List.map_nil]); first | done | rfl | (simp only [List.length_drop, List.length_take]; rfl)) ?_; (with_reducible refine (ratio_MulDiv.calls k (wrap64 (a0)) (wrap64 (a1)) (wrap64 (a2)) t102 t103 _ A8.out).mono ?_); rintro e w' ⟨rfl, ⟨nd, rfl⟩⟩; refine ⟨_, rfl, ?_⟩))
     go_ret
     exact ⟨by first | rfl | (simp [errW_none, errW_some] <;> rfl) | (simp [*, errW_none, errW_some] <;> rfl), by repeat (first | (with_reducible first | exact HB.out | apply qb_ | apply qa_ | apply qc_) | exact HB.out)⟩
   ·rw [if_neg c9] at H
    have c9b0 : (t103 == 0) = false := beq_eq_false_iff_ne.mpr c9
    have c9b1 : (t103 != 0) = true := bne_iff_ne.mpr c9
    by_cases c22 : t103 = 8
    ·rw [if_pos c22] at H
     have c22b0 : (t103 == 8) = true := beq_iff_eq.mpr c22
     have c22b1 : (t103 != 8) = false := bne_eq_false_iff_eq.mpr c22
     clear c22
     by_cases c23 : (IntKind.u64.wrap (a2)) = 0
     ·rw [if_pos c23] at H
      exact absurd H (by simp)
     ·rw [if_neg c23] at H
      have c23b0 : ((IntKind.u64.wrap (a2)) == 0) = false := beq_eq_false_iff_ne.mpr c23
      have c23b1 : ((IntKind.u64.wrap (a2)) != 0) = true := bne_iff_ne.mpr c23
      by_cases c24 : (IntKind.u64.wrap (Int.tdiv (IntKind.u64.wrap ((IntKind.u64.wrap (a0)) * (IntKind.u64.wrap (a1)))) (IntKind.u64.wrap (a2)))) > 4611686018427387904
      ·rw [if_pos c24] at H
       have c24b0 : decide (4611686018427387904 < (IntKind.u64.wrap (Int.tdiv (IntKind.u64.wrap ((IntKind.u64.wrap (a0)) * (IntKind.u64.wrap (a1)))) (IntKind.u64.wrap (a2))))) = true := decide_eq_true c24
       clear c24
       obtain rfl := Option.some.inj H
       go_enter Try.func4, Try.ntmps4
       go_wp2_with (first | ((with_reducible refine qd_ (f := 8) rfl ?_); refine goesL_ (some 11) rfl rfl Try.func8 (by kernel_rfl) rfl #[] rfl (by (try simp only [List.map_toArray, List.map_cons, List.map_nil]); first | done | rfl | (simp only [List.length_drop, List.length_take]; rfl)) ?_; (with_reducible refine (law09_alive.calls k  true _ A4.out).mono ?_); rintro e w25 ⟨rfl, hb⟩; refine ⟨_, rfl, ?_⟩; have n0_ := Aside0.mk (below_step (by repeat (first | (with_reducible first | exact HB.out | apply qb_ | apply qa_ | apply qc_) | exact HB.out)) hb); clear HB; have HB := n0_; clear n0_; (try clear hb); (try clear hb2); (try clear hk); (try clear hi)) | ((with_reducible refine qd_ (f := 9) rfl ?_); refine goesL_ (some 22) rfl rfl Try.func9 (by kernel_rfl) rfl #[.int .i64 (wrap64 (a0)), .int .i64 (wrap64 (a1)), .int .i64 (wrap64 (a2))] rfl (by (try simp only [List.map_toArray, List.map_cons, List.map_nil]); first | done | rfl | (simp only [List.length_drop, List.length_take]; rfl)) ?_; (with_reducible refine (ratio_MulDiv.calls k (wrap64 (a0)) (wrap64 (a1)) (wrap64 (a2)) t102 t103 _ A8.out).mono ?_); rintro e w' ⟨rfl, ⟨nd, rfl⟩⟩; refine ⟨_, rfl, ?_⟩))
       go_ret
       exact ⟨by first | rfl | (simp [errW_none, errW_some] <;> rfl) | (simp [*, errW_none, errW_some] <;> rfl), by repeat (first | (with_reducible first | exact HB.out | apply qb_ | apply qa_ | apply qc_) | exact HB.out)⟩
      ·rw [if_neg c24] at H
       have c24b0 : decide (4611686018427387904 < (IntKind.u64.wrap (Int.tdiv (IntKind.u64.wrap ((IntKind.u64.wrap (a0)) * (IntKind.u64.wrap (a1)))) (IntKind.u64.wrap (a2))))) = false := decide_eq_false c24
       clear c24
       obtain rfl := Option.some.inj H
       go_enter Try.func4, Try.ntmps4
       go_wp2_with (first | ((with_reducible refine qd_ (f := 8) rfl ?_); refine goesL_ (some 11) rfl rfl Try.func8 (by kernel_rfl) rfl #[] rfl (by (try simp only [List.map_toArray, List.map_cons, List.map_nil]); first | done | rfl | (simp only [List.length_drop, List.length_take]; rfl)) ?_; (with_reducible refine (law09_alive.calls k  true _ A4.out).mono ?_); rintro e w26 ⟨rfl, hb⟩; refine ⟨_, rfl, ?_⟩; have n0_ := Aside0.mk (below_step (by repeat (first | (with_reducible first | exact HB.out | apply qb_ | apply qa_ | apply qc_) | exact HB.out)) hb); clear HB; have HB := n0_; clear n0_; (try clear hb); (try clear hb2); (try clear hk); (try clear hi)) | ((with_reducible refine qd_ (f := 9) rfl ?_); refine goesL_ (some 22) rfl rfl Try.func9 (by kernel_rfl) rfl #[.int .i64 (wrap64 (a0)), .int .i64 (wrap64 (a1)), .int .i64 (wrap64 (a2))] rfl (by (try simp only [List.map_toArray, List.map_cons, List.map_nil]); first | done | rfl | (simp only [List.length_drop, List.length_take]; rfl)) ?_; (with_reducible refine (ratio_MulDiv.calls k (wrap64 (a0)) (wrap64 (a1)) (wrap64 (a2)) t102 t103 _ A8.out).mono ?_); rintro e w' ⟨rfl, ⟨nd, rfl⟩⟩; refine ⟨_, rfl, ?_⟩))
       go_ret
       exact ⟨by first | rfl | (simp [errW_none, errW_some] <;> rfl) | (simp [*, errW_none, errW_some] <;> rfl), by repeat (first | (with_reducible first | exact HB.out | apply qb_ | apply qa_ | apply qc_) | exact HB.out)⟩
    ·rw [if_neg c22] at H
     have c22b0 : (t103 == 8) = false := beq_eq_false_iff_ne.mpr c22
     have c22b1 : (t103 != 8) = true := bne_iff_ne.mpr c22
     obtain rfl := Option.some.inj H
     go_enter Try.func4, Try.ntmps4
     go_wp2_with (first | ((with_reducible refine qd_ (f := 8) rfl ?_); refine goesL_ (some 11) rfl rfl Try.func8 (by kernel_rfl) rfl #[] rfl (by (try simp only [List.map_toArray, List.map_cons, List.map_nil]); first | done | rfl | (simp only [List.length_drop, List.length_take]; rfl)) ?_; (with_reducible refine (law09_alive.calls k  true _ A4.out).mono ?_); rintro e w27 ⟨rfl, hb⟩; refine ⟨_, rfl, ?_⟩; have n0_ := Aside0.mk (below_step (by repeat (first | (with_reducible first | exact HB.out | apply qb_ | apply qa_ | apply qc_) | exact HB.out)) hb); clear HB; have HB := n0_; clear n0_; (try clear hb); (try clear hb2); (try clear hk); (try clear hi)) | ((with_reducible refine qd_ (f := 9) rfl ?_); refine goesL_ (some 22) rfl rfl Try.func9 (by kernel_rfl) rfl #[.int .i64 (wrap64 (a0)), .int .i64 (wrap64 (a1)), .int .i64 (wrap64 (a2))] rfl (by (try simp only [List.map_toArray, List.map_cons, List.map_nil]); first | done | rfl | (simp only [List.length_drop, List.length_take]; rfl)) ?_; (with_reducible refine (ratio_MulDiv.calls k (wrap64 (a0)) (wrap64 (a1)) (wrap64 (a2)) t102 t103 _ A8.out).mono ?_); rintro e w' ⟨rfl, ⟨nd, rfl⟩⟩; refine ⟨_, rfl, ?_⟩))
     go_ret
     exact ⟨by first | rfl | (simp [errW_none, errW_some] <;> rfl) | (simp [*, errW_none, errW_some] <;> rfl), by repeat (first | (with_reducible first | exact HB.out | apply qb_ | apply qa_ | apply qc_) | exact HB.out)⟩
 ·replace c5 := Bool.eq_false_iff.mpr c5
  subst c5
  have H1 : (some false) = some r := by rw [if_neg (show ¬ (false = true) by decide)] at H; exact H
  clear H
  have H := H1
  clear H1
  obtain rfl := Option.some.inj H
  go_enter Try.func4, Try.ntmps4
  go_wp2_with (first | ((with_reducible refine qd_ (f := 8) rfl ?_); refine goesL_ (some 11) rfl rfl Try.func8 (by kernel_rfl) rfl #[] rfl (by (try simp only [List.map_toArray, List.map_cons, List.map_nil]); first | done | rfl | (simp only [List.length_drop, List.length_take]; rfl)) ?_; (with_reducible refine (law09_alive.calls k  false _ A4.out).mono ?_); rintro e w28 ⟨rfl, hb⟩; refine ⟨_, rfl, ?_⟩; have n0_ := Aside0.mk (below_step (by repeat (first | (with_reducible first | exact HB.out | apply qb_ | apply qa_ | apply qc_) | exact HB.out)) hb); clear HB; have HB := n0_; clear n0_; (try clear hb); (try clear hb2); (try clear hk); (try clear hi)))
  go_ret
  exact ⟨by first | rfl | (simp [errW_none, errW_some] <;> rfl) | (simp [*, errW_none, errW_some] <;> rfl), by repeat (first | (with_reducible first | exact HB.out | apply qb_ | apply qa_ | apply qc_) | exact HB.out)⟩
/-- THE ONE PURE STATEMENT of law09_RatioRounds: yours. -/
def law09_RatioRounds.Pure : Prop := ∀ (a0 : Int) (a1 : Int) (a2 : Int), (Lit.int .u32 a0).wf = true → (Lit.int .u32 a1).wf = true → (Lit.int .u32 a2).wf = true → ∃ k, law09_RatioRounds.f k a0 a1 a2 = some true
theorem law09_RatioRounds.walk (P : law09_RatioRounds.Pure) (a0 : Int) (a1 : Int) (a2 : Int) (w : World) (w0 : (Lit.int .u32 a0).wf = true) (w1 : (Lit.int .u32 a1).wf = true) (w2 : (Lit.int .u32 a2).wf = true) :
  Calls Try.prog 4 #[.int .u32 a0, .int .u32 a1, .int .u32 a2] w fun e w' => e = .returned (.bool true) ∧ Below w.heap.size w w' := by
 obtain ⟨k, h⟩ := P a0 a1 a2 w0 w1 w2
 refine (law09_RatioRounds.calls k a0 a1 a2 true w h).mono ?_
 rintro e w' ⟨rfl, hd⟩
 exact ⟨rfl, hd⟩
end Go.Proofs.Ytnnphpgpnmlppaa.P

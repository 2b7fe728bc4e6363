/- What this function of the program comes to, and that the machine's call does it: written by a program (wip/tool). No condition. -/
import Derived.Test.YtfaiapmckimjeaaP0
import Derived.Test.YtfaiapmckimjeaaHw
namespace Go.Proofs.Ytfaiapmckimjeaa.P
open Go.RowKit Go.Proofs.YtfaiapmckimjeaaW.PrintWords Go.Proofs.YtfaiapmckimjeaaW.PrintLast Go.Proofs.YtfaiapmckimjeaaW.PrintMore
attribute [local go_sem] max2_int min2_int max_two min_two max_three min_three max_four min_four Go.Proofs.YtfaiapmckimjeaaW.Hw.string_gtr   -- for this text's walks alone
set_option linter.unusedVariables false
set_option linter.unusedSimpArgs false
/-! ### slices_Grow_byte_byte: function 20 -/
open Go.Proofs.YtfaiapmckimjeaaW.Hw in
set_option maxHeartbeats 8000000 in
set_option maxRecDepth 100000 in
theorem GrowNil.calls (n : Nat) (hn : n < 140737488355328) (w : World) : Calls Try.prog 20 #[.slice none 0 0, .int .i64 (n : Int)] w fun e w' => ∃ v0_ : Value, e = .returned v0_ ∧ Kd.R (Kd.int .u8) 5 w' w.heap.size (fun _ => True) v0_ ([] : List Int) ∧ Below w.heap.size w w' := by
 have hneg : decide ((n : Int) < 0) = false := decide_eq_false (by omega)
 rcases Nat.eq_zero_or_pos n with rfl | hp
 ·clear hn hneg
  go_enter Try.func20, Try.ntmps20
  go_wp2
  go_ret
  exact ⟨_, rfl, Kd.R_nil _ _ _ _ _, Below.refl _ _⟩
 ·have hw1 : wrap64 ((n : Int) - 0) = (n : Int) := by unfold wrap64; omega
  have hw2 : IntKind.i64.wrap ((n : Int)) = (n : Int) := by rw [IntKind.wrap_i64]; omega
  have hpos : decide ((0 : Int) < (n : Int)) = true := decide_eq_true (by omega)
  have hpn := decide_eq_true hp
  obtain ⟨v1, w1, hrun, hR1, hg1, _⟩ := Kd.R_zeros_run (P := Try.prog) (Kd.int .u8) w.heap.size 22 3 22 5 (.int .u8 0) 1 Try.underlying22 Try.underlying3 info5 rfl (by decide) (by omega) (.slice none 0 0) ([] : List Int) 0 (ok := fun _ => True) rfl (fun _ _ => trivial) (Kd.R_nil _ _ w _ _) .i64 (n : Int) (by omega) (by simp; omega) (Nat.le_refl _)
  have hlen : 0 < (([] : List Int) ++ List.replicate (n : Int).toNat (0 : Int)).length := by simp; omega
  obtain ⟨g1, c1, rfl, hb1, hlt1, _⟩ := Kd.R_form hR1 hlen
  have HR := Aside0.mk (Kd.R_take (m := 0) hR1 (Nat.zero_le _))
  have HB := Aside0.mk ((Below.refl w.heap.size w).grown hg1 (Nat.le_refl _) (fun k hk => by simp [Value.ownBlock] at hk))
  clear hlen hR1 hg1 hb1 hlt1 hp hn
  go_enter Try.func20, Try.ntmps20
  go_wp2_with (at_builtin; refine wpList_append_run _ rfl _ _ 22 3 rfl _ _ rfl rfl hrun ?_)
  go_ret
  exact ⟨_, rfl, by simpa using HR.out, HB.out⟩
end Go.Proofs.Ytfaiapmckimjeaa.P

/- What this function of the program comes to, and that the machine's call does it. No condition. -/
import Derived.Test.YtgipbmjkgciccaaP0
import Derived.Test.YtgipbmjkgciccaaHw
namespace Go.Proofs.Ytgipbmjkgciccaa.P
set_option maxHeartbeats 8000000
set_option maxRecDepth 100000
open Go.RowKit Go.Proofs.YtgipbmjkgciccaaW.PrintWords Go.Proofs.YtgipbmjkgciccaaW.PrintLast Go.Proofs.YtgipbmjkgciccaaW.PrintMore
attribute [local go_sem] max2_int min2_int max_two min_two max_three min_three max_four min_four Go.Proofs.YtgipbmjkgciccaaW.Hw.string_gtr
set_option linter.unusedVariables false
set_option linter.unusedSimpArgs false
open Go.Proofs.YtgipbmjkgciccaaW.Hw in
theorem GrowN.calls (n : Nat) (hn : n < 1099511627776) (w : World) : Calls Try.prog 84 #[.slice none 0 0, .int .i64 (n : Int)] w fun e w' => ∃ v0_ : Value, e = .returned v0_ ∧ Kd.R k39 39 w' w.heap.size (fun _ => True) v0_ ([] : List S39) ∧ Below w.heap.size w w' := by
 have hneg : decide ((n : Int) < 0) = false := decide_eq_false (by omega)
 rcases Nat.eq_zero_or_pos n with rfl | hp
 ·clear hn hneg
  go_enter Try.func84, Try.ntmps84
  go_wp2
  go_ret
  exact ⟨_, rfl, Kd.R_nil _ _ _ _ _, Below.refl _ _⟩
 ·have hw1 : wrap64 ((n : Int) - 0) = (n : Int) := by unfold wrap64; omega
  have hw2 : IntKind.i64.wrap ((n : Int)) = (n : Int) := by rw [IntKind.wrap_i64]; omega
  have hpos : decide ((0 : Int) < (n : Int)) = true := decide_eq_true (by omega); have hpn := decide_eq_true hp; obtain ⟨v1, w1, hrun, hR1, hg1, _⟩ := Kd.R_zeros_run (P := Try.prog) k39 w.heap.size 22 3 22 39 (.agg #[.int .i64 0, .int .i64 0, .int .i64 0, .slice none 0 0]) 48 Try.underlying22 Try.underlying3 info39 rfl (by decide) (by omega) (.slice none 0 0) ([] : List S39) z39 (ok := fun _ => True) (k39_mkM w _ _ z39 (Kd.R_nil _ _ w _ _)) (fun _ _ => trivial) (Kd.R_nil _ _ w _ _) .i64 (n : Int) (by omega) (by simp; omega) (Nat.le_refl _)
  have hlen : 0 < (([] : List S39) ++ List.replicate (n : Int).toNat z39).length := by simp; omega
  obtain ⟨g1, c1, rfl, hb1, hlt1, _⟩ := Kd.R_form hR1 hlen; have HR := Zq_.mk (Kd.R_take (m := 0) hR1 (Nat.zero_le _)); have HB := Zq_.mk ((Below.refl w.heap.size w).grown hg1 (Nat.le_refl _) (fun k hk => by simp [Value.ownBlock] at hk)); clear hlen hR1 hg1 hb1 hlt1 hp hn
  go_enter Try.func84, Try.ntmps84
  go_wp2_with (at_builtin; refine wpList_append_run _ rfl _ _ 22 3 rfl _ _ rfl rfl hrun ?_)
  go_ret
  exact ⟨_, rfl, by simpa using HR.out, HB.out⟩
end Go.Proofs.Ytgipbmjkgciccaa.P

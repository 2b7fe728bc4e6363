/- What this function of the program comes to, and that the machine's call does it: written by a program (wip/tool). No condition. -/
import Derived.Test.YtkojggbogdjmcaaP0
import Derived.Test.YtkojggbogdjmcaaPSlicesContainsFuncIntInt
import Derived.Test.YtkojggbogdjmcaaHw
namespace Go.Proofs.Ytkojggbogdjmcaa.P
open Go.RowKit Go.Proofs.YtkojggbogdjmcaaW.PrintWords Go.Proofs.YtkojggbogdjmcaaW.PrintLast Go.Proofs.YtkojggbogdjmcaaW.PrintMore
attribute [local go_sem] max2_int min2_int max_two min_two max_three min_three max_four min_four   -- for this text's walks alone
set_option linter.unusedVariables false
set_option linter.unusedSimpArgs false
/-! ### window_Right: function 10 -/
/-- A gap that may not be. -/
def window_Right.odd (n : Int) : Bool := decide (n < 1) || decide (n > 1099511627776)
def window_Right.f (a0 : Int) (l0 : List Int) : Option Bool := some (decide (a0 ≥ -1) && decide (a0 ≤ 1099511627776) && decide ((l0.length : Int) ≤ 16) && !(l0.any window_Right.odd))
open Go.Proofs.YtkojggbogdjmcaaW.Hw in
set_option maxHeartbeats 4000000 in
theorem window_Right.pred (w : World) : PredI Try.prog 20 #[] window_Right.odd w := by
 intro W x hb
 by_cases h1 : x < 1
 ·have e : window_Right.odd x = true := by simp [window_Right.odd, h1]
  rw [e]
  have h1b : decide (x < 1) = true := decide_eq_true h1
  clear h1 hb e
  go_enter Try.func20, Try.ntmps20
  go_wp2
  go_ret
  exact ⟨by first | rfl | (simp; done) | (simp [*]; done), Below.refl _ _⟩
 ·have e : window_Right.odd x = decide (1099511627776 < x) := by simp [window_Right.odd, h1]
  rw [e]
  have h1b : decide (x < 1) = false := decide_eq_false h1
  clear h1 hb e
  go_enter Try.func20, Try.ntmps20
  go_wp2
  go_ret
  exact ⟨by first | rfl | (simp; done) | (simp [*]; done), Below.refl _ _⟩
open Go.Proofs.YtkojggbogdjmcaaW.Hw in
set_option maxHeartbeats 8000000 in
set_option maxRecDepth 100000 in
theorem window_Right.calls (a0 : Int) (A0 : Option Addr) (c0 : Nat) (l0 : List Int) (r : Bool) (w : World) (hr0 : Kd.C (Kd.int .i64) w A0 l0.length l0) (hc0 : l0.length ≤ c0) (h : window_Right.f a0 l0 = some r) :
  Calls Try.prog 10 #[.agg #[.int .i64 a0, .slice A0 l0.length c0]] w fun e w' => e = .returned (.bool r) ∧ Below w.heap.size w w' := by
 have hu27 := Try.underlying27
 unfold window_Right.f at h
 obtain rfl := Option.some.inj h
 clear h
 have HR := Aside0.mk hr0
 clear hr0 hc0
 have HB := Aside0.mk (Below.refl w.heap.size w)
 by_cases c1 : -1 ≤ a0
 case neg =>
  have c1b : decide (-1 ≤ a0) = false := decide_eq_false c1
  have e : decide (a0 ≥ -1) = false := c1b
  rw [e]
  clear c1 e
  go_enter Try.func10, Try.ntmps10
  go_wp2_with (((with_reducible refine gate_dst (N := 1) rfl ?_); (try (refine gate_guard (by rfl) ?_; dsimp only)); refine qo_ ?hg (N := 1) ?hd (cs := #[.int .i64 a0, .slice A0 l0.length c0]) (t := 27) ?hr ?_; (case hd => rfl); (case hg => rfl); (case hr => first | (go_simp; done) | (go_simp; rfl)); intro gb101 hg w2 hbox hb; have n0_ := Aside0.mk (ql_ (by repeat (first | (with_reducible first | exact HB.out | apply qf_ | apply qa_ | apply qg_) | exact HB.out)) hb); have n1_ := Aside0.mk (hbox); clear HB; have HB := n0_; have BK101 := n1_; clear n0_ n1_; clear hb hbox hg; have hcz7_0 : w2.cell? ⟨gb101, 0, none⟩ = some (.int .i64 a0) := (qh_ BK101.out 0).trans rfl; have hcz7_1 : w2.cell? ⟨gb101, 1, none⟩ = some (.slice A0 l0.length c0) := (qh_ BK101.out 1).trans rfl; have hfz7_0 := qi_ BK101.out 0; have hfz7_1 := qi_ BK101.out 1))
  go_ret
  exact ⟨by first | rfl | (simp; done) | (simp [*]; done), (by repeat (first | (with_reducible first | exact HB.out | apply qf_ | apply qa_ | apply qg_) | exact HB.out))⟩
 have c1b : decide (-1 ≤ a0) = true := decide_eq_true c1
 have e : decide (a0 ≥ -1) = true := c1b
 rw [e]
 clear c1 e
 by_cases c2 : a0 ≤ 1099511627776
 case neg =>
  have c2b : decide (a0 ≤ 1099511627776) = false := decide_eq_false c2
  rw [c2b]
  clear c2
  go_enter Try.func10, Try.ntmps10
  go_wp2_with (((with_reducible refine gate_dst (N := 1) rfl ?_); (try (refine gate_guard (by rfl) ?_; dsimp only)); refine qo_ ?hg (N := 1) ?hd (cs := #[.int .i64 a0, .slice A0 l0.length c0]) (t := 27) ?hr ?_; (case hd => rfl); (case hg => rfl); (case hr => first | (go_simp; done) | (go_simp; rfl)); intro gb101 hg w2 hbox hb; have n0_ := Aside0.mk (ql_ (by repeat (first | (with_reducible first | exact HB.out | apply qf_ | apply qa_ | apply qg_) | exact HB.out)) hb); have n1_ := Aside0.mk (hbox); clear HB; have HB := n0_; have BK101 := n1_; clear n0_ n1_; clear hb hbox hg; have hcz7_0 : w2.cell? ⟨gb101, 0, none⟩ = some (.int .i64 a0) := (qh_ BK101.out 0).trans rfl; have hcz7_1 : w2.cell? ⟨gb101, 1, none⟩ = some (.slice A0 l0.length c0) := (qh_ BK101.out 1).trans rfl; have hfz7_0 := qi_ BK101.out 0; have hfz7_1 := qi_ BK101.out 1))
  go_ret
  exact ⟨by first | rfl | (simp; done) | (simp [*]; done), (by repeat (first | (with_reducible first | exact HB.out | apply qf_ | apply qa_ | apply qg_) | exact HB.out))⟩
 have c2b : decide (a0 ≤ 1099511627776) = true := decide_eq_true c2
 rw [c2b]
 clear c2
 by_cases c3 : (l0.length : Int) ≤ 16
 case neg =>
  have c3b : decide ((l0.length : Int) ≤ 16) = false := decide_eq_false c3
  have c3c : decide (l0.length ≤ 16) = false := decide_eq_false (by omega)
  rw [c3b]
  clear c3
  go_enter Try.func10, Try.ntmps10
  go_wp2_with (((with_reducible refine gate_dst (N := 1) rfl ?_); (try (refine gate_guard (by rfl) ?_; dsimp only)); refine qo_ ?hg (N := 1) ?hd (cs := #[.int .i64 a0, .slice A0 l0.length c0]) (t := 27) ?hr ?_; (case hd => rfl); (case hg => rfl); (case hr => first | (go_simp; done) | (go_simp; rfl)); intro gb101 hg w2 hbox hb; have n0_ := Aside0.mk (ql_ (by repeat (first | (with_reducible first | exact HB.out | apply qf_ | apply qa_ | apply qg_) | exact HB.out)) hb); have n1_ := Aside0.mk (hbox); clear HB; have HB := n0_; have BK101 := n1_; clear n0_ n1_; clear hb hbox hg; have hcz7_0 : w2.cell? ⟨gb101, 0, none⟩ = some (.int .i64 a0) := (qh_ BK101.out 0).trans rfl; have hcz7_1 : w2.cell? ⟨gb101, 1, none⟩ = some (.slice A0 l0.length c0) := (qh_ BK101.out 1).trans rfl; have hfz7_0 := qi_ BK101.out 0; have hfz7_1 := qi_ BK101.out 1))
  go_ret
  exact ⟨by first | rfl | (simp; done) | (simp [*]; done), (by repeat (first | (with_reducible first | exact HB.out | apply qf_ | apply qa_ | apply qg_) | exact HB.out))⟩
 have c3b : decide ((l0.length : Int) ≤ 16) = true := decide_eq_true c3
 have c3c : decide (l0.length ≤ 16) = true := decide_eq_true (by omega)
 rw [c3b]
 clear c3
 have hcall := fun (W : World) (hW : Below w.heap.size w W) => ContainsFuncI.calls window_Right.odd 20 #[] (fun args w => enters Try.prog Try.func20 (by kernel_rfl) (by kernel_rfl) args w) A0 c0 l0 W (window_Right.pred W) (Kd.C_below HR.out hW)
 generalize hb_ : l0.any window_Right.odd = b at hcall ⊢
 clear hb_
 have HC := Aside0.mk hcall
 clear hcall
 go_enter Try.func10, Try.ntmps10
 go_wp2_with (first | ((with_reducible refine gate_dst (N := 1) rfl ?_); (try (refine gate_guard (by rfl) ?_; dsimp only)); refine qo_ ?hg (N := 1) ?hd (cs := #[.int .i64 a0, .slice A0 l0.length c0]) (t := 27) ?hr ?_; (case hd => rfl); (case hg => rfl); (case hr => first | (go_simp; done) | (go_simp; rfl)); intro gb101 hg w2 hbox hb; have n0_ := Aside0.mk (ql_ (by repeat (first | (with_reducible first | exact HB.out | apply qf_ | apply qa_ | apply qg_) | exact HB.out)) hb); have n1_ := Aside0.mk (hbox); clear HB; have HB := n0_; have BK101 := n1_; clear n0_ n1_; clear hb hbox hg; have hcz7_0 : w2.cell? ⟨gb101, 0, none⟩ = some (.int .i64 a0) := (qh_ BK101.out 0).trans rfl; have hcz7_1 : w2.cell? ⟨gb101, 1, none⟩ = some (.slice A0 l0.length c0) := (qh_ BK101.out 1).trans rfl; have hfz7_0 := qi_ BK101.out 0; have hfz7_1 := qi_ BK101.out 1) | (go_at_call 21; refine (HC.out _ (by repeat (first | (with_reducible first | exact HB.out | apply qf_ | apply qa_ | apply qg_) | exact HB.out))).mono ?_; rintro e w3 ⟨rfl, hb3⟩; have n0_ := Aside0.mk (ql_ (by repeat (first | (with_reducible first | exact HB.out | apply qf_ | apply qa_ | apply qg_) | exact HB.out)) hb3); clear HB; have HB := n0_; clear n0_ hb3))
 go_ret
 exact ⟨by first | rfl | (simp; done) | (simp [*]; done), (by repeat (first | (with_reducible first | exact HB.out | apply qf_ | apply qa_ | apply qg_) | exact HB.out))⟩
end Go.Proofs.Ytkojggbogdjmcaa.P

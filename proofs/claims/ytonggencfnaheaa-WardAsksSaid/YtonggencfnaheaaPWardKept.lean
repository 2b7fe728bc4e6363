/- What this function of the program comes to, and that the machine's call does it: written by a program (wip/tool). No condition. -/
import Derived.Test.YtonggencfnaheaaP0
import Derived.Test.YtonggencfnaheaaPApiWard28
import Derived.Test.YtonggencfnaheaaHw
namespace Go.Proofs.Ytonggencfnaheaa.P
open Go.RowKit Go.Proofs.YtonggencfnaheaaW.PrintWords Go.Proofs.YtonggencfnaheaaW.PrintLast Go.Proofs.YtonggencfnaheaaW.PrintMore
attribute [local go_sem] max2_int min2_int max_two min_two max_three min_three max_four min_four Go.Proofs.YtonggencfnaheaaW.Hw.string_gtr   -- for this text's walks alone
set_option linter.unusedVariables false
set_option linter.unusedSimpArgs false
/-! ### ward_Kept: function 15 -/
def ward_Kept.f (l0 : List S44) (a1 : Int) (a2 : Int) : Option Bool := some (l0.any (fun x => x.f0 == a1 && decide (x.f1 > a2)))
open Go.Proofs.YtonggencfnaheaaW.Hw in
set_option maxHeartbeats 4000000 in
theorem ward_Kept.pred (a1 a2 : Int) (g1 g2 : Nat) (w : World) (hc1 : w.cell? ⟨g1, 0, none⟩ = some (.int .i64 a1)) (hc2 : w.cell? ⟨g2, 0, none⟩ = some (.int .i64 a2)) : PredK Try.prog k44 29 #[.pointer (some ⟨g1, 0, none⟩), .pointer (some ⟨g2, 0, none⟩)] aggOf (fun x => x.f0 == a1 && decide (x.f1 > a2)) w := by
 intro W x cs hb hx
 have hcW1 := (hb.cell (wb_ w _ hc1)).trans hc1
 have hcW2 := (hb.cell (wb_ w _ hc2)).trans hc2
 obtain rfl := k44_open hx
 clear hx hb hc1 hc2
 have HB := Aside0.mk (Below.refl W.heap.size W)
 by_cases hk : x.f0 = a1
 ·have hkb : (x.f0 == a1) = true := beq_iff_eq.2 hk
  have HK := Aside0.mk hkb
  clear hk
  go_enter Try.func29, Try.ntmps29
  go_wp2_with (first | ((with_reducible refine gate_dst (N := 3) rfl ?_); (try (refine gate_guard (by rfl) ?_; dsimp only)); refine box_event ?hg (N := 3) ?hd (cs := #[.int .i64 x.f0, .int .i64 x.f1]) (t := 44) ?hr ?_; (case hd => rfl); (case hg => rfl); (case hr => first | (go_simp; done) | (go_simp; rfl)); intro gb103 hg_ w103 hbox_ hb_; have n0_ := Aside0.mk (qd_ (by repeat (first | (with_reducible first | exact HB.out | apply qb_ | apply qa_ | apply qc_) | exact HB.out)) hb_); have GE103 := Aside0.mk ((by rw [hg_]; exact (qg_ (by repeat (first | (with_reducible first | exact HB.out | apply qb_ | apply qa_ | apply qc_) | exact HB.out))) : W.heap.size ≤ gb103)); have n1_ := Aside0.mk (hbox_); clear HB; have HB := n0_; have BK103 := n1_; clear n0_ n1_; clear hb_ hbox_ hg_; have hcz103_0 : w103.cell? ⟨gb103, 0, none⟩ = some (.int .i64 x.f0) := (qe_ BK103.out 0).trans rfl; have hcz103_1 : w103.cell? ⟨gb103, 1, none⟩ = some (.int .i64 x.f1) := (qe_ BK103.out 1).trans rfl; have hfz103_0 := qm_ BK103.out 0; have hfz103_1 := qm_ BK103.out 1; have hcw1_ := pw_cell_below HB.out hcW1; have hcw2_ := pw_cell_below HB.out hcW2))
  go_ret
  exact ⟨by rw [HK.out, Bool.true_and]; rfl, (by repeat (first | (with_reducible first | exact HB.out | apply qb_ | apply qa_ | apply qc_) | exact HB.out))⟩
 ·have hkb : (x.f0 == a1) = false := beq_false_of_ne hk
  have HK := Aside0.mk hkb
  clear hk
  go_enter Try.func29, Try.ntmps29
  go_wp2_with (first | ((with_reducible refine gate_dst (N := 3) rfl ?_); (try (refine gate_guard (by rfl) ?_; dsimp only)); refine box_event ?hg (N := 3) ?hd (cs := #[.int .i64 x.f0, .int .i64 x.f1]) (t := 44) ?hr ?_; (case hd => rfl); (case hg => rfl); (case hr => first | (go_simp; done) | (go_simp; rfl)); intro gb103 hg_ w103 hbox_ hb_; have n0_ := Aside0.mk (qd_ (by repeat (first | (with_reducible first | exact HB.out | apply qb_ | apply qa_ | apply qc_) | exact HB.out)) hb_); have GE103 := Aside0.mk ((by rw [hg_]; exact (qg_ (by repeat (first | (with_reducible first | exact HB.out | apply qb_ | apply qa_ | apply qc_) | exact HB.out))) : W.heap.size ≤ gb103)); have n1_ := Aside0.mk (hbox_); clear HB; have HB := n0_; have BK103 := n1_; clear n0_ n1_; clear hb_ hbox_ hg_; have hcz103_0 : w103.cell? ⟨gb103, 0, none⟩ = some (.int .i64 x.f0) := (qe_ BK103.out 0).trans rfl; have hcz103_1 : w103.cell? ⟨gb103, 1, none⟩ = some (.int .i64 x.f1) := (qe_ BK103.out 1).trans rfl; have hfz103_0 := qm_ BK103.out 0; have hfz103_1 := qm_ BK103.out 1; have hcw1_ := pw_cell_below HB.out hcW1; have hcw2_ := pw_cell_below HB.out hcW2))
  go_ret
  exact ⟨by rw [HK.out, Bool.false_and]; rfl, (by repeat (first | (with_reducible first | exact HB.out | apply qb_ | apply qa_ | apply qc_) | exact HB.out))⟩
open Go.Proofs.YtonggencfnaheaaW.Hw in
set_option maxHeartbeats 8000000 in
set_option maxRecDepth 100000 in
theorem ward_Kept.calls (A0 : Option Addr) (c0 : Nat) (l0 : List S44) (a1 : Int) (a2 : Int) (r : Bool) (w : World) (hr0 : Kd.C k44 w A0 l0.length l0) (hc0 : l0.length ≤ c0) (h : ward_Kept.f l0 a1 a2 = some r) :
  Calls Try.prog 15 #[.slice A0 l0.length c0, .int .i64 a1, .int .i64 a2] w fun e w' => e = .returned (.bool r) ∧ Below w.heap.size w w' := by
 unfold ward_Kept.f at h
 obtain rfl := Option.some.inj h
 clear h
 have HC := Aside0.mk (fun (W : World) (g1 g2 : Nat) (hW : Below w.heap.size w W) (hc1 : W.cell? ⟨g1, 0, none⟩ = some (.int .i64 a1)) (hc2 : W.cell? ⟨g2, 0, none⟩ = some (.int .i64 a2)) => ContainsFuncW.calls (fun x => x.f0 == a1 && decide (x.f1 > a2)) 29 #[.pointer (some ⟨g1, 0, none⟩), .pointer (some ⟨g2, 0, none⟩)] (fun args w => enters Try.prog Try.func29 (by kernel_rfl) (by kernel_rfl) args w) A0 c0 l0 W (ward_Kept.pred a1 a2 g1 g2 W hc1 hc2) (Kd.C_below hr0 hW))
 generalize l0.any (fun x => x.f0 == a1 && decide (x.f1 > a2)) = b at HC ⊢
 clear hr0 hc0
 have HB := Aside0.mk (Below.refl w.heap.size w)
 go_enter Try.func15, Try.ntmps15
 go_wp2_with (first | ((with_reducible refine gate_dst (N := 4) rfl ?_); (try (refine gate_guard (by rfl) ?_; dsimp only)); refine box_event ?hg (N := 4) ?hd (cs := #[.int .i64 a1]) (t := 3) ?hr ?_; (case hd => rfl); (case hg => rfl); (case hr => first | (go_simp; done) | (go_simp; rfl)); intro gb104 hg_ w104 hbox_ hb_; have n0_ := Aside0.mk (qd_ (by repeat (first | (with_reducible first | exact HB.out | apply qb_ | apply qa_ | apply qc_) | exact HB.out)) hb_); have GE104 := Aside0.mk ((by rw [hg_]; exact (qg_ (by repeat (first | (with_reducible first | exact HB.out | apply qb_ | apply qa_ | apply qc_) | exact HB.out))) : w.heap.size ≤ gb104)); have n1_ := Aside0.mk (hbox_); clear HB; have HB := n0_; have BK104 := n1_; clear n0_ n1_; clear hb_ hbox_ hg_; have hcz104_0 : w104.cell? ⟨gb104, 0, none⟩ = some (.int .i64 a1) := (qe_ BK104.out 0).trans rfl; have hfz104_0 := qm_ BK104.out 0) | ((with_reducible refine gate_dst (N := 5) rfl ?_); (try (refine gate_guard (by rfl) ?_; dsimp only)); refine box_event ?hg (N := 5) ?hd (cs := #[.int .i64 a2]) (t := 3) ?hr ?_; (case hd => rfl); (case hg => rfl); (case hr => first | (go_simp; done) | (go_simp; rfl)); intro gb105 hg_ w105 hbox_ hb_; have n0_ := Aside0.mk (qd_ (by repeat (first | (with_reducible first | exact HB.out | apply qb_ | apply qa_ | apply qc_) | exact HB.out)) hb_); have GE105 := Aside0.mk ((by rw [hg_]; exact (qg_ (by repeat (first | (with_reducible first | exact HB.out | apply qb_ | apply qa_ | apply qc_) | exact HB.out))) : w.heap.size ≤ gb105)); have n1_ := Aside0.mk (hbox_); have NB104_105 : Aside0 (gb104 ≠ gb105) := ⟨fun e_ => by have h1 := blk_lt (by (with_reducible repeat (first | refine qh_ ?_ _ | refine qj_ ?_ | refine qi_ ?_ _)); exact BK104.out); rw [e_, hg_] at h1; exact absurd h1 (Nat.lt_irrefl _)⟩; have m104_ := Aside0.mk (blk_bel (by (with_reducible repeat (first | refine qh_ ?_ _ | refine qj_ ?_ | refine qi_ ?_ _)); exact BK104.out) hb_); clear BK104; have BK104 := m104_; clear m104_; clear HB; have HB := n0_; have BK105 := n1_; clear n0_ n1_; clear hb_ hbox_ hg_; have hcz105_0 : w105.cell? ⟨gb105, 0, none⟩ = some (.int .i64 a2) := (qe_ BK105.out 0).trans rfl; have hfz105_0 := qm_ BK105.out 0) | (go_at_call 28; refine (HC.out _ gb104 gb105 (by repeat (first | (with_reducible first | exact HB.out | apply qb_ | apply qa_ | apply qc_) | exact HB.out)) ((qe_ (by (with_reducible repeat (first | refine qh_ ?_ _ | refine qj_ ?_ | refine qi_ ?_ _)); exact BK104.out) 0).trans rfl) ((qe_ (by (with_reducible repeat (first | refine qh_ ?_ _ | refine qj_ ?_ | refine qi_ ?_ _)); exact BK105.out) 0).trans rfl)).mono ?_; rintro e w3 ⟨rfl, hb3⟩; have n0_ := Aside0.mk (qd_ (by repeat (first | (with_reducible first | exact HB.out | apply qb_ | apply qa_ | apply qc_) | exact HB.out)) hb3); have m104_ := Aside0.mk (blk_bel (by (with_reducible repeat (first | refine qh_ ?_ _ | refine qj_ ?_ | refine qi_ ?_ _)); exact BK104.out) hb3); have m105_ := Aside0.mk (blk_bel (by (with_reducible repeat (first | refine qh_ ?_ _ | refine qj_ ?_ | refine qi_ ?_ _)); exact BK105.out) hb3); clear HB; have HB := n0_; clear n0_; clear BK104; have BK104 := m104_; clear m104_; clear BK105; have BK105 := m105_; clear m105_; clear hb3))
 go_ret
 exact ⟨by first | rfl | (simp; done) | (simp [*]; done), (by repeat (first | (with_reducible first | exact HB.out | apply qb_ | apply qa_ | apply qc_) | exact HB.out))⟩
end Go.Proofs.Ytonggencfnaheaa.P

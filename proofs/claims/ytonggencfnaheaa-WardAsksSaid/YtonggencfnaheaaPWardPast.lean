/- What this function of the program comes to, and that the machine's call does it: written by a program (wip/tool). No condition. -/
import Derived.Test.YtonggencfnaheaaP0
import Derived.Test.YtonggencfnaheaaPApiWard21
import Derived.Test.YtonggencfnaheaaPApiWard22
import Derived.Test.YtonggencfnaheaaHw
namespace Go.Proofs.Ytonggencfnaheaa.P
open Go.RowKit Go.Proofs.YtonggencfnaheaaW.PrintWords Go.Proofs.YtonggencfnaheaaW.PrintLast Go.Proofs.YtonggencfnaheaaW.PrintMore
attribute [local go_sem] max2_int min2_int max_two min_two max_three min_three max_four min_four Go.Proofs.YtonggencfnaheaaW.Hw.string_gtr   -- for this text's walks alone
set_option linter.unusedVariables false
set_option linter.unusedSimpArgs false
/-! ### ward_Past: function 10 -/
def ward_Past.f (l0 : List S44) (a1 : Int) : Option (List S44) := if l0.length < 8796093022208 then some (l0.filter (fun x => !decide (x.f1 ≤ a1))) else none
open Go.Proofs.YtonggencfnaheaaW.Hw in
set_option maxHeartbeats 4000000 in
theorem ward_Past.pred (a1 : Int) (g : Nat) (w : World) (row : Option Nat) (hc : w.cell? ⟨g, 0, none⟩ = some (.int .i64 a1)) (hne : some g ≠ row) : PredR Try.prog k44 23 #[.pointer (some ⟨g, 0, none⟩)] aggOf (fun x => decide (x.f1 ≤ a1)) w row := by
 intro W x cs hb hx
 have hcW := grown_cell hb hc hne
 obtain rfl := k44_open hx
 clear hx hb hc hne
 have HB := Aside0.mk (Below.refl W.heap.size W)
 go_enter Try.func23, Try.ntmps23
 go_wp2_with (first | ((with_reducible refine gate_dst (N := 2) rfl ?_); (try (refine gate_guard (by rfl) ?_; dsimp only)); refine box_event ?hg (N := 2) ?hd (cs := #[.int .i64 x.f0, .int .i64 x.f1]) (t := 44) ?hr ?_; (case hd => rfl); (case hg => rfl); (case hr => first | (go_simp; done) | (go_simp; rfl)); intro gb102 hg_ w102 hbox_ hb_; have n0_ := Aside0.mk (qd_ (by repeat (first | (with_reducible first | exact HB.out | apply qb_ | apply qa_ | apply qc_) | exact HB.out)) hb_); have GE102 := Aside0.mk ((by rw [hg_]; exact (qg_ (by repeat (first | (with_reducible first | exact HB.out | apply qb_ | apply qa_ | apply qc_) | exact HB.out))) : W.heap.size ≤ gb102)); have n1_ := Aside0.mk (hbox_); clear HB; have HB := n0_; have BK102 := n1_; clear n0_ n1_; clear hb_ hbox_ hg_; have hcz102_0 : w102.cell? ⟨gb102, 0, none⟩ = some (.int .i64 x.f0) := (qe_ BK102.out 0).trans rfl; have hcz102_1 : w102.cell? ⟨gb102, 1, none⟩ = some (.int .i64 x.f1) := (qe_ BK102.out 1).trans rfl; have hfz102_0 := qm_ BK102.out 0; have hfz102_1 := qm_ BK102.out 1; have hcw_ := pw_cell_below HB.out hcW))
 go_ret
 exact ⟨by first | rfl | (simp; done) | (simp [*]; done), (by repeat (first | (with_reducible first | exact HB.out | apply qb_ | apply qa_ | apply qc_) | exact HB.out))⟩
open Go.Proofs.YtonggencfnaheaaW.Hw in
set_option maxHeartbeats 8000000 in
set_option maxRecDepth 100000 in
theorem ward_Past.calls (A0 : Option Addr) (c0 : Nat) (l0 : List S44) (a1 : Int) (r : List S44) (w : World) (hr0 : Kd.C k44 w A0 l0.length l0) (hc0 : l0.length ≤ c0) (h : ward_Past.f l0 a1 = some r) :
  Calls Try.prog 10 #[.slice A0 l0.length c0, .int .i64 a1] w fun e w' => ∃ v0_ : Value, e = .returned v0_ ∧ Kd.R k44 44 w' w.heap.size (fun _ => True) v0_ r ∧ Below w.heap.size w w' := by
 unfold ward_Past.f at h
 by_cases hl : l0.length < 8796093022208
 case neg => rw [if_neg hl] at h; cases h
 rw [if_pos hl] at h
 obtain rfl := Option.some.inj h
 clear h
 have HL := Aside0.mk (show api_Ward_22.f l0 = some l0 by unfold api_Ward_22.f; rw [if_pos hl])
 have HR := Aside0.mk hr0
 have HC := Aside0.mk hc0
 clear hr0 hc0 hl
 have HB := Aside0.mk (Below.refl w.heap.size w)
 have EG := Aside0.mk (fun args w => enters Try.prog Try.func23 (by kernel_rfl) (by kernel_rfl) args w)
 go_enter Try.func10, Try.ntmps10
 go_wp2_with (first | ((with_reducible refine gate_dst (N := 3) rfl ?_); (try (refine gate_guard (by rfl) ?_; dsimp only)); refine box_event ?hg (N := 3) ?hd (cs := #[.int .i64 a1]) (t := 3) ?hr ?_; (case hd => rfl); (case hg => rfl); (case hr => first | (go_simp; done) | (go_simp; rfl)); intro gb101 hg_ w101 hbox_ hb_; have n0_ := Aside0.mk (qd_ (by repeat (first | (with_reducible first | exact HB.out | apply qb_ | apply qa_ | apply qc_) | exact HB.out)) hb_); have GE101 := Aside0.mk ((by rw [hg_]; exact (qg_ (by repeat (first | (with_reducible first | exact HB.out | apply qb_ | apply qa_ | apply qc_) | exact HB.out))) : w.heap.size ≤ gb101)); have n1_ := Aside0.mk (hbox_); clear HB; have HB := n0_; have BK101 := n1_; clear n0_ n1_; clear hb_ hbox_ hg_; have hcz101_0 : w101.cell? ⟨gb101, 0, none⟩ = some (.int .i64 a1) := (qe_ BK101.out 0).trans rfl; have hfz101_0 := qm_ BK101.out 0; have LT101 := Aside0.mk (blk_lt BK101.out)) | (go_at_call 22; refine (api_Ward_22.calls A0 c0 l0 l0 _ (Kd.C_below HR.out (by repeat (first | (with_reducible first | exact HB.out | apply qb_ | apply qa_ | apply qc_) | exact HB.out))) HC.out HL.out).mono ?_; rintro e w3 ⟨v5, rfl, ho5, hb3⟩; have NE5 := Aside0.mk (show some gb101 ≠ v5.ownBlock from fun e_ => by have h1 := Kd.R_base ho5 gb101 e_.symm; have h2 := LT101.out; omega); have HO5 := Aside0.mk (Kd.R_lower ho5 (qg_ (by repeat (first | (with_reducible first | exact HB.out | apply qb_ | apply qa_ | apply qc_) | exact HB.out)))); have n0_ := Aside0.mk (qd_ (by repeat (first | (with_reducible first | exact HB.out | apply qb_ | apply qa_ | apply qc_) | exact HB.out)) hb3); have m101_ := Aside0.mk (blk_bel (by (with_reducible repeat (first | refine qh_ ?_ _ | refine qj_ ?_ | refine qi_ ?_ _)); exact BK101.out) hb3); clear HB; have HB := n0_; clear n0_; clear BK101; have BK101 := m101_; clear m101_; clear hb3; clear ho5) | (go_at_call 21; refine (DeleteFuncW.calls (fun x => decide (x.f1 ≤ a1)) 23 #[.pointer (some ⟨gb101, 0, none⟩)] EG.out v5 l0 w.heap.size (fun _ => True) _ (ward_Past.pred a1 gb101 _ v5.ownBlock ((qe_ (by (with_reducible repeat (first | refine qh_ ?_ _ | refine qj_ ?_ | refine qi_ ?_ _)); exact BK101.out) 0).trans rfl) NE5.out) (by (with_reducible repeat (first | apply Kd.ql_ | apply Kd.qk_ | apply Kd.R_drew)); exact HO5.out) (qg_ (by repeat (first | (with_reducible first | exact HB.out | apply qb_ | apply qa_ | apply qc_) | exact HB.out)))).mono ?_; rintro e w4 ⟨v6, rfl, ho6, hg6, _⟩; have n0_ := Aside0.mk (((by repeat (first | (with_reducible first | exact HB.out | apply qb_ | apply qa_ | apply qc_) | exact HB.out)) : Below w.heap.size w w3).grown hg6 (qg_ (by repeat (first | (with_reducible first | exact HB.out | apply qb_ | apply qa_ | apply qc_) | exact HB.out))) (Kd.R_base HO5.out)); clear HB; have HB := n0_; have HO6 := Aside0.mk ho6; clear n0_ ho6 hg6))
 go_ret
 exact ⟨_, rfl, HO6.out, HB.out⟩
end Go.Proofs.Ytonggencfnaheaa.P

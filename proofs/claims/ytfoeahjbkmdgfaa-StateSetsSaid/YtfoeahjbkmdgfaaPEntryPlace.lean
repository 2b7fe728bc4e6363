/- What this function of the program comes to, and that the machine's call does it: written by a program (wip/tool). No condition. -/
import Derived.Test.YtfoeahjbkmdgfaaP0
import Derived.Test.YtfoeahjbkmdgfaaPApiEntry62
import Derived.Test.YtfoeahjbkmdgfaaHw
namespace Go.Proofs.Ytfoeahjbkmdgfaa.P
open Go.RowKit Go.Proofs.YtfoeahjbkmdgfaaW.PrintWords Go.Proofs.YtfoeahjbkmdgfaaW.PrintLast Go.Proofs.YtfoeahjbkmdgfaaW.PrintMore
attribute [local go_sem] max2_int min2_int max_two min_two vb_ va_ max_four min_four Go.Proofs.YtfoeahjbkmdgfaaW.Hw.string_gtr   -- for this text's walks alone
set_option linter.unusedVariables false
set_option linter.unusedSimpArgs false
/-! ### entry_place: function 63 -/
def entry_place.f (l0 : List S40) (a1 : Int) : Option Int := some (Go.Proofs.YtfoeahjbkmdgfaaW.Hw.idxI (fun x => x.f0 == a1) l0)
open Go.Proofs.YtfoeahjbkmdgfaaW.Hw in
set_option maxHeartbeats 4000000 in
theorem entry_place.pred (a1 : Int) (g : Nat) (w : World) (hc : w.cell? ⟨g, 0, none⟩ = some (.int .i64 a1)) : PredK Try.prog k40 65 #[.pointer (some ⟨g, 0, none⟩)] aggOf (fun x => x.f0 == a1) w := by
 intro W x cs hb hx
 have hcW := (hb.cell (wb_ w _ hc)).trans hc
 obtain rfl := k40_open hx
 clear hx hb hc
 have HB := Aside0.mk (Below.refl W.heap.size W)
 go_enter Try.func65, Try.ntmps65
 go_wp2_with (first | ((with_reducible refine qq_ (N := 2) rfl ?_); (try (refine qz_ (by rfl) ?_; dsimp only)); refine qp_ ?hg (N := 2) ?hd (cs := #[.int .i64 x.f0, .int .i64 x.f1, .string x.f2]) (t := 40) ?hr ?_; (case hd => rfl); (case hg => rfl); (case hr => first | (go_simp; done) | (go_simp; rfl)); intro gb102 hg_ w102 hbox_ hb_; have n0_ := Aside0.mk (ql_ (by repeat (first | (with_reducible first | exact HB.out | apply qc_ | apply qa_ | apply qb_) | exact HB.out)) hb_); have GE102 := Aside0.mk ((by rw [hg_]; exact (qj_ (by repeat (first | (with_reducible first | exact HB.out | apply qc_ | apply qa_ | apply qb_) | exact HB.out))) : W.heap.size ≤ gb102)); have n1_ := Aside0.mk (hbox_); clear HB; have HB := n0_; have BK102 := n1_; clear n0_ n1_; clear hb_ hbox_ hg_; have hcz102_0 : w102.cell? ⟨gb102, 0, none⟩ = some (.int .i64 x.f0) := (qg_ BK102.out 0).trans rfl; have hcz102_1 : w102.cell? ⟨gb102, 1, none⟩ = some (.int .i64 x.f1) := (qg_ BK102.out 1).trans rfl; have hcz102_2 : w102.cell? ⟨gb102, 2, none⟩ = some (.string x.f2) := (qg_ BK102.out 2).trans rfl; have hfz102_0 := qi_ BK102.out 0; have hfz102_1 := qi_ BK102.out 1; have hfz102_2 := qi_ BK102.out 2; have hcw_ := pw_cell_below HB.out hcW))
 go_ret
 exact ⟨by first | rfl | (simp; done) | (simp [*]; done), (by repeat (first | (with_reducible first | exact HB.out | apply qc_ | apply qa_ | apply qb_) | exact HB.out))⟩
open Go.Proofs.YtfoeahjbkmdgfaaW.Hw in
set_option maxHeartbeats 8000000 in
set_option maxRecDepth 100000 in
theorem entry_place.calls (A0 : Option Addr) (c0 : Nat) (l0 : List S40) (a1 : Int) (r : Int) (w : World) (hr0 : Kd.C k40 w A0 l0.length l0) (hc0 : l0.length ≤ c0) (h : entry_place.f l0 a1 = some r) :
  Calls Try.prog 63 #[.slice A0 l0.length c0, .int .i64 a1] w fun e w' => e = .returned (.int .i64 r) ∧ Below w.heap.size w w' := by
 unfold entry_place.f at h
 obtain rfl := Option.some.inj h
 clear h
 have HC := Aside0.mk (fun (W : World) (g : Nat) (hW : Below w.heap.size w W) (hc : W.cell? ⟨g, 0, none⟩ = some (.int .i64 a1)) => IndexFuncE.calls (fun x => x.f0 == a1) 65 #[.pointer (some ⟨g, 0, none⟩)] (fun args w => enters Try.prog Try.func65 (by kernel_rfl) (by kernel_rfl) args w) A0 c0 l0 W (entry_place.pred a1 g W hc) (Kd.C_below hr0 hW))
 generalize idxI (fun x : S40 => x.f0 == a1) l0 = b at HC ⊢
 clear hr0 hc0
 have HB := Aside0.mk (Below.refl w.heap.size w)
 go_enter Try.func63, Try.ntmps63
 go_wp2_with (first | ((with_reducible refine qq_ (N := 3) rfl ?_); (try (refine qz_ (by rfl) ?_; dsimp only)); refine qp_ ?hg (N := 3) ?hd (cs := #[.int .i64 a1]) (t := 3) ?hr ?_; (case hd => rfl); (case hg => rfl); (case hr => first | (go_simp; done) | (go_simp; rfl)); intro gb101 hg_ w101 hbox_ hb_; have n0_ := Aside0.mk (ql_ (by repeat (first | (with_reducible first | exact HB.out | apply qc_ | apply qa_ | apply qb_) | exact HB.out)) hb_); have GE101 := Aside0.mk ((by rw [hg_]; exact (qj_ (by repeat (first | (with_reducible first | exact HB.out | apply qc_ | apply qa_ | apply qb_) | exact HB.out))) : w.heap.size ≤ gb101)); have n1_ := Aside0.mk (hbox_); clear HB; have HB := n0_; have BK101 := n1_; clear n0_ n1_; clear hb_ hbox_ hg_; have hcz101_0 : w101.cell? ⟨gb101, 0, none⟩ = some (.int .i64 a1) := (qg_ BK101.out 0).trans rfl; have hfz101_0 := qi_ BK101.out 0) | (go_at_call 62; refine (HC.out _ gb101 (by repeat (first | (with_reducible first | exact HB.out | apply qc_ | apply qa_ | apply qb_) | exact HB.out)) ((qg_ (by (with_reducible repeat (first | refine qe_ ?_ _ | refine qh_ ?_ | refine qd_ ?_ _)); exact BK101.out) 0).trans rfl)).mono ?_; rintro e w3 ⟨rfl, hb3⟩; have n0_ := Aside0.mk (ql_ (by repeat (first | (with_reducible first | exact HB.out | apply qc_ | apply qa_ | apply qb_) | exact HB.out)) hb3); have m101_ := Aside0.mk (blk_bel (by (with_reducible repeat (first | refine qe_ ?_ _ | refine qh_ ?_ | refine qd_ ?_ _)); exact BK101.out) hb3); clear HB; have HB := n0_; clear n0_; clear BK101; have BK101 := m101_; clear m101_; clear hb3))
 go_ret
 exact ⟨by first | rfl | (simp; done) | (simp [*]; done), (by repeat (first | (with_reducible first | exact HB.out | apply qc_ | apply qa_ | apply qb_) | exact HB.out))⟩
end Go.Proofs.Ytfoeahjbkmdgfaa.P

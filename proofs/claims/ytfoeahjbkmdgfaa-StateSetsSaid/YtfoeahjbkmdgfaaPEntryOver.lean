/- What this function of the program comes to, and that the machine's call does it: written by a program (wip/tool). No condition. -/
import Derived.Test.YtfoeahjbkmdgfaaP0
import Derived.Test.YtfoeahjbkmdgfaaPEq0
import Derived.Test.YtfoeahjbkmdgfaaPEntryHigher
import Derived.Test.YtfoeahjbkmdgfaaPApiEntry54
import Derived.Test.YtfoeahjbkmdgfaaPEntryPlace
import Derived.Test.YtfoeahjbkmdgfaaPEntryGet
import Derived.Test.YtfoeahjbkmdgfaaHw
namespace Go.Proofs.Ytfoeahjbkmdgfaa.P
open Go.RowKit Go.Proofs.YtfoeahjbkmdgfaaW.PrintWords Go.Proofs.YtfoeahjbkmdgfaaW.PrintLast Go.Proofs.YtfoeahjbkmdgfaaW.PrintMore
attribute [local go_sem] max2_int min2_int max_two min_two vb_ va_ max_four min_four Go.Proofs.YtfoeahjbkmdgfaaW.Hw.string_gtr   -- for this text's walks alone
set_option linter.unusedVariables false
set_option linter.unusedSimpArgs false
/-! ### entry_Over: function 39 -/
theorem entry_Get.total (l0 : List S40) (a1 : Int) : ∃ r1 r2 r3 r4, entry_Get.f l0 a1 = some (r1, r2, r3, r4) := by
 unfold entry_Get.f entry_place.f
 simp only [Option.bind_some]
 split
 ·exact ⟨_, _, _, _, rfl⟩
 ·have := (Go.Proofs.YtfoeahjbkmdgfaaW.Hw.idxI_range (fun x : S40 => x.f0 == a1) l0).2
  rw [if_pos (by omega), if_pos this]
  exact ⟨_, _, _, _, rfl⟩
theorem entry_higher.total (a b : S40) : ∃ r1 r2 r3, entry_higher.f a.f0 a.f1 a.f2 b.f0 b.f1 b.f2 = some (r1, r2, r3) := by
 unfold entry_higher.f
 repeat' split
 all_goals exact ⟨_, _, _, rfl⟩
theorem neq_run40 (q1 r1 q2 r2 : Int) (q3 r3 : ByteArray) (W : World) : (binOp .neq 40 (.agg #[.int .i64 q1, .int .i64 q2, .string q3]) (.agg #[.int .i64 r1, .int .i64 r2, .string r3])).run Try.prog W = .ok (.bool (!(q1 == r1) || (!(q2 == r2) || !(q3.toList == r3.toList)))) W := by
 have h := eqA40 9998 W q1 r1 q2 r2 q3 r3
 simp only [binOp, Op.equal, Op.maxDepth]
 go_simp
 try simp [h, Bool.not_and]
/-- An entry that isn't known there, or is higher. -/
def entry_Over.news (l0 : List S40) (y : S40) : Bool :=
 match entry_Get.f l0 y.f0 with
 | some (x0, x1, x2, true) => (match entry_higher.f x0 x1 x2 y.f0 y.f1 y.f2 with | some (z0, z1, z2) => !(z0 == x0) || (!(z1 == x1) || !(z2.toList == x2.toList)) | none => false)
 | _ => true
def entry_Over.f (l0 l1 : List S40) : Option Bool := some (!(l1.any (entry_Over.news l0)))
open Go.Proofs.YtfoeahjbkmdgfaaW.Hw in
set_option maxHeartbeats 8000000 in
set_option maxRecDepth 100000 in
theorem entry_Over.pred (A0 : Option Addr) (c0 : Nat) (l0 : List S40) (g : Nat) (w : World) (hc : w.cell? ⟨g, 0, none⟩ = some (.slice A0 l0.length c0)) (hr0 : Kd.C k40 w A0 l0.length l0) (hc0 : l0.length ≤ c0) : PredK Try.prog k40 55 #[.pointer (some ⟨g, 0, none⟩)] aggOf (entry_Over.news l0) w := by
 intro W x cs hb hx
 have hcW := (hb.cell (wb_ w _ hc)).trans hc
 have HR := Aside0.mk (Kd.C_below hr0 hb)
 have HC := Aside0.mk hc0
 obtain rfl := k40_open hx
 clear hx hb hc hr0 hc0
 have HB := Aside0.mk (Below.refl W.heap.size W)
 obtain ⟨r1, r2, r3, r4, hget⟩ := entry_Get.total l0 x.f0
 have HG := Aside0.mk hget
 cases r4 with
 | false =>
  have e : entry_Over.news l0 x = true := by unfold entry_Over.news; rw [hget]
  rw [e]
  clear hget e
  go_enter Try.func55, Try.ntmps55
  go_wp2_with (first | ((with_reducible refine qq_ (N := 2) rfl ?_); (try (refine qz_ (by rfl) ?_; dsimp only)); refine qp_ ?hg (N := 2) ?hd (cs := #[.int .i64 x.f0, .int .i64 x.f1, .string x.f2]) (t := 40) ?hr ?_; (case hd => rfl); (case hg => rfl); (case hr => first | (go_simp; done) | (go_simp; rfl)); intro gb102 hg_ w102 hbox_ hb_; have n0_ := Aside0.mk (ql_ (by repeat (first | (with_reducible first | exact HB.out | apply qc_ | apply qa_ | apply qb_) | exact HB.out)) hb_); have GE102 := Aside0.mk ((by rw [hg_]; exact (qj_ (by repeat (first | (with_reducible first | exact HB.out | apply qc_ | apply qa_ | apply qb_) | exact HB.out))) : W.heap.size ≤ gb102)); have n1_ := Aside0.mk (hbox_); clear HB; have HB := n0_; have BK102 := n1_; clear n0_ n1_; clear hb_ hbox_ hg_; have hcz102_0 : w102.cell? ⟨gb102, 0, none⟩ = some (.int .i64 x.f0) := (qg_ BK102.out 0).trans rfl; have hcz102_1 : w102.cell? ⟨gb102, 1, none⟩ = some (.int .i64 x.f1) := (qg_ BK102.out 1).trans rfl; have hcz102_2 : w102.cell? ⟨gb102, 2, none⟩ = some (.string x.f2) := (qg_ BK102.out 2).trans rfl; have hfz102_0 := qi_ BK102.out 0; have hfz102_1 := qi_ BK102.out 1; have hfz102_2 := qi_ BK102.out 2; have hcw_ := pw_cell_below HB.out hcW) | ((with_reducible refine qq_ (N := 4) rfl ?_); (try (refine qz_ (by rfl) ?_; dsimp only)); refine qp_ ?hg (N := 4) ?hd (cs := #[.int .i64 0, .int .i64 0, .string (⟨#[]⟩ : ByteArray)]) (t := 40) ?hr ?_; (case hd => rfl); (case hg => rfl); (case hr => first | (go_simp; done) | (go_simp; rfl)); intro gb103 hg_ w103 hbox_ hb_; have n0_ := Aside0.mk (ql_ (by repeat (first | (with_reducible first | exact HB.out | apply qc_ | apply qa_ | apply qb_) | exact HB.out)) hb_); have GE103 := Aside0.mk ((by rw [hg_]; exact (qj_ (by repeat (first | (with_reducible first | exact HB.out | apply qc_ | apply qa_ | apply qb_) | exact HB.out))) : W.heap.size ≤ gb103)); have n1_ := Aside0.mk (hbox_); clear HB; have HB := n0_; have BK103 := n1_; clear n0_ n1_; clear hb_ hbox_ hg_; have hcz103_0 : w103.cell? ⟨gb103, 0, none⟩ = some (.int .i64 0) := (qg_ BK103.out 0).trans rfl; have hcz103_1 : w103.cell? ⟨gb103, 1, none⟩ = some (.int .i64 0) := (qg_ BK103.out 1).trans rfl; have hcz103_2 : w103.cell? ⟨gb103, 2, none⟩ = some (.string (⟨#[]⟩ : ByteArray)) := (qg_ BK103.out 2).trans rfl; have hfz103_0 := qi_ BK103.out 0; have hfz103_1 := qi_ BK103.out 1; have hfz103_2 := qi_ BK103.out 2) | (go_at_call 56; refine (entry_Get.calls A0 c0 l0 x.f0 r1 r2 r3 false _ (Kd.C_below HR.out (by repeat (first | (with_reducible first | exact HB.out | apply qc_ | apply qa_ | apply qb_) | exact HB.out))) HC.out HG.out).mono ?_; rintro e w3 ⟨rfl, hb3⟩; have n0_ := Aside0.mk (ql_ (by repeat (first | (with_reducible first | exact HB.out | apply qc_ | apply qa_ | apply qb_) | exact HB.out)) hb3); have m102_ := Aside0.mk (blk_bel (by (with_reducible repeat (first | refine qe_ ?_ _ | refine qh_ ?_ | refine qd_ ?_ _)); exact BK102.out) hb3); clear HB; have HB := n0_; clear n0_; clear BK102; have BK102 := m102_; clear m102_; clear hb3))
  go_quiet (fail)
  go_wp2
  go_ret
  exact ⟨by first | rfl | (simp; done) | (simp [*]; done), (by repeat (first | (with_reducible first | exact HB.out | apply qc_ | apply qa_ | apply qb_ | refine qf_ ?_ GE103.out) | exact HB.out))⟩
 | true =>
  obtain ⟨q1, q2, q3, hhi⟩ := entry_higher.total ⟨r1, r2, r3⟩ x
  have e : entry_Over.news l0 x = (!(q1 == r1) || (!(q2 == r2) || !(q3.toList == r3.toList))) := by unfold entry_Over.news; rw [hget]; simp only [hhi]
  rw [e]
  have HI := Aside0.mk hhi
  have hne : ∀ W, (binOp .neq 40 (.agg #[.int .i64 q1, .int .i64 q2, .string q3]) (.agg #[.int .i64 r1, .int .i64 r2, .string r3])).run Try.prog W = .ok (.bool (!(q1 == r1) || (!(q2 == r2) || !(q3.toList == r3.toList)))) W := neq_run40 q1 r1 q2 r2 q3 r3
  generalize (!(q1 == r1) || (!(q2 == r2) || !(q3.toList == r3.toList))) = b at hne ⊢
  clear hget hhi e
  go_enter Try.func55, Try.ntmps55
  go_wp2_with (first | ((with_reducible refine qq_ (N := 2) rfl ?_); (try (refine qz_ (by rfl) ?_; dsimp only)); refine qp_ ?hg (N := 2) ?hd (cs := #[.int .i64 x.f0, .int .i64 x.f1, .string x.f2]) (t := 40) ?hr ?_; (case hd => rfl); (case hg => rfl); (case hr => first | (go_simp; done) | (go_simp; rfl)); intro gb102 hg_ w102 hbox_ hb_; have n0_ := Aside0.mk (ql_ (by repeat (first | (with_reducible first | exact HB.out | apply qc_ | apply qa_ | apply qb_) | exact HB.out)) hb_); have GE102 := Aside0.mk ((by rw [hg_]; exact (qj_ (by repeat (first | (with_reducible first | exact HB.out | apply qc_ | apply qa_ | apply qb_) | exact HB.out))) : W.heap.size ≤ gb102)); have n1_ := Aside0.mk (hbox_); clear HB; have HB := n0_; have BK102 := n1_; clear n0_ n1_; clear hb_ hbox_ hg_; have hcz102_0 : w102.cell? ⟨gb102, 0, none⟩ = some (.int .i64 x.f0) := (qg_ BK102.out 0).trans rfl; have hcz102_1 : w102.cell? ⟨gb102, 1, none⟩ = some (.int .i64 x.f1) := (qg_ BK102.out 1).trans rfl; have hcz102_2 : w102.cell? ⟨gb102, 2, none⟩ = some (.string x.f2) := (qg_ BK102.out 2).trans rfl; have hfz102_0 := qi_ BK102.out 0; have hfz102_1 := qi_ BK102.out 1; have hfz102_2 := qi_ BK102.out 2; have hcw_ := pw_cell_below HB.out hcW) | ((with_reducible refine qq_ (N := 4) rfl ?_); (try (refine qz_ (by rfl) ?_; dsimp only)); refine qp_ ?hg (N := 4) ?hd (cs := #[.int .i64 0, .int .i64 0, .string (⟨#[]⟩ : ByteArray)]) (t := 40) ?hr ?_; (case hd => rfl); (case hg => rfl); (case hr => first | (go_simp; done) | (go_simp; rfl)); intro gb103 hg_ w103 hbox_ hb_; have n0_ := Aside0.mk (ql_ (by repeat (first | (with_reducible first | exact HB.out | apply qc_ | apply qa_ | apply qb_) | exact HB.out)) hb_); have GE103 := Aside0.mk ((by rw [hg_]; exact (qj_ (by repeat (first | (with_reducible first | exact HB.out | apply qc_ | apply qa_ | apply qb_) | exact HB.out))) : W.heap.size ≤ gb103)); have n1_ := Aside0.mk (hbox_); have NB102_103 : Aside0 (gb102 ≠ gb103) := ⟨fun e_ => by have h1 := blk_lt (by (with_reducible repeat (first | refine qe_ ?_ _ | refine qh_ ?_ | refine qd_ ?_ _)); exact BK102.out); rw [e_, hg_] at h1; exact absurd h1 (Nat.lt_irrefl _)⟩; have m102_ := Aside0.mk (blk_bel (by (with_reducible repeat (first | refine qe_ ?_ _ | refine qh_ ?_ | refine qd_ ?_ _)); exact BK102.out) hb_); clear BK102; have BK102 := m102_; clear m102_; clear HB; have HB := n0_; have BK103 := n1_; clear n0_ n1_; clear hb_ hbox_ hg_; have hcz103_0 : w103.cell? ⟨gb103, 0, none⟩ = some (.int .i64 0) := (qg_ BK103.out 0).trans rfl; have hcz103_1 : w103.cell? ⟨gb103, 1, none⟩ = some (.int .i64 0) := (qg_ BK103.out 1).trans rfl; have hcz103_2 : w103.cell? ⟨gb103, 2, none⟩ = some (.string (⟨#[]⟩ : ByteArray)) := (qg_ BK103.out 2).trans rfl; have hfz103_0 := qi_ BK103.out 0; have hfz103_1 := qi_ BK103.out 1; have hfz103_2 := qi_ BK103.out 2; have hcw103_102_0 : w103.cell? ⟨gb102, 0, none⟩ = some (.int .i64 x.f0) := (qg_ BK102.out 0).trans rfl; have hcw103_102_1 : w103.cell? ⟨gb102, 1, none⟩ = some (.int .i64 x.f1) := (qg_ BK102.out 1).trans rfl; have hcw103_102_2 : w103.cell? ⟨gb102, 2, none⟩ = some (.string x.f2) := (qg_ BK102.out 2).trans rfl) | (go_at_call 56; refine (entry_Get.calls A0 c0 l0 x.f0 r1 r2 r3 true _ (Kd.C_below HR.out (by repeat (first | (with_reducible first | exact HB.out | apply qc_ | apply qa_ | apply qb_) | exact HB.out))) HC.out HG.out).mono ?_; rintro e w3 ⟨rfl, hb3⟩; have n0_ := Aside0.mk (ql_ (by repeat (first | (with_reducible first | exact HB.out | apply qc_ | apply qa_ | apply qb_) | exact HB.out)) hb3); have m102_ := Aside0.mk (blk_bel (by (with_reducible repeat (first | refine qe_ ?_ _ | refine qh_ ?_ | refine qd_ ?_ _)); exact BK102.out) hb3); clear HB; have HB := n0_; clear n0_; clear BK102; have BK102 := m102_; clear m102_; clear hb3))
  have HB5 := Aside0.mk (qf_ (qf_ (qf_ HB.out GE103.out (j := 0) (v := .int .i64 r1)) GE103.out (j := 1) (v := .int .i64 r2)) GE103.out (j := 2) (v := .string r3))
  have BK5 := Aside0.mk (show _ = some (Obj.cells #[.int .i64 r1, .int .i64 r2, .string r3] 40 (0, 0)) from blk_set (blk_set (blk_set BK103.out 0 (.int .i64 r1)) 1 (.int .i64 r2)) 2 (.string r3))
  have BK6 := Aside0.mk (qx_ (p := ⟨gb103, 2, none⟩) (qx_ (p := ⟨gb103, 1, none⟩) (qx_ (p := ⟨gb103, 0, none⟩) BK102.out NB102_103.out (.int .i64 r1)) NB102_103.out (.int .i64 r2)) NB102_103.out (.string r3))
  generalize hw5 : ((w103.setCell ⟨gb103, 0, none⟩ (.int .i64 r1)).setCell ⟨gb103, 1, none⟩ (.int .i64 r2)).setCell ⟨gb103, 2, none⟩ (.string r3) = w5 at HB5 BK5 BK6 ⊢
  clear hw5 HB BK102 BK103
  have HB := HB5
  have BK103 := BK5
  have BK102 := BK6
  clear HB5 BK5 BK6
  have hcw5_102_0 : w5.cell? ⟨gb102, 0, none⟩ = some (.int .i64 x.f0) := (qg_ BK102.out 0).trans rfl; have hcw5_102_1 : w5.cell? ⟨gb102, 1, none⟩ = some (.int .i64 x.f1) := (qg_ BK102.out 1).trans rfl; have hcw5_102_2 : w5.cell? ⟨gb102, 2, none⟩ = some (.string x.f2) := (qg_ BK102.out 2).trans rfl
  have hcw5_103_0 : w5.cell? ⟨gb103, 0, none⟩ = some (.int .i64 r1) := (qg_ BK103.out 0).trans rfl; have hcw5_103_1 : w5.cell? ⟨gb103, 1, none⟩ = some (.int .i64 r2) := (qg_ BK103.out 1).trans rfl; have hcw5_103_2 : w5.cell? ⟨gb103, 2, none⟩ = some (.string r3) := (qg_ BK103.out 2).trans rfl
  go_region_with (first | (go_at_call 51; refine (entry_higher.calls r1 r2 r3 x.f0 x.f1 x.f2 q1 q2 q3 _ HI.out).mono ?_; rintro e w6 ⟨rfl, hb6⟩; have n0_ := Aside0.mk (ql_ (by repeat (first | (with_reducible first | exact HB.out | apply qc_ | apply qa_ | apply qb_) | exact HB.out)) hb6); have m102_ := Aside0.mk (blk_bel (by (with_reducible repeat (first | refine qe_ ?_ _ | refine qh_ ?_ | refine qd_ ?_ _)); exact BK102.out) hb6); have m103_ := Aside0.mk (blk_bel (by (with_reducible repeat (first | refine qe_ ?_ _ | refine qh_ ?_ | refine qd_ ?_ _)); exact BK103.out) hb6); clear HB; have HB := n0_; clear n0_; clear BK102; have BK102 := m102_; clear m102_; clear BK103; have BK103 := m103_; clear m103_; clear hb6; have hcw6_102_0 : w6.cell? ⟨gb102, 0, none⟩ = some (.int .i64 x.f0) := (qg_ BK102.out 0).trans rfl; have hcw6_102_1 : w6.cell? ⟨gb102, 1, none⟩ = some (.int .i64 x.f1) := (qg_ BK102.out 1).trans rfl; have hcw6_102_2 : w6.cell? ⟨gb102, 2, none⟩ = some (.string x.f2) := (qg_ BK102.out 2).trans rfl; have hcw6_103_0 : w6.cell? ⟨gb103, 0, none⟩ = some (.int .i64 r1) := (qg_ BK103.out 0).trans rfl; have hcw6_103_1 : w6.cell? ⟨gb103, 1, none⟩ = some (.int .i64 r2) := (qg_ BK103.out 1).trans rfl; have hcw6_103_2 : w6.cell? ⟨gb103, 2, none⟩ = some (.string r3) := (qg_ BK103.out 2).trans rfl))
  all_goals go_wp2
  all_goals go_ret
  all_goals exact ⟨by first | rfl | (simp; done) | (simp [*]; done), (by repeat (first | (with_reducible first | exact HB.out | apply qc_ | apply qa_ | apply qb_) | exact HB.out))⟩
open Go.Proofs.YtfoeahjbkmdgfaaW.Hw in
set_option maxHeartbeats 8000000 in
set_option maxRecDepth 100000 in
theorem entry_Over.calls (A0 : Option Addr) (c0 : Nat) (l0 : List S40) (A1 : Option Addr) (c1 : Nat) (l1 : List S40) (r : Bool) (w : World) (hr0 : Kd.C k40 w A0 l0.length l0) (hc0 : l0.length ≤ c0) (hr1 : Kd.C k40 w A1 l1.length l1) (hc1 : l1.length ≤ c1) (h : entry_Over.f l0 l1 = some r) :
  Calls Try.prog 39 #[.slice A0 l0.length c0, .slice A1 l1.length c1] w fun e w' => e = .returned (.bool r) ∧ Below w.heap.size w w' := by
 unfold entry_Over.f at h
 obtain rfl := Option.some.inj h
 clear h
 have HC := Aside0.mk (fun (W : World) (g : Nat) (hW : Below w.heap.size w W) (hc : W.cell? ⟨g, 0, none⟩ = some (.slice A0 l0.length c0)) => ContainsFuncE.calls (entry_Over.news l0) 55 #[.pointer (some ⟨g, 0, none⟩)] (fun args w => enters Try.prog Try.func55 (by kernel_rfl) (by kernel_rfl) args w) A1 c1 l1 W (entry_Over.pred A0 c0 l0 g W hc (Kd.C_below hr0 hW) hc0) (Kd.C_below hr1 hW))
 generalize l1.any (entry_Over.news l0) = b at HC ⊢
 clear hr0 hc0 hr1 hc1
 have HB := Aside0.mk (Below.refl w.heap.size w)
 go_enter Try.func39, Try.ntmps39
 go_wp2_with (first | ((with_reducible refine qq_ (N := 2) rfl ?_); (try (refine qz_ (by rfl) ?_; dsimp only)); refine qp_ ?hg (N := 2) ?hd (cs := #[.slice A0 l0.length c0]) (t := 22) ?hr ?_; (case hd => rfl); (case hg => rfl); (case hr => first | (go_simp; done) | (go_simp; rfl)); intro gb101 hg_ w101 hbox_ hb_; have n0_ := Aside0.mk (ql_ (by repeat (first | (with_reducible first | exact HB.out | apply qc_ | apply qa_ | apply qb_) | exact HB.out)) hb_); have GE101 := Aside0.mk ((by rw [hg_]; exact (qj_ (by repeat (first | (with_reducible first | exact HB.out | apply qc_ | apply qa_ | apply qb_) | exact HB.out))) : w.heap.size ≤ gb101)); have n1_ := Aside0.mk (hbox_); clear HB; have HB := n0_; have BK101 := n1_; clear n0_ n1_; clear hb_ hbox_ hg_; have hcz101_0 : w101.cell? ⟨gb101, 0, none⟩ = some (.slice A0 l0.length c0) := (qg_ BK101.out 0).trans rfl; have hfz101_0 := qi_ BK101.out 0) | (go_at_call 54; refine (HC.out _ gb101 (by repeat (first | (with_reducible first | exact HB.out | apply qc_ | apply qa_ | apply qb_) | exact HB.out)) ((qg_ (by (with_reducible repeat (first | refine qe_ ?_ _ | refine qh_ ?_ | refine qd_ ?_ _)); exact BK101.out) 0).trans rfl)).mono ?_; rintro e w3 ⟨rfl, hb3⟩; have n0_ := Aside0.mk (ql_ (by repeat (first | (with_reducible first | exact HB.out | apply qc_ | apply qa_ | apply qb_) | exact HB.out)) hb3); have m101_ := Aside0.mk (blk_bel (by (with_reducible repeat (first | refine qe_ ?_ _ | refine qh_ ?_ | refine qd_ ?_ _)); exact BK101.out) hb3); clear HB; have HB := n0_; clear n0_; clear BK101; have BK101 := m101_; clear m101_; clear hb3))
 go_ret
 exact ⟨by first | rfl | (simp; done) | (simp [*]; done), (by repeat (first | (with_reducible first | exact HB.out | apply qc_ | apply qa_ | apply qb_) | exact HB.out))⟩
end Go.Proofs.Ytfoeahjbkmdgfaa.P

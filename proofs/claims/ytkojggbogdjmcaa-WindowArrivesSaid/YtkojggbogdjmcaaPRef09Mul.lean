/- What this function of the program comes to, and that the machine's call does it: written by a program (wip/tool). No condition. -/
import Derived.Test.YtkojggbogdjmcaaP0
import Derived.Test.YtkojggbogdjmcaaPRef09Add
import Derived.Test.YtkojggbogdjmcaaHw
namespace Go.Proofs.Ytkojggbogdjmcaa.P
open Go.RowKit Go.Proofs.YtkojggbogdjmcaaW.PrintWords Go.Proofs.YtkojggbogdjmcaaW.PrintLast Go.Proofs.YtkojggbogdjmcaaW.PrintMore
attribute [local go_sem] max2_int min2_int max_two min_two max_three min_three max_four min_four   -- for this text's walks alone
set_option linter.unusedVariables false
set_option linter.unusedSimpArgs false
/-! ### ref09_Mul: function 31 -/
def ref09_Mul.l0 : Nat → Int → Int → Int → Int → Int → Option (Int × Int)
 | 0, _, _, _, _, _ => none
 | k + 1, x1, x103000, x103001, x104000, x104001 => if x1 > 0 then (if (Int.tmod x1 2) = 1 then ((ref09_Add.f x103000 x103001 x104000 x104001).bind fun bt104 => ((ref09_Add.f x104000 x104001 x104000 x104001).bind fun bt106 => (ref09_Mul.l0 k (wrap64 (Int.tdiv x1 2)) bt104.1 bt104.2 bt106.1 bt106.2))) else ((ref09_Add.f x104000 x104001 x104000 x104001).bind fun bt108 => (ref09_Mul.l0 k (wrap64 (Int.tdiv x1 2)) x103000 x103001 bt108.1 bt108.2))) else (some (x103000, x103001))
def ref09_Mul.f (k : Nat) (a0 : Int) (a1 : Int) : Option (Int × Int) := ref09_Mul.l0 k a1 0 0 0 (IntKind.u64.wrap (a0))
theorem ref09_Mul.mono_l : ∀ k, (∀ y0 y1 y2 y3 y4, LeO (ref09_Mul.l0 k y0 y1 y2 y3 y4) (ref09_Mul.l0 (k + 1) y0 y1 y2 y3 y4))
 | 0 => fun _ _ _ _ _ r h => by simp [ref09_Mul.l0] at h
 | k + 1 => by
  have ih0 := ref09_Mul.mono_l k
  ·intro y0 y1 y2 y3 y4
   unfold ref09_Mul.l0
   repeat' first
   | (with_reducible exact ih0 _ _ _ _ _)
   | (with_reducible exact LeO.refl _)
   | (with_reducible exact LeO.none _)
   | (with_reducible refine LeO.ite ?_ ?_)
   | (with_reducible refine LeO.bind ?_ (fun _ => ?_))
   | exact ih0 _ _ _ _ _
   | exact LeO.none _
   | refine LeO.ite ?_ ?_
   | refine LeO.bind ?_ (fun _ => ?_)
theorem ref09_Mul.mono : ∀ a0 a1 k, LeO (ref09_Mul.f k a0 a1) (ref09_Mul.f (k + 1) a0 a1) := by
 intro a0 a1 k
 have ih0 := ref09_Mul.mono_l k
 unfold ref09_Mul.f
 repeat' first
   | (with_reducible exact ih0 _ _ _ _ _)
   | (with_reducible exact LeO.refl _)
   | (with_reducible exact LeO.none _)
   | (with_reducible refine LeO.ite ?_ ?_)
   | (with_reducible refine LeO.bind ?_ (fun _ => ?_))
   | exact ih0 _ _ _ _ _
   | exact LeO.none _
   | refine LeO.ite ?_ ?_
   | refine LeO.bind ?_ (fun _ => ?_)
set_option maxHeartbeats 8000000 in
set_option maxRecDepth 100000 in
theorem ref09_Mul.calls (k : Nat) (a0 : Int) (a1 : Int) (r1 : Int) (r2 : Int) (w : World) (h : ref09_Mul.f k a0 a1 = some (r1, r2)) :
  Calls Try.prog 31 #[.int .i64 a0, .int .i64 a1] w fun e w' => e = .returned (.agg #[.int .u64 r1, .int .u64 r2]) ∧ Below w.heap.size w w' := by
 have hu52 := Try.underlying52
 have HB := Aside0.mk (Below.refl w.heap.size w)
 have H : (ref09_Mul.l0 k a1 0 0 0 (IntKind.u64.wrap (a0))) = some (r1, r2) := h
 clear h
 have H' := Aside0.mk H
 clear H
 go_enter Try.func31, Try.ntmps31
 go_wp2_with (first | ((with_reducible refine gate_dst (N := 4) rfl ?_); refine qo_ ?hg (N := 4) ?hd (cs := #[.int .u64 0, .int .u64 0]) (t := 52) ?hr ?_; (case hd => rfl); (case hg => rfl); (case hr => first | (go_simp; done) | (go_simp; rfl)); intro gb101 hg w3 hbox hb; have n0_ := Aside0.mk (ql_ (by repeat (first | (with_reducible first | exact HB.out | apply qf_ | apply qa_ | apply qg_) | exact HB.out)) hb); have n1_ := Aside0.mk (hbox); have n2_ := Aside0.mk ((by rw [hg]; exact (qk_ (by repeat (first | (with_reducible first | exact HB.out | apply qf_ | apply qa_ | apply qg_) | exact HB.out))) : w.heap.size ≤ gb101)); have n3_ := Aside0.mk ((by rw [hg]; exact (qk_ (by repeat (first | (with_reducible first | exact HB.out | apply qf_ | apply qa_ | apply qg_) | exact HB.out))) : w.heap.size ≤ gb101)); clear HB; have HB := n0_; have BK101 := n1_; have GW101 := n2_; have GE101 := n3_; clear n0_ n1_ n2_ n3_; clear hb hbox hg) | ((with_reducible refine gate_dst (N := 5) rfl ?_); refine qo_ ?hg (N := 5) ?hd (cs := #[.int .u64 0, .int .u64 0]) (t := 52) ?hr ?_; (case hd => rfl); (case hg => rfl); (case hr => first | (go_simp; done) | (go_simp; rfl)); intro gb102 hg w4 hbox hb; have n0_ := Aside0.mk (qj_ (g := gb101) (o := .cells #[.int .u64 0, .int .u64 0] 52 (0, 0)) (by (with_reducible repeat (first | refine qc_ ?_ _ | refine qe_ ?_ | refine qd_ ?_ _)); exact BK101.out) hb); have n1_ := Aside0.mk (ql_ (by repeat (first | (with_reducible first | exact HB.out | apply qf_ | apply qa_ | apply qg_ | refine qb_ ?_ GE101.out) | exact HB.out)) hb); have n2_ := Aside0.mk (hbox); have n3_ := Aside0.mk ((by rw [hg]; exact (qk_ (by repeat (first | (with_reducible first | exact HB.out | apply qf_ | apply qa_ | apply qg_ | refine qb_ ?_ GE101.out) | exact HB.out))) : w.heap.size ≤ gb102)); have n4_ := Aside0.mk ((by rw [hg]; exact (qk_ (by repeat (first | (with_reducible first | exact HB.out | apply qf_ | apply qa_ | apply qg_ | refine qb_ ?_ GE101.out) | exact HB.out))) : w.heap.size ≤ gb102)); have n5_ := Aside0.mk ((by rw [hg]; exact Nat.ne_of_lt (blk_lt (g := gb101) (o := .cells #[.int .u64 0, .int .u64 0] 52 (0, 0)) (by (with_reducible repeat (first | refine qc_ ?_ _ | refine qe_ ?_ | refine qd_ ?_ _)); exact BK101.out)) : gb101 ≠ gb102)); have n6_ := Aside0.mk ((by rw [hg]; exact Nat.ne_of_gt (blk_lt (g := gb101) (o := .cells #[.int .u64 0, .int .u64 0] 52 (0, 0)) (by (with_reducible repeat (first | refine qc_ ?_ _ | refine qe_ ?_ | refine qd_ ?_ _)); exact BK101.out)) : gb102 ≠ gb101)); clear BK101; clear HB; have BK101 := n0_; have HB := n1_; have BK102 := n2_; have GW102 := n3_; have GE102 := n4_; have NB101_102 := n5_; have NB102_101 := n6_; clear n0_ n1_ n2_ n3_ n4_ n5_ n6_; clear hb hbox hg) | ((with_reducible refine gate_dst (N := 6) rfl ?_); refine qo_ ?hg (N := 6) ?hd (cs := #[.int .u64 0, .int .u64 0]) (t := 52) ?hr ?_; (case hd => rfl); (case hg => rfl); (case hr => first | (go_simp; done) | (go_simp; rfl)); intro gb103 hg w5 hbox hb; have n0_ := Aside0.mk (qj_ (g := gb101) (o := .cells #[.int .u64 0, .int .u64 0] 52 (0, 0)) (by (with_reducible repeat (first | refine qc_ ?_ _ | refine qe_ ?_ | refine qd_ ?_ _)); exact BK101.out) hb); have n1_ := Aside0.mk (qj_ (g := gb102) (o := .cells #[.int .u64 0, .int .u64 0] 52 (0, 0)) (by (with_reducible repeat (first | refine qc_ ?_ _ | refine qe_ ?_ | refine qd_ ?_ _)); exact BK102.out) hb); have n2_ := Aside0.mk (ql_ (by repeat (first | (with_reducible first | exact HB.out | apply qf_ | apply qa_ | apply qg_ | refine qb_ ?_ GE101.out | refine qb_ ?_ GE102.out) | exact HB.out)) hb); have n3_ := Aside0.mk (hbox); have n4_ := Aside0.mk ((by rw [hg]; exact (qk_ (by repeat (first | (with_reducible first | exact HB.out | apply qf_ | apply qa_ | apply qg_ | refine qb_ ?_ GE101.out | refine qb_ ?_ GE102.out) | exact HB.out))) : w.heap.size ≤ gb103)); have n5_ := Aside0.mk ((by rw [hg]; exact (qk_ (by repeat (first | (with_reducible first | exact HB.out | apply qf_ | apply qa_ | apply qg_ | refine qb_ ?_ GE101.out | refine qb_ ?_ GE102.out) | exact HB.out))) : w.heap.size ≤ gb103)); have n6_ := Aside0.mk ((by rw [hg]; exact Nat.ne_of_lt (blk_lt (g := gb101) (o := .cells #[.int .u64 0, .int .u64 0] 52 (0, 0)) (by (with_reducible repeat (first | refine qc_ ?_ _ | refine qe_ ?_ | refine qd_ ?_ _)); exact BK101.out)) : gb101 ≠ gb103)); have n7_ := Aside0.mk ((by rw [hg]; exact Nat.ne_of_gt (blk_lt (g := gb101) (o := .cells #[.int .u64 0, .int .u64 0] 52 (0, 0)) (by (with_reducible repeat (first | refine qc_ ?_ _ | refine qe_ ?_ | refine qd_ ?_ _)); exact BK101.out)) : gb103 ≠ gb101)); have n8_ := Aside0.mk ((by rw [hg]; exact Nat.ne_of_lt (blk_lt (g := gb102) (o := .cells #[.int .u64 0, .int .u64 0] 52 (0, 0)) (by (with_reducible repeat (first | refine qc_ ?_ _ | refine qe_ ?_ | refine qd_ ?_ _)); exact BK102.out)) : gb102 ≠ gb103)); have n9_ := Aside0.mk ((by rw [hg]; exact Nat.ne_of_gt (blk_lt (g := gb102) (o := .cells #[.int .u64 0, .int .u64 0] 52 (0, 0)) (by (with_reducible repeat (first | refine qc_ ?_ _ | refine qe_ ?_ | refine qd_ ?_ _)); exact BK102.out)) : gb103 ≠ gb102)); clear BK101; clear BK102; clear HB; have BK101 := n0_; have BK102 := n1_; have HB := n2_; have BK103 := n3_; have GW103 := n4_; have GE103 := n5_; have NB101_103 := n6_; have NB103_101 := n7_; have NB102_103 := n8_; have NB103_102 := n9_; clear n0_ n1_ n2_ n3_ n4_ n5_ n6_ n7_ n8_ n9_; clear hb hbox hg; have hnb6 := NB103_101.out; have hnc6 := NB101_103.out; have hnb7 := NB103_102.out; have hnc7 := NB102_103.out; have hcz8_0 : w5.cell? ⟨gb103, 0, none⟩ = some (.int .u64 0) := (qh_ BK103.out 0).trans rfl; have hcz8_1 : w5.cell? ⟨gb103, 1, none⟩ = some (.int .u64 0) := (qh_ BK103.out 1).trans rfl; have hfz8_0 := qi_ BK103.out 0; have hfz8_1 := qi_ BK103.out 1))
 go_loopg [1] k (fun kq v1 w' => ∃ (x1_1 : Int) (x103000_1 : Int) (x103001_1 : Int) (x104000_1 : Int) (x104001_1 : Int), v1 = .int .i64 x1_1 ∧ Aside0 (ref09_Mul.l0 kq x1_1 x103000_1 x103001_1 x104000_1 x104001_1 = some (r1, r2)) ∧ Aside0 (kq ≤ k) ∧ Aside0 (w'.heap[gb101]? = some (.cells #[.int .u64 0, .int .u64 0] 52 (0, 0))) ∧ Aside0 (w'.heap[gb102]? = some (.cells #[.int .u64 x103000_1, .int .u64 x103001_1] 52 (0, 0))) ∧ Aside0 (w'.heap[gb103]? = some (.cells #[.int .u64 x104000_1, .int .u64 x104001_1] 52 (0, 0))) ∧ Aside0 (Below w.heap.size w w'))
 case atStart => exact ⟨(a1), (0), (0), (0), (IntKind.u64.wrap (a0)), (by first | rfl | (simp; done) | (simp [*]; done)), H', ⟨Nat.le_refl _⟩, ⟨by (with_reducible repeat (first | refine qc_ ?_ _ | refine qe_ ?_ | refine qd_ ?_ _)); refine blk_far ?_ NB101_103.out _; (with_reducible repeat (first | refine qc_ ?_ _ | refine qe_ ?_ | refine qd_ ?_ _)); refine blk_far ?_ NB101_103.out _; (with_reducible repeat (first | refine qc_ ?_ _ | refine qe_ ?_ | refine qd_ ?_ _)); exact BK101.out⟩, ⟨by (with_reducible repeat (first | refine qc_ ?_ _ | refine qe_ ?_ | refine qd_ ?_ _)); refine blk_far ?_ NB102_103.out _; (with_reducible repeat (first | refine qc_ ?_ _ | refine qe_ ?_ | refine qd_ ?_ _)); refine blk_far ?_ NB102_103.out _; (with_reducible repeat (first | refine qc_ ?_ _ | refine qe_ ?_ | refine qd_ ?_ _)); exact BK102.out⟩, ⟨by (with_reducible repeat (first | refine qc_ ?_ _ | refine qe_ ?_ | refine qd_ ?_ _)); refine blk_put (cs := #[.int .u64 0, .int .u64 0]) ?_ 1 _ rfl; (with_reducible repeat (first | refine qc_ ?_ _ | refine qe_ ?_ | refine qd_ ?_ _)); refine blk_put (cs := #[.int .u64 0, .int .u64 0]) ?_ 0 _ rfl; (with_reducible repeat (first | refine qc_ ?_ _ | refine qe_ ?_ | refine qd_ ?_ _)); exact BK103.out⟩, ⟨by repeat (first | (with_reducible first | exact HB.out | apply qf_ | apply qa_ | apply qg_ | refine qb_ ?_ GE101.out | refine qb_ ?_ GE102.out | refine qb_ ?_ GE103.out) | exact HB.out)⟩⟩
 case round =>
  clear H'
  try clear p2
  try clear c3
  try clear c6
  try clear c7
  try clear hcz8_0
  try clear hcz8_1
  try clear hfz8_0
  try clear hfz8_1
  obtain ⟨x1_1, x103000_1, x103001_1, x104000_1, x104001_1, rfl, HA, HK1, BK101, BK102, BK103, HB⟩ := hrel
  cases gk with
  | zero => exact absurd HA.out (by simp [ref09_Mul.l0])
  | succ k1 =>
   have H := HA.out
   clear HA
   simp only [ref09_Mul.l0] at H
   by_cases c9 : x1_1 > 0
   ·rw [if_pos c9] at H
    have c9b0 : decide (0 < x1_1) = true := decide_eq_true c9
    clear c9
    by_cases c10 : (Int.tmod x1_1 2) = 1
    ·rw [if_pos c10] at H
     have c10b0 : ((Int.tmod x1_1 2) == 1) = true := beq_iff_eq.mpr c10
     have c10b1 : ((Int.tmod x1_1 2) != 1) = false := bne_eq_false_iff_eq.mpr c10
     clear c10
     replace H := ob_ H
     obtain ⟨⟨t104, t105⟩, A110, H⟩ := H
     replace H : ((ref09_Add.f x104000_1 x104001_1 x104000_1 x104001_1).bind fun bt106 => (ref09_Mul.l0 k1 (wrap64 (Int.tdiv x1_1 2)) t104 t105 bt106.1 bt106.2)) = some (r1, r2) := H
     have A11 := Aside0.mk A110
     clear A110
     replace H := ob_ H
     obtain ⟨⟨t106, t107⟩, A120, H⟩ := H
     replace H : (ref09_Mul.l0 k1 (wrap64 (Int.tdiv x1_1 2)) t104 t105 t106 t107) = some (r1, r2) := H
     have A12 := Aside0.mk A120
     clear A120
     have H' := Aside0.mk H
     clear H
     have hnb13 := NB102_101.out
     have hnc13 := NB101_102.out
     have hnb14 := NB102_103.out
     have hnc14 := NB103_102.out
     have hcz15_0 : wr.cell? ⟨gb102, 0, none⟩ = some (.int .u64 x103000_1) := (qh_ BK102.out 0).trans rfl
     have hcz15_1 : wr.cell? ⟨gb102, 1, none⟩ = some (.int .u64 x103001_1) := (qh_ BK102.out 1).trans rfl
     have hfz15_0 := qi_ BK102.out 0
     have hfz15_1 := qi_ BK102.out 1
     have hnb16 := NB103_101.out
     have hnc16 := NB101_103.out
     have hcz17_0 : wr.cell? ⟨gb103, 0, none⟩ = some (.int .u64 x104000_1) := (qh_ BK103.out 0).trans rfl
     have hcz17_1 : wr.cell? ⟨gb103, 1, none⟩ = some (.int .u64 x104001_1) := (qh_ BK103.out 1).trans rfl
     have hfz17_0 := qi_ BK103.out 0
     have hfz17_1 := qi_ BK103.out 1
     go_wp2_with (first | ((with_reducible refine gate_callee (f := 29) rfl ?_); refine goesL_ (some 17) rfl rfl Try.func29 (by kernel_rfl) rfl #[.agg #[.int .u64 x103000_1, .int .u64 x103001_1], .agg #[.int .u64 x104000_1, .int .u64 x104001_1]] rfl (by (try simp only [List.map_toArray, List.map_cons, List.map_nil]); first | done | rfl | (simp only [List.length_drop, List.length_take]; rfl)) ?_; (with_reducible refine (ref09_Add.calls x103000_1 x103001_1 x104000_1 x104001_1 t104 t105 _ A11.out).mono ?_); rintro e w18 ⟨rfl, hb⟩; refine ⟨_, rfl, ?_⟩; have n0_ := Aside0.mk (qj_ (g := gb101) (o := .cells #[.int .u64 0, .int .u64 0] 52 (0, 0)) (by (with_reducible repeat (first | refine qc_ ?_ _ | refine qe_ ?_ | refine qd_ ?_ _)); exact BK101.out) hb); have n1_ := Aside0.mk (qj_ (g := gb102) (o := .cells #[.int .u64 x103000_1, .int .u64 x103001_1] 52 (0, 0)) (by (with_reducible repeat (first | refine qc_ ?_ _ | refine qe_ ?_ | refine qd_ ?_ _)); exact BK102.out) hb); have n2_ := Aside0.mk (qj_ (g := gb103) (o := .cells #[.int .u64 x104000_1, .int .u64 x104001_1] 52 (0, 0)) (by (with_reducible repeat (first | refine qc_ ?_ _ | refine qe_ ?_ | refine qd_ ?_ _)); exact BK103.out) hb); have n3_ := Aside0.mk (ql_ (by repeat (first | (with_reducible first | exact HB.out | apply qf_ | apply qa_ | apply qg_ | refine qb_ ?_ GE101.out | refine qb_ ?_ GE102.out | refine qb_ ?_ GE103.out) | exact HB.out)) hb); clear BK101; clear BK102; clear BK103; clear HB; have BK101 := n0_; have BK102 := n1_; have BK103 := n2_; have HB := n3_; clear n0_ n1_ n2_ n3_; (try clear hb); (try clear hb2); (try clear hk); (try clear hi); have hcz19_0 : w18.cell? ⟨gb102, 0, none⟩ = some (.int .u64 x103000_1) := (qh_ BK102.out 0).trans rfl; have hcz19_1 : w18.cell? ⟨gb102, 1, none⟩ = some (.int .u64 x103001_1) := (qh_ BK102.out 1).trans rfl; have hfz19_0 := qi_ BK102.out 0; have hfz19_1 := qi_ BK102.out 1; have hcz20_0 : w18.cell? ⟨gb103, 0, none⟩ = some (.int .u64 x104000_1) := (qh_ BK103.out 0).trans rfl; have hcz20_1 : w18.cell? ⟨gb103, 1, none⟩ = some (.int .u64 x104001_1) := (qh_ BK103.out 1).trans rfl; have hfz20_0 := qi_ BK103.out 0; have hfz20_1 := qi_ BK103.out 1) | ((with_reducible refine gate_callee (f := 29) rfl ?_); refine goesL_ (some 20) rfl rfl Try.func29 (by kernel_rfl) rfl #[.agg #[.int .u64 x104000_1, .int .u64 x104001_1], .agg #[.int .u64 x104000_1, .int .u64 x104001_1]] rfl (by (try simp only [List.map_toArray, List.map_cons, List.map_nil]); first | done | rfl | (simp only [List.length_drop, List.length_take]; rfl)) ?_; (with_reducible refine (ref09_Add.calls x104000_1 x104001_1 x104000_1 x104001_1 t106 t107 _ A12.out).mono ?_); rintro e w21 ⟨rfl, hb⟩; refine ⟨_, rfl, ?_⟩; have n0_ := Aside0.mk (qj_ (g := gb101) (o := .cells #[.int .u64 0, .int .u64 0] 52 (0, 0)) (by (with_reducible repeat (first | refine qc_ ?_ _ | refine qe_ ?_ | refine qd_ ?_ _)); refine blk_far ?_ NB101_102.out _; (with_reducible repeat (first | refine qc_ ?_ _ | refine qe_ ?_ | refine qd_ ?_ _)); refine blk_far ?_ NB101_102.out _; (with_reducible repeat (first | refine qc_ ?_ _ | refine qe_ ?_ | refine qd_ ?_ _)); exact BK101.out) hb); have n1_ := Aside0.mk (qj_ (g := gb102) (o := .cells #[.int .u64 t104, .int .u64 t105] 52 (0, 0)) (by (with_reducible repeat (first | refine qc_ ?_ _ | refine qe_ ?_ | refine qd_ ?_ _)); refine blk_put (cs := #[.int .u64 t104, .int .u64 x103001_1]) ?_ 1 _ rfl; (with_reducible repeat (first | refine qc_ ?_ _ | refine qe_ ?_ | refine qd_ ?_ _)); refine blk_put (cs := #[.int .u64 x103000_1, .int .u64 x103001_1]) ?_ 0 _ rfl; (with_reducible repeat (first | refine qc_ ?_ _ | refine qe_ ?_ | refine qd_ ?_ _)); exact BK102.out) hb); have n2_ := Aside0.mk (qj_ (g := gb103) (o := .cells #[.int .u64 x104000_1, .int .u64 x104001_1] 52 (0, 0)) (by (with_reducible repeat (first | refine qc_ ?_ _ | refine qe_ ?_ | refine qd_ ?_ _)); refine blk_far ?_ NB103_102.out _; (with_reducible repeat (first | refine qc_ ?_ _ | refine qe_ ?_ | refine qd_ ?_ _)); refine blk_far ?_ NB103_102.out _; (with_reducible repeat (first | refine qc_ ?_ _ | refine qe_ ?_ | refine qd_ ?_ _)); exact BK103.out) hb); have n3_ := Aside0.mk (ql_ (by repeat (first | (with_reducible first | exact HB.out | apply qf_ | apply qa_ | apply qg_ | refine qb_ ?_ GE101.out | refine qb_ ?_ GE102.out | refine qb_ ?_ GE103.out) | exact HB.out)) hb); clear BK101; clear BK102; clear BK103; clear HB; have BK101 := n0_; have BK102 := n1_; have BK103 := n2_; have HB := n3_; clear n0_ n1_ n2_ n3_; (try clear hb); (try clear hb2); (try clear hk); (try clear hi); have hcz22_0 : w21.cell? ⟨gb103, 0, none⟩ = some (.int .u64 x104000_1) := (qh_ BK103.out 0).trans rfl; have hcz22_1 : w21.cell? ⟨gb103, 1, none⟩ = some (.int .u64 x104001_1) := (qh_ BK103.out 1).trans rfl; have hfz22_0 := qi_ BK103.out 0; have hfz22_1 := qi_ BK103.out 1))
     go_roundg k1
     case measure => have := HK1.out; omega
     case rel => exact ⟨(wrap64 (Int.tdiv x1_1 2)), (t104), (t105), (t106), (t107), (by first | rfl | (simp; done) | (simp [*]; done)), H', ⟨by have := HK1.out; omega⟩, ⟨by (with_reducible repeat (first | refine qc_ ?_ _ | refine qe_ ?_ | refine qd_ ?_ _)); refine blk_far ?_ NB101_103.out _; (with_reducible repeat (first | refine qc_ ?_ _ | refine qe_ ?_ | refine qd_ ?_ _)); refine blk_far ?_ NB101_103.out _; (with_reducible repeat (first | refine qc_ ?_ _ | refine qe_ ?_ | refine qd_ ?_ _)); exact BK101.out⟩, ⟨by (with_reducible repeat (first | refine qc_ ?_ _ | refine qe_ ?_ | refine qd_ ?_ _)); refine blk_far ?_ NB102_103.out _; (with_reducible repeat (first | refine qc_ ?_ _ | refine qe_ ?_ | refine qd_ ?_ _)); refine blk_far ?_ NB102_103.out _; (with_reducible repeat (first | refine qc_ ?_ _ | refine qe_ ?_ | refine qd_ ?_ _)); exact BK102.out⟩, ⟨by (with_reducible repeat (first | refine qc_ ?_ _ | refine qe_ ?_ | refine qd_ ?_ _)); refine blk_put (cs := #[.int .u64 t106, .int .u64 x104001_1]) ?_ 1 _ rfl; (with_reducible repeat (first | refine qc_ ?_ _ | refine qe_ ?_ | refine qd_ ?_ _)); refine blk_put (cs := #[.int .u64 x104000_1, .int .u64 x104001_1]) ?_ 0 _ rfl; (with_reducible repeat (first | refine qc_ ?_ _ | refine qe_ ?_ | refine qd_ ?_ _)); exact BK103.out⟩, ⟨by repeat (first | (with_reducible first | exact HB.out | apply qf_ | apply qa_ | apply qg_ | refine qb_ ?_ GE101.out | refine qb_ ?_ GE102.out | refine qb_ ?_ GE103.out) | exact HB.out)⟩⟩
    ·rw [if_neg c10] at H
     have c10b0 : ((Int.tmod x1_1 2) == 1) = false := beq_eq_false_iff_ne.mpr c10
     have c10b1 : ((Int.tmod x1_1 2) != 1) = true := bne_iff_ne.mpr c10
     replace H := ob_ H
     obtain ⟨⟨t108, t109⟩, A230, H⟩ := H
     replace H : (ref09_Mul.l0 k1 (wrap64 (Int.tdiv x1_1 2)) x103000_1 x103001_1 t108 t109) = some (r1, r2) := H
     have A23 := Aside0.mk A230
     clear A230
     have H' := Aside0.mk H
     clear H
     have hnb24 := NB103_101.out
     have hnc24 := NB101_103.out
     have hnb25 := NB103_102.out
     have hnc25 := NB102_103.out
     have hcz26_0 : wr.cell? ⟨gb103, 0, none⟩ = some (.int .u64 x104000_1) := (qh_ BK103.out 0).trans rfl
     have hcz26_1 : wr.cell? ⟨gb103, 1, none⟩ = some (.int .u64 x104001_1) := (qh_ BK103.out 1).trans rfl
     have hfz26_0 := qi_ BK103.out 0
     have hfz26_1 := qi_ BK103.out 1
     go_wp2_with (first | ((with_reducible refine gate_callee (f := 29) rfl ?_); refine goesL_ (some 20) rfl rfl Try.func29 (by kernel_rfl) rfl #[.agg #[.int .u64 x104000_1, .int .u64 x104001_1], .agg #[.int .u64 x104000_1, .int .u64 x104001_1]] rfl (by (try simp only [List.map_toArray, List.map_cons, List.map_nil]); first | done | rfl | (simp only [List.length_drop, List.length_take]; rfl)) ?_; (with_reducible refine (ref09_Add.calls x104000_1 x104001_1 x104000_1 x104001_1 t108 t109 _ A23.out).mono ?_); rintro e w27 ⟨rfl, hb⟩; refine ⟨_, rfl, ?_⟩; have n0_ := Aside0.mk (qj_ (g := gb101) (o := .cells #[.int .u64 0, .int .u64 0] 52 (0, 0)) (by (with_reducible repeat (first | refine qc_ ?_ _ | refine qe_ ?_ | refine qd_ ?_ _)); exact BK101.out) hb); have n1_ := Aside0.mk (qj_ (g := gb102) (o := .cells #[.int .u64 x103000_1, .int .u64 x103001_1] 52 (0, 0)) (by (with_reducible repeat (first | refine qc_ ?_ _ | refine qe_ ?_ | refine qd_ ?_ _)); exact BK102.out) hb); have n2_ := Aside0.mk (qj_ (g := gb103) (o := .cells #[.int .u64 x104000_1, .int .u64 x104001_1] 52 (0, 0)) (by (with_reducible repeat (first | refine qc_ ?_ _ | refine qe_ ?_ | refine qd_ ?_ _)); exact BK103.out) hb); have n3_ := Aside0.mk (ql_ (by repeat (first | (with_reducible first | exact HB.out | apply qf_ | apply qa_ | apply qg_ | refine qb_ ?_ GE101.out | refine qb_ ?_ GE102.out | refine qb_ ?_ GE103.out) | exact HB.out)) hb); clear BK101; clear BK102; clear BK103; clear HB; have BK101 := n0_; have BK102 := n1_; have BK103 := n2_; have HB := n3_; clear n0_ n1_ n2_ n3_; (try clear hb); (try clear hb2); (try clear hk); (try clear hi); have hcz28_0 : w27.cell? ⟨gb103, 0, none⟩ = some (.int .u64 x104000_1) := (qh_ BK103.out 0).trans rfl; have hcz28_1 : w27.cell? ⟨gb103, 1, none⟩ = some (.int .u64 x104001_1) := (qh_ BK103.out 1).trans rfl; have hfz28_0 := qi_ BK103.out 0; have hfz28_1 := qi_ BK103.out 1))
     go_roundg k1
     case measure => have := HK1.out; omega
     case rel => exact ⟨(wrap64 (Int.tdiv x1_1 2)), (x103000_1), (x103001_1), (t108), (t109), (by first | rfl | (simp; done) | (simp [*]; done)), H', ⟨by have := HK1.out; omega⟩, ⟨by (with_reducible repeat (first | refine qc_ ?_ _ | refine qe_ ?_ | refine qd_ ?_ _)); refine blk_far ?_ NB101_103.out _; (with_reducible repeat (first | refine qc_ ?_ _ | refine qe_ ?_ | refine qd_ ?_ _)); refine blk_far ?_ NB101_103.out _; (with_reducible repeat (first | refine qc_ ?_ _ | refine qe_ ?_ | refine qd_ ?_ _)); exact BK101.out⟩, ⟨by (with_reducible repeat (first | refine qc_ ?_ _ | refine qe_ ?_ | refine qd_ ?_ _)); refine blk_far ?_ NB102_103.out _; (with_reducible repeat (first | refine qc_ ?_ _ | refine qe_ ?_ | refine qd_ ?_ _)); refine blk_far ?_ NB102_103.out _; (with_reducible repeat (first | refine qc_ ?_ _ | refine qe_ ?_ | refine qd_ ?_ _)); exact BK102.out⟩, ⟨by (with_reducible repeat (first | refine qc_ ?_ _ | refine qe_ ?_ | refine qd_ ?_ _)); refine blk_put (cs := #[.int .u64 t108, .int .u64 x104001_1]) ?_ 1 _ rfl; (with_reducible repeat (first | refine qc_ ?_ _ | refine qe_ ?_ | refine qd_ ?_ _)); refine blk_put (cs := #[.int .u64 x104000_1, .int .u64 x104001_1]) ?_ 0 _ rfl; (with_reducible repeat (first | refine qc_ ?_ _ | refine qe_ ?_ | refine qd_ ?_ _)); exact BK103.out⟩, ⟨by repeat (first | (with_reducible first | exact HB.out | apply qf_ | apply qa_ | apply qg_ | refine qb_ ?_ GE101.out | refine qb_ ?_ GE102.out | refine qb_ ?_ GE103.out) | exact HB.out)⟩⟩
   ·rw [if_neg c9] at H
    have c9b0 : decide (0 < x1_1) = false := decide_eq_false c9
    clear c9
    simp only [Option.some.injEq, Prod.mk.injEq] at H
    obtain ⟨rfl, rfl⟩ := H
    have hnb29 := NB102_101.out
    have hnc29 := NB101_102.out
    have hnb30 := NB102_103.out
    have hnc30 := NB103_102.out
    have hcz31_0 : wr.cell? ⟨gb102, 0, none⟩ = some (.int .u64 x103000_1) := (qh_ BK102.out 0).trans rfl
    have hcz31_1 : wr.cell? ⟨gb102, 1, none⟩ = some (.int .u64 x103001_1) := (qh_ BK102.out 1).trans rfl
    have hfz31_0 := qi_ BK102.out 0
    have hfz31_1 := qi_ BK102.out 1
    have hnb32 := NB101_103.out
    have hnc32 := NB103_101.out
    have hcz33_0 : wr.cell? ⟨gb101, 0, none⟩ = some (.int .u64 0) := (qh_ BK101.out 0).trans rfl
    have hcz33_1 : wr.cell? ⟨gb101, 1, none⟩ = some (.int .u64 0) := (qh_ BK101.out 1).trans rfl
    have hfz33_0 := qi_ BK101.out 0
    have hfz33_1 := qi_ BK101.out 1
    go_wp2
    refine bodyPost_ret (results_cell_row rfl _ _ gb101 52 #[.int .u64 x103000_1, .int .u64 x103001_1] (0, 0) _ rfl (by (with_reducible repeat (first | refine qc_ ?_ _ | refine qe_ ?_ | refine qd_ ?_ _)); refine blk_put (cs := #[.int .u64 x103000_1, .int .u64 0]) ?_ 1 _ rfl; (with_reducible repeat (first | refine qc_ ?_ _ | refine qe_ ?_ | refine qd_ ?_ _)); refine blk_put (cs := #[.int .u64 0, .int .u64 0]) ?_ 0 _ rfl; (with_reducible repeat (first | refine qc_ ?_ _ | refine qe_ ?_ | refine qd_ ?_ _)); exact BK101.out) Try.underlying52 rfl (by kernel_rfl)) rfl ?_
    exact ⟨by first | rfl | (simp [errW_none, errW_some] <;> rfl) | (simp [*, errW_none, errW_some] <;> rfl), by repeat (first | (with_reducible first | exact HB.out | apply qf_ | apply qa_ | apply qg_ | refine qb_ ?_ GE101.out | refine qb_ ?_ GE102.out | refine qb_ ?_ GE103.out) | exact HB.out)⟩
end Go.Proofs.Ytkojggbogdjmcaa.P

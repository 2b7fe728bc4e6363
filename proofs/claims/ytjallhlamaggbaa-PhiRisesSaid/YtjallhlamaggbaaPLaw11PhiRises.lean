/- What this function of the program comes to, and that the machine's call does it: written by a program (wip/tool). No condition. -/
import Derived.Test.YtjallhlamaggbaaP0
import Derived.Test.YtjallhlamaggbaaPPhiLevel
import Derived.Test.YtjallhlamaggbaaPLaw11Alive
import Derived.Test.YtjallhlamaggbaaPRef10Right
import Derived.Test.YtjallhlamaggbaaPRef10Mean
import Derived.Test.YtjallhlamaggbaaPRef09Cmp
import Derived.Test.YtjallhlamaggbaaHw
namespace Go.Proofs.Ytjallhlamaggbaa.P
open Go.RowKit Go.Proofs.YtjallhlamaggbaaW.PrintWords Go.Proofs.YtjallhlamaggbaaW.PrintLast Go.Proofs.YtjallhlamaggbaaW.PrintMore
attribute [local go_sem] max2_int min2_int max_two min_two max_three min_three max_four min_four   -- for this text's walks alone
set_option linter.unusedVariables false
set_option linter.unusedSimpArgs false
/-! ### law11_PhiRises: function 3 -/
mutual
def law11_PhiRises.j0 : Nat → Int → Bool → Int → List Int → Int → Int → Option (Bool)
 | 0, _, _, _, _, _, _ => none
 | k + 1, x2, x34, x102000, x102001, x103000, x103001 => if x34 = true then (some true) else ((phi_Level.f k x102000 x102001 (wrap64 (x102000 + (wrap64 (mn x103000 x103001)))) (wrap64 (x2))).bind fun bt105 => ((phi_Level.f k x102000 x102001 (wrap64 (x102000 + (wrap64 (mx x103000 x103001)))) (wrap64 (x2))).bind fun bt107 => (if bt105.2 = 0 then (if bt107.2 = 0 then (law11_PhiRises.j1 k x2 (wrap64 (x102000 + (wrap64 (mn x103000 x103001)))) bt105.1 (decide (bt105.1 > bt107.1)) x102000 x102001) else (law11_PhiRises.j1 k x2 (wrap64 (x102000 + (wrap64 (mn x103000 x103001)))) bt105.1 true x102000 x102001)) else (law11_PhiRises.j1 k x2 (wrap64 (x102000 + (wrap64 (mn x103000 x103001)))) bt105.1 true x102000 x102001))))
def law11_PhiRises.j1 : Nat → Int → Int → Int → Bool → Int → List Int → Option (Bool)
 | 0, _, _, _, _, _, _ => none
 | k + 1, x2, x7, x9, x79, x102000, x102001 => if x79 = true then (some false) else ((ref10_Mean.f k x102000 x102001 (wrap64 (x2))).bind fun t109 => ((ref09_Cmp.f k x9 1 (wrap64 (434 * (wrap64 (x7 - x102000)))) t109).bind fun t110 => (if t110 ≤ 0 then ((ref09_Cmp.f k (wrap64 (x9 + 1)) 1 (wrap64 (434 * (wrap64 (x7 - x102000)))) t109).bind fun t111 => (some (decide (t111 > 0)))) else (some false))))
end
def law11_PhiRises.f (k : Nat) (a0_0 : Int) (l0_1 : List Int) (a1_0 : Int) (a1_1 : Int) (a2 : Int) : Option (Bool) := (law11_alive.f k).bind fun t103 => (if t103 = true then (if (l0_1.length : Int) > 16 then (law11_PhiRises.j0 k a2 true a0_0 l0_1 a1_0 a1_1) else ((ref10_Right.f k a0_0 l0_1).bind fun t104 => (if t104 = true then (if a0_0 < 0 then (law11_PhiRises.j0 k a2 true a0_0 l0_1 a1_0 a1_1) else (law11_PhiRises.j0 k a2 (decide (a0_0 > 549755813888)) a0_0 l0_1 a1_0 a1_1)) else (law11_PhiRises.j0 k a2 true a0_0 l0_1 a1_0 a1_1)))) else (some false))
theorem law11_PhiRises.mono_l : ∀ k, (∀ y0 y1 y2 y3 y4 y5, LeO (law11_PhiRises.j0 k y0 y1 y2 y3 y4 y5) (law11_PhiRises.j0 (k + 1) y0 y1 y2 y3 y4 y5)) ∧ (∀ y0 y1 y2 y3 y4 y5, LeO (law11_PhiRises.j1 k y0 y1 y2 y3 y4 y5) (law11_PhiRises.j1 (k + 1) y0 y1 y2 y3 y4 y5))
 | 0 => ⟨fun _ _ _ _ _ _ r h => by simp [law11_PhiRises.j0] at h, fun _ _ _ _ _ _ r h => by simp [law11_PhiRises.j1] at h⟩
 | k + 1 => by
  obtain ⟨ih0, ih1⟩ := law11_PhiRises.mono_l k
  refine ⟨?_, ?_⟩
  ·intro y0 y1 y2 y3 y4 y5
   unfold law11_PhiRises.j0
   repeat' first
   | (with_reducible exact ih0 _ _ _ _ _ _)
   | (with_reducible exact ih1 _ _ _ _ _ _)
   | (with_reducible exact law11_alive.mono _)
   | (with_reducible exact ref09_Cmp.mono _ _ _ _ _)
   | (with_reducible exact ref10_Mean.mono _ _ _ _)
   | (with_reducible exact ref10_Right.mono _ _ _)
   | (with_reducible exact phi_Level.mono _ _ _ _ _)
   | (with_reducible exact LeO.refl _)
   | (with_reducible exact LeO.none _)
   | (with_reducible refine LeO.ite ?_ ?_)
   | (with_reducible refine LeO.bind ?_ (fun _ => ?_))
   | exact ih0 _ _ _ _ _ _
   | exact ih1 _ _ _ _ _ _
   | exact law11_alive.mono _
   | exact ref09_Cmp.mono _ _ _ _ _
   | exact ref10_Mean.mono _ _ _ _
   | exact ref10_Right.mono _ _ _
   | exact phi_Level.mono _ _ _ _ _
   | exact LeO.none _
   | refine LeO.ite ?_ ?_
   | refine LeO.bind ?_ (fun _ => ?_)
  ·intro y0 y1 y2 y3 y4 y5
   unfold law11_PhiRises.j1
   repeat' first
   | (with_reducible exact ih0 _ _ _ _ _ _)
   | (with_reducible exact ih1 _ _ _ _ _ _)
   | (with_reducible exact law11_alive.mono _)
   | (with_reducible exact ref09_Cmp.mono _ _ _ _ _)
   | (with_reducible exact ref10_Mean.mono _ _ _ _)
   | (with_reducible exact ref10_Right.mono _ _ _)
   | (with_reducible exact phi_Level.mono _ _ _ _ _)
   | (with_reducible exact LeO.refl _)
   | (with_reducible exact LeO.none _)
   | (with_reducible refine LeO.ite ?_ ?_)
   | (with_reducible refine LeO.bind ?_ (fun _ => ?_))
   | exact ih0 _ _ _ _ _ _
   | exact ih1 _ _ _ _ _ _
   | exact law11_alive.mono _
   | exact ref09_Cmp.mono _ _ _ _ _
   | exact ref10_Mean.mono _ _ _ _
   | exact ref10_Right.mono _ _ _
   | exact phi_Level.mono _ _ _ _ _
   | exact LeO.none _
   | refine LeO.ite ?_ ?_
   | refine LeO.bind ?_ (fun _ => ?_)
theorem law11_PhiRises.mono : ∀ a0 a1 a2 a3 a4 k, LeO (law11_PhiRises.f k a0 a1 a2 a3 a4) (law11_PhiRises.f (k + 1) a0 a1 a2 a3 a4) := by
 intro a0 a1 a2 a3 a4 k
 obtain ⟨ih0, ih1⟩ := law11_PhiRises.mono_l k
 unfold law11_PhiRises.f
 repeat' first
   | (with_reducible exact ih0 _ _ _ _ _ _)
   | (with_reducible exact ih1 _ _ _ _ _ _)
   | (with_reducible exact law11_alive.mono _)
   | (with_reducible exact ref09_Cmp.mono _ _ _ _ _)
   | (with_reducible exact ref10_Mean.mono _ _ _ _)
   | (with_reducible exact ref10_Right.mono _ _ _)
   | (with_reducible exact phi_Level.mono _ _ _ _ _)
   | (with_reducible exact LeO.refl _)
   | (with_reducible exact LeO.none _)
   | (with_reducible refine LeO.ite ?_ ?_)
   | (with_reducible refine LeO.bind ?_ (fun _ => ?_))
   | exact ih0 _ _ _ _ _ _
   | exact ih1 _ _ _ _ _ _
   | exact law11_alive.mono _
   | exact ref09_Cmp.mono _ _ _ _ _
   | exact ref10_Mean.mono _ _ _ _
   | exact ref10_Right.mono _ _ _
   | exact phi_Level.mono _ _ _ _ _
   | exact LeO.none _
   | refine LeO.ite ?_ ?_
   | refine LeO.bind ?_ (fun _ => ?_)
set_option maxHeartbeats 8000000 in
set_option maxRecDepth 100000 in
theorem law11_PhiRises.calls (k : Nat) (a0_0 : Int) (A0_1 : Option Addr) (c0_1 : Nat) (l0_1 : List Int) (a1_0 : Int) (a1_1 : Int) (a2 : Int) (r : Bool) (w : World) (hr0_1 : Kd.C (Kd.int .i64) w A0_1 l0_1.length l0_1) (hc0_1 : l0_1.length ≤ c0_1) (h : law11_PhiRises.f k a0_0 l0_1 a1_0 a1_1 a2 = some r) :
  Calls Try.prog 3 #[.agg #[.int .i64 a0_0, .slice A0_1 l0_1.length c0_1], .agg #[.int .u32 a1_0, .int .u32 a1_1], .int .u16 a2] w fun e w' => e = .returned (.bool r) ∧ Below w.heap.size w w' := by
 have hu24 := Try.underlying24
 have hu26 := Try.underlying26
 have HR0_1 := Aside0.mk hr0_1
 have HC0_1 := Aside0.mk hc0_1
 clear hr0_1 hc0_1
 have HB := Aside0.mk (Below.refl w.heap.size w)
 have H : ((law11_alive.f k).bind fun t103 => (if t103 = true then (if (l0_1.length : Int) > 16 then (law11_PhiRises.j0 k a2 true a0_0 l0_1 a1_0 a1_1) else ((ref10_Right.f k a0_0 l0_1).bind fun t104 => (if t104 = true then (if a0_0 < 0 then (law11_PhiRises.j0 k a2 true a0_0 l0_1 a1_0 a1_1) else (law11_PhiRises.j0 k a2 (decide (a0_0 > 549755813888)) a0_0 l0_1 a1_0 a1_1)) else (law11_PhiRises.j0 k a2 true a0_0 l0_1 a1_0 a1_1)))) else (some false))) = some r := h
 clear h
 replace H := ob_ H
 obtain ⟨t103, A40, H⟩ := H
 replace H : (if t103 = true then (if (l0_1.length : Int) > 16 then (law11_PhiRises.j0 k a2 true a0_0 l0_1 a1_0 a1_1) else ((ref10_Right.f k a0_0 l0_1).bind fun t104 => (if t104 = true then (if a0_0 < 0 then (law11_PhiRises.j0 k a2 true a0_0 l0_1 a1_0 a1_1) else (law11_PhiRises.j0 k a2 (decide (a0_0 > 549755813888)) a0_0 l0_1 a1_0 a1_1)) else (law11_PhiRises.j0 k a2 true a0_0 l0_1 a1_0 a1_1)))) else (some false)) = some r := H
 have A4 := Aside0.mk A40
 clear A40
 by_cases c5 : t103 = true
 ·subst c5
  have H1 : (if (l0_1.length : Int) > 16 then (law11_PhiRises.j0 k a2 true a0_0 l0_1 a1_0 a1_1) else ((ref10_Right.f k a0_0 l0_1).bind fun t104 => (if t104 = true then (if a0_0 < 0 then (law11_PhiRises.j0 k a2 true a0_0 l0_1 a1_0 a1_1) else (law11_PhiRises.j0 k a2 (decide (a0_0 > 549755813888)) a0_0 l0_1 a1_0 a1_1)) else (law11_PhiRises.j0 k a2 true a0_0 l0_1 a1_0 a1_1)))) = some r := by rw [if_pos rfl] at H; exact H
  clear H
  have H := H1
  clear H1
  have HC6 := Aside0.mk H
  clear H
  go_enter Try.func3, Try.ntmps3
  go_upto_region 3 with (first | ((with_reducible refine qo_ (N := 3) rfl ?_); refine qn_ ?hg (N := 3) ?hd (cs := #[.int .i64 a0_0, .slice A0_1 l0_1.length c0_1]) (t := 24) ?hr ?_; (case hd => rfl); (case hg => rfl); (case hr => first | (go_simp; done) | (go_simp; rfl)); intro gb101 hg w7 hbox hb; have n0_ := Aside0.mk (qj_ (by repeat (first | (with_reducible first | exact HB.out | apply qc_ | apply qa_ | apply qb_) | exact HB.out)) hb); have n1_ := Aside0.mk (hbox); have n2_ := Aside0.mk ((by rw [hg]; exact (ql_ (by repeat (first | (with_reducible first | exact HB.out | apply qc_ | apply qa_ | apply qb_) | exact HB.out))) : w.heap.size ≤ gb101)); have n3_ := Aside0.mk ((by rw [hg]; exact (ql_ (by repeat (first | (with_reducible first | exact HB.out | apply qc_ | apply qa_ | apply qb_) | exact HB.out))) : w.heap.size ≤ gb101)); clear HB; have HB := n0_; have BK101 := n1_; have GW101 := n2_; have GE101 := n3_; clear n0_ n1_ n2_ n3_; clear hb hbox hg) | ((with_reducible refine qo_ (N := 4) rfl ?_); refine qn_ ?hg (N := 4) ?hd (cs := #[.int .u32 a1_0, .int .u32 a1_1]) (t := 26) ?hr ?_; (case hd => rfl); (case hg => rfl); (case hr => first | (go_simp; done) | (go_simp; rfl)); intro gb102 hg w8 hbox hb; have n0_ := Aside0.mk (qk_ (g := gb101) (o := .cells #[.int .i64 a0_0, .slice A0_1 l0_1.length c0_1] 24 (0, 0)) (by (with_reducible repeat (first | refine qe_ ?_ _ | refine qg_ ?_ | refine qf_ ?_ _)); exact BK101.out) hb); have n1_ := Aside0.mk (qj_ (by repeat (first | (with_reducible first | exact HB.out | apply qc_ | apply qa_ | apply qb_ | refine qd_ ?_ GE101.out) | exact HB.out)) hb); have n2_ := Aside0.mk (hbox); have n3_ := Aside0.mk ((by rw [hg]; exact (ql_ (by repeat (first | (with_reducible first | exact HB.out | apply qc_ | apply qa_ | apply qb_ | refine qd_ ?_ GE101.out) | exact HB.out))) : w.heap.size ≤ gb102)); have n4_ := Aside0.mk ((by rw [hg]; exact (ql_ (by repeat (first | (with_reducible first | exact HB.out | apply qc_ | apply qa_ | apply qb_ | refine qd_ ?_ GE101.out) | exact HB.out))) : w.heap.size ≤ gb102)); have n5_ := Aside0.mk ((by rw [hg]; exact Nat.ne_of_lt (blk_lt (g := gb101) (o := .cells #[.int .i64 a0_0, .slice A0_1 l0_1.length c0_1] 24 (0, 0)) (by (with_reducible repeat (first | refine qe_ ?_ _ | refine qg_ ?_ | refine qf_ ?_ _)); exact BK101.out)) : gb101 ≠ gb102)); have n6_ := Aside0.mk ((by rw [hg]; exact Nat.ne_of_gt (blk_lt (g := gb101) (o := .cells #[.int .i64 a0_0, .slice A0_1 l0_1.length c0_1] 24 (0, 0)) (by (with_reducible repeat (first | refine qe_ ?_ _ | refine qg_ ?_ | refine qf_ ?_ _)); exact BK101.out)) : gb102 ≠ gb101)); clear BK101; clear HB; have BK101 := n0_; have HB := n1_; have BK102 := n2_; have GW102 := n3_; have GE102 := n4_; have NB101_102 := n5_; have NB102_101 := n6_; clear n0_ n1_ n2_ n3_ n4_ n5_ n6_; clear hb hbox hg) | (go_at_call 8; (with_reducible refine (law11_alive.calls k  true _ A4.out).mono ?_); rintro e w9 ⟨rfl, hb⟩; have n0_ := Aside0.mk (qk_ (g := gb101) (o := .cells #[.int .i64 a0_0, .slice A0_1 l0_1.length c0_1] 24 (0, 0)) (by (with_reducible repeat (first | refine qe_ ?_ _ | refine qg_ ?_ | refine qf_ ?_ _)); exact BK101.out) hb); have n1_ := Aside0.mk (qk_ (g := gb102) (o := .cells #[.int .u32 a1_0, .int .u32 a1_1] 26 (0, 0)) (by (with_reducible repeat (first | refine qe_ ?_ _ | refine qg_ ?_ | refine qf_ ?_ _)); exact BK102.out) hb); have n2_ := Aside0.mk (qj_ (by repeat (first | (with_reducible first | exact HB.out | apply qc_ | apply qa_ | apply qb_ | refine qd_ ?_ GE101.out | refine qd_ ?_ GE102.out) | exact HB.out)) hb); clear BK101; clear BK102; clear HB; have BK101 := n0_; have BK102 := n1_; have HB := n2_; clear n0_ n1_ n2_; (try clear hb); (try clear hb2); (try clear hk); (try clear hi)))
  repeat (go_quiet (first | ((with_reducible refine qo_ (N := 3) rfl ?_); refine qn_ ?hg (N := 3) ?hd (cs := #[.int .i64 a0_0, .slice A0_1 l0_1.length c0_1]) (t := 24) ?hr ?_; (case hd => rfl); (case hg => rfl); (case hr => first | (go_simp; done) | (go_simp; rfl)); intro gb101 hg w7 hbox hb; have n0_ := Aside0.mk (qj_ (by repeat (first | (with_reducible first | exact HB.out | apply qc_ | apply qa_ | apply qb_) | exact HB.out)) hb); have n1_ := Aside0.mk (hbox); have n2_ := Aside0.mk ((by rw [hg]; exact (ql_ (by repeat (first | (with_reducible first | exact HB.out | apply qc_ | apply qa_ | apply qb_) | exact HB.out))) : w.heap.size ≤ gb101)); have n3_ := Aside0.mk ((by rw [hg]; exact (ql_ (by repeat (first | (with_reducible first | exact HB.out | apply qc_ | apply qa_ | apply qb_) | exact HB.out))) : w.heap.size ≤ gb101)); clear HB; have HB := n0_; have BK101 := n1_; have GW101 := n2_; have GE101 := n3_; clear n0_ n1_ n2_ n3_; clear hb hbox hg) | ((with_reducible refine qo_ (N := 4) rfl ?_); refine qn_ ?hg (N := 4) ?hd (cs := #[.int .u32 a1_0, .int .u32 a1_1]) (t := 26) ?hr ?_; (case hd => rfl); (case hg => rfl); (case hr => first | (go_simp; done) | (go_simp; rfl)); intro gb102 hg w8 hbox hb; have n0_ := Aside0.mk (qk_ (g := gb101) (o := .cells #[.int .i64 a0_0, .slice A0_1 l0_1.length c0_1] 24 (0, 0)) (by (with_reducible repeat (first | refine qe_ ?_ _ | refine qg_ ?_ | refine qf_ ?_ _)); exact BK101.out) hb); have n1_ := Aside0.mk (qj_ (by repeat (first | (with_reducible first | exact HB.out | apply qc_ | apply qa_ | apply qb_ | refine qd_ ?_ GE101.out) | exact HB.out)) hb); have n2_ := Aside0.mk (hbox); have n3_ := Aside0.mk ((by rw [hg]; exact (ql_ (by repeat (first | (with_reducible first | exact HB.out | apply qc_ | apply qa_ | apply qb_ | refine qd_ ?_ GE101.out) | exact HB.out))) : w.heap.size ≤ gb102)); have n4_ := Aside0.mk ((by rw [hg]; exact (ql_ (by repeat (first | (with_reducible first | exact HB.out | apply qc_ | apply qa_ | apply qb_ | refine qd_ ?_ GE101.out) | exact HB.out))) : w.heap.size ≤ gb102)); have n5_ := Aside0.mk ((by rw [hg]; exact Nat.ne_of_lt (blk_lt (g := gb101) (o := .cells #[.int .i64 a0_0, .slice A0_1 l0_1.length c0_1] 24 (0, 0)) (by (with_reducible repeat (first | refine qe_ ?_ _ | refine qg_ ?_ | refine qf_ ?_ _)); exact BK101.out)) : gb101 ≠ gb102)); have n6_ := Aside0.mk ((by rw [hg]; exact Nat.ne_of_gt (blk_lt (g := gb101) (o := .cells #[.int .i64 a0_0, .slice A0_1 l0_1.length c0_1] 24 (0, 0)) (by (with_reducible repeat (first | refine qe_ ?_ _ | refine qg_ ?_ | refine qf_ ?_ _)); exact BK101.out)) : gb102 ≠ gb101)); clear BK101; clear HB; have BK101 := n0_; have HB := n1_; have BK102 := n2_; have GW102 := n3_; have GE102 := n4_; have NB101_102 := n5_; have NB102_101 := n6_; clear n0_ n1_ n2_ n3_ n4_ n5_ n6_; clear hb hbox hg) | (go_at_call 8; (with_reducible refine (law11_alive.calls k  true _ A4.out).mono ?_); rintro e w9 ⟨rfl, hb⟩; have n0_ := Aside0.mk (qk_ (g := gb101) (o := .cells #[.int .i64 a0_0, .slice A0_1 l0_1.length c0_1] 24 (0, 0)) (by (with_reducible repeat (first | refine qe_ ?_ _ | refine qg_ ?_ | refine qf_ ?_ _)); exact BK101.out) hb); have n1_ := Aside0.mk (qk_ (g := gb102) (o := .cells #[.int .u32 a1_0, .int .u32 a1_1] 26 (0, 0)) (by (with_reducible repeat (first | refine qe_ ?_ _ | refine qg_ ?_ | refine qf_ ?_ _)); exact BK102.out) hb); have n2_ := Aside0.mk (qj_ (by repeat (first | (with_reducible first | exact HB.out | apply qc_ | apply qa_ | apply qb_ | refine qd_ ?_ GE101.out | refine qd_ ?_ GE102.out) | exact HB.out)) hb); clear BK101; clear BK102; clear HB; have BK101 := n0_; have BK102 := n1_; have HB := n2_; clear n0_ n1_ n2_; (try clear hb); (try clear hb2); (try clear hk); (try clear hi))); go_upto_region 3 with (first | ((with_reducible refine qo_ (N := 3) rfl ?_); refine qn_ ?hg (N := 3) ?hd (cs := #[.int .i64 a0_0, .slice A0_1 l0_1.length c0_1]) (t := 24) ?hr ?_; (case hd => rfl); (case hg => rfl); (case hr => first | (go_simp; done) | (go_simp; rfl)); intro gb101 hg w7 hbox hb; have n0_ := Aside0.mk (qj_ (by repeat (first | (with_reducible first | exact HB.out | apply qc_ | apply qa_ | apply qb_) | exact HB.out)) hb); have n1_ := Aside0.mk (hbox); have n2_ := Aside0.mk ((by rw [hg]; exact (ql_ (by repeat (first | (with_reducible first | exact HB.out | apply qc_ | apply qa_ | apply qb_) | exact HB.out))) : w.heap.size ≤ gb101)); have n3_ := Aside0.mk ((by rw [hg]; exact (ql_ (by repeat (first | (with_reducible first | exact HB.out | apply qc_ | apply qa_ | apply qb_) | exact HB.out))) : w.heap.size ≤ gb101)); clear HB; have HB := n0_; have BK101 := n1_; have GW101 := n2_; have GE101 := n3_; clear n0_ n1_ n2_ n3_; clear hb hbox hg) | ((with_reducible refine qo_ (N := 4) rfl ?_); refine qn_ ?hg (N := 4) ?hd (cs := #[.int .u32 a1_0, .int .u32 a1_1]) (t := 26) ?hr ?_; (case hd => rfl); (case hg => rfl); (case hr => first | (go_simp; done) | (go_simp; rfl)); intro gb102 hg w8 hbox hb; have n0_ := Aside0.mk (qk_ (g := gb101) (o := .cells #[.int .i64 a0_0, .slice A0_1 l0_1.length c0_1] 24 (0, 0)) (by (with_reducible repeat (first | refine qe_ ?_ _ | refine qg_ ?_ | refine qf_ ?_ _)); exact BK101.out) hb); have n1_ := Aside0.mk (qj_ (by repeat (first | (with_reducible first | exact HB.out | apply qc_ | apply qa_ | apply qb_ | refine qd_ ?_ GE101.out) | exact HB.out)) hb); have n2_ := Aside0.mk (hbox); have n3_ := Aside0.mk ((by rw [hg]; exact (ql_ (by repeat (first | (with_reducible first | exact HB.out | apply qc_ | apply qa_ | apply qb_ | refine qd_ ?_ GE101.out) | exact HB.out))) : w.heap.size ≤ gb102)); have n4_ := Aside0.mk ((by rw [hg]; exact (ql_ (by repeat (first | (with_reducible first | exact HB.out | apply qc_ | apply qa_ | apply qb_ | refine qd_ ?_ GE101.out) | exact HB.out))) : w.heap.size ≤ gb102)); have n5_ := Aside0.mk ((by rw [hg]; exact Nat.ne_of_lt (blk_lt (g := gb101) (o := .cells #[.int .i64 a0_0, .slice A0_1 l0_1.length c0_1] 24 (0, 0)) (by (with_reducible repeat (first | refine qe_ ?_ _ | refine qg_ ?_ | refine qf_ ?_ _)); exact BK101.out)) : gb101 ≠ gb102)); have n6_ := Aside0.mk ((by rw [hg]; exact Nat.ne_of_gt (blk_lt (g := gb101) (o := .cells #[.int .i64 a0_0, .slice A0_1 l0_1.length c0_1] 24 (0, 0)) (by (with_reducible repeat (first | refine qe_ ?_ _ | refine qg_ ?_ | refine qf_ ?_ _)); exact BK101.out)) : gb102 ≠ gb101)); clear BK101; clear HB; have BK101 := n0_; have HB := n1_; have BK102 := n2_; have GW102 := n3_; have GE102 := n4_; have NB101_102 := n5_; have NB102_101 := n6_; clear n0_ n1_ n2_ n3_ n4_ n5_ n6_; clear hb hbox hg) | (go_at_call 8; (with_reducible refine (law11_alive.calls k  true _ A4.out).mono ?_); rintro e w9 ⟨rfl, hb⟩; have n0_ := Aside0.mk (qk_ (g := gb101) (o := .cells #[.int .i64 a0_0, .slice A0_1 l0_1.length c0_1] 24 (0, 0)) (by (with_reducible repeat (first | refine qe_ ?_ _ | refine qg_ ?_ | refine qf_ ?_ _)); exact BK101.out) hb); have n1_ := Aside0.mk (qk_ (g := gb102) (o := .cells #[.int .u32 a1_0, .int .u32 a1_1] 26 (0, 0)) (by (with_reducible repeat (first | refine qe_ ?_ _ | refine qg_ ?_ | refine qf_ ?_ _)); exact BK102.out) hb); have n2_ := Aside0.mk (qj_ (by repeat (first | (with_reducible first | exact HB.out | apply qc_ | apply qa_ | apply qb_ | refine qd_ ?_ GE101.out | refine qd_ ?_ GE102.out) | exact HB.out)) hb); clear BK101; clear BK102; clear HB; have BK101 := n0_; have BK102 := n1_; have HB := n2_; clear n0_ n1_ n2_; (try clear hb); (try clear hb2); (try clear hk); (try clear hi))))
  (try simp only [Act.put, sa_, sb_, sc_])
  go_cut [34] (fun v34 wc => ∃ (kq : Nat) (x34_5 : Bool), v34 = .bool x34_5 ∧ Aside0 (law11_PhiRises.j0 kq a2 x34_5 a0_0 l0_1 a1_0 a1_1 = some r) ∧ Aside0 (kq ≤ k) ∧ Aside0 (wc.heap[gb101]? = some (.cells #[.int .i64 a0_0, (.slice A0_1 l0_1.length c0_1)] 24 (0, 0))) ∧ Aside0 (wc.heap[gb102]? = some (.cells #[.int .u32 a1_0, .int .u32 a1_1] 26 (0, 0))) ∧ Aside0 (Below w.heap.size w wc))
  case first =>
   have H := HC6.out
   clear HC6
   by_cases c10 : (l0_1.length : Int) > 16
   ·rw [if_pos c10] at H
    have c10b0 : decide (16 < (l0_1.length : Int)) = true := decide_eq_true c10
    have c10b1 : decide (16 < l0_1.length) = true := decide_eq_true (by omega)
    clear c10
    (first | rw [c10b0] | (simp only [i64_w, i32_w]; rw [c10b0]) | skip)
    have H' := Aside0.mk H
    clear H
    have hnb11 := NB101_102.out
    have hnc11 := NB102_101.out
    have hcz12_0 : w9.cell? ⟨gb101, 0, none⟩ = some (.int .i64 a0_0) := (qi_ BK101.out 0).trans rfl
    have hcz12_1 : w9.cell? ⟨gb101, 1, none⟩ = some (.slice A0_1 l0_1.length c0_1) := (qi_ BK101.out 1).trans rfl
    have hfz12_0 := qh_ BK101.out 0
    have hfz12_1 := qh_ BK101.out 1
    go_wp2
    repeat (go_quiet (fail); try go_wp2)
    go_meet
    case rel => exact ⟨_, (true), (by first | rfl | (simp; done) | (simp [*]; done)), H', ⟨by first | omega | exact Nat.le_refl _⟩, ⟨by (with_reducible repeat (first | refine qe_ ?_ _ | refine qg_ ?_ | refine qf_ ?_ _)); exact BK101.out⟩, ⟨by (with_reducible repeat (first | refine qe_ ?_ _ | refine qg_ ?_ | refine qf_ ?_ _)); exact BK102.out⟩, ⟨by repeat (first | (with_reducible first | exact HB.out | apply qc_ | apply qa_ | apply qb_ | refine qd_ ?_ GE101.out | refine qd_ ?_ GE102.out) | exact HB.out)⟩⟩
   ·rw [if_neg c10] at H
    have c10b0 : decide (16 < (l0_1.length : Int)) = false := decide_eq_false c10
    have c10b1 : decide (16 < l0_1.length) = false := decide_eq_false (by omega)
    clear c10
    (first | rw [c10b0] | (simp only [i64_w, i32_w]; rw [c10b0]) | skip)
    replace H := ob_ H
    obtain ⟨t104, A130, H⟩ := H
    replace H : (if t104 = true then (if a0_0 < 0 then (law11_PhiRises.j0 k a2 true a0_0 l0_1 a1_0 a1_1) else (law11_PhiRises.j0 k a2 (decide (a0_0 > 549755813888)) a0_0 l0_1 a1_0 a1_1)) else (law11_PhiRises.j0 k a2 true a0_0 l0_1 a1_0 a1_1)) = some r := H
    have A13 := Aside0.mk A130
    clear A130
    by_cases c14 : t104 = true
    ·subst c14
     have H1 : (if a0_0 < 0 then (law11_PhiRises.j0 k a2 true a0_0 l0_1 a1_0 a1_1) else (law11_PhiRises.j0 k a2 (decide (a0_0 > 549755813888)) a0_0 l0_1 a1_0 a1_1)) = some r := by rw [if_pos rfl] at H; exact H
     clear H
     have H := H1
     clear H1
     by_cases c15 : a0_0 < 0
     ·rw [if_pos c15] at H
      have c15b0 : decide (a0_0 < 0) = true := decide_eq_true c15
      clear c15
      have H' := Aside0.mk H
      clear H
      have hnb16 := NB101_102.out
      have hnc16 := NB102_101.out
      have hcz17_0 : w9.cell? ⟨gb101, 0, none⟩ = some (.int .i64 a0_0) := (qi_ BK101.out 0).trans rfl
      have hcz17_1 : w9.cell? ⟨gb101, 1, none⟩ = some (.slice A0_1 l0_1.length c0_1) := (qi_ BK101.out 1).trans rfl
      have hfz17_0 := qh_ BK101.out 0
      have hfz17_1 := qh_ BK101.out 1
      go_wp2_with (first | (go_at_call 9; (with_reducible refine (ref10_Right.calls k a0_0 _ _ l0_1 true _ ?side1 ?side2 A13.out).mono ?_); (case side1 => repeat (first | exact (Kd.C_below HR0_1.out HB.out) | (with_reducible refine Kd.qq_ ?_ _) | (with_reducible refine Kd.qp_ ?_ _) | (with_reducible refine Kd.C_drew ?_))); (case side2 => exact HC0_1.out); rintro e w18 ⟨rfl, hb⟩; have n0_ := Aside0.mk (qk_ (g := gb101) (o := .cells #[.int .i64 a0_0, .slice A0_1 l0_1.length c0_1] 24 (0, 0)) (by (with_reducible repeat (first | refine qe_ ?_ _ | refine qg_ ?_ | refine qf_ ?_ _)); exact BK101.out) hb); have n1_ := Aside0.mk (qk_ (g := gb102) (o := .cells #[.int .u32 a1_0, .int .u32 a1_1] 26 (0, 0)) (by (with_reducible repeat (first | refine qe_ ?_ _ | refine qg_ ?_ | refine qf_ ?_ _)); exact BK102.out) hb); have n2_ := Aside0.mk (qj_ (by repeat (first | (with_reducible first | exact HB.out | apply qc_ | apply qa_ | apply qb_ | refine qd_ ?_ GE101.out | refine qd_ ?_ GE102.out) | exact HB.out)) hb); clear BK101; clear BK102; clear HB; have BK101 := n0_; have BK102 := n1_; have HB := n2_; clear n0_ n1_ n2_; (try clear hb); (try clear hb2); (try clear hk); (try clear hi); have hcz19_0 : w18.cell? ⟨gb101, 0, none⟩ = some (.int .i64 a0_0) := (qi_ BK101.out 0).trans rfl; have hcz19_1 : w18.cell? ⟨gb101, 1, none⟩ = some (.slice A0_1 l0_1.length c0_1) := (qi_ BK101.out 1).trans rfl; have hfz19_0 := qh_ BK101.out 0; have hfz19_1 := qh_ BK101.out 1))
      repeat (go_quiet (first | (go_at_call 9; (with_reducible refine (ref10_Right.calls k a0_0 _ _ l0_1 true _ ?side1 ?side2 A13.out).mono ?_); (case side1 => repeat (first | exact (Kd.C_below HR0_1.out HB.out) | (with_reducible refine Kd.qq_ ?_ _) | (with_reducible refine Kd.qp_ ?_ _) | (with_reducible refine Kd.C_drew ?_))); (case side2 => exact HC0_1.out); rintro e w18 ⟨rfl, hb⟩; have n0_ := Aside0.mk (qk_ (g := gb101) (o := .cells #[.int .i64 a0_0, .slice A0_1 l0_1.length c0_1] 24 (0, 0)) (by (with_reducible repeat (first | refine qe_ ?_ _ | refine qg_ ?_ | refine qf_ ?_ _)); exact BK101.out) hb); have n1_ := Aside0.mk (qk_ (g := gb102) (o := .cells #[.int .u32 a1_0, .int .u32 a1_1] 26 (0, 0)) (by (with_reducible repeat (first | refine qe_ ?_ _ | refine qg_ ?_ | refine qf_ ?_ _)); exact BK102.out) hb); have n2_ := Aside0.mk (qj_ (by repeat (first | (with_reducible first | exact HB.out | apply qc_ | apply qa_ | apply qb_ | refine qd_ ?_ GE101.out | refine qd_ ?_ GE102.out) | exact HB.out)) hb); clear BK101; clear BK102; clear HB; have BK101 := n0_; have BK102 := n1_; have HB := n2_; clear n0_ n1_ n2_; (try clear hb); (try clear hb2); (try clear hk); (try clear hi); have hcz19_0 : w18.cell? ⟨gb101, 0, none⟩ = some (.int .i64 a0_0) := (qi_ BK101.out 0).trans rfl; have hcz19_1 : w18.cell? ⟨gb101, 1, none⟩ = some (.slice A0_1 l0_1.length c0_1) := (qi_ BK101.out 1).trans rfl; have hfz19_0 := qh_ BK101.out 0; have hfz19_1 := qh_ BK101.out 1)); try go_wp2_with (first | (go_at_call 9; (with_reducible refine (ref10_Right.calls k a0_0 _ _ l0_1 true _ ?side1 ?side2 A13.out).mono ?_); (case side1 => repeat (first | exact (Kd.C_below HR0_1.out HB.out) | (with_reducible refine Kd.qq_ ?_ _) | (with_reducible refine Kd.qp_ ?_ _) | (with_reducible refine Kd.C_drew ?_))); (case side2 => exact HC0_1.out); rintro e w18 ⟨rfl, hb⟩; have n0_ := Aside0.mk (qk_ (g := gb101) (o := .cells #[.int .i64 a0_0, .slice A0_1 l0_1.length c0_1] 24 (0, 0)) (by (with_reducible repeat (first | refine qe_ ?_ _ | refine qg_ ?_ | refine qf_ ?_ _)); exact BK101.out) hb); have n1_ := Aside0.mk (qk_ (g := gb102) (o := .cells #[.int .u32 a1_0, .int .u32 a1_1] 26 (0, 0)) (by (with_reducible repeat (first | refine qe_ ?_ _ | refine qg_ ?_ | refine qf_ ?_ _)); exact BK102.out) hb); have n2_ := Aside0.mk (qj_ (by repeat (first | (with_reducible first | exact HB.out | apply qc_ | apply qa_ | apply qb_ | refine qd_ ?_ GE101.out | refine qd_ ?_ GE102.out) | exact HB.out)) hb); clear BK101; clear BK102; clear HB; have BK101 := n0_; have BK102 := n1_; have HB := n2_; clear n0_ n1_ n2_; (try clear hb); (try clear hb2); (try clear hk); (try clear hi); have hcz19_0 : w18.cell? ⟨gb101, 0, none⟩ = some (.int .i64 a0_0) := (qi_ BK101.out 0).trans rfl; have hcz19_1 : w18.cell? ⟨gb101, 1, none⟩ = some (.slice A0_1 l0_1.length c0_1) := (qi_ BK101.out 1).trans rfl; have hfz19_0 := qh_ BK101.out 0; have hfz19_1 := qh_ BK101.out 1)))
      go_meet
      case rel => exact ⟨_, (true), (by first | rfl | (simp; done) | (simp [*]; done)), H', ⟨by first | omega | exact Nat.le_refl _⟩, ⟨by (with_reducible repeat (first | refine qe_ ?_ _ | refine qg_ ?_ | refine qf_ ?_ _)); exact BK101.out⟩, ⟨by (with_reducible repeat (first | refine qe_ ?_ _ | refine qg_ ?_ | refine qf_ ?_ _)); exact BK102.out⟩, ⟨by repeat (first | (with_reducible first | exact HB.out | apply qc_ | apply qa_ | apply qb_ | refine qd_ ?_ GE101.out | refine qd_ ?_ GE102.out) | exact HB.out)⟩⟩
     ·rw [if_neg c15] at H
      have c15b0 : decide (a0_0 < 0) = false := decide_eq_false c15
      clear c15
      have H' := Aside0.mk H
      clear H
      have hnb20 := NB101_102.out
      have hnc20 := NB102_101.out
      have hcz21_0 : w9.cell? ⟨gb101, 0, none⟩ = some (.int .i64 a0_0) := (qi_ BK101.out 0).trans rfl
      have hcz21_1 : w9.cell? ⟨gb101, 1, none⟩ = some (.slice A0_1 l0_1.length c0_1) := (qi_ BK101.out 1).trans rfl
      have hfz21_0 := qh_ BK101.out 0
      have hfz21_1 := qh_ BK101.out 1
      go_wp2_with (first | (go_at_call 9; (with_reducible refine (ref10_Right.calls k a0_0 _ _ l0_1 true _ ?side1 ?side2 A13.out).mono ?_); (case side1 => repeat (first | exact (Kd.C_below HR0_1.out HB.out) | (with_reducible refine Kd.qq_ ?_ _) | (with_reducible refine Kd.qp_ ?_ _) | (with_reducible refine Kd.C_drew ?_))); (case side2 => exact HC0_1.out); rintro e w22 ⟨rfl, hb⟩; have n0_ := Aside0.mk (qk_ (g := gb101) (o := .cells #[.int .i64 a0_0, .slice A0_1 l0_1.length c0_1] 24 (0, 0)) (by (with_reducible repeat (first | refine qe_ ?_ _ | refine qg_ ?_ | refine qf_ ?_ _)); exact BK101.out) hb); have n1_ := Aside0.mk (qk_ (g := gb102) (o := .cells #[.int .u32 a1_0, .int .u32 a1_1] 26 (0, 0)) (by (with_reducible repeat (first | refine qe_ ?_ _ | refine qg_ ?_ | refine qf_ ?_ _)); exact BK102.out) hb); have n2_ := Aside0.mk (qj_ (by repeat (first | (with_reducible first | exact HB.out | apply qc_ | apply qa_ | apply qb_ | refine qd_ ?_ GE101.out | refine qd_ ?_ GE102.out) | exact HB.out)) hb); clear BK101; clear BK102; clear HB; have BK101 := n0_; have BK102 := n1_; have HB := n2_; clear n0_ n1_ n2_; (try clear hb); (try clear hb2); (try clear hk); (try clear hi); have hcz23_0 : w22.cell? ⟨gb101, 0, none⟩ = some (.int .i64 a0_0) := (qi_ BK101.out 0).trans rfl; have hcz23_1 : w22.cell? ⟨gb101, 1, none⟩ = some (.slice A0_1 l0_1.length c0_1) := (qi_ BK101.out 1).trans rfl; have hfz23_0 := qh_ BK101.out 0; have hfz23_1 := qh_ BK101.out 1))
      repeat (go_quiet (first | (go_at_call 9; (with_reducible refine (ref10_Right.calls k a0_0 _ _ l0_1 true _ ?side1 ?side2 A13.out).mono ?_); (case side1 => repeat (first | exact (Kd.C_below HR0_1.out HB.out) | (with_reducible refine Kd.qq_ ?_ _) | (with_reducible refine Kd.qp_ ?_ _) | (with_reducible refine Kd.C_drew ?_))); (case side2 => exact HC0_1.out); rintro e w22 ⟨rfl, hb⟩; have n0_ := Aside0.mk (qk_ (g := gb101) (o := .cells #[.int .i64 a0_0, .slice A0_1 l0_1.length c0_1] 24 (0, 0)) (by (with_reducible repeat (first | refine qe_ ?_ _ | refine qg_ ?_ | refine qf_ ?_ _)); exact BK101.out) hb); have n1_ := Aside0.mk (qk_ (g := gb102) (o := .cells #[.int .u32 a1_0, .int .u32 a1_1] 26 (0, 0)) (by (with_reducible repeat (first | refine qe_ ?_ _ | refine qg_ ?_ | refine qf_ ?_ _)); exact BK102.out) hb); have n2_ := Aside0.mk (qj_ (by repeat (first | (with_reducible first | exact HB.out | apply qc_ | apply qa_ | apply qb_ | refine qd_ ?_ GE101.out | refine qd_ ?_ GE102.out) | exact HB.out)) hb); clear BK101; clear BK102; clear HB; have BK101 := n0_; have BK102 := n1_; have HB := n2_; clear n0_ n1_ n2_; (try clear hb); (try clear hb2); (try clear hk); (try clear hi); have hcz23_0 : w22.cell? ⟨gb101, 0, none⟩ = some (.int .i64 a0_0) := (qi_ BK101.out 0).trans rfl; have hcz23_1 : w22.cell? ⟨gb101, 1, none⟩ = some (.slice A0_1 l0_1.length c0_1) := (qi_ BK101.out 1).trans rfl; have hfz23_0 := qh_ BK101.out 0; have hfz23_1 := qh_ BK101.out 1)); try go_wp2_with (first | (go_at_call 9; (with_reducible refine (ref10_Right.calls k a0_0 _ _ l0_1 true _ ?side1 ?side2 A13.out).mono ?_); (case side1 => repeat (first | exact (Kd.C_below HR0_1.out HB.out) | (with_reducible refine Kd.qq_ ?_ _) | (with_reducible refine Kd.qp_ ?_ _) | (with_reducible refine Kd.C_drew ?_))); (case side2 => exact HC0_1.out); rintro e w22 ⟨rfl, hb⟩; have n0_ := Aside0.mk (qk_ (g := gb101) (o := .cells #[.int .i64 a0_0, .slice A0_1 l0_1.length c0_1] 24 (0, 0)) (by (with_reducible repeat (first | refine qe_ ?_ _ | refine qg_ ?_ | refine qf_ ?_ _)); exact BK101.out) hb); have n1_ := Aside0.mk (qk_ (g := gb102) (o := .cells #[.int .u32 a1_0, .int .u32 a1_1] 26 (0, 0)) (by (with_reducible repeat (first | refine qe_ ?_ _ | refine qg_ ?_ | refine qf_ ?_ _)); exact BK102.out) hb); have n2_ := Aside0.mk (qj_ (by repeat (first | (with_reducible first | exact HB.out | apply qc_ | apply qa_ | apply qb_ | refine qd_ ?_ GE101.out | refine qd_ ?_ GE102.out) | exact HB.out)) hb); clear BK101; clear BK102; clear HB; have BK101 := n0_; have BK102 := n1_; have HB := n2_; clear n0_ n1_ n2_; (try clear hb); (try clear hb2); (try clear hk); (try clear hi); have hcz23_0 : w22.cell? ⟨gb101, 0, none⟩ = some (.int .i64 a0_0) := (qi_ BK101.out 0).trans rfl; have hcz23_1 : w22.cell? ⟨gb101, 1, none⟩ = some (.slice A0_1 l0_1.length c0_1) := (qi_ BK101.out 1).trans rfl; have hfz23_0 := qh_ BK101.out 0; have hfz23_1 := qh_ BK101.out 1)))
      go_meet
      case rel => exact ⟨_, (decide (a0_0 > 549755813888)), (by first | rfl | (simp; done) | (simp [*]; done)), H', ⟨by first | omega | exact Nat.le_refl _⟩, ⟨by (with_reducible repeat (first | refine qe_ ?_ _ | refine qg_ ?_ | refine qf_ ?_ _)); exact BK101.out⟩, ⟨by (with_reducible repeat (first | refine qe_ ?_ _ | refine qg_ ?_ | refine qf_ ?_ _)); exact BK102.out⟩, ⟨by repeat (first | (with_reducible first | exact HB.out | apply qc_ | apply qa_ | apply qb_ | refine qd_ ?_ GE101.out | refine qd_ ?_ GE102.out) | exact HB.out)⟩⟩
    ·replace c14 := Bool.eq_false_iff.mpr c14
     subst c14
     have H1 : (law11_PhiRises.j0 k a2 true a0_0 l0_1 a1_0 a1_1) = some r := by rw [if_neg (show ¬ (false = true) by decide)] at H; exact H
     clear H
     have H := H1
     clear H1
     have H' := Aside0.mk H
     clear H
     have hnb24 := NB101_102.out
     have hnc24 := NB102_101.out
     have hcz25_0 : w9.cell? ⟨gb101, 0, none⟩ = some (.int .i64 a0_0) := (qi_ BK101.out 0).trans rfl
     have hcz25_1 : w9.cell? ⟨gb101, 1, none⟩ = some (.slice A0_1 l0_1.length c0_1) := (qi_ BK101.out 1).trans rfl
     have hfz25_0 := qh_ BK101.out 0
     have hfz25_1 := qh_ BK101.out 1
     go_wp2_with (first | (go_at_call 9; (with_reducible refine (ref10_Right.calls k a0_0 _ _ l0_1 false _ ?side1 ?side2 A13.out).mono ?_); (case side1 => repeat (first | exact (Kd.C_below HR0_1.out HB.out) | (with_reducible refine Kd.qq_ ?_ _) | (with_reducible refine Kd.qp_ ?_ _) | (with_reducible refine Kd.C_drew ?_))); (case side2 => exact HC0_1.out); rintro e w26 ⟨rfl, hb⟩; have n0_ := Aside0.mk (qk_ (g := gb101) (o := .cells #[.int .i64 a0_0, .slice A0_1 l0_1.length c0_1] 24 (0, 0)) (by (with_reducible repeat (first | refine qe_ ?_ _ | refine qg_ ?_ | refine qf_ ?_ _)); exact BK101.out) hb); have n1_ := Aside0.mk (qk_ (g := gb102) (o := .cells #[.int .u32 a1_0, .int .u32 a1_1] 26 (0, 0)) (by (with_reducible repeat (first | refine qe_ ?_ _ | refine qg_ ?_ | refine qf_ ?_ _)); exact BK102.out) hb); have n2_ := Aside0.mk (qj_ (by repeat (first | (with_reducible first | exact HB.out | apply qc_ | apply qa_ | apply qb_ | refine qd_ ?_ GE101.out | refine qd_ ?_ GE102.out) | exact HB.out)) hb); clear BK101; clear BK102; clear HB; have BK101 := n0_; have BK102 := n1_; have HB := n2_; clear n0_ n1_ n2_; (try clear hb); (try clear hb2); (try clear hk); (try clear hi)))
     repeat (go_quiet (first | (go_at_call 9; (with_reducible refine (ref10_Right.calls k a0_0 _ _ l0_1 false _ ?side1 ?side2 A13.out).mono ?_); (case side1 => repeat (first | exact (Kd.C_below HR0_1.out HB.out) | (with_reducible refine Kd.qq_ ?_ _) | (with_reducible refine Kd.qp_ ?_ _) | (with_reducible refine Kd.C_drew ?_))); (case side2 => exact HC0_1.out); rintro e w26 ⟨rfl, hb⟩; have n0_ := Aside0.mk (qk_ (g := gb101) (o := .cells #[.int .i64 a0_0, .slice A0_1 l0_1.length c0_1] 24 (0, 0)) (by (with_reducible repeat (first | refine qe_ ?_ _ | refine qg_ ?_ | refine qf_ ?_ _)); exact BK101.out) hb); have n1_ := Aside0.mk (qk_ (g := gb102) (o := .cells #[.int .u32 a1_0, .int .u32 a1_1] 26 (0, 0)) (by (with_reducible repeat (first | refine qe_ ?_ _ | refine qg_ ?_ | refine qf_ ?_ _)); exact BK102.out) hb); have n2_ := Aside0.mk (qj_ (by repeat (first | (with_reducible first | exact HB.out | apply qc_ | apply qa_ | apply qb_ | refine qd_ ?_ GE101.out | refine qd_ ?_ GE102.out) | exact HB.out)) hb); clear BK101; clear BK102; clear HB; have BK101 := n0_; have BK102 := n1_; have HB := n2_; clear n0_ n1_ n2_; (try clear hb); (try clear hb2); (try clear hk); (try clear hi))); try go_wp2_with (first | (go_at_call 9; (with_reducible refine (ref10_Right.calls k a0_0 _ _ l0_1 false _ ?side1 ?side2 A13.out).mono ?_); (case side1 => repeat (first | exact (Kd.C_below HR0_1.out HB.out) | (with_reducible refine Kd.qq_ ?_ _) | (with_reducible refine Kd.qp_ ?_ _) | (with_reducible refine Kd.C_drew ?_))); (case side2 => exact HC0_1.out); rintro e w26 ⟨rfl, hb⟩; have n0_ := Aside0.mk (qk_ (g := gb101) (o := .cells #[.int .i64 a0_0, .slice A0_1 l0_1.length c0_1] 24 (0, 0)) (by (with_reducible repeat (first | refine qe_ ?_ _ | refine qg_ ?_ | refine qf_ ?_ _)); exact BK101.out) hb); have n1_ := Aside0.mk (qk_ (g := gb102) (o := .cells #[.int .u32 a1_0, .int .u32 a1_1] 26 (0, 0)) (by (with_reducible repeat (first | refine qe_ ?_ _ | refine qg_ ?_ | refine qf_ ?_ _)); exact BK102.out) hb); have n2_ := Aside0.mk (qj_ (by repeat (first | (with_reducible first | exact HB.out | apply qc_ | apply qa_ | apply qb_ | refine qd_ ?_ GE101.out | refine qd_ ?_ GE102.out) | exact HB.out)) hb); clear BK101; clear BK102; clear HB; have BK101 := n0_; have BK102 := n1_; have HB := n2_; clear n0_ n1_ n2_; (try clear hb); (try clear hb2); (try clear hk); (try clear hi))))
     go_meet
     case rel => exact ⟨_, (true), (by first | rfl | (simp; done) | (simp [*]; done)), H', ⟨by first | omega | exact Nat.le_refl _⟩, ⟨by (with_reducible repeat (first | refine qe_ ?_ _ | refine qg_ ?_ | refine qf_ ?_ _)); exact BK101.out⟩, ⟨by (with_reducible repeat (first | refine qe_ ?_ _ | refine qg_ ?_ | refine qf_ ?_ _)); exact BK102.out⟩, ⟨by repeat (first | (with_reducible first | exact HB.out | apply qc_ | apply qa_ | apply qb_ | refine qd_ ?_ GE101.out | refine qd_ ?_ GE102.out) | exact HB.out)⟩⟩
  case rest =>
   clear HC6
   try clear c1
   try clear c2
   try clear p2
   try clear c3
   try clear c5
   try clear c10
   try clear c10b0
   try clear c10b1
   try clear c11
   try clear c14
   try clear c15
   try clear c15b0
   try clear c16
   try clear c20
   try clear c24
   try clear hcz12_0
   try clear hcz12_1
   try clear hcz17_0
   try clear hcz17_1
   try clear hcz19_0
   try clear hcz19_1
   try clear hcz21_0
   try clear hcz21_1
   try clear hcz23_0
   try clear hcz23_1
   try clear hcz25_0
   try clear hcz25_1
   try clear hfz12_0
   try clear hfz12_1
   try clear hfz17_0
   try clear hfz17_1
   try clear hfz19_0
   try clear hfz19_1
   try clear hfz21_0
   try clear hfz21_1
   try clear hfz23_0
   try clear hfz23_1
   try clear hfz25_0
   try clear hfz25_1
   obtain ⟨kq, x34_5, rfl, HA, HJ5, BK101, BK102, HB⟩ := hcut
   cases kq with
   | zero => exact absurd HA.out (by simp [law11_PhiRises.j0])
   | succ kj5 =>
    have H := HA.out
    clear HA
    simp only [law11_PhiRises.j0] at H
    by_cases c27 : x34_5 = true
    ·subst c27
     have H1 : (some true) = some r := by rw [if_pos rfl] at H; exact H
     clear H
     have H := H1
     clear H1
     obtain rfl := Option.some.inj H
     go_wp2
     repeat (go_quiet (fail); try go_wp2)
     go_ret
     exact ⟨by first | rfl | (simp [errW_none, errW_some] <;> rfl) | (simp [*, errW_none, errW_some] <;> rfl), by repeat (first | (with_reducible first | exact HB.out | apply qc_ | apply qa_ | apply qb_ | refine qd_ ?_ GE101.out | refine qd_ ?_ GE102.out) | exact HB.out)⟩
    ·replace c27 := Bool.eq_false_iff.mpr c27
     subst c27
     have H1 : ((phi_Level.f kj5 a0_0 l0_1 (wrap64 (a0_0 + (wrap64 (mn a1_0 a1_1)))) (wrap64 (a2))).bind fun bt105 => ((phi_Level.f kj5 a0_0 l0_1 (wrap64 (a0_0 + (wrap64 (mx a1_0 a1_1)))) (wrap64 (a2))).bind fun bt107 => (if bt105.2 = 0 then (if bt107.2 = 0 then (law11_PhiRises.j1 kj5 a2 (wrap64 (a0_0 + (wrap64 (mn a1_0 a1_1)))) bt105.1 (decide (bt105.1 > bt107.1)) a0_0 l0_1) else (law11_PhiRises.j1 kj5 a2 (wrap64 (a0_0 + (wrap64 (mn a1_0 a1_1)))) bt105.1 true a0_0 l0_1)) else (law11_PhiRises.j1 kj5 a2 (wrap64 (a0_0 + (wrap64 (mn a1_0 a1_1)))) bt105.1 true a0_0 l0_1)))) = some r := by rw [if_neg (show ¬ (false = true) by decide)] at H; exact H
     clear H
     have H := H1
     clear H1
     obtain ⟨ji28, hji28⟩ : ∃ j_ : Int, (mn a1_0 a1_1) = j_ := ⟨_, rfl⟩
     replace H : ((phi_Level.f kj5 a0_0 l0_1 (wrap64 (a0_0 + (wrap64 (ji28)))) (wrap64 (a2))).bind fun bt105 => ((phi_Level.f kj5 a0_0 l0_1 (wrap64 (a0_0 + (wrap64 (mx a1_0 a1_1)))) (wrap64 (a2))).bind fun bt107 => (if bt105.2 = 0 then (if bt107.2 = 0 then (law11_PhiRises.j1 kj5 a2 (wrap64 (a0_0 + (wrap64 (ji28)))) bt105.1 (decide (bt105.1 > bt107.1)) a0_0 l0_1) else (law11_PhiRises.j1 kj5 a2 (wrap64 (a0_0 + (wrap64 (ji28)))) bt105.1 true a0_0 l0_1)) else (law11_PhiRises.j1 kj5 a2 (wrap64 (a0_0 + (wrap64 (ji28)))) bt105.1 true a0_0 l0_1)))) = some r := by first | (rw [hji28] at H; exact H) | (simp only [hji28] at H ⊢; exact H)
     have hji28_ : (if a1_1 < a1_0 then a1_1 else a1_0) = ji28 := hji28
     obtain ⟨ji29, hji29⟩ : ∃ j_ : Int, (mx a1_0 a1_1) = j_ := ⟨_, rfl⟩
     replace H : ((phi_Level.f kj5 a0_0 l0_1 (wrap64 (a0_0 + (wrap64 (ji28)))) (wrap64 (a2))).bind fun bt105 => ((phi_Level.f kj5 a0_0 l0_1 (wrap64 (a0_0 + (wrap64 (ji29)))) (wrap64 (a2))).bind fun bt107 => (if bt105.2 = 0 then (if bt107.2 = 0 then (law11_PhiRises.j1 kj5 a2 (wrap64 (a0_0 + (wrap64 (ji28)))) bt105.1 (decide (bt105.1 > bt107.1)) a0_0 l0_1) else (law11_PhiRises.j1 kj5 a2 (wrap64 (a0_0 + (wrap64 (ji28)))) bt105.1 true a0_0 l0_1)) else (law11_PhiRises.j1 kj5 a2 (wrap64 (a0_0 + (wrap64 (ji28)))) bt105.1 true a0_0 l0_1)))) = some r := by first | (rw [hji29] at H; exact H) | (simp only [hji29] at H ⊢; exact H)
     have hji29_ : (if a1_0 < a1_1 then a1_1 else a1_0) = ji29 := hji29
     replace H := ob_ H
     obtain ⟨⟨t105, t106⟩, A300, H⟩ := H
     replace H : ((phi_Level.f kj5 a0_0 l0_1 (wrap64 (a0_0 + (wrap64 (ji29)))) (wrap64 (a2))).bind fun bt107 => (if t106 = 0 then (if bt107.2 = 0 then (law11_PhiRises.j1 kj5 a2 (wrap64 (a0_0 + (wrap64 (ji28)))) t105 (decide (t105 > bt107.1)) a0_0 l0_1) else (law11_PhiRises.j1 kj5 a2 (wrap64 (a0_0 + (wrap64 (ji28)))) t105 true a0_0 l0_1)) else (law11_PhiRises.j1 kj5 a2 (wrap64 (a0_0 + (wrap64 (ji28)))) t105 true a0_0 l0_1))) = some r := H
     have A30 := Aside0.mk A300
     clear A300
     replace H := ob_ H
     obtain ⟨⟨t107, t108⟩, A310, H⟩ := H
     replace H : (if t106 = 0 then (if t108 = 0 then (law11_PhiRises.j1 kj5 a2 (wrap64 (a0_0 + (wrap64 (ji28)))) t105 (decide (t105 > t107)) a0_0 l0_1) else (law11_PhiRises.j1 kj5 a2 (wrap64 (a0_0 + (wrap64 (ji28)))) t105 true a0_0 l0_1)) else (law11_PhiRises.j1 kj5 a2 (wrap64 (a0_0 + (wrap64 (ji28)))) t105 true a0_0 l0_1)) = some r := H
     have A31 := Aside0.mk A310
     clear A310
     have HC32 := Aside0.mk H
     clear H
     have hnb33 := NB101_102.out
     have hnc33 := NB102_101.out
     have hcz34_0 : wc.cell? ⟨gb101, 0, none⟩ = some (.int .i64 a0_0) := (qi_ BK101.out 0).trans rfl
     have hcz34_1 : wc.cell? ⟨gb101, 1, none⟩ = some (.slice A0_1 l0_1.length c0_1) := (qi_ BK101.out 1).trans rfl
     have hfz34_0 := qh_ BK101.out 0
     have hfz34_1 := qh_ BK101.out 1
     have hcz35_0 : wc.cell? ⟨gb102, 0, none⟩ = some (.int .u32 a1_0) := (qi_ BK102.out 0).trans rfl
     have hcz35_1 : wc.cell? ⟨gb102, 1, none⟩ = some (.int .u32 a1_1) := (qi_ BK102.out 1).trans rfl
     have hfz35_0 := qh_ BK102.out 0
     have hfz35_1 := qh_ BK102.out 1
     go_upto_region 8 with (first | (go_at_call 10; (with_reducible refine (phi_Level.calls kj5 a0_0 _ _ l0_1 (wrap64 (a0_0 + (wrap64 (ji28)))) (wrap64 (a2)) t105 t106 _ ?side1 ?side2 A30.out).mono ?_); (case side1 => repeat (first | exact (Kd.C_below HR0_1.out HB.out) | (with_reducible refine Kd.qq_ ?_ _) | (with_reducible refine Kd.qp_ ?_ _) | (with_reducible refine Kd.C_drew ?_))); (case side2 => exact HC0_1.out); rintro e w36 ⟨rfl, hb⟩; have n0_ := Aside0.mk (qk_ (g := gb101) (o := .cells #[.int .i64 a0_0, .slice A0_1 l0_1.length c0_1] 24 (0, 0)) (by (with_reducible repeat (first | refine qe_ ?_ _ | refine qg_ ?_ | refine qf_ ?_ _)); exact BK101.out) hb); have n1_ := Aside0.mk (qk_ (g := gb102) (o := .cells #[.int .u32 a1_0, .int .u32 a1_1] 26 (0, 0)) (by (with_reducible repeat (first | refine qe_ ?_ _ | refine qg_ ?_ | refine qf_ ?_ _)); exact BK102.out) hb); have n2_ := Aside0.mk (qj_ (by repeat (first | (with_reducible first | exact HB.out | apply qc_ | apply qa_ | apply qb_ | refine qd_ ?_ GE101.out | refine qd_ ?_ GE102.out) | exact HB.out)) hb); clear BK101; clear BK102; clear HB; have BK101 := n0_; have BK102 := n1_; have HB := n2_; clear n0_ n1_ n2_; (try clear hb); (try clear hb2); (try clear hk); (try clear hi); have hcz37_0 : w36.cell? ⟨gb101, 0, none⟩ = some (.int .i64 a0_0) := (qi_ BK101.out 0).trans rfl; have hcz37_1 : w36.cell? ⟨gb101, 1, none⟩ = some (.slice A0_1 l0_1.length c0_1) := (qi_ BK101.out 1).trans rfl; have hfz37_0 := qh_ BK101.out 0; have hfz37_1 := qh_ BK101.out 1) | (go_at_call 10; (with_reducible refine (phi_Level.calls kj5 a0_0 _ _ l0_1 (wrap64 (a0_0 + (wrap64 (ji29)))) (wrap64 (a2)) t107 t108 _ ?side1 ?side2 A31.out).mono ?_); (case side1 => repeat (first | exact (Kd.C_below HR0_1.out HB.out) | (with_reducible refine Kd.qq_ ?_ _) | (with_reducible refine Kd.qp_ ?_ _) | (with_reducible refine Kd.C_drew ?_))); (case side2 => exact HC0_1.out); rintro e w38 ⟨rfl, hb⟩; have n0_ := Aside0.mk (qk_ (g := gb101) (o := .cells #[.int .i64 a0_0, .slice A0_1 l0_1.length c0_1] 24 (0, 0)) (by (with_reducible repeat (first | refine qe_ ?_ _ | refine qg_ ?_ | refine qf_ ?_ _)); exact BK101.out) hb); have n1_ := Aside0.mk (qk_ (g := gb102) (o := .cells #[.int .u32 a1_0, .int .u32 a1_1] 26 (0, 0)) (by (with_reducible repeat (first | refine qe_ ?_ _ | refine qg_ ?_ | refine qf_ ?_ _)); exact BK102.out) hb); have n2_ := Aside0.mk (qj_ (by repeat (first | (with_reducible first | exact HB.out | apply qc_ | apply qa_ | apply qb_ | refine qd_ ?_ GE101.out | refine qd_ ?_ GE102.out) | exact HB.out)) hb); clear BK101; clear BK102; clear HB; have BK101 := n0_; have BK102 := n1_; have HB := n2_; clear n0_ n1_ n2_; (try clear hb); (try clear hb2); (try clear hk); (try clear hi)))
     repeat (go_quiet (first | (go_at_call 10; (with_reducible refine (phi_Level.calls kj5 a0_0 _ _ l0_1 (wrap64 (a0_0 + (wrap64 (ji28)))) (wrap64 (a2)) t105 t106 _ ?side1 ?side2 A30.out).mono ?_); (case side1 => repeat (first | exact (Kd.C_below HR0_1.out HB.out) | (with_reducible refine Kd.qq_ ?_ _) | (with_reducible refine Kd.qp_ ?_ _) | (with_reducible refine Kd.C_drew ?_))); (case side2 => exact HC0_1.out); rintro e w36 ⟨rfl, hb⟩; have n0_ := Aside0.mk (qk_ (g := gb101) (o := .cells #[.int .i64 a0_0, .slice A0_1 l0_1.length c0_1] 24 (0, 0)) (by (with_reducible repeat (first | refine qe_ ?_ _ | refine qg_ ?_ | refine qf_ ?_ _)); exact BK101.out) hb); have n1_ := Aside0.mk (qk_ (g := gb102) (o := .cells #[.int .u32 a1_0, .int .u32 a1_1] 26 (0, 0)) (by (with_reducible repeat (first | refine qe_ ?_ _ | refine qg_ ?_ | refine qf_ ?_ _)); exact BK102.out) hb); have n2_ := Aside0.mk (qj_ (by repeat (first | (with_reducible first | exact HB.out | apply qc_ | apply qa_ | apply qb_ | refine qd_ ?_ GE101.out | refine qd_ ?_ GE102.out) | exact HB.out)) hb); clear BK101; clear BK102; clear HB; have BK101 := n0_; have BK102 := n1_; have HB := n2_; clear n0_ n1_ n2_; (try clear hb); (try clear hb2); (try clear hk); (try clear hi); have hcz37_0 : w36.cell? ⟨gb101, 0, none⟩ = some (.int .i64 a0_0) := (qi_ BK101.out 0).trans rfl; have hcz37_1 : w36.cell? ⟨gb101, 1, none⟩ = some (.slice A0_1 l0_1.length c0_1) := (qi_ BK101.out 1).trans rfl; have hfz37_0 := qh_ BK101.out 0; have hfz37_1 := qh_ BK101.out 1) | (go_at_call 10; (with_reducible refine (phi_Level.calls kj5 a0_0 _ _ l0_1 (wrap64 (a0_0 + (wrap64 (ji29)))) (wrap64 (a2)) t107 t108 _ ?side1 ?side2 A31.out).mono ?_); (case side1 => repeat (first | exact (Kd.C_below HR0_1.out HB.out) | (with_reducible refine Kd.qq_ ?_ _) | (with_reducible refine Kd.qp_ ?_ _) | (with_reducible refine Kd.C_drew ?_))); (case side2 => exact HC0_1.out); rintro e w38 ⟨rfl, hb⟩; have n0_ := Aside0.mk (qk_ (g := gb101) (o := .cells #[.int .i64 a0_0, .slice A0_1 l0_1.length c0_1] 24 (0, 0)) (by (with_reducible repeat (first | refine qe_ ?_ _ | refine qg_ ?_ | refine qf_ ?_ _)); exact BK101.out) hb); have n1_ := Aside0.mk (qk_ (g := gb102) (o := .cells #[.int .u32 a1_0, .int .u32 a1_1] 26 (0, 0)) (by (with_reducible repeat (first | refine qe_ ?_ _ | refine qg_ ?_ | refine qf_ ?_ _)); exact BK102.out) hb); have n2_ := Aside0.mk (qj_ (by repeat (first | (with_reducible first | exact HB.out | apply qc_ | apply qa_ | apply qb_ | refine qd_ ?_ GE101.out | refine qd_ ?_ GE102.out) | exact HB.out)) hb); clear BK101; clear BK102; clear HB; have BK101 := n0_; have BK102 := n1_; have HB := n2_; clear n0_ n1_ n2_; (try clear hb); (try clear hb2); (try clear hk); (try clear hi))); go_upto_region 8 with (first | (go_at_call 10; (with_reducible refine (phi_Level.calls kj5 a0_0 _ _ l0_1 (wrap64 (a0_0 + (wrap64 (ji28)))) (wrap64 (a2)) t105 t106 _ ?side1 ?side2 A30.out).mono ?_); (case side1 => repeat (first | exact (Kd.C_below HR0_1.out HB.out) | (with_reducible refine Kd.qq_ ?_ _) | (with_reducible refine Kd.qp_ ?_ _) | (with_reducible refine Kd.C_drew ?_))); (case side2 => exact HC0_1.out); rintro e w36 ⟨rfl, hb⟩; have n0_ := Aside0.mk (qk_ (g := gb101) (o := .cells #[.int .i64 a0_0, .slice A0_1 l0_1.length c0_1] 24 (0, 0)) (by (with_reducible repeat (first | refine qe_ ?_ _ | refine qg_ ?_ | refine qf_ ?_ _)); exact BK101.out) hb); have n1_ := Aside0.mk (qk_ (g := gb102) (o := .cells #[.int .u32 a1_0, .int .u32 a1_1] 26 (0, 0)) (by (with_reducible repeat (first | refine qe_ ?_ _ | refine qg_ ?_ | refine qf_ ?_ _)); exact BK102.out) hb); have n2_ := Aside0.mk (qj_ (by repeat (first | (with_reducible first | exact HB.out | apply qc_ | apply qa_ | apply qb_ | refine qd_ ?_ GE101.out | refine qd_ ?_ GE102.out) | exact HB.out)) hb); clear BK101; clear BK102; clear HB; have BK101 := n0_; have BK102 := n1_; have HB := n2_; clear n0_ n1_ n2_; (try clear hb); (try clear hb2); (try clear hk); (try clear hi); have hcz37_0 : w36.cell? ⟨gb101, 0, none⟩ = some (.int .i64 a0_0) := (qi_ BK101.out 0).trans rfl; have hcz37_1 : w36.cell? ⟨gb101, 1, none⟩ = some (.slice A0_1 l0_1.length c0_1) := (qi_ BK101.out 1).trans rfl; have hfz37_0 := qh_ BK101.out 0; have hfz37_1 := qh_ BK101.out 1) | (go_at_call 10; (with_reducible refine (phi_Level.calls kj5 a0_0 _ _ l0_1 (wrap64 (a0_0 + (wrap64 (ji29)))) (wrap64 (a2)) t107 t108 _ ?side1 ?side2 A31.out).mono ?_); (case side1 => repeat (first | exact (Kd.C_below HR0_1.out HB.out) | (with_reducible refine Kd.qq_ ?_ _) | (with_reducible refine Kd.qp_ ?_ _) | (with_reducible refine Kd.C_drew ?_))); (case side2 => exact HC0_1.out); rintro e w38 ⟨rfl, hb⟩; have n0_ := Aside0.mk (qk_ (g := gb101) (o := .cells #[.int .i64 a0_0, .slice A0_1 l0_1.length c0_1] 24 (0, 0)) (by (with_reducible repeat (first | refine qe_ ?_ _ | refine qg_ ?_ | refine qf_ ?_ _)); exact BK101.out) hb); have n1_ := Aside0.mk (qk_ (g := gb102) (o := .cells #[.int .u32 a1_0, .int .u32 a1_1] 26 (0, 0)) (by (with_reducible repeat (first | refine qe_ ?_ _ | refine qg_ ?_ | refine qf_ ?_ _)); exact BK102.out) hb); have n2_ := Aside0.mk (qj_ (by repeat (first | (with_reducible first | exact HB.out | apply qc_ | apply qa_ | apply qb_ | refine qd_ ?_ GE101.out | refine qd_ ?_ GE102.out) | exact HB.out)) hb); clear BK101; clear BK102; clear HB; have BK101 := n0_; have BK102 := n1_; have HB := n2_; clear n0_ n1_ n2_; (try clear hb); (try clear hb2); (try clear hk); (try clear hi))))
     (try simp only [Act.put, sa_, sb_, sc_])
     go_cut [79] (fun v79 wc => ∃ (kq : Nat) (x79_31 : Bool), v79 = .bool x79_31 ∧ Aside0 (law11_PhiRises.j1 kq a2 (wrap64 (a0_0 + (wrap64 (ji28)))) t105 x79_31 a0_0 l0_1 = some r) ∧ Aside0 (kq ≤ kj5) ∧ Aside0 (wc.heap[gb101]? = some (.cells #[.int .i64 a0_0, (.slice A0_1 l0_1.length c0_1)] 24 (0, 0))) ∧ Aside0 (wc.heap[gb102]? = some (.cells #[.int .u32 a1_0, .int .u32 a1_1] 26 (0, 0))) ∧ Aside0 (Below w.heap.size w wc))
     case first =>
      have H := HC32.out
      clear HC32
      by_cases c39 : t106 = 0
      ·rw [if_pos c39] at H
       have c39b0 : (t106 == 0) = true := beq_iff_eq.mpr c39
       have c39b1 : (t106 != 0) = false := bne_eq_false_iff_eq.mpr c39
       clear c39
       (first | rw [c39b0] | (simp only [i64_w, i32_w]; rw [c39b0]) | skip)
       by_cases c40 : t108 = 0
       ·rw [if_pos c40] at H
        have c40b0 : (t108 == 0) = true := beq_iff_eq.mpr c40
        have c40b1 : (t108 != 0) = false := bne_eq_false_iff_eq.mpr c40
        clear c40
        have H' := Aside0.mk H
        clear H
        go_wp2
        repeat (go_quiet (fail); try go_wp2)
        go_meet
        case rel => exact ⟨_, (decide (t105 > t107)), (by first | rfl | (simp; done) | (simp [*]; done)), H', ⟨by have := HJ5.out; first | omega | exact Nat.le_refl _⟩, ⟨by (with_reducible repeat (first | refine qe_ ?_ _ | refine qg_ ?_ | refine qf_ ?_ _)); exact BK101.out⟩, ⟨by (with_reducible repeat (first | refine qe_ ?_ _ | refine qg_ ?_ | refine qf_ ?_ _)); exact BK102.out⟩, ⟨by repeat (first | (with_reducible first | exact HB.out | apply qc_ | apply qa_ | apply qb_ | refine qd_ ?_ GE101.out | refine qd_ ?_ GE102.out) | exact HB.out)⟩⟩
       ·rw [if_neg c40] at H
        have c40b0 : (t108 == 0) = false := beq_eq_false_iff_ne.mpr c40
        have c40b1 : (t108 != 0) = true := bne_iff_ne.mpr c40
        have H' := Aside0.mk H
        clear H
        go_wp2
        repeat (go_quiet (fail); try go_wp2)
        go_meet
        case rel => exact ⟨_, (true), (by first | rfl | (simp; done) | (simp [*]; done)), H', ⟨by have := HJ5.out; first | omega | exact Nat.le_refl _⟩, ⟨by (with_reducible repeat (first | refine qe_ ?_ _ | refine qg_ ?_ | refine qf_ ?_ _)); exact BK101.out⟩, ⟨by (with_reducible repeat (first | refine qe_ ?_ _ | refine qg_ ?_ | refine qf_ ?_ _)); exact BK102.out⟩, ⟨by repeat (first | (with_reducible first | exact HB.out | apply qc_ | apply qa_ | apply qb_ | refine qd_ ?_ GE101.out | refine qd_ ?_ GE102.out) | exact HB.out)⟩⟩
      ·rw [if_neg c39] at H
       have c39b0 : (t106 == 0) = false := beq_eq_false_iff_ne.mpr c39
       have c39b1 : (t106 != 0) = true := bne_iff_ne.mpr c39
       (first | rw [c39b0] | (simp only [i64_w, i32_w]; rw [c39b0]) | skip)
       have H' := Aside0.mk H
       clear H
       go_wp2
       repeat (go_quiet (fail); try go_wp2)
       go_meet
       case rel => exact ⟨_, (true), (by first | rfl | (simp; done) | (simp [*]; done)), H', ⟨by have := HJ5.out; first | omega | exact Nat.le_refl _⟩, ⟨by (with_reducible repeat (first | refine qe_ ?_ _ | refine qg_ ?_ | refine qf_ ?_ _)); exact BK101.out⟩, ⟨by (with_reducible repeat (first | refine qe_ ?_ _ | refine qg_ ?_ | refine qf_ ?_ _)); exact BK102.out⟩, ⟨by repeat (first | (with_reducible first | exact HB.out | apply qc_ | apply qa_ | apply qb_ | refine qd_ ?_ GE101.out | refine qd_ ?_ GE102.out) | exact HB.out)⟩⟩
     case rest =>
      clear HC32
      try clear c1
      try clear c2
      try clear p2
      try clear c3
      try clear c4
      try clear c5
      try clear p6
      try clear c10
      try clear c10b0
      try clear c10b1
      try clear c11
      try clear c14
      try clear c15
      try clear c15b0
      try clear c16
      try clear c20
      try clear c24
      try clear c27
      try clear c33
      try clear c39
      try clear c39b0
      try clear c39b1
      try clear c40
      try clear c40b0
      try clear c40b1
      try clear hcz12_0
      try clear hcz12_1
      try clear hcz17_0
      try clear hcz17_1
      try clear hcz19_0
      try clear hcz19_1
      try clear hcz21_0
      try clear hcz21_1
      try clear hcz23_0
      try clear hcz23_1
      try clear hcz25_0
      try clear hcz25_1
      try clear hcz34_0
      try clear hcz34_1
      try clear hcz35_0
      try clear hcz35_1
      try clear hcz37_0
      try clear hcz37_1
      try clear hfz12_0
      try clear hfz12_1
      try clear hfz17_0
      try clear hfz17_1
      try clear hfz19_0
      try clear hfz19_1
      try clear hfz21_0
      try clear hfz21_1
      try clear hfz23_0
      try clear hfz23_1
      try clear hfz25_0
      try clear hfz25_1
      try clear hfz34_0
      try clear hfz34_1
      try clear hfz35_0
      try clear hfz35_1
      try clear hfz37_0
      try clear hfz37_1
      try clear p2
      obtain ⟨kq, x79_31, rfl, HA, HJ31, BK101, BK102, HB⟩ := hcut
      cases kq with
      | zero => exact absurd HA.out (by simp [law11_PhiRises.j1])
      | succ kj31 =>
       have H := HA.out
       clear HA
       simp only [law11_PhiRises.j1] at H
       by_cases c41 : x79_31 = true
       ·subst c41
        have H1 : (some false) = some r := by rw [if_pos rfl] at H; exact H
        clear H
        have H := H1
        clear H1
        obtain rfl := Option.some.inj H
        go_wp2
        repeat (go_quiet (fail); try go_wp2)
        go_ret
        exact ⟨by first | rfl | (simp [errW_none, errW_some] <;> rfl) | (simp only [← hji28, ← hji29]; first | rfl | (simp [errW_none, errW_some] <;> rfl)) | (simp [*, errW_none, errW_some] <;> rfl), by repeat (first | (with_reducible first | exact HB.out | apply qc_ | apply qa_ | apply qb_ | refine qd_ ?_ GE101.out | refine qd_ ?_ GE102.out) | exact HB.out)⟩
       ·replace c41 := Bool.eq_false_iff.mpr c41
        subst c41
        have H1 : ((ref10_Mean.f kj31 a0_0 l0_1 (wrap64 (a2))).bind fun t109 => ((ref09_Cmp.f kj31 t105 1 (wrap64 (434 * (wrap64 ((wrap64 (a0_0 + (wrap64 (ji28)))) - a0_0)))) t109).bind fun t110 => (if t110 ≤ 0 then ((ref09_Cmp.f kj31 (wrap64 (t105 + 1)) 1 (wrap64 (434 * (wrap64 ((wrap64 (a0_0 + (wrap64 (ji28)))) - a0_0)))) t109).bind fun t111 => (some (decide (t111 > 0)))) else (some false)))) = some r := by rw [if_neg (show ¬ (false = true) by decide)] at H; exact H
        clear H
        have H := H1
        clear H1
        replace H := ob_ H
        obtain ⟨t109, A420, H⟩ := H
        replace H : ((ref09_Cmp.f kj31 t105 1 (wrap64 (434 * (wrap64 ((wrap64 (a0_0 + (wrap64 (ji28)))) - a0_0)))) t109).bind fun t110 => (if t110 ≤ 0 then ((ref09_Cmp.f kj31 (wrap64 (t105 + 1)) 1 (wrap64 (434 * (wrap64 ((wrap64 (a0_0 + (wrap64 (ji28)))) - a0_0)))) t109).bind fun t111 => (some (decide (t111 > 0)))) else (some false))) = some r := H
        have A42 := Aside0.mk A420
        clear A420
        replace H := ob_ H
        obtain ⟨t110, A430, H⟩ := H
        replace H : (if t110 ≤ 0 then ((ref09_Cmp.f kj31 (wrap64 (t105 + 1)) 1 (wrap64 (434 * (wrap64 ((wrap64 (a0_0 + (wrap64 (ji28)))) - a0_0)))) t109).bind fun t111 => (some (decide (t111 > 0)))) else (some false)) = some r := H
        have A43 := Aside0.mk A430
        clear A430
        by_cases c44 : t110 ≤ 0
        ·rw [if_pos c44] at H
         have c44b0 : decide (t110 ≤ 0) = true := decide_eq_true c44
         clear c44
         replace H := ob_ H
         obtain ⟨t111, A450, H⟩ := H
         replace H : (some (decide (t111 > 0))) = some r := H
         have A45 := Aside0.mk A450
         clear A450
         obtain rfl := Option.some.inj H
         have hnb46 := NB101_102.out
         have hnc46 := NB102_101.out
         have hcz47_0 : wc.cell? ⟨gb101, 0, none⟩ = some (.int .i64 a0_0) := (qi_ BK101.out 0).trans rfl
         have hcz47_1 : wc.cell? ⟨gb101, 1, none⟩ = some (.slice A0_1 l0_1.length c0_1) := (qi_ BK101.out 1).trans rfl
         have hfz47_0 := qh_ BK101.out 0
         have hfz47_1 := qh_ BK101.out 1
         go_wp2_with (first | (go_at_call 11; (with_reducible refine (ref10_Mean.calls kj31 a0_0 _ _ l0_1 (wrap64 (a2)) t109 _ ?side1 ?side2 A42.out).mono ?_); (case side1 => repeat (first | exact (Kd.C_below HR0_1.out HB.out) | (with_reducible refine Kd.qq_ ?_ _) | (with_reducible refine Kd.qp_ ?_ _) | (with_reducible refine Kd.C_drew ?_))); (case side2 => exact HC0_1.out); rintro e w48 ⟨rfl, hb⟩; have n0_ := Aside0.mk (qk_ (g := gb101) (o := .cells #[.int .i64 a0_0, .slice A0_1 l0_1.length c0_1] 24 (0, 0)) (by (with_reducible repeat (first | refine qe_ ?_ _ | refine qg_ ?_ | refine qf_ ?_ _)); exact BK101.out) hb); have n1_ := Aside0.mk (qk_ (g := gb102) (o := .cells #[.int .u32 a1_0, .int .u32 a1_1] 26 (0, 0)) (by (with_reducible repeat (first | refine qe_ ?_ _ | refine qg_ ?_ | refine qf_ ?_ _)); exact BK102.out) hb); have n2_ := Aside0.mk (qj_ (by repeat (first | (with_reducible first | exact HB.out | apply qc_ | apply qa_ | apply qb_ | refine qd_ ?_ GE101.out | refine qd_ ?_ GE102.out) | exact HB.out)) hb); clear BK101; clear BK102; clear HB; have BK101 := n0_; have BK102 := n1_; have HB := n2_; clear n0_ n1_ n2_; (try clear hb); (try clear hb2); (try clear hk); (try clear hi); have hcz49_0 : w48.cell? ⟨gb101, 0, none⟩ = some (.int .i64 a0_0) := (qi_ BK101.out 0).trans rfl; have hcz49_1 : w48.cell? ⟨gb101, 1, none⟩ = some (.slice A0_1 l0_1.length c0_1) := (qi_ BK101.out 1).trans rfl; have hfz49_0 := qh_ BK101.out 0; have hfz49_1 := qh_ BK101.out 1) | (go_at_call 12; (with_reducible refine (ref09_Cmp.calls kj31 t105 1 (wrap64 (434 * (wrap64 ((wrap64 (a0_0 + (wrap64 (ji28)))) - a0_0)))) t109 t110 _ A43.out).mono ?_); rintro e w50 ⟨rfl, hb⟩; have n0_ := Aside0.mk (qk_ (g := gb101) (o := .cells #[.int .i64 a0_0, .slice A0_1 l0_1.length c0_1] 24 (0, 0)) (by (with_reducible repeat (first | refine qe_ ?_ _ | refine qg_ ?_ | refine qf_ ?_ _)); exact BK101.out) hb); have n1_ := Aside0.mk (qk_ (g := gb102) (o := .cells #[.int .u32 a1_0, .int .u32 a1_1] 26 (0, 0)) (by (with_reducible repeat (first | refine qe_ ?_ _ | refine qg_ ?_ | refine qf_ ?_ _)); exact BK102.out) hb); have n2_ := Aside0.mk (qj_ (by repeat (first | (with_reducible first | exact HB.out | apply qc_ | apply qa_ | apply qb_ | refine qd_ ?_ GE101.out | refine qd_ ?_ GE102.out) | exact HB.out)) hb); clear BK101; clear BK102; clear HB; have BK101 := n0_; have BK102 := n1_; have HB := n2_; clear n0_ n1_ n2_; (try clear hb); (try clear hb2); (try clear hk); (try clear hi); have hcz51_0 : w50.cell? ⟨gb101, 0, none⟩ = some (.int .i64 a0_0) := (qi_ BK101.out 0).trans rfl; have hcz51_1 : w50.cell? ⟨gb101, 1, none⟩ = some (.slice A0_1 l0_1.length c0_1) := (qi_ BK101.out 1).trans rfl; have hfz51_0 := qh_ BK101.out 0; have hfz51_1 := qh_ BK101.out 1) | (go_at_call 12; (with_reducible refine (ref09_Cmp.calls kj31 (wrap64 (t105 + 1)) 1 (wrap64 (434 * (wrap64 ((wrap64 (a0_0 + (wrap64 (ji28)))) - a0_0)))) t109 t111 _ A45.out).mono ?_); rintro e w52 ⟨rfl, hb⟩; have n0_ := Aside0.mk (qk_ (g := gb101) (o := .cells #[.int .i64 a0_0, .slice A0_1 l0_1.length c0_1] 24 (0, 0)) (by (with_reducible repeat (first | refine qe_ ?_ _ | refine qg_ ?_ | refine qf_ ?_ _)); exact BK101.out) hb); have n1_ := Aside0.mk (qk_ (g := gb102) (o := .cells #[.int .u32 a1_0, .int .u32 a1_1] 26 (0, 0)) (by (with_reducible repeat (first | refine qe_ ?_ _ | refine qg_ ?_ | refine qf_ ?_ _)); exact BK102.out) hb); have n2_ := Aside0.mk (qj_ (by repeat (first | (with_reducible first | exact HB.out | apply qc_ | apply qa_ | apply qb_ | refine qd_ ?_ GE101.out | refine qd_ ?_ GE102.out) | exact HB.out)) hb); clear BK101; clear BK102; clear HB; have BK101 := n0_; have BK102 := n1_; have HB := n2_; clear n0_ n1_ n2_; (try clear hb); (try clear hb2); (try clear hk); (try clear hi)))
         repeat (go_quiet (first | (go_at_call 11; (with_reducible refine (ref10_Mean.calls kj31 a0_0 _ _ l0_1 (wrap64 (a2)) t109 _ ?side1 ?side2 A42.out).mono ?_); (case side1 => repeat (first | exact (Kd.C_below HR0_1.out HB.out) | (with_reducible refine Kd.qq_ ?_ _) | (with_reducible refine Kd.qp_ ?_ _) | (with_reducible refine Kd.C_drew ?_))); (case side2 => exact HC0_1.out); rintro e w48 ⟨rfl, hb⟩; have n0_ := Aside0.mk (qk_ (g := gb101) (o := .cells #[.int .i64 a0_0, .slice A0_1 l0_1.length c0_1] 24 (0, 0)) (by (with_reducible repeat (first | refine qe_ ?_ _ | refine qg_ ?_ | refine qf_ ?_ _)); exact BK101.out) hb); have n1_ := Aside0.mk (qk_ (g := gb102) (o := .cells #[.int .u32 a1_0, .int .u32 a1_1] 26 (0, 0)) (by (with_reducible repeat (first | refine qe_ ?_ _ | refine qg_ ?_ | refine qf_ ?_ _)); exact BK102.out) hb); have n2_ := Aside0.mk (qj_ (by repeat (first | (with_reducible first | exact HB.out | apply qc_ | apply qa_ | apply qb_ | refine qd_ ?_ GE101.out | refine qd_ ?_ GE102.out) | exact HB.out)) hb); clear BK101; clear BK102; clear HB; have BK101 := n0_; have BK102 := n1_; have HB := n2_; clear n0_ n1_ n2_; (try clear hb); (try clear hb2); (try clear hk); (try clear hi); have hcz49_0 : w48.cell? ⟨gb101, 0, none⟩ = some (.int .i64 a0_0) := (qi_ BK101.out 0).trans rfl; have hcz49_1 : w48.cell? ⟨gb101, 1, none⟩ = some (.slice A0_1 l0_1.length c0_1) := (qi_ BK101.out 1).trans rfl; have hfz49_0 := qh_ BK101.out 0; have hfz49_1 := qh_ BK101.out 1) | (go_at_call 12; (with_reducible refine (ref09_Cmp.calls kj31 t105 1 (wrap64 (434 * (wrap64 ((wrap64 (a0_0 + (wrap64 (ji28)))) - a0_0)))) t109 t110 _ A43.out).mono ?_); rintro e w50 ⟨rfl, hb⟩; have n0_ := Aside0.mk (qk_ (g := gb101) (o := .cells #[.int .i64 a0_0, .slice A0_1 l0_1.length c0_1] 24 (0, 0)) (by (with_reducible repeat (first | refine qe_ ?_ _ | refine qg_ ?_ | refine qf_ ?_ _)); exact BK101.out) hb); have n1_ := Aside0.mk (qk_ (g := gb102) (o := .cells #[.int .u32 a1_0, .int .u32 a1_1] 26 (0, 0)) (by (with_reducible repeat (first | refine qe_ ?_ _ | refine qg_ ?_ | refine qf_ ?_ _)); exact BK102.out) hb); have n2_ := Aside0.mk (qj_ (by repeat (first | (with_reducible first | exact HB.out | apply qc_ | apply qa_ | apply qb_ | refine qd_ ?_ GE101.out | refine qd_ ?_ GE102.out) | exact HB.out)) hb); clear BK101; clear BK102; clear HB; have BK101 := n0_; have BK102 := n1_; have HB := n2_; clear n0_ n1_ n2_; (try clear hb); (try clear hb2); (try clear hk); (try clear hi); have hcz51_0 : w50.cell? ⟨gb101, 0, none⟩ = some (.int .i64 a0_0) := (qi_ BK101.out 0).trans rfl; have hcz51_1 : w50.cell? ⟨gb101, 1, none⟩ = some (.slice A0_1 l0_1.length c0_1) := (qi_ BK101.out 1).trans rfl; have hfz51_0 := qh_ BK101.out 0; have hfz51_1 := qh_ BK101.out 1) | (go_at_call 12; (with_reducible refine (ref09_Cmp.calls kj31 (wrap64 (t105 + 1)) 1 (wrap64 (434 * (wrap64 ((wrap64 (a0_0 + (wrap64 (ji28)))) - a0_0)))) t109 t111 _ A45.out).mono ?_); rintro e w52 ⟨rfl, hb⟩; have n0_ := Aside0.mk (qk_ (g := gb101) (o := .cells #[.int .i64 a0_0, .slice A0_1 l0_1.length c0_1] 24 (0, 0)) (by (with_reducible repeat (first | refine qe_ ?_ _ | refine qg_ ?_ | refine qf_ ?_ _)); exact BK101.out) hb); have n1_ := Aside0.mk (qk_ (g := gb102) (o := .cells #[.int .u32 a1_0, .int .u32 a1_1] 26 (0, 0)) (by (with_reducible repeat (first | refine qe_ ?_ _ | refine qg_ ?_ | refine qf_ ?_ _)); exact BK102.out) hb); have n2_ := Aside0.mk (qj_ (by repeat (first | (with_reducible first | exact HB.out | apply qc_ | apply qa_ | apply qb_ | refine qd_ ?_ GE101.out | refine qd_ ?_ GE102.out) | exact HB.out)) hb); clear BK101; clear BK102; clear HB; have BK101 := n0_; have BK102 := n1_; have HB := n2_; clear n0_ n1_ n2_; (try clear hb); (try clear hb2); (try clear hk); (try clear hi))); try go_wp2_with (first | (go_at_call 11; (with_reducible refine (ref10_Mean.calls kj31 a0_0 _ _ l0_1 (wrap64 (a2)) t109 _ ?side1 ?side2 A42.out).mono ?_); (case side1 => repeat (first | exact (Kd.C_below HR0_1.out HB.out) | (with_reducible refine Kd.qq_ ?_ _) | (with_reducible refine Kd.qp_ ?_ _) | (with_reducible refine Kd.C_drew ?_))); (case side2 => exact HC0_1.out); rintro e w48 ⟨rfl, hb⟩; have n0_ := Aside0.mk (qk_ (g := gb101) (o := .cells #[.int .i64 a0_0, .slice A0_1 l0_1.length c0_1] 24 (0, 0)) (by (with_reducible repeat (first | refine qe_ ?_ _ | refine qg_ ?_ | refine qf_ ?_ _)); exact BK101.out) hb); have n1_ := Aside0.mk (qk_ (g := gb102) (o := .cells #[.int .u32 a1_0, .int .u32 a1_1] 26 (0, 0)) (by (with_reducible repeat (first | refine qe_ ?_ _ | refine qg_ ?_ | refine qf_ ?_ _)); exact BK102.out) hb); have n2_ := Aside0.mk (qj_ (by repeat (first | (with_reducible first | exact HB.out | apply qc_ | apply qa_ | apply qb_ | refine qd_ ?_ GE101.out | refine qd_ ?_ GE102.out) | exact HB.out)) hb); clear BK101; clear BK102; clear HB; have BK101 := n0_; have BK102 := n1_; have HB := n2_; clear n0_ n1_ n2_; (try clear hb); (try clear hb2); (try clear hk); (try clear hi); have hcz49_0 : w48.cell? ⟨gb101, 0, none⟩ = some (.int .i64 a0_0) := (qi_ BK101.out 0).trans rfl; have hcz49_1 : w48.cell? ⟨gb101, 1, none⟩ = some (.slice A0_1 l0_1.length c0_1) := (qi_ BK101.out 1).trans rfl; have hfz49_0 := qh_ BK101.out 0; have hfz49_1 := qh_ BK101.out 1) | (go_at_call 12; (with_reducible refine (ref09_Cmp.calls kj31 t105 1 (wrap64 (434 * (wrap64 ((wrap64 (a0_0 + (wrap64 (ji28)))) - a0_0)))) t109 t110 _ A43.out).mono ?_); rintro e w50 ⟨rfl, hb⟩; have n0_ := Aside0.mk (qk_ (g := gb101) (o := .cells #[.int .i64 a0_0, .slice A0_1 l0_1.length c0_1] 24 (0, 0)) (by (with_reducible repeat (first | refine qe_ ?_ _ | refine qg_ ?_ | refine qf_ ?_ _)); exact BK101.out) hb); have n1_ := Aside0.mk (qk_ (g := gb102) (o := .cells #[.int .u32 a1_0, .int .u32 a1_1] 26 (0, 0)) (by (with_reducible repeat (first | refine qe_ ?_ _ | refine qg_ ?_ | refine qf_ ?_ _)); exact BK102.out) hb); have n2_ := Aside0.mk (qj_ (by repeat (first | (with_reducible first | exact HB.out | apply qc_ | apply qa_ | apply qb_ | refine qd_ ?_ GE101.out | refine qd_ ?_ GE102.out) | exact HB.out)) hb); clear BK101; clear BK102; clear HB; have BK101 := n0_; have BK102 := n1_; have HB := n2_; clear n0_ n1_ n2_; (try clear hb); (try clear hb2); (try clear hk); (try clear hi); have hcz51_0 : w50.cell? ⟨gb101, 0, none⟩ = some (.int .i64 a0_0) := (qi_ BK101.out 0).trans rfl; have hcz51_1 : w50.cell? ⟨gb101, 1, none⟩ = some (.slice A0_1 l0_1.length c0_1) := (qi_ BK101.out 1).trans rfl; have hfz51_0 := qh_ BK101.out 0; have hfz51_1 := qh_ BK101.out 1) | (go_at_call 12; (with_reducible refine (ref09_Cmp.calls kj31 (wrap64 (t105 + 1)) 1 (wrap64 (434 * (wrap64 ((wrap64 (a0_0 + (wrap64 (ji28)))) - a0_0)))) t109 t111 _ A45.out).mono ?_); rintro e w52 ⟨rfl, hb⟩; have n0_ := Aside0.mk (qk_ (g := gb101) (o := .cells #[.int .i64 a0_0, .slice A0_1 l0_1.length c0_1] 24 (0, 0)) (by (with_reducible repeat (first | refine qe_ ?_ _ | refine qg_ ?_ | refine qf_ ?_ _)); exact BK101.out) hb); have n1_ := Aside0.mk (qk_ (g := gb102) (o := .cells #[.int .u32 a1_0, .int .u32 a1_1] 26 (0, 0)) (by (with_reducible repeat (first | refine qe_ ?_ _ | refine qg_ ?_ | refine qf_ ?_ _)); exact BK102.out) hb); have n2_ := Aside0.mk (qj_ (by repeat (first | (with_reducible first | exact HB.out | apply qc_ | apply qa_ | apply qb_ | refine qd_ ?_ GE101.out | refine qd_ ?_ GE102.out) | exact HB.out)) hb); clear BK101; clear BK102; clear HB; have BK101 := n0_; have BK102 := n1_; have HB := n2_; clear n0_ n1_ n2_; (try clear hb); (try clear hb2); (try clear hk); (try clear hi))))
         go_ret
         exact ⟨by first | rfl | (simp [errW_none, errW_some] <;> rfl) | (simp only [← hji28, ← hji29]; first | rfl | (simp [errW_none, errW_some] <;> rfl)) | (simp [*, errW_none, errW_some] <;> rfl), by repeat (first | (with_reducible first | exact HB.out | apply qc_ | apply qa_ | apply qb_ | refine qd_ ?_ GE101.out | refine qd_ ?_ GE102.out) | exact HB.out)⟩
        ·rw [if_neg c44] at H
         have c44b0 : decide (t110 ≤ 0) = false := decide_eq_false c44
         clear c44
         obtain rfl := Option.some.inj H
         have hnb53 := NB101_102.out
         have hnc53 := NB102_101.out
         have hcz54_0 : wc.cell? ⟨gb101, 0, none⟩ = some (.int .i64 a0_0) := (qi_ BK101.out 0).trans rfl
         have hcz54_1 : wc.cell? ⟨gb101, 1, none⟩ = some (.slice A0_1 l0_1.length c0_1) := (qi_ BK101.out 1).trans rfl
         have hfz54_0 := qh_ BK101.out 0
         have hfz54_1 := qh_ BK101.out 1
         go_wp2_with (first | (go_at_call 11; (with_reducible refine (ref10_Mean.calls kj31 a0_0 _ _ l0_1 (wrap64 (a2)) t109 _ ?side1 ?side2 A42.out).mono ?_); (case side1 => repeat (first | exact (Kd.C_below HR0_1.out HB.out) | (with_reducible refine Kd.qq_ ?_ _) | (with_reducible refine Kd.qp_ ?_ _) | (with_reducible refine Kd.C_drew ?_))); (case side2 => exact HC0_1.out); rintro e w55 ⟨rfl, hb⟩; have n0_ := Aside0.mk (qk_ (g := gb101) (o := .cells #[.int .i64 a0_0, .slice A0_1 l0_1.length c0_1] 24 (0, 0)) (by (with_reducible repeat (first | refine qe_ ?_ _ | refine qg_ ?_ | refine qf_ ?_ _)); exact BK101.out) hb); have n1_ := Aside0.mk (qk_ (g := gb102) (o := .cells #[.int .u32 a1_0, .int .u32 a1_1] 26 (0, 0)) (by (with_reducible repeat (first | refine qe_ ?_ _ | refine qg_ ?_ | refine qf_ ?_ _)); exact BK102.out) hb); have n2_ := Aside0.mk (qj_ (by repeat (first | (with_reducible first | exact HB.out | apply qc_ | apply qa_ | apply qb_ | refine qd_ ?_ GE101.out | refine qd_ ?_ GE102.out) | exact HB.out)) hb); clear BK101; clear BK102; clear HB; have BK101 := n0_; have BK102 := n1_; have HB := n2_; clear n0_ n1_ n2_; (try clear hb); (try clear hb2); (try clear hk); (try clear hi); have hcz56_0 : w55.cell? ⟨gb101, 0, none⟩ = some (.int .i64 a0_0) := (qi_ BK101.out 0).trans rfl; have hcz56_1 : w55.cell? ⟨gb101, 1, none⟩ = some (.slice A0_1 l0_1.length c0_1) := (qi_ BK101.out 1).trans rfl; have hfz56_0 := qh_ BK101.out 0; have hfz56_1 := qh_ BK101.out 1) | (go_at_call 12; (with_reducible refine (ref09_Cmp.calls kj31 t105 1 (wrap64 (434 * (wrap64 ((wrap64 (a0_0 + (wrap64 (ji28)))) - a0_0)))) t109 t110 _ A43.out).mono ?_); rintro e w57 ⟨rfl, hb⟩; have n0_ := Aside0.mk (qk_ (g := gb101) (o := .cells #[.int .i64 a0_0, .slice A0_1 l0_1.length c0_1] 24 (0, 0)) (by (with_reducible repeat (first | refine qe_ ?_ _ | refine qg_ ?_ | refine qf_ ?_ _)); exact BK101.out) hb); have n1_ := Aside0.mk (qk_ (g := gb102) (o := .cells #[.int .u32 a1_0, .int .u32 a1_1] 26 (0, 0)) (by (with_reducible repeat (first | refine qe_ ?_ _ | refine qg_ ?_ | refine qf_ ?_ _)); exact BK102.out) hb); have n2_ := Aside0.mk (qj_ (by repeat (first | (with_reducible first | exact HB.out | apply qc_ | apply qa_ | apply qb_ | refine qd_ ?_ GE101.out | refine qd_ ?_ GE102.out) | exact HB.out)) hb); clear BK101; clear BK102; clear HB; have BK101 := n0_; have BK102 := n1_; have HB := n2_; clear n0_ n1_ n2_; (try clear hb); (try clear hb2); (try clear hk); (try clear hi)))
         repeat (go_quiet (first | (go_at_call 11; (with_reducible refine (ref10_Mean.calls kj31 a0_0 _ _ l0_1 (wrap64 (a2)) t109 _ ?side1 ?side2 A42.out).mono ?_); (case side1 => repeat (first | exact (Kd.C_below HR0_1.out HB.out) | (with_reducible refine Kd.qq_ ?_ _) | (with_reducible refine Kd.qp_ ?_ _) | (with_reducible refine Kd.C_drew ?_))); (case side2 => exact HC0_1.out); rintro e w55 ⟨rfl, hb⟩; have n0_ := Aside0.mk (qk_ (g := gb101) (o := .cells #[.int .i64 a0_0, .slice A0_1 l0_1.length c0_1] 24 (0, 0)) (by (with_reducible repeat (first | refine qe_ ?_ _ | refine qg_ ?_ | refine qf_ ?_ _)); exact BK101.out) hb); have n1_ := Aside0.mk (qk_ (g := gb102) (o := .cells #[.int .u32 a1_0, .int .u32 a1_1] 26 (0, 0)) (by (with_reducible repeat (first | refine qe_ ?_ _ | refine qg_ ?_ | refine qf_ ?_ _)); exact BK102.out) hb); have n2_ := Aside0.mk (qj_ (by repeat (first | (with_reducible first | exact HB.out | apply qc_ | apply qa_ | apply qb_ | refine qd_ ?_ GE101.out | refine qd_ ?_ GE102.out) | exact HB.out)) hb); clear BK101; clear BK102; clear HB; have BK101 := n0_; have BK102 := n1_; have HB := n2_; clear n0_ n1_ n2_; (try clear hb); (try clear hb2); (try clear hk); (try clear hi); have hcz56_0 : w55.cell? ⟨gb101, 0, none⟩ = some (.int .i64 a0_0) := (qi_ BK101.out 0).trans rfl; have hcz56_1 : w55.cell? ⟨gb101, 1, none⟩ = some (.slice A0_1 l0_1.length c0_1) := (qi_ BK101.out 1).trans rfl; have hfz56_0 := qh_ BK101.out 0; have hfz56_1 := qh_ BK101.out 1) | (go_at_call 12; (with_reducible refine (ref09_Cmp.calls kj31 t105 1 (wrap64 (434 * (wrap64 ((wrap64 (a0_0 + (wrap64 (ji28)))) - a0_0)))) t109 t110 _ A43.out).mono ?_); rintro e w57 ⟨rfl, hb⟩; have n0_ := Aside0.mk (qk_ (g := gb101) (o := .cells #[.int .i64 a0_0, .slice A0_1 l0_1.length c0_1] 24 (0, 0)) (by (with_reducible repeat (first | refine qe_ ?_ _ | refine qg_ ?_ | refine qf_ ?_ _)); exact BK101.out) hb); have n1_ := Aside0.mk (qk_ (g := gb102) (o := .cells #[.int .u32 a1_0, .int .u32 a1_1] 26 (0, 0)) (by (with_reducible repeat (first | refine qe_ ?_ _ | refine qg_ ?_ | refine qf_ ?_ _)); exact BK102.out) hb); have n2_ := Aside0.mk (qj_ (by repeat (first | (with_reducible first | exact HB.out | apply qc_ | apply qa_ | apply qb_ | refine qd_ ?_ GE101.out | refine qd_ ?_ GE102.out) | exact HB.out)) hb); clear BK101; clear BK102; clear HB; have BK101 := n0_; have BK102 := n1_; have HB := n2_; clear n0_ n1_ n2_; (try clear hb); (try clear hb2); (try clear hk); (try clear hi))); try go_wp2_with (first | (go_at_call 11; (with_reducible refine (ref10_Mean.calls kj31 a0_0 _ _ l0_1 (wrap64 (a2)) t109 _ ?side1 ?side2 A42.out).mono ?_); (case side1 => repeat (first | exact (Kd.C_below HR0_1.out HB.out) | (with_reducible refine Kd.qq_ ?_ _) | (with_reducible refine Kd.qp_ ?_ _) | (with_reducible refine Kd.C_drew ?_))); (case side2 => exact HC0_1.out); rintro e w55 ⟨rfl, hb⟩; have n0_ := Aside0.mk (qk_ (g := gb101) (o := .cells #[.int .i64 a0_0, .slice A0_1 l0_1.length c0_1] 24 (0, 0)) (by (with_reducible repeat (first | refine qe_ ?_ _ | refine qg_ ?_ | refine qf_ ?_ _)); exact BK101.out) hb); have n1_ := Aside0.mk (qk_ (g := gb102) (o := .cells #[.int .u32 a1_0, .int .u32 a1_1] 26 (0, 0)) (by (with_reducible repeat (first | refine qe_ ?_ _ | refine qg_ ?_ | refine qf_ ?_ _)); exact BK102.out) hb); have n2_ := Aside0.mk (qj_ (by repeat (first | (with_reducible first | exact HB.out | apply qc_ | apply qa_ | apply qb_ | refine qd_ ?_ GE101.out | refine qd_ ?_ GE102.out) | exact HB.out)) hb); clear BK101; clear BK102; clear HB; have BK101 := n0_; have BK102 := n1_; have HB := n2_; clear n0_ n1_ n2_; (try clear hb); (try clear hb2); (try clear hk); (try clear hi); have hcz56_0 : w55.cell? ⟨gb101, 0, none⟩ = some (.int .i64 a0_0) := (qi_ BK101.out 0).trans rfl; have hcz56_1 : w55.cell? ⟨gb101, 1, none⟩ = some (.slice A0_1 l0_1.length c0_1) := (qi_ BK101.out 1).trans rfl; have hfz56_0 := qh_ BK101.out 0; have hfz56_1 := qh_ BK101.out 1) | (go_at_call 12; (with_reducible refine (ref09_Cmp.calls kj31 t105 1 (wrap64 (434 * (wrap64 ((wrap64 (a0_0 + (wrap64 (ji28)))) - a0_0)))) t109 t110 _ A43.out).mono ?_); rintro e w57 ⟨rfl, hb⟩; have n0_ := Aside0.mk (qk_ (g := gb101) (o := .cells #[.int .i64 a0_0, .slice A0_1 l0_1.length c0_1] 24 (0, 0)) (by (with_reducible repeat (first | refine qe_ ?_ _ | refine qg_ ?_ | refine qf_ ?_ _)); exact BK101.out) hb); have n1_ := Aside0.mk (qk_ (g := gb102) (o := .cells #[.int .u32 a1_0, .int .u32 a1_1] 26 (0, 0)) (by (with_reducible repeat (first | refine qe_ ?_ _ | refine qg_ ?_ | refine qf_ ?_ _)); exact BK102.out) hb); have n2_ := Aside0.mk (qj_ (by repeat (first | (with_reducible first | exact HB.out | apply qc_ | apply qa_ | apply qb_ | refine qd_ ?_ GE101.out | refine qd_ ?_ GE102.out) | exact HB.out)) hb); clear BK101; clear BK102; clear HB; have BK101 := n0_; have BK102 := n1_; have HB := n2_; clear n0_ n1_ n2_; (try clear hb); (try clear hb2); (try clear hk); (try clear hi))))
         go_ret
         exact ⟨by first | rfl | (simp [errW_none, errW_some] <;> rfl) | (simp only [← hji28, ← hji29]; first | rfl | (simp [errW_none, errW_some] <;> rfl)) | (simp [*, errW_none, errW_some] <;> rfl), by repeat (first | (with_reducible first | exact HB.out | apply qc_ | apply qa_ | apply qb_ | refine qd_ ?_ GE101.out | refine qd_ ?_ GE102.out) | exact HB.out)⟩
 ·replace c5 := Bool.eq_false_iff.mpr c5
  subst c5
  have H1 : (some false) = some r := by rw [if_neg (show ¬ (false = true) by decide)] at H; exact H
  clear H
  have H := H1
  clear H1
  obtain rfl := Option.some.inj H
  go_enter Try.func3, Try.ntmps3
  go_wp2_with (first | ((with_reducible refine qo_ (N := 3) rfl ?_); refine qn_ ?hg (N := 3) ?hd (cs := #[.int .i64 a0_0, .slice A0_1 l0_1.length c0_1]) (t := 24) ?hr ?_; (case hd => rfl); (case hg => rfl); (case hr => first | (go_simp; done) | (go_simp; rfl)); intro gb101 hg w58 hbox hb; have n0_ := Aside0.mk (qj_ (by repeat (first | (with_reducible first | exact HB.out | apply qc_ | apply qa_ | apply qb_) | exact HB.out)) hb); have n1_ := Aside0.mk (hbox); have n2_ := Aside0.mk ((by rw [hg]; exact (ql_ (by repeat (first | (with_reducible first | exact HB.out | apply qc_ | apply qa_ | apply qb_) | exact HB.out))) : w.heap.size ≤ gb101)); have n3_ := Aside0.mk ((by rw [hg]; exact (ql_ (by repeat (first | (with_reducible first | exact HB.out | apply qc_ | apply qa_ | apply qb_) | exact HB.out))) : w.heap.size ≤ gb101)); clear HB; have HB := n0_; have BK101 := n1_; have GW101 := n2_; have GE101 := n3_; clear n0_ n1_ n2_ n3_; clear hb hbox hg) | ((with_reducible refine qo_ (N := 4) rfl ?_); refine qn_ ?hg (N := 4) ?hd (cs := #[.int .u32 a1_0, .int .u32 a1_1]) (t := 26) ?hr ?_; (case hd => rfl); (case hg => rfl); (case hr => first | (go_simp; done) | (go_simp; rfl)); intro gb102 hg w59 hbox hb; have n0_ := Aside0.mk (qk_ (g := gb101) (o := .cells #[.int .i64 a0_0, .slice A0_1 l0_1.length c0_1] 24 (0, 0)) (by (with_reducible repeat (first | refine qe_ ?_ _ | refine qg_ ?_ | refine qf_ ?_ _)); exact BK101.out) hb); have n1_ := Aside0.mk (qj_ (by repeat (first | (with_reducible first | exact HB.out | apply qc_ | apply qa_ | apply qb_ | refine qd_ ?_ GE101.out) | exact HB.out)) hb); have n2_ := Aside0.mk (hbox); have n3_ := Aside0.mk ((by rw [hg]; exact (ql_ (by repeat (first | (with_reducible first | exact HB.out | apply qc_ | apply qa_ | apply qb_ | refine qd_ ?_ GE101.out) | exact HB.out))) : w.heap.size ≤ gb102)); have n4_ := Aside0.mk ((by rw [hg]; exact (ql_ (by repeat (first | (with_reducible first | exact HB.out | apply qc_ | apply qa_ | apply qb_ | refine qd_ ?_ GE101.out) | exact HB.out))) : w.heap.size ≤ gb102)); have n5_ := Aside0.mk ((by rw [hg]; exact Nat.ne_of_lt (blk_lt (g := gb101) (o := .cells #[.int .i64 a0_0, .slice A0_1 l0_1.length c0_1] 24 (0, 0)) (by (with_reducible repeat (first | refine qe_ ?_ _ | refine qg_ ?_ | refine qf_ ?_ _)); exact BK101.out)) : gb101 ≠ gb102)); have n6_ := Aside0.mk ((by rw [hg]; exact Nat.ne_of_gt (blk_lt (g := gb101) (o := .cells #[.int .i64 a0_0, .slice A0_1 l0_1.length c0_1] 24 (0, 0)) (by (with_reducible repeat (first | refine qe_ ?_ _ | refine qg_ ?_ | refine qf_ ?_ _)); exact BK101.out)) : gb102 ≠ gb101)); clear BK101; clear HB; have BK101 := n0_; have HB := n1_; have BK102 := n2_; have GW102 := n3_; have GE102 := n4_; have NB101_102 := n5_; have NB102_101 := n6_; clear n0_ n1_ n2_ n3_ n4_ n5_ n6_; clear hb hbox hg) | (go_at_call 8; (with_reducible refine (law11_alive.calls k  false _ A4.out).mono ?_); rintro e w60 ⟨rfl, hb⟩; have n0_ := Aside0.mk (qk_ (g := gb101) (o := .cells #[.int .i64 a0_0, .slice A0_1 l0_1.length c0_1] 24 (0, 0)) (by (with_reducible repeat (first | refine qe_ ?_ _ | refine qg_ ?_ | refine qf_ ?_ _)); exact BK101.out) hb); have n1_ := Aside0.mk (qk_ (g := gb102) (o := .cells #[.int .u32 a1_0, .int .u32 a1_1] 26 (0, 0)) (by (with_reducible repeat (first | refine qe_ ?_ _ | refine qg_ ?_ | refine qf_ ?_ _)); exact BK102.out) hb); have n2_ := Aside0.mk (qj_ (by repeat (first | (with_reducible first | exact HB.out | apply qc_ | apply qa_ | apply qb_ | refine qd_ ?_ GE101.out | refine qd_ ?_ GE102.out) | exact HB.out)) hb); clear BK101; clear BK102; clear HB; have BK101 := n0_; have BK102 := n1_; have HB := n2_; clear n0_ n1_ n2_; (try clear hb); (try clear hb2); (try clear hk); (try clear hi)))
  repeat (go_quiet (first | ((with_reducible refine qo_ (N := 3) rfl ?_); refine qn_ ?hg (N := 3) ?hd (cs := #[.int .i64 a0_0, .slice A0_1 l0_1.length c0_1]) (t := 24) ?hr ?_; (case hd => rfl); (case hg => rfl); (case hr => first | (go_simp; done) | (go_simp; rfl)); intro gb101 hg w58 hbox hb; have n0_ := Aside0.mk (qj_ (by repeat (first | (with_reducible first | exact HB.out | apply qc_ | apply qa_ | apply qb_) | exact HB.out)) hb); have n1_ := Aside0.mk (hbox); have n2_ := Aside0.mk ((by rw [hg]; exact (ql_ (by repeat (first | (with_reducible first | exact HB.out | apply qc_ | apply qa_ | apply qb_) | exact HB.out))) : w.heap.size ≤ gb101)); have n3_ := Aside0.mk ((by rw [hg]; exact (ql_ (by repeat (first | (with_reducible first | exact HB.out | apply qc_ | apply qa_ | apply qb_) | exact HB.out))) : w.heap.size ≤ gb101)); clear HB; have HB := n0_; have BK101 := n1_; have GW101 := n2_; have GE101 := n3_; clear n0_ n1_ n2_ n3_; clear hb hbox hg) | ((with_reducible refine qo_ (N := 4) rfl ?_); refine qn_ ?hg (N := 4) ?hd (cs := #[.int .u32 a1_0, .int .u32 a1_1]) (t := 26) ?hr ?_; (case hd => rfl); (case hg => rfl); (case hr => first | (go_simp; done) | (go_simp; rfl)); intro gb102 hg w59 hbox hb; have n0_ := Aside0.mk (qk_ (g := gb101) (o := .cells #[.int .i64 a0_0, .slice A0_1 l0_1.length c0_1] 24 (0, 0)) (by (with_reducible repeat (first | refine qe_ ?_ _ | refine qg_ ?_ | refine qf_ ?_ _)); exact BK101.out) hb); have n1_ := Aside0.mk (qj_ (by repeat (first | (with_reducible first | exact HB.out | apply qc_ | apply qa_ | apply qb_ | refine qd_ ?_ GE101.out) | exact HB.out)) hb); have n2_ := Aside0.mk (hbox); have n3_ := Aside0.mk ((by rw [hg]; exact (ql_ (by repeat (first | (with_reducible first | exact HB.out | apply qc_ | apply qa_ | apply qb_ | refine qd_ ?_ GE101.out) | exact HB.out))) : w.heap.size ≤ gb102)); have n4_ := Aside0.mk ((by rw [hg]; exact (ql_ (by repeat (first | (with_reducible first | exact HB.out | apply qc_ | apply qa_ | apply qb_ | refine qd_ ?_ GE101.out) | exact HB.out))) : w.heap.size ≤ gb102)); have n5_ := Aside0.mk ((by rw [hg]; exact Nat.ne_of_lt (blk_lt (g := gb101) (o := .cells #[.int .i64 a0_0, .slice A0_1 l0_1.length c0_1] 24 (0, 0)) (by (with_reducible repeat (first | refine qe_ ?_ _ | refine qg_ ?_ | refine qf_ ?_ _)); exact BK101.out)) : gb101 ≠ gb102)); have n6_ := Aside0.mk ((by rw [hg]; exact Nat.ne_of_gt (blk_lt (g := gb101) (o := .cells #[.int .i64 a0_0, .slice A0_1 l0_1.length c0_1] 24 (0, 0)) (by (with_reducible repeat (first | refine qe_ ?_ _ | refine qg_ ?_ | refine qf_ ?_ _)); exact BK101.out)) : gb102 ≠ gb101)); clear BK101; clear HB; have BK101 := n0_; have HB := n1_; have BK102 := n2_; have GW102 := n3_; have GE102 := n4_; have NB101_102 := n5_; have NB102_101 := n6_; clear n0_ n1_ n2_ n3_ n4_ n5_ n6_; clear hb hbox hg) | (go_at_call 8; (with_reducible refine (law11_alive.calls k  false _ A4.out).mono ?_); rintro e w60 ⟨rfl, hb⟩; have n0_ := Aside0.mk (qk_ (g := gb101) (o := .cells #[.int .i64 a0_0, .slice A0_1 l0_1.length c0_1] 24 (0, 0)) (by (with_reducible repeat (first | refine qe_ ?_ _ | refine qg_ ?_ | refine qf_ ?_ _)); exact BK101.out) hb); have n1_ := Aside0.mk (qk_ (g := gb102) (o := .cells #[.int .u32 a1_0, .int .u32 a1_1] 26 (0, 0)) (by (with_reducible repeat (first | refine qe_ ?_ _ | refine qg_ ?_ | refine qf_ ?_ _)); exact BK102.out) hb); have n2_ := Aside0.mk (qj_ (by repeat (first | (with_reducible first | exact HB.out | apply qc_ | apply qa_ | apply qb_ | refine qd_ ?_ GE101.out | refine qd_ ?_ GE102.out) | exact HB.out)) hb); clear BK101; clear BK102; clear HB; have BK101 := n0_; have BK102 := n1_; have HB := n2_; clear n0_ n1_ n2_; (try clear hb); (try clear hb2); (try clear hk); (try clear hi))); try go_wp2_with (first | ((with_reducible refine qo_ (N := 3) rfl ?_); refine qn_ ?hg (N := 3) ?hd (cs := #[.int .i64 a0_0, .slice A0_1 l0_1.length c0_1]) (t := 24) ?hr ?_; (case hd => rfl); (case hg => rfl); (case hr => first | (go_simp; done) | (go_simp; rfl)); intro gb101 hg w58 hbox hb; have n0_ := Aside0.mk (qj_ (by repeat (first | (with_reducible first | exact HB.out | apply qc_ | apply qa_ | apply qb_) | exact HB.out)) hb); have n1_ := Aside0.mk (hbox); have n2_ := Aside0.mk ((by rw [hg]; exact (ql_ (by repeat (first | (with_reducible first | exact HB.out | apply qc_ | apply qa_ | apply qb_) | exact HB.out))) : w.heap.size ≤ gb101)); have n3_ := Aside0.mk ((by rw [hg]; exact (ql_ (by repeat (first | (with_reducible first | exact HB.out | apply qc_ | apply qa_ | apply qb_) | exact HB.out))) : w.heap.size ≤ gb101)); clear HB; have HB := n0_; have BK101 := n1_; have GW101 := n2_; have GE101 := n3_; clear n0_ n1_ n2_ n3_; clear hb hbox hg) | ((with_reducible refine qo_ (N := 4) rfl ?_); refine qn_ ?hg (N := 4) ?hd (cs := #[.int .u32 a1_0, .int .u32 a1_1]) (t := 26) ?hr ?_; (case hd => rfl); (case hg => rfl); (case hr => first | (go_simp; done) | (go_simp; rfl)); intro gb102 hg w59 hbox hb; have n0_ := Aside0.mk (qk_ (g := gb101) (o := .cells #[.int .i64 a0_0, .slice A0_1 l0_1.length c0_1] 24 (0, 0)) (by (with_reducible repeat (first | refine qe_ ?_ _ | refine qg_ ?_ | refine qf_ ?_ _)); exact BK101.out) hb); have n1_ := Aside0.mk (qj_ (by repeat (first | (with_reducible first | exact HB.out | apply qc_ | apply qa_ | apply qb_ | refine qd_ ?_ GE101.out) | exact HB.out)) hb); have n2_ := Aside0.mk (hbox); have n3_ := Aside0.mk ((by rw [hg]; exact (ql_ (by repeat (first | (with_reducible first | exact HB.out | apply qc_ | apply qa_ | apply qb_ | refine qd_ ?_ GE101.out) | exact HB.out))) : w.heap.size ≤ gb102)); have n4_ := Aside0.mk ((by rw [hg]; exact (ql_ (by repeat (first | (with_reducible first | exact HB.out | apply qc_ | apply qa_ | apply qb_ | refine qd_ ?_ GE101.out) | exact HB.out))) : w.heap.size ≤ gb102)); have n5_ := Aside0.mk ((by rw [hg]; exact Nat.ne_of_lt (blk_lt (g := gb101) (o := .cells #[.int .i64 a0_0, .slice A0_1 l0_1.length c0_1] 24 (0, 0)) (by (with_reducible repeat (first | refine qe_ ?_ _ | refine qg_ ?_ | refine qf_ ?_ _)); exact BK101.out)) : gb101 ≠ gb102)); have n6_ := Aside0.mk ((by rw [hg]; exact Nat.ne_of_gt (blk_lt (g := gb101) (o := .cells #[.int .i64 a0_0, .slice A0_1 l0_1.length c0_1] 24 (0, 0)) (by (with_reducible repeat (first | refine qe_ ?_ _ | refine qg_ ?_ | refine qf_ ?_ _)); exact BK101.out)) : gb102 ≠ gb101)); clear BK101; clear HB; have BK101 := n0_; have HB := n1_; have BK102 := n2_; have GW102 := n3_; have GE102 := n4_; have NB101_102 := n5_; have NB102_101 := n6_; clear n0_ n1_ n2_ n3_ n4_ n5_ n6_; clear hb hbox hg) | (go_at_call 8; (with_reducible refine (law11_alive.calls k  false _ A4.out).mono ?_); rintro e w60 ⟨rfl, hb⟩; have n0_ := Aside0.mk (qk_ (g := gb101) (o := .cells #[.int .i64 a0_0, .slice A0_1 l0_1.length c0_1] 24 (0, 0)) (by (with_reducible repeat (first | refine qe_ ?_ _ | refine qg_ ?_ | refine qf_ ?_ _)); exact BK101.out) hb); have n1_ := Aside0.mk (qk_ (g := gb102) (o := .cells #[.int .u32 a1_0, .int .u32 a1_1] 26 (0, 0)) (by (with_reducible repeat (first | refine qe_ ?_ _ | refine qg_ ?_ | refine qf_ ?_ _)); exact BK102.out) hb); have n2_ := Aside0.mk (qj_ (by repeat (first | (with_reducible first | exact HB.out | apply qc_ | apply qa_ | apply qb_ | refine qd_ ?_ GE101.out | refine qd_ ?_ GE102.out) | exact HB.out)) hb); clear BK101; clear BK102; clear HB; have BK101 := n0_; have BK102 := n1_; have HB := n2_; clear n0_ n1_ n2_; (try clear hb); (try clear hb2); (try clear hk); (try clear hi))))
  go_ret
  exact ⟨by first | rfl | (simp [errW_none, errW_some] <;> rfl) | (simp [*, errW_none, errW_some] <;> rfl), by repeat (first | (with_reducible first | exact HB.out | apply qc_ | apply qa_ | apply qb_ | refine qd_ ?_ GE101.out | refine qd_ ?_ GE102.out) | exact HB.out)⟩
end Go.Proofs.Ytjallhlamaggbaa.P

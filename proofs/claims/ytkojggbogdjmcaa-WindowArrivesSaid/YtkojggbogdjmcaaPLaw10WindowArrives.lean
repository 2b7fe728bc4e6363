/- What this function of the program comes to, and that the machine's call does it: written by a program (wip/tool). No condition. -/
import Derived.Test.YtkojggbogdjmcaaP0
import Derived.Test.YtkojggbogdjmcaaPWindowNew
import Derived.Test.YtkojggbogdjmcaaPWindowRight
import Derived.Test.YtkojggbogdjmcaaPWindowArrive
import Derived.Test.YtkojggbogdjmcaaPWindowMean
import Derived.Test.YtkojggbogdjmcaaPLaw10Alive
import Derived.Test.YtkojggbogdjmcaaPRef10Right
import Derived.Test.YtkojggbogdjmcaaPRef10Arrive
import Derived.Test.YtkojggbogdjmcaaPRef10New
import Derived.Test.YtkojggbogdjmcaaPRef10Same
import Derived.Test.YtkojggbogdjmcaaPRef10Mean
import Derived.Test.YtkojggbogdjmcaaPWindowSame
import Derived.Test.YtkojggbogdjmcaaHw
namespace Go.Proofs.Ytkojggbogdjmcaa.P
open Go.RowKit Go.Proofs.YtkojggbogdjmcaaW.PrintWords Go.Proofs.YtkojggbogdjmcaaW.PrintLast Go.Proofs.YtkojggbogdjmcaaW.PrintMore
attribute [local go_sem] max2_int min2_int max_two min_two max_three min_three max_four min_four   -- for this text's walks alone
set_option linter.unusedVariables false
set_option linter.unusedSimpArgs false
/-! ### law10_WindowArrives: function 6 -/
def law10_WindowArrives.j0 : Nat → Bool → Int → List Int → Int → List Int → Int → Int → Int → Option (Bool)
 | 0, _, _, _, _, _, _, _, _ => none
 | k + 1, x23, x102000, x102001, x103000, x103001, x104000, x104001, x104002 => if x23 = true then (some true) else ((some (([] : List Int) : List Int)).bind fun y105 => (if y105.length + x102001.length < 17592186044416 then ((some (y105 ++ x102001 : List Int)).bind fun y108 => ((window_Arrive.f k x102000 y108 x104000 x104001).bind fun bt112 => ((ref10_Arrive.f k x102000 x102001 x104000 x104001).bind fun bt118 => ((ref10_Same.f k bt112.1 bt112.2.1 bt118.1 bt118.2.1).bind fun t124 => (if t124 = true then (if bt112.2.2 = bt118.2.2 then ((window_Mean.f k x102000 x102001 x104002).bind fun t125 => ((ref10_Mean.f k x102000 x102001 x104002).bind fun t126 => (if t125 = t126 then ((window_Right.f x102000 x102001).bind fun t127 => ((ref10_Right.f k x102000 x102001).bind fun t128 => (if (t127 == t128) = true then ((window_Same.f k x102000 x102001 x103000 x103001).bind fun t129 => ((ref10_Same.f k x102000 x102001 x103000 x103001).bind fun t130 => (if (t129 == t130) = true then ((ref10_Same.f k x102000 y108 x102000 x102001).bind fun t131 => (if t131 = true then ((window_New.f).bind fun bt132 => ((ref10_New.f).bind fun bt136 => ((ref10_Same.f k bt132.1 bt132.2 bt136.1 bt136.2).bind fun t140 => (some t140)))) else (some false))) else (some false)))) else (some false)))) else (some false)))) else (some false)) else (some false)))))) else (none)))
def law10_WindowArrives.f (k : Nat) (a0_0 : Int) (l0_1 : List Int) (a1_0 : Int) (l1_1 : List Int) (a2_0 : Int) (a2_1 : Int) (a2_2 : Int) : Option (Bool) := (law10_alive.f k).bind fun t104 => (if t104 = true then (if (l0_1.length : Int) > 200 then (law10_WindowArrives.j0 k true a0_0 l0_1 a1_0 l1_1 a2_0 a2_1 a2_2) else (law10_WindowArrives.j0 k (decide ((l1_1.length : Int) > 200)) a0_0 l0_1 a1_0 l1_1 a2_0 a2_1 a2_2)) else (some false))
theorem law10_WindowArrives.mono_l : ∀ k, (∀ y0 y1 y2 y3 y4 y5 y6 y7, LeO (law10_WindowArrives.j0 k y0 y1 y2 y3 y4 y5 y6 y7) (law10_WindowArrives.j0 (k + 1) y0 y1 y2 y3 y4 y5 y6 y7))
 | 0 => fun _ _ _ _ _ _ _ _ r h => by simp [law10_WindowArrives.j0] at h
 | k + 1 => by
  have ih0 := law10_WindowArrives.mono_l k
  ·intro y0 y1 y2 y3 y4 y5 y6 y7
   unfold law10_WindowArrives.j0
   repeat' first
   | (with_reducible exact ih0 _ _ _ _ _ _ _ _)
   | (with_reducible exact law10_alive.mono _)
   | (with_reducible exact ref10_Arrive.mono _ _ _ _ _)
   | (with_reducible exact ref10_Mean.mono _ _ _ _)
   | (with_reducible exact ref10_Right.mono _ _ _)
   | (with_reducible exact ref10_Same.mono _ _ _ _ _)
   | (with_reducible exact window_Arrive.mono _ _ _ _ _)
   | (with_reducible exact window_Mean.mono _ _ _ _)
   | (with_reducible exact window_Same.mono _ _ _ _ _)
   | (with_reducible exact LeO.refl _)
   | (with_reducible exact LeO.none _)
   | (with_reducible refine LeO.ite ?_ ?_)
   | (with_reducible refine LeO.bind ?_ (fun _ => ?_))
   | exact ih0 _ _ _ _ _ _ _ _
   | exact law10_alive.mono _
   | exact ref10_Arrive.mono _ _ _ _ _
   | exact ref10_Mean.mono _ _ _ _
   | exact ref10_Right.mono _ _ _
   | exact ref10_Same.mono _ _ _ _ _
   | exact window_Arrive.mono _ _ _ _ _
   | exact window_Mean.mono _ _ _ _
   | exact window_Same.mono _ _ _ _ _
   | exact LeO.none _
   | refine LeO.ite ?_ ?_
   | refine LeO.bind ?_ (fun _ => ?_)
theorem law10_WindowArrives.mono : ∀ a0 a1 a2 a3 a4 a5 a6 k, LeO (law10_WindowArrives.f k a0 a1 a2 a3 a4 a5 a6) (law10_WindowArrives.f (k + 1) a0 a1 a2 a3 a4 a5 a6) := by
 intro a0 a1 a2 a3 a4 a5 a6 k
 have ih0 := law10_WindowArrives.mono_l k
 unfold law10_WindowArrives.f
 repeat' first
   | (with_reducible exact ih0 _ _ _ _ _ _ _ _)
   | (with_reducible exact law10_alive.mono _)
   | (with_reducible exact ref10_Arrive.mono _ _ _ _ _)
   | (with_reducible exact ref10_Mean.mono _ _ _ _)
   | (with_reducible exact ref10_Right.mono _ _ _)
   | (with_reducible exact ref10_Same.mono _ _ _ _ _)
   | (with_reducible exact window_Arrive.mono _ _ _ _ _)
   | (with_reducible exact window_Mean.mono _ _ _ _)
   | (with_reducible exact window_Same.mono _ _ _ _ _)
   | (with_reducible exact LeO.refl _)
   | (with_reducible exact LeO.none _)
   | (with_reducible refine LeO.ite ?_ ?_)
   | (with_reducible refine LeO.bind ?_ (fun _ => ?_))
   | exact ih0 _ _ _ _ _ _ _ _
   | exact law10_alive.mono _
   | exact ref10_Arrive.mono _ _ _ _ _
   | exact ref10_Mean.mono _ _ _ _
   | exact ref10_Right.mono _ _ _
   | exact ref10_Same.mono _ _ _ _ _
   | exact window_Arrive.mono _ _ _ _ _
   | exact window_Mean.mono _ _ _ _
   | exact window_Same.mono _ _ _ _ _
   | exact LeO.none _
   | refine LeO.ite ?_ ?_
   | refine LeO.bind ?_ (fun _ => ?_)
def law10_WindowArrives.T5 : Bool × List (List Nat × List Nat) := (true, [([], []), ([0], [0]), ([], []), ([], []), ([3], [3]), ([2, 4], [2, 4]), ([1, 5], [1, 5]), ([], []), ([7, 6, 5, 0, 1, 2, 3, 4, 5, 6, 7], [6, 7])])
def law10_WindowArrives.B5 : List Nat := [0, 1, 0, 0, 8, 28, 63, 0, 255]
theorem law10_WindowArrives.tab5 : rtab .any (opsOf Try.f6 5) = law10_WindowArrives.T5 := by kernel_rfl
theorem law10_WindowArrives.bits5 : waitsOk law10_WindowArrives.T5.2 law10_WindowArrives.B5 = true := by kernel_rfl
def law10_WindowArrives.T8 : Bool × List (List Nat × List Nat) := (true, [([], []), ([], []), ([0, 1], [0, 1]), ([2, 2], [2]), ([3], [3]), ([3], [3]), ([4, 5, 3], [3, 4, 5]), ([3, 6], [3, 6]), ([7, 3], [7]), ([8], [8]), ([8], [8]), ([10, 8], [8, 10]), ([9, 11, 8, 8], [8, 9, 11]), ([8], [8]), ([8], [8]), ([14, 8], [8, 14]), ([13, 15, 12, 8], [8, 13, 15]), ([12, 16, 8], [8, 12, 16]), ([8, 17], [8, 17]), ([18, 16], [18]), ([19], [19]), ([20, 19, 19], [19, 20]), ([19], [19]), ([22, 21, 19], [19, 22]), ([21, 23, 19], [19, 21, 23]), ([19, 24], [19, 24]), ([25, 23], [25]), ([26], [26]), ([26], [26]), ([27, 28, 26, 26], [26, 27, 28]), ([26], [26]), ([26], [26]), ([30, 31, 29, 26], [26, 30, 31]), ([29, 32, 26], [26, 29, 32]), ([26, 33], [26, 33]), ([34, 32], [34]), ([35], [35]), ([35], [35]), ([36, 37, 35, 35], [35, 36, 37]), ([35, 38], [35, 38]), ([39, 38], [39]), ([40, 40], [40]), ([41, 40], [40]), ([41, 42, 42, 40], [40, 41, 42]), ([40, 43], [40, 43]), ([44, 43, 0, 1, 2, 3, 4, 5, 6, 7, 8, 9, 10, 11, 12, 13, 14, 15, 16, 17, 18, 19, 20, 21, 22, 23, 24, 25, 26, 27, 28, 29, 30, 31, 32, 33, 34, 35, 36, 37, 38, 39, 40, 41, 42, 43, 44], [44])])
def law10_WindowArrives.B8 : List Nat := [0, 0, 3, 7, 15, 15, 63, 127, 255, 511, 511, 1535, 4095, 511, 511, 16895, 65535, 131071, 262143, 524287, 1048575, 2097151, 1048575, 8388607, 16777215, 33554431, 67108863, 134217727, 134217727, 536870911, 134217727, 134217727, 4294967295, 8589934591, 17179869183, 34359738367, 68719476735, 68719476735, 274877906943, 549755813887, 1099511627775, 2199023255551, 4398046511103, 8796093022207, 17592186044415, 35184372088831]
theorem law10_WindowArrives.tab8 : rtab .any (opsOf Try.f6 8) = law10_WindowArrives.T8 := by kernel_rfl
theorem law10_WindowArrives.bits8 : waitsOk law10_WindowArrives.T8.2 law10_WindowArrives.B8 = true := by kernel_rfl
set_option maxHeartbeats 8000000 in
set_option maxRecDepth 100000 in
theorem law10_WindowArrives.calls (k : Nat) (a0_0 : Int) (A0_1 : Option Addr) (c0_1 : Nat) (l0_1 : List Int) (a1_0 : Int) (A1_1 : Option Addr) (c1_1 : Nat) (l1_1 : List Int) (a2_0 : Int) (a2_1 : Int) (a2_2 : Int) (r : Bool) (w : World) (hr0_1 : Kd.C (Kd.int .i64) w A0_1 l0_1.length l0_1) (hc0_1 : l0_1.length ≤ c0_1) (hr1_1 : Kd.C (Kd.int .i64) w A1_1 l1_1.length l1_1) (hc1_1 : l1_1.length ≤ c1_1) (h : law10_WindowArrives.f k a0_0 l0_1 a1_0 l1_1 a2_0 a2_1 a2_2 = some r) (hrt : r = true) :
  Calls Try.prog 6 #[.agg #[.int .i64 a0_0, .slice A0_1 l0_1.length c0_1], .agg #[.int .i64 a1_0, .slice A1_1 l1_1.length c1_1], .agg #[.int .i64 a2_0, .int .i64 a2_1, .int .i64 a2_2]] w fun e w' => e = .returned (.bool r) ∧ Below w.heap.size w w' := by
 have HRT := Aside0.mk hrt
 clear hrt
 have hu27 := Try.underlying27
 have hu39 := Try.underlying39
 have HR0_1 := Aside0.mk hr0_1
 have HC0_1 := Aside0.mk hc0_1
 clear hr0_1 hc0_1
 have HR1_1 := Aside0.mk hr1_1
 have HC1_1 := Aside0.mk hc1_1
 clear hr1_1 hc1_1
 have HB := Aside0.mk (Below.refl w.heap.size w)
 have H : ((law10_alive.f k).bind fun t104 => (if t104 = true then (if (l0_1.length : Int) > 200 then (law10_WindowArrives.j0 k true a0_0 l0_1 a1_0 l1_1 a2_0 a2_1 a2_2) else (law10_WindowArrives.j0 k (decide ((l1_1.length : Int) > 200)) a0_0 l0_1 a1_0 l1_1 a2_0 a2_1 a2_2)) else (some false))) = some r := h
 clear h
 replace H := ob_ H
 obtain ⟨t104, A40, H⟩ := H
 replace H : (if t104 = true then (if (l0_1.length : Int) > 200 then (law10_WindowArrives.j0 k true a0_0 l0_1 a1_0 l1_1 a2_0 a2_1 a2_2) else (law10_WindowArrives.j0 k (decide ((l1_1.length : Int) > 200)) a0_0 l0_1 a1_0 l1_1 a2_0 a2_1 a2_2)) else (some false)) = some r := H
 have A4 := Aside0.mk A40
 clear A40
 by_cases c5 : t104 = true
 ·subst c5
  have H1 : (if (l0_1.length : Int) > 200 then (law10_WindowArrives.j0 k true a0_0 l0_1 a1_0 l1_1 a2_0 a2_1 a2_2) else (law10_WindowArrives.j0 k (decide ((l1_1.length : Int) > 200)) a0_0 l0_1 a1_0 l1_1 a2_0 a2_1 a2_2)) = some r := by rw [if_pos rfl] at H; exact H
  clear H
  have H := H1
  clear H1
  have HC6 := Aside0.mk H
  clear H
  go_enter Try.func6, Try.ntmps6
  go_upto_region 3 with (first | ((with_reducible refine gate_dst (N := 3) rfl ?_); (try (refine gate_guard (by rfl) ?_; dsimp only)); refine qo_ ?hg (N := 3) ?hd (cs := #[.int .i64 a0_0, .slice A0_1 l0_1.length c0_1]) (t := 27) ?hr ?_; (case hd => rfl); (case hg => rfl); (case hr => first | (go_simp; done) | (go_simp; rfl)); intro gb101 hg w7 hbox hb; have n0_ := Aside0.mk (ql_ (by repeat (first | (with_reducible first | exact HB.out | apply qf_ | apply qa_ | apply qg_) | exact HB.out)) hb); have n1_ := Aside0.mk (hbox); have n2_ := Aside0.mk ((by rw [hg]; exact (qk_ (by repeat (first | (with_reducible first | exact HB.out | apply qf_ | apply qa_ | apply qg_) | exact HB.out))) : w.heap.size ≤ gb101)); have n3_ := Aside0.mk ((by rw [hg]; exact (qk_ (by repeat (first | (with_reducible first | exact HB.out | apply qf_ | apply qa_ | apply qg_) | exact HB.out))) : w.heap.size ≤ gb101)); clear HB; have HB := n0_; have BK101 := n1_; have GW101 := n2_; have GE101 := n3_; clear n0_ n1_ n2_ n3_; clear hb hbox hg) | ((with_reducible refine gate_dst (N := 4) rfl ?_); (try (refine gate_guard (by rfl) ?_; dsimp only)); refine qo_ ?hg (N := 4) ?hd (cs := #[.int .i64 a1_0, .slice A1_1 l1_1.length c1_1]) (t := 27) ?hr ?_; (case hd => rfl); (case hg => rfl); (case hr => first | (go_simp; done) | (go_simp; rfl)); intro gb102 hg w8 hbox hb; have n0_ := Aside0.mk (qj_ (g := gb101) (o := .cells #[.int .i64 a0_0, .slice A0_1 l0_1.length c0_1] 27 (0, 0)) (by (with_reducible repeat (first | refine qc_ ?_ _ | refine qe_ ?_ | refine qd_ ?_ _)); exact BK101.out) hb); have n1_ := Aside0.mk (ql_ (by repeat (first | (with_reducible first | exact HB.out | apply qf_ | apply qa_ | apply qg_ | refine qb_ ?_ GE101.out) | exact HB.out)) hb); have n2_ := Aside0.mk (hbox); have n3_ := Aside0.mk ((by rw [hg]; exact (qk_ (by repeat (first | (with_reducible first | exact HB.out | apply qf_ | apply qa_ | apply qg_ | refine qb_ ?_ GE101.out) | exact HB.out))) : w.heap.size ≤ gb102)); have n4_ := Aside0.mk ((by rw [hg]; exact (qk_ (by repeat (first | (with_reducible first | exact HB.out | apply qf_ | apply qa_ | apply qg_ | refine qb_ ?_ GE101.out) | exact HB.out))) : w.heap.size ≤ gb102)); have n5_ := Aside0.mk ((by rw [hg]; exact Nat.ne_of_lt (blk_lt (g := gb101) (o := .cells #[.int .i64 a0_0, .slice A0_1 l0_1.length c0_1] 27 (0, 0)) (by (with_reducible repeat (first | refine qc_ ?_ _ | refine qe_ ?_ | refine qd_ ?_ _)); exact BK101.out)) : gb101 ≠ gb102)); have n6_ := Aside0.mk ((by rw [hg]; exact Nat.ne_of_gt (blk_lt (g := gb101) (o := .cells #[.int .i64 a0_0, .slice A0_1 l0_1.length c0_1] 27 (0, 0)) (by (with_reducible repeat (first | refine qc_ ?_ _ | refine qe_ ?_ | refine qd_ ?_ _)); exact BK101.out)) : gb102 ≠ gb101)); clear BK101; clear HB; have BK101 := n0_; have HB := n1_; have BK102 := n2_; have GW102 := n3_; have GE102 := n4_; have NB101_102 := n5_; have NB102_101 := n6_; clear n0_ n1_ n2_ n3_ n4_ n5_ n6_; clear hb hbox hg) | ((with_reducible refine gate_dst (N := 5) rfl ?_); (try (refine gate_guard (by rfl) ?_; dsimp only)); refine qo_ ?hg (N := 5) ?hd (cs := #[.int .i64 a2_0, .int .i64 a2_1, .int .i64 a2_2]) (t := 39) ?hr ?_; (case hd => rfl); (case hg => rfl); (case hr => first | (go_simp; done) | (go_simp; rfl)); intro gb103 hg w9 hbox hb; have n0_ := Aside0.mk (qj_ (g := gb101) (o := .cells #[.int .i64 a0_0, .slice A0_1 l0_1.length c0_1] 27 (0, 0)) (by (with_reducible repeat (first | refine qc_ ?_ _ | refine qe_ ?_ | refine qd_ ?_ _)); exact BK101.out) hb); have n1_ := Aside0.mk (qj_ (g := gb102) (o := .cells #[.int .i64 a1_0, .slice A1_1 l1_1.length c1_1] 27 (0, 0)) (by (with_reducible repeat (first | refine qc_ ?_ _ | refine qe_ ?_ | refine qd_ ?_ _)); exact BK102.out) hb); have n2_ := Aside0.mk (ql_ (by repeat (first | (with_reducible first | exact HB.out | apply qf_ | apply qa_ | apply qg_ | refine qb_ ?_ GE101.out | refine qb_ ?_ GE102.out) | exact HB.out)) hb); have n3_ := Aside0.mk (hbox); have n4_ := Aside0.mk ((by rw [hg]; exact (qk_ (by repeat (first | (with_reducible first | exact HB.out | apply qf_ | apply qa_ | apply qg_ | refine qb_ ?_ GE101.out | refine qb_ ?_ GE102.out) | exact HB.out))) : w.heap.size ≤ gb103)); have n5_ := Aside0.mk ((by rw [hg]; exact (qk_ (by repeat (first | (with_reducible first | exact HB.out | apply qf_ | apply qa_ | apply qg_ | refine qb_ ?_ GE101.out | refine qb_ ?_ GE102.out) | exact HB.out))) : w.heap.size ≤ gb103)); have n6_ := Aside0.mk ((by rw [hg]; exact Nat.ne_of_lt (blk_lt (g := gb101) (o := .cells #[.int .i64 a0_0, .slice A0_1 l0_1.length c0_1] 27 (0, 0)) (by (with_reducible repeat (first | refine qc_ ?_ _ | refine qe_ ?_ | refine qd_ ?_ _)); exact BK101.out)) : gb101 ≠ gb103)); have n7_ := Aside0.mk ((by rw [hg]; exact Nat.ne_of_gt (blk_lt (g := gb101) (o := .cells #[.int .i64 a0_0, .slice A0_1 l0_1.length c0_1] 27 (0, 0)) (by (with_reducible repeat (first | refine qc_ ?_ _ | refine qe_ ?_ | refine qd_ ?_ _)); exact BK101.out)) : gb103 ≠ gb101)); have n8_ := Aside0.mk ((by rw [hg]; exact Nat.ne_of_lt (blk_lt (g := gb102) (o := .cells #[.int .i64 a1_0, .slice A1_1 l1_1.length c1_1] 27 (0, 0)) (by (with_reducible repeat (first | refine qc_ ?_ _ | refine qe_ ?_ | refine qd_ ?_ _)); exact BK102.out)) : gb102 ≠ gb103)); have n9_ := Aside0.mk ((by rw [hg]; exact Nat.ne_of_gt (blk_lt (g := gb102) (o := .cells #[.int .i64 a1_0, .slice A1_1 l1_1.length c1_1] 27 (0, 0)) (by (with_reducible repeat (first | refine qc_ ?_ _ | refine qe_ ?_ | refine qd_ ?_ _)); exact BK102.out)) : gb103 ≠ gb102)); clear BK101; clear BK102; clear HB; have BK101 := n0_; have BK102 := n1_; have HB := n2_; have BK103 := n3_; have GW103 := n4_; have GE103 := n5_; have NB101_103 := n6_; have NB103_101 := n7_; have NB102_103 := n8_; have NB103_102 := n9_; clear n0_ n1_ n2_ n3_ n4_ n5_ n6_ n7_ n8_ n9_; clear hb hbox hg) | ((with_reducible refine gate_callee (f := 7) rfl ?_); refine goesL_ (some 12) rfl rfl Try.func7 (by kernel_rfl) rfl #[] rfl (by (try simp only [List.map_toArray, List.map_cons, List.map_nil]); first | done | rfl | (simp only [List.length_drop, List.length_take]; rfl)) ?_; (with_reducible refine (law10_alive.calls k  true _ A4.out).mono ?_); rintro e w10 ⟨rfl, hb⟩; refine ⟨_, rfl, ?_⟩; have n0_ := Aside0.mk (qj_ (g := gb101) (o := .cells #[.int .i64 a0_0, .slice A0_1 l0_1.length c0_1] 27 (0, 0)) (by (with_reducible repeat (first | refine qc_ ?_ _ | refine qe_ ?_ | refine qd_ ?_ _)); exact BK101.out) hb); have n1_ := Aside0.mk (qj_ (g := gb102) (o := .cells #[.int .i64 a1_0, .slice A1_1 l1_1.length c1_1] 27 (0, 0)) (by (with_reducible repeat (first | refine qc_ ?_ _ | refine qe_ ?_ | refine qd_ ?_ _)); exact BK102.out) hb); have n2_ := Aside0.mk (qj_ (g := gb103) (o := .cells #[.int .i64 a2_0, .int .i64 a2_1, .int .i64 a2_2] 39 (0, 0)) (by (with_reducible repeat (first | refine qc_ ?_ _ | refine qe_ ?_ | refine qd_ ?_ _)); exact BK103.out) hb); have n3_ := Aside0.mk (ql_ (by repeat (first | (with_reducible first | exact HB.out | apply qf_ | apply qa_ | apply qg_ | refine qb_ ?_ GE101.out | refine qb_ ?_ GE102.out | refine qb_ ?_ GE103.out) | exact HB.out)) hb); clear BK101; clear BK102; clear BK103; clear HB; have BK101 := n0_; have BK102 := n1_; have BK103 := n2_; have HB := n3_; clear n0_ n1_ n2_ n3_; (try clear hb); (try clear hb2); (try clear hk); (try clear hi)))
  (try simp only [Act.put, sa_, sb_, sc_])
  go_cut [23] (fun v23 wc => ∃ (kq : Nat) (x23_5 : Bool), v23 = .bool x23_5 ∧ Aside0 (law10_WindowArrives.j0 kq x23_5 a0_0 l0_1 a1_0 l1_1 a2_0 a2_1 a2_2 = some r) ∧ Aside0 (kq ≤ k) ∧ Aside0 (wc.heap[gb101]? = some (.cells #[.int .i64 a0_0, (.slice A0_1 l0_1.length c0_1)] 27 (0, 0))) ∧ Aside0 (wc.heap[gb102]? = some (.cells #[.int .i64 a1_0, (.slice A1_1 l1_1.length c1_1)] 27 (0, 0))) ∧ Aside0 (wc.heap[gb103]? = some (.cells #[.int .i64 a2_0, .int .i64 a2_1, .int .i64 a2_2] 39 (0, 0))) ∧ Aside0 (Below w.heap.size w wc))
  case first =>
   have H := HC6.out
   clear HC6
   by_cases c11 : (l0_1.length : Int) > 200
   ·rw [if_pos c11] at H
    have c11b0 : decide (200 < (l0_1.length : Int)) = true := decide_eq_true c11
    have c11b1 : decide (200 < l0_1.length) = true := decide_eq_true (by omega)
    clear c11
    (first | rw [c11b0] | (simp only [i64_w, i32_w]; rw [c11b0]) | skip)
    have H' := Aside0.mk H
    clear H
    have hnb12 := NB101_102.out
    have hnc12 := NB102_101.out
    have hnb13 := NB101_103.out
    have hnc13 := NB103_101.out
    have hcz14_0 : w10.cell? ⟨gb101, 0, none⟩ = some (.int .i64 a0_0) := (qh_ BK101.out 0).trans rfl
    have hcz14_1 : w10.cell? ⟨gb101, 1, none⟩ = some (.slice A0_1 l0_1.length c0_1) := (qh_ BK101.out 1).trans rfl
    have hfz14_0 := qi_ BK101.out 0
    have hfz14_1 := qi_ BK101.out 1
    go_wp2
    go_meet
    case rel => exact ⟨_, (true), (by first | rfl | (simp; done) | (simp [*]; done)), H', ⟨by first | omega | exact Nat.le_refl _⟩, ⟨by (with_reducible repeat (first | refine qc_ ?_ _ | refine qe_ ?_ | refine qd_ ?_ _)); exact BK101.out⟩, ⟨by (with_reducible repeat (first | refine qc_ ?_ _ | refine qe_ ?_ | refine qd_ ?_ _)); exact BK102.out⟩, ⟨by (with_reducible repeat (first | refine qc_ ?_ _ | refine qe_ ?_ | refine qd_ ?_ _)); exact BK103.out⟩, ⟨by repeat (first | (with_reducible first | exact HB.out | apply qf_ | apply qa_ | apply qg_ | refine qb_ ?_ GE101.out | refine qb_ ?_ GE102.out | refine qb_ ?_ GE103.out) | exact HB.out)⟩⟩
   ·rw [if_neg c11] at H
    have c11b0 : decide (200 < (l0_1.length : Int)) = false := decide_eq_false c11
    have c11b1 : decide (200 < l0_1.length) = false := decide_eq_false (by omega)
    clear c11
    (first | rw [c11b0] | (simp only [i64_w, i32_w]; rw [c11b0]) | skip)
    have H' := Aside0.mk H
    clear H
    have hnb15 := NB101_102.out
    have hnc15 := NB102_101.out
    have hnb16 := NB101_103.out
    have hnc16 := NB103_101.out
    have hcz17_0 : w10.cell? ⟨gb101, 0, none⟩ = some (.int .i64 a0_0) := (qh_ BK101.out 0).trans rfl
    have hcz17_1 : w10.cell? ⟨gb101, 1, none⟩ = some (.slice A0_1 l0_1.length c0_1) := (qh_ BK101.out 1).trans rfl
    have hfz17_0 := qi_ BK101.out 0
    have hfz17_1 := qi_ BK101.out 1
    have hnb18 := NB102_103.out
    have hnc18 := NB103_102.out
    have hcz19_0 : w10.cell? ⟨gb102, 0, none⟩ = some (.int .i64 a1_0) := (qh_ BK102.out 0).trans rfl
    have hcz19_1 : w10.cell? ⟨gb102, 1, none⟩ = some (.slice A1_1 l1_1.length c1_1) := (qh_ BK102.out 1).trans rfl
    have hfz19_0 := qi_ BK102.out 0
    have hfz19_1 := qi_ BK102.out 1
    go_wp2
    go_meet
    case rel => exact ⟨_, (decide ((l1_1.length : Int) > 200)), (by first | rfl | (simp; done) | (simp [*]; done)), H', ⟨by first | omega | exact Nat.le_refl _⟩, ⟨by (with_reducible repeat (first | refine qc_ ?_ _ | refine qe_ ?_ | refine qd_ ?_ _)); exact BK101.out⟩, ⟨by (with_reducible repeat (first | refine qc_ ?_ _ | refine qe_ ?_ | refine qd_ ?_ _)); exact BK102.out⟩, ⟨by (with_reducible repeat (first | refine qc_ ?_ _ | refine qe_ ?_ | refine qd_ ?_ _)); exact BK103.out⟩, ⟨by repeat (first | (with_reducible first | exact HB.out | apply qf_ | apply qa_ | apply qg_ | refine qb_ ?_ GE101.out | refine qb_ ?_ GE102.out | refine qb_ ?_ GE103.out) | exact HB.out)⟩⟩
  case rest =>
   clear HC6
   try clear c1
   try clear p2
   try clear c5
   try clear c6
   try clear c7
   try clear c11
   try clear c11b0
   try clear c11b1
   try clear c12
   try clear c13
   try clear c15
   try clear c16
   try clear c18
   try clear hcz14_0
   try clear hcz14_1
   try clear hcz17_0
   try clear hcz17_1
   try clear hcz19_0
   try clear hcz19_1
   try clear hfz14_0
   try clear hfz14_1
   try clear hfz17_0
   try clear hfz17_1
   try clear hfz19_0
   try clear hfz19_1
   obtain ⟨kq, x23_5, rfl, HA, HJ5, BK101, BK102, BK103, HB⟩ := hcut
   cases kq with
   | zero => exact absurd HA.out (by simp [law10_WindowArrives.j0])
   | succ kj5 =>
    have H := HA.out
    clear HA
    simp only [law10_WindowArrives.j0] at H
    by_cases c20 : x23_5 = true
    ·subst c20
     have H1 : (some true) = some r := by rw [if_pos rfl] at H; exact H
     clear H
     have H := H1
     clear H1
     obtain rfl := Option.some.inj H
     go_wp2
     go_ret
     exact ⟨by first | rfl | (simp [errW_none, errW_some] <;> rfl) | (simp [*, errW_none, errW_some] <;> rfl), by repeat (first | (with_reducible first | exact HB.out | apply qf_ | apply qa_ | apply qg_ | refine qb_ ?_ GE101.out | refine qb_ ?_ GE102.out | refine qb_ ?_ GE103.out) | exact HB.out)⟩
    ·replace c20 := Bool.eq_false_iff.mpr c20
     subst c20
     have H1 : ((some (([] : List Int) : List Int)).bind fun y105 => (if y105.length + l0_1.length < 17592186044416 then ((some (y105 ++ l0_1 : List Int)).bind fun y108 => ((window_Arrive.f kj5 a0_0 y108 a2_0 a2_1).bind fun bt112 => ((ref10_Arrive.f kj5 a0_0 l0_1 a2_0 a2_1).bind fun bt118 => ((ref10_Same.f kj5 bt112.1 bt112.2.1 bt118.1 bt118.2.1).bind fun t124 => (if t124 = true then (if bt112.2.2 = bt118.2.2 then ((window_Mean.f kj5 a0_0 l0_1 a2_2).bind fun t125 => ((ref10_Mean.f kj5 a0_0 l0_1 a2_2).bind fun t126 => (if t125 = t126 then ((window_Right.f a0_0 l0_1).bind fun t127 => ((ref10_Right.f kj5 a0_0 l0_1).bind fun t128 => (if (t127 == t128) = true then ((window_Same.f kj5 a0_0 l0_1 a1_0 l1_1).bind fun t129 => ((ref10_Same.f kj5 a0_0 l0_1 a1_0 l1_1).bind fun t130 => (if (t129 == t130) = true then ((ref10_Same.f kj5 a0_0 y108 a0_0 l0_1).bind fun t131 => (if t131 = true then ((window_New.f).bind fun bt132 => ((ref10_New.f).bind fun bt136 => ((ref10_Same.f kj5 bt132.1 bt132.2 bt136.1 bt136.2).bind fun t140 => (some t140)))) else (some false))) else (some false)))) else (some false)))) else (some false)))) else (some false)) else (some false)))))) else (none))) = some r := by rw [if_neg (show ¬ (false = true) by decide)] at H; exact H
     clear H
     have H := H1
     clear H1
     obtain ⟨y105, hy105⟩ : ∃ y_ : List Int, y_ = (([] : List Int)) := ⟨_, rfl⟩
     replace H : (if y105.length + l0_1.length < 17592186044416 then ((some (y105 ++ l0_1 : List Int)).bind fun y108 => ((window_Arrive.f kj5 a0_0 y108 a2_0 a2_1).bind fun bt112 => ((ref10_Arrive.f kj5 a0_0 l0_1 a2_0 a2_1).bind fun bt118 => ((ref10_Same.f kj5 bt112.1 bt112.2.1 bt118.1 bt118.2.1).bind fun t124 => (if t124 = true then (if bt112.2.2 = bt118.2.2 then ((window_Mean.f kj5 a0_0 l0_1 a2_2).bind fun t125 => ((ref10_Mean.f kj5 a0_0 l0_1 a2_2).bind fun t126 => (if t125 = t126 then ((window_Right.f a0_0 l0_1).bind fun t127 => ((ref10_Right.f kj5 a0_0 l0_1).bind fun t128 => (if (t127 == t128) = true then ((window_Same.f kj5 a0_0 l0_1 a1_0 l1_1).bind fun t129 => ((ref10_Same.f kj5 a0_0 l0_1 a1_0 l1_1).bind fun t130 => (if (t129 == t130) = true then ((ref10_Same.f kj5 a0_0 y108 a0_0 l0_1).bind fun t131 => (if t131 = true then ((window_New.f).bind fun bt132 => ((ref10_New.f).bind fun bt136 => ((ref10_Same.f kj5 bt132.1 bt132.2 bt136.1 bt136.2).bind fun t140 => (some t140)))) else (some false))) else (some false)))) else (some false)))) else (some false)))) else (some false)) else (some false)))))) else (none)) = some r := by first | (rw [hy105]; with_reducible exact H) | (have H2_ := (Option.bind_some _ _).symm.trans H; rw [hy105]; with_reducible exact H2_) | (have H2_ := (Option.bind_some _ _).symm.trans H; with_reducible exact H2_) | with_reducible exact H | (rw [hy105]; exact H) | exact H
     have Ny105 := Aside0.mk hy105
     clear hy105
     by_cases c21 : y105.length + l0_1.length < 17592186044416
     ·rw [if_pos c21] at H
      have LMc21 := Aside0.mk c21
      clear c21
      obtain ⟨y108, hy108⟩ : ∃ y_ : List Int, y_ = (y105 ++ l0_1) := ⟨_, rfl⟩
      replace H : ((window_Arrive.f kj5 a0_0 y108 a2_0 a2_1).bind fun bt112 => ((ref10_Arrive.f kj5 a0_0 l0_1 a2_0 a2_1).bind fun bt118 => ((ref10_Same.f kj5 bt112.1 bt112.2.1 bt118.1 bt118.2.1).bind fun t124 => (if t124 = true then (if bt112.2.2 = bt118.2.2 then ((window_Mean.f kj5 a0_0 l0_1 a2_2).bind fun t125 => ((ref10_Mean.f kj5 a0_0 l0_1 a2_2).bind fun t126 => (if t125 = t126 then ((window_Right.f a0_0 l0_1).bind fun t127 => ((ref10_Right.f kj5 a0_0 l0_1).bind fun t128 => (if (t127 == t128) = true then ((window_Same.f kj5 a0_0 l0_1 a1_0 l1_1).bind fun t129 => ((ref10_Same.f kj5 a0_0 l0_1 a1_0 l1_1).bind fun t130 => (if (t129 == t130) = true then ((ref10_Same.f kj5 a0_0 y108 a0_0 l0_1).bind fun t131 => (if t131 = true then ((window_New.f).bind fun bt132 => ((ref10_New.f).bind fun bt136 => ((ref10_Same.f kj5 bt132.1 bt132.2 bt136.1 bt136.2).bind fun t140 => (some t140)))) else (some false))) else (some false)))) else (some false)))) else (some false)))) else (some false)) else (some false))))) = some r := by first | (rw [hy108]; with_reducible exact H) | (have H2_ := (Option.bind_some _ _).symm.trans H; rw [hy108]; with_reducible exact H2_) | (have H2_ := (Option.bind_some _ _).symm.trans H; with_reducible exact H2_) | with_reducible exact H | (rw [hy108]; exact H) | exact H
      have Ny108 := Aside0.mk hy108
      clear hy108
      replace H := ob_ H
      obtain ⟨⟨t112, t113, t116⟩, A220, H⟩ := H
      replace H : ((ref10_Arrive.f kj5 a0_0 l0_1 a2_0 a2_1).bind fun bt118 => ((ref10_Same.f kj5 t112 t113 bt118.1 bt118.2.1).bind fun t124 => (if t124 = true then (if t116 = bt118.2.2 then ((window_Mean.f kj5 a0_0 l0_1 a2_2).bind fun t125 => ((ref10_Mean.f kj5 a0_0 l0_1 a2_2).bind fun t126 => (if t125 = t126 then ((window_Right.f a0_0 l0_1).bind fun t127 => ((ref10_Right.f kj5 a0_0 l0_1).bind fun t128 => (if (t127 == t128) = true then ((window_Same.f kj5 a0_0 l0_1 a1_0 l1_1).bind fun t129 => ((ref10_Same.f kj5 a0_0 l0_1 a1_0 l1_1).bind fun t130 => (if (t129 == t130) = true then ((ref10_Same.f kj5 a0_0 y108 a0_0 l0_1).bind fun t131 => (if t131 = true then ((window_New.f).bind fun bt132 => ((ref10_New.f).bind fun bt136 => ((ref10_Same.f kj5 bt132.1 bt132.2 bt136.1 bt136.2).bind fun t140 => (some t140)))) else (some false))) else (some false)))) else (some false)))) else (some false)))) else (some false)) else (some false)))) = some r := H
      have A22 := Aside0.mk A220
      clear A220
      replace H := ob_ H
      obtain ⟨⟨t118, t119, t122⟩, A230, H⟩ := H
      replace H : ((ref10_Same.f kj5 t112 t113 t118 t119).bind fun t124 => (if t124 = true then (if t116 = t122 then ((window_Mean.f kj5 a0_0 l0_1 a2_2).bind fun t125 => ((ref10_Mean.f kj5 a0_0 l0_1 a2_2).bind fun t126 => (if t125 = t126 then ((window_Right.f a0_0 l0_1).bind fun t127 => ((ref10_Right.f kj5 a0_0 l0_1).bind fun t128 => (if (t127 == t128) = true then ((window_Same.f kj5 a0_0 l0_1 a1_0 l1_1).bind fun t129 => ((ref10_Same.f kj5 a0_0 l0_1 a1_0 l1_1).bind fun t130 => (if (t129 == t130) = true then ((ref10_Same.f kj5 a0_0 y108 a0_0 l0_1).bind fun t131 => (if t131 = true then ((window_New.f).bind fun bt132 => ((ref10_New.f).bind fun bt136 => ((ref10_Same.f kj5 bt132.1 bt132.2 bt136.1 bt136.2).bind fun t140 => (some t140)))) else (some false))) else (some false)))) else (some false)))) else (some false)))) else (some false)) else (some false))) = some r := H
      have A23 := Aside0.mk A230
      clear A230
      replace H := ob_ H
      obtain ⟨t124, A240, H⟩ := H
      replace H : (if t124 = true then (if t116 = t122 then ((window_Mean.f kj5 a0_0 l0_1 a2_2).bind fun t125 => ((ref10_Mean.f kj5 a0_0 l0_1 a2_2).bind fun t126 => (if t125 = t126 then ((window_Right.f a0_0 l0_1).bind fun t127 => ((ref10_Right.f kj5 a0_0 l0_1).bind fun t128 => (if (t127 == t128) = true then ((window_Same.f kj5 a0_0 l0_1 a1_0 l1_1).bind fun t129 => ((ref10_Same.f kj5 a0_0 l0_1 a1_0 l1_1).bind fun t130 => (if (t129 == t130) = true then ((ref10_Same.f kj5 a0_0 y108 a0_0 l0_1).bind fun t131 => (if t131 = true then ((window_New.f).bind fun bt132 => ((ref10_New.f).bind fun bt136 => ((ref10_Same.f kj5 bt132.1 bt132.2 bt136.1 bt136.2).bind fun t140 => (some t140)))) else (some false))) else (some false)))) else (some false)))) else (some false)))) else (some false)) else (some false)) = some r := H
      have A24 := Aside0.mk A240
      clear A240
      by_cases c25 : t124 = true
      ·subst c25
       have H1 : (if t116 = t122 then ((window_Mean.f kj5 a0_0 l0_1 a2_2).bind fun t125 => ((ref10_Mean.f kj5 a0_0 l0_1 a2_2).bind fun t126 => (if t125 = t126 then ((window_Right.f a0_0 l0_1).bind fun t127 => ((ref10_Right.f kj5 a0_0 l0_1).bind fun t128 => (if (t127 == t128) = true then ((window_Same.f kj5 a0_0 l0_1 a1_0 l1_1).bind fun t129 => ((ref10_Same.f kj5 a0_0 l0_1 a1_0 l1_1).bind fun t130 => (if (t129 == t130) = true then ((ref10_Same.f kj5 a0_0 y108 a0_0 l0_1).bind fun t131 => (if t131 = true then ((window_New.f).bind fun bt132 => ((ref10_New.f).bind fun bt136 => ((ref10_Same.f kj5 bt132.1 bt132.2 bt136.1 bt136.2).bind fun t140 => (some t140)))) else (some false))) else (some false)))) else (some false)))) else (some false)))) else (some false)) = some r := by rw [if_pos rfl] at H; exact H
       clear H
       have H := H1
       clear H1
       by_cases c26 : t116 = t122
       ·rw [if_pos c26] at H
        have c26b0 : (t116 == t122) = true := beq_iff_eq.mpr c26
        have c26b1 : (t116 != t122) = false := bne_eq_false_iff_eq.mpr c26
        clear c26
        replace H := ob_ H
        obtain ⟨t125, A270, H⟩ := H
        replace H : ((ref10_Mean.f kj5 a0_0 l0_1 a2_2).bind fun t126 => (if t125 = t126 then ((window_Right.f a0_0 l0_1).bind fun t127 => ((ref10_Right.f kj5 a0_0 l0_1).bind fun t128 => (if (t127 == t128) = true then ((window_Same.f kj5 a0_0 l0_1 a1_0 l1_1).bind fun t129 => ((ref10_Same.f kj5 a0_0 l0_1 a1_0 l1_1).bind fun t130 => (if (t129 == t130) = true then ((ref10_Same.f kj5 a0_0 y108 a0_0 l0_1).bind fun t131 => (if t131 = true then ((window_New.f).bind fun bt132 => ((ref10_New.f).bind fun bt136 => ((ref10_Same.f kj5 bt132.1 bt132.2 bt136.1 bt136.2).bind fun t140 => (some t140)))) else (some false))) else (some false)))) else (some false)))) else (some false))) = some r := H
        have A27 := Aside0.mk A270
        clear A270
        replace H := ob_ H
        obtain ⟨t126, A280, H⟩ := H
        replace H : (if t125 = t126 then ((window_Right.f a0_0 l0_1).bind fun t127 => ((ref10_Right.f kj5 a0_0 l0_1).bind fun t128 => (if (t127 == t128) = true then ((window_Same.f kj5 a0_0 l0_1 a1_0 l1_1).bind fun t129 => ((ref10_Same.f kj5 a0_0 l0_1 a1_0 l1_1).bind fun t130 => (if (t129 == t130) = true then ((ref10_Same.f kj5 a0_0 y108 a0_0 l0_1).bind fun t131 => (if t131 = true then ((window_New.f).bind fun bt132 => ((ref10_New.f).bind fun bt136 => ((ref10_Same.f kj5 bt132.1 bt132.2 bt136.1 bt136.2).bind fun t140 => (some t140)))) else (some false))) else (some false)))) else (some false)))) else (some false)) = some r := H
        have A28 := Aside0.mk A280
        clear A280
        by_cases c29 : t125 = t126
        ·rw [if_pos c29] at H
         have c29b0 : (t125 == t126) = true := beq_iff_eq.mpr c29
         have c29b1 : (t125 != t126) = false := bne_eq_false_iff_eq.mpr c29
         clear c29
         replace H := ob_ H
         obtain ⟨t127, A300, H⟩ := H
         replace H : ((ref10_Right.f kj5 a0_0 l0_1).bind fun t128 => (if (t127 == t128) = true then ((window_Same.f kj5 a0_0 l0_1 a1_0 l1_1).bind fun t129 => ((ref10_Same.f kj5 a0_0 l0_1 a1_0 l1_1).bind fun t130 => (if (t129 == t130) = true then ((ref10_Same.f kj5 a0_0 y108 a0_0 l0_1).bind fun t131 => (if t131 = true then ((window_New.f).bind fun bt132 => ((ref10_New.f).bind fun bt136 => ((ref10_Same.f kj5 bt132.1 bt132.2 bt136.1 bt136.2).bind fun t140 => (some t140)))) else (some false))) else (some false)))) else (some false))) = some r := H
         have A30 := Aside0.mk A300
         clear A300
         replace H := ob_ H
         obtain ⟨t128, A310, H⟩ := H
         replace H : (if (t127 == t128) = true then ((window_Same.f kj5 a0_0 l0_1 a1_0 l1_1).bind fun t129 => ((ref10_Same.f kj5 a0_0 l0_1 a1_0 l1_1).bind fun t130 => (if (t129 == t130) = true then ((ref10_Same.f kj5 a0_0 y108 a0_0 l0_1).bind fun t131 => (if t131 = true then ((window_New.f).bind fun bt132 => ((ref10_New.f).bind fun bt136 => ((ref10_Same.f kj5 bt132.1 bt132.2 bt136.1 bt136.2).bind fun t140 => (some t140)))) else (some false))) else (some false)))) else (some false)) = some r := H
         have A31 := Aside0.mk A310
         clear A310
         by_cases c32 : (t127 == t128) = true
         ·rw [if_pos c32] at H
          have c32b0 : (t127 == t128) = true := c32
          (try (have c32b1 : decide (t127 = t128) = true := by simpa using c32))
          (try (have c32b2 : (t127 == t128) = true := by simpa using c32))
          clear c32
          replace H := ob_ H
          obtain ⟨t129, A330, H⟩ := H
          replace H : ((ref10_Same.f kj5 a0_0 l0_1 a1_0 l1_1).bind fun t130 => (if (t129 == t130) = true then ((ref10_Same.f kj5 a0_0 y108 a0_0 l0_1).bind fun t131 => (if t131 = true then ((window_New.f).bind fun bt132 => ((ref10_New.f).bind fun bt136 => ((ref10_Same.f kj5 bt132.1 bt132.2 bt136.1 bt136.2).bind fun t140 => (some t140)))) else (some false))) else (some false))) = some r := H
          have A33 := Aside0.mk A330
          clear A330
          replace H := ob_ H
          obtain ⟨t130, A340, H⟩ := H
          replace H : (if (t129 == t130) = true then ((ref10_Same.f kj5 a0_0 y108 a0_0 l0_1).bind fun t131 => (if t131 = true then ((window_New.f).bind fun bt132 => ((ref10_New.f).bind fun bt136 => ((ref10_Same.f kj5 bt132.1 bt132.2 bt136.1 bt136.2).bind fun t140 => (some t140)))) else (some false))) else (some false)) = some r := H
          have A34 := Aside0.mk A340
          clear A340
          by_cases c35 : (t129 == t130) = true
          ·rw [if_pos c35] at H
           have c35b0 : (t129 == t130) = true := c35
           (try (have c35b1 : decide (t129 = t130) = true := by simpa using c35))
           (try (have c35b2 : (t129 == t130) = true := by simpa using c35))
           clear c35
           replace H := ob_ H
           obtain ⟨t131, A360, H⟩ := H
           replace H : (if t131 = true then ((window_New.f).bind fun bt132 => ((ref10_New.f).bind fun bt136 => ((ref10_Same.f kj5 bt132.1 bt132.2 bt136.1 bt136.2).bind fun t140 => (some t140)))) else (some false)) = some r := H
           have A36 := Aside0.mk A360
           clear A360
           by_cases c37 : t131 = true
           ·subst c37
            have H1 : ((window_New.f).bind fun bt132 => ((ref10_New.f).bind fun bt136 => ((ref10_Same.f kj5 bt132.1 bt132.2 bt136.1 bt136.2).bind fun t140 => (some t140)))) = some r := by rw [if_pos rfl] at H; exact H
            clear H
            have H := H1
            clear H1
            replace H := ob_ H
            obtain ⟨⟨t132, t133⟩, A380, H⟩ := H
            replace H : ((ref10_New.f).bind fun bt136 => ((ref10_Same.f kj5 t132 t133 bt136.1 bt136.2).bind fun t140 => (some t140))) = some r := H
            have A38 := Aside0.mk A380
            clear A380
            replace H := ob_ H
            obtain ⟨⟨t136, t137⟩, A390, H⟩ := H
            replace H : ((ref10_Same.f kj5 t132 t133 t136 t137).bind fun t140 => (some t140)) = some r := H
            have A39 := Aside0.mk A390
            clear A390
            replace H := ob_ H
            obtain ⟨t140, A400, H⟩ := H
            replace H : (some t140) = some r := H
            have A40 := Aside0.mk A400
            clear A400
            obtain rfl := Option.some.inj H
            try go_wp2
            have n0_ := Aside0.mk (qe_ BK101.out)
            have n1_ := Aside0.mk (qe_ BK102.out)
            have n2_ := Aside0.mk (qe_ BK103.out)
            have n3_ := Aside0.mk (qg_ HB.out)
            clear BK101
            clear BK102
            clear BK103
            clear HB
            have BK101 := n0_
            have BK102 := n1_
            have BK103 := n2_
            have HB := n3_
            clear n0_ n1_ n2_ n3_
            refine start_ (n := 9) (S := fun w' => w'.cell? ⟨gb101, 0, none⟩ = some (.int .i64 a0_0) ∧ w'.cell? ⟨gb101, 1, none⟩ = some (.slice A0_1 l0_1.length c0_1)) (ds := []) #[false,false,false,false,false,false,false,false,false] (by kernel_rfl) rfl rfl ⟨(qh_ BK101.out 0).trans rfl, (qh_ BK101.out 1).trans rfl⟩ (fun hHeld => ?_); refine with_tabW law10_WindowArrives.tab5 law10_WindowArrives.bits5 (fun HT_ HW_ => ?_)
            generalize wc.drew = w41 at BK101 BK102 BK103 HB hHeld ⊢
            refine pure_ (i := 0) (N := some 24) (v := ?_) (a' := ?_) #[true,false,false,false,false,false,false,false,false] rfl rfl (any_of HT_.out (by kernel_rfl)) (fun _ _ _ h => h) (Or.inl ⟨by rfl, ?_⟩) ?_ ?_
            rotate_left
            ·intro w'
             go_simp
             with_reducible rfl
            rotate_left
            ·simp only [Act.put, sa_, sb_, sc_, i64_w, i32_w]
             rfl
            refine pure_ (i := 3) (N := some 27) (v := ?_) (a' := ?_) #[true,false,false,true,false,false,false,false,false] rfl rfl (any_of HT_.out (by kernel_rfl)) (fun _ _ _ h => h) (Or.inl ⟨by rfl, ?_⟩) ?_ ?_
            rotate_left
            ·intro w'
             go_simp
             with_reducible rfl
            rotate_left
            ·simp only [Act.put, sa_, sb_, sc_, i64_w, i32_w]
             rfl
            refine take_ (i := 1) (N := some 25) (v := ?_) (a' := ?_) #[true,true,false,true,false,false,false,false,false] rfl rfl (take_ofW HT_.out HW_.out (by kernel_rfl)) (fun _ _ _ h => h) (Or.inl ⟨by rfl, ?_⟩) hHeld ?_ ?_
            rotate_left
            ·rintro w' ⟨s0, s1⟩
             go_simp
             with_reducible rfl
            rotate_left
            ·simp only [Act.put, sa_, sb_, sc_, i64_w, i32_w]
             rfl
            refine take_ (i := 4) (N := some 28) (v := ?_) (a' := ?_) #[true,true,false,true,true,false,false,false,false] rfl rfl (take_ofW HT_.out HW_.out (by kernel_rfl)) (fun _ _ _ h => h) (Or.inl ⟨by rfl, ?_⟩) hHeld ?_ ?_
            rotate_left
            ·rintro w' ⟨s0, s1⟩
             go_simp
             with_reducible rfl
            rotate_left
            ·simp only [Act.put, sa_, sb_, sc_, i64_w, i32_w]
             rfl
            refine join_ (σ := Value × Value × Nat) 1 #[true,true,true,true,true,true,true,true,false] (fun s_ => [(26, s_.1), (29, s_.2.1), (7, .pointer (some ⟨s_.2.2, 0, none⟩)), (30, .agg #[.int .i64 a0_0, s_.2.1])]) (fun s_ w' => (w'.cell? ⟨gb101, 0, none⟩ = some (.int .i64 a0_0) ∧ w'.cell? ⟨gb101, 1, none⟩ = some (.slice A0_1 l0_1.length c0_1)) ∧ (Kd.R (Kd.int .i64) 3 w' w.heap.size (fun _ => True) s_.2.1 y108) ∧ (w'.heap[gb101]? = some (.cells #[.int .i64 a0_0, .slice A0_1 l0_1.length c0_1] 27 (0, 0))) ∧ (w'.heap[gb102]? = some (.cells #[.int .i64 a1_0, .slice A1_1 l1_1.length c1_1] 27 (0, 0))) ∧ (w'.heap[gb103]? = some (.cells #[.int .i64 a2_0, .int .i64 a2_1, .int .i64 a2_2] 39 (0, 0))) ∧ (w'.heap[s_.2.2]? = some (.cells #[.int .i64 0, .slice none 0 0] 27 (0, 0))) ∧ (w.heap.size ≤ s_.2.2) ∧ (w.heap.size ≤ s_.2.2) ∧ (gb101 ≠ s_.2.2) ∧ (s_.2.2 ≠ gb101) ∧ (gb102 ≠ s_.2.2) ∧ (s_.2.2 ≠ gb102) ∧ (gb103 ≠ s_.2.2) ∧ (s_.2.2 ≠ gb103) ∧ (Below w.heap.size w w')) ?_ ?_
            rotate_left
            ·intro hCont
             refine two_ (i := 2) (j := 7) (Ni := some 26) (Nj := some 7) #[true,true,true,true,true,false,false,false,false] #[true,true,false,true,true,false,false,true,false] rfl rfl rfl rfl (two_of HT_.out (by kernel_rfl)) (by decide) (by decide) (fun K hK => ?_) (fun K hK => ?_)
             ·skip
              refine Kd.R_lit_step (Kd.int .i64) _ 3 ?hg (N := 26) ?hd (xs := ([] : List Int)) (inner := []) (ok := fun _ => True) (okp := fun _ => True) ?hr ?hp (fun _ hk => hk) trivial (Below.refl _ _) (Nat.le_refl _) (by simp) ?_; (case hd => rfl); (case hg => rfl); (case hr => first | (go_simp; done) | (go_simp; rfl)); (case hp => exact (Reps.none _ _))
              intro v106 w42 ho43 hb hg_ hnew_
              clear hg_ hnew_
              (first | rw [← Ny105.out] at ho43 | (simp only [Int.reduceToNat] at ho43; rw [← Ny105.out] at ho43))
              have n0_ := Aside0.mk (Kd.R_lower ho43 (qk_ (by repeat (first | (with_reducible first | exact HB.out | apply qf_ | apply qa_ | apply qg_ | refine qb_ ?_ GE101.out | refine qb_ ?_ GE102.out | refine qb_ ?_ GE103.out) | exact HB.out))))
              have n1_ := Aside0.mk (qj_ (g := gb101) (o := .cells #[.int .i64 a0_0, .slice A0_1 l0_1.length c0_1] 27 (0, 0)) (by (with_reducible repeat (first | refine qc_ ?_ _ | refine qe_ ?_ | refine qd_ ?_ _)); exact BK101.out) hb)
              have n2_ := Aside0.mk (qj_ (g := gb102) (o := .cells #[.int .i64 a1_0, .slice A1_1 l1_1.length c1_1] 27 (0, 0)) (by (with_reducible repeat (first | refine qc_ ?_ _ | refine qe_ ?_ | refine qd_ ?_ _)); exact BK102.out) hb)
              have n3_ := Aside0.mk (qj_ (g := gb103) (o := .cells #[.int .i64 a2_0, .int .i64 a2_1, .int .i64 a2_2] 39 (0, 0)) (by (with_reducible repeat (first | refine qc_ ?_ _ | refine qe_ ?_ | refine qd_ ?_ _)); exact BK103.out) hb)
              have n4_ := Aside0.mk (ql_ (by repeat (first | (with_reducible first | exact HB.out | apply qf_ | apply qa_ | apply qg_ | refine qb_ ?_ GE101.out | refine qb_ ?_ GE102.out | refine qb_ ?_ GE103.out) | exact HB.out)) hb)
              clear BK101
              clear BK102
              clear BK103
              clear HB
              have HO107 := n0_
              have BK101 := n1_
              have BK102 := n2_
              have BK103 := n3_
              have HB := n4_
              clear n0_ n1_ n2_ n3_ n4_
              clear hb ho43
              refine hK.out _ _ ⟨(qh_ BK101.out 0).trans rfl, (qh_ BK101.out 1).trans rfl⟩ (fun hHeld => ?_)
              clear hK K
              refine norm_ (a' := ?_) ?_ ?_
              rotate_left
              ·show Act.put _ (some 26) _ = _
               simp only [Act.put, sa_, sb_, sc_, i64_w, i32_w]
               rfl
              refine two_ (i := 5) (j := 7) (Ni := some 29) (Nj := some 7) #[true,true,true,true,true,true,false,false,false] #[true,true,true,true,true,false,false,true,false] rfl rfl rfl rfl (two_of HT_.out (by kernel_rfl)) (by decide) (by decide) (fun K hK => ?_) (fun K hK => ?_)
              ·skip
               refine Kd.R_append_rows_step (Kd.int .i64) (w0 := w) w.heap.size (by rfl) (.tmp 26) (.tmp 28) 25 3 (.int .i64 0) 8 rfl Try.underlying25 info3 rfl (by decide) (by omega) v106 y105 l0_1 _ _ _ (fun _ => True) (fun _ => False) rfl rfl ?aO ?aR (fun _ _ h => h) (fun _ h => h.elim) ?aF ?aB ?aS ?aL ?_
               (case aR => repeat (first | exact (Kd.C_below HR0_1.out HB.out) | (with_reducible refine Kd.C_alloc ?_ _) | (with_reducible refine Kd.C_drewN ?_ _) | (with_reducible refine Kd.C_drew ?_)))
               (case aB => exact (by repeat (first | (with_reducible first | exact HB.out | apply qf_ | apply qa_ | apply qg_ | refine qb_ ?_ GE101.out | refine qb_ ?_ GE102.out | refine qb_ ?_ GE103.out) | exact HB.out)))
               (case aF => exact (fun _ _ => trivial))
               (case aO => exact (by (with_reducible repeat (first | apply Kd.R_alloc | apply Kd.R_drewN | apply Kd.R_drew)); exact HO107.out))
               (case aS => exact (qk_ (by repeat (first | (with_reducible first | exact HB.out | apply qf_ | apply qa_ | apply qg_ | refine qb_ ?_ GE101.out | refine qb_ ?_ GE102.out | refine qb_ ?_ GE103.out) | exact HB.out))))
               (case aL => have := LMc21.out; omega)
               intro v109 w44 ho hb hg hat
               rw [← Ny108.out] at ho
               have n0_ := Aside0.mk (blk_grown (g := gb101) (o := .cells #[.int .i64 a0_0, .slice A0_1 l0_1.length c0_1] 27 (0, 0)) (by (with_reducible repeat (first | refine qc_ ?_ _ | refine qe_ ?_ | refine qd_ ?_ _)); exact BK101.out) hg (Kd.R_ne HO107.out BK101.out (by decide)))
               have n1_ := Aside0.mk (blk_grown (g := gb102) (o := .cells #[.int .i64 a1_0, .slice A1_1 l1_1.length c1_1] 27 (0, 0)) (by (with_reducible repeat (first | refine qc_ ?_ _ | refine qe_ ?_ | refine qd_ ?_ _)); exact BK102.out) hg (Kd.R_ne HO107.out BK102.out (by decide)))
               have n2_ := Aside0.mk (blk_grown (g := gb103) (o := .cells #[.int .i64 a2_0, .int .i64 a2_1, .int .i64 a2_2] 39 (0, 0)) (by (with_reducible repeat (first | refine qc_ ?_ _ | refine qe_ ?_ | refine qd_ ?_ _)); exact BK103.out) hg (Kd.R_ne HO107.out BK103.out (by decide)))
               have n3_ := Aside0.mk (hb)
               have n4_ := Aside0.mk (ho)
               clear BK101
               clear BK102
               clear BK103
               clear HB
               clear HO107
               have BK101 := n0_
               have BK102 := n1_
               have BK103 := n2_
               have HB := n3_
               have HO110 := n4_
               clear n0_ n1_ n2_ n3_ n4_
               clear ho hb hg hat
               obtain ⟨Ao45, co45, eo45⟩ := Kd.R_slice HO110.out
               (first | subst eo45 | (injection eo45 with f1_ f2_ f3_; have f4_ := f1_.symm; have f5_ := f3_.symm; clear f1_ f2_ f3_; subst f4_; subst f5_))
               refine hK.out _ _ ⟨(qh_ BK101.out 0).trans rfl, (qh_ BK101.out 1).trans rfl⟩ (fun hHeld => ?_)
               clear hK K
               refine norm_ (a' := ?_) ?_ ?_
               rotate_left
               ·show Act.put _ (some 29) _ = _
                simp only [Act.put, sa_, sb_, sc_, i64_w, i32_w]
                rfl
               refine pure_ (i := 6) (N := some 30) (v := ?_) (a' := ?_) #[true,true,true,true,true,true,true,false,false] rfl rfl (any_of HT_.out (by kernel_rfl)) (fun _ _ _ h => h) (Or.inl ⟨by rfl, ?_⟩) ?_ ?_
               rotate_left
               ·intro w'
                go_simp
                with_reducible rfl
               rotate_left
               ·simp only [Act.put, sa_, sb_, sc_, i64_w, i32_w]
                rfl
               refine one_ (i := 7) (N := some 7) #[true,true,true,true,true,true,true,true,false] rfl rfl (one_of HT_.out (by kernel_rfl)) (by decide) (fun K hK => ?_)
               refine box_step ?hg (N := 7) ?hd (cs := #[.int .i64 0, .slice none 0 0]) (t := 27) ?hr ?_; (case hd => rfl); (case hg => rfl); (case hr => first | (go_simp; done) | (go_simp; rfl))
               intro gb111 hg w46 hbox hb
               have n0_ := Aside0.mk (Kd.R_below (by (with_reducible repeat (first | apply Kd.R_alloc | apply Kd.R_drewN | apply Kd.R_drew)); exact HO110.out) hb)
               have n1_ := Aside0.mk (qj_ (g := gb101) (o := .cells #[.int .i64 a0_0, .slice A0_1 l0_1.length c0_1] 27 (0, 0)) (by (with_reducible repeat (first | refine qc_ ?_ _ | refine qe_ ?_ | refine qd_ ?_ _)); exact BK101.out) hb)
               have n2_ := Aside0.mk (qj_ (g := gb102) (o := .cells #[.int .i64 a1_0, .slice A1_1 l1_1.length c1_1] 27 (0, 0)) (by (with_reducible repeat (first | refine qc_ ?_ _ | refine qe_ ?_ | refine qd_ ?_ _)); exact BK102.out) hb)
               have n3_ := Aside0.mk (qj_ (g := gb103) (o := .cells #[.int .i64 a2_0, .int .i64 a2_1, .int .i64 a2_2] 39 (0, 0)) (by (with_reducible repeat (first | refine qc_ ?_ _ | refine qe_ ?_ | refine qd_ ?_ _)); exact BK103.out) hb)
               have n4_ := Aside0.mk (ql_ (by repeat (first | (with_reducible first | exact HB.out | apply qf_ | apply qa_ | apply qg_ | refine qb_ ?_ GE101.out | refine qb_ ?_ GE102.out | refine qb_ ?_ GE103.out) | exact HB.out)) hb)
               have n5_ := Aside0.mk (hbox)
               have n6_ := Aside0.mk ((by rw [hg]; exact (qk_ (by repeat (first | (with_reducible first | exact HB.out | apply qf_ | apply qa_ | apply qg_ | refine qb_ ?_ GE101.out | refine qb_ ?_ GE102.out | refine qb_ ?_ GE103.out) | exact HB.out))) : w.heap.size ≤ gb111))
               have n7_ := Aside0.mk ((by rw [hg]; exact (qk_ (by repeat (first | (with_reducible first | exact HB.out | apply qf_ | apply qa_ | apply qg_ | refine qb_ ?_ GE101.out | refine qb_ ?_ GE102.out | refine qb_ ?_ GE103.out) | exact HB.out))) : w.heap.size ≤ gb111))
               have n8_ := Aside0.mk ((by rw [hg]; exact Nat.ne_of_lt (blk_lt (g := gb101) (o := .cells #[.int .i64 a0_0, .slice A0_1 l0_1.length c0_1] 27 (0, 0)) (by (with_reducible repeat (first | refine qc_ ?_ _ | refine qe_ ?_ | refine qd_ ?_ _)); exact BK101.out)) : gb101 ≠ gb111))
               have n9_ := Aside0.mk ((by rw [hg]; exact Nat.ne_of_gt (blk_lt (g := gb101) (o := .cells #[.int .i64 a0_0, .slice A0_1 l0_1.length c0_1] 27 (0, 0)) (by (with_reducible repeat (first | refine qc_ ?_ _ | refine qe_ ?_ | refine qd_ ?_ _)); exact BK101.out)) : gb111 ≠ gb101))
               have n10_ := Aside0.mk ((by rw [hg]; exact Nat.ne_of_lt (blk_lt (g := gb102) (o := .cells #[.int .i64 a1_0, .slice A1_1 l1_1.length c1_1] 27 (0, 0)) (by (with_reducible repeat (first | refine qc_ ?_ _ | refine qe_ ?_ | refine qd_ ?_ _)); exact BK102.out)) : gb102 ≠ gb111))
               have n11_ := Aside0.mk ((by rw [hg]; exact Nat.ne_of_gt (blk_lt (g := gb102) (o := .cells #[.int .i64 a1_0, .slice A1_1 l1_1.length c1_1] 27 (0, 0)) (by (with_reducible repeat (first | refine qc_ ?_ _ | refine qe_ ?_ | refine qd_ ?_ _)); exact BK102.out)) : gb111 ≠ gb102))
               have n12_ := Aside0.mk ((by rw [hg]; exact Nat.ne_of_lt (blk_lt (g := gb103) (o := .cells #[.int .i64 a2_0, .int .i64 a2_1, .int .i64 a2_2] 39 (0, 0)) (by (with_reducible repeat (first | refine qc_ ?_ _ | refine qe_ ?_ | refine qd_ ?_ _)); exact BK103.out)) : gb103 ≠ gb111))
               have n13_ := Aside0.mk ((by rw [hg]; exact Nat.ne_of_gt (blk_lt (g := gb103) (o := .cells #[.int .i64 a2_0, .int .i64 a2_1, .int .i64 a2_2] 39 (0, 0)) (by (with_reducible repeat (first | refine qc_ ?_ _ | refine qe_ ?_ | refine qd_ ?_ _)); exact BK103.out)) : gb111 ≠ gb103))
               clear HO110
               clear BK101
               clear BK102
               clear BK103
               clear HB
               have HO110 := n0_
               have BK101 := n1_
               have BK102 := n2_
               have BK103 := n3_
               have HB := n4_
               have BK111 := n5_
               have GW111 := n6_
               have GE111 := n7_
               have NB101_111 := n8_
               have NB111_101 := n9_
               have NB102_111 := n10_
               have NB111_102 := n11_
               have NB103_111 := n12_
               have NB111_103 := n13_
               clear n0_ n1_ n2_ n3_ n4_ n5_ n6_ n7_ n8_ n9_ n10_ n11_ n12_ n13_
               clear hb hbox hg
               refine hK.out _ _ ⟨(qh_ BK101.out 0).trans rfl, (qh_ BK101.out 1).trans rfl⟩ (fun hHeld => ?_)
               clear hK K
               refine norm_ (a' := ?_) ?_ ?_
               rotate_left
               ·show Act.put _ (some 7) _ = _
                simp only [Act.put, sa_, sb_, sc_, i64_w, i32_w]
                rfl
               exact norm_ (by simp only [putAll, Act.put, sa_, sb_, sc_]) (hCont (v106, .slice Ao45 y108.length co45, gb111) _ ⟨hHeld, (by (with_reducible repeat (first | apply Kd.R_alloc | apply Kd.R_drewN | apply Kd.R_drew)); exact HO110.out), (by (with_reducible repeat (first | refine qc_ ?_ _ | refine qe_ ?_ | refine qd_ ?_ _)); exact BK101.out), (by (with_reducible repeat (first | refine qc_ ?_ _ | refine qe_ ?_ | refine qd_ ?_ _)); exact BK102.out), (by (with_reducible repeat (first | refine qc_ ?_ _ | refine qe_ ?_ | refine qd_ ?_ _)); exact BK103.out), (by (with_reducible repeat (first | refine qc_ ?_ _ | refine qe_ ?_ | refine qd_ ?_ _)); exact BK111.out), GW111.out, GE111.out, NB101_111.out, NB111_101.out, NB102_111.out, NB111_102.out, NB103_111.out, NB111_103.out, (by repeat (first | (with_reducible first | exact HB.out | apply qf_ | apply qa_ | apply qg_ | refine qb_ ?_ GE101.out | refine qb_ ?_ GE102.out | refine qb_ ?_ GE103.out | refine qb_ ?_ GE111.out) | exact HB.out))⟩)
              ·skip
               refine box_step ?hg (N := 7) ?hd (cs := #[.int .i64 0, .slice none 0 0]) (t := 27) ?hr ?_; (case hd => rfl); (case hg => rfl); (case hr => first | (go_simp; done) | (go_simp; rfl))
               intro gb111 hg w44 hbox hb
               have n0_ := Aside0.mk (Kd.R_below (by (with_reducible repeat (first | apply Kd.R_alloc | apply Kd.R_drewN | apply Kd.R_drew)); exact HO107.out) hb)
               have n1_ := Aside0.mk (qj_ (g := gb101) (o := .cells #[.int .i64 a0_0, .slice A0_1 l0_1.length c0_1] 27 (0, 0)) (by (with_reducible repeat (first | refine qc_ ?_ _ | refine qe_ ?_ | refine qd_ ?_ _)); exact BK101.out) hb)
               have n2_ := Aside0.mk (qj_ (g := gb102) (o := .cells #[.int .i64 a1_0, .slice A1_1 l1_1.length c1_1] 27 (0, 0)) (by (with_reducible repeat (first | refine qc_ ?_ _ | refine qe_ ?_ | refine qd_ ?_ _)); exact BK102.out) hb)
               have n3_ := Aside0.mk (qj_ (g := gb103) (o := .cells #[.int .i64 a2_0, .int .i64 a2_1, .int .i64 a2_2] 39 (0, 0)) (by (with_reducible repeat (first | refine qc_ ?_ _ | refine qe_ ?_ | refine qd_ ?_ _)); exact BK103.out) hb)
               have n4_ := Aside0.mk (ql_ (by repeat (first | (with_reducible first | exact HB.out | apply qf_ | apply qa_ | apply qg_ | refine qb_ ?_ GE101.out | refine qb_ ?_ GE102.out | refine qb_ ?_ GE103.out) | exact HB.out)) hb)
               have n5_ := Aside0.mk (hbox)
               have n6_ := Aside0.mk ((by rw [hg]; exact (qk_ (by repeat (first | (with_reducible first | exact HB.out | apply qf_ | apply qa_ | apply qg_ | refine qb_ ?_ GE101.out | refine qb_ ?_ GE102.out | refine qb_ ?_ GE103.out) | exact HB.out))) : w.heap.size ≤ gb111))
               have n7_ := Aside0.mk ((by rw [hg]; exact (qk_ (by repeat (first | (with_reducible first | exact HB.out | apply qf_ | apply qa_ | apply qg_ | refine qb_ ?_ GE101.out | refine qb_ ?_ GE102.out | refine qb_ ?_ GE103.out) | exact HB.out))) : w.heap.size ≤ gb111))
               have n8_ := Aside0.mk ((by rw [hg]; exact Nat.ne_of_lt (blk_lt (g := gb101) (o := .cells #[.int .i64 a0_0, .slice A0_1 l0_1.length c0_1] 27 (0, 0)) (by (with_reducible repeat (first | refine qc_ ?_ _ | refine qe_ ?_ | refine qd_ ?_ _)); exact BK101.out)) : gb101 ≠ gb111))
               have n9_ := Aside0.mk ((by rw [hg]; exact Nat.ne_of_gt (blk_lt (g := gb101) (o := .cells #[.int .i64 a0_0, .slice A0_1 l0_1.length c0_1] 27 (0, 0)) (by (with_reducible repeat (first | refine qc_ ?_ _ | refine qe_ ?_ | refine qd_ ?_ _)); exact BK101.out)) : gb111 ≠ gb101))
               have n10_ := Aside0.mk ((by rw [hg]; exact Nat.ne_of_lt (blk_lt (g := gb102) (o := .cells #[.int .i64 a1_0, .slice A1_1 l1_1.length c1_1] 27 (0, 0)) (by (with_reducible repeat (first | refine qc_ ?_ _ | refine qe_ ?_ | refine qd_ ?_ _)); exact BK102.out)) : gb102 ≠ gb111))
               have n11_ := Aside0.mk ((by rw [hg]; exact Nat.ne_of_gt (blk_lt (g := gb102) (o := .cells #[.int .i64 a1_0, .slice A1_1 l1_1.length c1_1] 27 (0, 0)) (by (with_reducible repeat (first | refine qc_ ?_ _ | refine qe_ ?_ | refine qd_ ?_ _)); exact BK102.out)) : gb111 ≠ gb102))
               have n12_ := Aside0.mk ((by rw [hg]; exact Nat.ne_of_lt (blk_lt (g := gb103) (o := .cells #[.int .i64 a2_0, .int .i64 a2_1, .int .i64 a2_2] 39 (0, 0)) (by (with_reducible repeat (first | refine qc_ ?_ _ | refine qe_ ?_ | refine qd_ ?_ _)); exact BK103.out)) : gb103 ≠ gb111))
               have n13_ := Aside0.mk ((by rw [hg]; exact Nat.ne_of_gt (blk_lt (g := gb103) (o := .cells #[.int .i64 a2_0, .int .i64 a2_1, .int .i64 a2_2] 39 (0, 0)) (by (with_reducible repeat (first | refine qc_ ?_ _ | refine qe_ ?_ | refine qd_ ?_ _)); exact BK103.out)) : gb111 ≠ gb103))
               clear HO107
               clear BK101
               clear BK102
               clear BK103
               clear HB
               have HO107 := n0_
               have BK101 := n1_
               have BK102 := n2_
               have BK103 := n3_
               have HB := n4_
               have BK111 := n5_
               have GW111 := n6_
               have GE111 := n7_
               have NB101_111 := n8_
               have NB111_101 := n9_
               have NB102_111 := n10_
               have NB111_102 := n11_
               have NB103_111 := n12_
               have NB111_103 := n13_
               clear n0_ n1_ n2_ n3_ n4_ n5_ n6_ n7_ n8_ n9_ n10_ n11_ n12_ n13_
               clear hb hbox hg
               refine hK.out _ _ ⟨(qh_ BK101.out 0).trans rfl, (qh_ BK101.out 1).trans rfl⟩ (fun hHeld => ?_)
               clear hK K
               refine norm_ (a' := ?_) ?_ ?_
               rotate_left
               ·show Act.put _ (some 7) _ = _
                simp only [Act.put, sa_, sb_, sc_, i64_w, i32_w]
                rfl
               refine one_ (i := 5) (N := some 29) #[true,true,true,true,true,true,false,true,false] rfl rfl (one_of HT_.out (by kernel_rfl)) (by decide) (fun K hK => ?_)
               refine Kd.R_append_rows_step (Kd.int .i64) (w0 := w) w.heap.size (by rfl) (.tmp 26) (.tmp 28) 25 3 (.int .i64 0) 8 rfl Try.underlying25 info3 rfl (by decide) (by omega) v106 y105 l0_1 _ _ _ (fun _ => True) (fun _ => False) rfl rfl ?aO ?aR (fun _ _ h => h) (fun _ h => h.elim) ?aF ?aB ?aS ?aL ?_
               (case aR => repeat (first | exact (Kd.C_below HR0_1.out HB.out) | (with_reducible refine Kd.C_alloc ?_ _) | (with_reducible refine Kd.C_drewN ?_ _) | (with_reducible refine Kd.C_drew ?_)))
               (case aB => exact (by repeat (first | (with_reducible first | exact HB.out | apply qf_ | apply qa_ | apply qg_ | refine qb_ ?_ GE101.out | refine qb_ ?_ GE102.out | refine qb_ ?_ GE103.out | refine qb_ ?_ GE111.out) | exact HB.out)))
               (case aF => exact (fun _ _ => trivial))
               (case aO => exact (by (with_reducible repeat (first | apply Kd.R_alloc | apply Kd.R_drewN | apply Kd.R_drew)); exact HO107.out))
               (case aS => exact (qk_ (by repeat (first | (with_reducible first | exact HB.out | apply qf_ | apply qa_ | apply qg_ | refine qb_ ?_ GE101.out | refine qb_ ?_ GE102.out | refine qb_ ?_ GE103.out | refine qb_ ?_ GE111.out) | exact HB.out))))
               (case aL => have := LMc21.out; omega)
               intro v109 w45 ho hb hg hat
               rw [← Ny108.out] at ho
               have n0_ := Aside0.mk (blk_grown (g := gb101) (o := .cells #[.int .i64 a0_0, .slice A0_1 l0_1.length c0_1] 27 (0, 0)) (by (with_reducible repeat (first | refine qc_ ?_ _ | refine qe_ ?_ | refine qd_ ?_ _)); exact BK101.out) hg (Kd.R_ne HO107.out BK101.out (by decide)))
               have n1_ := Aside0.mk (blk_grown (g := gb102) (o := .cells #[.int .i64 a1_0, .slice A1_1 l1_1.length c1_1] 27 (0, 0)) (by (with_reducible repeat (first | refine qc_ ?_ _ | refine qe_ ?_ | refine qd_ ?_ _)); exact BK102.out) hg (Kd.R_ne HO107.out BK102.out (by decide)))
               have n2_ := Aside0.mk (blk_grown (g := gb103) (o := .cells #[.int .i64 a2_0, .int .i64 a2_1, .int .i64 a2_2] 39 (0, 0)) (by (with_reducible repeat (first | refine qc_ ?_ _ | refine qe_ ?_ | refine qd_ ?_ _)); exact BK103.out) hg (Kd.R_ne HO107.out BK103.out (by decide)))
               have n3_ := Aside0.mk (blk_grown (g := gb111) (o := .cells #[.int .i64 0, .slice none 0 0] 27 (0, 0)) (by (with_reducible repeat (first | refine qc_ ?_ _ | refine qe_ ?_ | refine qd_ ?_ _)); exact BK111.out) hg (Kd.R_ne HO107.out BK111.out (by decide)))
               have n4_ := Aside0.mk (hb)
               have n5_ := Aside0.mk (ho)
               clear BK101
               clear BK102
               clear BK103
               clear BK111
               clear HB
               clear HO107
               have BK101 := n0_
               have BK102 := n1_
               have BK103 := n2_
               have BK111 := n3_
               have HB := n4_
               have HO110 := n5_
               clear n0_ n1_ n2_ n3_ n4_ n5_
               clear ho hb hg hat
               obtain ⟨Ao46, co46, eo46⟩ := Kd.R_slice HO110.out
               (first | subst eo46 | (injection eo46 with f1_ f2_ f3_; have f4_ := f1_.symm; have f5_ := f3_.symm; clear f1_ f2_ f3_; subst f4_; subst f5_))
               refine hK.out _ _ ⟨(qh_ BK101.out 0).trans rfl, (qh_ BK101.out 1).trans rfl⟩ (fun hHeld => ?_)
               clear hK K
               refine norm_ (a' := ?_) ?_ ?_
               rotate_left
               ·show Act.put _ (some 29) _ = _
                simp only [Act.put, sa_, sb_, sc_, i64_w, i32_w]
                rfl
               refine pure_ (i := 6) (N := some 30) (v := ?_) (a' := ?_) #[true,true,true,true,true,true,true,true,false] rfl rfl (any_of HT_.out (by kernel_rfl)) (fun _ _ _ h => h) (Or.inl ⟨by rfl, ?_⟩) ?_ ?_
               rotate_left
               ·intro w'
                go_simp
                with_reducible rfl
               rotate_left
               ·simp only [Act.put, sa_, sb_, sc_, i64_w, i32_w]
                rfl
               exact norm_ (by simp only [putAll, Act.put, sa_, sb_, sc_]) (hCont (v106, .slice Ao46 y108.length co46, gb111) _ ⟨hHeld, (by (with_reducible repeat (first | apply Kd.R_alloc | apply Kd.R_drewN | apply Kd.R_drew)); exact HO110.out), (by (with_reducible repeat (first | refine qc_ ?_ _ | refine qe_ ?_ | refine qd_ ?_ _)); exact BK101.out), (by (with_reducible repeat (first | refine qc_ ?_ _ | refine qe_ ?_ | refine qd_ ?_ _)); exact BK102.out), (by (with_reducible repeat (first | refine qc_ ?_ _ | refine qe_ ?_ | refine qd_ ?_ _)); exact BK103.out), (by (with_reducible repeat (first | refine qc_ ?_ _ | refine qe_ ?_ | refine qd_ ?_ _)); exact BK111.out), GW111.out, GE111.out, NB101_111.out, NB111_101.out, NB102_111.out, NB111_102.out, NB103_111.out, NB111_103.out, (by repeat (first | (with_reducible first | exact HB.out | apply qf_ | apply qa_ | apply qg_ | refine qb_ ?_ GE101.out | refine qb_ ?_ GE102.out | refine qb_ ?_ GE103.out | refine qb_ ?_ GE111.out) | exact HB.out))⟩)
             ·skip
              refine box_step ?hg (N := 7) ?hd (cs := #[.int .i64 0, .slice none 0 0]) (t := 27) ?hr ?_; (case hd => rfl); (case hg => rfl); (case hr => first | (go_simp; done) | (go_simp; rfl))
              intro gb111 hg w42 hbox hb
              have n0_ := Aside0.mk (qj_ (g := gb101) (o := .cells #[.int .i64 a0_0, .slice A0_1 l0_1.length c0_1] 27 (0, 0)) (by (with_reducible repeat (first | refine qc_ ?_ _ | refine qe_ ?_ | refine qd_ ?_ _)); exact BK101.out) hb)
              have n1_ := Aside0.mk (qj_ (g := gb102) (o := .cells #[.int .i64 a1_0, .slice A1_1 l1_1.length c1_1] 27 (0, 0)) (by (with_reducible repeat (first | refine qc_ ?_ _ | refine qe_ ?_ | refine qd_ ?_ _)); exact BK102.out) hb)
              have n2_ := Aside0.mk (qj_ (g := gb103) (o := .cells #[.int .i64 a2_0, .int .i64 a2_1, .int .i64 a2_2] 39 (0, 0)) (by (with_reducible repeat (first | refine qc_ ?_ _ | refine qe_ ?_ | refine qd_ ?_ _)); exact BK103.out) hb)
              have n3_ := Aside0.mk (ql_ (by repeat (first | (with_reducible first | exact HB.out | apply qf_ | apply qa_ | apply qg_ | refine qb_ ?_ GE101.out | refine qb_ ?_ GE102.out | refine qb_ ?_ GE103.out) | exact HB.out)) hb)
              have n4_ := Aside0.mk (hbox)
              have n5_ := Aside0.mk ((by rw [hg]; exact (qk_ (by repeat (first | (with_reducible first | exact HB.out | apply qf_ | apply qa_ | apply qg_ | refine qb_ ?_ GE101.out | refine qb_ ?_ GE102.out | refine qb_ ?_ GE103.out) | exact HB.out))) : w.heap.size ≤ gb111))
              have n6_ := Aside0.mk ((by rw [hg]; exact (qk_ (by repeat (first | (with_reducible first | exact HB.out | apply qf_ | apply qa_ | apply qg_ | refine qb_ ?_ GE101.out | refine qb_ ?_ GE102.out | refine qb_ ?_ GE103.out) | exact HB.out))) : w.heap.size ≤ gb111))
              have n7_ := Aside0.mk ((by rw [hg]; exact Nat.ne_of_lt (blk_lt (g := gb101) (o := .cells #[.int .i64 a0_0, .slice A0_1 l0_1.length c0_1] 27 (0, 0)) (by (with_reducible repeat (first | refine qc_ ?_ _ | refine qe_ ?_ | refine qd_ ?_ _)); exact BK101.out)) : gb101 ≠ gb111))
              have n8_ := Aside0.mk ((by rw [hg]; exact Nat.ne_of_gt (blk_lt (g := gb101) (o := .cells #[.int .i64 a0_0, .slice A0_1 l0_1.length c0_1] 27 (0, 0)) (by (with_reducible repeat (first | refine qc_ ?_ _ | refine qe_ ?_ | refine qd_ ?_ _)); exact BK101.out)) : gb111 ≠ gb101))
              have n9_ := Aside0.mk ((by rw [hg]; exact Nat.ne_of_lt (blk_lt (g := gb102) (o := .cells #[.int .i64 a1_0, .slice A1_1 l1_1.length c1_1] 27 (0, 0)) (by (with_reducible repeat (first | refine qc_ ?_ _ | refine qe_ ?_ | refine qd_ ?_ _)); exact BK102.out)) : gb102 ≠ gb111))
              have n10_ := Aside0.mk ((by rw [hg]; exact Nat.ne_of_gt (blk_lt (g := gb102) (o := .cells #[.int .i64 a1_0, .slice A1_1 l1_1.length c1_1] 27 (0, 0)) (by (with_reducible repeat (first | refine qc_ ?_ _ | refine qe_ ?_ | refine qd_ ?_ _)); exact BK102.out)) : gb111 ≠ gb102))
              have n11_ := Aside0.mk ((by rw [hg]; exact Nat.ne_of_lt (blk_lt (g := gb103) (o := .cells #[.int .i64 a2_0, .int .i64 a2_1, .int .i64 a2_2] 39 (0, 0)) (by (with_reducible repeat (first | refine qc_ ?_ _ | refine qe_ ?_ | refine qd_ ?_ _)); exact BK103.out)) : gb103 ≠ gb111))
              have n12_ := Aside0.mk ((by rw [hg]; exact Nat.ne_of_gt (blk_lt (g := gb103) (o := .cells #[.int .i64 a2_0, .int .i64 a2_1, .int .i64 a2_2] 39 (0, 0)) (by (with_reducible repeat (first | refine qc_ ?_ _ | refine qe_ ?_ | refine qd_ ?_ _)); exact BK103.out)) : gb111 ≠ gb103))
              clear BK101
              clear BK102
              clear BK103
              clear HB
              have BK101 := n0_
              have BK102 := n1_
              have BK103 := n2_
              have HB := n3_
              have BK111 := n4_
              have GW111 := n5_
              have GE111 := n6_
              have NB101_111 := n7_
              have NB111_101 := n8_
              have NB102_111 := n9_
              have NB111_102 := n10_
              have NB103_111 := n11_
              have NB111_103 := n12_
              clear n0_ n1_ n2_ n3_ n4_ n5_ n6_ n7_ n8_ n9_ n10_ n11_ n12_
              clear hb hbox hg
              refine hK.out _ _ ⟨(qh_ BK101.out 0).trans rfl, (qh_ BK101.out 1).trans rfl⟩ (fun hHeld => ?_)
              clear hK K
              refine norm_ (a' := ?_) ?_ ?_
              rotate_left
              ·show Act.put _ (some 7) _ = _
               simp only [Act.put, sa_, sb_, sc_, i64_w, i32_w]
               rfl
              refine one_ (i := 2) (N := some 26) #[true,true,true,true,true,false,false,true,false] rfl rfl (one_of HT_.out (by kernel_rfl)) (by decide) (fun K hK => ?_)
              refine Kd.R_lit_step (Kd.int .i64) _ 3 ?hg (N := 26) ?hd (xs := ([] : List Int)) (inner := []) (ok := fun _ => True) (okp := fun _ => True) ?hr ?hp (fun _ hk => hk) trivial (Below.refl _ _) (Nat.le_refl _) (by simp) ?_; (case hd => rfl); (case hg => rfl); (case hr => first | (go_simp; done) | (go_simp; rfl)); (case hp => exact (Reps.none _ _))
              intro v106 w43 ho44 hb hg_ hnew_
              clear hg_ hnew_
              (first | rw [← Ny105.out] at ho44 | (simp only [Int.reduceToNat] at ho44; rw [← Ny105.out] at ho44))
              have n0_ := Aside0.mk (Kd.R_lower ho44 (qk_ (by repeat (first | (with_reducible first | exact HB.out | apply qf_ | apply qa_ | apply qg_ | refine qb_ ?_ GE101.out | refine qb_ ?_ GE102.out | refine qb_ ?_ GE103.out | refine qb_ ?_ GE111.out) | exact HB.out))))
              have n1_ := Aside0.mk (qj_ (g := gb101) (o := .cells #[.int .i64 a0_0, .slice A0_1 l0_1.length c0_1] 27 (0, 0)) (by (with_reducible repeat (first | refine qc_ ?_ _ | refine qe_ ?_ | refine qd_ ?_ _)); exact BK101.out) hb)
              have n2_ := Aside0.mk (qj_ (g := gb102) (o := .cells #[.int .i64 a1_0, .slice A1_1 l1_1.length c1_1] 27 (0, 0)) (by (with_reducible repeat (first | refine qc_ ?_ _ | refine qe_ ?_ | refine qd_ ?_ _)); exact BK102.out) hb)
              have n3_ := Aside0.mk (qj_ (g := gb103) (o := .cells #[.int .i64 a2_0, .int .i64 a2_1, .int .i64 a2_2] 39 (0, 0)) (by (with_reducible repeat (first | refine qc_ ?_ _ | refine qe_ ?_ | refine qd_ ?_ _)); exact BK103.out) hb)
              have n4_ := Aside0.mk (qj_ (g := gb111) (o := .cells #[.int .i64 0, .slice none 0 0] 27 (0, 0)) (by (with_reducible repeat (first | refine qc_ ?_ _ | refine qe_ ?_ | refine qd_ ?_ _)); exact BK111.out) hb)
              have n5_ := Aside0.mk (ql_ (by repeat (first | (with_reducible first | exact HB.out | apply qf_ | apply qa_ | apply qg_ | refine qb_ ?_ GE101.out | refine qb_ ?_ GE102.out | refine qb_ ?_ GE103.out | refine qb_ ?_ GE111.out) | exact HB.out)) hb)
              clear BK101
              clear BK102
              clear BK103
              clear BK111
              clear HB
              have HO107 := n0_
              have BK101 := n1_
              have BK102 := n2_
              have BK103 := n3_
              have BK111 := n4_
              have HB := n5_
              clear n0_ n1_ n2_ n3_ n4_ n5_
              clear hb ho44
              refine hK.out _ _ ⟨(qh_ BK101.out 0).trans rfl, (qh_ BK101.out 1).trans rfl⟩ (fun hHeld => ?_)
              clear hK K
              refine norm_ (a' := ?_) ?_ ?_
              rotate_left
              ·show Act.put _ (some 26) _ = _
               simp only [Act.put, sa_, sb_, sc_, i64_w, i32_w]
               rfl
              refine one_ (i := 5) (N := some 29) #[true,true,true,true,true,true,false,true,false] rfl rfl (one_of HT_.out (by kernel_rfl)) (by decide) (fun K hK => ?_)
              refine Kd.R_append_rows_step (Kd.int .i64) (w0 := w) w.heap.size (by rfl) (.tmp 26) (.tmp 28) 25 3 (.int .i64 0) 8 rfl Try.underlying25 info3 rfl (by decide) (by omega) v106 y105 l0_1 _ _ _ (fun _ => True) (fun _ => False) rfl rfl ?aO ?aR (fun _ _ h => h) (fun _ h => h.elim) ?aF ?aB ?aS ?aL ?_
              (case aR => repeat (first | exact (Kd.C_below HR0_1.out HB.out) | (with_reducible refine Kd.C_alloc ?_ _) | (with_reducible refine Kd.C_drewN ?_ _) | (with_reducible refine Kd.C_drew ?_)))
              (case aB => exact (by repeat (first | (with_reducible first | exact HB.out | apply qf_ | apply qa_ | apply qg_ | refine qb_ ?_ GE101.out | refine qb_ ?_ GE102.out | refine qb_ ?_ GE103.out | refine qb_ ?_ GE111.out) | exact HB.out)))
              (case aF => exact (fun _ _ => trivial))
              (case aO => exact (by (with_reducible repeat (first | apply Kd.R_alloc | apply Kd.R_drewN | apply Kd.R_drew)); exact HO107.out))
              (case aS => exact (qk_ (by repeat (first | (with_reducible first | exact HB.out | apply qf_ | apply qa_ | apply qg_ | refine qb_ ?_ GE101.out | refine qb_ ?_ GE102.out | refine qb_ ?_ GE103.out | refine qb_ ?_ GE111.out) | exact HB.out))))
              (case aL => have := LMc21.out; omega)
              intro v109 w45 ho hb hg hat
              rw [← Ny108.out] at ho
              have n0_ := Aside0.mk (blk_grown (g := gb101) (o := .cells #[.int .i64 a0_0, .slice A0_1 l0_1.length c0_1] 27 (0, 0)) (by (with_reducible repeat (first | refine qc_ ?_ _ | refine qe_ ?_ | refine qd_ ?_ _)); exact BK101.out) hg (Kd.R_ne HO107.out BK101.out (by decide)))
              have n1_ := Aside0.mk (blk_grown (g := gb102) (o := .cells #[.int .i64 a1_0, .slice A1_1 l1_1.length c1_1] 27 (0, 0)) (by (with_reducible repeat (first | refine qc_ ?_ _ | refine qe_ ?_ | refine qd_ ?_ _)); exact BK102.out) hg (Kd.R_ne HO107.out BK102.out (by decide)))
              have n2_ := Aside0.mk (blk_grown (g := gb103) (o := .cells #[.int .i64 a2_0, .int .i64 a2_1, .int .i64 a2_2] 39 (0, 0)) (by (with_reducible repeat (first | refine qc_ ?_ _ | refine qe_ ?_ | refine qd_ ?_ _)); exact BK103.out) hg (Kd.R_ne HO107.out BK103.out (by decide)))
              have n3_ := Aside0.mk (blk_grown (g := gb111) (o := .cells #[.int .i64 0, .slice none 0 0] 27 (0, 0)) (by (with_reducible repeat (first | refine qc_ ?_ _ | refine qe_ ?_ | refine qd_ ?_ _)); exact BK111.out) hg (Kd.R_ne HO107.out BK111.out (by decide)))
              have n4_ := Aside0.mk (hb)
              have n5_ := Aside0.mk (ho)
              clear BK101
              clear BK102
              clear BK103
              clear BK111
              clear HB
              clear HO107
              have BK101 := n0_
              have BK102 := n1_
              have BK103 := n2_
              have BK111 := n3_
              have HB := n4_
              have HO110 := n5_
              clear n0_ n1_ n2_ n3_ n4_ n5_
              clear ho hb hg hat
              obtain ⟨Ao46, co46, eo46⟩ := Kd.R_slice HO110.out
              (first | subst eo46 | (injection eo46 with f1_ f2_ f3_; have f4_ := f1_.symm; have f5_ := f3_.symm; clear f1_ f2_ f3_; subst f4_; subst f5_))
              refine hK.out _ _ ⟨(qh_ BK101.out 0).trans rfl, (qh_ BK101.out 1).trans rfl⟩ (fun hHeld => ?_)
              clear hK K
              refine norm_ (a' := ?_) ?_ ?_
              rotate_left
              ·show Act.put _ (some 29) _ = _
               simp only [Act.put, sa_, sb_, sc_, i64_w, i32_w]
               rfl
              refine pure_ (i := 6) (N := some 30) (v := ?_) (a' := ?_) #[true,true,true,true,true,true,true,true,false] rfl rfl (any_of HT_.out (by kernel_rfl)) (fun _ _ _ h => h) (Or.inl ⟨by rfl, ?_⟩) ?_ ?_
              rotate_left
              ·intro w'
               go_simp
               with_reducible rfl
              rotate_left
              ·simp only [Act.put, sa_, sb_, sc_, i64_w, i32_w]
               rfl
              exact norm_ (by simp only [putAll, Act.put, sa_, sb_, sc_]) (hCont (v106, .slice Ao46 y108.length co46, gb111) _ ⟨hHeld, (by (with_reducible repeat (first | apply Kd.R_alloc | apply Kd.R_drewN | apply Kd.R_drew)); exact HO110.out), (by (with_reducible repeat (first | refine qc_ ?_ _ | refine qe_ ?_ | refine qd_ ?_ _)); exact BK101.out), (by (with_reducible repeat (first | refine qc_ ?_ _ | refine qe_ ?_ | refine qd_ ?_ _)); exact BK102.out), (by (with_reducible repeat (first | refine qc_ ?_ _ | refine qe_ ?_ | refine qd_ ?_ _)); exact BK103.out), (by (with_reducible repeat (first | refine qc_ ?_ _ | refine qe_ ?_ | refine qd_ ?_ _)); exact BK111.out), GW111.out, GE111.out, NB101_111.out, NB111_101.out, NB102_111.out, NB111_102.out, NB103_111.out, NB111_103.out, (by repeat (first | (with_reducible first | exact HB.out | apply qf_ | apply qa_ | apply qg_ | refine qb_ ?_ GE101.out | refine qb_ ?_ GE102.out | refine qb_ ?_ GE103.out | refine qb_ ?_ GE111.out) | exact HB.out))⟩)
            rintro ⟨v106, v109, gb111⟩ w47 ⟨hS_, h0_, h1_, h2_, h3_, h4_, h5_, h6_, h7_, h8_, h9_, h10_, h11_, h12_, h13_⟩
            have n0_ : Aside0 (Kd.R (Kd.int .i64) 3 w47 w.heap.size (fun _ => True) v109 y108) := ⟨h0_⟩
            have n1_ : Aside0 (w47.heap[gb101]? = some (.cells #[.int .i64 a0_0, .slice A0_1 l0_1.length c0_1] 27 (0, 0))) := ⟨h1_⟩
            have n2_ : Aside0 (w47.heap[gb102]? = some (.cells #[.int .i64 a1_0, .slice A1_1 l1_1.length c1_1] 27 (0, 0))) := ⟨h2_⟩
            have n3_ : Aside0 (w47.heap[gb103]? = some (.cells #[.int .i64 a2_0, .int .i64 a2_1, .int .i64 a2_2] 39 (0, 0))) := ⟨h3_⟩
            have n4_ : Aside0 (w47.heap[gb111]? = some (.cells #[.int .i64 0, .slice none 0 0] 27 (0, 0))) := ⟨h4_⟩
            have n5_ : Aside0 (w.heap.size ≤ gb111) := ⟨h5_⟩
            have n6_ : Aside0 (w.heap.size ≤ gb111) := ⟨h6_⟩
            have n7_ : Aside0 (gb101 ≠ gb111) := ⟨h7_⟩
            have n8_ : Aside0 (gb111 ≠ gb101) := ⟨h8_⟩
            have n9_ : Aside0 (gb102 ≠ gb111) := ⟨h9_⟩
            have n10_ : Aside0 (gb111 ≠ gb102) := ⟨h10_⟩
            have n11_ : Aside0 (gb103 ≠ gb111) := ⟨h11_⟩
            have n12_ : Aside0 (gb111 ≠ gb103) := ⟨h12_⟩
            have n13_ : Aside0 (Below w.heap.size w w47) := ⟨h13_⟩
            clear BK101
            clear BK102
            clear BK103
            clear HB
            clear h0_ h1_ h2_ h3_ h4_ h5_ h6_ h7_ h8_ h9_ h10_ h11_ h12_ h13_
            have HO110 := n0_
            have BK101 := n1_
            have BK102 := n2_
            have BK103 := n3_
            have BK111 := n4_
            have GW111 := n5_
            have GE111 := n6_
            have NB101_111 := n7_
            have NB111_101 := n8_
            have NB102_111 := n9_
            have NB111_102 := n10_
            have NB103_111 := n11_
            have NB111_103 := n12_
            have HB := n13_
            clear n0_ n1_ n2_ n3_ n4_ n5_ n6_ n7_ n8_ n9_ n10_ n11_ n12_ n13_
            have hHeld : w47.cell? ⟨gb101, 0, none⟩ = some (.int .i64 a0_0) ∧ w47.cell? ⟨gb101, 1, none⟩ = some (.slice A0_1 l0_1.length c0_1) := hS_
            obtain ⟨Ao48, co48, eo48⟩ := Kd.R_slice HO110.out
            (first | subst eo48 | (injection eo48 with f1_ f2_ f3_; have f4_ := f1_.symm; have f5_ := f3_.symm; clear f1_ f2_ f3_; subst f4_; subst f5_))
            refine norm_ (a' := ?_) ?_ ?_
            rotate_left
            ·simp only [putAll, Act.put, sa_, sb_, sc_]
             rfl
            refine one_ (i := 8) (N := none) #[true,true,true,true,true,true,true,true,true] rfl rfl (one_of HT_.out (by kernel_rfl)) (by decide) (fun K hK => ?_)
            have hs49 : w47.cell? ⟨gb111, 0, none⟩ = some (.int .i64 0) := (qh_ BK111.out 0).trans rfl
            have hfs49 := qi_ BK111.out 0
            have hns49_0 := NB101_111.out
            have hns49_1 := NB102_111.out
            have hns49_2 := NB103_111.out
            have hms49_0 := NB111_101.out
            have hms49_1 := NB111_102.out
            have hms49_2 := NB111_103.out
            have hs50 : w47.cell? ⟨gb111, 1, none⟩ = some (.slice none 0 0) := (qh_ BK111.out 1).trans rfl
            have hfs50 := qi_ BK111.out 1
            have hns50_0 := NB101_111.out
            have hns50_1 := NB102_111.out
            have hns50_2 := NB103_111.out
            have hms50_0 := NB111_101.out
            have hms50_1 := NB111_102.out
            have hms50_2 := NB111_103.out
            refine skip_ (w1 := ?_) (by rfl) rfl ?_ ?_
            rotate_left
            ·go_simp
             rfl
            refine hK.out _ _ ⟨((cell_far (p := ⟨gb111, _, none⟩) NB101_111.out _).trans (((cell_far (p := ⟨gb111, _, none⟩) NB101_111.out _).trans (hHeld.1)))), ((cell_far (p := ⟨gb111, _, none⟩) NB101_111.out _).trans (((cell_far (p := ⟨gb111, _, none⟩) NB101_111.out _).trans (hHeld.2))))⟩ (fun hHeld => ?_)
            clear hK K
            refine done_ (done_of HT_.out (by kernel_rfl)) ?_
            have n0_ : Aside0 (Kd.R (Kd.int .i64) 3 ((w47.setCell ⟨gb111, 0, none⟩ (.int .i64 a0_0)).setCell ⟨gb111, 1, none⟩ (.slice Ao48 y108.length co48)) w.heap.size (fun _ => True) (.slice Ao48 y108.length co48) y108) := ⟨by (with_reducible repeat (first | apply Kd.R_alloc | apply Kd.R_drewN | apply Kd.R_drew)); exact Kd.R_mono (Kd.R_far (p := ⟨gb111, 1, none⟩) (Kd.R_far (p := ⟨gb111, 0, none⟩) (Kd.R_types HO110.out BK111.out (by decide)) (fun _ hk => hk.2) (.int .i64 a0_0)) (fun _ hk => hk.2) (.slice Ao48 y108.length co48)) (fun _ hk => trivial)⟩
            have n1_ : Aside0 (((w47.setCell ⟨gb111, 0, none⟩ (.int .i64 a0_0)).setCell ⟨gb111, 1, none⟩ (.slice Ao48 y108.length co48)).heap[gb101]? = some (.cells #[.int .i64 a0_0, .slice A0_1 l0_1.length c0_1] 27 (0, 0))) := ⟨by (with_reducible repeat (first | refine qc_ ?_ _ | refine qe_ ?_ | refine qd_ ?_ _)); refine blk_far ?_ NB101_111.out _; (with_reducible repeat (first | refine qc_ ?_ _ | refine qe_ ?_ | refine qd_ ?_ _)); refine blk_far ?_ NB101_111.out _; (with_reducible repeat (first | refine qc_ ?_ _ | refine qe_ ?_ | refine qd_ ?_ _)); exact BK101.out⟩
            have n2_ : Aside0 (((w47.setCell ⟨gb111, 0, none⟩ (.int .i64 a0_0)).setCell ⟨gb111, 1, none⟩ (.slice Ao48 y108.length co48)).heap[gb102]? = some (.cells #[.int .i64 a1_0, .slice A1_1 l1_1.length c1_1] 27 (0, 0))) := ⟨by (with_reducible repeat (first | refine qc_ ?_ _ | refine qe_ ?_ | refine qd_ ?_ _)); refine blk_far ?_ NB102_111.out _; (with_reducible repeat (first | refine qc_ ?_ _ | refine qe_ ?_ | refine qd_ ?_ _)); refine blk_far ?_ NB102_111.out _; (with_reducible repeat (first | refine qc_ ?_ _ | refine qe_ ?_ | refine qd_ ?_ _)); exact BK102.out⟩
            have n3_ : Aside0 (((w47.setCell ⟨gb111, 0, none⟩ (.int .i64 a0_0)).setCell ⟨gb111, 1, none⟩ (.slice Ao48 y108.length co48)).heap[gb103]? = some (.cells #[.int .i64 a2_0, .int .i64 a2_1, .int .i64 a2_2] 39 (0, 0))) := ⟨by (with_reducible repeat (first | refine qc_ ?_ _ | refine qe_ ?_ | refine qd_ ?_ _)); refine blk_far ?_ NB103_111.out _; (with_reducible repeat (first | refine qc_ ?_ _ | refine qe_ ?_ | refine qd_ ?_ _)); refine blk_far ?_ NB103_111.out _; (with_reducible repeat (first | refine qc_ ?_ _ | refine qe_ ?_ | refine qd_ ?_ _)); exact BK103.out⟩
            have n4_ : Aside0 (((w47.setCell ⟨gb111, 0, none⟩ (.int .i64 a0_0)).setCell ⟨gb111, 1, none⟩ (.slice Ao48 y108.length co48)).heap[gb111]? = some (.cells #[.int .i64 a0_0, .slice Ao48 y108.length co48] 27 (0, 0))) := ⟨by (with_reducible repeat (first | refine qc_ ?_ _ | refine qe_ ?_ | refine qd_ ?_ _)); refine blk_put (cs := #[.int .i64 a0_0, .slice none 0 0]) ?_ 1 _ rfl; (with_reducible repeat (first | refine qc_ ?_ _ | refine qe_ ?_ | refine qd_ ?_ _)); refine blk_put (cs := #[.int .i64 0, .slice none 0 0]) ?_ 0 _ rfl; (with_reducible repeat (first | refine qc_ ?_ _ | refine qe_ ?_ | refine qd_ ?_ _)); exact BK111.out⟩
            have n5_ : Aside0 (Below w.heap.size w ((w47.setCell ⟨gb111, 0, none⟩ (.int .i64 a0_0)).setCell ⟨gb111, 1, none⟩ (.slice Ao48 y108.length co48))) := ⟨by repeat (first | (with_reducible first | exact HB.out | apply qf_ | apply qa_ | apply qg_ | refine qb_ ?_ GE101.out | refine qb_ ?_ GE102.out | refine qb_ ?_ GE103.out | refine qb_ ?_ GE111.out) | exact HB.out)⟩
            (try clear HO110)
            (try clear BK101)
            (try clear BK102)
            (try clear BK103)
            (try clear BK111)
            (try clear HB)
            generalize ((w47.setCell ⟨gb111, 0, none⟩ (.int .i64 a0_0)).setCell ⟨gb111, 1, none⟩ (.slice Ao48 y108.length co48)) = w51 at n0_ n1_ n2_ n3_ n4_ n5_ ⊢
            have HO110 := n0_
            have BK101 := n1_
            have BK102 := n2_
            have BK103 := n3_
            have BK111 := n4_
            have HB := n5_
            clear n0_ n1_ n2_ n3_ n4_ n5_
            have hnb52 := NB111_101.out
            have hnc52 := NB101_111.out
            have hnb53 := NB111_102.out
            have hnc53 := NB102_111.out
            have hnb54 := NB111_103.out
            have hnc54 := NB103_111.out
            have hcz55_0 : w51.cell? ⟨gb111, 0, none⟩ = some (.int .i64 a0_0) := (qh_ BK111.out 0).trans rfl
            have hcz55_1 : w51.cell? ⟨gb111, 1, none⟩ = some (.slice Ao48 y108.length co48) := (qh_ BK111.out 1).trans rfl
            have hfz55_0 := qi_ BK111.out 0
            have hfz55_1 := qi_ BK111.out 1
            have hnb56 := NB103_101.out
            have hnc56 := NB101_103.out
            have hnb57 := NB103_102.out
            have hnc57 := NB102_103.out
            have hcz58_0 : w51.cell? ⟨gb103, 0, none⟩ = some (.int .i64 a2_0) := (qh_ BK103.out 0).trans rfl
            have hcz58_1 : w51.cell? ⟨gb103, 1, none⟩ = some (.int .i64 a2_1) := (qh_ BK103.out 1).trans rfl
            have hcz58_2 : w51.cell? ⟨gb103, 2, none⟩ = some (.int .i64 a2_2) := (qh_ BK103.out 2).trans rfl
            have hfz58_0 := qi_ BK103.out 0
            have hfz58_1 := qi_ BK103.out 1
            have hfz58_2 := qi_ BK103.out 2
            try go_wp2_with (first | ((with_reducible refine gate_callee (f := 9) rfl ?_); refine goesL_ (some 37) rfl rfl Try.func9 (by kernel_rfl) rfl #[.agg #[.int .i64 a0_0, .slice Ao48 y108.length co48], .int .i64 a2_0, .int .i64 a2_1] rfl (by (try simp only [List.map_toArray, List.map_cons, List.map_nil]); first | done | rfl | (simp only [List.length_drop, List.length_take]; rfl)) ?_; (with_reducible refine (window_Arrive.calls kj5 a0_0 (fun k_ => some k_ = (.slice Ao48 y108.length co48 : Value).ownBlock) _ _ y108 a2_0 a2_1 t112 t113 t116 _ ?side1 A22.out).mono ?_); (case side1 => exact Kd.R_V (Kd.R_tight rfl (Kd.R_types (Kd.R_types (Kd.R_types (Kd.R_types (HO110.out) BK101.out (by decide)) BK102.out (by decide)) BK103.out (by decide)) BK111.out (by decide)))); rintro e w59 ⟨v114, rfl, ho0, hb⟩; refine ⟨_, rfl, ?_⟩; have n0_ := Aside0.mk (Kd.R_below (by (with_reducible repeat (first | apply Kd.R_alloc | apply Kd.R_drewN | apply Kd.R_drew)); exact HO110.out) hb); have n1_ := Aside0.mk (Kd.V_lower (Kd.V_mono (ok' := fun k_ => k_ ≠ gb101 ∧ k_ ≠ gb102 ∧ k_ ≠ gb103 ∧ k_ ≠ gb111) ho0 (fun k_ hk_ => ⟨Or.elim hk_ (fun hs_ => ((Kd.R_types (Kd.R_types (Kd.R_types (Kd.R_types (HO110.out) BK101.out (by decide)) BK102.out (by decide)) BK103.out (by decide)) BK111.out (by decide)).1 k_ hs_.symm).1.1.1.2) (fun hn_ => (Kd.freshB (g := gb101) (o := .cells #[.int .i64 a0_0, .slice A0_1 l0_1.length c0_1] 27 (0, 0)) (by (with_reducible repeat (first | refine qc_ ?_ _ | refine qe_ ?_ | refine qd_ ?_ _)); exact BK101.out) k_ hn_)), Or.elim hk_ (fun hs_ => ((Kd.R_types (Kd.R_types (Kd.R_types (Kd.R_types (HO110.out) BK101.out (by decide)) BK102.out (by decide)) BK103.out (by decide)) BK111.out (by decide)).1 k_ hs_.symm).1.1.2) (fun hn_ => (Kd.freshB (g := gb102) (o := .cells #[.int .i64 a1_0, .slice A1_1 l1_1.length c1_1] 27 (0, 0)) (by (with_reducible repeat (first | refine qc_ ?_ _ | refine qe_ ?_ | refine qd_ ?_ _)); exact BK102.out) k_ hn_)), Or.elim hk_ (fun hs_ => ((Kd.R_types (Kd.R_types (Kd.R_types (Kd.R_types (HO110.out) BK101.out (by decide)) BK102.out (by decide)) BK103.out (by decide)) BK111.out (by decide)).1 k_ hs_.symm).1.2) (fun hn_ => (Kd.freshB (g := gb103) (o := .cells #[.int .i64 a2_0, .int .i64 a2_1, .int .i64 a2_2] 39 (0, 0)) (by (with_reducible repeat (first | refine qc_ ?_ _ | refine qe_ ?_ | refine qd_ ?_ _)); exact BK103.out) k_ hn_)), Or.elim hk_ (fun hs_ => ((Kd.R_types (Kd.R_types (Kd.R_types (Kd.R_types (HO110.out) BK101.out (by decide)) BK102.out (by decide)) BK103.out (by decide)) BK111.out (by decide)).1 k_ hs_.symm).2) (fun hn_ => (Kd.freshB (g := gb111) (o := .cells #[.int .i64 a0_0, .slice Ao48 y108.length co48] 27 (0, 0)) (by (with_reducible repeat (first | refine qc_ ?_ _ | refine qe_ ?_ | refine qd_ ?_ _)); exact BK111.out) k_ hn_))⟩)) (qk_ (by repeat (first | (with_reducible first | exact HB.out | apply qf_ | apply qa_ | apply qg_ | refine qb_ ?_ GE101.out | refine qb_ ?_ GE102.out | refine qb_ ?_ GE103.out | refine qb_ ?_ GE111.out) | exact HB.out)))); have n2_ := Aside0.mk (qj_ (g := gb101) (o := .cells #[.int .i64 a0_0, .slice A0_1 l0_1.length c0_1] 27 (0, 0)) (by (with_reducible repeat (first | refine qc_ ?_ _ | refine qe_ ?_ | refine qd_ ?_ _)); exact BK101.out) hb); have n3_ := Aside0.mk (qj_ (g := gb102) (o := .cells #[.int .i64 a1_0, .slice A1_1 l1_1.length c1_1] 27 (0, 0)) (by (with_reducible repeat (first | refine qc_ ?_ _ | refine qe_ ?_ | refine qd_ ?_ _)); exact BK102.out) hb); have n4_ := Aside0.mk (qj_ (g := gb103) (o := .cells #[.int .i64 a2_0, .int .i64 a2_1, .int .i64 a2_2] 39 (0, 0)) (by (with_reducible repeat (first | refine qc_ ?_ _ | refine qe_ ?_ | refine qd_ ?_ _)); exact BK103.out) hb); have n5_ := Aside0.mk (qj_ (g := gb111) (o := .cells #[.int .i64 a0_0, .slice Ao48 y108.length co48] 27 (0, 0)) (by (with_reducible repeat (first | refine qc_ ?_ _ | refine qe_ ?_ | refine qd_ ?_ _)); exact BK111.out) hb); have n6_ := Aside0.mk (ql_ (by repeat (first | (with_reducible first | exact HB.out | apply qf_ | apply qa_ | apply qg_ | refine qb_ ?_ GE101.out | refine qb_ ?_ GE102.out | refine qb_ ?_ GE103.out | refine qb_ ?_ GE111.out) | exact HB.out)) hb); clear HO110; clear BK101; clear BK102; clear BK103; clear BK111; clear HB; have HO110 := n0_; have HO115 := n1_; have BK101 := n2_; have BK102 := n3_; have BK103 := n4_; have BK111 := n5_; have HB := n6_; clear n0_ n1_ n2_ n3_ n4_ n5_ n6_; (try clear hb); (try clear hb2); (try clear hk); (try clear hi); (try clear ho0)) | ((with_reducible refine gate_dst (N := 8) rfl ?_); (try (refine gate_guard (by rfl) ?_; dsimp only)); refine qo_ ?hg (N := 8) ?hd (cs := #[.int .i64 0, .slice none 0 0]) (t := 27) ?hr ?_; (case hd => rfl); (case hg => rfl); (case hr => first | (go_simp; done) | (go_simp; rfl)); intro gb117 hg w60 hbox hb; have n0_ := Aside0.mk (Kd.R_below (by (with_reducible repeat (first | apply Kd.R_alloc | apply Kd.R_drewN | apply Kd.R_drew)); exact HO110.out) hb); have n1_ := Aside0.mk (Kd.V_below (Kd.V_elderB (by (with_reducible repeat (first | apply Kd.qn_ | apply Kd.qm_ | apply Kd.V_drew)); exact HO115.out) gb117 (Nat.le_of_eq hg.symm)) hb); have n2_ := Aside0.mk (qj_ (g := gb101) (o := .cells #[.int .i64 a0_0, .slice A0_1 l0_1.length c0_1] 27 (0, 0)) (by (with_reducible repeat (first | refine qc_ ?_ _ | refine qe_ ?_ | refine qd_ ?_ _)); exact BK101.out) hb); have n3_ := Aside0.mk (qj_ (g := gb102) (o := .cells #[.int .i64 a1_0, .slice A1_1 l1_1.length c1_1] 27 (0, 0)) (by (with_reducible repeat (first | refine qc_ ?_ _ | refine qe_ ?_ | refine qd_ ?_ _)); exact BK102.out) hb); have n4_ := Aside0.mk (qj_ (g := gb103) (o := .cells #[.int .i64 a2_0, .int .i64 a2_1, .int .i64 a2_2] 39 (0, 0)) (by (with_reducible repeat (first | refine qc_ ?_ _ | refine qe_ ?_ | refine qd_ ?_ _)); exact BK103.out) hb); have n5_ := Aside0.mk (qj_ (g := gb111) (o := .cells #[.int .i64 a0_0, .slice Ao48 y108.length co48] 27 (0, 0)) (by (with_reducible repeat (first | refine qc_ ?_ _ | refine qe_ ?_ | refine qd_ ?_ _)); exact BK111.out) hb); have n6_ := Aside0.mk (ql_ (by repeat (first | (with_reducible first | exact HB.out | apply qf_ | apply qa_ | apply qg_ | refine qb_ ?_ GE101.out | refine qb_ ?_ GE102.out | refine qb_ ?_ GE103.out | refine qb_ ?_ GE111.out) | exact HB.out)) hb); have n7_ := Aside0.mk (hbox); have n8_ := Aside0.mk ((by rw [hg]; exact (qk_ (by repeat (first | (with_reducible first | exact HB.out | apply qf_ | apply qa_ | apply qg_ | refine qb_ ?_ GE101.out | refine qb_ ?_ GE102.out | refine qb_ ?_ GE103.out | refine qb_ ?_ GE111.out) | exact HB.out))) : w.heap.size ≤ gb117)); have n9_ := Aside0.mk ((by rw [hg]; exact (qk_ (by repeat (first | (with_reducible first | exact HB.out | apply qf_ | apply qa_ | apply qg_ | refine qb_ ?_ GE101.out | refine qb_ ?_ GE102.out | refine qb_ ?_ GE103.out | refine qb_ ?_ GE111.out) | exact HB.out))) : w.heap.size ≤ gb117)); have n10_ := Aside0.mk ((by rw [hg]; exact Nat.ne_of_lt (blk_lt (g := gb101) (o := .cells #[.int .i64 a0_0, .slice A0_1 l0_1.length c0_1] 27 (0, 0)) (by (with_reducible repeat (first | refine qc_ ?_ _ | refine qe_ ?_ | refine qd_ ?_ _)); exact BK101.out)) : gb101 ≠ gb117)); have n11_ := Aside0.mk ((by rw [hg]; exact Nat.ne_of_gt (blk_lt (g := gb101) (o := .cells #[.int .i64 a0_0, .slice A0_1 l0_1.length c0_1] 27 (0, 0)) (by (with_reducible repeat (first | refine qc_ ?_ _ | refine qe_ ?_ | refine qd_ ?_ _)); exact BK101.out)) : gb117 ≠ gb101)); have n12_ := Aside0.mk ((by rw [hg]; exact Nat.ne_of_lt (blk_lt (g := gb102) (o := .cells #[.int .i64 a1_0, .slice A1_1 l1_1.length c1_1] 27 (0, 0)) (by (with_reducible repeat (first | refine qc_ ?_ _ | refine qe_ ?_ | refine qd_ ?_ _)); exact BK102.out)) : gb102 ≠ gb117)); have n13_ := Aside0.mk ((by rw [hg]; exact Nat.ne_of_gt (blk_lt (g := gb102) (o := .cells #[.int .i64 a1_0, .slice A1_1 l1_1.length c1_1] 27 (0, 0)) (by (with_reducible repeat (first | refine qc_ ?_ _ | refine qe_ ?_ | refine qd_ ?_ _)); exact BK102.out)) : gb117 ≠ gb102)); have n14_ := Aside0.mk ((by rw [hg]; exact Nat.ne_of_lt (blk_lt (g := gb103) (o := .cells #[.int .i64 a2_0, .int .i64 a2_1, .int .i64 a2_2] 39 (0, 0)) (by (with_reducible repeat (first | refine qc_ ?_ _ | refine qe_ ?_ | refine qd_ ?_ _)); exact BK103.out)) : gb103 ≠ gb117)); have n15_ := Aside0.mk ((by rw [hg]; exact Nat.ne_of_gt (blk_lt (g := gb103) (o := .cells #[.int .i64 a2_0, .int .i64 a2_1, .int .i64 a2_2] 39 (0, 0)) (by (with_reducible repeat (first | refine qc_ ?_ _ | refine qe_ ?_ | refine qd_ ?_ _)); exact BK103.out)) : gb117 ≠ gb103)); have n16_ := Aside0.mk ((by rw [hg]; exact Nat.ne_of_lt (blk_lt (g := gb111) (o := .cells #[.int .i64 a0_0, .slice Ao48 y108.length co48] 27 (0, 0)) (by (with_reducible repeat (first | refine qc_ ?_ _ | refine qe_ ?_ | refine qd_ ?_ _)); exact BK111.out)) : gb111 ≠ gb117)); have n17_ := Aside0.mk ((by rw [hg]; exact Nat.ne_of_gt (blk_lt (g := gb111) (o := .cells #[.int .i64 a0_0, .slice Ao48 y108.length co48] 27 (0, 0)) (by (with_reducible repeat (first | refine qc_ ?_ _ | refine qe_ ?_ | refine qd_ ?_ _)); exact BK111.out)) : gb117 ≠ gb111)); clear HO110; clear HO115; clear BK101; clear BK102; clear BK103; clear BK111; clear HB; have HO110 := n0_; have HO115 := n1_; have BK101 := n2_; have BK102 := n3_; have BK103 := n4_; have BK111 := n5_; have HB := n6_; have BK117 := n7_; have GW117 := n8_; have GE117 := n9_; have NB101_117 := n10_; have NB117_101 := n11_; have NB102_117 := n12_; have NB117_102 := n13_; have NB103_117 := n14_; have NB117_103 := n15_; have NB111_117 := n16_; have NB117_111 := n17_; clear n0_ n1_ n2_ n3_ n4_ n5_ n6_ n7_ n8_ n9_ n10_ n11_ n12_ n13_ n14_ n15_ n16_ n17_; clear hb hbox hg; have hnb61 := NB117_101.out; have hnc61 := NB101_117.out; have hnb62 := NB117_102.out; have hnc62 := NB102_117.out; have hnb63 := NB117_103.out; have hnc63 := NB103_117.out; have hnb64 := NB117_111.out; have hnc64 := NB111_117.out; have hcz65_0 : w60.cell? ⟨gb117, 0, none⟩ = some (.int .i64 0) := (qh_ BK117.out 0).trans rfl; have hcz65_1 : w60.cell? ⟨gb117, 1, none⟩ = some (.slice none 0 0) := (qh_ BK117.out 1).trans rfl; have hfz65_0 := qi_ BK117.out 0; have hfz65_1 := qi_ BK117.out 1; obtain ⟨Ao66, co66, eo66⟩ := Kd.V_slice HO115.out; subst eo66) | ((with_reducible refine gate_store (t := 27) (p := 8) rfl ?_); refine store_event (t := 27) (p := 8) (v := ?vo_w67) (w1 := ((w60.setCell ⟨gb117, 0, none⟩ (.int .i64 t112)).setCell ⟨gb117, 1, none⟩ (.slice Ao66 t113.length co66))) ?hg ?ho ?hn ?hr ?_; (case ho => rfl); (case hg => rfl); (case hn => rfl); (case hr => first | (go_simp; done) | (go_simp; rfl)); intro w67 hw; have n0_ : Aside0 (Kd.R (Kd.int .i64) 3 w67 w.heap.size (fun _ => True) (.slice Ao48 y108.length co48) y108) := ⟨(by rw [hw]; exact (by (with_reducible repeat (first | apply Kd.R_alloc | apply Kd.R_drewN | apply Kd.R_drew)); exact Kd.R_mono (Kd.R_far (p := ⟨gb117, 1, none⟩) (Kd.R_far (p := ⟨gb117, 0, none⟩) (Kd.R_types HO110.out BK117.out (by decide)) (fun _ hk => hk.2) (.int .i64 t112)) (fun _ hk => hk.2) (.slice Ao66 t113.length co66)) (fun _ hk => trivial)))⟩; have n1_ : Aside0 (Kd.V (Kd.int .i64) 3 w67 w.heap.size (fun k_ => k_ ≠ gb101 ∧ k_ ≠ gb102 ∧ k_ ≠ gb103 ∧ k_ ≠ gb111 ∧ k_ ≠ gb117) (.slice Ao66 t113.length co66) t113) := ⟨(by rw [hw]; exact (by (with_reducible repeat (first | apply Kd.qn_ | apply Kd.qm_ | apply Kd.V_drew)); exact Kd.V_mono (Kd.V_far (p := ⟨gb117, 1, none⟩) (Kd.V_far (p := ⟨gb117, 0, none⟩) (Kd.V_mono HO115.out (fun k_ hk => (⟨hk, hk.2⟩ : _ ∧ k_ ≠ gb117))) (fun _ hk => hk.2) (.int .i64 t112)) (fun _ hk => hk.2) (.slice Ao66 t113.length co66)) (fun _ hk => ⟨hk.1.1.1, ⟨hk.1.1.2.1, ⟨hk.1.1.2.2.1, ⟨hk.1.1.2.2.2, hk.1.2⟩⟩⟩⟩)))⟩; have n2_ : Aside0 (w67.heap[gb101]? = some (.cells #[.int .i64 a0_0, .slice A0_1 l0_1.length c0_1] 27 (0, 0))) := ⟨(by rw [hw]; exact (by (with_reducible repeat (first | refine qc_ ?_ _ | refine qe_ ?_ | refine qd_ ?_ _)); refine blk_far ?_ NB101_117.out _; (with_reducible repeat (first | refine qc_ ?_ _ | refine qe_ ?_ | refine qd_ ?_ _)); refine blk_far ?_ NB101_117.out _; (with_reducible repeat (first | refine qc_ ?_ _ | refine qe_ ?_ | refine qd_ ?_ _)); exact BK101.out))⟩; have n3_ : Aside0 (w67.heap[gb102]? = some (.cells #[.int .i64 a1_0, .slice A1_1 l1_1.length c1_1] 27 (0, 0))) := ⟨(by rw [hw]; exact (by (with_reducible repeat (first | refine qc_ ?_ _ | refine qe_ ?_ | refine qd_ ?_ _)); refine blk_far ?_ NB102_117.out _; (with_reducible repeat (first | refine qc_ ?_ _ | refine qe_ ?_ | refine qd_ ?_ _)); refine blk_far ?_ NB102_117.out _; (with_reducible repeat (first | refine qc_ ?_ _ | refine qe_ ?_ | refine qd_ ?_ _)); exact BK102.out))⟩; have n4_ : Aside0 (w67.heap[gb103]? = some (.cells #[.int .i64 a2_0, .int .i64 a2_1, .int .i64 a2_2] 39 (0, 0))) := ⟨(by rw [hw]; exact (by (with_reducible repeat (first | refine qc_ ?_ _ | refine qe_ ?_ | refine qd_ ?_ _)); refine blk_far ?_ NB103_117.out _; (with_reducible repeat (first | refine qc_ ?_ _ | refine qe_ ?_ | refine qd_ ?_ _)); refine blk_far ?_ NB103_117.out _; (with_reducible repeat (first | refine qc_ ?_ _ | refine qe_ ?_ | refine qd_ ?_ _)); exact BK103.out))⟩; have n5_ : Aside0 (w67.heap[gb111]? = some (.cells #[.int .i64 a0_0, .slice Ao48 y108.length co48] 27 (0, 0))) := ⟨(by rw [hw]; exact (by (with_reducible repeat (first | refine qc_ ?_ _ | refine qe_ ?_ | refine qd_ ?_ _)); refine blk_far ?_ NB111_117.out _; (with_reducible repeat (first | refine qc_ ?_ _ | refine qe_ ?_ | refine qd_ ?_ _)); refine blk_far ?_ NB111_117.out _; (with_reducible repeat (first | refine qc_ ?_ _ | refine qe_ ?_ | refine qd_ ?_ _)); exact BK111.out))⟩; have n6_ : Aside0 (w67.heap[gb117]? = some (.cells #[.int .i64 t112, .slice Ao66 t113.length co66] 27 (0, 0))) := ⟨(by rw [hw]; exact (by (with_reducible repeat (first | refine qc_ ?_ _ | refine qe_ ?_ | refine qd_ ?_ _)); refine blk_put (cs := #[.int .i64 t112, .slice none 0 0]) ?_ 1 _ rfl; (with_reducible repeat (first | refine qc_ ?_ _ | refine qe_ ?_ | refine qd_ ?_ _)); refine blk_put (cs := #[.int .i64 0, .slice none 0 0]) ?_ 0 _ rfl; (with_reducible repeat (first | refine qc_ ?_ _ | refine qe_ ?_ | refine qd_ ?_ _)); exact BK117.out))⟩; have n7_ : Aside0 (Below w.heap.size w w67) := ⟨(by rw [hw]; exact (by repeat (first | (with_reducible first | exact HB.out | apply qf_ | apply qa_ | apply qg_ | refine qb_ ?_ GE101.out | refine qb_ ?_ GE102.out | refine qb_ ?_ GE103.out | refine qb_ ?_ GE111.out | refine qb_ ?_ GE117.out) | exact HB.out)))⟩; clear hw; clear HO110; clear HO115; clear BK101; clear BK102; clear BK103; clear BK111; clear BK117; clear HB; have HO110 := n0_; have HO115 := n1_; have BK101 := n2_; have BK102 := n3_; have BK103 := n4_; have BK111 := n5_; have BK117 := n6_; have HB := n7_; clear n0_ n1_ n2_ n3_ n4_ n5_ n6_ n7_; have hnb68 := NB101_102.out; have hnc68 := NB102_101.out; have hcz69_0 : w67.cell? ⟨gb101, 0, none⟩ = some (.int .i64 a0_0) := (qh_ BK101.out 0).trans rfl; have hcz69_1 : w67.cell? ⟨gb101, 1, none⟩ = some (.slice A0_1 l0_1.length c0_1) := (qh_ BK101.out 1).trans rfl; have hfz69_0 := qi_ BK101.out 0; have hfz69_1 := qi_ BK101.out 1; have hcz70_0 : w67.cell? ⟨gb103, 0, none⟩ = some (.int .i64 a2_0) := (qh_ BK103.out 0).trans rfl; have hcz70_1 : w67.cell? ⟨gb103, 1, none⟩ = some (.int .i64 a2_1) := (qh_ BK103.out 1).trans rfl; have hcz70_2 : w67.cell? ⟨gb103, 2, none⟩ = some (.int .i64 a2_2) := (qh_ BK103.out 2).trans rfl; have hfz70_0 := qi_ BK103.out 0; have hfz70_1 := qi_ BK103.out 1; have hfz70_2 := qi_ BK103.out 2) | ((with_reducible refine gate_callee (f := 13) rfl ?_); refine goesL_ (some 46) rfl rfl Try.func13 (by kernel_rfl) rfl #[.agg #[.int .i64 a0_0, .slice A0_1 l0_1.length c0_1], .int .i64 a2_0, .int .i64 a2_1] rfl (by (try simp only [List.map_toArray, List.map_cons, List.map_nil]); first | done | rfl | (simp only [List.length_drop, List.length_take]; rfl)) ?_; (with_reducible refine (ref10_Arrive.calls kj5 a0_0 (fun k_ => k_ < w.heap.size) _ _ l0_1 a2_0 a2_1 t118 t119 t122 _ ?side1 A23.out).mono ?_); (case side1 => exact Kd.V_mk HC0_1.out (Kd.F_below (Kd.C_F (Kd.heap_int .i64) HR0_1.out) (by repeat (first | (with_reducible first | exact HB.out | apply qf_ | apply qa_ | apply qg_ | refine qb_ ?_ GE101.out | refine qb_ ?_ GE102.out | refine qb_ ?_ GE103.out | refine qb_ ?_ GE111.out | refine qb_ ?_ GE117.out) | exact HB.out)))); rintro e w71 ⟨v120, rfl, ho0, hb⟩; refine ⟨_, rfl, ?_⟩; have n0_ := Aside0.mk (Kd.R_below (by (with_reducible repeat (first | apply Kd.R_alloc | apply Kd.R_drewN | apply Kd.R_drew)); exact HO110.out) hb); have n1_ := Aside0.mk (Kd.V_below (by (with_reducible repeat (first | apply Kd.qn_ | apply Kd.qm_ | apply Kd.V_drew)); exact HO115.out) hb); have n2_ := Aside0.mk (Kd.V_lower (Kd.V_mono (ok' := fun k_ => some k_ ≠ (.slice Ao48 y108.length co48 : Value).ownBlock ∧ k_ ≠ gb101 ∧ k_ ≠ gb102 ∧ k_ ≠ gb103 ∧ k_ ≠ gb111 ∧ k_ ≠ gb117) ho0 (fun k_ hk_ => ⟨Or.elim hk_ (fun hs_ => fun e_ => Nat.not_le.2 hs_ (Kd.R_base HO110.out k_ e_.symm)) (fun hn_ => (Kd.fresh' (Kd.R_lt (by (with_reducible repeat (first | apply Kd.R_alloc | apply Kd.R_drewN | apply Kd.R_drew)); exact HO110.out)) k_ hn_)), Or.elim hk_ (fun hs_ => fun e_ => Nat.not_le.2 hs_ (by rw [e_]; exact GW101.out)) (fun hn_ => (Kd.freshB (g := gb101) (o := .cells #[.int .i64 a0_0, .slice A0_1 l0_1.length c0_1] 27 (0, 0)) (by (with_reducible repeat (first | refine qc_ ?_ _ | refine qe_ ?_ | refine qd_ ?_ _)); exact BK101.out) k_ hn_)), Or.elim hk_ (fun hs_ => fun e_ => Nat.not_le.2 hs_ (by rw [e_]; exact GW102.out)) (fun hn_ => (Kd.freshB (g := gb102) (o := .cells #[.int .i64 a1_0, .slice A1_1 l1_1.length c1_1] 27 (0, 0)) (by (with_reducible repeat (first | refine qc_ ?_ _ | refine qe_ ?_ | refine qd_ ?_ _)); exact BK102.out) k_ hn_)), Or.elim hk_ (fun hs_ => fun e_ => Nat.not_le.2 hs_ (by rw [e_]; exact GW103.out)) (fun hn_ => (Kd.freshB (g := gb103) (o := .cells #[.int .i64 a2_0, .int .i64 a2_1, .int .i64 a2_2] 39 (0, 0)) (by (with_reducible repeat (first | refine qc_ ?_ _ | refine qe_ ?_ | refine qd_ ?_ _)); exact BK103.out) k_ hn_)), Or.elim hk_ (fun hs_ => fun e_ => Nat.not_le.2 hs_ (by rw [e_]; exact GW111.out)) (fun hn_ => (Kd.freshB (g := gb111) (o := .cells #[.int .i64 a0_0, .slice Ao48 y108.length co48] 27 (0, 0)) (by (with_reducible repeat (first | refine qc_ ?_ _ | refine qe_ ?_ | refine qd_ ?_ _)); exact BK111.out) k_ hn_)), Or.elim hk_ (fun hs_ => fun e_ => Nat.not_le.2 hs_ (by rw [e_]; exact GW117.out)) (fun hn_ => (Kd.freshB (g := gb117) (o := .cells #[.int .i64 t112, .slice Ao66 t113.length co66] 27 (0, 0)) (by (with_reducible repeat (first | refine qc_ ?_ _ | refine qe_ ?_ | refine qd_ ?_ _)); exact BK117.out) k_ hn_))⟩)) (qk_ (by repeat (first | (with_reducible first | exact HB.out | apply qf_ | apply qa_ | apply qg_ | refine qb_ ?_ GE101.out | refine qb_ ?_ GE102.out | refine qb_ ?_ GE103.out | refine qb_ ?_ GE111.out | refine qb_ ?_ GE117.out) | exact HB.out)))); have n3_ := Aside0.mk (qj_ (g := gb101) (o := .cells #[.int .i64 a0_0, .slice A0_1 l0_1.length c0_1] 27 (0, 0)) (by (with_reducible repeat (first | refine qc_ ?_ _ | refine qe_ ?_ | refine qd_ ?_ _)); exact BK101.out) hb); have n4_ := Aside0.mk (qj_ (g := gb102) (o := .cells #[.int .i64 a1_0, .slice A1_1 l1_1.length c1_1] 27 (0, 0)) (by (with_reducible repeat (first | refine qc_ ?_ _ | refine qe_ ?_ | refine qd_ ?_ _)); exact BK102.out) hb); have n5_ := Aside0.mk (qj_ (g := gb103) (o := .cells #[.int .i64 a2_0, .int .i64 a2_1, .int .i64 a2_2] 39 (0, 0)) (by (with_reducible repeat (first | refine qc_ ?_ _ | refine qe_ ?_ | refine qd_ ?_ _)); exact BK103.out) hb); have n6_ := Aside0.mk (qj_ (g := gb111) (o := .cells #[.int .i64 a0_0, .slice Ao48 y108.length co48] 27 (0, 0)) (by (with_reducible repeat (first | refine qc_ ?_ _ | refine qe_ ?_ | refine qd_ ?_ _)); exact BK111.out) hb); have n7_ := Aside0.mk (qj_ (g := gb117) (o := .cells #[.int .i64 t112, .slice Ao66 t113.length co66] 27 (0, 0)) (by (with_reducible repeat (first | refine qc_ ?_ _ | refine qe_ ?_ | refine qd_ ?_ _)); exact BK117.out) hb); have n8_ := Aside0.mk (ql_ (by repeat (first | (with_reducible first | exact HB.out | apply qf_ | apply qa_ | apply qg_ | refine qb_ ?_ GE101.out | refine qb_ ?_ GE102.out | refine qb_ ?_ GE103.out | refine qb_ ?_ GE111.out | refine qb_ ?_ GE117.out) | exact HB.out)) hb); clear HO110; clear HO115; clear BK101; clear BK102; clear BK103; clear BK111; clear BK117; clear HB; have HO110 := n0_; have HO115 := n1_; have HO121 := n2_; have BK101 := n3_; have BK102 := n4_; have BK103 := n5_; have BK111 := n6_; have BK117 := n7_; have HB := n8_; clear n0_ n1_ n2_ n3_ n4_ n5_ n6_ n7_ n8_; (try clear hb); (try clear hb2); (try clear hk); (try clear hi); (try clear ho0)) | ((with_reducible refine gate_dst (N := 10) rfl ?_); (try (refine gate_guard (by rfl) ?_; dsimp only)); refine qo_ ?hg (N := 10) ?hd (cs := #[.int .i64 0, .slice none 0 0]) (t := 27) ?hr ?_; (case hd => rfl); (case hg => rfl); (case hr => first | (go_simp; done) | (go_simp; rfl)); intro gb123 hg w72 hbox hb; have n0_ := Aside0.mk (Kd.R_below (by (with_reducible repeat (first | apply Kd.R_alloc | apply Kd.R_drewN | apply Kd.R_drew)); exact HO110.out) hb); have n1_ := Aside0.mk (Kd.V_below (Kd.V_elderB (by (with_reducible repeat (first | apply Kd.qn_ | apply Kd.qm_ | apply Kd.V_drew)); exact HO115.out) gb123 (Nat.le_of_eq hg.symm)) hb); have n2_ := Aside0.mk (Kd.V_below (Kd.V_elderB (by (with_reducible repeat (first | apply Kd.qn_ | apply Kd.qm_ | apply Kd.V_drew)); exact HO121.out) gb123 (Nat.le_of_eq hg.symm)) hb); have n3_ := Aside0.mk (qj_ (g := gb101) (o := .cells #[.int .i64 a0_0, .slice A0_1 l0_1.length c0_1] 27 (0, 0)) (by (with_reducible repeat (first | refine qc_ ?_ _ | refine qe_ ?_ | refine qd_ ?_ _)); exact BK101.out) hb); have n4_ := Aside0.mk (qj_ (g := gb102) (o := .cells #[.int .i64 a1_0, .slice A1_1 l1_1.length c1_1] 27 (0, 0)) (by (with_reducible repeat (first | refine qc_ ?_ _ | refine qe_ ?_ | refine qd_ ?_ _)); exact BK102.out) hb); have n5_ := Aside0.mk (qj_ (g := gb103) (o := .cells #[.int .i64 a2_0, .int .i64 a2_1, .int .i64 a2_2] 39 (0, 0)) (by (with_reducible repeat (first | refine qc_ ?_ _ | refine qe_ ?_ | refine qd_ ?_ _)); exact BK103.out) hb); have n6_ := Aside0.mk (qj_ (g := gb111) (o := .cells #[.int .i64 a0_0, .slice Ao48 y108.length co48] 27 (0, 0)) (by (with_reducible repeat (first | refine qc_ ?_ _ | refine qe_ ?_ | refine qd_ ?_ _)); exact BK111.out) hb); have n7_ := Aside0.mk (qj_ (g := gb117) (o := .cells #[.int .i64 t112, .slice Ao66 t113.length co66] 27 (0, 0)) (by (with_reducible repeat (first | refine qc_ ?_ _ | refine qe_ ?_ | refine qd_ ?_ _)); exact BK117.out) hb); have n8_ := Aside0.mk (ql_ (by repeat (first | (with_reducible first | exact HB.out | apply qf_ | apply qa_ | apply qg_ | refine qb_ ?_ GE101.out | refine qb_ ?_ GE102.out | refine qb_ ?_ GE103.out | refine qb_ ?_ GE111.out | refine qb_ ?_ GE117.out) | exact HB.out)) hb); have n9_ := Aside0.mk (hbox); have n10_ := Aside0.mk ((by rw [hg]; exact (qk_ (by repeat (first | (with_reducible first | exact HB.out | apply qf_ | apply qa_ | apply qg_ | refine qb_ ?_ GE101.out | refine qb_ ?_ GE102.out | refine qb_ ?_ GE103.out | refine qb_ ?_ GE111.out | refine qb_ ?_ GE117.out) | exact HB.out))) : w.heap.size ≤ gb123)); have n11_ := Aside0.mk ((by rw [hg]; exact (qk_ (by repeat (first | (with_reducible first | exact HB.out | apply qf_ | apply qa_ | apply qg_ | refine qb_ ?_ GE101.out | refine qb_ ?_ GE102.out | refine qb_ ?_ GE103.out | refine qb_ ?_ GE111.out | refine qb_ ?_ GE117.out) | exact HB.out))) : w.heap.size ≤ gb123)); have n12_ := Aside0.mk ((by rw [hg]; exact Nat.ne_of_lt (blk_lt (g := gb101) (o := .cells #[.int .i64 a0_0, .slice A0_1 l0_1.length c0_1] 27 (0, 0)) (by (with_reducible repeat (first | refine qc_ ?_ _ | refine qe_ ?_ | refine qd_ ?_ _)); exact BK101.out)) : gb101 ≠ gb123)); have n13_ := Aside0.mk ((by rw [hg]; exact Nat.ne_of_gt (blk_lt (g := gb101) (o := .cells #[.int .i64 a0_0, .slice A0_1 l0_1.length c0_1] 27 (0, 0)) (by (with_reducible repeat (first | refine qc_ ?_ _ | refine qe_ ?_ | refine qd_ ?_ _)); exact BK101.out)) : gb123 ≠ gb101)); have n14_ := Aside0.mk ((by rw [hg]; exact Nat.ne_of_lt (blk_lt (g := gb102) (o := .cells #[.int .i64 a1_0, .slice A1_1 l1_1.length c1_1] 27 (0, 0)) (by (with_reducible repeat (first | refine qc_ ?_ _ | refine qe_ ?_ | refine qd_ ?_ _)); exact BK102.out)) : gb102 ≠ gb123)); have n15_ := Aside0.mk ((by rw [hg]; exact Nat.ne_of_gt (blk_lt (g := gb102) (o := .cells #[.int .i64 a1_0, .slice A1_1 l1_1.length c1_1] 27 (0, 0)) (by (with_reducible repeat (first | refine qc_ ?_ _ | refine qe_ ?_ | refine qd_ ?_ _)); exact BK102.out)) : gb123 ≠ gb102)); have n16_ := Aside0.mk ((by rw [hg]; exact Nat.ne_of_lt (blk_lt (g := gb103) (o := .cells #[.int .i64 a2_0, .int .i64 a2_1, .int .i64 a2_2] 39 (0, 0)) (by (with_reducible repeat (first | refine qc_ ?_ _ | refine qe_ ?_ | refine qd_ ?_ _)); exact BK103.out)) : gb103 ≠ gb123)); have n17_ := Aside0.mk ((by rw [hg]; exact Nat.ne_of_gt (blk_lt (g := gb103) (o := .cells #[.int .i64 a2_0, .int .i64 a2_1, .int .i64 a2_2] 39 (0, 0)) (by (with_reducible repeat (first | refine qc_ ?_ _ | refine qe_ ?_ | refine qd_ ?_ _)); exact BK103.out)) : gb123 ≠ gb103)); have n18_ := Aside0.mk ((by rw [hg]; exact Nat.ne_of_lt (blk_lt (g := gb111) (o := .cells #[.int .i64 a0_0, .slice Ao48 y108.length co48] 27 (0, 0)) (by (with_reducible repeat (first | refine qc_ ?_ _ | refine qe_ ?_ | refine qd_ ?_ _)); exact BK111.out)) : gb111 ≠ gb123)); have n19_ := Aside0.mk ((by rw [hg]; exact Nat.ne_of_gt (blk_lt (g := gb111) (o := .cells #[.int .i64 a0_0, .slice Ao48 y108.length co48] 27 (0, 0)) (by (with_reducible repeat (first | refine qc_ ?_ _ | refine qe_ ?_ | refine qd_ ?_ _)); exact BK111.out)) : gb123 ≠ gb111)); have n20_ := Aside0.mk ((by rw [hg]; exact Nat.ne_of_lt (blk_lt (g := gb117) (o := .cells #[.int .i64 t112, .slice Ao66 t113.length co66] 27 (0, 0)) (by (with_reducible repeat (first | refine qc_ ?_ _ | refine qe_ ?_ | refine qd_ ?_ _)); exact BK117.out)) : gb117 ≠ gb123)); have n21_ := Aside0.mk ((by rw [hg]; exact Nat.ne_of_gt (blk_lt (g := gb117) (o := .cells #[.int .i64 t112, .slice Ao66 t113.length co66] 27 (0, 0)) (by (with_reducible repeat (first | refine qc_ ?_ _ | refine qe_ ?_ | refine qd_ ?_ _)); exact BK117.out)) : gb123 ≠ gb117)); clear HO110; clear HO115; clear HO121; clear BK101; clear BK102; clear BK103; clear BK111; clear BK117; clear HB; have HO110 := n0_; have HO115 := n1_; have HO121 := n2_; have BK101 := n3_; have BK102 := n4_; have BK103 := n5_; have BK111 := n6_; have BK117 := n7_; have HB := n8_; have BK123 := n9_; have GW123 := n10_; have GE123 := n11_; have NB101_123 := n12_; have NB123_101 := n13_; have NB102_123 := n14_; have NB123_102 := n15_; have NB103_123 := n16_; have NB123_103 := n17_; have NB111_123 := n18_; have NB123_111 := n19_; have NB117_123 := n20_; have NB123_117 := n21_; clear n0_ n1_ n2_ n3_ n4_ n5_ n6_ n7_ n8_ n9_ n10_ n11_ n12_ n13_ n14_ n15_ n16_ n17_ n18_ n19_ n20_ n21_; clear hb hbox hg; have hnb73 := NB123_101.out; have hnc73 := NB101_123.out; have hnb74 := NB123_102.out; have hnc74 := NB102_123.out; have hnb75 := NB123_103.out; have hnc75 := NB103_123.out; have hnb76 := NB123_111.out; have hnc76 := NB111_123.out; have hnb77 := NB123_117.out; have hnc77 := NB117_123.out; have hcz78_0 : w72.cell? ⟨gb123, 0, none⟩ = some (.int .i64 0) := (qh_ BK123.out 0).trans rfl; have hcz78_1 : w72.cell? ⟨gb123, 1, none⟩ = some (.slice none 0 0) := (qh_ BK123.out 1).trans rfl; have hfz78_0 := qi_ BK123.out 0; have hfz78_1 := qi_ BK123.out 1; obtain ⟨Ao79, co79, eo79⟩ := Kd.V_slice HO121.out; subst eo79))
            have n0_ : Aside0 (Kd.R (Kd.int .i64) 3 ((w72.setCell ⟨gb123, 0, none⟩ (.int .i64 t118)).setCell ⟨gb123, 1, none⟩ (.slice Ao79 t119.length co79)) w.heap.size (fun _ => True) (.slice Ao48 y108.length co48) y108) := ⟨by (with_reducible repeat (first | apply Kd.R_alloc | apply Kd.R_drewN | apply Kd.R_drew)); exact Kd.R_mono (Kd.R_far (p := ⟨gb123, 1, none⟩) (Kd.R_far (p := ⟨gb123, 0, none⟩) (Kd.R_types HO110.out BK123.out (by decide)) (fun _ hk => hk.2) (.int .i64 t118)) (fun _ hk => hk.2) (.slice Ao79 t119.length co79)) (fun _ hk => trivial)⟩
            have n1_ : Aside0 (Kd.V (Kd.int .i64) 3 ((w72.setCell ⟨gb123, 0, none⟩ (.int .i64 t118)).setCell ⟨gb123, 1, none⟩ (.slice Ao79 t119.length co79)) w.heap.size (fun k_ => k_ ≠ gb101 ∧ k_ ≠ gb102 ∧ k_ ≠ gb103 ∧ k_ ≠ gb111 ∧ k_ ≠ gb117 ∧ k_ ≠ gb123) (.slice Ao66 t113.length co66) t113) := ⟨by (with_reducible repeat (first | apply Kd.qn_ | apply Kd.qm_ | apply Kd.V_drew)); exact Kd.V_mono (Kd.V_far (p := ⟨gb123, 1, none⟩) (Kd.V_far (p := ⟨gb123, 0, none⟩) (Kd.V_mono HO115.out (fun k_ hk => (⟨hk, hk.2⟩ : _ ∧ k_ ≠ gb123))) (fun _ hk => hk.2) (.int .i64 t118)) (fun _ hk => hk.2) (.slice Ao79 t119.length co79)) (fun _ hk => ⟨hk.1.1.1, ⟨hk.1.1.2.1, ⟨hk.1.1.2.2.1, ⟨hk.1.1.2.2.2.1, ⟨hk.1.1.2.2.2.2, hk.1.2⟩⟩⟩⟩⟩)⟩
            have n2_ : Aside0 (Kd.V (Kd.int .i64) 3 ((w72.setCell ⟨gb123, 0, none⟩ (.int .i64 t118)).setCell ⟨gb123, 1, none⟩ (.slice Ao79 t119.length co79)) w.heap.size (fun k_ => some k_ ≠ (.slice Ao48 y108.length co48 : Value).ownBlock ∧ k_ ≠ gb101 ∧ k_ ≠ gb102 ∧ k_ ≠ gb103 ∧ k_ ≠ gb111 ∧ k_ ≠ gb117 ∧ k_ ≠ gb123) (.slice Ao79 t119.length co79) t119) := ⟨by (with_reducible repeat (first | apply Kd.qn_ | apply Kd.qm_ | apply Kd.V_drew)); exact Kd.V_mono (Kd.V_far (p := ⟨gb123, 1, none⟩) (Kd.V_far (p := ⟨gb123, 0, none⟩) (Kd.V_mono HO121.out (fun k_ hk => (⟨hk, hk.2⟩ : _ ∧ k_ ≠ gb123))) (fun _ hk => hk.2) (.int .i64 t118)) (fun _ hk => hk.2) (.slice Ao79 t119.length co79)) (fun _ hk => ⟨hk.1.1.1, ⟨hk.1.1.2.1, ⟨hk.1.1.2.2.1, ⟨hk.1.1.2.2.2.1, ⟨hk.1.1.2.2.2.2.1, ⟨hk.1.1.2.2.2.2.2, hk.1.2⟩⟩⟩⟩⟩⟩)⟩
            have n3_ : Aside0 (((w72.setCell ⟨gb123, 0, none⟩ (.int .i64 t118)).setCell ⟨gb123, 1, none⟩ (.slice Ao79 t119.length co79)).heap[gb101]? = some (.cells #[.int .i64 a0_0, .slice A0_1 l0_1.length c0_1] 27 (0, 0))) := ⟨by (with_reducible repeat (first | refine qc_ ?_ _ | refine qe_ ?_ | refine qd_ ?_ _)); refine blk_far ?_ NB101_123.out _; (with_reducible repeat (first | refine qc_ ?_ _ | refine qe_ ?_ | refine qd_ ?_ _)); refine blk_far ?_ NB101_123.out _; (with_reducible repeat (first | refine qc_ ?_ _ | refine qe_ ?_ | refine qd_ ?_ _)); exact BK101.out⟩
            have n4_ : Aside0 (((w72.setCell ⟨gb123, 0, none⟩ (.int .i64 t118)).setCell ⟨gb123, 1, none⟩ (.slice Ao79 t119.length co79)).heap[gb102]? = some (.cells #[.int .i64 a1_0, .slice A1_1 l1_1.length c1_1] 27 (0, 0))) := ⟨by (with_reducible repeat (first | refine qc_ ?_ _ | refine qe_ ?_ | refine qd_ ?_ _)); refine blk_far ?_ NB102_123.out _; (with_reducible repeat (first | refine qc_ ?_ _ | refine qe_ ?_ | refine qd_ ?_ _)); refine blk_far ?_ NB102_123.out _; (with_reducible repeat (first | refine qc_ ?_ _ | refine qe_ ?_ | refine qd_ ?_ _)); exact BK102.out⟩
            have n5_ : Aside0 (((w72.setCell ⟨gb123, 0, none⟩ (.int .i64 t118)).setCell ⟨gb123, 1, none⟩ (.slice Ao79 t119.length co79)).heap[gb103]? = some (.cells #[.int .i64 a2_0, .int .i64 a2_1, .int .i64 a2_2] 39 (0, 0))) := ⟨by (with_reducible repeat (first | refine qc_ ?_ _ | refine qe_ ?_ | refine qd_ ?_ _)); refine blk_far ?_ NB103_123.out _; (with_reducible repeat (first | refine qc_ ?_ _ | refine qe_ ?_ | refine qd_ ?_ _)); refine blk_far ?_ NB103_123.out _; (with_reducible repeat (first | refine qc_ ?_ _ | refine qe_ ?_ | refine qd_ ?_ _)); exact BK103.out⟩
            have n6_ : Aside0 (((w72.setCell ⟨gb123, 0, none⟩ (.int .i64 t118)).setCell ⟨gb123, 1, none⟩ (.slice Ao79 t119.length co79)).heap[gb111]? = some (.cells #[.int .i64 a0_0, .slice Ao48 y108.length co48] 27 (0, 0))) := ⟨by (with_reducible repeat (first | refine qc_ ?_ _ | refine qe_ ?_ | refine qd_ ?_ _)); refine blk_far ?_ NB111_123.out _; (with_reducible repeat (first | refine qc_ ?_ _ | refine qe_ ?_ | refine qd_ ?_ _)); refine blk_far ?_ NB111_123.out _; (with_reducible repeat (first | refine qc_ ?_ _ | refine qe_ ?_ | refine qd_ ?_ _)); exact BK111.out⟩
            have n7_ : Aside0 (((w72.setCell ⟨gb123, 0, none⟩ (.int .i64 t118)).setCell ⟨gb123, 1, none⟩ (.slice Ao79 t119.length co79)).heap[gb117]? = some (.cells #[.int .i64 t112, .slice Ao66 t113.length co66] 27 (0, 0))) := ⟨by (with_reducible repeat (first | refine qc_ ?_ _ | refine qe_ ?_ | refine qd_ ?_ _)); refine blk_far ?_ NB117_123.out _; (with_reducible repeat (first | refine qc_ ?_ _ | refine qe_ ?_ | refine qd_ ?_ _)); refine blk_far ?_ NB117_123.out _; (with_reducible repeat (first | refine qc_ ?_ _ | refine qe_ ?_ | refine qd_ ?_ _)); exact BK117.out⟩
            have n8_ : Aside0 (((w72.setCell ⟨gb123, 0, none⟩ (.int .i64 t118)).setCell ⟨gb123, 1, none⟩ (.slice Ao79 t119.length co79)).heap[gb123]? = some (.cells #[.int .i64 t118, .slice Ao79 t119.length co79] 27 (0, 0))) := ⟨by (with_reducible repeat (first | refine qc_ ?_ _ | refine qe_ ?_ | refine qd_ ?_ _)); refine blk_put (cs := #[.int .i64 t118, .slice none 0 0]) ?_ 1 _ rfl; (with_reducible repeat (first | refine qc_ ?_ _ | refine qe_ ?_ | refine qd_ ?_ _)); refine blk_put (cs := #[.int .i64 0, .slice none 0 0]) ?_ 0 _ rfl; (with_reducible repeat (first | refine qc_ ?_ _ | refine qe_ ?_ | refine qd_ ?_ _)); exact BK123.out⟩
            have n9_ : Aside0 (Below w.heap.size w ((w72.setCell ⟨gb123, 0, none⟩ (.int .i64 t118)).setCell ⟨gb123, 1, none⟩ (.slice Ao79 t119.length co79))) := ⟨by repeat (first | (with_reducible first | exact HB.out | apply qf_ | apply qa_ | apply qg_ | refine qb_ ?_ GE101.out | refine qb_ ?_ GE102.out | refine qb_ ?_ GE103.out | refine qb_ ?_ GE111.out | refine qb_ ?_ GE117.out | refine qb_ ?_ GE123.out) | exact HB.out)⟩
            (try clear HO110)
            (try clear HO115)
            (try clear HO121)
            (try clear BK101)
            (try clear BK102)
            (try clear BK103)
            (try clear BK111)
            (try clear BK117)
            (try clear BK123)
            (try clear HB)
            generalize ((w72.setCell ⟨gb123, 0, none⟩ (.int .i64 t118)).setCell ⟨gb123, 1, none⟩ (.slice Ao79 t119.length co79)) = w80 at n0_ n1_ n2_ n3_ n4_ n5_ n6_ n7_ n8_ n9_ ⊢
            have HO110 := n0_
            have HO115 := n1_
            have HO121 := n2_
            have BK101 := n3_
            have BK102 := n4_
            have BK103 := n5_
            have BK111 := n6_
            have BK117 := n7_
            have BK123 := n8_
            have HB := n9_
            clear n0_ n1_ n2_ n3_ n4_ n5_ n6_ n7_ n8_ n9_
            have n0_ := Aside0.mk (Kd.R_drew HO110.out)
            have n1_ := Aside0.mk (Kd.V_drew HO115.out)
            have n2_ := Aside0.mk (Kd.V_drew HO121.out)
            have n3_ := Aside0.mk (qe_ BK101.out)
            have n4_ := Aside0.mk (qe_ BK102.out)
            have n5_ := Aside0.mk (qe_ BK103.out)
            have n6_ := Aside0.mk (qe_ BK111.out)
            have n7_ := Aside0.mk (qe_ BK117.out)
            have n8_ := Aside0.mk (qe_ BK123.out)
            have n9_ := Aside0.mk (qg_ HB.out)
            clear HO110
            clear HO115
            clear HO121
            clear BK101
            clear BK102
            clear BK103
            clear BK111
            clear BK117
            clear BK123
            clear HB
            have HO110 := n0_
            have HO115 := n1_
            have HO121 := n2_
            have BK101 := n3_
            have BK102 := n4_
            have BK103 := n5_
            have BK111 := n6_
            have BK117 := n7_
            have BK123 := n8_
            have HB := n9_
            clear n0_ n1_ n2_ n3_ n4_ n5_ n6_ n7_ n8_ n9_
            refine start_ (n := 46) (S := fun w' => w'.cell? ⟨gb117, 0, none⟩ = some (.int .i64 t112) ∧ w'.cell? ⟨gb117, 1, none⟩ = some (.slice Ao66 t113.length co66) ∧ w'.cell? ⟨gb123, 0, none⟩ = some (.int .i64 t118) ∧ w'.cell? ⟨gb123, 1, none⟩ = some (.slice Ao79 t119.length co79) ∧ w'.cell? ⟨gb101, 0, none⟩ = some (.int .i64 a0_0) ∧ w'.cell? ⟨gb101, 1, none⟩ = some (.slice A0_1 l0_1.length c0_1) ∧ w'.cell? ⟨gb103, 0, none⟩ = some (.int .i64 a2_0) ∧ w'.cell? ⟨gb103, 1, none⟩ = some (.int .i64 a2_1) ∧ w'.cell? ⟨gb103, 2, none⟩ = some (.int .i64 a2_2) ∧ w'.cell? ⟨gb102, 0, none⟩ = some (.int .i64 a1_0) ∧ w'.cell? ⟨gb102, 1, none⟩ = some (.slice A1_1 l1_1.length c1_1) ∧ w'.cell? ⟨gb111, 0, none⟩ = some (.int .i64 a0_0) ∧ w'.cell? ⟨gb111, 1, none⟩ = some (.slice Ao48 y108.length co48)) (ds := []) #[false,false,false,false,false,false,false,false,false,false,false,false,false,false,false,false,false,false,false,false,false,false,false,false,false,false,false,false,false,false,false,false,false,false,false,false,false,false,false,false,false,false,false,false,false,false] (by kernel_rfl) rfl rfl ⟨(qh_ BK117.out 0).trans rfl, (qh_ BK117.out 1).trans rfl, (qh_ BK123.out 0).trans rfl, (qh_ BK123.out 1).trans rfl, (qh_ BK101.out 0).trans rfl, (qh_ BK101.out 1).trans rfl, (qh_ BK103.out 0).trans rfl, (qh_ BK103.out 1).trans rfl, (qh_ BK103.out 2).trans rfl, (qh_ BK102.out 0).trans rfl, (qh_ BK102.out 1).trans rfl, (qh_ BK111.out 0).trans rfl, (qh_ BK111.out 1).trans rfl⟩ (fun hHeld => ?_); refine with_tabW law10_WindowArrives.tab8 law10_WindowArrives.bits8 (fun HT_ HW_ => ?_)
            generalize w80.drew = w81 at HO110 HO115 HO121 BK101 BK102 BK103 BK111 BK117 BK123 HB hHeld ⊢
            refine take_ (i := 0) (N := some 49) (v := ?_) (a' := ?_) #[true,false,false,false,false,false,false,false,false,false,false,false,false,false,false,false,false,false,false,false,false,false,false,false,false,false,false,false,false,false,false,false,false,false,false,false,false,false,false,false,false,false,false,false,false,false] rfl rfl (take_ofW HT_.out HW_.out (by kernel_rfl)) (fun _ _ _ h => h) (Or.inl ⟨by rfl, ?_⟩) hHeld ?_ ?_
            rotate_left
            ·rintro w' ⟨s0, s1, s2, s3, s4, s5, s6, s7, s8, s9, s10, s11, s12⟩
             go_simp
             with_reducible rfl
            rotate_left
            ·simp only [Act.put, sa_, sb_, sc_, i64_w, i32_w]
             rfl
            refine take_ (i := 1) (N := some 50) (v := ?_) (a' := ?_) #[true,true,false,false,false,false,false,false,false,false,false,false,false,false,false,false,false,false,false,false,false,false,false,false,false,false,false,false,false,false,false,false,false,false,false,false,false,false,false,false,false,false,false,false,false,false] rfl rfl (take_ofW HT_.out HW_.out (by kernel_rfl)) (fun _ _ _ h => h) (Or.inl ⟨by rfl, ?_⟩) hHeld ?_ ?_
            rotate_left
            ·rintro w' ⟨s0, s1, s2, s3, s4, s5, s6, s7, s8, s9, s10, s11, s12⟩
             go_simp
             with_reducible rfl
            rotate_left
            ·simp only [Act.put, sa_, sb_, sc_, i64_w, i32_w]
             rfl
            refine one_ (i := 2) (N := some 51) #[true,true,true,false,false,false,false,false,false,false,false,false,false,false,false,false,false,false,false,false,false,false,false,false,false,false,false,false,false,false,false,false,false,false,false,false,false,false,false,false,false,false,false,false,false,false] rfl rfl (one_of HT_.out (by kernel_rfl)) (by decide) (fun K hK => ?_)
            refine goes_ Try.func15 (by kernel_rfl) rfl #[.agg #[.int .i64 t112, .slice Ao66 t113.length co66], .agg #[.int .i64 t118, .slice Ao79 t119.length co79]] (by rfl) rfl rfl (by (try simp only [List.map_toArray, List.map_cons, List.map_nil]); first | done | rfl | (simp only [List.length_drop, List.length_take]; rfl)) ?_
            with_reducible refine (ref10_Same.calls kj5 t112 _ _ t113 t118 _ _ t119 true _ ?side1 ?side2 ?side3 ?side4 A24.out).mono ?_
            (case side1 => repeat (first | exact (Kd.V_reads' HO115.out).2.2 | (with_reducible refine Kd.C_alloc ?_ _) | (with_reducible refine Kd.C_drewN ?_ _) | (with_reducible refine Kd.C_drew ?_)))
            (case side2 => exact (Kd.V_reads' HO115.out).2.1)
            (case side3 => repeat (first | exact (Kd.V_reads' HO121.out).2.2 | (with_reducible refine Kd.C_alloc ?_ _) | (with_reducible refine Kd.C_drewN ?_ _) | (with_reducible refine Kd.C_drew ?_)))
            (case side4 => exact (Kd.V_reads' HO121.out).2.1)
            rintro e w82 ⟨rfl, hb⟩
            refine ⟨_, rfl, ?_⟩
            have n0_ := Aside0.mk (Kd.R_below (by (with_reducible repeat (first | apply Kd.R_alloc | apply Kd.R_drewN | apply Kd.R_drew)); exact HO110.out) hb)
            have n1_ := Aside0.mk (Kd.V_below (by (with_reducible repeat (first | apply Kd.qn_ | apply Kd.qm_ | apply Kd.V_drew)); exact HO115.out) hb)
            have n2_ := Aside0.mk (Kd.V_below (by (with_reducible repeat (first | apply Kd.qn_ | apply Kd.qm_ | apply Kd.V_drew)); exact HO121.out) hb)
            have n3_ := Aside0.mk (qj_ (g := gb101) (o := .cells #[.int .i64 a0_0, .slice A0_1 l0_1.length c0_1] 27 (0, 0)) (by (with_reducible repeat (first | refine qc_ ?_ _ | refine qe_ ?_ | refine qd_ ?_ _)); exact BK101.out) hb)
            have n4_ := Aside0.mk (qj_ (g := gb102) (o := .cells #[.int .i64 a1_0, .slice A1_1 l1_1.length c1_1] 27 (0, 0)) (by (with_reducible repeat (first | refine qc_ ?_ _ | refine qe_ ?_ | refine qd_ ?_ _)); exact BK102.out) hb)
            have n5_ := Aside0.mk (qj_ (g := gb103) (o := .cells #[.int .i64 a2_0, .int .i64 a2_1, .int .i64 a2_2] 39 (0, 0)) (by (with_reducible repeat (first | refine qc_ ?_ _ | refine qe_ ?_ | refine qd_ ?_ _)); exact BK103.out) hb)
            have n6_ := Aside0.mk (qj_ (g := gb111) (o := .cells #[.int .i64 a0_0, .slice Ao48 y108.length co48] 27 (0, 0)) (by (with_reducible repeat (first | refine qc_ ?_ _ | refine qe_ ?_ | refine qd_ ?_ _)); exact BK111.out) hb)
            have n7_ := Aside0.mk (qj_ (g := gb117) (o := .cells #[.int .i64 t112, .slice Ao66 t113.length co66] 27 (0, 0)) (by (with_reducible repeat (first | refine qc_ ?_ _ | refine qe_ ?_ | refine qd_ ?_ _)); exact BK117.out) hb)
            have n8_ := Aside0.mk (qj_ (g := gb123) (o := .cells #[.int .i64 t118, .slice Ao79 t119.length co79] 27 (0, 0)) (by (with_reducible repeat (first | refine qc_ ?_ _ | refine qe_ ?_ | refine qd_ ?_ _)); exact BK123.out) hb)
            have n9_ := Aside0.mk (ql_ (by repeat (first | (with_reducible first | exact HB.out | apply qf_ | apply qa_ | apply qg_ | refine qb_ ?_ GE101.out | refine qb_ ?_ GE102.out | refine qb_ ?_ GE103.out | refine qb_ ?_ GE111.out | refine qb_ ?_ GE117.out | refine qb_ ?_ GE123.out) | exact HB.out)) hb)
            clear HO110
            clear HO115
            clear HO121
            clear BK101
            clear BK102
            clear BK103
            clear BK111
            clear BK117
            clear BK123
            clear HB
            have HO110 := n0_
            have HO115 := n1_
            have HO121 := n2_
            have BK101 := n3_
            have BK102 := n4_
            have BK103 := n5_
            have BK111 := n6_
            have BK117 := n7_
            have BK123 := n8_
            have HB := n9_
            clear n0_ n1_ n2_ n3_ n4_ n5_ n6_ n7_ n8_ n9_
            (try clear hb)
            (try clear hb2)
            (try clear hk)
            (try clear hi)
            refine hK.out _ _ ⟨(qh_ BK117.out 0).trans rfl, (qh_ BK117.out 1).trans rfl, (qh_ BK123.out 0).trans rfl, (qh_ BK123.out 1).trans rfl, (qh_ BK101.out 0).trans rfl, (qh_ BK101.out 1).trans rfl, (qh_ BK103.out 0).trans rfl, (qh_ BK103.out 1).trans rfl, (qh_ BK103.out 2).trans rfl, (qh_ BK102.out 0).trans rfl, (qh_ BK102.out 1).trans rfl, (qh_ BK111.out 0).trans rfl, (qh_ BK111.out 1).trans rfl⟩ (fun hHeld => ?_)
            clear hK K
            refine norm_ (a' := ?_) ?_ ?_
            rotate_left
            ·show Act.put _ (some 51) _ = _
             simp only [Act.put, sa_, sb_, sc_, i64_w, i32_w]
             rfl
            refine pure_ (i := 3) (N := some 52) (v := ?_) (a' := ?_) #[true,true,true,true,false,false,false,false,false,false,false,false,false,false,false,false,false,false,false,false,false,false,false,false,false,false,false,false,false,false,false,false,false,false,false,false,false,false,false,false,false,false,false,false,false,false] rfl rfl (any_of HT_.out (by kernel_rfl)) (fun _ _ _ h => h) (Or.inl ⟨by rfl, ?_⟩) ?_ ?_
            rotate_left
            ·intro w'
             go_simp
             with_reducible rfl
            rotate_left
            ·simp only [Act.put, sa_, sb_, sc_, i64_w, i32_w]
             rfl
            refine pure_ (i := 4) (N := some 53) (v := ?_) (a' := ?_) #[true,true,true,true,true,false,false,false,false,false,false,false,false,false,false,false,false,false,false,false,false,false,false,false,false,false,false,false,false,false,false,false,false,false,false,false,false,false,false,false,false,false,false,false,false,false] rfl rfl (any_of HT_.out (by kernel_rfl)) (fun _ _ _ h => h) (Or.inl ⟨by rfl, ?_⟩) ?_ ?_
            rotate_left
            ·intro w'
             go_simp
             with_reducible rfl
            rotate_left
            ·simp only [Act.put, sa_, sb_, sc_, i64_w, i32_w]
             rfl
            refine pure_ (i := 5) (N := some 54) (v := ?_) (a' := ?_) #[true,true,true,true,true,true,false,false,false,false,false,false,false,false,false,false,false,false,false,false,false,false,false,false,false,false,false,false,false,false,false,false,false,false,false,false,false,false,false,false,false,false,false,false,false,false] rfl rfl (any_of HT_.out (by kernel_rfl)) (fun _ _ _ h => h) (Or.inl ⟨by rfl, ?_⟩) ?_ ?_
            rotate_left
            ·intro w'
             go_simp
             with_reducible rfl
            rotate_left
            ·simp only [Act.put, sa_, sb_, sc_, i64_w, i32_w]
             rfl
            refine pure_ (i := 6) (N := some 55) (v := ?_) (a' := ?_) #[true,true,true,true,true,true,true,false,false,false,false,false,false,false,false,false,false,false,false,false,false,false,false,false,false,false,false,false,false,false,false,false,false,false,false,false,false,false,false,false,false,false,false,false,false,false] rfl rfl (any_of HT_.out (by kernel_rfl)) (fun _ _ _ h => h) (Or.inl ⟨by rfl, ?_⟩) ?_ ?_
            rotate_left
            ·intro w'
             go_simp
             with_reducible rfl
            rotate_left
            ·simp only [Act.put, sa_, sb_, sc_, i64_w, i32_w]
             rfl
            refine pure_ (i := 7) (N := some 56) (v := ?_) (a' := ?_) #[true,true,true,true,true,true,true,true,false,false,false,false,false,false,false,false,false,false,false,false,false,false,false,false,false,false,false,false,false,false,false,false,false,false,false,false,false,false,false,false,false,false,false,false,false,false] rfl rfl (any_of HT_.out (by kernel_rfl)) (fun _ _ _ h => h) (Or.inl ⟨by rfl, ?_⟩) ?_ ?_
            rotate_left
            ·intro w'
             go_simp
             with_reducible rfl
            rotate_left
            ·simp only [Act.put, sa_, sb_, sc_, i64_w, i32_w]
             rfl
            refine pure_ (i := 8) (N := some 57) (v := ?_) (a' := ?_) #[true,true,true,true,true,true,true,true,true,false,false,false,false,false,false,false,false,false,false,false,false,false,false,false,false,false,false,false,false,false,false,false,false,false,false,false,false,false,false,false,false,false,false,false,false,false] rfl rfl (any_of HT_.out (by kernel_rfl)) (fun _ _ _ h => h) (Or.inl ⟨by rfl, ?_⟩) ?_ ?_
            rotate_left
            ·intro w'
             go_simp
             with_reducible rfl
            rotate_left
            ·simp only [Act.put, sa_, sb_, sc_, i64_w, i32_w]
             rfl
            refine pure_ (i := 10) (N := some 59) (v := ?_) (a' := ?_) #[true,true,true,true,true,true,true,true,true,false,true,false,false,false,false,false,false,false,false,false,false,false,false,false,false,false,false,false,false,false,false,false,false,false,false,false,false,false,false,false,false,false,false,false,false,false] rfl rfl (any_of HT_.out (by kernel_rfl)) (fun _ _ _ h => h) (Or.inl ⟨by rfl, ?_⟩) ?_ ?_
            rotate_left
            ·intro w'
             go_simp
             with_reducible rfl
            rotate_left
            ·simp only [Act.put, sa_, sb_, sc_, i64_w, i32_w]
             rfl
            refine pure_ (i := 14) (N := some 63) (v := ?_) (a' := ?_) #[true,true,true,true,true,true,true,true,true,false,true,false,false,false,true,false,false,false,false,false,false,false,false,false,false,false,false,false,false,false,false,false,false,false,false,false,false,false,false,false,false,false,false,false,false,false] rfl rfl (any_of HT_.out (by kernel_rfl)) (fun _ _ _ h => h) (Or.inl ⟨by rfl, ?_⟩) ?_ ?_
            rotate_left
            ·intro w'
             go_simp
             with_reducible rfl
            rotate_left
            ·simp only [Act.put, sa_, sb_, sc_, i64_w, i32_w]
             rfl
            refine take_ (i := 9) (N := some 58) (v := ?_) (a' := ?_) #[true,true,true,true,true,true,true,true,true,true,true,false,false,false,true,false,false,false,false,false,false,false,false,false,false,false,false,false,false,false,false,false,false,false,false,false,false,false,false,false,false,false,false,false,false,false] rfl rfl (take_ofW HT_.out HW_.out (by kernel_rfl)) (fun _ _ _ h => h) (Or.inl ⟨by rfl, ?_⟩) hHeld ?_ ?_
            rotate_left
            ·rintro w' ⟨s0, s1, s2, s3, s4, s5, s6, s7, s8, s9, s10, s11, s12⟩
             go_simp
             with_reducible rfl
            rotate_left
            ·simp only [Act.put, sa_, sb_, sc_, i64_w, i32_w]
             rfl
            refine take_ (i := 11) (N := some 60) (v := ?_) (a' := ?_) #[true,true,true,true,true,true,true,true,true,true,true,true,false,false,true,false,false,false,false,false,false,false,false,false,false,false,false,false,false,false,false,false,false,false,false,false,false,false,false,false,false,false,false,false,false,false] rfl rfl (take_ofW HT_.out HW_.out (by kernel_rfl)) (fun _ _ _ h => h) (Or.inl ⟨by rfl, ?_⟩) hHeld ?_ ?_
            rotate_left
            ·rintro w' ⟨s0, s1, s2, s3, s4, s5, s6, s7, s8, s9, s10, s11, s12⟩
             go_simp
             with_reducible rfl
            rotate_left
            ·simp only [Act.put, sa_, sb_, sc_, i64_w, i32_w]
             rfl
            refine take_ (i := 13) (N := some 62) (v := ?_) (a' := ?_) #[true,true,true,true,true,true,true,true,true,true,true,true,false,true,true,false,false,false,false,false,false,false,false,false,false,false,false,false,false,false,false,false,false,false,false,false,false,false,false,false,false,false,false,false,false,false] rfl rfl (take_ofW HT_.out HW_.out (by kernel_rfl)) (fun _ _ _ h => h) (Or.inl ⟨by rfl, ?_⟩) hHeld ?_ ?_
            rotate_left
            ·rintro w' ⟨s0, s1, s2, s3, s4, s5, s6, s7, s8, s9, s10, s11, s12⟩
             go_simp
             with_reducible rfl
            rotate_left
            ·simp only [Act.put, sa_, sb_, sc_, i64_w, i32_w]
             rfl
            refine take_ (i := 15) (N := some 64) (v := ?_) (a' := ?_) #[true,true,true,true,true,true,true,true,true,true,true,true,false,true,true,true,false,false,false,false,false,false,false,false,false,false,false,false,false,false,false,false,false,false,false,false,false,false,false,false,false,false,false,false,false,false] rfl rfl (take_ofW HT_.out HW_.out (by kernel_rfl)) (fun _ _ _ h => h) (Or.inl ⟨by rfl, ?_⟩) hHeld ?_ ?_
            rotate_left
            ·rintro w' ⟨s0, s1, s2, s3, s4, s5, s6, s7, s8, s9, s10, s11, s12⟩
             go_simp
             with_reducible rfl
            rotate_left
            ·simp only [Act.put, sa_, sb_, sc_, i64_w, i32_w]
             rfl
            refine one_ (i := 12) (N := some 61) #[true,true,true,true,true,true,true,true,true,true,true,true,true,true,true,true,false,false,false,false,false,false,false,false,false,false,false,false,false,false,false,false,false,false,false,false,false,false,false,false,false,false,false,false,false,false] rfl rfl (one_of HT_.out (by kernel_rfl)) (by decide) (fun K hK => ?_)
            refine goes_ Try.func11 (by kernel_rfl) rfl #[.agg #[.int .i64 a0_0, .slice A0_1 l0_1.length c0_1], .int .i64 a2_2] (by rfl) rfl rfl (by (try simp only [List.map_toArray, List.map_cons, List.map_nil]); first | done | rfl | (simp only [List.length_drop, List.length_take]; rfl)) ?_
            with_reducible refine (window_Mean.calls kj5 a0_0 _ _ l0_1 a2_2 t125 _ ?side1 ?side2 A27.out).mono ?_
            (case side1 => repeat (first | exact (Kd.C_below HR0_1.out HB.out) | (with_reducible refine Kd.C_alloc ?_ _) | (with_reducible refine Kd.C_drewN ?_ _) | (with_reducible refine Kd.C_drew ?_)))
            (case side2 => exact HC0_1.out)
            rintro e w83 ⟨rfl, hb⟩
            refine ⟨_, rfl, ?_⟩
            have n0_ := Aside0.mk (Kd.R_below (by (with_reducible repeat (first | apply Kd.R_alloc | apply Kd.R_drewN | apply Kd.R_drew)); exact HO110.out) hb)
            have n1_ := Aside0.mk (Kd.V_below (by (with_reducible repeat (first | apply Kd.qn_ | apply Kd.qm_ | apply Kd.V_drew)); exact HO115.out) hb)
            have n2_ := Aside0.mk (Kd.V_below (by (with_reducible repeat (first | apply Kd.qn_ | apply Kd.qm_ | apply Kd.V_drew)); exact HO121.out) hb)
            have n3_ := Aside0.mk (qj_ (g := gb101) (o := .cells #[.int .i64 a0_0, .slice A0_1 l0_1.length c0_1] 27 (0, 0)) (by (with_reducible repeat (first | refine qc_ ?_ _ | refine qe_ ?_ | refine qd_ ?_ _)); exact BK101.out) hb)
            have n4_ := Aside0.mk (qj_ (g := gb102) (o := .cells #[.int .i64 a1_0, .slice A1_1 l1_1.length c1_1] 27 (0, 0)) (by (with_reducible repeat (first | refine qc_ ?_ _ | refine qe_ ?_ | refine qd_ ?_ _)); exact BK102.out) hb)
            have n5_ := Aside0.mk (qj_ (g := gb103) (o := .cells #[.int .i64 a2_0, .int .i64 a2_1, .int .i64 a2_2] 39 (0, 0)) (by (with_reducible repeat (first | refine qc_ ?_ _ | refine qe_ ?_ | refine qd_ ?_ _)); exact BK103.out) hb)
            have n6_ := Aside0.mk (qj_ (g := gb111) (o := .cells #[.int .i64 a0_0, .slice Ao48 y108.length co48] 27 (0, 0)) (by (with_reducible repeat (first | refine qc_ ?_ _ | refine qe_ ?_ | refine qd_ ?_ _)); exact BK111.out) hb)
            have n7_ := Aside0.mk (qj_ (g := gb117) (o := .cells #[.int .i64 t112, .slice Ao66 t113.length co66] 27 (0, 0)) (by (with_reducible repeat (first | refine qc_ ?_ _ | refine qe_ ?_ | refine qd_ ?_ _)); exact BK117.out) hb)
            have n8_ := Aside0.mk (qj_ (g := gb123) (o := .cells #[.int .i64 t118, .slice Ao79 t119.length co79] 27 (0, 0)) (by (with_reducible repeat (first | refine qc_ ?_ _ | refine qe_ ?_ | refine qd_ ?_ _)); exact BK123.out) hb)
            have n9_ := Aside0.mk (ql_ (by repeat (first | (with_reducible first | exact HB.out | apply qf_ | apply qa_ | apply qg_ | refine qb_ ?_ GE101.out | refine qb_ ?_ GE102.out | refine qb_ ?_ GE103.out | refine qb_ ?_ GE111.out | refine qb_ ?_ GE117.out | refine qb_ ?_ GE123.out) | exact HB.out)) hb)
            clear HO110
            clear HO115
            clear HO121
            clear BK101
            clear BK102
            clear BK103
            clear BK111
            clear BK117
            clear BK123
            clear HB
            have HO110 := n0_
            have HO115 := n1_
            have HO121 := n2_
            have BK101 := n3_
            have BK102 := n4_
            have BK103 := n5_
            have BK111 := n6_
            have BK117 := n7_
            have BK123 := n8_
            have HB := n9_
            clear n0_ n1_ n2_ n3_ n4_ n5_ n6_ n7_ n8_ n9_
            (try clear hb)
            (try clear hb2)
            (try clear hk)
            (try clear hi)
            refine hK.out _ _ ⟨(qh_ BK117.out 0).trans rfl, (qh_ BK117.out 1).trans rfl, (qh_ BK123.out 0).trans rfl, (qh_ BK123.out 1).trans rfl, (qh_ BK101.out 0).trans rfl, (qh_ BK101.out 1).trans rfl, (qh_ BK103.out 0).trans rfl, (qh_ BK103.out 1).trans rfl, (qh_ BK103.out 2).trans rfl, (qh_ BK102.out 0).trans rfl, (qh_ BK102.out 1).trans rfl, (qh_ BK111.out 0).trans rfl, (qh_ BK111.out 1).trans rfl⟩ (fun hHeld => ?_)
            clear hK K
            refine norm_ (a' := ?_) ?_ ?_
            rotate_left
            ·show Act.put _ (some 61) _ = _
             simp only [Act.put, sa_, sb_, sc_, i64_w, i32_w]
             rfl
            refine one_ (i := 16) (N := some 65) #[true,true,true,true,true,true,true,true,true,true,true,true,true,true,true,true,true,false,false,false,false,false,false,false,false,false,false,false,false,false,false,false,false,false,false,false,false,false,false,false,false,false,false,false,false,false] rfl rfl (one_of HT_.out (by kernel_rfl)) (by decide) (fun K hK => ?_)
            refine goes_ Try.func16 (by kernel_rfl) rfl #[.agg #[.int .i64 a0_0, .slice A0_1 l0_1.length c0_1], .int .i64 a2_2] (by rfl) rfl rfl (by (try simp only [List.map_toArray, List.map_cons, List.map_nil]); first | done | rfl | (simp only [List.length_drop, List.length_take]; rfl)) ?_
            with_reducible refine (ref10_Mean.calls kj5 a0_0 _ _ l0_1 a2_2 t126 _ ?side1 ?side2 A28.out).mono ?_
            (case side1 => repeat (first | exact (Kd.C_below HR0_1.out HB.out) | (with_reducible refine Kd.C_alloc ?_ _) | (with_reducible refine Kd.C_drewN ?_ _) | (with_reducible refine Kd.C_drew ?_)))
            (case side2 => exact HC0_1.out)
            rintro e w84 ⟨rfl, hb⟩
            refine ⟨_, rfl, ?_⟩
            have n0_ := Aside0.mk (Kd.R_below (by (with_reducible repeat (first | apply Kd.R_alloc | apply Kd.R_drewN | apply Kd.R_drew)); exact HO110.out) hb)
            have n1_ := Aside0.mk (Kd.V_below (by (with_reducible repeat (first | apply Kd.qn_ | apply Kd.qm_ | apply Kd.V_drew)); exact HO115.out) hb)
            have n2_ := Aside0.mk (Kd.V_below (by (with_reducible repeat (first | apply Kd.qn_ | apply Kd.qm_ | apply Kd.V_drew)); exact HO121.out) hb)
            have n3_ := Aside0.mk (qj_ (g := gb101) (o := .cells #[.int .i64 a0_0, .slice A0_1 l0_1.length c0_1] 27 (0, 0)) (by (with_reducible repeat (first | refine qc_ ?_ _ | refine qe_ ?_ | refine qd_ ?_ _)); exact BK101.out) hb)
            have n4_ := Aside0.mk (qj_ (g := gb102) (o := .cells #[.int .i64 a1_0, .slice A1_1 l1_1.length c1_1] 27 (0, 0)) (by (with_reducible repeat (first | refine qc_ ?_ _ | refine qe_ ?_ | refine qd_ ?_ _)); exact BK102.out) hb)
            have n5_ := Aside0.mk (qj_ (g := gb103) (o := .cells #[.int .i64 a2_0, .int .i64 a2_1, .int .i64 a2_2] 39 (0, 0)) (by (with_reducible repeat (first | refine qc_ ?_ _ | refine qe_ ?_ | refine qd_ ?_ _)); exact BK103.out) hb)
            have n6_ := Aside0.mk (qj_ (g := gb111) (o := .cells #[.int .i64 a0_0, .slice Ao48 y108.length co48] 27 (0, 0)) (by (with_reducible repeat (first | refine qc_ ?_ _ | refine qe_ ?_ | refine qd_ ?_ _)); exact BK111.out) hb)
            have n7_ := Aside0.mk (qj_ (g := gb117) (o := .cells #[.int .i64 t112, .slice Ao66 t113.length co66] 27 (0, 0)) (by (with_reducible repeat (first | refine qc_ ?_ _ | refine qe_ ?_ | refine qd_ ?_ _)); exact BK117.out) hb)
            have n8_ := Aside0.mk (qj_ (g := gb123) (o := .cells #[.int .i64 t118, .slice Ao79 t119.length co79] 27 (0, 0)) (by (with_reducible repeat (first | refine qc_ ?_ _ | refine qe_ ?_ | refine qd_ ?_ _)); exact BK123.out) hb)
            have n9_ := Aside0.mk (ql_ (by repeat (first | (with_reducible first | exact HB.out | apply qf_ | apply qa_ | apply qg_ | refine qb_ ?_ GE101.out | refine qb_ ?_ GE102.out | refine qb_ ?_ GE103.out | refine qb_ ?_ GE111.out | refine qb_ ?_ GE117.out | refine qb_ ?_ GE123.out) | exact HB.out)) hb)
            clear HO110
            clear HO115
            clear HO121
            clear BK101
            clear BK102
            clear BK103
            clear BK111
            clear BK117
            clear BK123
            clear HB
            have HO110 := n0_
            have HO115 := n1_
            have HO121 := n2_
            have BK101 := n3_
            have BK102 := n4_
            have BK103 := n5_
            have BK111 := n6_
            have BK117 := n7_
            have BK123 := n8_
            have HB := n9_
            clear n0_ n1_ n2_ n3_ n4_ n5_ n6_ n7_ n8_ n9_
            (try clear hb)
            (try clear hb2)
            (try clear hk)
            (try clear hi)
            refine hK.out _ _ ⟨(qh_ BK117.out 0).trans rfl, (qh_ BK117.out 1).trans rfl, (qh_ BK123.out 0).trans rfl, (qh_ BK123.out 1).trans rfl, (qh_ BK101.out 0).trans rfl, (qh_ BK101.out 1).trans rfl, (qh_ BK103.out 0).trans rfl, (qh_ BK103.out 1).trans rfl, (qh_ BK103.out 2).trans rfl, (qh_ BK102.out 0).trans rfl, (qh_ BK102.out 1).trans rfl, (qh_ BK111.out 0).trans rfl, (qh_ BK111.out 1).trans rfl⟩ (fun hHeld => ?_)
            clear hK K
            refine norm_ (a' := ?_) ?_ ?_
            rotate_left
            ·show Act.put _ (some 65) _ = _
             simp only [Act.put, sa_, sb_, sc_, i64_w, i32_w]
             rfl
            refine pure_ (i := 17) (N := some 66) (v := ?_) (a' := ?_) #[true,true,true,true,true,true,true,true,true,true,true,true,true,true,true,true,true,true,false,false,false,false,false,false,false,false,false,false,false,false,false,false,false,false,false,false,false,false,false,false,false,false,false,false,false,false] rfl rfl (any_of HT_.out (by kernel_rfl)) (fun _ _ _ h => h) (Or.inl ⟨by rfl, ?_⟩) ?_ ?_
            rotate_left
            ·intro w'
             go_simp
             with_reducible rfl
            rotate_left
            ·simp only [Act.put, sa_, sb_, sc_, i64_w, i32_w]
             rfl
            refine pure_ (i := 18) (N := some 67) (v := ?_) (a' := ?_) #[true,true,true,true,true,true,true,true,true,true,true,true,true,true,true,true,true,true,true,false,false,false,false,false,false,false,false,false,false,false,false,false,false,false,false,false,false,false,false,false,false,false,false,false,false,false] rfl rfl (any_of HT_.out (by kernel_rfl)) (fun _ _ _ h => h) (Or.inl ⟨by rfl, ?_⟩) ?_ ?_
            rotate_left
            ·intro w'
             go_simp
             with_reducible rfl
            rotate_left
            ·simp only [Act.put, sa_, sb_, sc_, i64_w, i32_w]
             rfl
            refine pure_ (i := 19) (N := some 68) (v := ?_) (a' := ?_) #[true,true,true,true,true,true,true,true,true,true,true,true,true,true,true,true,true,true,true,true,false,false,false,false,false,false,false,false,false,false,false,false,false,false,false,false,false,false,false,false,false,false,false,false,false,false] rfl rfl (any_of HT_.out (by kernel_rfl)) (fun _ _ _ h => h) (Or.inl ⟨by rfl, ?_⟩) ?_ ?_
            rotate_left
            ·intro w'
             go_simp
             with_reducible rfl
            rotate_left
            ·simp only [Act.put, sa_, sb_, sc_, i64_w, i32_w]
             rfl
            refine take_ (i := 20) (N := some 69) (v := ?_) (a' := ?_) #[true,true,true,true,true,true,true,true,true,true,true,true,true,true,true,true,true,true,true,true,true,false,false,false,false,false,false,false,false,false,false,false,false,false,false,false,false,false,false,false,false,false,false,false,false,false] rfl rfl (take_ofW HT_.out HW_.out (by kernel_rfl)) (fun _ _ _ h => h) (Or.inl ⟨by rfl, ?_⟩) hHeld ?_ ?_
            rotate_left
            ·rintro w' ⟨s0, s1, s2, s3, s4, s5, s6, s7, s8, s9, s10, s11, s12⟩
             go_simp
             with_reducible rfl
            rotate_left
            ·simp only [Act.put, sa_, sb_, sc_, i64_w, i32_w]
             rfl
            refine take_ (i := 22) (N := some 71) (v := ?_) (a' := ?_) #[true,true,true,true,true,true,true,true,true,true,true,true,true,true,true,true,true,true,true,true,true,false,true,false,false,false,false,false,false,false,false,false,false,false,false,false,false,false,false,false,false,false,false,false,false,false] rfl rfl (take_ofW HT_.out HW_.out (by kernel_rfl)) (fun _ _ _ h => h) (Or.inl ⟨by rfl, ?_⟩) hHeld ?_ ?_
            rotate_left
            ·rintro w' ⟨s0, s1, s2, s3, s4, s5, s6, s7, s8, s9, s10, s11, s12⟩
             go_simp
             with_reducible rfl
            rotate_left
            ·simp only [Act.put, sa_, sb_, sc_, i64_w, i32_w]
             rfl
            refine one_ (i := 21) (N := some 70) #[true,true,true,true,true,true,true,true,true,true,true,true,true,true,true,true,true,true,true,true,true,true,true,false,false,false,false,false,false,false,false,false,false,false,false,false,false,false,false,false,false,false,false,false,false,false] rfl rfl (one_of HT_.out (by kernel_rfl)) (by decide) (fun K hK => ?_)
            refine goes_ Try.func10 (by kernel_rfl) rfl #[.agg #[.int .i64 a0_0, .slice A0_1 l0_1.length c0_1]] (by rfl) rfl rfl (by (try simp only [List.map_toArray, List.map_cons, List.map_nil]); first | done | rfl | (simp only [List.length_drop, List.length_take]; rfl)) ?_
            with_reducible refine (window_Right.calls a0_0 _ _ l0_1 t127 _ ?side1 ?side2 A30.out).mono ?_
            (case side1 => repeat (first | exact (Kd.C_below HR0_1.out HB.out) | (with_reducible refine Kd.C_alloc ?_ _) | (with_reducible refine Kd.C_drewN ?_ _) | (with_reducible refine Kd.C_drew ?_)))
            (case side2 => exact HC0_1.out)
            rintro e w85 ⟨rfl, hb⟩
            refine ⟨_, rfl, ?_⟩
            have n0_ := Aside0.mk (Kd.R_below (by (with_reducible repeat (first | apply Kd.R_alloc | apply Kd.R_drewN | apply Kd.R_drew)); exact HO110.out) hb)
            have n1_ := Aside0.mk (Kd.V_below (by (with_reducible repeat (first | apply Kd.qn_ | apply Kd.qm_ | apply Kd.V_drew)); exact HO115.out) hb)
            have n2_ := Aside0.mk (Kd.V_below (by (with_reducible repeat (first | apply Kd.qn_ | apply Kd.qm_ | apply Kd.V_drew)); exact HO121.out) hb)
            have n3_ := Aside0.mk (qj_ (g := gb101) (o := .cells #[.int .i64 a0_0, .slice A0_1 l0_1.length c0_1] 27 (0, 0)) (by (with_reducible repeat (first | refine qc_ ?_ _ | refine qe_ ?_ | refine qd_ ?_ _)); exact BK101.out) hb)
            have n4_ := Aside0.mk (qj_ (g := gb102) (o := .cells #[.int .i64 a1_0, .slice A1_1 l1_1.length c1_1] 27 (0, 0)) (by (with_reducible repeat (first | refine qc_ ?_ _ | refine qe_ ?_ | refine qd_ ?_ _)); exact BK102.out) hb)
            have n5_ := Aside0.mk (qj_ (g := gb103) (o := .cells #[.int .i64 a2_0, .int .i64 a2_1, .int .i64 a2_2] 39 (0, 0)) (by (with_reducible repeat (first | refine qc_ ?_ _ | refine qe_ ?_ | refine qd_ ?_ _)); exact BK103.out) hb)
            have n6_ := Aside0.mk (qj_ (g := gb111) (o := .cells #[.int .i64 a0_0, .slice Ao48 y108.length co48] 27 (0, 0)) (by (with_reducible repeat (first | refine qc_ ?_ _ | refine qe_ ?_ | refine qd_ ?_ _)); exact BK111.out) hb)
            have n7_ := Aside0.mk (qj_ (g := gb117) (o := .cells #[.int .i64 t112, .slice Ao66 t113.length co66] 27 (0, 0)) (by (with_reducible repeat (first | refine qc_ ?_ _ | refine qe_ ?_ | refine qd_ ?_ _)); exact BK117.out) hb)
            have n8_ := Aside0.mk (qj_ (g := gb123) (o := .cells #[.int .i64 t118, .slice Ao79 t119.length co79] 27 (0, 0)) (by (with_reducible repeat (first | refine qc_ ?_ _ | refine qe_ ?_ | refine qd_ ?_ _)); exact BK123.out) hb)
            have n9_ := Aside0.mk (ql_ (by repeat (first | (with_reducible first | exact HB.out | apply qf_ | apply qa_ | apply qg_ | refine qb_ ?_ GE101.out | refine qb_ ?_ GE102.out | refine qb_ ?_ GE103.out | refine qb_ ?_ GE111.out | refine qb_ ?_ GE117.out | refine qb_ ?_ GE123.out) | exact HB.out)) hb)
            clear HO110
            clear HO115
            clear HO121
            clear BK101
            clear BK102
            clear BK103
            clear BK111
            clear BK117
            clear BK123
            clear HB
            have HO110 := n0_
            have HO115 := n1_
            have HO121 := n2_
            have BK101 := n3_
            have BK102 := n4_
            have BK103 := n5_
            have BK111 := n6_
            have BK117 := n7_
            have BK123 := n8_
            have HB := n9_
            clear n0_ n1_ n2_ n3_ n4_ n5_ n6_ n7_ n8_ n9_
            (try clear hb)
            (try clear hb2)
            (try clear hk)
            (try clear hi)
            refine hK.out _ _ ⟨(qh_ BK117.out 0).trans rfl, (qh_ BK117.out 1).trans rfl, (qh_ BK123.out 0).trans rfl, (qh_ BK123.out 1).trans rfl, (qh_ BK101.out 0).trans rfl, (qh_ BK101.out 1).trans rfl, (qh_ BK103.out 0).trans rfl, (qh_ BK103.out 1).trans rfl, (qh_ BK103.out 2).trans rfl, (qh_ BK102.out 0).trans rfl, (qh_ BK102.out 1).trans rfl, (qh_ BK111.out 0).trans rfl, (qh_ BK111.out 1).trans rfl⟩ (fun hHeld => ?_)
            clear hK K
            refine norm_ (a' := ?_) ?_ ?_
            rotate_left
            ·show Act.put _ (some 70) _ = _
             simp only [Act.put, sa_, sb_, sc_, i64_w, i32_w]
             rfl
            refine one_ (i := 23) (N := some 72) #[true,true,true,true,true,true,true,true,true,true,true,true,true,true,true,true,true,true,true,true,true,true,true,true,false,false,false,false,false,false,false,false,false,false,false,false,false,false,false,false,false,false,false,false,false,false] rfl rfl (one_of HT_.out (by kernel_rfl)) (by decide) (fun K hK => ?_)
            refine goes_ Try.func12 (by kernel_rfl) rfl #[.agg #[.int .i64 a0_0, .slice A0_1 l0_1.length c0_1]] (by rfl) rfl rfl (by (try simp only [List.map_toArray, List.map_cons, List.map_nil]); first | done | rfl | (simp only [List.length_drop, List.length_take]; rfl)) ?_
            with_reducible refine (ref10_Right.calls kj5 a0_0 _ _ l0_1 t128 _ ?side1 ?side2 A31.out).mono ?_
            (case side1 => repeat (first | exact (Kd.C_below HR0_1.out HB.out) | (with_reducible refine Kd.C_alloc ?_ _) | (with_reducible refine Kd.C_drewN ?_ _) | (with_reducible refine Kd.C_drew ?_)))
            (case side2 => exact HC0_1.out)
            rintro e w86 ⟨rfl, hb⟩
            refine ⟨_, rfl, ?_⟩
            have n0_ := Aside0.mk (Kd.R_below (by (with_reducible repeat (first | apply Kd.R_alloc | apply Kd.R_drewN | apply Kd.R_drew)); exact HO110.out) hb)
            have n1_ := Aside0.mk (Kd.V_below (by (with_reducible repeat (first | apply Kd.qn_ | apply Kd.qm_ | apply Kd.V_drew)); exact HO115.out) hb)
            have n2_ := Aside0.mk (Kd.V_below (by (with_reducible repeat (first | apply Kd.qn_ | apply Kd.qm_ | apply Kd.V_drew)); exact HO121.out) hb)
            have n3_ := Aside0.mk (qj_ (g := gb101) (o := .cells #[.int .i64 a0_0, .slice A0_1 l0_1.length c0_1] 27 (0, 0)) (by (with_reducible repeat (first | refine qc_ ?_ _ | refine qe_ ?_ | refine qd_ ?_ _)); exact BK101.out) hb)
            have n4_ := Aside0.mk (qj_ (g := gb102) (o := .cells #[.int .i64 a1_0, .slice A1_1 l1_1.length c1_1] 27 (0, 0)) (by (with_reducible repeat (first | refine qc_ ?_ _ | refine qe_ ?_ | refine qd_ ?_ _)); exact BK102.out) hb)
            have n5_ := Aside0.mk (qj_ (g := gb103) (o := .cells #[.int .i64 a2_0, .int .i64 a2_1, .int .i64 a2_2] 39 (0, 0)) (by (with_reducible repeat (first | refine qc_ ?_ _ | refine qe_ ?_ | refine qd_ ?_ _)); exact BK103.out) hb)
            have n6_ := Aside0.mk (qj_ (g := gb111) (o := .cells #[.int .i64 a0_0, .slice Ao48 y108.length co48] 27 (0, 0)) (by (with_reducible repeat (first | refine qc_ ?_ _ | refine qe_ ?_ | refine qd_ ?_ _)); exact BK111.out) hb)
            have n7_ := Aside0.mk (qj_ (g := gb117) (o := .cells #[.int .i64 t112, .slice Ao66 t113.length co66] 27 (0, 0)) (by (with_reducible repeat (first | refine qc_ ?_ _ | refine qe_ ?_ | refine qd_ ?_ _)); exact BK117.out) hb)
            have n8_ := Aside0.mk (qj_ (g := gb123) (o := .cells #[.int .i64 t118, .slice Ao79 t119.length co79] 27 (0, 0)) (by (with_reducible repeat (first | refine qc_ ?_ _ | refine qe_ ?_ | refine qd_ ?_ _)); exact BK123.out) hb)
            have n9_ := Aside0.mk (ql_ (by repeat (first | (with_reducible first | exact HB.out | apply qf_ | apply qa_ | apply qg_ | refine qb_ ?_ GE101.out | refine qb_ ?_ GE102.out | refine qb_ ?_ GE103.out | refine qb_ ?_ GE111.out | refine qb_ ?_ GE117.out | refine qb_ ?_ GE123.out) | exact HB.out)) hb)
            clear HO110
            clear HO115
            clear HO121
            clear BK101
            clear BK102
            clear BK103
            clear BK111
            clear BK117
            clear BK123
            clear HB
            have HO110 := n0_
            have HO115 := n1_
            have HO121 := n2_
            have BK101 := n3_
            have BK102 := n4_
            have BK103 := n5_
            have BK111 := n6_
            have BK117 := n7_
            have BK123 := n8_
            have HB := n9_
            clear n0_ n1_ n2_ n3_ n4_ n5_ n6_ n7_ n8_ n9_
            (try clear hb)
            (try clear hb2)
            (try clear hk)
            (try clear hi)
            refine hK.out _ _ ⟨(qh_ BK117.out 0).trans rfl, (qh_ BK117.out 1).trans rfl, (qh_ BK123.out 0).trans rfl, (qh_ BK123.out 1).trans rfl, (qh_ BK101.out 0).trans rfl, (qh_ BK101.out 1).trans rfl, (qh_ BK103.out 0).trans rfl, (qh_ BK103.out 1).trans rfl, (qh_ BK103.out 2).trans rfl, (qh_ BK102.out 0).trans rfl, (qh_ BK102.out 1).trans rfl, (qh_ BK111.out 0).trans rfl, (qh_ BK111.out 1).trans rfl⟩ (fun hHeld => ?_)
            clear hK K
            refine norm_ (a' := ?_) ?_ ?_
            rotate_left
            ·show Act.put _ (some 72) _ = _
             simp only [Act.put, sa_, sb_, sc_, i64_w, i32_w]
             rfl
            refine pure_ (i := 24) (N := some 73) (v := ?_) (a' := ?_) #[true,true,true,true,true,true,true,true,true,true,true,true,true,true,true,true,true,true,true,true,true,true,true,true,true,false,false,false,false,false,false,false,false,false,false,false,false,false,false,false,false,false,false,false,false,false] rfl rfl (any_of HT_.out (by kernel_rfl)) (fun _ _ _ h => h) (Or.inl ⟨by rfl, ?_⟩) ?_ ?_
            rotate_left
            ·intro w'
             go_simp
             with_reducible rfl
            rotate_left
            ·simp only [Act.put, sa_, sb_, sc_, i64_w, i32_w]
             rfl
            refine pure_ (i := 25) (N := some 74) (v := ?_) (a' := ?_) #[true,true,true,true,true,true,true,true,true,true,true,true,true,true,true,true,true,true,true,true,true,true,true,true,true,true,false,false,false,false,false,false,false,false,false,false,false,false,false,false,false,false,false,false,false,false] rfl rfl (any_of HT_.out (by kernel_rfl)) (fun _ _ _ h => h) (Or.inl ⟨by rfl, ?_⟩) ?_ ?_
            rotate_left
            ·intro w'
             go_simp
             with_reducible rfl
            rotate_left
            ·simp only [Act.put, sa_, sb_, sc_, i64_w, i32_w]
             rfl
            refine pure_ (i := 26) (N := some 75) (v := ?_) (a' := ?_) #[true,true,true,true,true,true,true,true,true,true,true,true,true,true,true,true,true,true,true,true,true,true,true,true,true,true,true,false,false,false,false,false,false,false,false,false,false,false,false,false,false,false,false,false,false,false] rfl rfl (any_of HT_.out (by kernel_rfl)) (fun _ _ _ h => h) (Or.inl ⟨by rfl, ?_⟩) ?_ ?_
            rotate_left
            ·intro w'
             go_simp
             with_reducible rfl
            rotate_left
            ·simp only [Act.put, sa_, sb_, sc_, i64_w, i32_w]
             rfl
            refine take_ (i := 27) (N := some 76) (v := ?_) (a' := ?_) #[true,true,true,true,true,true,true,true,true,true,true,true,true,true,true,true,true,true,true,true,true,true,true,true,true,true,true,true,false,false,false,false,false,false,false,false,false,false,false,false,false,false,false,false,false,false] rfl rfl (take_ofW HT_.out HW_.out (by kernel_rfl)) (fun _ _ _ h => h) (Or.inl ⟨by rfl, ?_⟩) hHeld ?_ ?_
            rotate_left
            ·rintro w' ⟨s0, s1, s2, s3, s4, s5, s6, s7, s8, s9, s10, s11, s12⟩
             go_simp
             with_reducible rfl
            rotate_left
            ·simp only [Act.put, sa_, sb_, sc_, i64_w, i32_w]
             rfl
            refine take_ (i := 28) (N := some 77) (v := ?_) (a' := ?_) #[true,true,true,true,true,true,true,true,true,true,true,true,true,true,true,true,true,true,true,true,true,true,true,true,true,true,true,true,true,false,false,false,false,false,false,false,false,false,false,false,false,false,false,false,false,false] rfl rfl (take_ofW HT_.out HW_.out (by kernel_rfl)) (fun _ _ _ h => h) (Or.inl ⟨by rfl, ?_⟩) hHeld ?_ ?_
            rotate_left
            ·rintro w' ⟨s0, s1, s2, s3, s4, s5, s6, s7, s8, s9, s10, s11, s12⟩
             go_simp
             with_reducible rfl
            rotate_left
            ·simp only [Act.put, sa_, sb_, sc_, i64_w, i32_w]
             rfl
            refine take_ (i := 30) (N := some 79) (v := ?_) (a' := ?_) #[true,true,true,true,true,true,true,true,true,true,true,true,true,true,true,true,true,true,true,true,true,true,true,true,true,true,true,true,true,false,true,false,false,false,false,false,false,false,false,false,false,false,false,false,false,false] rfl rfl (take_ofW HT_.out HW_.out (by kernel_rfl)) (fun _ _ _ h => h) (Or.inl ⟨by rfl, ?_⟩) hHeld ?_ ?_
            rotate_left
            ·rintro w' ⟨s0, s1, s2, s3, s4, s5, s6, s7, s8, s9, s10, s11, s12⟩
             go_simp
             with_reducible rfl
            rotate_left
            ·simp only [Act.put, sa_, sb_, sc_, i64_w, i32_w]
             rfl
            refine take_ (i := 31) (N := some 80) (v := ?_) (a' := ?_) #[true,true,true,true,true,true,true,true,true,true,true,true,true,true,true,true,true,true,true,true,true,true,true,true,true,true,true,true,true,false,true,true,false,false,false,false,false,false,false,false,false,false,false,false,false,false] rfl rfl (take_ofW HT_.out HW_.out (by kernel_rfl)) (fun _ _ _ h => h) (Or.inl ⟨by rfl, ?_⟩) hHeld ?_ ?_
            rotate_left
            ·rintro w' ⟨s0, s1, s2, s3, s4, s5, s6, s7, s8, s9, s10, s11, s12⟩
             go_simp
             with_reducible rfl
            rotate_left
            ·simp only [Act.put, sa_, sb_, sc_, i64_w, i32_w]
             rfl
            refine one_ (i := 29) (N := some 78) #[true,true,true,true,true,true,true,true,true,true,true,true,true,true,true,true,true,true,true,true,true,true,true,true,true,true,true,true,true,true,true,true,false,false,false,false,false,false,false,false,false,false,false,false,false,false] rfl rfl (one_of HT_.out (by kernel_rfl)) (by decide) (fun K hK => ?_)
            refine goes_ Try.func17 (by kernel_rfl) rfl #[.agg #[.int .i64 a0_0, .slice A0_1 l0_1.length c0_1], .agg #[.int .i64 a1_0, .slice A1_1 l1_1.length c1_1]] (by rfl) rfl rfl (by (try simp only [List.map_toArray, List.map_cons, List.map_nil]); first | done | rfl | (simp only [List.length_drop, List.length_take]; rfl)) ?_
            with_reducible refine (window_Same.calls kj5 a0_0 _ _ l0_1 a1_0 _ _ l1_1 t129 _ ?side1 ?side2 ?side3 ?side4 A33.out).mono ?_
            (case side1 => repeat (first | exact (Kd.C_below HR0_1.out HB.out) | (with_reducible refine Kd.C_alloc ?_ _) | (with_reducible refine Kd.C_drewN ?_ _) | (with_reducible refine Kd.C_drew ?_)))
            (case side2 => exact HC0_1.out)
            (case side3 => repeat (first | exact (Kd.C_below HR1_1.out HB.out) | (with_reducible refine Kd.C_alloc ?_ _) | (with_reducible refine Kd.C_drewN ?_ _) | (with_reducible refine Kd.C_drew ?_)))
            (case side4 => exact HC1_1.out)
            rintro e w87 ⟨rfl, hb⟩
            refine ⟨_, rfl, ?_⟩
            have n0_ := Aside0.mk (Kd.R_below (by (with_reducible repeat (first | apply Kd.R_alloc | apply Kd.R_drewN | apply Kd.R_drew)); exact HO110.out) hb)
            have n1_ := Aside0.mk (Kd.V_below (by (with_reducible repeat (first | apply Kd.qn_ | apply Kd.qm_ | apply Kd.V_drew)); exact HO115.out) hb)
            have n2_ := Aside0.mk (Kd.V_below (by (with_reducible repeat (first | apply Kd.qn_ | apply Kd.qm_ | apply Kd.V_drew)); exact HO121.out) hb)
            have n3_ := Aside0.mk (qj_ (g := gb101) (o := .cells #[.int .i64 a0_0, .slice A0_1 l0_1.length c0_1] 27 (0, 0)) (by (with_reducible repeat (first | refine qc_ ?_ _ | refine qe_ ?_ | refine qd_ ?_ _)); exact BK101.out) hb)
            have n4_ := Aside0.mk (qj_ (g := gb102) (o := .cells #[.int .i64 a1_0, .slice A1_1 l1_1.length c1_1] 27 (0, 0)) (by (with_reducible repeat (first | refine qc_ ?_ _ | refine qe_ ?_ | refine qd_ ?_ _)); exact BK102.out) hb)
            have n5_ := Aside0.mk (qj_ (g := gb103) (o := .cells #[.int .i64 a2_0, .int .i64 a2_1, .int .i64 a2_2] 39 (0, 0)) (by (with_reducible repeat (first | refine qc_ ?_ _ | refine qe_ ?_ | refine qd_ ?_ _)); exact BK103.out) hb)
            have n6_ := Aside0.mk (qj_ (g := gb111) (o := .cells #[.int .i64 a0_0, .slice Ao48 y108.length co48] 27 (0, 0)) (by (with_reducible repeat (first | refine qc_ ?_ _ | refine qe_ ?_ | refine qd_ ?_ _)); exact BK111.out) hb)
            have n7_ := Aside0.mk (qj_ (g := gb117) (o := .cells #[.int .i64 t112, .slice Ao66 t113.length co66] 27 (0, 0)) (by (with_reducible repeat (first | refine qc_ ?_ _ | refine qe_ ?_ | refine qd_ ?_ _)); exact BK117.out) hb)
            have n8_ := Aside0.mk (qj_ (g := gb123) (o := .cells #[.int .i64 t118, .slice Ao79 t119.length co79] 27 (0, 0)) (by (with_reducible repeat (first | refine qc_ ?_ _ | refine qe_ ?_ | refine qd_ ?_ _)); exact BK123.out) hb)
            have n9_ := Aside0.mk (ql_ (by repeat (first | (with_reducible first | exact HB.out | apply qf_ | apply qa_ | apply qg_ | refine qb_ ?_ GE101.out | refine qb_ ?_ GE102.out | refine qb_ ?_ GE103.out | refine qb_ ?_ GE111.out | refine qb_ ?_ GE117.out | refine qb_ ?_ GE123.out) | exact HB.out)) hb)
            clear HO110
            clear HO115
            clear HO121
            clear BK101
            clear BK102
            clear BK103
            clear BK111
            clear BK117
            clear BK123
            clear HB
            have HO110 := n0_
            have HO115 := n1_
            have HO121 := n2_
            have BK101 := n3_
            have BK102 := n4_
            have BK103 := n5_
            have BK111 := n6_
            have BK117 := n7_
            have BK123 := n8_
            have HB := n9_
            clear n0_ n1_ n2_ n3_ n4_ n5_ n6_ n7_ n8_ n9_
            (try clear hb)
            (try clear hb2)
            (try clear hk)
            (try clear hi)
            refine hK.out _ _ ⟨(qh_ BK117.out 0).trans rfl, (qh_ BK117.out 1).trans rfl, (qh_ BK123.out 0).trans rfl, (qh_ BK123.out 1).trans rfl, (qh_ BK101.out 0).trans rfl, (qh_ BK101.out 1).trans rfl, (qh_ BK103.out 0).trans rfl, (qh_ BK103.out 1).trans rfl, (qh_ BK103.out 2).trans rfl, (qh_ BK102.out 0).trans rfl, (qh_ BK102.out 1).trans rfl, (qh_ BK111.out 0).trans rfl, (qh_ BK111.out 1).trans rfl⟩ (fun hHeld => ?_)
            clear hK K
            refine norm_ (a' := ?_) ?_ ?_
            rotate_left
            ·show Act.put _ (some 78) _ = _
             simp only [Act.put, sa_, sb_, sc_, i64_w, i32_w]
             rfl
            refine one_ (i := 32) (N := some 81) #[true,true,true,true,true,true,true,true,true,true,true,true,true,true,true,true,true,true,true,true,true,true,true,true,true,true,true,true,true,true,true,true,true,false,false,false,false,false,false,false,false,false,false,false,false,false] rfl rfl (one_of HT_.out (by kernel_rfl)) (by decide) (fun K hK => ?_)
            refine goes_ Try.func15 (by kernel_rfl) rfl #[.agg #[.int .i64 a0_0, .slice A0_1 l0_1.length c0_1], .agg #[.int .i64 a1_0, .slice A1_1 l1_1.length c1_1]] (by rfl) rfl rfl (by (try simp only [List.map_toArray, List.map_cons, List.map_nil]); first | done | rfl | (simp only [List.length_drop, List.length_take]; rfl)) ?_
            with_reducible refine (ref10_Same.calls kj5 a0_0 _ _ l0_1 a1_0 _ _ l1_1 t130 _ ?side1 ?side2 ?side3 ?side4 A34.out).mono ?_
            (case side1 => repeat (first | exact (Kd.C_below HR0_1.out HB.out) | (with_reducible refine Kd.C_alloc ?_ _) | (with_reducible refine Kd.C_drewN ?_ _) | (with_reducible refine Kd.C_drew ?_)))
            (case side2 => exact HC0_1.out)
            (case side3 => repeat (first | exact (Kd.C_below HR1_1.out HB.out) | (with_reducible refine Kd.C_alloc ?_ _) | (with_reducible refine Kd.C_drewN ?_ _) | (with_reducible refine Kd.C_drew ?_)))
            (case side4 => exact HC1_1.out)
            rintro e w88 ⟨rfl, hb⟩
            refine ⟨_, rfl, ?_⟩
            have n0_ := Aside0.mk (Kd.R_below (by (with_reducible repeat (first | apply Kd.R_alloc | apply Kd.R_drewN | apply Kd.R_drew)); exact HO110.out) hb)
            have n1_ := Aside0.mk (Kd.V_below (by (with_reducible repeat (first | apply Kd.qn_ | apply Kd.qm_ | apply Kd.V_drew)); exact HO115.out) hb)
            have n2_ := Aside0.mk (Kd.V_below (by (with_reducible repeat (first | apply Kd.qn_ | apply Kd.qm_ | apply Kd.V_drew)); exact HO121.out) hb)
            have n3_ := Aside0.mk (qj_ (g := gb101) (o := .cells #[.int .i64 a0_0, .slice A0_1 l0_1.length c0_1] 27 (0, 0)) (by (with_reducible repeat (first | refine qc_ ?_ _ | refine qe_ ?_ | refine qd_ ?_ _)); exact BK101.out) hb)
            have n4_ := Aside0.mk (qj_ (g := gb102) (o := .cells #[.int .i64 a1_0, .slice A1_1 l1_1.length c1_1] 27 (0, 0)) (by (with_reducible repeat (first | refine qc_ ?_ _ | refine qe_ ?_ | refine qd_ ?_ _)); exact BK102.out) hb)
            have n5_ := Aside0.mk (qj_ (g := gb103) (o := .cells #[.int .i64 a2_0, .int .i64 a2_1, .int .i64 a2_2] 39 (0, 0)) (by (with_reducible repeat (first | refine qc_ ?_ _ | refine qe_ ?_ | refine qd_ ?_ _)); exact BK103.out) hb)
            have n6_ := Aside0.mk (qj_ (g := gb111) (o := .cells #[.int .i64 a0_0, .slice Ao48 y108.length co48] 27 (0, 0)) (by (with_reducible repeat (first | refine qc_ ?_ _ | refine qe_ ?_ | refine qd_ ?_ _)); exact BK111.out) hb)
            have n7_ := Aside0.mk (qj_ (g := gb117) (o := .cells #[.int .i64 t112, .slice Ao66 t113.length co66] 27 (0, 0)) (by (with_reducible repeat (first | refine qc_ ?_ _ | refine qe_ ?_ | refine qd_ ?_ _)); exact BK117.out) hb)
            have n8_ := Aside0.mk (qj_ (g := gb123) (o := .cells #[.int .i64 t118, .slice Ao79 t119.length co79] 27 (0, 0)) (by (with_reducible repeat (first | refine qc_ ?_ _ | refine qe_ ?_ | refine qd_ ?_ _)); exact BK123.out) hb)
            have n9_ := Aside0.mk (ql_ (by repeat (first | (with_reducible first | exact HB.out | apply qf_ | apply qa_ | apply qg_ | refine qb_ ?_ GE101.out | refine qb_ ?_ GE102.out | refine qb_ ?_ GE103.out | refine qb_ ?_ GE111.out | refine qb_ ?_ GE117.out | refine qb_ ?_ GE123.out) | exact HB.out)) hb)
            clear HO110
            clear HO115
            clear HO121
            clear BK101
            clear BK102
            clear BK103
            clear BK111
            clear BK117
            clear BK123
            clear HB
            have HO110 := n0_
            have HO115 := n1_
            have HO121 := n2_
            have BK101 := n3_
            have BK102 := n4_
            have BK103 := n5_
            have BK111 := n6_
            have BK117 := n7_
            have BK123 := n8_
            have HB := n9_
            clear n0_ n1_ n2_ n3_ n4_ n5_ n6_ n7_ n8_ n9_
            (try clear hb)
            (try clear hb2)
            (try clear hk)
            (try clear hi)
            refine hK.out _ _ ⟨(qh_ BK117.out 0).trans rfl, (qh_ BK117.out 1).trans rfl, (qh_ BK123.out 0).trans rfl, (qh_ BK123.out 1).trans rfl, (qh_ BK101.out 0).trans rfl, (qh_ BK101.out 1).trans rfl, (qh_ BK103.out 0).trans rfl, (qh_ BK103.out 1).trans rfl, (qh_ BK103.out 2).trans rfl, (qh_ BK102.out 0).trans rfl, (qh_ BK102.out 1).trans rfl, (qh_ BK111.out 0).trans rfl, (qh_ BK111.out 1).trans rfl⟩ (fun hHeld => ?_)
            clear hK K
            refine norm_ (a' := ?_) ?_ ?_
            rotate_left
            ·show Act.put _ (some 81) _ = _
             simp only [Act.put, sa_, sb_, sc_, i64_w, i32_w]
             rfl
            refine pure_ (i := 33) (N := some 82) (v := ?_) (a' := ?_) #[true,true,true,true,true,true,true,true,true,true,true,true,true,true,true,true,true,true,true,true,true,true,true,true,true,true,true,true,true,true,true,true,true,true,false,false,false,false,false,false,false,false,false,false,false,false] rfl rfl (any_of HT_.out (by kernel_rfl)) (fun _ _ _ h => h) (Or.inl ⟨by rfl, ?_⟩) ?_ ?_
            rotate_left
            ·intro w'
             go_simp
             with_reducible rfl
            rotate_left
            ·simp only [Act.put, sa_, sb_, sc_, i64_w, i32_w]
             rfl
            refine pure_ (i := 34) (N := some 83) (v := ?_) (a' := ?_) #[true,true,true,true,true,true,true,true,true,true,true,true,true,true,true,true,true,true,true,true,true,true,true,true,true,true,true,true,true,true,true,true,true,true,true,false,false,false,false,false,false,false,false,false,false,false] rfl rfl (any_of HT_.out (by kernel_rfl)) (fun _ _ _ h => h) (Or.inl ⟨by rfl, ?_⟩) ?_ ?_
            rotate_left
            ·intro w'
             go_simp
             with_reducible rfl
            rotate_left
            ·simp only [Act.put, sa_, sb_, sc_, i64_w, i32_w]
             rfl
            refine pure_ (i := 35) (N := some 84) (v := ?_) (a' := ?_) #[true,true,true,true,true,true,true,true,true,true,true,true,true,true,true,true,true,true,true,true,true,true,true,true,true,true,true,true,true,true,true,true,true,true,true,true,false,false,false,false,false,false,false,false,false,false] rfl rfl (any_of HT_.out (by kernel_rfl)) (fun _ _ _ h => h) (Or.inl ⟨by rfl, ?_⟩) ?_ ?_
            rotate_left
            ·intro w'
             go_simp
             with_reducible rfl
            rotate_left
            ·simp only [Act.put, sa_, sb_, sc_, i64_w, i32_w]
             rfl
            refine take_ (i := 36) (N := some 85) (v := ?_) (a' := ?_) #[true,true,true,true,true,true,true,true,true,true,true,true,true,true,true,true,true,true,true,true,true,true,true,true,true,true,true,true,true,true,true,true,true,true,true,true,true,false,false,false,false,false,false,false,false,false] rfl rfl (take_ofW HT_.out HW_.out (by kernel_rfl)) (fun _ _ _ h => h) (Or.inl ⟨by rfl, ?_⟩) hHeld ?_ ?_
            rotate_left
            ·rintro w' ⟨s0, s1, s2, s3, s4, s5, s6, s7, s8, s9, s10, s11, s12⟩
             go_simp
             with_reducible rfl
            rotate_left
            ·simp only [Act.put, sa_, sb_, sc_, i64_w, i32_w]
             rfl
            refine take_ (i := 37) (N := some 86) (v := ?_) (a' := ?_) #[true,true,true,true,true,true,true,true,true,true,true,true,true,true,true,true,true,true,true,true,true,true,true,true,true,true,true,true,true,true,true,true,true,true,true,true,true,true,false,false,false,false,false,false,false,false] rfl rfl (take_ofW HT_.out HW_.out (by kernel_rfl)) (fun _ _ _ h => h) (Or.inl ⟨by rfl, ?_⟩) hHeld ?_ ?_
            rotate_left
            ·rintro w' ⟨s0, s1, s2, s3, s4, s5, s6, s7, s8, s9, s10, s11, s12⟩
             go_simp
             with_reducible rfl
            rotate_left
            ·simp only [Act.put, sa_, sb_, sc_, i64_w, i32_w]
             rfl
            refine one_ (i := 38) (N := some 87) #[true,true,true,true,true,true,true,true,true,true,true,true,true,true,true,true,true,true,true,true,true,true,true,true,true,true,true,true,true,true,true,true,true,true,true,true,true,true,true,false,false,false,false,false,false,false] rfl rfl (one_of HT_.out (by kernel_rfl)) (by decide) (fun K hK => ?_)
            refine goes_ Try.func15 (by kernel_rfl) rfl #[.agg #[.int .i64 a0_0, .slice Ao48 y108.length co48], .agg #[.int .i64 a0_0, .slice A0_1 l0_1.length c0_1]] (by rfl) rfl rfl (by (try simp only [List.map_toArray, List.map_cons, List.map_nil]); first | done | rfl | (simp only [List.length_drop, List.length_take]; rfl)) ?_
            with_reducible refine (ref10_Same.calls kj5 a0_0 _ _ y108 a0_0 _ _ l0_1 true _ ?side1 ?side2 ?side3 ?side4 A36.out).mono ?_
            (case side1 => repeat (first | exact (Kd.R_reads' HO110.out).2.2 | (with_reducible refine Kd.C_alloc ?_ _) | (with_reducible refine Kd.C_drewN ?_ _) | (with_reducible refine Kd.C_drew ?_)))
            (case side2 => exact (Kd.R_reads' HO110.out).2.1)
            (case side3 => repeat (first | exact (Kd.C_below HR0_1.out HB.out) | (with_reducible refine Kd.C_alloc ?_ _) | (with_reducible refine Kd.C_drewN ?_ _) | (with_reducible refine Kd.C_drew ?_)))
            (case side4 => exact HC0_1.out)
            rintro e w89 ⟨rfl, hb⟩
            refine ⟨_, rfl, ?_⟩
            have n0_ := Aside0.mk (Kd.R_below (by (with_reducible repeat (first | apply Kd.R_alloc | apply Kd.R_drewN | apply Kd.R_drew)); exact HO110.out) hb)
            have n1_ := Aside0.mk (Kd.V_below (by (with_reducible repeat (first | apply Kd.qn_ | apply Kd.qm_ | apply Kd.V_drew)); exact HO115.out) hb)
            have n2_ := Aside0.mk (Kd.V_below (by (with_reducible repeat (first | apply Kd.qn_ | apply Kd.qm_ | apply Kd.V_drew)); exact HO121.out) hb)
            have n3_ := Aside0.mk (qj_ (g := gb101) (o := .cells #[.int .i64 a0_0, .slice A0_1 l0_1.length c0_1] 27 (0, 0)) (by (with_reducible repeat (first | refine qc_ ?_ _ | refine qe_ ?_ | refine qd_ ?_ _)); exact BK101.out) hb)
            have n4_ := Aside0.mk (qj_ (g := gb102) (o := .cells #[.int .i64 a1_0, .slice A1_1 l1_1.length c1_1] 27 (0, 0)) (by (with_reducible repeat (first | refine qc_ ?_ _ | refine qe_ ?_ | refine qd_ ?_ _)); exact BK102.out) hb)
            have n5_ := Aside0.mk (qj_ (g := gb103) (o := .cells #[.int .i64 a2_0, .int .i64 a2_1, .int .i64 a2_2] 39 (0, 0)) (by (with_reducible repeat (first | refine qc_ ?_ _ | refine qe_ ?_ | refine qd_ ?_ _)); exact BK103.out) hb)
            have n6_ := Aside0.mk (qj_ (g := gb111) (o := .cells #[.int .i64 a0_0, .slice Ao48 y108.length co48] 27 (0, 0)) (by (with_reducible repeat (first | refine qc_ ?_ _ | refine qe_ ?_ | refine qd_ ?_ _)); exact BK111.out) hb)
            have n7_ := Aside0.mk (qj_ (g := gb117) (o := .cells #[.int .i64 t112, .slice Ao66 t113.length co66] 27 (0, 0)) (by (with_reducible repeat (first | refine qc_ ?_ _ | refine qe_ ?_ | refine qd_ ?_ _)); exact BK117.out) hb)
            have n8_ := Aside0.mk (qj_ (g := gb123) (o := .cells #[.int .i64 t118, .slice Ao79 t119.length co79] 27 (0, 0)) (by (with_reducible repeat (first | refine qc_ ?_ _ | refine qe_ ?_ | refine qd_ ?_ _)); exact BK123.out) hb)
            have n9_ := Aside0.mk (ql_ (by repeat (first | (with_reducible first | exact HB.out | apply qf_ | apply qa_ | apply qg_ | refine qb_ ?_ GE101.out | refine qb_ ?_ GE102.out | refine qb_ ?_ GE103.out | refine qb_ ?_ GE111.out | refine qb_ ?_ GE117.out | refine qb_ ?_ GE123.out) | exact HB.out)) hb)
            clear HO110
            clear HO115
            clear HO121
            clear BK101
            clear BK102
            clear BK103
            clear BK111
            clear BK117
            clear BK123
            clear HB
            have HO110 := n0_
            have HO115 := n1_
            have HO121 := n2_
            have BK101 := n3_
            have BK102 := n4_
            have BK103 := n5_
            have BK111 := n6_
            have BK117 := n7_
            have BK123 := n8_
            have HB := n9_
            clear n0_ n1_ n2_ n3_ n4_ n5_ n6_ n7_ n8_ n9_
            (try clear hb)
            (try clear hb2)
            (try clear hk)
            (try clear hi)
            refine hK.out _ _ ⟨(qh_ BK117.out 0).trans rfl, (qh_ BK117.out 1).trans rfl, (qh_ BK123.out 0).trans rfl, (qh_ BK123.out 1).trans rfl, (qh_ BK101.out 0).trans rfl, (qh_ BK101.out 1).trans rfl, (qh_ BK103.out 0).trans rfl, (qh_ BK103.out 1).trans rfl, (qh_ BK103.out 2).trans rfl, (qh_ BK102.out 0).trans rfl, (qh_ BK102.out 1).trans rfl, (qh_ BK111.out 0).trans rfl, (qh_ BK111.out 1).trans rfl⟩ (fun hHeld => ?_)
            clear hK K
            refine norm_ (a' := ?_) ?_ ?_
            rotate_left
            ·show Act.put _ (some 87) _ = _
             simp only [Act.put, sa_, sb_, sc_, i64_w, i32_w]
             rfl
            refine pure_ (i := 39) (N := some 88) (v := ?_) (a' := ?_) #[true,true,true,true,true,true,true,true,true,true,true,true,true,true,true,true,true,true,true,true,true,true,true,true,true,true,true,true,true,true,true,true,true,true,true,true,true,true,true,true,false,false,false,false,false,false] rfl rfl (any_of HT_.out (by kernel_rfl)) (fun _ _ _ h => h) (Or.inl ⟨by rfl, ?_⟩) ?_ ?_
            rotate_left
            ·intro w'
             go_simp
             with_reducible rfl
            rotate_left
            ·simp only [Act.put, sa_, sb_, sc_, i64_w, i32_w]
             rfl
            refine pure_ (i := 40) (N := some 89) (v := ?_) (a' := ?_) #[true,true,true,true,true,true,true,true,true,true,true,true,true,true,true,true,true,true,true,true,true,true,true,true,true,true,true,true,true,true,true,true,true,true,true,true,true,true,true,true,true,false,false,false,false,false] rfl rfl (any_of HT_.out (by kernel_rfl)) (fun _ _ _ h => h) (Or.inl ⟨by rfl, ?_⟩) ?_ ?_
            rotate_left
            ·intro w'
             go_simp
             with_reducible rfl
            rotate_left
            ·simp only [Act.put, sa_, sb_, sc_, i64_w, i32_w]
             rfl
            refine one_ (i := 41) (N := some 90) #[true,true,true,true,true,true,true,true,true,true,true,true,true,true,true,true,true,true,true,true,true,true,true,true,true,true,true,true,true,true,true,true,true,true,true,true,true,true,true,true,true,true,false,false,false,false] rfl rfl (one_of HT_.out (by kernel_rfl)) (by decide) (fun K hK => ?_)
            refine goes_ Try.func8 (by kernel_rfl) rfl #[] (by rfl) rfl rfl (by (try simp only [List.map_toArray, List.map_cons, List.map_nil]); first | done | rfl | (simp only [List.length_drop, List.length_take]; rfl)) ?_
            with_reducible refine (window_New.calls  t132 t133 _ A38.out).mono ?_
            rintro e w90 ⟨v134, rfl, ho0, hb⟩
            refine ⟨_, rfl, ?_⟩
            have n0_ := Aside0.mk (Kd.R_elder' (by (with_reducible repeat (first | apply Kd.R_alloc | apply Kd.R_drewN | apply Kd.R_drew)); exact HO110.out) (Kd.R_base ho0) hb)
            have n1_ := Aside0.mk (Kd.V_elder' (by (with_reducible repeat (first | apply Kd.qn_ | apply Kd.qm_ | apply Kd.V_drew)); exact HO115.out) (Kd.R_base ho0) hb)
            have n2_ := Aside0.mk (Kd.V_elder' (by (with_reducible repeat (first | apply Kd.qn_ | apply Kd.qm_ | apply Kd.V_drew)); exact HO121.out) (Kd.R_base ho0) hb)
            have n3_ := Aside0.mk (Kd.R_lower (Kd.R_new' ho0 (Kd.R_lt (by (with_reducible repeat (first | apply Kd.R_alloc | apply Kd.R_drewN | apply Kd.R_drew)); exact HO110.out))) (qk_ (by repeat (first | (with_reducible first | exact HB.out | apply qf_ | apply qa_ | apply qg_ | refine qb_ ?_ GE101.out | refine qb_ ?_ GE102.out | refine qb_ ?_ GE103.out | refine qb_ ?_ GE111.out | refine qb_ ?_ GE117.out | refine qb_ ?_ GE123.out) | exact HB.out))))
            have n4_ := Aside0.mk (qj_ (g := gb101) (o := .cells #[.int .i64 a0_0, .slice A0_1 l0_1.length c0_1] 27 (0, 0)) (by (with_reducible repeat (first | refine qc_ ?_ _ | refine qe_ ?_ | refine qd_ ?_ _)); exact BK101.out) hb)
            have n5_ := Aside0.mk (qj_ (g := gb102) (o := .cells #[.int .i64 a1_0, .slice A1_1 l1_1.length c1_1] 27 (0, 0)) (by (with_reducible repeat (first | refine qc_ ?_ _ | refine qe_ ?_ | refine qd_ ?_ _)); exact BK102.out) hb)
            have n6_ := Aside0.mk (qj_ (g := gb103) (o := .cells #[.int .i64 a2_0, .int .i64 a2_1, .int .i64 a2_2] 39 (0, 0)) (by (with_reducible repeat (first | refine qc_ ?_ _ | refine qe_ ?_ | refine qd_ ?_ _)); exact BK103.out) hb)
            have n7_ := Aside0.mk (qj_ (g := gb111) (o := .cells #[.int .i64 a0_0, .slice Ao48 y108.length co48] 27 (0, 0)) (by (with_reducible repeat (first | refine qc_ ?_ _ | refine qe_ ?_ | refine qd_ ?_ _)); exact BK111.out) hb)
            have n8_ := Aside0.mk (qj_ (g := gb117) (o := .cells #[.int .i64 t112, .slice Ao66 t113.length co66] 27 (0, 0)) (by (with_reducible repeat (first | refine qc_ ?_ _ | refine qe_ ?_ | refine qd_ ?_ _)); exact BK117.out) hb)
            have n9_ := Aside0.mk (qj_ (g := gb123) (o := .cells #[.int .i64 t118, .slice Ao79 t119.length co79] 27 (0, 0)) (by (with_reducible repeat (first | refine qc_ ?_ _ | refine qe_ ?_ | refine qd_ ?_ _)); exact BK123.out) hb)
            have n10_ := Aside0.mk (ql_ (by repeat (first | (with_reducible first | exact HB.out | apply qf_ | apply qa_ | apply qg_ | refine qb_ ?_ GE101.out | refine qb_ ?_ GE102.out | refine qb_ ?_ GE103.out | refine qb_ ?_ GE111.out | refine qb_ ?_ GE117.out | refine qb_ ?_ GE123.out) | exact HB.out)) hb)
            clear HO110
            clear HO115
            clear HO121
            clear BK101
            clear BK102
            clear BK103
            clear BK111
            clear BK117
            clear BK123
            clear HB
            have HO110 := n0_
            have HO115 := n1_
            have HO121 := n2_
            have HO135 := n3_
            have BK101 := n4_
            have BK102 := n5_
            have BK103 := n6_
            have BK111 := n7_
            have BK117 := n8_
            have BK123 := n9_
            have HB := n10_
            clear n0_ n1_ n2_ n3_ n4_ n5_ n6_ n7_ n8_ n9_ n10_
            (try clear hb)
            (try clear hb2)
            (try clear hk)
            (try clear hi)
            (try clear ho0)
            refine hK.out _ _ ⟨(qh_ BK117.out 0).trans rfl, (qh_ BK117.out 1).trans rfl, (qh_ BK123.out 0).trans rfl, (qh_ BK123.out 1).trans rfl, (qh_ BK101.out 0).trans rfl, (qh_ BK101.out 1).trans rfl, (qh_ BK103.out 0).trans rfl, (qh_ BK103.out 1).trans rfl, (qh_ BK103.out 2).trans rfl, (qh_ BK102.out 0).trans rfl, (qh_ BK102.out 1).trans rfl, (qh_ BK111.out 0).trans rfl, (qh_ BK111.out 1).trans rfl⟩ (fun hHeld => ?_)
            clear hK K
            refine norm_ (a' := ?_) ?_ ?_
            rotate_left
            ·show Act.put _ (some 90) _ = _
             simp only [Act.put, sa_, sb_, sc_, i64_w, i32_w]
             rfl
            refine one_ (i := 42) (N := some 91) #[true,true,true,true,true,true,true,true,true,true,true,true,true,true,true,true,true,true,true,true,true,true,true,true,true,true,true,true,true,true,true,true,true,true,true,true,true,true,true,true,true,true,true,false,false,false] rfl rfl (one_of HT_.out (by kernel_rfl)) (by decide) (fun K hK => ?_)
            refine goes_ Try.func14 (by kernel_rfl) rfl #[] (by rfl) rfl rfl (by (try simp only [List.map_toArray, List.map_cons, List.map_nil]); first | done | rfl | (simp only [List.length_drop, List.length_take]; rfl)) ?_
            with_reducible refine (ref10_New.calls  t136 t137 _ A39.out).mono ?_
            rintro e w91 ⟨v138, rfl, ho0, hb⟩
            refine ⟨_, rfl, ?_⟩
            have n0_ := Aside0.mk (Kd.R_elder' (by (with_reducible repeat (first | apply Kd.R_alloc | apply Kd.R_drewN | apply Kd.R_drew)); exact HO110.out) (Kd.R_base ho0) hb)
            have n1_ := Aside0.mk (Kd.V_elder' (by (with_reducible repeat (first | apply Kd.qn_ | apply Kd.qm_ | apply Kd.V_drew)); exact HO115.out) (Kd.R_base ho0) hb)
            have n2_ := Aside0.mk (Kd.V_elder' (by (with_reducible repeat (first | apply Kd.qn_ | apply Kd.qm_ | apply Kd.V_drew)); exact HO121.out) (Kd.R_base ho0) hb)
            have n3_ := Aside0.mk (Kd.R_elder' (by (with_reducible repeat (first | apply Kd.R_alloc | apply Kd.R_drewN | apply Kd.R_drew)); exact HO135.out) (Kd.R_base ho0) hb)
            have n4_ := Aside0.mk (Kd.R_lower (Kd.R_new' (Kd.R_new' ho0 (Kd.R_lt (by (with_reducible repeat (first | apply Kd.R_alloc | apply Kd.R_drewN | apply Kd.R_drew)); exact HO110.out))) (Kd.R_lt (by (with_reducible repeat (first | apply Kd.R_alloc | apply Kd.R_drewN | apply Kd.R_drew)); exact HO135.out))) (qk_ (by repeat (first | (with_reducible first | exact HB.out | apply qf_ | apply qa_ | apply qg_ | refine qb_ ?_ GE101.out | refine qb_ ?_ GE102.out | refine qb_ ?_ GE103.out | refine qb_ ?_ GE111.out | refine qb_ ?_ GE117.out | refine qb_ ?_ GE123.out) | exact HB.out))))
            have n5_ := Aside0.mk (qj_ (g := gb101) (o := .cells #[.int .i64 a0_0, .slice A0_1 l0_1.length c0_1] 27 (0, 0)) (by (with_reducible repeat (first | refine qc_ ?_ _ | refine qe_ ?_ | refine qd_ ?_ _)); exact BK101.out) hb)
            have n6_ := Aside0.mk (qj_ (g := gb102) (o := .cells #[.int .i64 a1_0, .slice A1_1 l1_1.length c1_1] 27 (0, 0)) (by (with_reducible repeat (first | refine qc_ ?_ _ | refine qe_ ?_ | refine qd_ ?_ _)); exact BK102.out) hb)
            have n7_ := Aside0.mk (qj_ (g := gb103) (o := .cells #[.int .i64 a2_0, .int .i64 a2_1, .int .i64 a2_2] 39 (0, 0)) (by (with_reducible repeat (first | refine qc_ ?_ _ | refine qe_ ?_ | refine qd_ ?_ _)); exact BK103.out) hb)
            have n8_ := Aside0.mk (qj_ (g := gb111) (o := .cells #[.int .i64 a0_0, .slice Ao48 y108.length co48] 27 (0, 0)) (by (with_reducible repeat (first | refine qc_ ?_ _ | refine qe_ ?_ | refine qd_ ?_ _)); exact BK111.out) hb)
            have n9_ := Aside0.mk (qj_ (g := gb117) (o := .cells #[.int .i64 t112, .slice Ao66 t113.length co66] 27 (0, 0)) (by (with_reducible repeat (first | refine qc_ ?_ _ | refine qe_ ?_ | refine qd_ ?_ _)); exact BK117.out) hb)
            have n10_ := Aside0.mk (qj_ (g := gb123) (o := .cells #[.int .i64 t118, .slice Ao79 t119.length co79] 27 (0, 0)) (by (with_reducible repeat (first | refine qc_ ?_ _ | refine qe_ ?_ | refine qd_ ?_ _)); exact BK123.out) hb)
            have n11_ := Aside0.mk (ql_ (by repeat (first | (with_reducible first | exact HB.out | apply qf_ | apply qa_ | apply qg_ | refine qb_ ?_ GE101.out | refine qb_ ?_ GE102.out | refine qb_ ?_ GE103.out | refine qb_ ?_ GE111.out | refine qb_ ?_ GE117.out | refine qb_ ?_ GE123.out) | exact HB.out)) hb)
            clear HO110
            clear HO115
            clear HO121
            clear HO135
            clear BK101
            clear BK102
            clear BK103
            clear BK111
            clear BK117
            clear BK123
            clear HB
            have HO110 := n0_
            have HO115 := n1_
            have HO121 := n2_
            have HO135 := n3_
            have HO139 := n4_
            have BK101 := n5_
            have BK102 := n6_
            have BK103 := n7_
            have BK111 := n8_
            have BK117 := n9_
            have BK123 := n10_
            have HB := n11_
            clear n0_ n1_ n2_ n3_ n4_ n5_ n6_ n7_ n8_ n9_ n10_ n11_
            (try clear hb)
            (try clear hb2)
            (try clear hk)
            (try clear hi)
            (try clear ho0)
            obtain ⟨Ao92, co92, eo92⟩ := Kd.R_slice HO135.out
            (first | subst eo92 | (injection eo92 with f1_ f2_ f3_; have f4_ := f1_.symm; have f5_ := f3_.symm; clear f1_ f2_ f3_; subst f4_; subst f5_))
            obtain ⟨Ao93, co93, eo93⟩ := Kd.R_slice HO139.out
            (first | subst eo93 | (injection eo93 with f1_ f2_ f3_; have f4_ := f1_.symm; have f5_ := f3_.symm; clear f1_ f2_ f3_; subst f4_; subst f5_))
            refine hK.out _ _ ⟨(qh_ BK117.out 0).trans rfl, (qh_ BK117.out 1).trans rfl, (qh_ BK123.out 0).trans rfl, (qh_ BK123.out 1).trans rfl, (qh_ BK101.out 0).trans rfl, (qh_ BK101.out 1).trans rfl, (qh_ BK103.out 0).trans rfl, (qh_ BK103.out 1).trans rfl, (qh_ BK103.out 2).trans rfl, (qh_ BK102.out 0).trans rfl, (qh_ BK102.out 1).trans rfl, (qh_ BK111.out 0).trans rfl, (qh_ BK111.out 1).trans rfl⟩ (fun hHeld => ?_)
            clear hK K
            refine norm_ (a' := ?_) ?_ ?_
            rotate_left
            ·show Act.put _ (some 91) _ = _
             simp only [Act.put, sa_, sb_, sc_, i64_w, i32_w]
             rfl
            refine one_ (i := 43) (N := some 92) #[true,true,true,true,true,true,true,true,true,true,true,true,true,true,true,true,true,true,true,true,true,true,true,true,true,true,true,true,true,true,true,true,true,true,true,true,true,true,true,true,true,true,true,true,false,false] rfl rfl (one_of HT_.out (by kernel_rfl)) (by decide) (fun K hK => ?_)
            refine goes_ Try.func15 (by kernel_rfl) rfl #[.agg #[.int .i64 t132, .slice Ao92 t133.length co92], .agg #[.int .i64 t136, .slice Ao93 t137.length co93]] (by rfl) rfl rfl (by (try simp only [List.map_toArray, List.map_cons, List.map_nil]); first | done | rfl | (simp only [List.length_drop, List.length_take]; rfl)) ?_
            with_reducible refine (ref10_Same.calls kj5 t132 _ _ t133 t136 _ _ t137 t140 _ ?side1 ?side2 ?side3 ?side4 A40.out).mono ?_
            (case side1 => repeat (first | exact (Kd.R_reads' HO135.out).2.2 | (with_reducible refine Kd.C_alloc ?_ _) | (with_reducible refine Kd.C_drewN ?_ _) | (with_reducible refine Kd.C_drew ?_)))
            (case side2 => exact (Kd.R_reads' HO135.out).2.1)
            (case side3 => repeat (first | exact (Kd.R_reads' HO139.out).2.2 | (with_reducible refine Kd.C_alloc ?_ _) | (with_reducible refine Kd.C_drewN ?_ _) | (with_reducible refine Kd.C_drew ?_)))
            (case side4 => exact (Kd.R_reads' HO139.out).2.1)
            rintro e w94 ⟨rfl, hb⟩
            refine ⟨_, rfl, ?_⟩
            have n0_ := Aside0.mk (Kd.R_below (by (with_reducible repeat (first | apply Kd.R_alloc | apply Kd.R_drewN | apply Kd.R_drew)); exact HO110.out) hb)
            have n1_ := Aside0.mk (Kd.V_below (by (with_reducible repeat (first | apply Kd.qn_ | apply Kd.qm_ | apply Kd.V_drew)); exact HO115.out) hb)
            have n2_ := Aside0.mk (Kd.V_below (by (with_reducible repeat (first | apply Kd.qn_ | apply Kd.qm_ | apply Kd.V_drew)); exact HO121.out) hb)
            have n3_ := Aside0.mk (Kd.R_below (by (with_reducible repeat (first | apply Kd.R_alloc | apply Kd.R_drewN | apply Kd.R_drew)); exact HO135.out) hb)
            have n4_ := Aside0.mk (Kd.R_below (by (with_reducible repeat (first | apply Kd.R_alloc | apply Kd.R_drewN | apply Kd.R_drew)); exact HO139.out) hb)
            have n5_ := Aside0.mk (qj_ (g := gb101) (o := .cells #[.int .i64 a0_0, .slice A0_1 l0_1.length c0_1] 27 (0, 0)) (by (with_reducible repeat (first | refine qc_ ?_ _ | refine qe_ ?_ | refine qd_ ?_ _)); exact BK101.out) hb)
            have n6_ := Aside0.mk (qj_ (g := gb102) (o := .cells #[.int .i64 a1_0, .slice A1_1 l1_1.length c1_1] 27 (0, 0)) (by (with_reducible repeat (first | refine qc_ ?_ _ | refine qe_ ?_ | refine qd_ ?_ _)); exact BK102.out) hb)
            have n7_ := Aside0.mk (qj_ (g := gb103) (o := .cells #[.int .i64 a2_0, .int .i64 a2_1, .int .i64 a2_2] 39 (0, 0)) (by (with_reducible repeat (first | refine qc_ ?_ _ | refine qe_ ?_ | refine qd_ ?_ _)); exact BK103.out) hb)
            have n8_ := Aside0.mk (qj_ (g := gb111) (o := .cells #[.int .i64 a0_0, .slice Ao48 y108.length co48] 27 (0, 0)) (by (with_reducible repeat (first | refine qc_ ?_ _ | refine qe_ ?_ | refine qd_ ?_ _)); exact BK111.out) hb)
            have n9_ := Aside0.mk (qj_ (g := gb117) (o := .cells #[.int .i64 t112, .slice Ao66 t113.length co66] 27 (0, 0)) (by (with_reducible repeat (first | refine qc_ ?_ _ | refine qe_ ?_ | refine qd_ ?_ _)); exact BK117.out) hb)
            have n10_ := Aside0.mk (qj_ (g := gb123) (o := .cells #[.int .i64 t118, .slice Ao79 t119.length co79] 27 (0, 0)) (by (with_reducible repeat (first | refine qc_ ?_ _ | refine qe_ ?_ | refine qd_ ?_ _)); exact BK123.out) hb)
            have n11_ := Aside0.mk (ql_ (by repeat (first | (with_reducible first | exact HB.out | apply qf_ | apply qa_ | apply qg_ | refine qb_ ?_ GE101.out | refine qb_ ?_ GE102.out | refine qb_ ?_ GE103.out | refine qb_ ?_ GE111.out | refine qb_ ?_ GE117.out | refine qb_ ?_ GE123.out) | exact HB.out)) hb)
            clear HO110
            clear HO115
            clear HO121
            clear HO135
            clear HO139
            clear BK101
            clear BK102
            clear BK103
            clear BK111
            clear BK117
            clear BK123
            clear HB
            have HO110 := n0_
            have HO115 := n1_
            have HO121 := n2_
            have HO135 := n3_
            have HO139 := n4_
            have BK101 := n5_
            have BK102 := n6_
            have BK103 := n7_
            have BK111 := n8_
            have BK117 := n9_
            have BK123 := n10_
            have HB := n11_
            clear n0_ n1_ n2_ n3_ n4_ n5_ n6_ n7_ n8_ n9_ n10_ n11_
            (try clear hb)
            (try clear hb2)
            (try clear hk)
            (try clear hi)
            refine hK.out _ _ ⟨(qh_ BK117.out 0).trans rfl, (qh_ BK117.out 1).trans rfl, (qh_ BK123.out 0).trans rfl, (qh_ BK123.out 1).trans rfl, (qh_ BK101.out 0).trans rfl, (qh_ BK101.out 1).trans rfl, (qh_ BK103.out 0).trans rfl, (qh_ BK103.out 1).trans rfl, (qh_ BK103.out 2).trans rfl, (qh_ BK102.out 0).trans rfl, (qh_ BK102.out 1).trans rfl, (qh_ BK111.out 0).trans rfl, (qh_ BK111.out 1).trans rfl⟩ (fun hHeld => ?_)
            clear hK K
            refine norm_ (a' := ?_) ?_ ?_
            rotate_left
            ·show Act.put _ (some 92) _ = _
             simp only [Act.put, sa_, sb_, sc_, i64_w, i32_w]
             rfl
            refine pure_ (i := 44) (N := some 93) (v := ?_) (a' := ?_) #[true,true,true,true,true,true,true,true,true,true,true,true,true,true,true,true,true,true,true,true,true,true,true,true,true,true,true,true,true,true,true,true,true,true,true,true,true,true,true,true,true,true,true,true,true,false] rfl rfl (any_of HT_.out (by kernel_rfl)) (fun _ _ _ h => h) (Or.inl ⟨by rfl, ?_⟩) ?_ ?_
            rotate_left
            ·intro w'
             go_simp
             with_reducible rfl
            rotate_left
            ·simp only [Act.put, sa_, sb_, sc_, i64_w, i32_w]
             rfl
            refine pure_ (i := 45) (N := some 6) (v := ?_) (a' := ?_) #[true,true,true,true,true,true,true,true,true,true,true,true,true,true,true,true,true,true,true,true,true,true,true,true,true,true,true,true,true,true,true,true,true,true,true,true,true,true,true,true,true,true,true,true,true,true] rfl rfl (any_of HT_.out (by kernel_rfl)) (fun _ _ _ h => h) (Or.inl ⟨by rfl, ?_⟩) ?_ ?_
            rotate_left
            ·intro w'
             go_simp
             with_reducible rfl
            rotate_left
            ·simp only [Act.put, sa_, sb_, sc_, i64_w, i32_w]
             rfl
            refine done_ (done_of HT_.out (by kernel_rfl)) ?_
            try go_wp2
            go_ret
            exact ⟨by first | rfl | (simp [errW_none, errW_some] <;> rfl) | (simp [*, errW_none, errW_some] <;> rfl), by repeat (first | (with_reducible first | exact HB.out | apply qf_ | apply qa_ | apply qg_ | refine qb_ ?_ GE101.out | refine qb_ ?_ GE102.out | refine qb_ ?_ GE103.out | refine qb_ ?_ GE111.out | refine qb_ ?_ GE117.out | refine qb_ ?_ GE123.out) | exact HB.out)⟩
           ·rw [if_neg c37] at H
            exact absurd ((Option.some.inj H).trans HRT.out) (by decide)
          ·rw [if_neg c35] at H
           exact absurd ((Option.some.inj H).trans HRT.out) (by decide)
         ·rw [if_neg c32] at H
          exact absurd ((Option.some.inj H).trans HRT.out) (by decide)
        ·rw [if_neg c29] at H
         exact absurd ((Option.some.inj H).trans HRT.out) (by decide)
       ·rw [if_neg c26] at H
        exact absurd ((Option.some.inj H).trans HRT.out) (by decide)
      ·rw [if_neg c25] at H
       exact absurd ((Option.some.inj H).trans HRT.out) (by decide)
     ·rw [if_neg c21] at H
      exact absurd H (by simp)
 ·rw [if_neg c5] at H
  exact absurd ((Option.some.inj H).trans HRT.out) (by decide)
end Go.Proofs.Ytkojggbogdjmcaa.P

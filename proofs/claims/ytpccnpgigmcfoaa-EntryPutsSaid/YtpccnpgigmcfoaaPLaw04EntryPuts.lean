/- What this function of the program comes to, and that the machine's call does it: written by a program (wip/tool). No condition. -/
import Derived.Test.YtpccnpgigmcfoaaP0
import Derived.Test.YtpccnpgigmcfoaaPEq0
import Derived.Test.YtpccnpgigmcfoaaPEntryGet
import Derived.Test.YtpccnpgigmcfoaaPEntryRight
import Derived.Test.YtpccnpgigmcfoaaPEntryAbove
import Derived.Test.YtpccnpgigmcfoaaPLaw04Alive
import Derived.Test.YtpccnpgigmcfoaaPRef04Great
import Derived.Test.YtpccnpgigmcfoaaPRef04May
import Derived.Test.YtpccnpgigmcfoaaPRef04Right
import Derived.Test.YtpccnpgigmcfoaaPEntryPut
import Derived.Test.YtpccnpgigmcfoaaHw
namespace Go.Proofs.Ytpccnpgigmcfoaa.P
open Go.RowKit Go.Proofs.YtpccnpgigmcfoaaW.PrintWords Go.Proofs.YtpccnpgigmcfoaaW.PrintLast Go.Proofs.YtpccnpgigmcfoaaW.PrintMore
attribute [local go_sem] max2_int min2_int max_two min_two max_three min_three max_four min_four Go.Proofs.YtpccnpgigmcfoaaW.Hw.string_gtr   -- for this text's walks alone
set_option linter.unusedVariables false
set_option linter.unusedSimpArgs false
attribute [local go_sem high] eqA30
/-! ### law04_EntryPuts: function 7 -/
mutual
def law04_EntryPuts.j0 : Nat → List (S30) → Bool → Int → Int → ByteArray → Int → Int → Option (Bool)
 | 0, _, _, _, _, _, _, _ => none
 | k + 1, x0, x31, x102000, x102001, x102002, x103000, x103001 => if x31 = true then (some true) else ((entry_Put.f x0 x102000 x102001 x102002).bind fun t107 => ((entry_Get.f t107 x102000).bind fun bt110 => ((entry_Get.f x0 (Int.tmod (wrap64 (x103000)) 12)).bind fun bt115 => ((entry_Get.f t107 (Int.tmod (wrap64 (x103000)) 12)).bind fun bt120 => (if bt110.2.2.2 = true then (if (!(bt110.1 == x102000) || (!(bt110.2.1 == x102001) || (!(bt110.2.2.1.toList == x102002.toList)))) = true then (law04_EntryPuts.j1 k t107 true x103000 x103001) else (if (Int.tmod (wrap64 (x103000)) 12) = x102000 then ((entry_Right.f k t107).bind fun t125 => (law04_EntryPuts.j1 k t107 (!t125) x103000 x103001)) else (if (!(bt115.1 == bt120.1) || (!(bt115.2.1 == bt120.2.1) || (!(bt115.2.2.1.toList == bt120.2.2.1.toList)))) = true then (law04_EntryPuts.j1 k t107 true x103000 x103001) else (if (bt115.2.2.2 != bt120.2.2.2) = true then (law04_EntryPuts.j1 k t107 true x103000 x103001) else ((entry_Right.f k t107).bind fun t126 => (law04_EntryPuts.j1 k t107 (!t126) x103000 x103001)))))) else (law04_EntryPuts.j1 k t107 true x103000 x103001))))))
def law04_EntryPuts.j1 : Nat → List (S30) → Bool → Int → Int → Option (Bool)
 | 0, _, _, _, _ => none
 | k + 1, x7, x85, x103000, x103001 => if x85 = true then (some false) else ((entry_Above.f x7 (wrap64 (x103001))).bind fun t127 => (law04_EntryPuts.l0 k x7 t127 0 0 x103000 x103001))
def law04_EntryPuts.l0 : Nat → List (S30) → List (S30) → Int → Int → Int → Int → Option (Bool)
 | 0, _, _, _, _, _, _ => none
 | k + 1, x7, x15, x16, x17, x103000, x103001 => if x17 < (x7.length : Int) then (if 0 ≤ x17 then (if ((rd_T30 x7 x17).f1) > (wrap64 (x103001)) then (if x16 ≥ (x15.length : Int) then (some false) else (if 0 ≤ x16 then (if x16 < (x15.length : Int) then (if (!(((rd_T30 x15 x16).f0) == ((rd_T30 x7 x17).f0)) || (!(((rd_T30 x15 x16).f1) == ((rd_T30 x7 x17).f1)) || (!((((rd_T30 x15 x16).f2).toList) == (((rd_T30 x7 x17).f2).toList))))) = true then (some false) else (law04_EntryPuts.l0 k x7 x15 (wrap64 (x16 + 1)) (wrap64 (x17 + 1)) x103000 x103001)) else (none)) else (none))) else (law04_EntryPuts.l0 k x7 x15 x16 (wrap64 (x17 + 1)) x103000 x103001)) else (none)) else (some (x16 == (x15.length : Int)))
end
def law04_EntryPuts.f (k : Nat) (l0 : List (S30)) (a1_0 : Int) (a1_1 : Int) (a1_2 : ByteArray) (a2_0 : Int) (a2_1 : Int) : Option (Bool) := (law04_alive.f k).bind fun t103 => (if t103 = true then ((ref04_Great.f k l0).bind fun t104 => (if t104 = true then (law04_EntryPuts.j0 k l0 true a1_0 a1_1 a1_2 a2_0 a2_1) else ((ref04_Right.f k l0).bind fun t105 => (if t105 = true then ((ref04_May.f a1_0 a1_1 a1_2).bind fun t106 => (law04_EntryPuts.j0 k l0 (!t106) a1_0 a1_1 a1_2 a2_0 a2_1)) else (law04_EntryPuts.j0 k l0 true a1_0 a1_1 a1_2 a2_0 a2_1))))) else (some false))
theorem law04_EntryPuts.mono_l : ∀ k, (∀ y0 y1 y2 y3 y4 y5 y6, LeO (law04_EntryPuts.j0 k y0 y1 y2 y3 y4 y5 y6) (law04_EntryPuts.j0 (k + 1) y0 y1 y2 y3 y4 y5 y6)) ∧ (∀ y0 y1 y2 y3, LeO (law04_EntryPuts.j1 k y0 y1 y2 y3) (law04_EntryPuts.j1 (k + 1) y0 y1 y2 y3)) ∧ (∀ y0 y1 y2 y3 y4 y5, LeO (law04_EntryPuts.l0 k y0 y1 y2 y3 y4 y5) (law04_EntryPuts.l0 (k + 1) y0 y1 y2 y3 y4 y5))
 | 0 => ⟨fun _ _ _ _ _ _ _ r h => by simp [law04_EntryPuts.j0] at h, fun _ _ _ _ r h => by simp [law04_EntryPuts.j1] at h, fun _ _ _ _ _ _ r h => by simp [law04_EntryPuts.l0] at h⟩
 | k + 1 => by
  obtain ⟨ih0, ih1, ih2⟩ := law04_EntryPuts.mono_l k
  refine ⟨?_, ?_, ?_⟩
  ·intro y0 y1 y2 y3 y4 y5 y6
   unfold law04_EntryPuts.j0
   repeat' first
   | (with_reducible exact ih0 _ _ _ _ _ _ _)
   | (with_reducible exact ih1 _ _ _ _)
   | (with_reducible exact ih2 _ _ _ _ _ _)
   | (with_reducible exact law04_alive.mono _)
   | (with_reducible exact ref04_Great.mono _ _)
   | (with_reducible exact ref04_Right.mono _ _)
   | (with_reducible exact entry_Right.mono _ _)
   | (with_reducible exact LeO.refl _)
   | (with_reducible exact LeO.none _)
   | (with_reducible refine LeO.ite ?_ ?_)
   | (with_reducible refine LeO.bind ?_ (fun _ => ?_))
   | exact ih0 _ _ _ _ _ _ _
   | exact ih1 _ _ _ _
   | exact ih2 _ _ _ _ _ _
   | exact law04_alive.mono _
   | exact ref04_Great.mono _ _
   | exact ref04_Right.mono _ _
   | exact entry_Right.mono _ _
   | exact LeO.none _
   | refine LeO.ite ?_ ?_
   | refine LeO.bind ?_ (fun _ => ?_)
  ·intro y0 y1 y2 y3
   unfold law04_EntryPuts.j1
   repeat' first
   | (with_reducible exact ih0 _ _ _ _ _ _ _)
   | (with_reducible exact ih1 _ _ _ _)
   | (with_reducible exact ih2 _ _ _ _ _ _)
   | (with_reducible exact law04_alive.mono _)
   | (with_reducible exact ref04_Great.mono _ _)
   | (with_reducible exact ref04_Right.mono _ _)
   | (with_reducible exact entry_Right.mono _ _)
   | (with_reducible exact LeO.refl _)
   | (with_reducible exact LeO.none _)
   | (with_reducible refine LeO.ite ?_ ?_)
   | (with_reducible refine LeO.bind ?_ (fun _ => ?_))
   | exact ih0 _ _ _ _ _ _ _
   | exact ih1 _ _ _ _
   | exact ih2 _ _ _ _ _ _
   | exact law04_alive.mono _
   | exact ref04_Great.mono _ _
   | exact ref04_Right.mono _ _
   | exact entry_Right.mono _ _
   | exact LeO.none _
   | refine LeO.ite ?_ ?_
   | refine LeO.bind ?_ (fun _ => ?_)
  ·intro y0 y1 y2 y3 y4 y5
   unfold law04_EntryPuts.l0
   repeat' first
   | (with_reducible exact ih0 _ _ _ _ _ _ _)
   | (with_reducible exact ih1 _ _ _ _)
   | (with_reducible exact ih2 _ _ _ _ _ _)
   | (with_reducible exact law04_alive.mono _)
   | (with_reducible exact ref04_Great.mono _ _)
   | (with_reducible exact ref04_Right.mono _ _)
   | (with_reducible exact entry_Right.mono _ _)
   | (with_reducible exact LeO.refl _)
   | (with_reducible exact LeO.none _)
   | (with_reducible refine LeO.ite ?_ ?_)
   | (with_reducible refine LeO.bind ?_ (fun _ => ?_))
   | exact ih0 _ _ _ _ _ _ _
   | exact ih1 _ _ _ _
   | exact ih2 _ _ _ _ _ _
   | exact law04_alive.mono _
   | exact ref04_Great.mono _ _
   | exact ref04_Right.mono _ _
   | exact entry_Right.mono _ _
   | exact LeO.none _
   | refine LeO.ite ?_ ?_
   | refine LeO.bind ?_ (fun _ => ?_)
theorem law04_EntryPuts.mono : ∀ a0 a1 a2 a3 a4 a5 k, LeO (law04_EntryPuts.f k a0 a1 a2 a3 a4 a5) (law04_EntryPuts.f (k + 1) a0 a1 a2 a3 a4 a5) := by
 intro a0 a1 a2 a3 a4 a5 k
 obtain ⟨ih0, ih1, ih2⟩ := law04_EntryPuts.mono_l k
 unfold law04_EntryPuts.f
 repeat' first
   | (with_reducible exact ih0 _ _ _ _ _ _ _)
   | (with_reducible exact ih1 _ _ _ _)
   | (with_reducible exact ih2 _ _ _ _ _ _)
   | (with_reducible exact law04_alive.mono _)
   | (with_reducible exact ref04_Great.mono _ _)
   | (with_reducible exact ref04_Right.mono _ _)
   | (with_reducible exact entry_Right.mono _ _)
   | (with_reducible exact LeO.refl _)
   | (with_reducible exact LeO.none _)
   | (with_reducible refine LeO.ite ?_ ?_)
   | (with_reducible refine LeO.bind ?_ (fun _ => ?_))
   | exact ih0 _ _ _ _ _ _ _
   | exact ih1 _ _ _ _
   | exact ih2 _ _ _ _ _ _
   | exact law04_alive.mono _
   | exact ref04_Great.mono _ _
   | exact ref04_Right.mono _ _
   | exact entry_Right.mono _ _
   | exact LeO.none _
   | refine LeO.ite ?_ ?_
   | refine LeO.bind ?_ (fun _ => ?_)
set_option maxHeartbeats 8000000 in
set_option maxRecDepth 100000 in
theorem law04_EntryPuts.calls (k : Nat) (A0 : Option Addr) (c0 : Nat) (l0 : List (S30)) (a1_0 : Int) (a1_1 : Int) (a1_2 : ByteArray) (a2_0 : Int) (a2_1 : Int) (r : Bool) (w : World) (hr0 : Kd.C k30 w A0 l0.length l0) (hc0 : l0.length ≤ c0) (h : law04_EntryPuts.f k l0 a1_0 a1_1 a1_2 a2_0 a2_1 = some r) (hrt : r = true) :
  Calls Try.prog 7 #[.slice A0 l0.length c0, .agg #[.int .i64 a1_0, .int .i64 a1_1, .string a1_2], .agg #[.int .u8 a2_0, .int .u8 a2_1]] w fun e w' => e = .returned (.bool r) ∧ Below w.heap.size w w' := by
 have HRT := Aside0.mk hrt
 clear hrt
 have hu30 := Try.underlying30
 have hu38 := Try.underlying38
 have HR0 := Aside0.mk hr0
 have HC0 := Aside0.mk hc0
 clear hr0 hc0
 have HB := Aside0.mk (Below.refl w.heap.size w)
 have H : ((law04_alive.f k).bind fun t103 => (if t103 = true then ((ref04_Great.f k l0).bind fun t104 => (if t104 = true then (law04_EntryPuts.j0 k l0 true a1_0 a1_1 a1_2 a2_0 a2_1) else ((ref04_Right.f k l0).bind fun t105 => (if t105 = true then ((ref04_May.f a1_0 a1_1 a1_2).bind fun t106 => (law04_EntryPuts.j0 k l0 (!t106) a1_0 a1_1 a1_2 a2_0 a2_1)) else (law04_EntryPuts.j0 k l0 true a1_0 a1_1 a1_2 a2_0 a2_1))))) else (some false))) = some r := h
 clear h
 replace H := ob_ H
 obtain ⟨t103, A40, H⟩ := H
 replace H : (if t103 = true then ((ref04_Great.f k l0).bind fun t104 => (if t104 = true then (law04_EntryPuts.j0 k l0 true a1_0 a1_1 a1_2 a2_0 a2_1) else ((ref04_Right.f k l0).bind fun t105 => (if t105 = true then ((ref04_May.f a1_0 a1_1 a1_2).bind fun t106 => (law04_EntryPuts.j0 k l0 (!t106) a1_0 a1_1 a1_2 a2_0 a2_1)) else (law04_EntryPuts.j0 k l0 true a1_0 a1_1 a1_2 a2_0 a2_1))))) else (some false)) = some r := H
 have A4 := Aside0.mk A40
 clear A40
 by_cases c5 : t103 = true
 ·subst c5
  have H1 : ((ref04_Great.f k l0).bind fun t104 => (if t104 = true then (law04_EntryPuts.j0 k l0 true a1_0 a1_1 a1_2 a2_0 a2_1) else ((ref04_Right.f k l0).bind fun t105 => (if t105 = true then ((ref04_May.f a1_0 a1_1 a1_2).bind fun t106 => (law04_EntryPuts.j0 k l0 (!t106) a1_0 a1_1 a1_2 a2_0 a2_1)) else (law04_EntryPuts.j0 k l0 true a1_0 a1_1 a1_2 a2_0 a2_1))))) = some r := by rw [if_pos rfl] at H; exact H
  clear H
  have H := H1
  clear H1
  have HC6 := Aside0.mk H
  clear H
  go_enter Try.func7, Try.ntmps7
  go_upto_region 3 with (first | ((with_reducible refine qq_ (N := 4) rfl ?_); refine qp_ ?hg (N := 4) ?hd (cs := #[.int .i64 a1_0, .int .i64 a1_1, .string a1_2]) (t := 30) ?hr ?_; (case hd => rfl); (case hg => rfl); (case hr => first | (go_simp; done) | (go_simp; rfl)); intro gb101 hg w7 hbox hb; have n0_ := Aside0.mk (qk_ (by repeat (first | (with_reducible first | exact HB.out | apply qc_ | apply qa_ | apply qb_) | exact HB.out)) hb); have n1_ := Aside0.mk (hbox); have n2_ := Aside0.mk ((by rw [hg]; exact (qj_ (by repeat (first | (with_reducible first | exact HB.out | apply qc_ | apply qa_ | apply qb_) | exact HB.out))) : w.heap.size ≤ gb101)); have n3_ := Aside0.mk ((by rw [hg]; exact (qj_ (by repeat (first | (with_reducible first | exact HB.out | apply qc_ | apply qa_ | apply qb_) | exact HB.out))) : w.heap.size ≤ gb101)); clear HB; have HB := n0_; have BK101 := n1_; have GW101 := n2_; have GE101 := n3_; clear n0_ n1_ n2_ n3_; clear hb hbox hg) | ((with_reducible refine qq_ (N := 5) rfl ?_); refine qp_ ?hg (N := 5) ?hd (cs := #[.int .u8 a2_0, .int .u8 a2_1]) (t := 38) ?hr ?_; (case hd => rfl); (case hg => rfl); (case hr => first | (go_simp; done) | (go_simp; rfl)); intro gb102 hg w8 hbox hb; have n0_ := Aside0.mk (ql_ (g := gb101) (o := .cells #[.int .i64 a1_0, .int .i64 a1_1, .string a1_2] 30 (0, 0)) (by (with_reducible repeat (first | refine qd_ ?_ _ | refine qf_ ?_ | refine qe_ ?_ _)); exact BK101.out) hb); have n1_ := Aside0.mk (qk_ (by repeat (first | (with_reducible first | exact HB.out | apply qc_ | apply qa_ | apply qb_ | refine qg_ ?_ GE101.out) | exact HB.out)) hb); have n2_ := Aside0.mk (hbox); have n3_ := Aside0.mk ((by rw [hg]; exact (qj_ (by repeat (first | (with_reducible first | exact HB.out | apply qc_ | apply qa_ | apply qb_ | refine qg_ ?_ GE101.out) | exact HB.out))) : w.heap.size ≤ gb102)); have n4_ := Aside0.mk ((by rw [hg]; exact (qj_ (by repeat (first | (with_reducible first | exact HB.out | apply qc_ | apply qa_ | apply qb_ | refine qg_ ?_ GE101.out) | exact HB.out))) : w.heap.size ≤ gb102)); have n5_ := Aside0.mk ((by rw [hg]; exact Nat.ne_of_lt (blk_lt (g := gb101) (o := .cells #[.int .i64 a1_0, .int .i64 a1_1, .string a1_2] 30 (0, 0)) (by (with_reducible repeat (first | refine qd_ ?_ _ | refine qf_ ?_ | refine qe_ ?_ _)); exact BK101.out)) : gb101 ≠ gb102)); have n6_ := Aside0.mk ((by rw [hg]; exact Nat.ne_of_gt (blk_lt (g := gb101) (o := .cells #[.int .i64 a1_0, .int .i64 a1_1, .string a1_2] 30 (0, 0)) (by (with_reducible repeat (first | refine qd_ ?_ _ | refine qf_ ?_ | refine qe_ ?_ _)); exact BK101.out)) : gb102 ≠ gb101)); clear BK101; clear HB; have BK101 := n0_; have HB := n1_; have BK102 := n2_; have GW102 := n3_; have GE102 := n4_; have NB101_102 := n5_; have NB102_101 := n6_; clear n0_ n1_ n2_ n3_ n4_ n5_ n6_; clear hb hbox hg) | (go_at_call 8; (with_reducible refine (law04_alive.calls k  true _ A4.out).mono ?_); rintro e w9 ⟨rfl, hb⟩; have n0_ := Aside0.mk (ql_ (g := gb101) (o := .cells #[.int .i64 a1_0, .int .i64 a1_1, .string a1_2] 30 (0, 0)) (by (with_reducible repeat (first | refine qd_ ?_ _ | refine qf_ ?_ | refine qe_ ?_ _)); exact BK101.out) hb); have n1_ := Aside0.mk (ql_ (g := gb102) (o := .cells #[.int .u8 a2_0, .int .u8 a2_1] 38 (0, 0)) (by (with_reducible repeat (first | refine qd_ ?_ _ | refine qf_ ?_ | refine qe_ ?_ _)); exact BK102.out) hb); have n2_ := Aside0.mk (qk_ (by repeat (first | (with_reducible first | exact HB.out | apply qc_ | apply qa_ | apply qb_ | refine qg_ ?_ GE101.out | refine qg_ ?_ GE102.out) | exact HB.out)) hb); clear BK101; clear BK102; clear HB; have BK101 := n0_; have BK102 := n1_; have HB := n2_; clear n0_ n1_ n2_; (try clear hb); (try clear hb2); (try clear hk); (try clear hi)))
  repeat (go_quiet (first | ((with_reducible refine qq_ (N := 4) rfl ?_); refine qp_ ?hg (N := 4) ?hd (cs := #[.int .i64 a1_0, .int .i64 a1_1, .string a1_2]) (t := 30) ?hr ?_; (case hd => rfl); (case hg => rfl); (case hr => first | (go_simp; done) | (go_simp; rfl)); intro gb101 hg w7 hbox hb; have n0_ := Aside0.mk (qk_ (by repeat (first | (with_reducible first | exact HB.out | apply qc_ | apply qa_ | apply qb_) | exact HB.out)) hb); have n1_ := Aside0.mk (hbox); have n2_ := Aside0.mk ((by rw [hg]; exact (qj_ (by repeat (first | (with_reducible first | exact HB.out | apply qc_ | apply qa_ | apply qb_) | exact HB.out))) : w.heap.size ≤ gb101)); have n3_ := Aside0.mk ((by rw [hg]; exact (qj_ (by repeat (first | (with_reducible first | exact HB.out | apply qc_ | apply qa_ | apply qb_) | exact HB.out))) : w.heap.size ≤ gb101)); clear HB; have HB := n0_; have BK101 := n1_; have GW101 := n2_; have GE101 := n3_; clear n0_ n1_ n2_ n3_; clear hb hbox hg) | ((with_reducible refine qq_ (N := 5) rfl ?_); refine qp_ ?hg (N := 5) ?hd (cs := #[.int .u8 a2_0, .int .u8 a2_1]) (t := 38) ?hr ?_; (case hd => rfl); (case hg => rfl); (case hr => first | (go_simp; done) | (go_simp; rfl)); intro gb102 hg w8 hbox hb; have n0_ := Aside0.mk (ql_ (g := gb101) (o := .cells #[.int .i64 a1_0, .int .i64 a1_1, .string a1_2] 30 (0, 0)) (by (with_reducible repeat (first | refine qd_ ?_ _ | refine qf_ ?_ | refine qe_ ?_ _)); exact BK101.out) hb); have n1_ := Aside0.mk (qk_ (by repeat (first | (with_reducible first | exact HB.out | apply qc_ | apply qa_ | apply qb_ | refine qg_ ?_ GE101.out) | exact HB.out)) hb); have n2_ := Aside0.mk (hbox); have n3_ := Aside0.mk ((by rw [hg]; exact (qj_ (by repeat (first | (with_reducible first | exact HB.out | apply qc_ | apply qa_ | apply qb_ | refine qg_ ?_ GE101.out) | exact HB.out))) : w.heap.size ≤ gb102)); have n4_ := Aside0.mk ((by rw [hg]; exact (qj_ (by repeat (first | (with_reducible first | exact HB.out | apply qc_ | apply qa_ | apply qb_ | refine qg_ ?_ GE101.out) | exact HB.out))) : w.heap.size ≤ gb102)); have n5_ := Aside0.mk ((by rw [hg]; exact Nat.ne_of_lt (blk_lt (g := gb101) (o := .cells #[.int .i64 a1_0, .int .i64 a1_1, .string a1_2] 30 (0, 0)) (by (with_reducible repeat (first | refine qd_ ?_ _ | refine qf_ ?_ | refine qe_ ?_ _)); exact BK101.out)) : gb101 ≠ gb102)); have n6_ := Aside0.mk ((by rw [hg]; exact Nat.ne_of_gt (blk_lt (g := gb101) (o := .cells #[.int .i64 a1_0, .int .i64 a1_1, .string a1_2] 30 (0, 0)) (by (with_reducible repeat (first | refine qd_ ?_ _ | refine qf_ ?_ | refine qe_ ?_ _)); exact BK101.out)) : gb102 ≠ gb101)); clear BK101; clear HB; have BK101 := n0_; have HB := n1_; have BK102 := n2_; have GW102 := n3_; have GE102 := n4_; have NB101_102 := n5_; have NB102_101 := n6_; clear n0_ n1_ n2_ n3_ n4_ n5_ n6_; clear hb hbox hg) | (go_at_call 8; (with_reducible refine (law04_alive.calls k  true _ A4.out).mono ?_); rintro e w9 ⟨rfl, hb⟩; have n0_ := Aside0.mk (ql_ (g := gb101) (o := .cells #[.int .i64 a1_0, .int .i64 a1_1, .string a1_2] 30 (0, 0)) (by (with_reducible repeat (first | refine qd_ ?_ _ | refine qf_ ?_ | refine qe_ ?_ _)); exact BK101.out) hb); have n1_ := Aside0.mk (ql_ (g := gb102) (o := .cells #[.int .u8 a2_0, .int .u8 a2_1] 38 (0, 0)) (by (with_reducible repeat (first | refine qd_ ?_ _ | refine qf_ ?_ | refine qe_ ?_ _)); exact BK102.out) hb); have n2_ := Aside0.mk (qk_ (by repeat (first | (with_reducible first | exact HB.out | apply qc_ | apply qa_ | apply qb_ | refine qg_ ?_ GE101.out | refine qg_ ?_ GE102.out) | exact HB.out)) hb); clear BK101; clear BK102; clear HB; have BK101 := n0_; have BK102 := n1_; have HB := n2_; clear n0_ n1_ n2_; (try clear hb); (try clear hb2); (try clear hk); (try clear hi))); go_upto_region 3 with (first | ((with_reducible refine qq_ (N := 4) rfl ?_); refine qp_ ?hg (N := 4) ?hd (cs := #[.int .i64 a1_0, .int .i64 a1_1, .string a1_2]) (t := 30) ?hr ?_; (case hd => rfl); (case hg => rfl); (case hr => first | (go_simp; done) | (go_simp; rfl)); intro gb101 hg w7 hbox hb; have n0_ := Aside0.mk (qk_ (by repeat (first | (with_reducible first | exact HB.out | apply qc_ | apply qa_ | apply qb_) | exact HB.out)) hb); have n1_ := Aside0.mk (hbox); have n2_ := Aside0.mk ((by rw [hg]; exact (qj_ (by repeat (first | (with_reducible first | exact HB.out | apply qc_ | apply qa_ | apply qb_) | exact HB.out))) : w.heap.size ≤ gb101)); have n3_ := Aside0.mk ((by rw [hg]; exact (qj_ (by repeat (first | (with_reducible first | exact HB.out | apply qc_ | apply qa_ | apply qb_) | exact HB.out))) : w.heap.size ≤ gb101)); clear HB; have HB := n0_; have BK101 := n1_; have GW101 := n2_; have GE101 := n3_; clear n0_ n1_ n2_ n3_; clear hb hbox hg) | ((with_reducible refine qq_ (N := 5) rfl ?_); refine qp_ ?hg (N := 5) ?hd (cs := #[.int .u8 a2_0, .int .u8 a2_1]) (t := 38) ?hr ?_; (case hd => rfl); (case hg => rfl); (case hr => first | (go_simp; done) | (go_simp; rfl)); intro gb102 hg w8 hbox hb; have n0_ := Aside0.mk (ql_ (g := gb101) (o := .cells #[.int .i64 a1_0, .int .i64 a1_1, .string a1_2] 30 (0, 0)) (by (with_reducible repeat (first | refine qd_ ?_ _ | refine qf_ ?_ | refine qe_ ?_ _)); exact BK101.out) hb); have n1_ := Aside0.mk (qk_ (by repeat (first | (with_reducible first | exact HB.out | apply qc_ | apply qa_ | apply qb_ | refine qg_ ?_ GE101.out) | exact HB.out)) hb); have n2_ := Aside0.mk (hbox); have n3_ := Aside0.mk ((by rw [hg]; exact (qj_ (by repeat (first | (with_reducible first | exact HB.out | apply qc_ | apply qa_ | apply qb_ | refine qg_ ?_ GE101.out) | exact HB.out))) : w.heap.size ≤ gb102)); have n4_ := Aside0.mk ((by rw [hg]; exact (qj_ (by repeat (first | (with_reducible first | exact HB.out | apply qc_ | apply qa_ | apply qb_ | refine qg_ ?_ GE101.out) | exact HB.out))) : w.heap.size ≤ gb102)); have n5_ := Aside0.mk ((by rw [hg]; exact Nat.ne_of_lt (blk_lt (g := gb101) (o := .cells #[.int .i64 a1_0, .int .i64 a1_1, .string a1_2] 30 (0, 0)) (by (with_reducible repeat (first | refine qd_ ?_ _ | refine qf_ ?_ | refine qe_ ?_ _)); exact BK101.out)) : gb101 ≠ gb102)); have n6_ := Aside0.mk ((by rw [hg]; exact Nat.ne_of_gt (blk_lt (g := gb101) (o := .cells #[.int .i64 a1_0, .int .i64 a1_1, .string a1_2] 30 (0, 0)) (by (with_reducible repeat (first | refine qd_ ?_ _ | refine qf_ ?_ | refine qe_ ?_ _)); exact BK101.out)) : gb102 ≠ gb101)); clear BK101; clear HB; have BK101 := n0_; have HB := n1_; have BK102 := n2_; have GW102 := n3_; have GE102 := n4_; have NB101_102 := n5_; have NB102_101 := n6_; clear n0_ n1_ n2_ n3_ n4_ n5_ n6_; clear hb hbox hg) | (go_at_call 8; (with_reducible refine (law04_alive.calls k  true _ A4.out).mono ?_); rintro e w9 ⟨rfl, hb⟩; have n0_ := Aside0.mk (ql_ (g := gb101) (o := .cells #[.int .i64 a1_0, .int .i64 a1_1, .string a1_2] 30 (0, 0)) (by (with_reducible repeat (first | refine qd_ ?_ _ | refine qf_ ?_ | refine qe_ ?_ _)); exact BK101.out) hb); have n1_ := Aside0.mk (ql_ (g := gb102) (o := .cells #[.int .u8 a2_0, .int .u8 a2_1] 38 (0, 0)) (by (with_reducible repeat (first | refine qd_ ?_ _ | refine qf_ ?_ | refine qe_ ?_ _)); exact BK102.out) hb); have n2_ := Aside0.mk (qk_ (by repeat (first | (with_reducible first | exact HB.out | apply qc_ | apply qa_ | apply qb_ | refine qg_ ?_ GE101.out | refine qg_ ?_ GE102.out) | exact HB.out)) hb); clear BK101; clear BK102; clear HB; have BK101 := n0_; have BK102 := n1_; have HB := n2_; clear n0_ n1_ n2_; (try clear hb); (try clear hb2); (try clear hk); (try clear hi))))
  (try simp only [Act.put, sa_, sb_, sc_])
  go_cut [31] (fun v31 wc => ∃ (kq : Nat) (x31_5 : Bool), v31 = .bool x31_5 ∧ Aside0 (law04_EntryPuts.j0 kq l0 x31_5 a1_0 a1_1 a1_2 a2_0 a2_1 = some r) ∧ Aside0 (kq ≤ k) ∧ Aside0 (wc.heap[gb101]? = some (.cells #[.int .i64 a1_0, .int .i64 a1_1, .string a1_2] 30 (0, 0))) ∧ Aside0 (wc.heap[gb102]? = some (.cells #[.int .u8 a2_0, .int .u8 a2_1] 38 (0, 0))) ∧ Aside0 (Below w.heap.size w wc))
  case first =>
   have H := HC6.out
   clear HC6
   replace H := ob_ H
   obtain ⟨t104, A100, H⟩ := H
   replace H : (if t104 = true then (law04_EntryPuts.j0 k l0 true a1_0 a1_1 a1_2 a2_0 a2_1) else ((ref04_Right.f k l0).bind fun t105 => (if t105 = true then ((ref04_May.f a1_0 a1_1 a1_2).bind fun t106 => (law04_EntryPuts.j0 k l0 (!t106) a1_0 a1_1 a1_2 a2_0 a2_1)) else (law04_EntryPuts.j0 k l0 true a1_0 a1_1 a1_2 a2_0 a2_1)))) = some r := H
   have A10 := Aside0.mk A100
   clear A100
   by_cases c11 : t104 = true
   ·subst c11
    have H1 : (law04_EntryPuts.j0 k l0 true a1_0 a1_1 a1_2 a2_0 a2_1) = some r := by rw [if_pos rfl] at H; exact H
    clear H
    have H := H1
    clear H1
    have H' := Aside0.mk H
    clear H
    go_wp2_with (first | (go_at_call 9; (with_reducible refine (ref04_Great.calls k _ _ l0 true _ ?side1 ?side2 A10.out).mono ?_); (case side1 => repeat (first | exact (Kd.C_below HR0.out HB.out) | (with_reducible refine Kd.qt_ ?_ _) | (with_reducible refine Kd.qs_ ?_ _) | (with_reducible refine Kd.C_drew ?_))); (case side2 => exact HC0.out); rintro e w' ⟨rfl, ⟨nd, rfl⟩⟩; (try first | exact ⟨rfl, _, World.drewN_drewN _ _ _⟩ | exact ⟨rfl, _, Eq.trans (World.drewN_drewN _ _ _) (congrArg (World.drewN _) (Nat.add_assoc _ _ _))⟩)))
    repeat (go_quiet (first | (go_at_call 9; (with_reducible refine (ref04_Great.calls k _ _ l0 true _ ?side1 ?side2 A10.out).mono ?_); (case side1 => repeat (first | exact (Kd.C_below HR0.out HB.out) | (with_reducible refine Kd.qt_ ?_ _) | (with_reducible refine Kd.qs_ ?_ _) | (with_reducible refine Kd.C_drew ?_))); (case side2 => exact HC0.out); rintro e w' ⟨rfl, ⟨nd, rfl⟩⟩; (try first | exact ⟨rfl, _, World.drewN_drewN _ _ _⟩ | exact ⟨rfl, _, Eq.trans (World.drewN_drewN _ _ _) (congrArg (World.drewN _) (Nat.add_assoc _ _ _))⟩))); try go_wp2_with (first | (go_at_call 9; (with_reducible refine (ref04_Great.calls k _ _ l0 true _ ?side1 ?side2 A10.out).mono ?_); (case side1 => repeat (first | exact (Kd.C_below HR0.out HB.out) | (with_reducible refine Kd.qt_ ?_ _) | (with_reducible refine Kd.qs_ ?_ _) | (with_reducible refine Kd.C_drew ?_))); (case side2 => exact HC0.out); rintro e w' ⟨rfl, ⟨nd, rfl⟩⟩; (try first | exact ⟨rfl, _, World.drewN_drewN _ _ _⟩ | exact ⟨rfl, _, Eq.trans (World.drewN_drewN _ _ _) (congrArg (World.drewN _) (Nat.add_assoc _ _ _))⟩))))
    go_meet
    case rel => exact ⟨_, (true), (by first | rfl | (simp; done) | (simp [*]; done)), H', ⟨by first | omega | exact Nat.le_refl _⟩, ⟨by (with_reducible repeat (first | refine qd_ ?_ _ | refine qf_ ?_ | refine qe_ ?_ _)); exact BK101.out⟩, ⟨by (with_reducible repeat (first | refine qd_ ?_ _ | refine qf_ ?_ | refine qe_ ?_ _)); exact BK102.out⟩, ⟨by repeat (first | (with_reducible first | exact HB.out | apply qc_ | apply qa_ | apply qb_ | refine qg_ ?_ GE101.out | refine qg_ ?_ GE102.out) | exact HB.out)⟩⟩
   ·replace c11 := Bool.eq_false_iff.mpr c11
    subst c11
    have H1 : ((ref04_Right.f k l0).bind fun t105 => (if t105 = true then ((ref04_May.f a1_0 a1_1 a1_2).bind fun t106 => (law04_EntryPuts.j0 k l0 (!t106) a1_0 a1_1 a1_2 a2_0 a2_1)) else (law04_EntryPuts.j0 k l0 true a1_0 a1_1 a1_2 a2_0 a2_1))) = some r := by rw [if_neg (show ¬ (false = true) by decide)] at H; exact H
    clear H
    have H := H1
    clear H1
    replace H := ob_ H
    obtain ⟨t105, A120, H⟩ := H
    replace H : (if t105 = true then ((ref04_May.f a1_0 a1_1 a1_2).bind fun t106 => (law04_EntryPuts.j0 k l0 (!t106) a1_0 a1_1 a1_2 a2_0 a2_1)) else (law04_EntryPuts.j0 k l0 true a1_0 a1_1 a1_2 a2_0 a2_1)) = some r := H
    have A12 := Aside0.mk A120
    clear A120
    by_cases c13 : t105 = true
    ·subst c13
     have H1 : ((ref04_May.f a1_0 a1_1 a1_2).bind fun t106 => (law04_EntryPuts.j0 k l0 (!t106) a1_0 a1_1 a1_2 a2_0 a2_1)) = some r := by rw [if_pos rfl] at H; exact H
     clear H
     have H := H1
     clear H1
     replace H := ob_ H
     obtain ⟨t106, A140, H⟩ := H
     replace H : (law04_EntryPuts.j0 k l0 (!t106) a1_0 a1_1 a1_2 a2_0 a2_1) = some r := H
     have A14 := Aside0.mk A140
     clear A140
     have H' := Aside0.mk H
     clear H
     go_wp2_with (first | (go_at_call 9; (with_reducible refine (ref04_Great.calls k _ _ l0 false _ ?side1 ?side2 A10.out).mono ?_); (case side1 => repeat (first | exact (Kd.C_below HR0.out HB.out) | (with_reducible refine Kd.qt_ ?_ _) | (with_reducible refine Kd.qs_ ?_ _) | (with_reducible refine Kd.C_drew ?_))); (case side2 => exact HC0.out); rintro e w' ⟨rfl, ⟨nd, rfl⟩⟩; (try first | exact ⟨rfl, _, World.drewN_drewN _ _ _⟩ | exact ⟨rfl, _, Eq.trans (World.drewN_drewN _ _ _) (congrArg (World.drewN _) (Nat.add_assoc _ _ _))⟩)) | (go_at_call 10; (with_reducible refine (ref04_Right.calls k _ _ l0 true _ ?side1 ?side2 A12.out).mono ?_); (case side1 => repeat (first | exact (Kd.C_below HR0.out (by repeat (first | (with_reducible first | exact HB.out | apply qc_ | apply qa_ | apply qb_ | refine qg_ ?_ GE101.out | refine qg_ ?_ GE102.out) | exact HB.out))) | (with_reducible refine Kd.qt_ ?_ _) | (with_reducible refine Kd.qs_ ?_ _) | (with_reducible refine Kd.C_drew ?_))); (case side2 => exact HC0.out); rintro e w15 ⟨rfl, hb⟩; have n0_ := Aside0.mk (ql_ (g := gb101) (o := .cells #[.int .i64 a1_0, .int .i64 a1_1, .string a1_2] 30 (0, 0)) (by (with_reducible repeat (first | refine qd_ ?_ _ | refine qf_ ?_ | refine qe_ ?_ _)); exact BK101.out) hb); have n1_ := Aside0.mk (ql_ (g := gb102) (o := .cells #[.int .u8 a2_0, .int .u8 a2_1] 38 (0, 0)) (by (with_reducible repeat (first | refine qd_ ?_ _ | refine qf_ ?_ | refine qe_ ?_ _)); exact BK102.out) hb); have n2_ := Aside0.mk (qk_ (by repeat (first | (with_reducible first | exact HB.out | apply qc_ | apply qa_ | apply qb_ | refine qg_ ?_ GE101.out | refine qg_ ?_ GE102.out) | exact HB.out)) hb); clear BK101; clear BK102; clear HB; have BK101 := n0_; have BK102 := n1_; have HB := n2_; clear n0_ n1_ n2_; (try clear hb); (try clear hb2); (try clear hk); (try clear hi); have hnb16 := NB101_102.out; have hnc16 := NB102_101.out; have hcz17_0 : w15.cell? ⟨gb101, 0, none⟩ = some (.int .i64 a1_0) := (qi_ BK101.out 0).trans rfl; have hcz17_1 : w15.cell? ⟨gb101, 1, none⟩ = some (.int .i64 a1_1) := (qi_ BK101.out 1).trans rfl; have hcz17_2 : w15.cell? ⟨gb101, 2, none⟩ = some (.string a1_2) := (qi_ BK101.out 2).trans rfl; have hfz17_0 := qh_ BK101.out 0; have hfz17_1 := qh_ BK101.out 1; have hfz17_2 := qh_ BK101.out 2) | (go_at_call 19; (with_reducible refine (ref04_May.calls a1_0 a1_1 a1_2 t106 _ A14.out).mono ?_); rintro e w18 ⟨rfl, hb⟩; have n0_ := Aside0.mk (ql_ (g := gb101) (o := .cells #[.int .i64 a1_0, .int .i64 a1_1, .string a1_2] 30 (0, 0)) (by (with_reducible repeat (first | refine qd_ ?_ _ | refine qf_ ?_ | refine qe_ ?_ _)); exact BK101.out) hb); have n1_ := Aside0.mk (ql_ (g := gb102) (o := .cells #[.int .u8 a2_0, .int .u8 a2_1] 38 (0, 0)) (by (with_reducible repeat (first | refine qd_ ?_ _ | refine qf_ ?_ | refine qe_ ?_ _)); exact BK102.out) hb); have n2_ := Aside0.mk (qk_ (by repeat (first | (with_reducible first | exact HB.out | apply qc_ | apply qa_ | apply qb_ | refine qg_ ?_ GE101.out | refine qg_ ?_ GE102.out) | exact HB.out)) hb); clear BK101; clear BK102; clear HB; have BK101 := n0_; have BK102 := n1_; have HB := n2_; clear n0_ n1_ n2_; (try clear hb); (try clear hb2); (try clear hk); (try clear hi)))
     repeat (go_quiet (first | (go_at_call 9; (with_reducible refine (ref04_Great.calls k _ _ l0 false _ ?side1 ?side2 A10.out).mono ?_); (case side1 => repeat (first | exact (Kd.C_below HR0.out HB.out) | (with_reducible refine Kd.qt_ ?_ _) | (with_reducible refine Kd.qs_ ?_ _) | (with_reducible refine Kd.C_drew ?_))); (case side2 => exact HC0.out); rintro e w' ⟨rfl, ⟨nd, rfl⟩⟩; (try first | exact ⟨rfl, _, World.drewN_drewN _ _ _⟩ | exact ⟨rfl, _, Eq.trans (World.drewN_drewN _ _ _) (congrArg (World.drewN _) (Nat.add_assoc _ _ _))⟩)) | (go_at_call 10; (with_reducible refine (ref04_Right.calls k _ _ l0 true _ ?side1 ?side2 A12.out).mono ?_); (case side1 => repeat (first | exact (Kd.C_below HR0.out (by repeat (first | (with_reducible first | exact HB.out | apply qc_ | apply qa_ | apply qb_ | refine qg_ ?_ GE101.out | refine qg_ ?_ GE102.out) | exact HB.out))) | (with_reducible refine Kd.qt_ ?_ _) | (with_reducible refine Kd.qs_ ?_ _) | (with_reducible refine Kd.C_drew ?_))); (case side2 => exact HC0.out); rintro e w15 ⟨rfl, hb⟩; have n0_ := Aside0.mk (ql_ (g := gb101) (o := .cells #[.int .i64 a1_0, .int .i64 a1_1, .string a1_2] 30 (0, 0)) (by (with_reducible repeat (first | refine qd_ ?_ _ | refine qf_ ?_ | refine qe_ ?_ _)); exact BK101.out) hb); have n1_ := Aside0.mk (ql_ (g := gb102) (o := .cells #[.int .u8 a2_0, .int .u8 a2_1] 38 (0, 0)) (by (with_reducible repeat (first | refine qd_ ?_ _ | refine qf_ ?_ | refine qe_ ?_ _)); exact BK102.out) hb); have n2_ := Aside0.mk (qk_ (by repeat (first | (with_reducible first | exact HB.out | apply qc_ | apply qa_ | apply qb_ | refine qg_ ?_ GE101.out | refine qg_ ?_ GE102.out) | exact HB.out)) hb); clear BK101; clear BK102; clear HB; have BK101 := n0_; have BK102 := n1_; have HB := n2_; clear n0_ n1_ n2_; (try clear hb); (try clear hb2); (try clear hk); (try clear hi); have hnb16 := NB101_102.out; have hnc16 := NB102_101.out; have hcz17_0 : w15.cell? ⟨gb101, 0, none⟩ = some (.int .i64 a1_0) := (qi_ BK101.out 0).trans rfl; have hcz17_1 : w15.cell? ⟨gb101, 1, none⟩ = some (.int .i64 a1_1) := (qi_ BK101.out 1).trans rfl; have hcz17_2 : w15.cell? ⟨gb101, 2, none⟩ = some (.string a1_2) := (qi_ BK101.out 2).trans rfl; have hfz17_0 := qh_ BK101.out 0; have hfz17_1 := qh_ BK101.out 1; have hfz17_2 := qh_ BK101.out 2) | (go_at_call 19; (with_reducible refine (ref04_May.calls a1_0 a1_1 a1_2 t106 _ A14.out).mono ?_); rintro e w18 ⟨rfl, hb⟩; have n0_ := Aside0.mk (ql_ (g := gb101) (o := .cells #[.int .i64 a1_0, .int .i64 a1_1, .string a1_2] 30 (0, 0)) (by (with_reducible repeat (first | refine qd_ ?_ _ | refine qf_ ?_ | refine qe_ ?_ _)); exact BK101.out) hb); have n1_ := Aside0.mk (ql_ (g := gb102) (o := .cells #[.int .u8 a2_0, .int .u8 a2_1] 38 (0, 0)) (by (with_reducible repeat (first | refine qd_ ?_ _ | refine qf_ ?_ | refine qe_ ?_ _)); exact BK102.out) hb); have n2_ := Aside0.mk (qk_ (by repeat (first | (with_reducible first | exact HB.out | apply qc_ | apply qa_ | apply qb_ | refine qg_ ?_ GE101.out | refine qg_ ?_ GE102.out) | exact HB.out)) hb); clear BK101; clear BK102; clear HB; have BK101 := n0_; have BK102 := n1_; have HB := n2_; clear n0_ n1_ n2_; (try clear hb); (try clear hb2); (try clear hk); (try clear hi))); try go_wp2_with (first | (go_at_call 9; (with_reducible refine (ref04_Great.calls k _ _ l0 false _ ?side1 ?side2 A10.out).mono ?_); (case side1 => repeat (first | exact (Kd.C_below HR0.out HB.out) | (with_reducible refine Kd.qt_ ?_ _) | (with_reducible refine Kd.qs_ ?_ _) | (with_reducible refine Kd.C_drew ?_))); (case side2 => exact HC0.out); rintro e w' ⟨rfl, ⟨nd, rfl⟩⟩; (try first | exact ⟨rfl, _, World.drewN_drewN _ _ _⟩ | exact ⟨rfl, _, Eq.trans (World.drewN_drewN _ _ _) (congrArg (World.drewN _) (Nat.add_assoc _ _ _))⟩)) | (go_at_call 10; (with_reducible refine (ref04_Right.calls k _ _ l0 true _ ?side1 ?side2 A12.out).mono ?_); (case side1 => repeat (first | exact (Kd.C_below HR0.out (by repeat (first | (with_reducible first | exact HB.out | apply qc_ | apply qa_ | apply qb_ | refine qg_ ?_ GE101.out | refine qg_ ?_ GE102.out) | exact HB.out))) | (with_reducible refine Kd.qt_ ?_ _) | (with_reducible refine Kd.qs_ ?_ _) | (with_reducible refine Kd.C_drew ?_))); (case side2 => exact HC0.out); rintro e w15 ⟨rfl, hb⟩; have n0_ := Aside0.mk (ql_ (g := gb101) (o := .cells #[.int .i64 a1_0, .int .i64 a1_1, .string a1_2] 30 (0, 0)) (by (with_reducible repeat (first | refine qd_ ?_ _ | refine qf_ ?_ | refine qe_ ?_ _)); exact BK101.out) hb); have n1_ := Aside0.mk (ql_ (g := gb102) (o := .cells #[.int .u8 a2_0, .int .u8 a2_1] 38 (0, 0)) (by (with_reducible repeat (first | refine qd_ ?_ _ | refine qf_ ?_ | refine qe_ ?_ _)); exact BK102.out) hb); have n2_ := Aside0.mk (qk_ (by repeat (first | (with_reducible first | exact HB.out | apply qc_ | apply qa_ | apply qb_ | refine qg_ ?_ GE101.out | refine qg_ ?_ GE102.out) | exact HB.out)) hb); clear BK101; clear BK102; clear HB; have BK101 := n0_; have BK102 := n1_; have HB := n2_; clear n0_ n1_ n2_; (try clear hb); (try clear hb2); (try clear hk); (try clear hi); have hnb16 := NB101_102.out; have hnc16 := NB102_101.out; have hcz17_0 : w15.cell? ⟨gb101, 0, none⟩ = some (.int .i64 a1_0) := (qi_ BK101.out 0).trans rfl; have hcz17_1 : w15.cell? ⟨gb101, 1, none⟩ = some (.int .i64 a1_1) := (qi_ BK101.out 1).trans rfl; have hcz17_2 : w15.cell? ⟨gb101, 2, none⟩ = some (.string a1_2) := (qi_ BK101.out 2).trans rfl; have hfz17_0 := qh_ BK101.out 0; have hfz17_1 := qh_ BK101.out 1; have hfz17_2 := qh_ BK101.out 2) | (go_at_call 19; (with_reducible refine (ref04_May.calls a1_0 a1_1 a1_2 t106 _ A14.out).mono ?_); rintro e w18 ⟨rfl, hb⟩; have n0_ := Aside0.mk (ql_ (g := gb101) (o := .cells #[.int .i64 a1_0, .int .i64 a1_1, .string a1_2] 30 (0, 0)) (by (with_reducible repeat (first | refine qd_ ?_ _ | refine qf_ ?_ | refine qe_ ?_ _)); exact BK101.out) hb); have n1_ := Aside0.mk (ql_ (g := gb102) (o := .cells #[.int .u8 a2_0, .int .u8 a2_1] 38 (0, 0)) (by (with_reducible repeat (first | refine qd_ ?_ _ | refine qf_ ?_ | refine qe_ ?_ _)); exact BK102.out) hb); have n2_ := Aside0.mk (qk_ (by repeat (first | (with_reducible first | exact HB.out | apply qc_ | apply qa_ | apply qb_ | refine qg_ ?_ GE101.out | refine qg_ ?_ GE102.out) | exact HB.out)) hb); clear BK101; clear BK102; clear HB; have BK101 := n0_; have BK102 := n1_; have HB := n2_; clear n0_ n1_ n2_; (try clear hb); (try clear hb2); (try clear hk); (try clear hi))))
     go_meet
     case rel => exact ⟨_, (!t106), (by first | rfl | (simp; done) | (simp [*]; done)), H', ⟨by first | omega | exact Nat.le_refl _⟩, ⟨by (with_reducible repeat (first | refine qd_ ?_ _ | refine qf_ ?_ | refine qe_ ?_ _)); exact BK101.out⟩, ⟨by (with_reducible repeat (first | refine qd_ ?_ _ | refine qf_ ?_ | refine qe_ ?_ _)); exact BK102.out⟩, ⟨by repeat (first | (with_reducible first | exact HB.out | apply qc_ | apply qa_ | apply qb_ | refine qg_ ?_ GE101.out | refine qg_ ?_ GE102.out) | exact HB.out)⟩⟩
    ·replace c13 := Bool.eq_false_iff.mpr c13
     subst c13
     have H1 : (law04_EntryPuts.j0 k l0 true a1_0 a1_1 a1_2 a2_0 a2_1) = some r := by rw [if_neg (show ¬ (false = true) by decide)] at H; exact H
     clear H
     have H := H1
     clear H1
     have H' := Aside0.mk H
     clear H
     go_wp2_with (first | (go_at_call 9; (with_reducible refine (ref04_Great.calls k _ _ l0 false _ ?side1 ?side2 A10.out).mono ?_); (case side1 => repeat (first | exact (Kd.C_below HR0.out HB.out) | (with_reducible refine Kd.qt_ ?_ _) | (with_reducible refine Kd.qs_ ?_ _) | (with_reducible refine Kd.C_drew ?_))); (case side2 => exact HC0.out); rintro e w' ⟨rfl, ⟨nd, rfl⟩⟩; (try first | exact ⟨rfl, _, World.drewN_drewN _ _ _⟩ | exact ⟨rfl, _, Eq.trans (World.drewN_drewN _ _ _) (congrArg (World.drewN _) (Nat.add_assoc _ _ _))⟩)) | (go_at_call 10; (with_reducible refine (ref04_Right.calls k _ _ l0 false _ ?side1 ?side2 A12.out).mono ?_); (case side1 => repeat (first | exact (Kd.C_below HR0.out (by repeat (first | (with_reducible first | exact HB.out | apply qc_ | apply qa_ | apply qb_ | refine qg_ ?_ GE101.out | refine qg_ ?_ GE102.out) | exact HB.out))) | (with_reducible refine Kd.qt_ ?_ _) | (with_reducible refine Kd.qs_ ?_ _) | (with_reducible refine Kd.C_drew ?_))); (case side2 => exact HC0.out); rintro e w19 ⟨rfl, hb⟩; have n0_ := Aside0.mk (ql_ (g := gb101) (o := .cells #[.int .i64 a1_0, .int .i64 a1_1, .string a1_2] 30 (0, 0)) (by (with_reducible repeat (first | refine qd_ ?_ _ | refine qf_ ?_ | refine qe_ ?_ _)); exact BK101.out) hb); have n1_ := Aside0.mk (ql_ (g := gb102) (o := .cells #[.int .u8 a2_0, .int .u8 a2_1] 38 (0, 0)) (by (with_reducible repeat (first | refine qd_ ?_ _ | refine qf_ ?_ | refine qe_ ?_ _)); exact BK102.out) hb); have n2_ := Aside0.mk (qk_ (by repeat (first | (with_reducible first | exact HB.out | apply qc_ | apply qa_ | apply qb_ | refine qg_ ?_ GE101.out | refine qg_ ?_ GE102.out) | exact HB.out)) hb); clear BK101; clear BK102; clear HB; have BK101 := n0_; have BK102 := n1_; have HB := n2_; clear n0_ n1_ n2_; (try clear hb); (try clear hb2); (try clear hk); (try clear hi)))
     repeat (go_quiet (first | (go_at_call 9; (with_reducible refine (ref04_Great.calls k _ _ l0 false _ ?side1 ?side2 A10.out).mono ?_); (case side1 => repeat (first | exact (Kd.C_below HR0.out HB.out) | (with_reducible refine Kd.qt_ ?_ _) | (with_reducible refine Kd.qs_ ?_ _) | (with_reducible refine Kd.C_drew ?_))); (case side2 => exact HC0.out); rintro e w' ⟨rfl, ⟨nd, rfl⟩⟩; (try first | exact ⟨rfl, _, World.drewN_drewN _ _ _⟩ | exact ⟨rfl, _, Eq.trans (World.drewN_drewN _ _ _) (congrArg (World.drewN _) (Nat.add_assoc _ _ _))⟩)) | (go_at_call 10; (with_reducible refine (ref04_Right.calls k _ _ l0 false _ ?side1 ?side2 A12.out).mono ?_); (case side1 => repeat (first | exact (Kd.C_below HR0.out (by repeat (first | (with_reducible first | exact HB.out | apply qc_ | apply qa_ | apply qb_ | refine qg_ ?_ GE101.out | refine qg_ ?_ GE102.out) | exact HB.out))) | (with_reducible refine Kd.qt_ ?_ _) | (with_reducible refine Kd.qs_ ?_ _) | (with_reducible refine Kd.C_drew ?_))); (case side2 => exact HC0.out); rintro e w19 ⟨rfl, hb⟩; have n0_ := Aside0.mk (ql_ (g := gb101) (o := .cells #[.int .i64 a1_0, .int .i64 a1_1, .string a1_2] 30 (0, 0)) (by (with_reducible repeat (first | refine qd_ ?_ _ | refine qf_ ?_ | refine qe_ ?_ _)); exact BK101.out) hb); have n1_ := Aside0.mk (ql_ (g := gb102) (o := .cells #[.int .u8 a2_0, .int .u8 a2_1] 38 (0, 0)) (by (with_reducible repeat (first | refine qd_ ?_ _ | refine qf_ ?_ | refine qe_ ?_ _)); exact BK102.out) hb); have n2_ := Aside0.mk (qk_ (by repeat (first | (with_reducible first | exact HB.out | apply qc_ | apply qa_ | apply qb_ | refine qg_ ?_ GE101.out | refine qg_ ?_ GE102.out) | exact HB.out)) hb); clear BK101; clear BK102; clear HB; have BK101 := n0_; have BK102 := n1_; have HB := n2_; clear n0_ n1_ n2_; (try clear hb); (try clear hb2); (try clear hk); (try clear hi))); try go_wp2_with (first | (go_at_call 9; (with_reducible refine (ref04_Great.calls k _ _ l0 false _ ?side1 ?side2 A10.out).mono ?_); (case side1 => repeat (first | exact (Kd.C_below HR0.out HB.out) | (with_reducible refine Kd.qt_ ?_ _) | (with_reducible refine Kd.qs_ ?_ _) | (with_reducible refine Kd.C_drew ?_))); (case side2 => exact HC0.out); rintro e w' ⟨rfl, ⟨nd, rfl⟩⟩; (try first | exact ⟨rfl, _, World.drewN_drewN _ _ _⟩ | exact ⟨rfl, _, Eq.trans (World.drewN_drewN _ _ _) (congrArg (World.drewN _) (Nat.add_assoc _ _ _))⟩)) | (go_at_call 10; (with_reducible refine (ref04_Right.calls k _ _ l0 false _ ?side1 ?side2 A12.out).mono ?_); (case side1 => repeat (first | exact (Kd.C_below HR0.out (by repeat (first | (with_reducible first | exact HB.out | apply qc_ | apply qa_ | apply qb_ | refine qg_ ?_ GE101.out | refine qg_ ?_ GE102.out) | exact HB.out))) | (with_reducible refine Kd.qt_ ?_ _) | (with_reducible refine Kd.qs_ ?_ _) | (with_reducible refine Kd.C_drew ?_))); (case side2 => exact HC0.out); rintro e w19 ⟨rfl, hb⟩; have n0_ := Aside0.mk (ql_ (g := gb101) (o := .cells #[.int .i64 a1_0, .int .i64 a1_1, .string a1_2] 30 (0, 0)) (by (with_reducible repeat (first | refine qd_ ?_ _ | refine qf_ ?_ | refine qe_ ?_ _)); exact BK101.out) hb); have n1_ := Aside0.mk (ql_ (g := gb102) (o := .cells #[.int .u8 a2_0, .int .u8 a2_1] 38 (0, 0)) (by (with_reducible repeat (first | refine qd_ ?_ _ | refine qf_ ?_ | refine qe_ ?_ _)); exact BK102.out) hb); have n2_ := Aside0.mk (qk_ (by repeat (first | (with_reducible first | exact HB.out | apply qc_ | apply qa_ | apply qb_ | refine qg_ ?_ GE101.out | refine qg_ ?_ GE102.out) | exact HB.out)) hb); clear BK101; clear BK102; clear HB; have BK101 := n0_; have BK102 := n1_; have HB := n2_; clear n0_ n1_ n2_; (try clear hb); (try clear hb2); (try clear hk); (try clear hi))))
     go_meet
     case rel => exact ⟨_, (true), (by first | rfl | (simp; done) | (simp [*]; done)), H', ⟨by first | omega | exact Nat.le_refl _⟩, ⟨by (with_reducible repeat (first | refine qd_ ?_ _ | refine qf_ ?_ | refine qe_ ?_ _)); exact BK101.out⟩, ⟨by (with_reducible repeat (first | refine qd_ ?_ _ | refine qf_ ?_ | refine qe_ ?_ _)); exact BK102.out⟩, ⟨by repeat (first | (with_reducible first | exact HB.out | apply qc_ | apply qa_ | apply qb_ | refine qg_ ?_ GE101.out | refine qg_ ?_ GE102.out) | exact HB.out)⟩⟩
  case rest =>
   clear HC6
   try clear c1
   try clear p2
   try clear c5
   try clear c7
   try clear c11
   try clear c13
   try clear c16
   try clear hcz17_0
   try clear hcz17_1
   try clear hcz17_2
   try clear hfz17_0
   try clear hfz17_1
   try clear hfz17_2
   obtain ⟨kq, x31_5, rfl, HA, HJ5, BK101, BK102, HB⟩ := hcut
   cases kq with
   | zero => exact absurd HA.out (by simp [law04_EntryPuts.j0])
   | succ kj5 =>
    have H := HA.out
    clear HA
    simp only [law04_EntryPuts.j0] at H
    by_cases c20 : x31_5 = true
    ·subst c20
     have H1 : (some true) = some r := by rw [if_pos rfl] at H; exact H
     clear H
     have H := H1
     clear H1
     obtain rfl := Option.some.inj H
     go_wp2
     repeat (go_quiet (fail); try go_wp2)
     go_ret
     exact ⟨by first | rfl | (simp [errW_none, errW_some] <;> rfl) | (simp [*, errW_none, errW_some] <;> rfl), by repeat (first | (with_reducible first | exact HB.out | apply qc_ | apply qa_ | apply qb_ | refine qg_ ?_ GE101.out | refine qg_ ?_ GE102.out) | exact HB.out)⟩
    ·replace c20 := Bool.eq_false_iff.mpr c20
     subst c20
     have H1 : ((entry_Put.f l0 a1_0 a1_1 a1_2).bind fun t107 => ((entry_Get.f t107 a1_0).bind fun bt110 => ((entry_Get.f l0 (Int.tmod (wrap64 (a2_0)) 12)).bind fun bt115 => ((entry_Get.f t107 (Int.tmod (wrap64 (a2_0)) 12)).bind fun bt120 => (if bt110.2.2.2 = true then (if (!(bt110.1 == a1_0) || (!(bt110.2.1 == a1_1) || (!(bt110.2.2.1.toList == a1_2.toList)))) = true then (law04_EntryPuts.j1 kj5 t107 true a2_0 a2_1) else (if (Int.tmod (wrap64 (a2_0)) 12) = a1_0 then ((entry_Right.f kj5 t107).bind fun t125 => (law04_EntryPuts.j1 kj5 t107 (!t125) a2_0 a2_1)) else (if (!(bt115.1 == bt120.1) || (!(bt115.2.1 == bt120.2.1) || (!(bt115.2.2.1.toList == bt120.2.2.1.toList)))) = true then (law04_EntryPuts.j1 kj5 t107 true a2_0 a2_1) else (if (bt115.2.2.2 != bt120.2.2.2) = true then (law04_EntryPuts.j1 kj5 t107 true a2_0 a2_1) else ((entry_Right.f kj5 t107).bind fun t126 => (law04_EntryPuts.j1 kj5 t107 (!t126) a2_0 a2_1)))))) else (law04_EntryPuts.j1 kj5 t107 true a2_0 a2_1)))))) = some r := by rw [if_neg (show ¬ (false = true) by decide)] at H; exact H
     clear H
     have H := H1
     clear H1
     replace H := ob_ H
     obtain ⟨t107, A210, H⟩ := H
     replace H : ((entry_Get.f t107 a1_0).bind fun bt110 => ((entry_Get.f l0 (Int.tmod (wrap64 (a2_0)) 12)).bind fun bt115 => ((entry_Get.f t107 (Int.tmod (wrap64 (a2_0)) 12)).bind fun bt120 => (if bt110.2.2.2 = true then (if (!(bt110.1 == a1_0) || (!(bt110.2.1 == a1_1) || (!(bt110.2.2.1.toList == a1_2.toList)))) = true then (law04_EntryPuts.j1 kj5 t107 true a2_0 a2_1) else (if (Int.tmod (wrap64 (a2_0)) 12) = a1_0 then ((entry_Right.f kj5 t107).bind fun t125 => (law04_EntryPuts.j1 kj5 t107 (!t125) a2_0 a2_1)) else (if (!(bt115.1 == bt120.1) || (!(bt115.2.1 == bt120.2.1) || (!(bt115.2.2.1.toList == bt120.2.2.1.toList)))) = true then (law04_EntryPuts.j1 kj5 t107 true a2_0 a2_1) else (if (bt115.2.2.2 != bt120.2.2.2) = true then (law04_EntryPuts.j1 kj5 t107 true a2_0 a2_1) else ((entry_Right.f kj5 t107).bind fun t126 => (law04_EntryPuts.j1 kj5 t107 (!t126) a2_0 a2_1)))))) else (law04_EntryPuts.j1 kj5 t107 true a2_0 a2_1))))) = some r := H
     have A21 := Aside0.mk A210
     clear A210
     replace H := ob_ H
     obtain ⟨⟨t110, t111, t112, t113⟩, A220, H⟩ := H
     replace H : ((entry_Get.f l0 (Int.tmod (wrap64 (a2_0)) 12)).bind fun bt115 => ((entry_Get.f t107 (Int.tmod (wrap64 (a2_0)) 12)).bind fun bt120 => (if t113 = true then (if (!(t110 == a1_0) || (!(t111 == a1_1) || (!(t112.toList == a1_2.toList)))) = true then (law04_EntryPuts.j1 kj5 t107 true a2_0 a2_1) else (if (Int.tmod (wrap64 (a2_0)) 12) = a1_0 then ((entry_Right.f kj5 t107).bind fun t125 => (law04_EntryPuts.j1 kj5 t107 (!t125) a2_0 a2_1)) else (if (!(bt115.1 == bt120.1) || (!(bt115.2.1 == bt120.2.1) || (!(bt115.2.2.1.toList == bt120.2.2.1.toList)))) = true then (law04_EntryPuts.j1 kj5 t107 true a2_0 a2_1) else (if (bt115.2.2.2 != bt120.2.2.2) = true then (law04_EntryPuts.j1 kj5 t107 true a2_0 a2_1) else ((entry_Right.f kj5 t107).bind fun t126 => (law04_EntryPuts.j1 kj5 t107 (!t126) a2_0 a2_1)))))) else (law04_EntryPuts.j1 kj5 t107 true a2_0 a2_1)))) = some r := H
     have A22 := Aside0.mk A220
     clear A220
     replace H := ob_ H
     obtain ⟨⟨t115, t116, t117, t118⟩, A230, H⟩ := H
     replace H : ((entry_Get.f t107 (Int.tmod (wrap64 (a2_0)) 12)).bind fun bt120 => (if t113 = true then (if (!(t110 == a1_0) || (!(t111 == a1_1) || (!(t112.toList == a1_2.toList)))) = true then (law04_EntryPuts.j1 kj5 t107 true a2_0 a2_1) else (if (Int.tmod (wrap64 (a2_0)) 12) = a1_0 then ((entry_Right.f kj5 t107).bind fun t125 => (law04_EntryPuts.j1 kj5 t107 (!t125) a2_0 a2_1)) else (if (!(t115 == bt120.1) || (!(t116 == bt120.2.1) || (!(t117.toList == bt120.2.2.1.toList)))) = true then (law04_EntryPuts.j1 kj5 t107 true a2_0 a2_1) else (if (t118 != bt120.2.2.2) = true then (law04_EntryPuts.j1 kj5 t107 true a2_0 a2_1) else ((entry_Right.f kj5 t107).bind fun t126 => (law04_EntryPuts.j1 kj5 t107 (!t126) a2_0 a2_1)))))) else (law04_EntryPuts.j1 kj5 t107 true a2_0 a2_1))) = some r := H
     have A23 := Aside0.mk A230
     clear A230
     replace H := ob_ H
     obtain ⟨⟨t120, t121, t122, t123⟩, A240, H⟩ := H
     replace H : (if t113 = true then (if (!(t110 == a1_0) || (!(t111 == a1_1) || (!(t112.toList == a1_2.toList)))) = true then (law04_EntryPuts.j1 kj5 t107 true a2_0 a2_1) else (if (Int.tmod (wrap64 (a2_0)) 12) = a1_0 then ((entry_Right.f kj5 t107).bind fun t125 => (law04_EntryPuts.j1 kj5 t107 (!t125) a2_0 a2_1)) else (if (!(t115 == t120) || (!(t116 == t121) || (!(t117.toList == t122.toList)))) = true then (law04_EntryPuts.j1 kj5 t107 true a2_0 a2_1) else (if (t118 != t123) = true then (law04_EntryPuts.j1 kj5 t107 true a2_0 a2_1) else ((entry_Right.f kj5 t107).bind fun t126 => (law04_EntryPuts.j1 kj5 t107 (!t126) a2_0 a2_1)))))) else (law04_EntryPuts.j1 kj5 t107 true a2_0 a2_1)) = some r := H
     have A24 := Aside0.mk A240
     clear A240
     have HC25 := Aside0.mk H
     clear H
     have hnb26 := NB101_102.out
     have hnc26 := NB102_101.out
     have hcz27_0 : wc.cell? ⟨gb101, 0, none⟩ = some (.int .i64 a1_0) := (qi_ BK101.out 0).trans rfl
     have hcz27_1 : wc.cell? ⟨gb101, 1, none⟩ = some (.int .i64 a1_1) := (qi_ BK101.out 1).trans rfl
     have hcz27_2 : wc.cell? ⟨gb101, 2, none⟩ = some (.string a1_2) := (qi_ BK101.out 2).trans rfl
     have hfz27_0 := qh_ BK101.out 0
     have hfz27_1 := qh_ BK101.out 1
     have hfz27_2 := qh_ BK101.out 2
     go_upto_region 10 with (first | (go_at_call 25; (with_reducible refine (entry_Put.calls _ _ l0 a1_0 a1_1 a1_2 t107 _ ?side1 ?side2 A21.out).mono ?_); (case side1 => repeat (first | exact (Kd.C_below HR0.out HB.out) | (with_reducible refine Kd.qt_ ?_ _) | (with_reducible refine Kd.qs_ ?_ _) | (with_reducible refine Kd.C_drew ?_))); (case side2 => exact HC0.out); rintro e w28 ⟨v108, rfl, ho0, hb⟩; have n0_ := Aside0.mk (Kd.R_lower (Kd.R_newB ho0 (g := gb101) (o := .cells #[.int .i64 a1_0, .int .i64 a1_1, .string a1_2] 30 (0, 0)) (by (with_reducible repeat (first | refine qd_ ?_ _ | refine qf_ ?_ | refine qe_ ?_ _)); exact BK101.out)) (qj_ (by repeat (first | (with_reducible first | exact HB.out | apply qc_ | apply qa_ | apply qb_ | refine qg_ ?_ GE101.out | refine qg_ ?_ GE102.out) | exact HB.out)))); have n1_ := Aside0.mk (ql_ (g := gb101) (o := .cells #[.int .i64 a1_0, .int .i64 a1_1, .string a1_2] 30 (0, 0)) (by (with_reducible repeat (first | refine qd_ ?_ _ | refine qf_ ?_ | refine qe_ ?_ _)); exact BK101.out) hb); have n2_ := Aside0.mk (ql_ (g := gb102) (o := .cells #[.int .u8 a2_0, .int .u8 a2_1] 38 (0, 0)) (by (with_reducible repeat (first | refine qd_ ?_ _ | refine qf_ ?_ | refine qe_ ?_ _)); exact BK102.out) hb); have n3_ := Aside0.mk (qk_ (by repeat (first | (with_reducible first | exact HB.out | apply qc_ | apply qa_ | apply qb_ | refine qg_ ?_ GE101.out | refine qg_ ?_ GE102.out) | exact HB.out)) hb); clear BK101; clear BK102; clear HB; have HO109 := n0_; have BK101 := n1_; have BK102 := n2_; have HB := n3_; clear n0_ n1_ n2_ n3_; (try clear hb); (try clear hb2); (try clear hk); (try clear hi); (try clear ho0); have hcz29_0 : w28.cell? ⟨gb101, 0, none⟩ = some (.int .i64 a1_0) := (qi_ BK101.out 0).trans rfl; have hcz29_1 : w28.cell? ⟨gb101, 1, none⟩ = some (.int .i64 a1_1) := (qi_ BK101.out 1).trans rfl; have hcz29_2 : w28.cell? ⟨gb101, 2, none⟩ = some (.string a1_2) := (qi_ BK101.out 2).trans rfl; have hfz29_0 := qh_ BK101.out 0; have hfz29_1 := qh_ BK101.out 1; have hfz29_2 := qh_ BK101.out 2; obtain ⟨Ao30, co30, eo30⟩ := Kd.R_slice HO109.out; subst eo30) | (go_at_call 16; (with_reducible refine (entry_Get.calls _ _ t107 a1_0 t110 t111 t112 t113 _ ?side1 ?side2 A22.out).mono ?_); (case side1 => repeat (first | exact (Kd.R_reads' HO109.out).2.2 | (with_reducible refine Kd.qt_ ?_ _) | (with_reducible refine Kd.qs_ ?_ _) | (with_reducible refine Kd.C_drew ?_))); (case side2 => exact (Kd.R_reads' HO109.out).2.1); rintro e w31 ⟨rfl, hb⟩; have n0_ := Aside0.mk (Kd.R_below (by (with_reducible repeat (first | apply Kd.qn_ | apply Kd.qm_ | apply Kd.R_drew)); exact HO109.out) hb); have n1_ := Aside0.mk (ql_ (g := gb101) (o := .cells #[.int .i64 a1_0, .int .i64 a1_1, .string a1_2] 30 (0, 0)) (by (with_reducible repeat (first | refine qd_ ?_ _ | refine qf_ ?_ | refine qe_ ?_ _)); exact BK101.out) hb); have n2_ := Aside0.mk (ql_ (g := gb102) (o := .cells #[.int .u8 a2_0, .int .u8 a2_1] 38 (0, 0)) (by (with_reducible repeat (first | refine qd_ ?_ _ | refine qf_ ?_ | refine qe_ ?_ _)); exact BK102.out) hb); have n3_ := Aside0.mk (qk_ (by repeat (first | (with_reducible first | exact HB.out | apply qc_ | apply qa_ | apply qb_ | refine qg_ ?_ GE101.out | refine qg_ ?_ GE102.out) | exact HB.out)) hb); clear HO109; clear BK101; clear BK102; clear HB; have HO109 := n0_; have BK101 := n1_; have BK102 := n2_; have HB := n3_; clear n0_ n1_ n2_ n3_; (try clear hb); (try clear hb2); (try clear hk); (try clear hi)) | ((with_reducible refine qq_ (N := 8) rfl ?_); refine qp_ ?hg (N := 8) ?hd (cs := #[.int .i64 0, .int .i64 0, .string (⟨#[]⟩ : ByteArray)]) (t := 30) ?hr ?_; (case hd => rfl); (case hg => rfl); (case hr => first | (go_simp; done) | (go_simp; rfl)); intro gb114 hg w32 hbox hb; have n0_ := Aside0.mk (Kd.R_below (Kd.R_elderB (by (with_reducible repeat (first | apply Kd.qn_ | apply Kd.qm_ | apply Kd.R_drew)); exact HO109.out) gb114 (Nat.le_of_eq hg.symm)) hb); have n1_ := Aside0.mk (ql_ (g := gb101) (o := .cells #[.int .i64 a1_0, .int .i64 a1_1, .string a1_2] 30 (0, 0)) (by (with_reducible repeat (first | refine qd_ ?_ _ | refine qf_ ?_ | refine qe_ ?_ _)); exact BK101.out) hb); have n2_ := Aside0.mk (ql_ (g := gb102) (o := .cells #[.int .u8 a2_0, .int .u8 a2_1] 38 (0, 0)) (by (with_reducible repeat (first | refine qd_ ?_ _ | refine qf_ ?_ | refine qe_ ?_ _)); exact BK102.out) hb); have n3_ := Aside0.mk (qk_ (by repeat (first | (with_reducible first | exact HB.out | apply qc_ | apply qa_ | apply qb_ | refine qg_ ?_ GE101.out | refine qg_ ?_ GE102.out) | exact HB.out)) hb); have n4_ := Aside0.mk (hbox); have n5_ := Aside0.mk ((by rw [hg]; exact (qj_ (by repeat (first | (with_reducible first | exact HB.out | apply qc_ | apply qa_ | apply qb_ | refine qg_ ?_ GE101.out | refine qg_ ?_ GE102.out) | exact HB.out))) : w.heap.size ≤ gb114)); have n6_ := Aside0.mk ((by rw [hg]; exact (qj_ (by repeat (first | (with_reducible first | exact HB.out | apply qc_ | apply qa_ | apply qb_ | refine qg_ ?_ GE101.out | refine qg_ ?_ GE102.out) | exact HB.out))) : w.heap.size ≤ gb114)); have n7_ := Aside0.mk ((by rw [hg]; exact Nat.ne_of_lt (blk_lt (g := gb101) (o := .cells #[.int .i64 a1_0, .int .i64 a1_1, .string a1_2] 30 (0, 0)) (by (with_reducible repeat (first | refine qd_ ?_ _ | refine qf_ ?_ | refine qe_ ?_ _)); exact BK101.out)) : gb101 ≠ gb114)); have n8_ := Aside0.mk ((by rw [hg]; exact Nat.ne_of_gt (blk_lt (g := gb101) (o := .cells #[.int .i64 a1_0, .int .i64 a1_1, .string a1_2] 30 (0, 0)) (by (with_reducible repeat (first | refine qd_ ?_ _ | refine qf_ ?_ | refine qe_ ?_ _)); exact BK101.out)) : gb114 ≠ gb101)); have n9_ := Aside0.mk ((by rw [hg]; exact Nat.ne_of_lt (blk_lt (g := gb102) (o := .cells #[.int .u8 a2_0, .int .u8 a2_1] 38 (0, 0)) (by (with_reducible repeat (first | refine qd_ ?_ _ | refine qf_ ?_ | refine qe_ ?_ _)); exact BK102.out)) : gb102 ≠ gb114)); have n10_ := Aside0.mk ((by rw [hg]; exact Nat.ne_of_gt (blk_lt (g := gb102) (o := .cells #[.int .u8 a2_0, .int .u8 a2_1] 38 (0, 0)) (by (with_reducible repeat (first | refine qd_ ?_ _ | refine qf_ ?_ | refine qe_ ?_ _)); exact BK102.out)) : gb114 ≠ gb102)); clear HO109; clear BK101; clear BK102; clear HB; have HO109 := n0_; have BK101 := n1_; have BK102 := n2_; have HB := n3_; have BK114 := n4_; have GW114 := n5_; have GE114 := n6_; have NB101_114 := n7_; have NB114_101 := n8_; have NB102_114 := n9_; have NB114_102 := n10_; clear n0_ n1_ n2_ n3_ n4_ n5_ n6_ n7_ n8_ n9_ n10_; clear hb hbox hg; have hnb33 := NB114_101.out; have hnc33 := NB101_114.out; have hnb34 := NB114_102.out; have hnc34 := NB102_114.out; have hcz35_0 : w32.cell? ⟨gb114, 0, none⟩ = some (.int .i64 0) := (qi_ BK114.out 0).trans rfl; have hcz35_1 : w32.cell? ⟨gb114, 1, none⟩ = some (.int .i64 0) := (qi_ BK114.out 1).trans rfl; have hcz35_2 : w32.cell? ⟨gb114, 2, none⟩ = some (.string (⟨#[]⟩ : ByteArray)) := (qi_ BK114.out 2).trans rfl; have hfz35_0 := qh_ BK114.out 0; have hfz35_1 := qh_ BK114.out 1; have hfz35_2 := qh_ BK114.out 2; have hcz36_0 : w32.cell? ⟨gb102, 0, none⟩ = some (.int .u8 a2_0) := (qi_ BK102.out 0).trans rfl; have hcz36_1 : w32.cell? ⟨gb102, 1, none⟩ = some (.int .u8 a2_1) := (qi_ BK102.out 1).trans rfl; have hfz36_0 := qh_ BK102.out 0; have hfz36_1 := qh_ BK102.out 1) | (go_at_call 16; (with_reducible refine (entry_Get.calls _ _ l0 (Int.tmod (wrap64 (a2_0)) 12) t115 t116 t117 t118 _ ?side1 ?side2 A23.out).mono ?_); (case side1 => exact Kd.C_below HR0.out (by repeat (first | (with_reducible first | exact HB.out | apply qc_ | apply qa_ | apply qb_ | refine qg_ ?_ GE101.out | refine qg_ ?_ GE102.out | refine qg_ ?_ GE114.out) | exact HB.out))); (case side2 => exact HC0.out); rintro e w37 ⟨rfl, hb⟩; have n0_ := Aside0.mk (Kd.R_below (by (with_reducible repeat (first | apply Kd.qn_ | apply Kd.qm_ | apply Kd.R_drew)); exact (Kd.R_mono (Kd.R_far (p := ⟨gb114, 2, none⟩) (Kd.R_far (p := ⟨gb114, 1, none⟩) (Kd.R_far (p := ⟨gb114, 0, none⟩) (Kd.R_mono HO109.out (fun k_ hk => (⟨hk, hk.2⟩ : _ ∧ k_ ≠ gb114))) (fun _ hk => hk.2) (.int .i64 t110)) (fun _ hk => hk.2) (.int .i64 t111)) (fun _ hk => hk.2) (.string t112)) (fun _ h_ => h_.1))) hb); have n1_ := Aside0.mk (ql_ (g := gb101) (o := .cells #[.int .i64 a1_0, .int .i64 a1_1, .string a1_2] 30 (0, 0)) (by (with_reducible repeat (first | refine qd_ ?_ _ | refine qf_ ?_ | refine qe_ ?_ _)); refine qo_ ?_ NB101_114.out _; (with_reducible repeat (first | refine qd_ ?_ _ | refine qf_ ?_ | refine qe_ ?_ _)); refine qo_ ?_ NB101_114.out _; (with_reducible repeat (first | refine qd_ ?_ _ | refine qf_ ?_ | refine qe_ ?_ _)); refine qo_ ?_ NB101_114.out _; (with_reducible repeat (first | refine qd_ ?_ _ | refine qf_ ?_ | refine qe_ ?_ _)); exact BK101.out) hb); have n2_ := Aside0.mk (ql_ (g := gb102) (o := .cells #[.int .u8 a2_0, .int .u8 a2_1] 38 (0, 0)) (by (with_reducible repeat (first | refine qd_ ?_ _ | refine qf_ ?_ | refine qe_ ?_ _)); refine qo_ ?_ NB102_114.out _; (with_reducible repeat (first | refine qd_ ?_ _ | refine qf_ ?_ | refine qe_ ?_ _)); refine qo_ ?_ NB102_114.out _; (with_reducible repeat (first | refine qd_ ?_ _ | refine qf_ ?_ | refine qe_ ?_ _)); refine qo_ ?_ NB102_114.out _; (with_reducible repeat (first | refine qd_ ?_ _ | refine qf_ ?_ | refine qe_ ?_ _)); exact BK102.out) hb); have n3_ := Aside0.mk (ql_ (g := gb114) (o := .cells #[.int .i64 t110, .int .i64 t111, .string t112] 30 (0, 0)) (by (with_reducible repeat (first | refine qd_ ?_ _ | refine qf_ ?_ | refine qe_ ?_ _)); refine qr_ (cs := #[.int .i64 t110, .int .i64 t111, .string (⟨#[]⟩ : ByteArray)]) ?_ 2 _ rfl; (with_reducible repeat (first | refine qd_ ?_ _ | refine qf_ ?_ | refine qe_ ?_ _)); refine qr_ (cs := #[.int .i64 t110, .int .i64 0, .string (⟨#[]⟩ : ByteArray)]) ?_ 1 _ rfl; (with_reducible repeat (first | refine qd_ ?_ _ | refine qf_ ?_ | refine qe_ ?_ _)); refine qr_ (cs := #[.int .i64 0, .int .i64 0, .string (⟨#[]⟩ : ByteArray)]) ?_ 0 _ rfl; (with_reducible repeat (first | refine qd_ ?_ _ | refine qf_ ?_ | refine qe_ ?_ _)); exact BK114.out) hb); have n4_ := Aside0.mk (qk_ (by repeat (first | (with_reducible first | exact HB.out | apply qc_ | apply qa_ | apply qb_ | refine qg_ ?_ GE101.out | refine qg_ ?_ GE102.out | refine qg_ ?_ GE114.out) | exact HB.out)) hb); clear HO109; clear BK101; clear BK102; clear BK114; clear HB; have HO109 := n0_; have BK101 := n1_; have BK102 := n2_; have BK114 := n3_; have HB := n4_; clear n0_ n1_ n2_ n3_ n4_; (try clear hb); (try clear hb2); (try clear hk); (try clear hi)) | ((with_reducible refine qq_ (N := 11) rfl ?_); refine qp_ ?hg (N := 11) ?hd (cs := #[.int .i64 0, .int .i64 0, .string (⟨#[]⟩ : ByteArray)]) (t := 30) ?hr ?_; (case hd => rfl); (case hg => rfl); (case hr => first | (go_simp; done) | (go_simp; rfl)); intro gb119 hg w38 hbox hb; have n0_ := Aside0.mk (Kd.R_below (Kd.R_elderB (by (with_reducible repeat (first | apply Kd.qn_ | apply Kd.qm_ | apply Kd.R_drew)); exact HO109.out) gb119 (Nat.le_of_eq hg.symm)) hb); have n1_ := Aside0.mk (ql_ (g := gb101) (o := .cells #[.int .i64 a1_0, .int .i64 a1_1, .string a1_2] 30 (0, 0)) (by (with_reducible repeat (first | refine qd_ ?_ _ | refine qf_ ?_ | refine qe_ ?_ _)); exact BK101.out) hb); have n2_ := Aside0.mk (ql_ (g := gb102) (o := .cells #[.int .u8 a2_0, .int .u8 a2_1] 38 (0, 0)) (by (with_reducible repeat (first | refine qd_ ?_ _ | refine qf_ ?_ | refine qe_ ?_ _)); exact BK102.out) hb); have n3_ := Aside0.mk (ql_ (g := gb114) (o := .cells #[.int .i64 t110, .int .i64 t111, .string t112] 30 (0, 0)) (by (with_reducible repeat (first | refine qd_ ?_ _ | refine qf_ ?_ | refine qe_ ?_ _)); exact BK114.out) hb); have n4_ := Aside0.mk (qk_ (by repeat (first | (with_reducible first | exact HB.out | apply qc_ | apply qa_ | apply qb_ | refine qg_ ?_ GE101.out | refine qg_ ?_ GE102.out | refine qg_ ?_ GE114.out) | exact HB.out)) hb); have n5_ := Aside0.mk (hbox); have n6_ := Aside0.mk ((by rw [hg]; exact (qj_ (by repeat (first | (with_reducible first | exact HB.out | apply qc_ | apply qa_ | apply qb_ | refine qg_ ?_ GE101.out | refine qg_ ?_ GE102.out | refine qg_ ?_ GE114.out) | exact HB.out))) : w.heap.size ≤ gb119)); have n7_ := Aside0.mk ((by rw [hg]; exact (qj_ (by repeat (first | (with_reducible first | exact HB.out | apply qc_ | apply qa_ | apply qb_ | refine qg_ ?_ GE101.out | refine qg_ ?_ GE102.out | refine qg_ ?_ GE114.out) | exact HB.out))) : w.heap.size ≤ gb119)); have n8_ := Aside0.mk ((by rw [hg]; exact Nat.ne_of_lt (blk_lt (g := gb101) (o := .cells #[.int .i64 a1_0, .int .i64 a1_1, .string a1_2] 30 (0, 0)) (by (with_reducible repeat (first | refine qd_ ?_ _ | refine qf_ ?_ | refine qe_ ?_ _)); exact BK101.out)) : gb101 ≠ gb119)); have n9_ := Aside0.mk ((by rw [hg]; exact Nat.ne_of_gt (blk_lt (g := gb101) (o := .cells #[.int .i64 a1_0, .int .i64 a1_1, .string a1_2] 30 (0, 0)) (by (with_reducible repeat (first | refine qd_ ?_ _ | refine qf_ ?_ | refine qe_ ?_ _)); exact BK101.out)) : gb119 ≠ gb101)); have n10_ := Aside0.mk ((by rw [hg]; exact Nat.ne_of_lt (blk_lt (g := gb102) (o := .cells #[.int .u8 a2_0, .int .u8 a2_1] 38 (0, 0)) (by (with_reducible repeat (first | refine qd_ ?_ _ | refine qf_ ?_ | refine qe_ ?_ _)); exact BK102.out)) : gb102 ≠ gb119)); have n11_ := Aside0.mk ((by rw [hg]; exact Nat.ne_of_gt (blk_lt (g := gb102) (o := .cells #[.int .u8 a2_0, .int .u8 a2_1] 38 (0, 0)) (by (with_reducible repeat (first | refine qd_ ?_ _ | refine qf_ ?_ | refine qe_ ?_ _)); exact BK102.out)) : gb119 ≠ gb102)); have n12_ := Aside0.mk ((by rw [hg]; exact Nat.ne_of_lt (blk_lt (g := gb114) (o := .cells #[.int .i64 t110, .int .i64 t111, .string t112] 30 (0, 0)) (by (with_reducible repeat (first | refine qd_ ?_ _ | refine qf_ ?_ | refine qe_ ?_ _)); exact BK114.out)) : gb114 ≠ gb119)); have n13_ := Aside0.mk ((by rw [hg]; exact Nat.ne_of_gt (blk_lt (g := gb114) (o := .cells #[.int .i64 t110, .int .i64 t111, .string t112] 30 (0, 0)) (by (with_reducible repeat (first | refine qd_ ?_ _ | refine qf_ ?_ | refine qe_ ?_ _)); exact BK114.out)) : gb119 ≠ gb114)); clear HO109; clear BK101; clear BK102; clear BK114; clear HB; have HO109 := n0_; have BK101 := n1_; have BK102 := n2_; have BK114 := n3_; have HB := n4_; have BK119 := n5_; have GW119 := n6_; have GE119 := n7_; have NB101_119 := n8_; have NB119_101 := n9_; have NB102_119 := n10_; have NB119_102 := n11_; have NB114_119 := n12_; have NB119_114 := n13_; clear n0_ n1_ n2_ n3_ n4_ n5_ n6_ n7_ n8_ n9_ n10_ n11_ n12_ n13_; clear hb hbox hg; have hnb39 := NB119_101.out; have hnc39 := NB101_119.out; have hnb40 := NB119_102.out; have hnc40 := NB102_119.out; have hnb41 := NB119_114.out; have hnc41 := NB114_119.out; have hcz42_0 : w38.cell? ⟨gb119, 0, none⟩ = some (.int .i64 0) := (qi_ BK119.out 0).trans rfl; have hcz42_1 : w38.cell? ⟨gb119, 1, none⟩ = some (.int .i64 0) := (qi_ BK119.out 1).trans rfl; have hcz42_2 : w38.cell? ⟨gb119, 2, none⟩ = some (.string (⟨#[]⟩ : ByteArray)) := (qi_ BK119.out 2).trans rfl; have hfz42_0 := qh_ BK119.out 0; have hfz42_1 := qh_ BK119.out 1; have hfz42_2 := qh_ BK119.out 2) | (go_at_call 16; (with_reducible refine (entry_Get.calls _ _ t107 (Int.tmod (wrap64 (a2_0)) 12) t120 t121 t122 t123 _ ?side1 ?side2 A24.out).mono ?_); (case side1 => refine (Kd.R_reads' (e := 30) (base := w.heap.size) (ok := fun k_ => (((True ∧ k_ ≠ gb101) ∧ k_ ≠ gb114) ∧ k_ ≠ gb119)) (n := t107.length) (c := co30) ?_).2.2; exact (by (with_reducible repeat (first | apply Kd.qn_ | apply Kd.qm_ | apply Kd.R_drew)); exact (Kd.R_mono (Kd.R_far (p := ⟨gb119, 2, none⟩) (Kd.R_far (p := ⟨gb119, 1, none⟩) (Kd.R_far (p := ⟨gb119, 0, none⟩) (Kd.R_mono HO109.out (fun k_ hk => (⟨hk, hk.2⟩ : _ ∧ k_ ≠ gb119))) (fun _ hk => hk.2) (.int .i64 t115)) (fun _ hk => hk.2) (.int .i64 t116)) (fun _ hk => hk.2) (.string t117)) (fun _ h_ => h_.1)))); (case side2 => exact (Kd.R_reads' HO109.out).2.1); rintro e w43 ⟨rfl, hb⟩; have n0_ := Aside0.mk (Kd.R_below (by (with_reducible repeat (first | apply Kd.qn_ | apply Kd.qm_ | apply Kd.R_drew)); exact (Kd.R_mono (Kd.R_far (p := ⟨gb119, 2, none⟩) (Kd.R_far (p := ⟨gb119, 1, none⟩) (Kd.R_far (p := ⟨gb119, 0, none⟩) (Kd.R_mono HO109.out (fun k_ hk => (⟨hk, hk.2⟩ : _ ∧ k_ ≠ gb119))) (fun _ hk => hk.2) (.int .i64 t115)) (fun _ hk => hk.2) (.int .i64 t116)) (fun _ hk => hk.2) (.string t117)) (fun _ h_ => h_.1))) hb); have n1_ := Aside0.mk (ql_ (g := gb101) (o := .cells #[.int .i64 a1_0, .int .i64 a1_1, .string a1_2] 30 (0, 0)) (by (with_reducible repeat (first | refine qd_ ?_ _ | refine qf_ ?_ | refine qe_ ?_ _)); refine qo_ ?_ NB101_119.out _; (with_reducible repeat (first | refine qd_ ?_ _ | refine qf_ ?_ | refine qe_ ?_ _)); refine qo_ ?_ NB101_119.out _; (with_reducible repeat (first | refine qd_ ?_ _ | refine qf_ ?_ | refine qe_ ?_ _)); refine qo_ ?_ NB101_119.out _; (with_reducible repeat (first | refine qd_ ?_ _ | refine qf_ ?_ | refine qe_ ?_ _)); exact BK101.out) hb); have n2_ := Aside0.mk (ql_ (g := gb102) (o := .cells #[.int .u8 a2_0, .int .u8 a2_1] 38 (0, 0)) (by (with_reducible repeat (first | refine qd_ ?_ _ | refine qf_ ?_ | refine qe_ ?_ _)); refine qo_ ?_ NB102_119.out _; (with_reducible repeat (first | refine qd_ ?_ _ | refine qf_ ?_ | refine qe_ ?_ _)); refine qo_ ?_ NB102_119.out _; (with_reducible repeat (first | refine qd_ ?_ _ | refine qf_ ?_ | refine qe_ ?_ _)); refine qo_ ?_ NB102_119.out _; (with_reducible repeat (first | refine qd_ ?_ _ | refine qf_ ?_ | refine qe_ ?_ _)); exact BK102.out) hb); have n3_ := Aside0.mk (ql_ (g := gb114) (o := .cells #[.int .i64 t110, .int .i64 t111, .string t112] 30 (0, 0)) (by (with_reducible repeat (first | refine qd_ ?_ _ | refine qf_ ?_ | refine qe_ ?_ _)); refine qo_ ?_ NB114_119.out _; (with_reducible repeat (first | refine qd_ ?_ _ | refine qf_ ?_ | refine qe_ ?_ _)); refine qo_ ?_ NB114_119.out _; (with_reducible repeat (first | refine qd_ ?_ _ | refine qf_ ?_ | refine qe_ ?_ _)); refine qo_ ?_ NB114_119.out _; (with_reducible repeat (first | refine qd_ ?_ _ | refine qf_ ?_ | refine qe_ ?_ _)); exact BK114.out) hb); have n4_ := Aside0.mk (ql_ (g := gb119) (o := .cells #[.int .i64 t115, .int .i64 t116, .string t117] 30 (0, 0)) (by (with_reducible repeat (first | refine qd_ ?_ _ | refine qf_ ?_ | refine qe_ ?_ _)); refine qr_ (cs := #[.int .i64 t115, .int .i64 t116, .string (⟨#[]⟩ : ByteArray)]) ?_ 2 _ rfl; (with_reducible repeat (first | refine qd_ ?_ _ | refine qf_ ?_ | refine qe_ ?_ _)); refine qr_ (cs := #[.int .i64 t115, .int .i64 0, .string (⟨#[]⟩ : ByteArray)]) ?_ 1 _ rfl; (with_reducible repeat (first | refine qd_ ?_ _ | refine qf_ ?_ | refine qe_ ?_ _)); refine qr_ (cs := #[.int .i64 0, .int .i64 0, .string (⟨#[]⟩ : ByteArray)]) ?_ 0 _ rfl; (with_reducible repeat (first | refine qd_ ?_ _ | refine qf_ ?_ | refine qe_ ?_ _)); exact BK119.out) hb); have n5_ := Aside0.mk (qk_ (by repeat (first | (with_reducible first | exact HB.out | apply qc_ | apply qa_ | apply qb_ | refine qg_ ?_ GE101.out | refine qg_ ?_ GE102.out | refine qg_ ?_ GE114.out | refine qg_ ?_ GE119.out) | exact HB.out)) hb); clear HO109; clear BK101; clear BK102; clear BK114; clear BK119; clear HB; have HO109 := n0_; have BK101 := n1_; have BK102 := n2_; have BK114 := n3_; have BK119 := n4_; have HB := n5_; clear n0_ n1_ n2_ n3_ n4_ n5_; (try clear hb); (try clear hb2); (try clear hk); (try clear hi)) | ((with_reducible refine qq_ (N := 13) rfl ?_); refine qp_ ?hg (N := 13) ?hd (cs := #[.int .i64 0, .int .i64 0, .string (⟨#[]⟩ : ByteArray)]) (t := 30) ?hr ?_; (case hd => rfl); (case hg => rfl); (case hr => first | (go_simp; done) | (go_simp; rfl)); intro gb124 hg w44 hbox hb; have n0_ := Aside0.mk (Kd.R_below (Kd.R_elderB (by (with_reducible repeat (first | apply Kd.qn_ | apply Kd.qm_ | apply Kd.R_drew)); exact HO109.out) gb124 (Nat.le_of_eq hg.symm)) hb); have n1_ := Aside0.mk (ql_ (g := gb101) (o := .cells #[.int .i64 a1_0, .int .i64 a1_1, .string a1_2] 30 (0, 0)) (by (with_reducible repeat (first | refine qd_ ?_ _ | refine qf_ ?_ | refine qe_ ?_ _)); exact BK101.out) hb); have n2_ := Aside0.mk (ql_ (g := gb102) (o := .cells #[.int .u8 a2_0, .int .u8 a2_1] 38 (0, 0)) (by (with_reducible repeat (first | refine qd_ ?_ _ | refine qf_ ?_ | refine qe_ ?_ _)); exact BK102.out) hb); have n3_ := Aside0.mk (ql_ (g := gb114) (o := .cells #[.int .i64 t110, .int .i64 t111, .string t112] 30 (0, 0)) (by (with_reducible repeat (first | refine qd_ ?_ _ | refine qf_ ?_ | refine qe_ ?_ _)); exact BK114.out) hb); have n4_ := Aside0.mk (ql_ (g := gb119) (o := .cells #[.int .i64 t115, .int .i64 t116, .string t117] 30 (0, 0)) (by (with_reducible repeat (first | refine qd_ ?_ _ | refine qf_ ?_ | refine qe_ ?_ _)); exact BK119.out) hb); have n5_ := Aside0.mk (qk_ (by repeat (first | (with_reducible first | exact HB.out | apply qc_ | apply qa_ | apply qb_ | refine qg_ ?_ GE101.out | refine qg_ ?_ GE102.out | refine qg_ ?_ GE114.out | refine qg_ ?_ GE119.out) | exact HB.out)) hb); have n6_ := Aside0.mk (hbox); have n7_ := Aside0.mk ((by rw [hg]; exact (qj_ (by repeat (first | (with_reducible first | exact HB.out | apply qc_ | apply qa_ | apply qb_ | refine qg_ ?_ GE101.out | refine qg_ ?_ GE102.out | refine qg_ ?_ GE114.out | refine qg_ ?_ GE119.out) | exact HB.out))) : w.heap.size ≤ gb124)); have n8_ := Aside0.mk ((by rw [hg]; exact (qj_ (by repeat (first | (with_reducible first | exact HB.out | apply qc_ | apply qa_ | apply qb_ | refine qg_ ?_ GE101.out | refine qg_ ?_ GE102.out | refine qg_ ?_ GE114.out | refine qg_ ?_ GE119.out) | exact HB.out))) : w.heap.size ≤ gb124)); have n9_ := Aside0.mk ((by rw [hg]; exact Nat.ne_of_lt (blk_lt (g := gb101) (o := .cells #[.int .i64 a1_0, .int .i64 a1_1, .string a1_2] 30 (0, 0)) (by (with_reducible repeat (first | refine qd_ ?_ _ | refine qf_ ?_ | refine qe_ ?_ _)); exact BK101.out)) : gb101 ≠ gb124)); have n10_ := Aside0.mk ((by rw [hg]; exact Nat.ne_of_gt (blk_lt (g := gb101) (o := .cells #[.int .i64 a1_0, .int .i64 a1_1, .string a1_2] 30 (0, 0)) (by (with_reducible repeat (first | refine qd_ ?_ _ | refine qf_ ?_ | refine qe_ ?_ _)); exact BK101.out)) : gb124 ≠ gb101)); have n11_ := Aside0.mk ((by rw [hg]; exact Nat.ne_of_lt (blk_lt (g := gb102) (o := .cells #[.int .u8 a2_0, .int .u8 a2_1] 38 (0, 0)) (by (with_reducible repeat (first | refine qd_ ?_ _ | refine qf_ ?_ | refine qe_ ?_ _)); exact BK102.out)) : gb102 ≠ gb124)); have n12_ := Aside0.mk ((by rw [hg]; exact Nat.ne_of_gt (blk_lt (g := gb102) (o := .cells #[.int .u8 a2_0, .int .u8 a2_1] 38 (0, 0)) (by (with_reducible repeat (first | refine qd_ ?_ _ | refine qf_ ?_ | refine qe_ ?_ _)); exact BK102.out)) : gb124 ≠ gb102)); have n13_ := Aside0.mk ((by rw [hg]; exact Nat.ne_of_lt (blk_lt (g := gb114) (o := .cells #[.int .i64 t110, .int .i64 t111, .string t112] 30 (0, 0)) (by (with_reducible repeat (first | refine qd_ ?_ _ | refine qf_ ?_ | refine qe_ ?_ _)); exact BK114.out)) : gb114 ≠ gb124)); have n14_ := Aside0.mk ((by rw [hg]; exact Nat.ne_of_gt (blk_lt (g := gb114) (o := .cells #[.int .i64 t110, .int .i64 t111, .string t112] 30 (0, 0)) (by (with_reducible repeat (first | refine qd_ ?_ _ | refine qf_ ?_ | refine qe_ ?_ _)); exact BK114.out)) : gb124 ≠ gb114)); have n15_ := Aside0.mk ((by rw [hg]; exact Nat.ne_of_lt (blk_lt (g := gb119) (o := .cells #[.int .i64 t115, .int .i64 t116, .string t117] 30 (0, 0)) (by (with_reducible repeat (first | refine qd_ ?_ _ | refine qf_ ?_ | refine qe_ ?_ _)); exact BK119.out)) : gb119 ≠ gb124)); have n16_ := Aside0.mk ((by rw [hg]; exact Nat.ne_of_gt (blk_lt (g := gb119) (o := .cells #[.int .i64 t115, .int .i64 t116, .string t117] 30 (0, 0)) (by (with_reducible repeat (first | refine qd_ ?_ _ | refine qf_ ?_ | refine qe_ ?_ _)); exact BK119.out)) : gb124 ≠ gb119)); clear HO109; clear BK101; clear BK102; clear BK114; clear BK119; clear HB; have HO109 := n0_; have BK101 := n1_; have BK102 := n2_; have BK114 := n3_; have BK119 := n4_; have HB := n5_; have BK124 := n6_; have GW124 := n7_; have GE124 := n8_; have NB101_124 := n9_; have NB124_101 := n10_; have NB102_124 := n11_; have NB124_102 := n12_; have NB114_124 := n13_; have NB124_114 := n14_; have NB119_124 := n15_; have NB124_119 := n16_; clear n0_ n1_ n2_ n3_ n4_ n5_ n6_ n7_ n8_ n9_ n10_ n11_ n12_ n13_ n14_ n15_ n16_; clear hb hbox hg; have hnb45 := NB124_101.out; have hnc45 := NB101_124.out; have hnb46 := NB124_102.out; have hnc46 := NB102_124.out; have hnb47 := NB124_114.out; have hnc47 := NB114_124.out; have hnb48 := NB124_119.out; have hnc48 := NB119_124.out; have hcz49_0 : w44.cell? ⟨gb124, 0, none⟩ = some (.int .i64 0) := (qi_ BK124.out 0).trans rfl; have hcz49_1 : w44.cell? ⟨gb124, 1, none⟩ = some (.int .i64 0) := (qi_ BK124.out 1).trans rfl; have hcz49_2 : w44.cell? ⟨gb124, 2, none⟩ = some (.string (⟨#[]⟩ : ByteArray)) := (qi_ BK124.out 2).trans rfl; have hfz49_0 := qh_ BK124.out 0; have hfz49_1 := qh_ BK124.out 1; have hfz49_2 := qh_ BK124.out 2))
     repeat (go_quiet (first | (go_at_call 25; (with_reducible refine (entry_Put.calls _ _ l0 a1_0 a1_1 a1_2 t107 _ ?side1 ?side2 A21.out).mono ?_); (case side1 => repeat (first | exact (Kd.C_below HR0.out HB.out) | (with_reducible refine Kd.qt_ ?_ _) | (with_reducible refine Kd.qs_ ?_ _) | (with_reducible refine Kd.C_drew ?_))); (case side2 => exact HC0.out); rintro e w28 ⟨v108, rfl, ho0, hb⟩; have n0_ := Aside0.mk (Kd.R_lower (Kd.R_newB ho0 (g := gb101) (o := .cells #[.int .i64 a1_0, .int .i64 a1_1, .string a1_2] 30 (0, 0)) (by (with_reducible repeat (first | refine qd_ ?_ _ | refine qf_ ?_ | refine qe_ ?_ _)); exact BK101.out)) (qj_ (by repeat (first | (with_reducible first | exact HB.out | apply qc_ | apply qa_ | apply qb_ | refine qg_ ?_ GE101.out | refine qg_ ?_ GE102.out) | exact HB.out)))); have n1_ := Aside0.mk (ql_ (g := gb101) (o := .cells #[.int .i64 a1_0, .int .i64 a1_1, .string a1_2] 30 (0, 0)) (by (with_reducible repeat (first | refine qd_ ?_ _ | refine qf_ ?_ | refine qe_ ?_ _)); exact BK101.out) hb); have n2_ := Aside0.mk (ql_ (g := gb102) (o := .cells #[.int .u8 a2_0, .int .u8 a2_1] 38 (0, 0)) (by (with_reducible repeat (first | refine qd_ ?_ _ | refine qf_ ?_ | refine qe_ ?_ _)); exact BK102.out) hb); have n3_ := Aside0.mk (qk_ (by repeat (first | (with_reducible first | exact HB.out | apply qc_ | apply qa_ | apply qb_ | refine qg_ ?_ GE101.out | refine qg_ ?_ GE102.out) | exact HB.out)) hb); clear BK101; clear BK102; clear HB; have HO109 := n0_; have BK101 := n1_; have BK102 := n2_; have HB := n3_; clear n0_ n1_ n2_ n3_; (try clear hb); (try clear hb2); (try clear hk); (try clear hi); (try clear ho0); have hcz29_0 : w28.cell? ⟨gb101, 0, none⟩ = some (.int .i64 a1_0) := (qi_ BK101.out 0).trans rfl; have hcz29_1 : w28.cell? ⟨gb101, 1, none⟩ = some (.int .i64 a1_1) := (qi_ BK101.out 1).trans rfl; have hcz29_2 : w28.cell? ⟨gb101, 2, none⟩ = some (.string a1_2) := (qi_ BK101.out 2).trans rfl; have hfz29_0 := qh_ BK101.out 0; have hfz29_1 := qh_ BK101.out 1; have hfz29_2 := qh_ BK101.out 2; obtain ⟨Ao30, co30, eo30⟩ := Kd.R_slice HO109.out; subst eo30) | (go_at_call 16; (with_reducible refine (entry_Get.calls _ _ t107 a1_0 t110 t111 t112 t113 _ ?side1 ?side2 A22.out).mono ?_); (case side1 => repeat (first | exact (Kd.R_reads' HO109.out).2.2 | (with_reducible refine Kd.qt_ ?_ _) | (with_reducible refine Kd.qs_ ?_ _) | (with_reducible refine Kd.C_drew ?_))); (case side2 => exact (Kd.R_reads' HO109.out).2.1); rintro e w31 ⟨rfl, hb⟩; have n0_ := Aside0.mk (Kd.R_below (by (with_reducible repeat (first | apply Kd.qn_ | apply Kd.qm_ | apply Kd.R_drew)); exact HO109.out) hb); have n1_ := Aside0.mk (ql_ (g := gb101) (o := .cells #[.int .i64 a1_0, .int .i64 a1_1, .string a1_2] 30 (0, 0)) (by (with_reducible repeat (first | refine qd_ ?_ _ | refine qf_ ?_ | refine qe_ ?_ _)); exact BK101.out) hb); have n2_ := Aside0.mk (ql_ (g := gb102) (o := .cells #[.int .u8 a2_0, .int .u8 a2_1] 38 (0, 0)) (by (with_reducible repeat (first | refine qd_ ?_ _ | refine qf_ ?_ | refine qe_ ?_ _)); exact BK102.out) hb); have n3_ := Aside0.mk (qk_ (by repeat (first | (with_reducible first | exact HB.out | apply qc_ | apply qa_ | apply qb_ | refine qg_ ?_ GE101.out | refine qg_ ?_ GE102.out) | exact HB.out)) hb); clear HO109; clear BK101; clear BK102; clear HB; have HO109 := n0_; have BK101 := n1_; have BK102 := n2_; have HB := n3_; clear n0_ n1_ n2_ n3_; (try clear hb); (try clear hb2); (try clear hk); (try clear hi)) | ((with_reducible refine qq_ (N := 8) rfl ?_); refine qp_ ?hg (N := 8) ?hd (cs := #[.int .i64 0, .int .i64 0, .string (⟨#[]⟩ : ByteArray)]) (t := 30) ?hr ?_; (case hd => rfl); (case hg => rfl); (case hr => first | (go_simp; done) | (go_simp; rfl)); intro gb114 hg w32 hbox hb; have n0_ := Aside0.mk (Kd.R_below (Kd.R_elderB (by (with_reducible repeat (first | apply Kd.qn_ | apply Kd.qm_ | apply Kd.R_drew)); exact HO109.out) gb114 (Nat.le_of_eq hg.symm)) hb); have n1_ := Aside0.mk (ql_ (g := gb101) (o := .cells #[.int .i64 a1_0, .int .i64 a1_1, .string a1_2] 30 (0, 0)) (by (with_reducible repeat (first | refine qd_ ?_ _ | refine qf_ ?_ | refine qe_ ?_ _)); exact BK101.out) hb); have n2_ := Aside0.mk (ql_ (g := gb102) (o := .cells #[.int .u8 a2_0, .int .u8 a2_1] 38 (0, 0)) (by (with_reducible repeat (first | refine qd_ ?_ _ | refine qf_ ?_ | refine qe_ ?_ _)); exact BK102.out) hb); have n3_ := Aside0.mk (qk_ (by repeat (first | (with_reducible first | exact HB.out | apply qc_ | apply qa_ | apply qb_ | refine qg_ ?_ GE101.out | refine qg_ ?_ GE102.out) | exact HB.out)) hb); have n4_ := Aside0.mk (hbox); have n5_ := Aside0.mk ((by rw [hg]; exact (qj_ (by repeat (first | (with_reducible first | exact HB.out | apply qc_ | apply qa_ | apply qb_ | refine qg_ ?_ GE101.out | refine qg_ ?_ GE102.out) | exact HB.out))) : w.heap.size ≤ gb114)); have n6_ := Aside0.mk ((by rw [hg]; exact (qj_ (by repeat (first | (with_reducible first | exact HB.out | apply qc_ | apply qa_ | apply qb_ | refine qg_ ?_ GE101.out | refine qg_ ?_ GE102.out) | exact HB.out))) : w.heap.size ≤ gb114)); have n7_ := Aside0.mk ((by rw [hg]; exact Nat.ne_of_lt (blk_lt (g := gb101) (o := .cells #[.int .i64 a1_0, .int .i64 a1_1, .string a1_2] 30 (0, 0)) (by (with_reducible repeat (first | refine qd_ ?_ _ | refine qf_ ?_ | refine qe_ ?_ _)); exact BK101.out)) : gb101 ≠ gb114)); have n8_ := Aside0.mk ((by rw [hg]; exact Nat.ne_of_gt (blk_lt (g := gb101) (o := .cells #[.int .i64 a1_0, .int .i64 a1_1, .string a1_2] 30 (0, 0)) (by (with_reducible repeat (first | refine qd_ ?_ _ | refine qf_ ?_ | refine qe_ ?_ _)); exact BK101.out)) : gb114 ≠ gb101)); have n9_ := Aside0.mk ((by rw [hg]; exact Nat.ne_of_lt (blk_lt (g := gb102) (o := .cells #[.int .u8 a2_0, .int .u8 a2_1] 38 (0, 0)) (by (with_reducible repeat (first | refine qd_ ?_ _ | refine qf_ ?_ | refine qe_ ?_ _)); exact BK102.out)) : gb102 ≠ gb114)); have n10_ := Aside0.mk ((by rw [hg]; exact Nat.ne_of_gt (blk_lt (g := gb102) (o := .cells #[.int .u8 a2_0, .int .u8 a2_1] 38 (0, 0)) (by (with_reducible repeat (first | refine qd_ ?_ _ | refine qf_ ?_ | refine qe_ ?_ _)); exact BK102.out)) : gb114 ≠ gb102)); clear HO109; clear BK101; clear BK102; clear HB; have HO109 := n0_; have BK101 := n1_; have BK102 := n2_; have HB := n3_; have BK114 := n4_; have GW114 := n5_; have GE114 := n6_; have NB101_114 := n7_; have NB114_101 := n8_; have NB102_114 := n9_; have NB114_102 := n10_; clear n0_ n1_ n2_ n3_ n4_ n5_ n6_ n7_ n8_ n9_ n10_; clear hb hbox hg; have hnb33 := NB114_101.out; have hnc33 := NB101_114.out; have hnb34 := NB114_102.out; have hnc34 := NB102_114.out; have hcz35_0 : w32.cell? ⟨gb114, 0, none⟩ = some (.int .i64 0) := (qi_ BK114.out 0).trans rfl; have hcz35_1 : w32.cell? ⟨gb114, 1, none⟩ = some (.int .i64 0) := (qi_ BK114.out 1).trans rfl; have hcz35_2 : w32.cell? ⟨gb114, 2, none⟩ = some (.string (⟨#[]⟩ : ByteArray)) := (qi_ BK114.out 2).trans rfl; have hfz35_0 := qh_ BK114.out 0; have hfz35_1 := qh_ BK114.out 1; have hfz35_2 := qh_ BK114.out 2; have hcz36_0 : w32.cell? ⟨gb102, 0, none⟩ = some (.int .u8 a2_0) := (qi_ BK102.out 0).trans rfl; have hcz36_1 : w32.cell? ⟨gb102, 1, none⟩ = some (.int .u8 a2_1) := (qi_ BK102.out 1).trans rfl; have hfz36_0 := qh_ BK102.out 0; have hfz36_1 := qh_ BK102.out 1) | (go_at_call 16; (with_reducible refine (entry_Get.calls _ _ l0 (Int.tmod (wrap64 (a2_0)) 12) t115 t116 t117 t118 _ ?side1 ?side2 A23.out).mono ?_); (case side1 => exact Kd.C_below HR0.out (by repeat (first | (with_reducible first | exact HB.out | apply qc_ | apply qa_ | apply qb_ | refine qg_ ?_ GE101.out | refine qg_ ?_ GE102.out | refine qg_ ?_ GE114.out) | exact HB.out))); (case side2 => exact HC0.out); rintro e w37 ⟨rfl, hb⟩; have n0_ := Aside0.mk (Kd.R_below (by (with_reducible repeat (first | apply Kd.qn_ | apply Kd.qm_ | apply Kd.R_drew)); exact (Kd.R_mono (Kd.R_far (p := ⟨gb114, 2, none⟩) (Kd.R_far (p := ⟨gb114, 1, none⟩) (Kd.R_far (p := ⟨gb114, 0, none⟩) (Kd.R_mono HO109.out (fun k_ hk => (⟨hk, hk.2⟩ : _ ∧ k_ ≠ gb114))) (fun _ hk => hk.2) (.int .i64 t110)) (fun _ hk => hk.2) (.int .i64 t111)) (fun _ hk => hk.2) (.string t112)) (fun _ h_ => h_.1))) hb); have n1_ := Aside0.mk (ql_ (g := gb101) (o := .cells #[.int .i64 a1_0, .int .i64 a1_1, .string a1_2] 30 (0, 0)) (by (with_reducible repeat (first | refine qd_ ?_ _ | refine qf_ ?_ | refine qe_ ?_ _)); refine qo_ ?_ NB101_114.out _; (with_reducible repeat (first | refine qd_ ?_ _ | refine qf_ ?_ | refine qe_ ?_ _)); refine qo_ ?_ NB101_114.out _; (with_reducible repeat (first | refine qd_ ?_ _ | refine qf_ ?_ | refine qe_ ?_ _)); refine qo_ ?_ NB101_114.out _; (with_reducible repeat (first | refine qd_ ?_ _ | refine qf_ ?_ | refine qe_ ?_ _)); exact BK101.out) hb); have n2_ := Aside0.mk (ql_ (g := gb102) (o := .cells #[.int .u8 a2_0, .int .u8 a2_1] 38 (0, 0)) (by (with_reducible repeat (first | refine qd_ ?_ _ | refine qf_ ?_ | refine qe_ ?_ _)); refine qo_ ?_ NB102_114.out _; (with_reducible repeat (first | refine qd_ ?_ _ | refine qf_ ?_ | refine qe_ ?_ _)); refine qo_ ?_ NB102_114.out _; (with_reducible repeat (first | refine qd_ ?_ _ | refine qf_ ?_ | refine qe_ ?_ _)); refine qo_ ?_ NB102_114.out _; (with_reducible repeat (first | refine qd_ ?_ _ | refine qf_ ?_ | refine qe_ ?_ _)); exact BK102.out) hb); have n3_ := Aside0.mk (ql_ (g := gb114) (o := .cells #[.int .i64 t110, .int .i64 t111, .string t112] 30 (0, 0)) (by (with_reducible repeat (first | refine qd_ ?_ _ | refine qf_ ?_ | refine qe_ ?_ _)); refine qr_ (cs := #[.int .i64 t110, .int .i64 t111, .string (⟨#[]⟩ : ByteArray)]) ?_ 2 _ rfl; (with_reducible repeat (first | refine qd_ ?_ _ | refine qf_ ?_ | refine qe_ ?_ _)); refine qr_ (cs := #[.int .i64 t110, .int .i64 0, .string (⟨#[]⟩ : ByteArray)]) ?_ 1 _ rfl; (with_reducible repeat (first | refine qd_ ?_ _ | refine qf_ ?_ | refine qe_ ?_ _)); refine qr_ (cs := #[.int .i64 0, .int .i64 0, .string (⟨#[]⟩ : ByteArray)]) ?_ 0 _ rfl; (with_reducible repeat (first | refine qd_ ?_ _ | refine qf_ ?_ | refine qe_ ?_ _)); exact BK114.out) hb); have n4_ := Aside0.mk (qk_ (by repeat (first | (with_reducible first | exact HB.out | apply qc_ | apply qa_ | apply qb_ | refine qg_ ?_ GE101.out | refine qg_ ?_ GE102.out | refine qg_ ?_ GE114.out) | exact HB.out)) hb); clear HO109; clear BK101; clear BK102; clear BK114; clear HB; have HO109 := n0_; have BK101 := n1_; have BK102 := n2_; have BK114 := n3_; have HB := n4_; clear n0_ n1_ n2_ n3_ n4_; (try clear hb); (try clear hb2); (try clear hk); (try clear hi)) | ((with_reducible refine qq_ (N := 11) rfl ?_); refine qp_ ?hg (N := 11) ?hd (cs := #[.int .i64 0, .int .i64 0, .string (⟨#[]⟩ : ByteArray)]) (t := 30) ?hr ?_; (case hd => rfl); (case hg => rfl); (case hr => first | (go_simp; done) | (go_simp; rfl)); intro gb119 hg w38 hbox hb; have n0_ := Aside0.mk (Kd.R_below (Kd.R_elderB (by (with_reducible repeat (first | apply Kd.qn_ | apply Kd.qm_ | apply Kd.R_drew)); exact HO109.out) gb119 (Nat.le_of_eq hg.symm)) hb); have n1_ := Aside0.mk (ql_ (g := gb101) (o := .cells #[.int .i64 a1_0, .int .i64 a1_1, .string a1_2] 30 (0, 0)) (by (with_reducible repeat (first | refine qd_ ?_ _ | refine qf_ ?_ | refine qe_ ?_ _)); exact BK101.out) hb); have n2_ := Aside0.mk (ql_ (g := gb102) (o := .cells #[.int .u8 a2_0, .int .u8 a2_1] 38 (0, 0)) (by (with_reducible repeat (first | refine qd_ ?_ _ | refine qf_ ?_ | refine qe_ ?_ _)); exact BK102.out) hb); have n3_ := Aside0.mk (ql_ (g := gb114) (o := .cells #[.int .i64 t110, .int .i64 t111, .string t112] 30 (0, 0)) (by (with_reducible repeat (first | refine qd_ ?_ _ | refine qf_ ?_ | refine qe_ ?_ _)); exact BK114.out) hb); have n4_ := Aside0.mk (qk_ (by repeat (first | (with_reducible first | exact HB.out | apply qc_ | apply qa_ | apply qb_ | refine qg_ ?_ GE101.out | refine qg_ ?_ GE102.out | refine qg_ ?_ GE114.out) | exact HB.out)) hb); have n5_ := Aside0.mk (hbox); have n6_ := Aside0.mk ((by rw [hg]; exact (qj_ (by repeat (first | (with_reducible first | exact HB.out | apply qc_ | apply qa_ | apply qb_ | refine qg_ ?_ GE101.out | refine qg_ ?_ GE102.out | refine qg_ ?_ GE114.out) | exact HB.out))) : w.heap.size ≤ gb119)); have n7_ := Aside0.mk ((by rw [hg]; exact (qj_ (by repeat (first | (with_reducible first | exact HB.out | apply qc_ | apply qa_ | apply qb_ | refine qg_ ?_ GE101.out | refine qg_ ?_ GE102.out | refine qg_ ?_ GE114.out) | exact HB.out))) : w.heap.size ≤ gb119)); have n8_ := Aside0.mk ((by rw [hg]; exact Nat.ne_of_lt (blk_lt (g := gb101) (o := .cells #[.int .i64 a1_0, .int .i64 a1_1, .string a1_2] 30 (0, 0)) (by (with_reducible repeat (first | refine qd_ ?_ _ | refine qf_ ?_ | refine qe_ ?_ _)); exact BK101.out)) : gb101 ≠ gb119)); have n9_ := Aside0.mk ((by rw [hg]; exact Nat.ne_of_gt (blk_lt (g := gb101) (o := .cells #[.int .i64 a1_0, .int .i64 a1_1, .string a1_2] 30 (0, 0)) (by (with_reducible repeat (first | refine qd_ ?_ _ | refine qf_ ?_ | refine qe_ ?_ _)); exact BK101.out)) : gb119 ≠ gb101)); have n10_ := Aside0.mk ((by rw [hg]; exact Nat.ne_of_lt (blk_lt (g := gb102) (o := .cells #[.int .u8 a2_0, .int .u8 a2_1] 38 (0, 0)) (by (with_reducible repeat (first | refine qd_ ?_ _ | refine qf_ ?_ | refine qe_ ?_ _)); exact BK102.out)) : gb102 ≠ gb119)); have n11_ := Aside0.mk ((by rw [hg]; exact Nat.ne_of_gt (blk_lt (g := gb102) (o := .cells #[.int .u8 a2_0, .int .u8 a2_1] 38 (0, 0)) (by (with_reducible repeat (first | refine qd_ ?_ _ | refine qf_ ?_ | refine qe_ ?_ _)); exact BK102.out)) : gb119 ≠ gb102)); have n12_ := Aside0.mk ((by rw [hg]; exact Nat.ne_of_lt (blk_lt (g := gb114) (o := .cells #[.int .i64 t110, .int .i64 t111, .string t112] 30 (0, 0)) (by (with_reducible repeat (first | refine qd_ ?_ _ | refine qf_ ?_ | refine qe_ ?_ _)); exact BK114.out)) : gb114 ≠ gb119)); have n13_ := Aside0.mk ((by rw [hg]; exact Nat.ne_of_gt (blk_lt (g := gb114) (o := .cells #[.int .i64 t110, .int .i64 t111, .string t112] 30 (0, 0)) (by (with_reducible repeat (first | refine qd_ ?_ _ | refine qf_ ?_ | refine qe_ ?_ _)); exact BK114.out)) : gb119 ≠ gb114)); clear HO109; clear BK101; clear BK102; clear BK114; clear HB; have HO109 := n0_; have BK101 := n1_; have BK102 := n2_; have BK114 := n3_; have HB := n4_; have BK119 := n5_; have GW119 := n6_; have GE119 := n7_; have NB101_119 := n8_; have NB119_101 := n9_; have NB102_119 := n10_; have NB119_102 := n11_; have NB114_119 := n12_; have NB119_114 := n13_; clear n0_ n1_ n2_ n3_ n4_ n5_ n6_ n7_ n8_ n9_ n10_ n11_ n12_ n13_; clear hb hbox hg; have hnb39 := NB119_101.out; have hnc39 := NB101_119.out; have hnb40 := NB119_102.out; have hnc40 := NB102_119.out; have hnb41 := NB119_114.out; have hnc41 := NB114_119.out; have hcz42_0 : w38.cell? ⟨gb119, 0, none⟩ = some (.int .i64 0) := (qi_ BK119.out 0).trans rfl; have hcz42_1 : w38.cell? ⟨gb119, 1, none⟩ = some (.int .i64 0) := (qi_ BK119.out 1).trans rfl; have hcz42_2 : w38.cell? ⟨gb119, 2, none⟩ = some (.string (⟨#[]⟩ : ByteArray)) := (qi_ BK119.out 2).trans rfl; have hfz42_0 := qh_ BK119.out 0; have hfz42_1 := qh_ BK119.out 1; have hfz42_2 := qh_ BK119.out 2) | (go_at_call 16; (with_reducible refine (entry_Get.calls _ _ t107 (Int.tmod (wrap64 (a2_0)) 12) t120 t121 t122 t123 _ ?side1 ?side2 A24.out).mono ?_); (case side1 => refine (Kd.R_reads' (e := 30) (base := w.heap.size) (ok := fun k_ => (((True ∧ k_ ≠ gb101) ∧ k_ ≠ gb114) ∧ k_ ≠ gb119)) (n := t107.length) (c := co30) ?_).2.2; exact (by (with_reducible repeat (first | apply Kd.qn_ | apply Kd.qm_ | apply Kd.R_drew)); exact (Kd.R_mono (Kd.R_far (p := ⟨gb119, 2, none⟩) (Kd.R_far (p := ⟨gb119, 1, none⟩) (Kd.R_far (p := ⟨gb119, 0, none⟩) (Kd.R_mono HO109.out (fun k_ hk => (⟨hk, hk.2⟩ : _ ∧ k_ ≠ gb119))) (fun _ hk => hk.2) (.int .i64 t115)) (fun _ hk => hk.2) (.int .i64 t116)) (fun _ hk => hk.2) (.string t117)) (fun _ h_ => h_.1)))); (case side2 => exact (Kd.R_reads' HO109.out).2.1); rintro e w43 ⟨rfl, hb⟩; have n0_ := Aside0.mk (Kd.R_below (by (with_reducible repeat (first | apply Kd.qn_ | apply Kd.qm_ | apply Kd.R_drew)); exact (Kd.R_mono (Kd.R_far (p := ⟨gb119, 2, none⟩) (Kd.R_far (p := ⟨gb119, 1, none⟩) (Kd.R_far (p := ⟨gb119, 0, none⟩) (Kd.R_mono HO109.out (fun k_ hk => (⟨hk, hk.2⟩ : _ ∧ k_ ≠ gb119))) (fun _ hk => hk.2) (.int .i64 t115)) (fun _ hk => hk.2) (.int .i64 t116)) (fun _ hk => hk.2) (.string t117)) (fun _ h_ => h_.1))) hb); have n1_ := Aside0.mk (ql_ (g := gb101) (o := .cells #[.int .i64 a1_0, .int .i64 a1_1, .string a1_2] 30 (0, 0)) (by (with_reducible repeat (first | refine qd_ ?_ _ | refine qf_ ?_ | refine qe_ ?_ _)); refine qo_ ?_ NB101_119.out _; (with_reducible repeat (first | refine qd_ ?_ _ | refine qf_ ?_ | refine qe_ ?_ _)); refine qo_ ?_ NB101_119.out _; (with_reducible repeat (first | refine qd_ ?_ _ | refine qf_ ?_ | refine qe_ ?_ _)); refine qo_ ?_ NB101_119.out _; (with_reducible repeat (first | refine qd_ ?_ _ | refine qf_ ?_ | refine qe_ ?_ _)); exact BK101.out) hb); have n2_ := Aside0.mk (ql_ (g := gb102) (o := .cells #[.int .u8 a2_0, .int .u8 a2_1] 38 (0, 0)) (by (with_reducible repeat (first | refine qd_ ?_ _ | refine qf_ ?_ | refine qe_ ?_ _)); refine qo_ ?_ NB102_119.out _; (with_reducible repeat (first | refine qd_ ?_ _ | refine qf_ ?_ | refine qe_ ?_ _)); refine qo_ ?_ NB102_119.out _; (with_reducible repeat (first | refine qd_ ?_ _ | refine qf_ ?_ | refine qe_ ?_ _)); refine qo_ ?_ NB102_119.out _; (with_reducible repeat (first | refine qd_ ?_ _ | refine qf_ ?_ | refine qe_ ?_ _)); exact BK102.out) hb); have n3_ := Aside0.mk (ql_ (g := gb114) (o := .cells #[.int .i64 t110, .int .i64 t111, .string t112] 30 (0, 0)) (by (with_reducible repeat (first | refine qd_ ?_ _ | refine qf_ ?_ | refine qe_ ?_ _)); refine qo_ ?_ NB114_119.out _; (with_reducible repeat (first | refine qd_ ?_ _ | refine qf_ ?_ | refine qe_ ?_ _)); refine qo_ ?_ NB114_119.out _; (with_reducible repeat (first | refine qd_ ?_ _ | refine qf_ ?_ | refine qe_ ?_ _)); refine qo_ ?_ NB114_119.out _; (with_reducible repeat (first | refine qd_ ?_ _ | refine qf_ ?_ | refine qe_ ?_ _)); exact BK114.out) hb); have n4_ := Aside0.mk (ql_ (g := gb119) (o := .cells #[.int .i64 t115, .int .i64 t116, .string t117] 30 (0, 0)) (by (with_reducible repeat (first | refine qd_ ?_ _ | refine qf_ ?_ | refine qe_ ?_ _)); refine qr_ (cs := #[.int .i64 t115, .int .i64 t116, .string (⟨#[]⟩ : ByteArray)]) ?_ 2 _ rfl; (with_reducible repeat (first | refine qd_ ?_ _ | refine qf_ ?_ | refine qe_ ?_ _)); refine qr_ (cs := #[.int .i64 t115, .int .i64 0, .string (⟨#[]⟩ : ByteArray)]) ?_ 1 _ rfl; (with_reducible repeat (first | refine qd_ ?_ _ | refine qf_ ?_ | refine qe_ ?_ _)); refine qr_ (cs := #[.int .i64 0, .int .i64 0, .string (⟨#[]⟩ : ByteArray)]) ?_ 0 _ rfl; (with_reducible repeat (first | refine qd_ ?_ _ | refine qf_ ?_ | refine qe_ ?_ _)); exact BK119.out) hb); have n5_ := Aside0.mk (qk_ (by repeat (first | (with_reducible first | exact HB.out | apply qc_ | apply qa_ | apply qb_ | refine qg_ ?_ GE101.out | refine qg_ ?_ GE102.out | refine qg_ ?_ GE114.out | refine qg_ ?_ GE119.out) | exact HB.out)) hb); clear HO109; clear BK101; clear BK102; clear BK114; clear BK119; clear HB; have HO109 := n0_; have BK101 := n1_; have BK102 := n2_; have BK114 := n3_; have BK119 := n4_; have HB := n5_; clear n0_ n1_ n2_ n3_ n4_ n5_; (try clear hb); (try clear hb2); (try clear hk); (try clear hi)) | ((with_reducible refine qq_ (N := 13) rfl ?_); refine qp_ ?hg (N := 13) ?hd (cs := #[.int .i64 0, .int .i64 0, .string (⟨#[]⟩ : ByteArray)]) (t := 30) ?hr ?_; (case hd => rfl); (case hg => rfl); (case hr => first | (go_simp; done) | (go_simp; rfl)); intro gb124 hg w44 hbox hb; have n0_ := Aside0.mk (Kd.R_below (Kd.R_elderB (by (with_reducible repeat (first | apply Kd.qn_ | apply Kd.qm_ | apply Kd.R_drew)); exact HO109.out) gb124 (Nat.le_of_eq hg.symm)) hb); have n1_ := Aside0.mk (ql_ (g := gb101) (o := .cells #[.int .i64 a1_0, .int .i64 a1_1, .string a1_2] 30 (0, 0)) (by (with_reducible repeat (first | refine qd_ ?_ _ | refine qf_ ?_ | refine qe_ ?_ _)); exact BK101.out) hb); have n2_ := Aside0.mk (ql_ (g := gb102) (o := .cells #[.int .u8 a2_0, .int .u8 a2_1] 38 (0, 0)) (by (with_reducible repeat (first | refine qd_ ?_ _ | refine qf_ ?_ | refine qe_ ?_ _)); exact BK102.out) hb); have n3_ := Aside0.mk (ql_ (g := gb114) (o := .cells #[.int .i64 t110, .int .i64 t111, .string t112] 30 (0, 0)) (by (with_reducible repeat (first | refine qd_ ?_ _ | refine qf_ ?_ | refine qe_ ?_ _)); exact BK114.out) hb); have n4_ := Aside0.mk (ql_ (g := gb119) (o := .cells #[.int .i64 t115, .int .i64 t116, .string t117] 30 (0, 0)) (by (with_reducible repeat (first | refine qd_ ?_ _ | refine qf_ ?_ | refine qe_ ?_ _)); exact BK119.out) hb); have n5_ := Aside0.mk (qk_ (by repeat (first | (with_reducible first | exact HB.out | apply qc_ | apply qa_ | apply qb_ | refine qg_ ?_ GE101.out | refine qg_ ?_ GE102.out | refine qg_ ?_ GE114.out | refine qg_ ?_ GE119.out) | exact HB.out)) hb); have n6_ := Aside0.mk (hbox); have n7_ := Aside0.mk ((by rw [hg]; exact (qj_ (by repeat (first | (with_reducible first | exact HB.out | apply qc_ | apply qa_ | apply qb_ | refine qg_ ?_ GE101.out | refine qg_ ?_ GE102.out | refine qg_ ?_ GE114.out | refine qg_ ?_ GE119.out) | exact HB.out))) : w.heap.size ≤ gb124)); have n8_ := Aside0.mk ((by rw [hg]; exact (qj_ (by repeat (first | (with_reducible first | exact HB.out | apply qc_ | apply qa_ | apply qb_ | refine qg_ ?_ GE101.out | refine qg_ ?_ GE102.out | refine qg_ ?_ GE114.out | refine qg_ ?_ GE119.out) | exact HB.out))) : w.heap.size ≤ gb124)); have n9_ := Aside0.mk ((by rw [hg]; exact Nat.ne_of_lt (blk_lt (g := gb101) (o := .cells #[.int .i64 a1_0, .int .i64 a1_1, .string a1_2] 30 (0, 0)) (by (with_reducible repeat (first | refine qd_ ?_ _ | refine qf_ ?_ | refine qe_ ?_ _)); exact BK101.out)) : gb101 ≠ gb124)); have n10_ := Aside0.mk ((by rw [hg]; exact Nat.ne_of_gt (blk_lt (g := gb101) (o := .cells #[.int .i64 a1_0, .int .i64 a1_1, .string a1_2] 30 (0, 0)) (by (with_reducible repeat (first | refine qd_ ?_ _ | refine qf_ ?_ | refine qe_ ?_ _)); exact BK101.out)) : gb124 ≠ gb101)); have n11_ := Aside0.mk ((by rw [hg]; exact Nat.ne_of_lt (blk_lt (g := gb102) (o := .cells #[.int .u8 a2_0, .int .u8 a2_1] 38 (0, 0)) (by (with_reducible repeat (first | refine qd_ ?_ _ | refine qf_ ?_ | refine qe_ ?_ _)); exact BK102.out)) : gb102 ≠ gb124)); have n12_ := Aside0.mk ((by rw [hg]; exact Nat.ne_of_gt (blk_lt (g := gb102) (o := .cells #[.int .u8 a2_0, .int .u8 a2_1] 38 (0, 0)) (by (with_reducible repeat (first | refine qd_ ?_ _ | refine qf_ ?_ | refine qe_ ?_ _)); exact BK102.out)) : gb124 ≠ gb102)); have n13_ := Aside0.mk ((by rw [hg]; exact Nat.ne_of_lt (blk_lt (g := gb114) (o := .cells #[.int .i64 t110, .int .i64 t111, .string t112] 30 (0, 0)) (by (with_reducible repeat (first | refine qd_ ?_ _ | refine qf_ ?_ | refine qe_ ?_ _)); exact BK114.out)) : gb114 ≠ gb124)); have n14_ := Aside0.mk ((by rw [hg]; exact Nat.ne_of_gt (blk_lt (g := gb114) (o := .cells #[.int .i64 t110, .int .i64 t111, .string t112] 30 (0, 0)) (by (with_reducible repeat (first | refine qd_ ?_ _ | refine qf_ ?_ | refine qe_ ?_ _)); exact BK114.out)) : gb124 ≠ gb114)); have n15_ := Aside0.mk ((by rw [hg]; exact Nat.ne_of_lt (blk_lt (g := gb119) (o := .cells #[.int .i64 t115, .int .i64 t116, .string t117] 30 (0, 0)) (by (with_reducible repeat (first | refine qd_ ?_ _ | refine qf_ ?_ | refine qe_ ?_ _)); exact BK119.out)) : gb119 ≠ gb124)); have n16_ := Aside0.mk ((by rw [hg]; exact Nat.ne_of_gt (blk_lt (g := gb119) (o := .cells #[.int .i64 t115, .int .i64 t116, .string t117] 30 (0, 0)) (by (with_reducible repeat (first | refine qd_ ?_ _ | refine qf_ ?_ | refine qe_ ?_ _)); exact BK119.out)) : gb124 ≠ gb119)); clear HO109; clear BK101; clear BK102; clear BK114; clear BK119; clear HB; have HO109 := n0_; have BK101 := n1_; have BK102 := n2_; have BK114 := n3_; have BK119 := n4_; have HB := n5_; have BK124 := n6_; have GW124 := n7_; have GE124 := n8_; have NB101_124 := n9_; have NB124_101 := n10_; have NB102_124 := n11_; have NB124_102 := n12_; have NB114_124 := n13_; have NB124_114 := n14_; have NB119_124 := n15_; have NB124_119 := n16_; clear n0_ n1_ n2_ n3_ n4_ n5_ n6_ n7_ n8_ n9_ n10_ n11_ n12_ n13_ n14_ n15_ n16_; clear hb hbox hg; have hnb45 := NB124_101.out; have hnc45 := NB101_124.out; have hnb46 := NB124_102.out; have hnc46 := NB102_124.out; have hnb47 := NB124_114.out; have hnc47 := NB114_124.out; have hnb48 := NB124_119.out; have hnc48 := NB119_124.out; have hcz49_0 : w44.cell? ⟨gb124, 0, none⟩ = some (.int .i64 0) := (qi_ BK124.out 0).trans rfl; have hcz49_1 : w44.cell? ⟨gb124, 1, none⟩ = some (.int .i64 0) := (qi_ BK124.out 1).trans rfl; have hcz49_2 : w44.cell? ⟨gb124, 2, none⟩ = some (.string (⟨#[]⟩ : ByteArray)) := (qi_ BK124.out 2).trans rfl; have hfz49_0 := qh_ BK124.out 0; have hfz49_1 := qh_ BK124.out 1; have hfz49_2 := qh_ BK124.out 2)); go_upto_region 10 with (first | (go_at_call 25; (with_reducible refine (entry_Put.calls _ _ l0 a1_0 a1_1 a1_2 t107 _ ?side1 ?side2 A21.out).mono ?_); (case side1 => repeat (first | exact (Kd.C_below HR0.out HB.out) | (with_reducible refine Kd.qt_ ?_ _) | (with_reducible refine Kd.qs_ ?_ _) | (with_reducible refine Kd.C_drew ?_))); (case side2 => exact HC0.out); rintro e w28 ⟨v108, rfl, ho0, hb⟩; have n0_ := Aside0.mk (Kd.R_lower (Kd.R_newB ho0 (g := gb101) (o := .cells #[.int .i64 a1_0, .int .i64 a1_1, .string a1_2] 30 (0, 0)) (by (with_reducible repeat (first | refine qd_ ?_ _ | refine qf_ ?_ | refine qe_ ?_ _)); exact BK101.out)) (qj_ (by repeat (first | (with_reducible first | exact HB.out | apply qc_ | apply qa_ | apply qb_ | refine qg_ ?_ GE101.out | refine qg_ ?_ GE102.out) | exact HB.out)))); have n1_ := Aside0.mk (ql_ (g := gb101) (o := .cells #[.int .i64 a1_0, .int .i64 a1_1, .string a1_2] 30 (0, 0)) (by (with_reducible repeat (first | refine qd_ ?_ _ | refine qf_ ?_ | refine qe_ ?_ _)); exact BK101.out) hb); have n2_ := Aside0.mk (ql_ (g := gb102) (o := .cells #[.int .u8 a2_0, .int .u8 a2_1] 38 (0, 0)) (by (with_reducible repeat (first | refine qd_ ?_ _ | refine qf_ ?_ | refine qe_ ?_ _)); exact BK102.out) hb); have n3_ := Aside0.mk (qk_ (by repeat (first | (with_reducible first | exact HB.out | apply qc_ | apply qa_ | apply qb_ | refine qg_ ?_ GE101.out | refine qg_ ?_ GE102.out) | exact HB.out)) hb); clear BK101; clear BK102; clear HB; have HO109 := n0_; have BK101 := n1_; have BK102 := n2_; have HB := n3_; clear n0_ n1_ n2_ n3_; (try clear hb); (try clear hb2); (try clear hk); (try clear hi); (try clear ho0); have hcz29_0 : w28.cell? ⟨gb101, 0, none⟩ = some (.int .i64 a1_0) := (qi_ BK101.out 0).trans rfl; have hcz29_1 : w28.cell? ⟨gb101, 1, none⟩ = some (.int .i64 a1_1) := (qi_ BK101.out 1).trans rfl; have hcz29_2 : w28.cell? ⟨gb101, 2, none⟩ = some (.string a1_2) := (qi_ BK101.out 2).trans rfl; have hfz29_0 := qh_ BK101.out 0; have hfz29_1 := qh_ BK101.out 1; have hfz29_2 := qh_ BK101.out 2; obtain ⟨Ao30, co30, eo30⟩ := Kd.R_slice HO109.out; subst eo30) | (go_at_call 16; (with_reducible refine (entry_Get.calls _ _ t107 a1_0 t110 t111 t112 t113 _ ?side1 ?side2 A22.out).mono ?_); (case side1 => repeat (first | exact (Kd.R_reads' HO109.out).2.2 | (with_reducible refine Kd.qt_ ?_ _) | (with_reducible refine Kd.qs_ ?_ _) | (with_reducible refine Kd.C_drew ?_))); (case side2 => exact (Kd.R_reads' HO109.out).2.1); rintro e w31 ⟨rfl, hb⟩; have n0_ := Aside0.mk (Kd.R_below (by (with_reducible repeat (first | apply Kd.qn_ | apply Kd.qm_ | apply Kd.R_drew)); exact HO109.out) hb); have n1_ := Aside0.mk (ql_ (g := gb101) (o := .cells #[.int .i64 a1_0, .int .i64 a1_1, .string a1_2] 30 (0, 0)) (by (with_reducible repeat (first | refine qd_ ?_ _ | refine qf_ ?_ | refine qe_ ?_ _)); exact BK101.out) hb); have n2_ := Aside0.mk (ql_ (g := gb102) (o := .cells #[.int .u8 a2_0, .int .u8 a2_1] 38 (0, 0)) (by (with_reducible repeat (first | refine qd_ ?_ _ | refine qf_ ?_ | refine qe_ ?_ _)); exact BK102.out) hb); have n3_ := Aside0.mk (qk_ (by repeat (first | (with_reducible first | exact HB.out | apply qc_ | apply qa_ | apply qb_ | refine qg_ ?_ GE101.out | refine qg_ ?_ GE102.out) | exact HB.out)) hb); clear HO109; clear BK101; clear BK102; clear HB; have HO109 := n0_; have BK101 := n1_; have BK102 := n2_; have HB := n3_; clear n0_ n1_ n2_ n3_; (try clear hb); (try clear hb2); (try clear hk); (try clear hi)) | ((with_reducible refine qq_ (N := 8) rfl ?_); refine qp_ ?hg (N := 8) ?hd (cs := #[.int .i64 0, .int .i64 0, .string (⟨#[]⟩ : ByteArray)]) (t := 30) ?hr ?_; (case hd => rfl); (case hg => rfl); (case hr => first | (go_simp; done) | (go_simp; rfl)); intro gb114 hg w32 hbox hb; have n0_ := Aside0.mk (Kd.R_below (Kd.R_elderB (by (with_reducible repeat (first | apply Kd.qn_ | apply Kd.qm_ | apply Kd.R_drew)); exact HO109.out) gb114 (Nat.le_of_eq hg.symm)) hb); have n1_ := Aside0.mk (ql_ (g := gb101) (o := .cells #[.int .i64 a1_0, .int .i64 a1_1, .string a1_2] 30 (0, 0)) (by (with_reducible repeat (first | refine qd_ ?_ _ | refine qf_ ?_ | refine qe_ ?_ _)); exact BK101.out) hb); have n2_ := Aside0.mk (ql_ (g := gb102) (o := .cells #[.int .u8 a2_0, .int .u8 a2_1] 38 (0, 0)) (by (with_reducible repeat (first | refine qd_ ?_ _ | refine qf_ ?_ | refine qe_ ?_ _)); exact BK102.out) hb); have n3_ := Aside0.mk (qk_ (by repeat (first | (with_reducible first | exact HB.out | apply qc_ | apply qa_ | apply qb_ | refine qg_ ?_ GE101.out | refine qg_ ?_ GE102.out) | exact HB.out)) hb); have n4_ := Aside0.mk (hbox); have n5_ := Aside0.mk ((by rw [hg]; exact (qj_ (by repeat (first | (with_reducible first | exact HB.out | apply qc_ | apply qa_ | apply qb_ | refine qg_ ?_ GE101.out | refine qg_ ?_ GE102.out) | exact HB.out))) : w.heap.size ≤ gb114)); have n6_ := Aside0.mk ((by rw [hg]; exact (qj_ (by repeat (first | (with_reducible first | exact HB.out | apply qc_ | apply qa_ | apply qb_ | refine qg_ ?_ GE101.out | refine qg_ ?_ GE102.out) | exact HB.out))) : w.heap.size ≤ gb114)); have n7_ := Aside0.mk ((by rw [hg]; exact Nat.ne_of_lt (blk_lt (g := gb101) (o := .cells #[.int .i64 a1_0, .int .i64 a1_1, .string a1_2] 30 (0, 0)) (by (with_reducible repeat (first | refine qd_ ?_ _ | refine qf_ ?_ | refine qe_ ?_ _)); exact BK101.out)) : gb101 ≠ gb114)); have n8_ := Aside0.mk ((by rw [hg]; exact Nat.ne_of_gt (blk_lt (g := gb101) (o := .cells #[.int .i64 a1_0, .int .i64 a1_1, .string a1_2] 30 (0, 0)) (by (with_reducible repeat (first | refine qd_ ?_ _ | refine qf_ ?_ | refine qe_ ?_ _)); exact BK101.out)) : gb114 ≠ gb101)); have n9_ := Aside0.mk ((by rw [hg]; exact Nat.ne_of_lt (blk_lt (g := gb102) (o := .cells #[.int .u8 a2_0, .int .u8 a2_1] 38 (0, 0)) (by (with_reducible repeat (first | refine qd_ ?_ _ | refine qf_ ?_ | refine qe_ ?_ _)); exact BK102.out)) : gb102 ≠ gb114)); have n10_ := Aside0.mk ((by rw [hg]; exact Nat.ne_of_gt (blk_lt (g := gb102) (o := .cells #[.int .u8 a2_0, .int .u8 a2_1] 38 (0, 0)) (by (with_reducible repeat (first | refine qd_ ?_ _ | refine qf_ ?_ | refine qe_ ?_ _)); exact BK102.out)) : gb114 ≠ gb102)); clear HO109; clear BK101; clear BK102; clear HB; have HO109 := n0_; have BK101 := n1_; have BK102 := n2_; have HB := n3_; have BK114 := n4_; have GW114 := n5_; have GE114 := n6_; have NB101_114 := n7_; have NB114_101 := n8_; have NB102_114 := n9_; have NB114_102 := n10_; clear n0_ n1_ n2_ n3_ n4_ n5_ n6_ n7_ n8_ n9_ n10_; clear hb hbox hg; have hnb33 := NB114_101.out; have hnc33 := NB101_114.out; have hnb34 := NB114_102.out; have hnc34 := NB102_114.out; have hcz35_0 : w32.cell? ⟨gb114, 0, none⟩ = some (.int .i64 0) := (qi_ BK114.out 0).trans rfl; have hcz35_1 : w32.cell? ⟨gb114, 1, none⟩ = some (.int .i64 0) := (qi_ BK114.out 1).trans rfl; have hcz35_2 : w32.cell? ⟨gb114, 2, none⟩ = some (.string (⟨#[]⟩ : ByteArray)) := (qi_ BK114.out 2).trans rfl; have hfz35_0 := qh_ BK114.out 0; have hfz35_1 := qh_ BK114.out 1; have hfz35_2 := qh_ BK114.out 2; have hcz36_0 : w32.cell? ⟨gb102, 0, none⟩ = some (.int .u8 a2_0) := (qi_ BK102.out 0).trans rfl; have hcz36_1 : w32.cell? ⟨gb102, 1, none⟩ = some (.int .u8 a2_1) := (qi_ BK102.out 1).trans rfl; have hfz36_0 := qh_ BK102.out 0; have hfz36_1 := qh_ BK102.out 1) | (go_at_call 16; (with_reducible refine (entry_Get.calls _ _ l0 (Int.tmod (wrap64 (a2_0)) 12) t115 t116 t117 t118 _ ?side1 ?side2 A23.out).mono ?_); (case side1 => exact Kd.C_below HR0.out (by repeat (first | (with_reducible first | exact HB.out | apply qc_ | apply qa_ | apply qb_ | refine qg_ ?_ GE101.out | refine qg_ ?_ GE102.out | refine qg_ ?_ GE114.out) | exact HB.out))); (case side2 => exact HC0.out); rintro e w37 ⟨rfl, hb⟩; have n0_ := Aside0.mk (Kd.R_below (by (with_reducible repeat (first | apply Kd.qn_ | apply Kd.qm_ | apply Kd.R_drew)); exact (Kd.R_mono (Kd.R_far (p := ⟨gb114, 2, none⟩) (Kd.R_far (p := ⟨gb114, 1, none⟩) (Kd.R_far (p := ⟨gb114, 0, none⟩) (Kd.R_mono HO109.out (fun k_ hk => (⟨hk, hk.2⟩ : _ ∧ k_ ≠ gb114))) (fun _ hk => hk.2) (.int .i64 t110)) (fun _ hk => hk.2) (.int .i64 t111)) (fun _ hk => hk.2) (.string t112)) (fun _ h_ => h_.1))) hb); have n1_ := Aside0.mk (ql_ (g := gb101) (o := .cells #[.int .i64 a1_0, .int .i64 a1_1, .string a1_2] 30 (0, 0)) (by (with_reducible repeat (first | refine qd_ ?_ _ | refine qf_ ?_ | refine qe_ ?_ _)); refine qo_ ?_ NB101_114.out _; (with_reducible repeat (first | refine qd_ ?_ _ | refine qf_ ?_ | refine qe_ ?_ _)); refine qo_ ?_ NB101_114.out _; (with_reducible repeat (first | refine qd_ ?_ _ | refine qf_ ?_ | refine qe_ ?_ _)); refine qo_ ?_ NB101_114.out _; (with_reducible repeat (first | refine qd_ ?_ _ | refine qf_ ?_ | refine qe_ ?_ _)); exact BK101.out) hb); have n2_ := Aside0.mk (ql_ (g := gb102) (o := .cells #[.int .u8 a2_0, .int .u8 a2_1] 38 (0, 0)) (by (with_reducible repeat (first | refine qd_ ?_ _ | refine qf_ ?_ | refine qe_ ?_ _)); refine qo_ ?_ NB102_114.out _; (with_reducible repeat (first | refine qd_ ?_ _ | refine qf_ ?_ | refine qe_ ?_ _)); refine qo_ ?_ NB102_114.out _; (with_reducible repeat (first | refine qd_ ?_ _ | refine qf_ ?_ | refine qe_ ?_ _)); refine qo_ ?_ NB102_114.out _; (with_reducible repeat (first | refine qd_ ?_ _ | refine qf_ ?_ | refine qe_ ?_ _)); exact BK102.out) hb); have n3_ := Aside0.mk (ql_ (g := gb114) (o := .cells #[.int .i64 t110, .int .i64 t111, .string t112] 30 (0, 0)) (by (with_reducible repeat (first | refine qd_ ?_ _ | refine qf_ ?_ | refine qe_ ?_ _)); refine qr_ (cs := #[.int .i64 t110, .int .i64 t111, .string (⟨#[]⟩ : ByteArray)]) ?_ 2 _ rfl; (with_reducible repeat (first | refine qd_ ?_ _ | refine qf_ ?_ | refine qe_ ?_ _)); refine qr_ (cs := #[.int .i64 t110, .int .i64 0, .string (⟨#[]⟩ : ByteArray)]) ?_ 1 _ rfl; (with_reducible repeat (first | refine qd_ ?_ _ | refine qf_ ?_ | refine qe_ ?_ _)); refine qr_ (cs := #[.int .i64 0, .int .i64 0, .string (⟨#[]⟩ : ByteArray)]) ?_ 0 _ rfl; (with_reducible repeat (first | refine qd_ ?_ _ | refine qf_ ?_ | refine qe_ ?_ _)); exact BK114.out) hb); have n4_ := Aside0.mk (qk_ (by repeat (first | (with_reducible first | exact HB.out | apply qc_ | apply qa_ | apply qb_ | refine qg_ ?_ GE101.out | refine qg_ ?_ GE102.out | refine qg_ ?_ GE114.out) | exact HB.out)) hb); clear HO109; clear BK101; clear BK102; clear BK114; clear HB; have HO109 := n0_; have BK101 := n1_; have BK102 := n2_; have BK114 := n3_; have HB := n4_; clear n0_ n1_ n2_ n3_ n4_; (try clear hb); (try clear hb2); (try clear hk); (try clear hi)) | ((with_reducible refine qq_ (N := 11) rfl ?_); refine qp_ ?hg (N := 11) ?hd (cs := #[.int .i64 0, .int .i64 0, .string (⟨#[]⟩ : ByteArray)]) (t := 30) ?hr ?_; (case hd => rfl); (case hg => rfl); (case hr => first | (go_simp; done) | (go_simp; rfl)); intro gb119 hg w38 hbox hb; have n0_ := Aside0.mk (Kd.R_below (Kd.R_elderB (by (with_reducible repeat (first | apply Kd.qn_ | apply Kd.qm_ | apply Kd.R_drew)); exact HO109.out) gb119 (Nat.le_of_eq hg.symm)) hb); have n1_ := Aside0.mk (ql_ (g := gb101) (o := .cells #[.int .i64 a1_0, .int .i64 a1_1, .string a1_2] 30 (0, 0)) (by (with_reducible repeat (first | refine qd_ ?_ _ | refine qf_ ?_ | refine qe_ ?_ _)); exact BK101.out) hb); have n2_ := Aside0.mk (ql_ (g := gb102) (o := .cells #[.int .u8 a2_0, .int .u8 a2_1] 38 (0, 0)) (by (with_reducible repeat (first | refine qd_ ?_ _ | refine qf_ ?_ | refine qe_ ?_ _)); exact BK102.out) hb); have n3_ := Aside0.mk (ql_ (g := gb114) (o := .cells #[.int .i64 t110, .int .i64 t111, .string t112] 30 (0, 0)) (by (with_reducible repeat (first | refine qd_ ?_ _ | refine qf_ ?_ | refine qe_ ?_ _)); exact BK114.out) hb); have n4_ := Aside0.mk (qk_ (by repeat (first | (with_reducible first | exact HB.out | apply qc_ | apply qa_ | apply qb_ | refine qg_ ?_ GE101.out | refine qg_ ?_ GE102.out | refine qg_ ?_ GE114.out) | exact HB.out)) hb); have n5_ := Aside0.mk (hbox); have n6_ := Aside0.mk ((by rw [hg]; exact (qj_ (by repeat (first | (with_reducible first | exact HB.out | apply qc_ | apply qa_ | apply qb_ | refine qg_ ?_ GE101.out | refine qg_ ?_ GE102.out | refine qg_ ?_ GE114.out) | exact HB.out))) : w.heap.size ≤ gb119)); have n7_ := Aside0.mk ((by rw [hg]; exact (qj_ (by repeat (first | (with_reducible first | exact HB.out | apply qc_ | apply qa_ | apply qb_ | refine qg_ ?_ GE101.out | refine qg_ ?_ GE102.out | refine qg_ ?_ GE114.out) | exact HB.out))) : w.heap.size ≤ gb119)); have n8_ := Aside0.mk ((by rw [hg]; exact Nat.ne_of_lt (blk_lt (g := gb101) (o := .cells #[.int .i64 a1_0, .int .i64 a1_1, .string a1_2] 30 (0, 0)) (by (with_reducible repeat (first | refine qd_ ?_ _ | refine qf_ ?_ | refine qe_ ?_ _)); exact BK101.out)) : gb101 ≠ gb119)); have n9_ := Aside0.mk ((by rw [hg]; exact Nat.ne_of_gt (blk_lt (g := gb101) (o := .cells #[.int .i64 a1_0, .int .i64 a1_1, .string a1_2] 30 (0, 0)) (by (with_reducible repeat (first | refine qd_ ?_ _ | refine qf_ ?_ | refine qe_ ?_ _)); exact BK101.out)) : gb119 ≠ gb101)); have n10_ := Aside0.mk ((by rw [hg]; exact Nat.ne_of_lt (blk_lt (g := gb102) (o := .cells #[.int .u8 a2_0, .int .u8 a2_1] 38 (0, 0)) (by (with_reducible repeat (first | refine qd_ ?_ _ | refine qf_ ?_ | refine qe_ ?_ _)); exact BK102.out)) : gb102 ≠ gb119)); have n11_ := Aside0.mk ((by rw [hg]; exact Nat.ne_of_gt (blk_lt (g := gb102) (o := .cells #[.int .u8 a2_0, .int .u8 a2_1] 38 (0, 0)) (by (with_reducible repeat (first | refine qd_ ?_ _ | refine qf_ ?_ | refine qe_ ?_ _)); exact BK102.out)) : gb119 ≠ gb102)); have n12_ := Aside0.mk ((by rw [hg]; exact Nat.ne_of_lt (blk_lt (g := gb114) (o := .cells #[.int .i64 t110, .int .i64 t111, .string t112] 30 (0, 0)) (by (with_reducible repeat (first | refine qd_ ?_ _ | refine qf_ ?_ | refine qe_ ?_ _)); exact BK114.out)) : gb114 ≠ gb119)); have n13_ := Aside0.mk ((by rw [hg]; exact Nat.ne_of_gt (blk_lt (g := gb114) (o := .cells #[.int .i64 t110, .int .i64 t111, .string t112] 30 (0, 0)) (by (with_reducible repeat (first | refine qd_ ?_ _ | refine qf_ ?_ | refine qe_ ?_ _)); exact BK114.out)) : gb119 ≠ gb114)); clear HO109; clear BK101; clear BK102; clear BK114; clear HB; have HO109 := n0_; have BK101 := n1_; have BK102 := n2_; have BK114 := n3_; have HB := n4_; have BK119 := n5_; have GW119 := n6_; have GE119 := n7_; have NB101_119 := n8_; have NB119_101 := n9_; have NB102_119 := n10_; have NB119_102 := n11_; have NB114_119 := n12_; have NB119_114 := n13_; clear n0_ n1_ n2_ n3_ n4_ n5_ n6_ n7_ n8_ n9_ n10_ n11_ n12_ n13_; clear hb hbox hg; have hnb39 := NB119_101.out; have hnc39 := NB101_119.out; have hnb40 := NB119_102.out; have hnc40 := NB102_119.out; have hnb41 := NB119_114.out; have hnc41 := NB114_119.out; have hcz42_0 : w38.cell? ⟨gb119, 0, none⟩ = some (.int .i64 0) := (qi_ BK119.out 0).trans rfl; have hcz42_1 : w38.cell? ⟨gb119, 1, none⟩ = some (.int .i64 0) := (qi_ BK119.out 1).trans rfl; have hcz42_2 : w38.cell? ⟨gb119, 2, none⟩ = some (.string (⟨#[]⟩ : ByteArray)) := (qi_ BK119.out 2).trans rfl; have hfz42_0 := qh_ BK119.out 0; have hfz42_1 := qh_ BK119.out 1; have hfz42_2 := qh_ BK119.out 2) | (go_at_call 16; (with_reducible refine (entry_Get.calls _ _ t107 (Int.tmod (wrap64 (a2_0)) 12) t120 t121 t122 t123 _ ?side1 ?side2 A24.out).mono ?_); (case side1 => refine (Kd.R_reads' (e := 30) (base := w.heap.size) (ok := fun k_ => (((True ∧ k_ ≠ gb101) ∧ k_ ≠ gb114) ∧ k_ ≠ gb119)) (n := t107.length) (c := co30) ?_).2.2; exact (by (with_reducible repeat (first | apply Kd.qn_ | apply Kd.qm_ | apply Kd.R_drew)); exact (Kd.R_mono (Kd.R_far (p := ⟨gb119, 2, none⟩) (Kd.R_far (p := ⟨gb119, 1, none⟩) (Kd.R_far (p := ⟨gb119, 0, none⟩) (Kd.R_mono HO109.out (fun k_ hk => (⟨hk, hk.2⟩ : _ ∧ k_ ≠ gb119))) (fun _ hk => hk.2) (.int .i64 t115)) (fun _ hk => hk.2) (.int .i64 t116)) (fun _ hk => hk.2) (.string t117)) (fun _ h_ => h_.1)))); (case side2 => exact (Kd.R_reads' HO109.out).2.1); rintro e w43 ⟨rfl, hb⟩; have n0_ := Aside0.mk (Kd.R_below (by (with_reducible repeat (first | apply Kd.qn_ | apply Kd.qm_ | apply Kd.R_drew)); exact (Kd.R_mono (Kd.R_far (p := ⟨gb119, 2, none⟩) (Kd.R_far (p := ⟨gb119, 1, none⟩) (Kd.R_far (p := ⟨gb119, 0, none⟩) (Kd.R_mono HO109.out (fun k_ hk => (⟨hk, hk.2⟩ : _ ∧ k_ ≠ gb119))) (fun _ hk => hk.2) (.int .i64 t115)) (fun _ hk => hk.2) (.int .i64 t116)) (fun _ hk => hk.2) (.string t117)) (fun _ h_ => h_.1))) hb); have n1_ := Aside0.mk (ql_ (g := gb101) (o := .cells #[.int .i64 a1_0, .int .i64 a1_1, .string a1_2] 30 (0, 0)) (by (with_reducible repeat (first | refine qd_ ?_ _ | refine qf_ ?_ | refine qe_ ?_ _)); refine qo_ ?_ NB101_119.out _; (with_reducible repeat (first | refine qd_ ?_ _ | refine qf_ ?_ | refine qe_ ?_ _)); refine qo_ ?_ NB101_119.out _; (with_reducible repeat (first | refine qd_ ?_ _ | refine qf_ ?_ | refine qe_ ?_ _)); refine qo_ ?_ NB101_119.out _; (with_reducible repeat (first | refine qd_ ?_ _ | refine qf_ ?_ | refine qe_ ?_ _)); exact BK101.out) hb); have n2_ := Aside0.mk (ql_ (g := gb102) (o := .cells #[.int .u8 a2_0, .int .u8 a2_1] 38 (0, 0)) (by (with_reducible repeat (first | refine qd_ ?_ _ | refine qf_ ?_ | refine qe_ ?_ _)); refine qo_ ?_ NB102_119.out _; (with_reducible repeat (first | refine qd_ ?_ _ | refine qf_ ?_ | refine qe_ ?_ _)); refine qo_ ?_ NB102_119.out _; (with_reducible repeat (first | refine qd_ ?_ _ | refine qf_ ?_ | refine qe_ ?_ _)); refine qo_ ?_ NB102_119.out _; (with_reducible repeat (first | refine qd_ ?_ _ | refine qf_ ?_ | refine qe_ ?_ _)); exact BK102.out) hb); have n3_ := Aside0.mk (ql_ (g := gb114) (o := .cells #[.int .i64 t110, .int .i64 t111, .string t112] 30 (0, 0)) (by (with_reducible repeat (first | refine qd_ ?_ _ | refine qf_ ?_ | refine qe_ ?_ _)); refine qo_ ?_ NB114_119.out _; (with_reducible repeat (first | refine qd_ ?_ _ | refine qf_ ?_ | refine qe_ ?_ _)); refine qo_ ?_ NB114_119.out _; (with_reducible repeat (first | refine qd_ ?_ _ | refine qf_ ?_ | refine qe_ ?_ _)); refine qo_ ?_ NB114_119.out _; (with_reducible repeat (first | refine qd_ ?_ _ | refine qf_ ?_ | refine qe_ ?_ _)); exact BK114.out) hb); have n4_ := Aside0.mk (ql_ (g := gb119) (o := .cells #[.int .i64 t115, .int .i64 t116, .string t117] 30 (0, 0)) (by (with_reducible repeat (first | refine qd_ ?_ _ | refine qf_ ?_ | refine qe_ ?_ _)); refine qr_ (cs := #[.int .i64 t115, .int .i64 t116, .string (⟨#[]⟩ : ByteArray)]) ?_ 2 _ rfl; (with_reducible repeat (first | refine qd_ ?_ _ | refine qf_ ?_ | refine qe_ ?_ _)); refine qr_ (cs := #[.int .i64 t115, .int .i64 0, .string (⟨#[]⟩ : ByteArray)]) ?_ 1 _ rfl; (with_reducible repeat (first | refine qd_ ?_ _ | refine qf_ ?_ | refine qe_ ?_ _)); refine qr_ (cs := #[.int .i64 0, .int .i64 0, .string (⟨#[]⟩ : ByteArray)]) ?_ 0 _ rfl; (with_reducible repeat (first | refine qd_ ?_ _ | refine qf_ ?_ | refine qe_ ?_ _)); exact BK119.out) hb); have n5_ := Aside0.mk (qk_ (by repeat (first | (with_reducible first | exact HB.out | apply qc_ | apply qa_ | apply qb_ | refine qg_ ?_ GE101.out | refine qg_ ?_ GE102.out | refine qg_ ?_ GE114.out | refine qg_ ?_ GE119.out) | exact HB.out)) hb); clear HO109; clear BK101; clear BK102; clear BK114; clear BK119; clear HB; have HO109 := n0_; have BK101 := n1_; have BK102 := n2_; have BK114 := n3_; have BK119 := n4_; have HB := n5_; clear n0_ n1_ n2_ n3_ n4_ n5_; (try clear hb); (try clear hb2); (try clear hk); (try clear hi)) | ((with_reducible refine qq_ (N := 13) rfl ?_); refine qp_ ?hg (N := 13) ?hd (cs := #[.int .i64 0, .int .i64 0, .string (⟨#[]⟩ : ByteArray)]) (t := 30) ?hr ?_; (case hd => rfl); (case hg => rfl); (case hr => first | (go_simp; done) | (go_simp; rfl)); intro gb124 hg w44 hbox hb; have n0_ := Aside0.mk (Kd.R_below (Kd.R_elderB (by (with_reducible repeat (first | apply Kd.qn_ | apply Kd.qm_ | apply Kd.R_drew)); exact HO109.out) gb124 (Nat.le_of_eq hg.symm)) hb); have n1_ := Aside0.mk (ql_ (g := gb101) (o := .cells #[.int .i64 a1_0, .int .i64 a1_1, .string a1_2] 30 (0, 0)) (by (with_reducible repeat (first | refine qd_ ?_ _ | refine qf_ ?_ | refine qe_ ?_ _)); exact BK101.out) hb); have n2_ := Aside0.mk (ql_ (g := gb102) (o := .cells #[.int .u8 a2_0, .int .u8 a2_1] 38 (0, 0)) (by (with_reducible repeat (first | refine qd_ ?_ _ | refine qf_ ?_ | refine qe_ ?_ _)); exact BK102.out) hb); have n3_ := Aside0.mk (ql_ (g := gb114) (o := .cells #[.int .i64 t110, .int .i64 t111, .string t112] 30 (0, 0)) (by (with_reducible repeat (first | refine qd_ ?_ _ | refine qf_ ?_ | refine qe_ ?_ _)); exact BK114.out) hb); have n4_ := Aside0.mk (ql_ (g := gb119) (o := .cells #[.int .i64 t115, .int .i64 t116, .string t117] 30 (0, 0)) (by (with_reducible repeat (first | refine qd_ ?_ _ | refine qf_ ?_ | refine qe_ ?_ _)); exact BK119.out) hb); have n5_ := Aside0.mk (qk_ (by repeat (first | (with_reducible first | exact HB.out | apply qc_ | apply qa_ | apply qb_ | refine qg_ ?_ GE101.out | refine qg_ ?_ GE102.out | refine qg_ ?_ GE114.out | refine qg_ ?_ GE119.out) | exact HB.out)) hb); have n6_ := Aside0.mk (hbox); have n7_ := Aside0.mk ((by rw [hg]; exact (qj_ (by repeat (first | (with_reducible first | exact HB.out | apply qc_ | apply qa_ | apply qb_ | refine qg_ ?_ GE101.out | refine qg_ ?_ GE102.out | refine qg_ ?_ GE114.out | refine qg_ ?_ GE119.out) | exact HB.out))) : w.heap.size ≤ gb124)); have n8_ := Aside0.mk ((by rw [hg]; exact (qj_ (by repeat (first | (with_reducible first | exact HB.out | apply qc_ | apply qa_ | apply qb_ | refine qg_ ?_ GE101.out | refine qg_ ?_ GE102.out | refine qg_ ?_ GE114.out | refine qg_ ?_ GE119.out) | exact HB.out))) : w.heap.size ≤ gb124)); have n9_ := Aside0.mk ((by rw [hg]; exact Nat.ne_of_lt (blk_lt (g := gb101) (o := .cells #[.int .i64 a1_0, .int .i64 a1_1, .string a1_2] 30 (0, 0)) (by (with_reducible repeat (first | refine qd_ ?_ _ | refine qf_ ?_ | refine qe_ ?_ _)); exact BK101.out)) : gb101 ≠ gb124)); have n10_ := Aside0.mk ((by rw [hg]; exact Nat.ne_of_gt (blk_lt (g := gb101) (o := .cells #[.int .i64 a1_0, .int .i64 a1_1, .string a1_2] 30 (0, 0)) (by (with_reducible repeat (first | refine qd_ ?_ _ | refine qf_ ?_ | refine qe_ ?_ _)); exact BK101.out)) : gb124 ≠ gb101)); have n11_ := Aside0.mk ((by rw [hg]; exact Nat.ne_of_lt (blk_lt (g := gb102) (o := .cells #[.int .u8 a2_0, .int .u8 a2_1] 38 (0, 0)) (by (with_reducible repeat (first | refine qd_ ?_ _ | refine qf_ ?_ | refine qe_ ?_ _)); exact BK102.out)) : gb102 ≠ gb124)); have n12_ := Aside0.mk ((by rw [hg]; exact Nat.ne_of_gt (blk_lt (g := gb102) (o := .cells #[.int .u8 a2_0, .int .u8 a2_1] 38 (0, 0)) (by (with_reducible repeat (first | refine qd_ ?_ _ | refine qf_ ?_ | refine qe_ ?_ _)); exact BK102.out)) : gb124 ≠ gb102)); have n13_ := Aside0.mk ((by rw [hg]; exact Nat.ne_of_lt (blk_lt (g := gb114) (o := .cells #[.int .i64 t110, .int .i64 t111, .string t112] 30 (0, 0)) (by (with_reducible repeat (first | refine qd_ ?_ _ | refine qf_ ?_ | refine qe_ ?_ _)); exact BK114.out)) : gb114 ≠ gb124)); have n14_ := Aside0.mk ((by rw [hg]; exact Nat.ne_of_gt (blk_lt (g := gb114) (o := .cells #[.int .i64 t110, .int .i64 t111, .string t112] 30 (0, 0)) (by (with_reducible repeat (first | refine qd_ ?_ _ | refine qf_ ?_ | refine qe_ ?_ _)); exact BK114.out)) : gb124 ≠ gb114)); have n15_ := Aside0.mk ((by rw [hg]; exact Nat.ne_of_lt (blk_lt (g := gb119) (o := .cells #[.int .i64 t115, .int .i64 t116, .string t117] 30 (0, 0)) (by (with_reducible repeat (first | refine qd_ ?_ _ | refine qf_ ?_ | refine qe_ ?_ _)); exact BK119.out)) : gb119 ≠ gb124)); have n16_ := Aside0.mk ((by rw [hg]; exact Nat.ne_of_gt (blk_lt (g := gb119) (o := .cells #[.int .i64 t115, .int .i64 t116, .string t117] 30 (0, 0)) (by (with_reducible repeat (first | refine qd_ ?_ _ | refine qf_ ?_ | refine qe_ ?_ _)); exact BK119.out)) : gb124 ≠ gb119)); clear HO109; clear BK101; clear BK102; clear BK114; clear BK119; clear HB; have HO109 := n0_; have BK101 := n1_; have BK102 := n2_; have BK114 := n3_; have BK119 := n4_; have HB := n5_; have BK124 := n6_; have GW124 := n7_; have GE124 := n8_; have NB101_124 := n9_; have NB124_101 := n10_; have NB102_124 := n11_; have NB124_102 := n12_; have NB114_124 := n13_; have NB124_114 := n14_; have NB119_124 := n15_; have NB124_119 := n16_; clear n0_ n1_ n2_ n3_ n4_ n5_ n6_ n7_ n8_ n9_ n10_ n11_ n12_ n13_ n14_ n15_ n16_; clear hb hbox hg; have hnb45 := NB124_101.out; have hnc45 := NB101_124.out; have hnb46 := NB124_102.out; have hnc46 := NB102_124.out; have hnb47 := NB124_114.out; have hnc47 := NB114_124.out; have hnb48 := NB124_119.out; have hnc48 := NB119_124.out; have hcz49_0 : w44.cell? ⟨gb124, 0, none⟩ = some (.int .i64 0) := (qi_ BK124.out 0).trans rfl; have hcz49_1 : w44.cell? ⟨gb124, 1, none⟩ = some (.int .i64 0) := (qi_ BK124.out 1).trans rfl; have hcz49_2 : w44.cell? ⟨gb124, 2, none⟩ = some (.string (⟨#[]⟩ : ByteArray)) := (qi_ BK124.out 2).trans rfl; have hfz49_0 := qh_ BK124.out 0; have hfz49_1 := qh_ BK124.out 1; have hfz49_2 := qh_ BK124.out 2)))
     (try simp only [Act.put, sa_, sb_, sc_])
     go_cut [85] (fun v85 wc => ∃ (kq : Nat) (x85_24 : Bool), v85 = .bool x85_24 ∧ Aside0 (law04_EntryPuts.j1 kq t107 x85_24 a2_0 a2_1 = some r) ∧ Aside0 (kq ≤ kj5) ∧ Aside0 (Kd.R k30 30 wc w.heap.size (fun k_ => k_ ≠ gb101 ∧ k_ ≠ gb114 ∧ k_ ≠ gb119 ∧ k_ ≠ gb124) (.slice Ao30 t107.length co30) t107) ∧ Aside0 (wc.heap[gb101]? = some (.cells #[.int .i64 a1_0, .int .i64 a1_1, .string a1_2] 30 (0, 0))) ∧ Aside0 (wc.heap[gb102]? = some (.cells #[.int .u8 a2_0, .int .u8 a2_1] 38 (0, 0))) ∧ Aside0 (wc.heap[gb114]? = some (.cells #[.int .i64 t110, .int .i64 t111, .string t112] 30 (0, 0))) ∧ Aside0 (wc.heap[gb119]? = some (.cells #[.int .i64 t115, .int .i64 t116, .string t117] 30 (0, 0))) ∧ Aside0 (wc.heap[gb124]? = some (.cells #[.int .i64 t120, .int .i64 t121, .string t122] 30 (0, 0))) ∧ Aside0 (Below w.heap.size w wc))
     case first =>
      have H := HC25.out
      clear HC25
      by_cases c50 : t113 = true
      ·subst c50
       have H1 : (if (!(t110 == a1_0) || (!(t111 == a1_1) || (!(t112.toList == a1_2.toList)))) = true then (law04_EntryPuts.j1 kj5 t107 true a2_0 a2_1) else (if (Int.tmod (wrap64 (a2_0)) 12) = a1_0 then ((entry_Right.f kj5 t107).bind fun t125 => (law04_EntryPuts.j1 kj5 t107 (!t125) a2_0 a2_1)) else (if (!(t115 == t120) || (!(t116 == t121) || (!(t117.toList == t122.toList)))) = true then (law04_EntryPuts.j1 kj5 t107 true a2_0 a2_1) else (if (t118 != t123) = true then (law04_EntryPuts.j1 kj5 t107 true a2_0 a2_1) else ((entry_Right.f kj5 t107).bind fun t126 => (law04_EntryPuts.j1 kj5 t107 (!t126) a2_0 a2_1)))))) = some r := by rw [if_pos rfl] at H; exact H
       clear H
       have H := H1
       clear H1
       by_cases c51 : (!(t110 == a1_0) || (!(t111 == a1_1) || (!(t112.toList == a1_2.toList)))) = true
       ·rw [if_pos c51] at H
        have c51b0 : (!(t110 == a1_0) || (!(t111 == a1_1) || (!(t112.toList == a1_2.toList)))) = true := c51
        clear c51
        (first | rw [c51b0] | (simp only [i64_w, i32_w]; rw [c51b0]) | skip)
        have H' := Aside0.mk H
        clear H
        have hnb52 := NB114_101.out
        have hnc52 := NB101_114.out
        have hnb53 := NB114_102.out
        have hnc53 := NB102_114.out
        have hnb54 := NB114_119.out
        have hnc54 := NB119_114.out
        have hnb55 := NB114_124.out
        have hnc55 := NB124_114.out
        have hcz56_0 : w44.cell? ⟨gb114, 0, none⟩ = some (.int .i64 t110) := (qi_ BK114.out 0).trans rfl
        have hcz56_1 : w44.cell? ⟨gb114, 1, none⟩ = some (.int .i64 t111) := (qi_ BK114.out 1).trans rfl
        have hcz56_2 : w44.cell? ⟨gb114, 2, none⟩ = some (.string t112) := (qi_ BK114.out 2).trans rfl
        have hfz56_0 := qh_ BK114.out 0
        have hfz56_1 := qh_ BK114.out 1
        have hfz56_2 := qh_ BK114.out 2
        have hnb57 := NB101_102.out
        have hnc57 := NB102_101.out
        have hnb58 := NB101_119.out
        have hnc58 := NB119_101.out
        have hnb59 := NB101_124.out
        have hnc59 := NB124_101.out
        have hcz60_0 : w44.cell? ⟨gb101, 0, none⟩ = some (.int .i64 a1_0) := (qi_ BK101.out 0).trans rfl
        have hcz60_1 : w44.cell? ⟨gb101, 1, none⟩ = some (.int .i64 a1_1) := (qi_ BK101.out 1).trans rfl
        have hcz60_2 : w44.cell? ⟨gb101, 2, none⟩ = some (.string a1_2) := (qi_ BK101.out 2).trans rfl
        have hfz60_0 := qh_ BK101.out 0
        have hfz60_1 := qh_ BK101.out 1
        have hfz60_2 := qh_ BK101.out 2
        go_wp2
        repeat (go_quiet (fail); try go_wp2)
        go_meet
        case rel => exact ⟨_, (true), (by first | rfl | (simp; done) | (simp [*]; done)), H', ⟨by have := HJ5.out; first | omega | exact Nat.le_refl _⟩, ⟨by (with_reducible repeat (first | apply Kd.qn_ | apply Kd.qm_ | apply Kd.R_drew)); exact Kd.R_mono (Kd.R_far (p := ⟨gb124, 2, none⟩) (Kd.R_far (p := ⟨gb124, 1, none⟩) (Kd.R_far (p := ⟨gb124, 0, none⟩) (Kd.R_mono HO109.out (fun k_ hk => (⟨hk, hk.2⟩ : _ ∧ k_ ≠ gb124))) (fun _ hk => hk.2) (.int .i64 t120)) (fun _ hk => hk.2) (.int .i64 t121)) (fun _ hk => hk.2) (.string t122)) (fun _ hk => ⟨hk.1.1.1.1.2, ⟨hk.1.1.1.2, ⟨hk.1.1.2, hk.1.2⟩⟩⟩)⟩, ⟨by (with_reducible repeat (first | refine qd_ ?_ _ | refine qf_ ?_ | refine qe_ ?_ _)); refine qo_ ?_ NB101_124.out _; (with_reducible repeat (first | refine qd_ ?_ _ | refine qf_ ?_ | refine qe_ ?_ _)); refine qo_ ?_ NB101_124.out _; (with_reducible repeat (first | refine qd_ ?_ _ | refine qf_ ?_ | refine qe_ ?_ _)); refine qo_ ?_ NB101_124.out _; (with_reducible repeat (first | refine qd_ ?_ _ | refine qf_ ?_ | refine qe_ ?_ _)); exact BK101.out⟩, ⟨by (with_reducible repeat (first | refine qd_ ?_ _ | refine qf_ ?_ | refine qe_ ?_ _)); refine qo_ ?_ NB102_124.out _; (with_reducible repeat (first | refine qd_ ?_ _ | refine qf_ ?_ | refine qe_ ?_ _)); refine qo_ ?_ NB102_124.out _; (with_reducible repeat (first | refine qd_ ?_ _ | refine qf_ ?_ | refine qe_ ?_ _)); refine qo_ ?_ NB102_124.out _; (with_reducible repeat (first | refine qd_ ?_ _ | refine qf_ ?_ | refine qe_ ?_ _)); exact BK102.out⟩, ⟨by (with_reducible repeat (first | refine qd_ ?_ _ | refine qf_ ?_ | refine qe_ ?_ _)); refine qo_ ?_ NB114_124.out _; (with_reducible repeat (first | refine qd_ ?_ _ | refine qf_ ?_ | refine qe_ ?_ _)); refine qo_ ?_ NB114_124.out _; (with_reducible repeat (first | refine qd_ ?_ _ | refine qf_ ?_ | refine qe_ ?_ _)); refine qo_ ?_ NB114_124.out _; (with_reducible repeat (first | refine qd_ ?_ _ | refine qf_ ?_ | refine qe_ ?_ _)); exact BK114.out⟩, ⟨by (with_reducible repeat (first | refine qd_ ?_ _ | refine qf_ ?_ | refine qe_ ?_ _)); refine qo_ ?_ NB119_124.out _; (with_reducible repeat (first | refine qd_ ?_ _ | refine qf_ ?_ | refine qe_ ?_ _)); refine qo_ ?_ NB119_124.out _; (with_reducible repeat (first | refine qd_ ?_ _ | refine qf_ ?_ | refine qe_ ?_ _)); refine qo_ ?_ NB119_124.out _; (with_reducible repeat (first | refine qd_ ?_ _ | refine qf_ ?_ | refine qe_ ?_ _)); exact BK119.out⟩, ⟨by (with_reducible repeat (first | refine qd_ ?_ _ | refine qf_ ?_ | refine qe_ ?_ _)); refine qr_ (cs := #[.int .i64 t120, .int .i64 t121, .string (⟨#[]⟩ : ByteArray)]) ?_ 2 _ rfl; (with_reducible repeat (first | refine qd_ ?_ _ | refine qf_ ?_ | refine qe_ ?_ _)); refine qr_ (cs := #[.int .i64 t120, .int .i64 0, .string (⟨#[]⟩ : ByteArray)]) ?_ 1 _ rfl; (with_reducible repeat (first | refine qd_ ?_ _ | refine qf_ ?_ | refine qe_ ?_ _)); refine qr_ (cs := #[.int .i64 0, .int .i64 0, .string (⟨#[]⟩ : ByteArray)]) ?_ 0 _ rfl; (with_reducible repeat (first | refine qd_ ?_ _ | refine qf_ ?_ | refine qe_ ?_ _)); exact BK124.out⟩, ⟨by repeat (first | (with_reducible first | exact HB.out | apply qc_ | apply qa_ | apply qb_ | refine qg_ ?_ GE101.out | refine qg_ ?_ GE102.out | refine qg_ ?_ GE114.out | refine qg_ ?_ GE119.out | refine qg_ ?_ GE124.out) | exact HB.out)⟩⟩
       ·rw [if_neg c51] at H
        have c51b0 : (!(t110 == a1_0) || (!(t111 == a1_1) || (!(t112.toList == a1_2.toList)))) = false := by simpa using c51
        clear c51
        (first | rw [c51b0] | (simp only [i64_w, i32_w]; rw [c51b0]) | skip)
        by_cases c61 : (Int.tmod (wrap64 (a2_0)) 12) = a1_0
        ·rw [if_pos c61] at H
         have c61b0 : ((Int.tmod (wrap64 (a2_0)) 12) == a1_0) = true := beq_iff_eq.mpr c61
         have c61b1 : ((Int.tmod (wrap64 (a2_0)) 12) != a1_0) = false := bne_eq_false_iff_eq.mpr c61
         clear c61
         replace H := ob_ H
         obtain ⟨t125, A620, H⟩ := H
         replace H : (law04_EntryPuts.j1 kj5 t107 (!t125) a2_0 a2_1) = some r := H
         have A62 := Aside0.mk A620
         clear A620
         have H' := Aside0.mk H
         clear H
         have hnb63 := NB114_101.out
         have hnc63 := NB101_114.out
         have hnb64 := NB114_102.out
         have hnc64 := NB102_114.out
         have hnb65 := NB114_119.out
         have hnc65 := NB119_114.out
         have hnb66 := NB114_124.out
         have hnc66 := NB124_114.out
         have hcz67_0 : w44.cell? ⟨gb114, 0, none⟩ = some (.int .i64 t110) := (qi_ BK114.out 0).trans rfl
         have hcz67_1 : w44.cell? ⟨gb114, 1, none⟩ = some (.int .i64 t111) := (qi_ BK114.out 1).trans rfl
         have hcz67_2 : w44.cell? ⟨gb114, 2, none⟩ = some (.string t112) := (qi_ BK114.out 2).trans rfl
         have hfz67_0 := qh_ BK114.out 0
         have hfz67_1 := qh_ BK114.out 1
         have hfz67_2 := qh_ BK114.out 2
         have hnb68 := NB101_102.out
         have hnc68 := NB102_101.out
         have hnb69 := NB101_119.out
         have hnc69 := NB119_101.out
         have hnb70 := NB101_124.out
         have hnc70 := NB124_101.out
         have hcz71_0 : w44.cell? ⟨gb101, 0, none⟩ = some (.int .i64 a1_0) := (qi_ BK101.out 0).trans rfl
         have hcz71_1 : w44.cell? ⟨gb101, 1, none⟩ = some (.int .i64 a1_1) := (qi_ BK101.out 1).trans rfl
         have hcz71_2 : w44.cell? ⟨gb101, 2, none⟩ = some (.string a1_2) := (qi_ BK101.out 2).trans rfl
         have hfz71_0 := qh_ BK101.out 0
         have hfz71_1 := qh_ BK101.out 1
         have hfz71_2 := qh_ BK101.out 2
         go_wp2_with (first | (go_at_call 14; (with_reducible refine (entry_Right.calls kj5 _ _ t107 t125 _ ?side1 ?side2 A62.out).mono ?_); (case side1 => refine (Kd.R_reads' (e := 30) (base := w.heap.size) (ok := fun k_ => ((((True ∧ k_ ≠ gb101) ∧ k_ ≠ gb114) ∧ k_ ≠ gb119) ∧ k_ ≠ gb124)) (n := t107.length) (c := co30) ?_).2.2; exact (by (with_reducible repeat (first | apply Kd.qn_ | apply Kd.qm_ | apply Kd.R_drew)); exact (Kd.R_mono (Kd.R_far (p := ⟨gb124, 2, none⟩) (Kd.R_far (p := ⟨gb124, 1, none⟩) (Kd.R_far (p := ⟨gb124, 0, none⟩) (Kd.R_mono HO109.out (fun k_ hk => (⟨hk, hk.2⟩ : _ ∧ k_ ≠ gb124))) (fun _ hk => hk.2) (.int .i64 t120)) (fun _ hk => hk.2) (.int .i64 t121)) (fun _ hk => hk.2) (.string t122)) (fun _ h_ => h_.1)))); (case side2 => exact (Kd.R_reads' HO109.out).2.1); rintro e w72 ⟨rfl, hb⟩; have n0_ := Aside0.mk (Kd.R_below (by (with_reducible repeat (first | apply Kd.qn_ | apply Kd.qm_ | apply Kd.R_drew)); exact (Kd.R_mono (Kd.R_far (p := ⟨gb124, 2, none⟩) (Kd.R_far (p := ⟨gb124, 1, none⟩) (Kd.R_far (p := ⟨gb124, 0, none⟩) (Kd.R_mono HO109.out (fun k_ hk => (⟨hk, hk.2⟩ : _ ∧ k_ ≠ gb124))) (fun _ hk => hk.2) (.int .i64 t120)) (fun _ hk => hk.2) (.int .i64 t121)) (fun _ hk => hk.2) (.string t122)) (fun _ h_ => h_.1))) hb); have n1_ := Aside0.mk (ql_ (g := gb101) (o := .cells #[.int .i64 a1_0, .int .i64 a1_1, .string a1_2] 30 (0, 0)) (by (with_reducible repeat (first | refine qd_ ?_ _ | refine qf_ ?_ | refine qe_ ?_ _)); refine qo_ ?_ NB101_124.out _; (with_reducible repeat (first | refine qd_ ?_ _ | refine qf_ ?_ | refine qe_ ?_ _)); refine qo_ ?_ NB101_124.out _; (with_reducible repeat (first | refine qd_ ?_ _ | refine qf_ ?_ | refine qe_ ?_ _)); refine qo_ ?_ NB101_124.out _; (with_reducible repeat (first | refine qd_ ?_ _ | refine qf_ ?_ | refine qe_ ?_ _)); exact BK101.out) hb); have n2_ := Aside0.mk (ql_ (g := gb102) (o := .cells #[.int .u8 a2_0, .int .u8 a2_1] 38 (0, 0)) (by (with_reducible repeat (first | refine qd_ ?_ _ | refine qf_ ?_ | refine qe_ ?_ _)); refine qo_ ?_ NB102_124.out _; (with_reducible repeat (first | refine qd_ ?_ _ | refine qf_ ?_ | refine qe_ ?_ _)); refine qo_ ?_ NB102_124.out _; (with_reducible repeat (first | refine qd_ ?_ _ | refine qf_ ?_ | refine qe_ ?_ _)); refine qo_ ?_ NB102_124.out _; (with_reducible repeat (first | refine qd_ ?_ _ | refine qf_ ?_ | refine qe_ ?_ _)); exact BK102.out) hb); have n3_ := Aside0.mk (ql_ (g := gb114) (o := .cells #[.int .i64 t110, .int .i64 t111, .string t112] 30 (0, 0)) (by (with_reducible repeat (first | refine qd_ ?_ _ | refine qf_ ?_ | refine qe_ ?_ _)); refine qo_ ?_ NB114_124.out _; (with_reducible repeat (first | refine qd_ ?_ _ | refine qf_ ?_ | refine qe_ ?_ _)); refine qo_ ?_ NB114_124.out _; (with_reducible repeat (first | refine qd_ ?_ _ | refine qf_ ?_ | refine qe_ ?_ _)); refine qo_ ?_ NB114_124.out _; (with_reducible repeat (first | refine qd_ ?_ _ | refine qf_ ?_ | refine qe_ ?_ _)); exact BK114.out) hb); have n4_ := Aside0.mk (ql_ (g := gb119) (o := .cells #[.int .i64 t115, .int .i64 t116, .string t117] 30 (0, 0)) (by (with_reducible repeat (first | refine qd_ ?_ _ | refine qf_ ?_ | refine qe_ ?_ _)); refine qo_ ?_ NB119_124.out _; (with_reducible repeat (first | refine qd_ ?_ _ | refine qf_ ?_ | refine qe_ ?_ _)); refine qo_ ?_ NB119_124.out _; (with_reducible repeat (first | refine qd_ ?_ _ | refine qf_ ?_ | refine qe_ ?_ _)); refine qo_ ?_ NB119_124.out _; (with_reducible repeat (first | refine qd_ ?_ _ | refine qf_ ?_ | refine qe_ ?_ _)); exact BK119.out) hb); have n5_ := Aside0.mk (ql_ (g := gb124) (o := .cells #[.int .i64 t120, .int .i64 t121, .string t122] 30 (0, 0)) (by (with_reducible repeat (first | refine qd_ ?_ _ | refine qf_ ?_ | refine qe_ ?_ _)); refine qr_ (cs := #[.int .i64 t120, .int .i64 t121, .string (⟨#[]⟩ : ByteArray)]) ?_ 2 _ rfl; (with_reducible repeat (first | refine qd_ ?_ _ | refine qf_ ?_ | refine qe_ ?_ _)); refine qr_ (cs := #[.int .i64 t120, .int .i64 0, .string (⟨#[]⟩ : ByteArray)]) ?_ 1 _ rfl; (with_reducible repeat (first | refine qd_ ?_ _ | refine qf_ ?_ | refine qe_ ?_ _)); refine qr_ (cs := #[.int .i64 0, .int .i64 0, .string (⟨#[]⟩ : ByteArray)]) ?_ 0 _ rfl; (with_reducible repeat (first | refine qd_ ?_ _ | refine qf_ ?_ | refine qe_ ?_ _)); exact BK124.out) hb); have n6_ := Aside0.mk (qk_ (by repeat (first | (with_reducible first | exact HB.out | apply qc_ | apply qa_ | apply qb_ | refine qg_ ?_ GE101.out | refine qg_ ?_ GE102.out | refine qg_ ?_ GE114.out | refine qg_ ?_ GE119.out | refine qg_ ?_ GE124.out) | exact HB.out)) hb); clear HO109; clear BK101; clear BK102; clear BK114; clear BK119; clear BK124; clear HB; have HO109 := n0_; have BK101 := n1_; have BK102 := n2_; have BK114 := n3_; have BK119 := n4_; have BK124 := n5_; have HB := n6_; clear n0_ n1_ n2_ n3_ n4_ n5_ n6_; (try clear hb); (try clear hb2); (try clear hk); (try clear hi)))
         repeat (go_quiet (first | (go_at_call 14; (with_reducible refine (entry_Right.calls kj5 _ _ t107 t125 _ ?side1 ?side2 A62.out).mono ?_); (case side1 => refine (Kd.R_reads' (e := 30) (base := w.heap.size) (ok := fun k_ => ((((True ∧ k_ ≠ gb101) ∧ k_ ≠ gb114) ∧ k_ ≠ gb119) ∧ k_ ≠ gb124)) (n := t107.length) (c := co30) ?_).2.2; exact (by (with_reducible repeat (first | apply Kd.qn_ | apply Kd.qm_ | apply Kd.R_drew)); exact (Kd.R_mono (Kd.R_far (p := ⟨gb124, 2, none⟩) (Kd.R_far (p := ⟨gb124, 1, none⟩) (Kd.R_far (p := ⟨gb124, 0, none⟩) (Kd.R_mono HO109.out (fun k_ hk => (⟨hk, hk.2⟩ : _ ∧ k_ ≠ gb124))) (fun _ hk => hk.2) (.int .i64 t120)) (fun _ hk => hk.2) (.int .i64 t121)) (fun _ hk => hk.2) (.string t122)) (fun _ h_ => h_.1)))); (case side2 => exact (Kd.R_reads' HO109.out).2.1); rintro e w72 ⟨rfl, hb⟩; have n0_ := Aside0.mk (Kd.R_below (by (with_reducible repeat (first | apply Kd.qn_ | apply Kd.qm_ | apply Kd.R_drew)); exact (Kd.R_mono (Kd.R_far (p := ⟨gb124, 2, none⟩) (Kd.R_far (p := ⟨gb124, 1, none⟩) (Kd.R_far (p := ⟨gb124, 0, none⟩) (Kd.R_mono HO109.out (fun k_ hk => (⟨hk, hk.2⟩ : _ ∧ k_ ≠ gb124))) (fun _ hk => hk.2) (.int .i64 t120)) (fun _ hk => hk.2) (.int .i64 t121)) (fun _ hk => hk.2) (.string t122)) (fun _ h_ => h_.1))) hb); have n1_ := Aside0.mk (ql_ (g := gb101) (o := .cells #[.int .i64 a1_0, .int .i64 a1_1, .string a1_2] 30 (0, 0)) (by (with_reducible repeat (first | refine qd_ ?_ _ | refine qf_ ?_ | refine qe_ ?_ _)); refine qo_ ?_ NB101_124.out _; (with_reducible repeat (first | refine qd_ ?_ _ | refine qf_ ?_ | refine qe_ ?_ _)); refine qo_ ?_ NB101_124.out _; (with_reducible repeat (first | refine qd_ ?_ _ | refine qf_ ?_ | refine qe_ ?_ _)); refine qo_ ?_ NB101_124.out _; (with_reducible repeat (first | refine qd_ ?_ _ | refine qf_ ?_ | refine qe_ ?_ _)); exact BK101.out) hb); have n2_ := Aside0.mk (ql_ (g := gb102) (o := .cells #[.int .u8 a2_0, .int .u8 a2_1] 38 (0, 0)) (by (with_reducible repeat (first | refine qd_ ?_ _ | refine qf_ ?_ | refine qe_ ?_ _)); refine qo_ ?_ NB102_124.out _; (with_reducible repeat (first | refine qd_ ?_ _ | refine qf_ ?_ | refine qe_ ?_ _)); refine qo_ ?_ NB102_124.out _; (with_reducible repeat (first | refine qd_ ?_ _ | refine qf_ ?_ | refine qe_ ?_ _)); refine qo_ ?_ NB102_124.out _; (with_reducible repeat (first | refine qd_ ?_ _ | refine qf_ ?_ | refine qe_ ?_ _)); exact BK102.out) hb); have n3_ := Aside0.mk (ql_ (g := gb114) (o := .cells #[.int .i64 t110, .int .i64 t111, .string t112] 30 (0, 0)) (by (with_reducible repeat (first | refine qd_ ?_ _ | refine qf_ ?_ | refine qe_ ?_ _)); refine qo_ ?_ NB114_124.out _; (with_reducible repeat (first | refine qd_ ?_ _ | refine qf_ ?_ | refine qe_ ?_ _)); refine qo_ ?_ NB114_124.out _; (with_reducible repeat (first | refine qd_ ?_ _ | refine qf_ ?_ | refine qe_ ?_ _)); refine qo_ ?_ NB114_124.out _; (with_reducible repeat (first | refine qd_ ?_ _ | refine qf_ ?_ | refine qe_ ?_ _)); exact BK114.out) hb); have n4_ := Aside0.mk (ql_ (g := gb119) (o := .cells #[.int .i64 t115, .int .i64 t116, .string t117] 30 (0, 0)) (by (with_reducible repeat (first | refine qd_ ?_ _ | refine qf_ ?_ | refine qe_ ?_ _)); refine qo_ ?_ NB119_124.out _; (with_reducible repeat (first | refine qd_ ?_ _ | refine qf_ ?_ | refine qe_ ?_ _)); refine qo_ ?_ NB119_124.out _; (with_reducible repeat (first | refine qd_ ?_ _ | refine qf_ ?_ | refine qe_ ?_ _)); refine qo_ ?_ NB119_124.out _; (with_reducible repeat (first | refine qd_ ?_ _ | refine qf_ ?_ | refine qe_ ?_ _)); exact BK119.out) hb); have n5_ := Aside0.mk (ql_ (g := gb124) (o := .cells #[.int .i64 t120, .int .i64 t121, .string t122] 30 (0, 0)) (by (with_reducible repeat (first | refine qd_ ?_ _ | refine qf_ ?_ | refine qe_ ?_ _)); refine qr_ (cs := #[.int .i64 t120, .int .i64 t121, .string (⟨#[]⟩ : ByteArray)]) ?_ 2 _ rfl; (with_reducible repeat (first | refine qd_ ?_ _ | refine qf_ ?_ | refine qe_ ?_ _)); refine qr_ (cs := #[.int .i64 t120, .int .i64 0, .string (⟨#[]⟩ : ByteArray)]) ?_ 1 _ rfl; (with_reducible repeat (first | refine qd_ ?_ _ | refine qf_ ?_ | refine qe_ ?_ _)); refine qr_ (cs := #[.int .i64 0, .int .i64 0, .string (⟨#[]⟩ : ByteArray)]) ?_ 0 _ rfl; (with_reducible repeat (first | refine qd_ ?_ _ | refine qf_ ?_ | refine qe_ ?_ _)); exact BK124.out) hb); have n6_ := Aside0.mk (qk_ (by repeat (first | (with_reducible first | exact HB.out | apply qc_ | apply qa_ | apply qb_ | refine qg_ ?_ GE101.out | refine qg_ ?_ GE102.out | refine qg_ ?_ GE114.out | refine qg_ ?_ GE119.out | refine qg_ ?_ GE124.out) | exact HB.out)) hb); clear HO109; clear BK101; clear BK102; clear BK114; clear BK119; clear BK124; clear HB; have HO109 := n0_; have BK101 := n1_; have BK102 := n2_; have BK114 := n3_; have BK119 := n4_; have BK124 := n5_; have HB := n6_; clear n0_ n1_ n2_ n3_ n4_ n5_ n6_; (try clear hb); (try clear hb2); (try clear hk); (try clear hi))); try go_wp2_with (first | (go_at_call 14; (with_reducible refine (entry_Right.calls kj5 _ _ t107 t125 _ ?side1 ?side2 A62.out).mono ?_); (case side1 => refine (Kd.R_reads' (e := 30) (base := w.heap.size) (ok := fun k_ => ((((True ∧ k_ ≠ gb101) ∧ k_ ≠ gb114) ∧ k_ ≠ gb119) ∧ k_ ≠ gb124)) (n := t107.length) (c := co30) ?_).2.2; exact (by (with_reducible repeat (first | apply Kd.qn_ | apply Kd.qm_ | apply Kd.R_drew)); exact (Kd.R_mono (Kd.R_far (p := ⟨gb124, 2, none⟩) (Kd.R_far (p := ⟨gb124, 1, none⟩) (Kd.R_far (p := ⟨gb124, 0, none⟩) (Kd.R_mono HO109.out (fun k_ hk => (⟨hk, hk.2⟩ : _ ∧ k_ ≠ gb124))) (fun _ hk => hk.2) (.int .i64 t120)) (fun _ hk => hk.2) (.int .i64 t121)) (fun _ hk => hk.2) (.string t122)) (fun _ h_ => h_.1)))); (case side2 => exact (Kd.R_reads' HO109.out).2.1); rintro e w72 ⟨rfl, hb⟩; have n0_ := Aside0.mk (Kd.R_below (by (with_reducible repeat (first | apply Kd.qn_ | apply Kd.qm_ | apply Kd.R_drew)); exact (Kd.R_mono (Kd.R_far (p := ⟨gb124, 2, none⟩) (Kd.R_far (p := ⟨gb124, 1, none⟩) (Kd.R_far (p := ⟨gb124, 0, none⟩) (Kd.R_mono HO109.out (fun k_ hk => (⟨hk, hk.2⟩ : _ ∧ k_ ≠ gb124))) (fun _ hk => hk.2) (.int .i64 t120)) (fun _ hk => hk.2) (.int .i64 t121)) (fun _ hk => hk.2) (.string t122)) (fun _ h_ => h_.1))) hb); have n1_ := Aside0.mk (ql_ (g := gb101) (o := .cells #[.int .i64 a1_0, .int .i64 a1_1, .string a1_2] 30 (0, 0)) (by (with_reducible repeat (first | refine qd_ ?_ _ | refine qf_ ?_ | refine qe_ ?_ _)); refine qo_ ?_ NB101_124.out _; (with_reducible repeat (first | refine qd_ ?_ _ | refine qf_ ?_ | refine qe_ ?_ _)); refine qo_ ?_ NB101_124.out _; (with_reducible repeat (first | refine qd_ ?_ _ | refine qf_ ?_ | refine qe_ ?_ _)); refine qo_ ?_ NB101_124.out _; (with_reducible repeat (first | refine qd_ ?_ _ | refine qf_ ?_ | refine qe_ ?_ _)); exact BK101.out) hb); have n2_ := Aside0.mk (ql_ (g := gb102) (o := .cells #[.int .u8 a2_0, .int .u8 a2_1] 38 (0, 0)) (by (with_reducible repeat (first | refine qd_ ?_ _ | refine qf_ ?_ | refine qe_ ?_ _)); refine qo_ ?_ NB102_124.out _; (with_reducible repeat (first | refine qd_ ?_ _ | refine qf_ ?_ | refine qe_ ?_ _)); refine qo_ ?_ NB102_124.out _; (with_reducible repeat (first | refine qd_ ?_ _ | refine qf_ ?_ | refine qe_ ?_ _)); refine qo_ ?_ NB102_124.out _; (with_reducible repeat (first | refine qd_ ?_ _ | refine qf_ ?_ | refine qe_ ?_ _)); exact BK102.out) hb); have n3_ := Aside0.mk (ql_ (g := gb114) (o := .cells #[.int .i64 t110, .int .i64 t111, .string t112] 30 (0, 0)) (by (with_reducible repeat (first | refine qd_ ?_ _ | refine qf_ ?_ | refine qe_ ?_ _)); refine qo_ ?_ NB114_124.out _; (with_reducible repeat (first | refine qd_ ?_ _ | refine qf_ ?_ | refine qe_ ?_ _)); refine qo_ ?_ NB114_124.out _; (with_reducible repeat (first | refine qd_ ?_ _ | refine qf_ ?_ | refine qe_ ?_ _)); refine qo_ ?_ NB114_124.out _; (with_reducible repeat (first | refine qd_ ?_ _ | refine qf_ ?_ | refine qe_ ?_ _)); exact BK114.out) hb); have n4_ := Aside0.mk (ql_ (g := gb119) (o := .cells #[.int .i64 t115, .int .i64 t116, .string t117] 30 (0, 0)) (by (with_reducible repeat (first | refine qd_ ?_ _ | refine qf_ ?_ | refine qe_ ?_ _)); refine qo_ ?_ NB119_124.out _; (with_reducible repeat (first | refine qd_ ?_ _ | refine qf_ ?_ | refine qe_ ?_ _)); refine qo_ ?_ NB119_124.out _; (with_reducible repeat (first | refine qd_ ?_ _ | refine qf_ ?_ | refine qe_ ?_ _)); refine qo_ ?_ NB119_124.out _; (with_reducible repeat (first | refine qd_ ?_ _ | refine qf_ ?_ | refine qe_ ?_ _)); exact BK119.out) hb); have n5_ := Aside0.mk (ql_ (g := gb124) (o := .cells #[.int .i64 t120, .int .i64 t121, .string t122] 30 (0, 0)) (by (with_reducible repeat (first | refine qd_ ?_ _ | refine qf_ ?_ | refine qe_ ?_ _)); refine qr_ (cs := #[.int .i64 t120, .int .i64 t121, .string (⟨#[]⟩ : ByteArray)]) ?_ 2 _ rfl; (with_reducible repeat (first | refine qd_ ?_ _ | refine qf_ ?_ | refine qe_ ?_ _)); refine qr_ (cs := #[.int .i64 t120, .int .i64 0, .string (⟨#[]⟩ : ByteArray)]) ?_ 1 _ rfl; (with_reducible repeat (first | refine qd_ ?_ _ | refine qf_ ?_ | refine qe_ ?_ _)); refine qr_ (cs := #[.int .i64 0, .int .i64 0, .string (⟨#[]⟩ : ByteArray)]) ?_ 0 _ rfl; (with_reducible repeat (first | refine qd_ ?_ _ | refine qf_ ?_ | refine qe_ ?_ _)); exact BK124.out) hb); have n6_ := Aside0.mk (qk_ (by repeat (first | (with_reducible first | exact HB.out | apply qc_ | apply qa_ | apply qb_ | refine qg_ ?_ GE101.out | refine qg_ ?_ GE102.out | refine qg_ ?_ GE114.out | refine qg_ ?_ GE119.out | refine qg_ ?_ GE124.out) | exact HB.out)) hb); clear HO109; clear BK101; clear BK102; clear BK114; clear BK119; clear BK124; clear HB; have HO109 := n0_; have BK101 := n1_; have BK102 := n2_; have BK114 := n3_; have BK119 := n4_; have BK124 := n5_; have HB := n6_; clear n0_ n1_ n2_ n3_ n4_ n5_ n6_; (try clear hb); (try clear hb2); (try clear hk); (try clear hi))))
         go_meet
         case rel => exact ⟨_, (!t125), (by first | rfl | (simp; done) | (simp [*]; done)), H', ⟨by have := HJ5.out; first | omega | exact Nat.le_refl _⟩, ⟨by (with_reducible repeat (first | apply Kd.qn_ | apply Kd.qm_ | apply Kd.R_drew)); exact Kd.R_mono HO109.out (fun _ hk => ⟨hk.1.1.1.2, ⟨hk.1.1.2, ⟨hk.1.2, hk.2⟩⟩⟩)⟩, ⟨by (with_reducible repeat (first | refine qd_ ?_ _ | refine qf_ ?_ | refine qe_ ?_ _)); exact BK101.out⟩, ⟨by (with_reducible repeat (first | refine qd_ ?_ _ | refine qf_ ?_ | refine qe_ ?_ _)); exact BK102.out⟩, ⟨by (with_reducible repeat (first | refine qd_ ?_ _ | refine qf_ ?_ | refine qe_ ?_ _)); exact BK114.out⟩, ⟨by (with_reducible repeat (first | refine qd_ ?_ _ | refine qf_ ?_ | refine qe_ ?_ _)); exact BK119.out⟩, ⟨by (with_reducible repeat (first | refine qd_ ?_ _ | refine qf_ ?_ | refine qe_ ?_ _)); exact BK124.out⟩, ⟨by repeat (first | (with_reducible first | exact HB.out | apply qc_ | apply qa_ | apply qb_ | refine qg_ ?_ GE101.out | refine qg_ ?_ GE102.out | refine qg_ ?_ GE114.out | refine qg_ ?_ GE119.out | refine qg_ ?_ GE124.out) | exact HB.out)⟩⟩
        ·rw [if_neg c61] at H
         have c61b0 : ((Int.tmod (wrap64 (a2_0)) 12) == a1_0) = false := beq_eq_false_iff_ne.mpr c61
         have c61b1 : ((Int.tmod (wrap64 (a2_0)) 12) != a1_0) = true := bne_iff_ne.mpr c61
         by_cases c73 : (!(t115 == t120) || (!(t116 == t121) || (!(t117.toList == t122.toList)))) = true
         ·rw [if_pos c73] at H
          have c73b0 : (!(t115 == t120) || (!(t116 == t121) || (!(t117.toList == t122.toList)))) = true := c73
          clear c73
          have H' := Aside0.mk H
          clear H
          have hnb74 := NB114_101.out
          have hnc74 := NB101_114.out
          have hnb75 := NB114_102.out
          have hnc75 := NB102_114.out
          have hnb76 := NB114_119.out
          have hnc76 := NB119_114.out
          have hnb77 := NB114_124.out
          have hnc77 := NB124_114.out
          have hcz78_0 : w44.cell? ⟨gb114, 0, none⟩ = some (.int .i64 t110) := (qi_ BK114.out 0).trans rfl
          have hcz78_1 : w44.cell? ⟨gb114, 1, none⟩ = some (.int .i64 t111) := (qi_ BK114.out 1).trans rfl
          have hcz78_2 : w44.cell? ⟨gb114, 2, none⟩ = some (.string t112) := (qi_ BK114.out 2).trans rfl
          have hfz78_0 := qh_ BK114.out 0
          have hfz78_1 := qh_ BK114.out 1
          have hfz78_2 := qh_ BK114.out 2
          have hnb79 := NB101_102.out
          have hnc79 := NB102_101.out
          have hnb80 := NB101_119.out
          have hnc80 := NB119_101.out
          have hnb81 := NB101_124.out
          have hnc81 := NB124_101.out
          have hcz82_0 : w44.cell? ⟨gb101, 0, none⟩ = some (.int .i64 a1_0) := (qi_ BK101.out 0).trans rfl
          have hcz82_1 : w44.cell? ⟨gb101, 1, none⟩ = some (.int .i64 a1_1) := (qi_ BK101.out 1).trans rfl
          have hcz82_2 : w44.cell? ⟨gb101, 2, none⟩ = some (.string a1_2) := (qi_ BK101.out 2).trans rfl
          have hfz82_0 := qh_ BK101.out 0
          have hfz82_1 := qh_ BK101.out 1
          have hfz82_2 := qh_ BK101.out 2
          have hnb83 := NB119_102.out
          have hnc83 := NB102_119.out
          have hnb84 := NB119_124.out
          have hnc84 := NB124_119.out
          have hcz85_0 : w44.cell? ⟨gb119, 0, none⟩ = some (.int .i64 t115) := (qi_ BK119.out 0).trans rfl
          have hcz85_1 : w44.cell? ⟨gb119, 1, none⟩ = some (.int .i64 t116) := (qi_ BK119.out 1).trans rfl
          have hcz85_2 : w44.cell? ⟨gb119, 2, none⟩ = some (.string t117) := (qi_ BK119.out 2).trans rfl
          have hfz85_0 := qh_ BK119.out 0
          have hfz85_1 := qh_ BK119.out 1
          have hfz85_2 := qh_ BK119.out 2
          have hnb86 := NB124_102.out
          have hnc86 := NB102_124.out
          have hcz87_0 : w44.cell? ⟨gb124, 0, none⟩ = some (.int .i64 0) := (qi_ BK124.out 0).trans rfl
          have hcz87_1 : w44.cell? ⟨gb124, 1, none⟩ = some (.int .i64 0) := (qi_ BK124.out 1).trans rfl
          have hcz87_2 : w44.cell? ⟨gb124, 2, none⟩ = some (.string (⟨#[]⟩ : ByteArray)) := (qi_ BK124.out 2).trans rfl
          have hfz87_0 := qh_ BK124.out 0
          have hfz87_1 := qh_ BK124.out 1
          have hfz87_2 := qh_ BK124.out 2
          go_wp2
          repeat (go_quiet (fail); try go_wp2)
          go_meet
          case rel => exact ⟨_, (true), (by first | rfl | (simp; done) | (simp [*]; done)), H', ⟨by have := HJ5.out; first | omega | exact Nat.le_refl _⟩, ⟨by (with_reducible repeat (first | apply Kd.qn_ | apply Kd.qm_ | apply Kd.R_drew)); exact Kd.R_mono (Kd.R_far (p := ⟨gb124, 2, none⟩) (Kd.R_far (p := ⟨gb124, 1, none⟩) (Kd.R_far (p := ⟨gb124, 0, none⟩) (Kd.R_mono HO109.out (fun k_ hk => (⟨hk, hk.2⟩ : _ ∧ k_ ≠ gb124))) (fun _ hk => hk.2) (.int .i64 t120)) (fun _ hk => hk.2) (.int .i64 t121)) (fun _ hk => hk.2) (.string t122)) (fun _ hk => ⟨hk.1.1.1.1.2, ⟨hk.1.1.1.2, ⟨hk.1.1.2, hk.1.2⟩⟩⟩)⟩, ⟨by (with_reducible repeat (first | refine qd_ ?_ _ | refine qf_ ?_ | refine qe_ ?_ _)); refine qo_ ?_ NB101_124.out _; (with_reducible repeat (first | refine qd_ ?_ _ | refine qf_ ?_ | refine qe_ ?_ _)); refine qo_ ?_ NB101_124.out _; (with_reducible repeat (first | refine qd_ ?_ _ | refine qf_ ?_ | refine qe_ ?_ _)); refine qo_ ?_ NB101_124.out _; (with_reducible repeat (first | refine qd_ ?_ _ | refine qf_ ?_ | refine qe_ ?_ _)); exact BK101.out⟩, ⟨by (with_reducible repeat (first | refine qd_ ?_ _ | refine qf_ ?_ | refine qe_ ?_ _)); refine qo_ ?_ NB102_124.out _; (with_reducible repeat (first | refine qd_ ?_ _ | refine qf_ ?_ | refine qe_ ?_ _)); refine qo_ ?_ NB102_124.out _; (with_reducible repeat (first | refine qd_ ?_ _ | refine qf_ ?_ | refine qe_ ?_ _)); refine qo_ ?_ NB102_124.out _; (with_reducible repeat (first | refine qd_ ?_ _ | refine qf_ ?_ | refine qe_ ?_ _)); exact BK102.out⟩, ⟨by (with_reducible repeat (first | refine qd_ ?_ _ | refine qf_ ?_ | refine qe_ ?_ _)); refine qo_ ?_ NB114_124.out _; (with_reducible repeat (first | refine qd_ ?_ _ | refine qf_ ?_ | refine qe_ ?_ _)); refine qo_ ?_ NB114_124.out _; (with_reducible repeat (first | refine qd_ ?_ _ | refine qf_ ?_ | refine qe_ ?_ _)); refine qo_ ?_ NB114_124.out _; (with_reducible repeat (first | refine qd_ ?_ _ | refine qf_ ?_ | refine qe_ ?_ _)); exact BK114.out⟩, ⟨by (with_reducible repeat (first | refine qd_ ?_ _ | refine qf_ ?_ | refine qe_ ?_ _)); refine qo_ ?_ NB119_124.out _; (with_reducible repeat (first | refine qd_ ?_ _ | refine qf_ ?_ | refine qe_ ?_ _)); refine qo_ ?_ NB119_124.out _; (with_reducible repeat (first | refine qd_ ?_ _ | refine qf_ ?_ | refine qe_ ?_ _)); refine qo_ ?_ NB119_124.out _; (with_reducible repeat (first | refine qd_ ?_ _ | refine qf_ ?_ | refine qe_ ?_ _)); exact BK119.out⟩, ⟨by (with_reducible repeat (first | refine qd_ ?_ _ | refine qf_ ?_ | refine qe_ ?_ _)); refine qr_ (cs := #[.int .i64 t120, .int .i64 t121, .string (⟨#[]⟩ : ByteArray)]) ?_ 2 _ rfl; (with_reducible repeat (first | refine qd_ ?_ _ | refine qf_ ?_ | refine qe_ ?_ _)); refine qr_ (cs := #[.int .i64 t120, .int .i64 0, .string (⟨#[]⟩ : ByteArray)]) ?_ 1 _ rfl; (with_reducible repeat (first | refine qd_ ?_ _ | refine qf_ ?_ | refine qe_ ?_ _)); refine qr_ (cs := #[.int .i64 0, .int .i64 0, .string (⟨#[]⟩ : ByteArray)]) ?_ 0 _ rfl; (with_reducible repeat (first | refine qd_ ?_ _ | refine qf_ ?_ | refine qe_ ?_ _)); exact BK124.out⟩, ⟨by repeat (first | (with_reducible first | exact HB.out | apply qc_ | apply qa_ | apply qb_ | refine qg_ ?_ GE101.out | refine qg_ ?_ GE102.out | refine qg_ ?_ GE114.out | refine qg_ ?_ GE119.out | refine qg_ ?_ GE124.out) | exact HB.out)⟩⟩
         ·rw [if_neg c73] at H
          have c73b0 : (!(t115 == t120) || (!(t116 == t121) || (!(t117.toList == t122.toList)))) = false := by simpa using c73
          clear c73
          by_cases c88 : (t118 != t123) = true
          ·rw [if_pos c88] at H
           have c88b0 : (t118 != t123) = true := c88
           (try (have c88b1 : decide (t118 = t123) = false := by simpa using c88))
           (try (have c88b2 : (t118 == t123) = false := by simpa using c88))
           (try (have c88b3 : ¬ (t118 = t123) := by simpa using c88))
           clear c88
           have H' := Aside0.mk H
           clear H
           have hnb89 := NB114_101.out
           have hnc89 := NB101_114.out
           have hnb90 := NB114_102.out
           have hnc90 := NB102_114.out
           have hnb91 := NB114_119.out
           have hnc91 := NB119_114.out
           have hnb92 := NB114_124.out
           have hnc92 := NB124_114.out
           have hcz93_0 : w44.cell? ⟨gb114, 0, none⟩ = some (.int .i64 t110) := (qi_ BK114.out 0).trans rfl
           have hcz93_1 : w44.cell? ⟨gb114, 1, none⟩ = some (.int .i64 t111) := (qi_ BK114.out 1).trans rfl
           have hcz93_2 : w44.cell? ⟨gb114, 2, none⟩ = some (.string t112) := (qi_ BK114.out 2).trans rfl
           have hfz93_0 := qh_ BK114.out 0
           have hfz93_1 := qh_ BK114.out 1
           have hfz93_2 := qh_ BK114.out 2
           have hnb94 := NB101_102.out
           have hnc94 := NB102_101.out
           have hnb95 := NB101_119.out
           have hnc95 := NB119_101.out
           have hnb96 := NB101_124.out
           have hnc96 := NB124_101.out
           have hcz97_0 : w44.cell? ⟨gb101, 0, none⟩ = some (.int .i64 a1_0) := (qi_ BK101.out 0).trans rfl
           have hcz97_1 : w44.cell? ⟨gb101, 1, none⟩ = some (.int .i64 a1_1) := (qi_ BK101.out 1).trans rfl
           have hcz97_2 : w44.cell? ⟨gb101, 2, none⟩ = some (.string a1_2) := (qi_ BK101.out 2).trans rfl
           have hfz97_0 := qh_ BK101.out 0
           have hfz97_1 := qh_ BK101.out 1
           have hfz97_2 := qh_ BK101.out 2
           have hnb98 := NB119_102.out
           have hnc98 := NB102_119.out
           have hnb99 := NB119_124.out
           have hnc99 := NB124_119.out
           have hcz100_0 : w44.cell? ⟨gb119, 0, none⟩ = some (.int .i64 t115) := (qi_ BK119.out 0).trans rfl
           have hcz100_1 : w44.cell? ⟨gb119, 1, none⟩ = some (.int .i64 t116) := (qi_ BK119.out 1).trans rfl
           have hcz100_2 : w44.cell? ⟨gb119, 2, none⟩ = some (.string t117) := (qi_ BK119.out 2).trans rfl
           have hfz100_0 := qh_ BK119.out 0
           have hfz100_1 := qh_ BK119.out 1
           have hfz100_2 := qh_ BK119.out 2
           have hnb101 := NB124_102.out
           have hnc101 := NB102_124.out
           have hcz102_0 : w44.cell? ⟨gb124, 0, none⟩ = some (.int .i64 0) := (qi_ BK124.out 0).trans rfl
           have hcz102_1 : w44.cell? ⟨gb124, 1, none⟩ = some (.int .i64 0) := (qi_ BK124.out 1).trans rfl
           have hcz102_2 : w44.cell? ⟨gb124, 2, none⟩ = some (.string (⟨#[]⟩ : ByteArray)) := (qi_ BK124.out 2).trans rfl
           have hfz102_0 := qh_ BK124.out 0
           have hfz102_1 := qh_ BK124.out 1
           have hfz102_2 := qh_ BK124.out 2
           go_wp2
           repeat (go_quiet (fail); try go_wp2)
           go_meet
           case rel => exact ⟨_, (true), (by first | rfl | (simp; done) | (simp [*]; done)), H', ⟨by have := HJ5.out; first | omega | exact Nat.le_refl _⟩, ⟨by (with_reducible repeat (first | apply Kd.qn_ | apply Kd.qm_ | apply Kd.R_drew)); exact Kd.R_mono (Kd.R_far (p := ⟨gb124, 2, none⟩) (Kd.R_far (p := ⟨gb124, 1, none⟩) (Kd.R_far (p := ⟨gb124, 0, none⟩) (Kd.R_mono HO109.out (fun k_ hk => (⟨hk, hk.2⟩ : _ ∧ k_ ≠ gb124))) (fun _ hk => hk.2) (.int .i64 t120)) (fun _ hk => hk.2) (.int .i64 t121)) (fun _ hk => hk.2) (.string t122)) (fun _ hk => ⟨hk.1.1.1.1.2, ⟨hk.1.1.1.2, ⟨hk.1.1.2, hk.1.2⟩⟩⟩)⟩, ⟨by (with_reducible repeat (first | refine qd_ ?_ _ | refine qf_ ?_ | refine qe_ ?_ _)); refine qo_ ?_ NB101_124.out _; (with_reducible repeat (first | refine qd_ ?_ _ | refine qf_ ?_ | refine qe_ ?_ _)); refine qo_ ?_ NB101_124.out _; (with_reducible repeat (first | refine qd_ ?_ _ | refine qf_ ?_ | refine qe_ ?_ _)); refine qo_ ?_ NB101_124.out _; (with_reducible repeat (first | refine qd_ ?_ _ | refine qf_ ?_ | refine qe_ ?_ _)); exact BK101.out⟩, ⟨by (with_reducible repeat (first | refine qd_ ?_ _ | refine qf_ ?_ | refine qe_ ?_ _)); refine qo_ ?_ NB102_124.out _; (with_reducible repeat (first | refine qd_ ?_ _ | refine qf_ ?_ | refine qe_ ?_ _)); refine qo_ ?_ NB102_124.out _; (with_reducible repeat (first | refine qd_ ?_ _ | refine qf_ ?_ | refine qe_ ?_ _)); refine qo_ ?_ NB102_124.out _; (with_reducible repeat (first | refine qd_ ?_ _ | refine qf_ ?_ | refine qe_ ?_ _)); exact BK102.out⟩, ⟨by (with_reducible repeat (first | refine qd_ ?_ _ | refine qf_ ?_ | refine qe_ ?_ _)); refine qo_ ?_ NB114_124.out _; (with_reducible repeat (first | refine qd_ ?_ _ | refine qf_ ?_ | refine qe_ ?_ _)); refine qo_ ?_ NB114_124.out _; (with_reducible repeat (first | refine qd_ ?_ _ | refine qf_ ?_ | refine qe_ ?_ _)); refine qo_ ?_ NB114_124.out _; (with_reducible repeat (first | refine qd_ ?_ _ | refine qf_ ?_ | refine qe_ ?_ _)); exact BK114.out⟩, ⟨by (with_reducible repeat (first | refine qd_ ?_ _ | refine qf_ ?_ | refine qe_ ?_ _)); refine qo_ ?_ NB119_124.out _; (with_reducible repeat (first | refine qd_ ?_ _ | refine qf_ ?_ | refine qe_ ?_ _)); refine qo_ ?_ NB119_124.out _; (with_reducible repeat (first | refine qd_ ?_ _ | refine qf_ ?_ | refine qe_ ?_ _)); refine qo_ ?_ NB119_124.out _; (with_reducible repeat (first | refine qd_ ?_ _ | refine qf_ ?_ | refine qe_ ?_ _)); exact BK119.out⟩, ⟨by (with_reducible repeat (first | refine qd_ ?_ _ | refine qf_ ?_ | refine qe_ ?_ _)); refine qr_ (cs := #[.int .i64 t120, .int .i64 t121, .string (⟨#[]⟩ : ByteArray)]) ?_ 2 _ rfl; (with_reducible repeat (first | refine qd_ ?_ _ | refine qf_ ?_ | refine qe_ ?_ _)); refine qr_ (cs := #[.int .i64 t120, .int .i64 0, .string (⟨#[]⟩ : ByteArray)]) ?_ 1 _ rfl; (with_reducible repeat (first | refine qd_ ?_ _ | refine qf_ ?_ | refine qe_ ?_ _)); refine qr_ (cs := #[.int .i64 0, .int .i64 0, .string (⟨#[]⟩ : ByteArray)]) ?_ 0 _ rfl; (with_reducible repeat (first | refine qd_ ?_ _ | refine qf_ ?_ | refine qe_ ?_ _)); exact BK124.out⟩, ⟨by repeat (first | (with_reducible first | exact HB.out | apply qc_ | apply qa_ | apply qb_ | refine qg_ ?_ GE101.out | refine qg_ ?_ GE102.out | refine qg_ ?_ GE114.out | refine qg_ ?_ GE119.out | refine qg_ ?_ GE124.out) | exact HB.out)⟩⟩
          ·rw [if_neg c88] at H
           have c88b0 : (t118 != t123) = false := by simpa using c88
           (try (have c88b1 : decide (t118 = t123) = true := by simpa using c88))
           (try (have c88b2 : (t118 == t123) = true := by simpa using c88))
           clear c88
           replace H := ob_ H
           obtain ⟨t126, A1030, H⟩ := H
           replace H : (law04_EntryPuts.j1 kj5 t107 (!t126) a2_0 a2_1) = some r := H
           have A103 := Aside0.mk A1030
           clear A1030
           have H' := Aside0.mk H
           clear H
           have hnb104 := NB114_101.out
           have hnc104 := NB101_114.out
           have hnb105 := NB114_102.out
           have hnc105 := NB102_114.out
           have hnb106 := NB114_119.out
           have hnc106 := NB119_114.out
           have hnb107 := NB114_124.out
           have hnc107 := NB124_114.out
           have hcz108_0 : w44.cell? ⟨gb114, 0, none⟩ = some (.int .i64 t110) := (qi_ BK114.out 0).trans rfl
           have hcz108_1 : w44.cell? ⟨gb114, 1, none⟩ = some (.int .i64 t111) := (qi_ BK114.out 1).trans rfl
           have hcz108_2 : w44.cell? ⟨gb114, 2, none⟩ = some (.string t112) := (qi_ BK114.out 2).trans rfl
           have hfz108_0 := qh_ BK114.out 0
           have hfz108_1 := qh_ BK114.out 1
           have hfz108_2 := qh_ BK114.out 2
           have hnb109 := NB101_102.out
           have hnc109 := NB102_101.out
           have hnb110 := NB101_119.out
           have hnc110 := NB119_101.out
           have hnb111 := NB101_124.out
           have hnc111 := NB124_101.out
           have hcz112_0 : w44.cell? ⟨gb101, 0, none⟩ = some (.int .i64 a1_0) := (qi_ BK101.out 0).trans rfl
           have hcz112_1 : w44.cell? ⟨gb101, 1, none⟩ = some (.int .i64 a1_1) := (qi_ BK101.out 1).trans rfl
           have hcz112_2 : w44.cell? ⟨gb101, 2, none⟩ = some (.string a1_2) := (qi_ BK101.out 2).trans rfl
           have hfz112_0 := qh_ BK101.out 0
           have hfz112_1 := qh_ BK101.out 1
           have hfz112_2 := qh_ BK101.out 2
           have hnb113 := NB119_102.out
           have hnc113 := NB102_119.out
           have hnb114 := NB119_124.out
           have hnc114 := NB124_119.out
           have hcz115_0 : w44.cell? ⟨gb119, 0, none⟩ = some (.int .i64 t115) := (qi_ BK119.out 0).trans rfl
           have hcz115_1 : w44.cell? ⟨gb119, 1, none⟩ = some (.int .i64 t116) := (qi_ BK119.out 1).trans rfl
           have hcz115_2 : w44.cell? ⟨gb119, 2, none⟩ = some (.string t117) := (qi_ BK119.out 2).trans rfl
           have hfz115_0 := qh_ BK119.out 0
           have hfz115_1 := qh_ BK119.out 1
           have hfz115_2 := qh_ BK119.out 2
           have hnb116 := NB124_102.out
           have hnc116 := NB102_124.out
           have hcz117_0 : w44.cell? ⟨gb124, 0, none⟩ = some (.int .i64 0) := (qi_ BK124.out 0).trans rfl
           have hcz117_1 : w44.cell? ⟨gb124, 1, none⟩ = some (.int .i64 0) := (qi_ BK124.out 1).trans rfl
           have hcz117_2 : w44.cell? ⟨gb124, 2, none⟩ = some (.string (⟨#[]⟩ : ByteArray)) := (qi_ BK124.out 2).trans rfl
           have hfz117_0 := qh_ BK124.out 0
           have hfz117_1 := qh_ BK124.out 1
           have hfz117_2 := qh_ BK124.out 2
           go_wp2_with (first | (go_at_call 14; (with_reducible refine (entry_Right.calls kj5 _ _ t107 t126 _ ?side1 ?side2 A103.out).mono ?_); (case side1 => refine (Kd.R_reads' (e := 30) (base := w.heap.size) (ok := fun k_ => ((((True ∧ k_ ≠ gb101) ∧ k_ ≠ gb114) ∧ k_ ≠ gb119) ∧ k_ ≠ gb124)) (n := t107.length) (c := co30) ?_).2.2; exact (by (with_reducible repeat (first | apply Kd.qn_ | apply Kd.qm_ | apply Kd.R_drew)); exact (Kd.R_mono (Kd.R_far (p := ⟨gb124, 2, none⟩) (Kd.R_far (p := ⟨gb124, 1, none⟩) (Kd.R_far (p := ⟨gb124, 0, none⟩) (Kd.R_mono HO109.out (fun k_ hk => (⟨hk, hk.2⟩ : _ ∧ k_ ≠ gb124))) (fun _ hk => hk.2) (.int .i64 t120)) (fun _ hk => hk.2) (.int .i64 t121)) (fun _ hk => hk.2) (.string t122)) (fun _ h_ => h_.1)))); (case side2 => exact (Kd.R_reads' HO109.out).2.1); rintro e w118 ⟨rfl, hb⟩; have n0_ := Aside0.mk (Kd.R_below (by (with_reducible repeat (first | apply Kd.qn_ | apply Kd.qm_ | apply Kd.R_drew)); exact (Kd.R_mono (Kd.R_far (p := ⟨gb124, 2, none⟩) (Kd.R_far (p := ⟨gb124, 1, none⟩) (Kd.R_far (p := ⟨gb124, 0, none⟩) (Kd.R_mono HO109.out (fun k_ hk => (⟨hk, hk.2⟩ : _ ∧ k_ ≠ gb124))) (fun _ hk => hk.2) (.int .i64 t120)) (fun _ hk => hk.2) (.int .i64 t121)) (fun _ hk => hk.2) (.string t122)) (fun _ h_ => h_.1))) hb); have n1_ := Aside0.mk (ql_ (g := gb101) (o := .cells #[.int .i64 a1_0, .int .i64 a1_1, .string a1_2] 30 (0, 0)) (by (with_reducible repeat (first | refine qd_ ?_ _ | refine qf_ ?_ | refine qe_ ?_ _)); refine qo_ ?_ NB101_124.out _; (with_reducible repeat (first | refine qd_ ?_ _ | refine qf_ ?_ | refine qe_ ?_ _)); refine qo_ ?_ NB101_124.out _; (with_reducible repeat (first | refine qd_ ?_ _ | refine qf_ ?_ | refine qe_ ?_ _)); refine qo_ ?_ NB101_124.out _; (with_reducible repeat (first | refine qd_ ?_ _ | refine qf_ ?_ | refine qe_ ?_ _)); exact BK101.out) hb); have n2_ := Aside0.mk (ql_ (g := gb102) (o := .cells #[.int .u8 a2_0, .int .u8 a2_1] 38 (0, 0)) (by (with_reducible repeat (first | refine qd_ ?_ _ | refine qf_ ?_ | refine qe_ ?_ _)); refine qo_ ?_ NB102_124.out _; (with_reducible repeat (first | refine qd_ ?_ _ | refine qf_ ?_ | refine qe_ ?_ _)); refine qo_ ?_ NB102_124.out _; (with_reducible repeat (first | refine qd_ ?_ _ | refine qf_ ?_ | refine qe_ ?_ _)); refine qo_ ?_ NB102_124.out _; (with_reducible repeat (first | refine qd_ ?_ _ | refine qf_ ?_ | refine qe_ ?_ _)); exact BK102.out) hb); have n3_ := Aside0.mk (ql_ (g := gb114) (o := .cells #[.int .i64 t110, .int .i64 t111, .string t112] 30 (0, 0)) (by (with_reducible repeat (first | refine qd_ ?_ _ | refine qf_ ?_ | refine qe_ ?_ _)); refine qo_ ?_ NB114_124.out _; (with_reducible repeat (first | refine qd_ ?_ _ | refine qf_ ?_ | refine qe_ ?_ _)); refine qo_ ?_ NB114_124.out _; (with_reducible repeat (first | refine qd_ ?_ _ | refine qf_ ?_ | refine qe_ ?_ _)); refine qo_ ?_ NB114_124.out _; (with_reducible repeat (first | refine qd_ ?_ _ | refine qf_ ?_ | refine qe_ ?_ _)); exact BK114.out) hb); have n4_ := Aside0.mk (ql_ (g := gb119) (o := .cells #[.int .i64 t115, .int .i64 t116, .string t117] 30 (0, 0)) (by (with_reducible repeat (first | refine qd_ ?_ _ | refine qf_ ?_ | refine qe_ ?_ _)); refine qo_ ?_ NB119_124.out _; (with_reducible repeat (first | refine qd_ ?_ _ | refine qf_ ?_ | refine qe_ ?_ _)); refine qo_ ?_ NB119_124.out _; (with_reducible repeat (first | refine qd_ ?_ _ | refine qf_ ?_ | refine qe_ ?_ _)); refine qo_ ?_ NB119_124.out _; (with_reducible repeat (first | refine qd_ ?_ _ | refine qf_ ?_ | refine qe_ ?_ _)); exact BK119.out) hb); have n5_ := Aside0.mk (ql_ (g := gb124) (o := .cells #[.int .i64 t120, .int .i64 t121, .string t122] 30 (0, 0)) (by (with_reducible repeat (first | refine qd_ ?_ _ | refine qf_ ?_ | refine qe_ ?_ _)); refine qr_ (cs := #[.int .i64 t120, .int .i64 t121, .string (⟨#[]⟩ : ByteArray)]) ?_ 2 _ rfl; (with_reducible repeat (first | refine qd_ ?_ _ | refine qf_ ?_ | refine qe_ ?_ _)); refine qr_ (cs := #[.int .i64 t120, .int .i64 0, .string (⟨#[]⟩ : ByteArray)]) ?_ 1 _ rfl; (with_reducible repeat (first | refine qd_ ?_ _ | refine qf_ ?_ | refine qe_ ?_ _)); refine qr_ (cs := #[.int .i64 0, .int .i64 0, .string (⟨#[]⟩ : ByteArray)]) ?_ 0 _ rfl; (with_reducible repeat (first | refine qd_ ?_ _ | refine qf_ ?_ | refine qe_ ?_ _)); exact BK124.out) hb); have n6_ := Aside0.mk (qk_ (by repeat (first | (with_reducible first | exact HB.out | apply qc_ | apply qa_ | apply qb_ | refine qg_ ?_ GE101.out | refine qg_ ?_ GE102.out | refine qg_ ?_ GE114.out | refine qg_ ?_ GE119.out | refine qg_ ?_ GE124.out) | exact HB.out)) hb); clear HO109; clear BK101; clear BK102; clear BK114; clear BK119; clear BK124; clear HB; have HO109 := n0_; have BK101 := n1_; have BK102 := n2_; have BK114 := n3_; have BK119 := n4_; have BK124 := n5_; have HB := n6_; clear n0_ n1_ n2_ n3_ n4_ n5_ n6_; (try clear hb); (try clear hb2); (try clear hk); (try clear hi)))
           repeat (go_quiet (first | (go_at_call 14; (with_reducible refine (entry_Right.calls kj5 _ _ t107 t126 _ ?side1 ?side2 A103.out).mono ?_); (case side1 => refine (Kd.R_reads' (e := 30) (base := w.heap.size) (ok := fun k_ => ((((True ∧ k_ ≠ gb101) ∧ k_ ≠ gb114) ∧ k_ ≠ gb119) ∧ k_ ≠ gb124)) (n := t107.length) (c := co30) ?_).2.2; exact (by (with_reducible repeat (first | apply Kd.qn_ | apply Kd.qm_ | apply Kd.R_drew)); exact (Kd.R_mono (Kd.R_far (p := ⟨gb124, 2, none⟩) (Kd.R_far (p := ⟨gb124, 1, none⟩) (Kd.R_far (p := ⟨gb124, 0, none⟩) (Kd.R_mono HO109.out (fun k_ hk => (⟨hk, hk.2⟩ : _ ∧ k_ ≠ gb124))) (fun _ hk => hk.2) (.int .i64 t120)) (fun _ hk => hk.2) (.int .i64 t121)) (fun _ hk => hk.2) (.string t122)) (fun _ h_ => h_.1)))); (case side2 => exact (Kd.R_reads' HO109.out).2.1); rintro e w118 ⟨rfl, hb⟩; have n0_ := Aside0.mk (Kd.R_below (by (with_reducible repeat (first | apply Kd.qn_ | apply Kd.qm_ | apply Kd.R_drew)); exact (Kd.R_mono (Kd.R_far (p := ⟨gb124, 2, none⟩) (Kd.R_far (p := ⟨gb124, 1, none⟩) (Kd.R_far (p := ⟨gb124, 0, none⟩) (Kd.R_mono HO109.out (fun k_ hk => (⟨hk, hk.2⟩ : _ ∧ k_ ≠ gb124))) (fun _ hk => hk.2) (.int .i64 t120)) (fun _ hk => hk.2) (.int .i64 t121)) (fun _ hk => hk.2) (.string t122)) (fun _ h_ => h_.1))) hb); have n1_ := Aside0.mk (ql_ (g := gb101) (o := .cells #[.int .i64 a1_0, .int .i64 a1_1, .string a1_2] 30 (0, 0)) (by (with_reducible repeat (first | refine qd_ ?_ _ | refine qf_ ?_ | refine qe_ ?_ _)); refine qo_ ?_ NB101_124.out _; (with_reducible repeat (first | refine qd_ ?_ _ | refine qf_ ?_ | refine qe_ ?_ _)); refine qo_ ?_ NB101_124.out _; (with_reducible repeat (first | refine qd_ ?_ _ | refine qf_ ?_ | refine qe_ ?_ _)); refine qo_ ?_ NB101_124.out _; (with_reducible repeat (first | refine qd_ ?_ _ | refine qf_ ?_ | refine qe_ ?_ _)); exact BK101.out) hb); have n2_ := Aside0.mk (ql_ (g := gb102) (o := .cells #[.int .u8 a2_0, .int .u8 a2_1] 38 (0, 0)) (by (with_reducible repeat (first | refine qd_ ?_ _ | refine qf_ ?_ | refine qe_ ?_ _)); refine qo_ ?_ NB102_124.out _; (with_reducible repeat (first | refine qd_ ?_ _ | refine qf_ ?_ | refine qe_ ?_ _)); refine qo_ ?_ NB102_124.out _; (with_reducible repeat (first | refine qd_ ?_ _ | refine qf_ ?_ | refine qe_ ?_ _)); refine qo_ ?_ NB102_124.out _; (with_reducible repeat (first | refine qd_ ?_ _ | refine qf_ ?_ | refine qe_ ?_ _)); exact BK102.out) hb); have n3_ := Aside0.mk (ql_ (g := gb114) (o := .cells #[.int .i64 t110, .int .i64 t111, .string t112] 30 (0, 0)) (by (with_reducible repeat (first | refine qd_ ?_ _ | refine qf_ ?_ | refine qe_ ?_ _)); refine qo_ ?_ NB114_124.out _; (with_reducible repeat (first | refine qd_ ?_ _ | refine qf_ ?_ | refine qe_ ?_ _)); refine qo_ ?_ NB114_124.out _; (with_reducible repeat (first | refine qd_ ?_ _ | refine qf_ ?_ | refine qe_ ?_ _)); refine qo_ ?_ NB114_124.out _; (with_reducible repeat (first | refine qd_ ?_ _ | refine qf_ ?_ | refine qe_ ?_ _)); exact BK114.out) hb); have n4_ := Aside0.mk (ql_ (g := gb119) (o := .cells #[.int .i64 t115, .int .i64 t116, .string t117] 30 (0, 0)) (by (with_reducible repeat (first | refine qd_ ?_ _ | refine qf_ ?_ | refine qe_ ?_ _)); refine qo_ ?_ NB119_124.out _; (with_reducible repeat (first | refine qd_ ?_ _ | refine qf_ ?_ | refine qe_ ?_ _)); refine qo_ ?_ NB119_124.out _; (with_reducible repeat (first | refine qd_ ?_ _ | refine qf_ ?_ | refine qe_ ?_ _)); refine qo_ ?_ NB119_124.out _; (with_reducible repeat (first | refine qd_ ?_ _ | refine qf_ ?_ | refine qe_ ?_ _)); exact BK119.out) hb); have n5_ := Aside0.mk (ql_ (g := gb124) (o := .cells #[.int .i64 t120, .int .i64 t121, .string t122] 30 (0, 0)) (by (with_reducible repeat (first | refine qd_ ?_ _ | refine qf_ ?_ | refine qe_ ?_ _)); refine qr_ (cs := #[.int .i64 t120, .int .i64 t121, .string (⟨#[]⟩ : ByteArray)]) ?_ 2 _ rfl; (with_reducible repeat (first | refine qd_ ?_ _ | refine qf_ ?_ | refine qe_ ?_ _)); refine qr_ (cs := #[.int .i64 t120, .int .i64 0, .string (⟨#[]⟩ : ByteArray)]) ?_ 1 _ rfl; (with_reducible repeat (first | refine qd_ ?_ _ | refine qf_ ?_ | refine qe_ ?_ _)); refine qr_ (cs := #[.int .i64 0, .int .i64 0, .string (⟨#[]⟩ : ByteArray)]) ?_ 0 _ rfl; (with_reducible repeat (first | refine qd_ ?_ _ | refine qf_ ?_ | refine qe_ ?_ _)); exact BK124.out) hb); have n6_ := Aside0.mk (qk_ (by repeat (first | (with_reducible first | exact HB.out | apply qc_ | apply qa_ | apply qb_ | refine qg_ ?_ GE101.out | refine qg_ ?_ GE102.out | refine qg_ ?_ GE114.out | refine qg_ ?_ GE119.out | refine qg_ ?_ GE124.out) | exact HB.out)) hb); clear HO109; clear BK101; clear BK102; clear BK114; clear BK119; clear BK124; clear HB; have HO109 := n0_; have BK101 := n1_; have BK102 := n2_; have BK114 := n3_; have BK119 := n4_; have BK124 := n5_; have HB := n6_; clear n0_ n1_ n2_ n3_ n4_ n5_ n6_; (try clear hb); (try clear hb2); (try clear hk); (try clear hi))); try go_wp2_with (first | (go_at_call 14; (with_reducible refine (entry_Right.calls kj5 _ _ t107 t126 _ ?side1 ?side2 A103.out).mono ?_); (case side1 => refine (Kd.R_reads' (e := 30) (base := w.heap.size) (ok := fun k_ => ((((True ∧ k_ ≠ gb101) ∧ k_ ≠ gb114) ∧ k_ ≠ gb119) ∧ k_ ≠ gb124)) (n := t107.length) (c := co30) ?_).2.2; exact (by (with_reducible repeat (first | apply Kd.qn_ | apply Kd.qm_ | apply Kd.R_drew)); exact (Kd.R_mono (Kd.R_far (p := ⟨gb124, 2, none⟩) (Kd.R_far (p := ⟨gb124, 1, none⟩) (Kd.R_far (p := ⟨gb124, 0, none⟩) (Kd.R_mono HO109.out (fun k_ hk => (⟨hk, hk.2⟩ : _ ∧ k_ ≠ gb124))) (fun _ hk => hk.2) (.int .i64 t120)) (fun _ hk => hk.2) (.int .i64 t121)) (fun _ hk => hk.2) (.string t122)) (fun _ h_ => h_.1)))); (case side2 => exact (Kd.R_reads' HO109.out).2.1); rintro e w118 ⟨rfl, hb⟩; have n0_ := Aside0.mk (Kd.R_below (by (with_reducible repeat (first | apply Kd.qn_ | apply Kd.qm_ | apply Kd.R_drew)); exact (Kd.R_mono (Kd.R_far (p := ⟨gb124, 2, none⟩) (Kd.R_far (p := ⟨gb124, 1, none⟩) (Kd.R_far (p := ⟨gb124, 0, none⟩) (Kd.R_mono HO109.out (fun k_ hk => (⟨hk, hk.2⟩ : _ ∧ k_ ≠ gb124))) (fun _ hk => hk.2) (.int .i64 t120)) (fun _ hk => hk.2) (.int .i64 t121)) (fun _ hk => hk.2) (.string t122)) (fun _ h_ => h_.1))) hb); have n1_ := Aside0.mk (ql_ (g := gb101) (o := .cells #[.int .i64 a1_0, .int .i64 a1_1, .string a1_2] 30 (0, 0)) (by (with_reducible repeat (first | refine qd_ ?_ _ | refine qf_ ?_ | refine qe_ ?_ _)); refine qo_ ?_ NB101_124.out _; (with_reducible repeat (first | refine qd_ ?_ _ | refine qf_ ?_ | refine qe_ ?_ _)); refine qo_ ?_ NB101_124.out _; (with_reducible repeat (first | refine qd_ ?_ _ | refine qf_ ?_ | refine qe_ ?_ _)); refine qo_ ?_ NB101_124.out _; (with_reducible repeat (first | refine qd_ ?_ _ | refine qf_ ?_ | refine qe_ ?_ _)); exact BK101.out) hb); have n2_ := Aside0.mk (ql_ (g := gb102) (o := .cells #[.int .u8 a2_0, .int .u8 a2_1] 38 (0, 0)) (by (with_reducible repeat (first | refine qd_ ?_ _ | refine qf_ ?_ | refine qe_ ?_ _)); refine qo_ ?_ NB102_124.out _; (with_reducible repeat (first | refine qd_ ?_ _ | refine qf_ ?_ | refine qe_ ?_ _)); refine qo_ ?_ NB102_124.out _; (with_reducible repeat (first | refine qd_ ?_ _ | refine qf_ ?_ | refine qe_ ?_ _)); refine qo_ ?_ NB102_124.out _; (with_reducible repeat (first | refine qd_ ?_ _ | refine qf_ ?_ | refine qe_ ?_ _)); exact BK102.out) hb); have n3_ := Aside0.mk (ql_ (g := gb114) (o := .cells #[.int .i64 t110, .int .i64 t111, .string t112] 30 (0, 0)) (by (with_reducible repeat (first | refine qd_ ?_ _ | refine qf_ ?_ | refine qe_ ?_ _)); refine qo_ ?_ NB114_124.out _; (with_reducible repeat (first | refine qd_ ?_ _ | refine qf_ ?_ | refine qe_ ?_ _)); refine qo_ ?_ NB114_124.out _; (with_reducible repeat (first | refine qd_ ?_ _ | refine qf_ ?_ | refine qe_ ?_ _)); refine qo_ ?_ NB114_124.out _; (with_reducible repeat (first | refine qd_ ?_ _ | refine qf_ ?_ | refine qe_ ?_ _)); exact BK114.out) hb); have n4_ := Aside0.mk (ql_ (g := gb119) (o := .cells #[.int .i64 t115, .int .i64 t116, .string t117] 30 (0, 0)) (by (with_reducible repeat (first | refine qd_ ?_ _ | refine qf_ ?_ | refine qe_ ?_ _)); refine qo_ ?_ NB119_124.out _; (with_reducible repeat (first | refine qd_ ?_ _ | refine qf_ ?_ | refine qe_ ?_ _)); refine qo_ ?_ NB119_124.out _; (with_reducible repeat (first | refine qd_ ?_ _ | refine qf_ ?_ | refine qe_ ?_ _)); refine qo_ ?_ NB119_124.out _; (with_reducible repeat (first | refine qd_ ?_ _ | refine qf_ ?_ | refine qe_ ?_ _)); exact BK119.out) hb); have n5_ := Aside0.mk (ql_ (g := gb124) (o := .cells #[.int .i64 t120, .int .i64 t121, .string t122] 30 (0, 0)) (by (with_reducible repeat (first | refine qd_ ?_ _ | refine qf_ ?_ | refine qe_ ?_ _)); refine qr_ (cs := #[.int .i64 t120, .int .i64 t121, .string (⟨#[]⟩ : ByteArray)]) ?_ 2 _ rfl; (with_reducible repeat (first | refine qd_ ?_ _ | refine qf_ ?_ | refine qe_ ?_ _)); refine qr_ (cs := #[.int .i64 t120, .int .i64 0, .string (⟨#[]⟩ : ByteArray)]) ?_ 1 _ rfl; (with_reducible repeat (first | refine qd_ ?_ _ | refine qf_ ?_ | refine qe_ ?_ _)); refine qr_ (cs := #[.int .i64 0, .int .i64 0, .string (⟨#[]⟩ : ByteArray)]) ?_ 0 _ rfl; (with_reducible repeat (first | refine qd_ ?_ _ | refine qf_ ?_ | refine qe_ ?_ _)); exact BK124.out) hb); have n6_ := Aside0.mk (qk_ (by repeat (first | (with_reducible first | exact HB.out | apply qc_ | apply qa_ | apply qb_ | refine qg_ ?_ GE101.out | refine qg_ ?_ GE102.out | refine qg_ ?_ GE114.out | refine qg_ ?_ GE119.out | refine qg_ ?_ GE124.out) | exact HB.out)) hb); clear HO109; clear BK101; clear BK102; clear BK114; clear BK119; clear BK124; clear HB; have HO109 := n0_; have BK101 := n1_; have BK102 := n2_; have BK114 := n3_; have BK119 := n4_; have BK124 := n5_; have HB := n6_; clear n0_ n1_ n2_ n3_ n4_ n5_ n6_; (try clear hb); (try clear hb2); (try clear hk); (try clear hi))))
           go_meet
           case rel => exact ⟨_, (!t126), (by first | rfl | (simp; done) | (simp [*]; done)), H', ⟨by have := HJ5.out; first | omega | exact Nat.le_refl _⟩, ⟨by (with_reducible repeat (first | apply Kd.qn_ | apply Kd.qm_ | apply Kd.R_drew)); exact Kd.R_mono HO109.out (fun _ hk => ⟨hk.1.1.1.2, ⟨hk.1.1.2, ⟨hk.1.2, hk.2⟩⟩⟩)⟩, ⟨by (with_reducible repeat (first | refine qd_ ?_ _ | refine qf_ ?_ | refine qe_ ?_ _)); exact BK101.out⟩, ⟨by (with_reducible repeat (first | refine qd_ ?_ _ | refine qf_ ?_ | refine qe_ ?_ _)); exact BK102.out⟩, ⟨by (with_reducible repeat (first | refine qd_ ?_ _ | refine qf_ ?_ | refine qe_ ?_ _)); exact BK114.out⟩, ⟨by (with_reducible repeat (first | refine qd_ ?_ _ | refine qf_ ?_ | refine qe_ ?_ _)); exact BK119.out⟩, ⟨by (with_reducible repeat (first | refine qd_ ?_ _ | refine qf_ ?_ | refine qe_ ?_ _)); exact BK124.out⟩, ⟨by repeat (first | (with_reducible first | exact HB.out | apply qc_ | apply qa_ | apply qb_ | refine qg_ ?_ GE101.out | refine qg_ ?_ GE102.out | refine qg_ ?_ GE114.out | refine qg_ ?_ GE119.out | refine qg_ ?_ GE124.out) | exact HB.out)⟩⟩
      ·replace c50 := Bool.eq_false_iff.mpr c50
       subst c50
       have H1 : (law04_EntryPuts.j1 kj5 t107 true a2_0 a2_1) = some r := by rw [if_neg (show ¬ (false = true) by decide)] at H; exact H
       clear H
       have H := H1
       clear H1
       have H' := Aside0.mk H
       clear H
       go_wp2
       repeat (go_quiet (fail); try go_wp2)
       go_meet
       case rel => exact ⟨_, (true), (by first | rfl | (simp; done) | (simp [*]; done)), H', ⟨by have := HJ5.out; first | omega | exact Nat.le_refl _⟩, ⟨by (with_reducible repeat (first | apply Kd.qn_ | apply Kd.qm_ | apply Kd.R_drew)); exact Kd.R_mono (Kd.R_far (p := ⟨gb124, 2, none⟩) (Kd.R_far (p := ⟨gb124, 1, none⟩) (Kd.R_far (p := ⟨gb124, 0, none⟩) (Kd.R_mono HO109.out (fun k_ hk => (⟨hk, hk.2⟩ : _ ∧ k_ ≠ gb124))) (fun _ hk => hk.2) (.int .i64 t120)) (fun _ hk => hk.2) (.int .i64 t121)) (fun _ hk => hk.2) (.string t122)) (fun _ hk => ⟨hk.1.1.1.1.2, ⟨hk.1.1.1.2, ⟨hk.1.1.2, hk.1.2⟩⟩⟩)⟩, ⟨by (with_reducible repeat (first | refine qd_ ?_ _ | refine qf_ ?_ | refine qe_ ?_ _)); refine qo_ ?_ NB101_124.out _; (with_reducible repeat (first | refine qd_ ?_ _ | refine qf_ ?_ | refine qe_ ?_ _)); refine qo_ ?_ NB101_124.out _; (with_reducible repeat (first | refine qd_ ?_ _ | refine qf_ ?_ | refine qe_ ?_ _)); refine qo_ ?_ NB101_124.out _; (with_reducible repeat (first | refine qd_ ?_ _ | refine qf_ ?_ | refine qe_ ?_ _)); exact BK101.out⟩, ⟨by (with_reducible repeat (first | refine qd_ ?_ _ | refine qf_ ?_ | refine qe_ ?_ _)); refine qo_ ?_ NB102_124.out _; (with_reducible repeat (first | refine qd_ ?_ _ | refine qf_ ?_ | refine qe_ ?_ _)); refine qo_ ?_ NB102_124.out _; (with_reducible repeat (first | refine qd_ ?_ _ | refine qf_ ?_ | refine qe_ ?_ _)); refine qo_ ?_ NB102_124.out _; (with_reducible repeat (first | refine qd_ ?_ _ | refine qf_ ?_ | refine qe_ ?_ _)); exact BK102.out⟩, ⟨by (with_reducible repeat (first | refine qd_ ?_ _ | refine qf_ ?_ | refine qe_ ?_ _)); refine qo_ ?_ NB114_124.out _; (with_reducible repeat (first | refine qd_ ?_ _ | refine qf_ ?_ | refine qe_ ?_ _)); refine qo_ ?_ NB114_124.out _; (with_reducible repeat (first | refine qd_ ?_ _ | refine qf_ ?_ | refine qe_ ?_ _)); refine qo_ ?_ NB114_124.out _; (with_reducible repeat (first | refine qd_ ?_ _ | refine qf_ ?_ | refine qe_ ?_ _)); exact BK114.out⟩, ⟨by (with_reducible repeat (first | refine qd_ ?_ _ | refine qf_ ?_ | refine qe_ ?_ _)); refine qo_ ?_ NB119_124.out _; (with_reducible repeat (first | refine qd_ ?_ _ | refine qf_ ?_ | refine qe_ ?_ _)); refine qo_ ?_ NB119_124.out _; (with_reducible repeat (first | refine qd_ ?_ _ | refine qf_ ?_ | refine qe_ ?_ _)); refine qo_ ?_ NB119_124.out _; (with_reducible repeat (first | refine qd_ ?_ _ | refine qf_ ?_ | refine qe_ ?_ _)); exact BK119.out⟩, ⟨by (with_reducible repeat (first | refine qd_ ?_ _ | refine qf_ ?_ | refine qe_ ?_ _)); refine qr_ (cs := #[.int .i64 t120, .int .i64 t121, .string (⟨#[]⟩ : ByteArray)]) ?_ 2 _ rfl; (with_reducible repeat (first | refine qd_ ?_ _ | refine qf_ ?_ | refine qe_ ?_ _)); refine qr_ (cs := #[.int .i64 t120, .int .i64 0, .string (⟨#[]⟩ : ByteArray)]) ?_ 1 _ rfl; (with_reducible repeat (first | refine qd_ ?_ _ | refine qf_ ?_ | refine qe_ ?_ _)); refine qr_ (cs := #[.int .i64 0, .int .i64 0, .string (⟨#[]⟩ : ByteArray)]) ?_ 0 _ rfl; (with_reducible repeat (first | refine qd_ ?_ _ | refine qf_ ?_ | refine qe_ ?_ _)); exact BK124.out⟩, ⟨by repeat (first | (with_reducible first | exact HB.out | apply qc_ | apply qa_ | apply qb_ | refine qg_ ?_ GE101.out | refine qg_ ?_ GE102.out | refine qg_ ?_ GE114.out | refine qg_ ?_ GE119.out | refine qg_ ?_ GE124.out) | exact HB.out)⟩⟩
     case rest =>
      clear HC25
      try clear c1
      try clear c2
      try clear p2
      try clear c3
      try clear c4
      try clear c5
      try clear c6
      try clear p6
      try clear c7
      try clear c8
      try clear c9
      try clear c10
      try clear c11
      try clear c13
      try clear c16
      try clear c20
      try clear c26
      try clear c33
      try clear c34
      try clear c39
      try clear c40
      try clear c41
      try clear c45
      try clear c46
      try clear c47
      try clear c48
      try clear c50
      try clear c51
      try clear c51b0
      try clear c52
      try clear c53
      try clear c54
      try clear c55
      try clear c57
      try clear c58
      try clear c59
      try clear c61
      try clear c61b0
      try clear c61b1
      try clear c63
      try clear c64
      try clear p64
      try clear c65
      try clear c66
      try clear c68
      try clear c69
      try clear c70
      try clear c73
      try clear c73b0
      try clear c74
      try clear c75
      try clear c76
      try clear c77
      try clear c79
      try clear c80
      try clear c81
      try clear c83
      try clear c84
      try clear c86
      try clear c88
      try clear c88b0
      try clear c88b1
      try clear c88b2
      try clear c89
      try clear c90
      try clear c91
      try clear c92
      try clear c94
      try clear c95
      try clear c96
      try clear c98
      try clear c99
      try clear c101
      try clear c104
      try clear c105
      try clear c106
      try clear c107
      try clear c109
      try clear c110
      try clear c111
      try clear c113
      try clear c114
      try clear c116
      try clear hcz100_0
      try clear hcz100_1
      try clear hcz100_2
      try clear hcz102_0
      try clear hcz102_1
      try clear hcz102_2
      try clear hcz108_0
      try clear hcz108_1
      try clear hcz108_2
      try clear hcz112_0
      try clear hcz112_1
      try clear hcz112_2
      try clear hcz115_0
      try clear hcz115_1
      try clear hcz115_2
      try clear hcz117_0
      try clear hcz117_1
      try clear hcz117_2
      try clear hcz17_0
      try clear hcz17_1
      try clear hcz17_2
      try clear hcz27_0
      try clear hcz27_1
      try clear hcz27_2
      try clear hcz29_0
      try clear hcz29_1
      try clear hcz29_2
      try clear hcz35_0
      try clear hcz35_1
      try clear hcz35_2
      try clear hcz36_0
      try clear hcz36_1
      try clear hcz42_0
      try clear hcz42_1
      try clear hcz42_2
      try clear hcz49_0
      try clear hcz49_1
      try clear hcz49_2
      try clear hcz56_0
      try clear hcz56_1
      try clear hcz56_2
      try clear hcz60_0
      try clear hcz60_1
      try clear hcz60_2
      try clear hcz67_0
      try clear hcz67_1
      try clear hcz67_2
      try clear hcz71_0
      try clear hcz71_1
      try clear hcz71_2
      try clear hcz78_0
      try clear hcz78_1
      try clear hcz78_2
      try clear hcz82_0
      try clear hcz82_1
      try clear hcz82_2
      try clear hcz85_0
      try clear hcz85_1
      try clear hcz85_2
      try clear hcz87_0
      try clear hcz87_1
      try clear hcz87_2
      try clear hcz93_0
      try clear hcz93_1
      try clear hcz93_2
      try clear hcz97_0
      try clear hcz97_1
      try clear hcz97_2
      try clear hfz100_0
      try clear hfz100_1
      try clear hfz100_2
      try clear hfz102_0
      try clear hfz102_1
      try clear hfz102_2
      try clear hfz108_0
      try clear hfz108_1
      try clear hfz108_2
      try clear hfz112_0
      try clear hfz112_1
      try clear hfz112_2
      try clear hfz115_0
      try clear hfz115_1
      try clear hfz115_2
      try clear hfz117_0
      try clear hfz117_1
      try clear hfz117_2
      try clear hfz17_0
      try clear hfz17_1
      try clear hfz17_2
      try clear hfz27_0
      try clear hfz27_1
      try clear hfz27_2
      try clear hfz29_0
      try clear hfz29_1
      try clear hfz29_2
      try clear hfz35_0
      try clear hfz35_1
      try clear hfz35_2
      try clear hfz36_0
      try clear hfz36_1
      try clear hfz42_0
      try clear hfz42_1
      try clear hfz42_2
      try clear hfz49_0
      try clear hfz49_1
      try clear hfz49_2
      try clear hfz56_0
      try clear hfz56_1
      try clear hfz56_2
      try clear hfz60_0
      try clear hfz60_1
      try clear hfz60_2
      try clear hfz67_0
      try clear hfz67_1
      try clear hfz67_2
      try clear hfz71_0
      try clear hfz71_1
      try clear hfz71_2
      try clear hfz78_0
      try clear hfz78_1
      try clear hfz78_2
      try clear hfz82_0
      try clear hfz82_1
      try clear hfz82_2
      try clear hfz85_0
      try clear hfz85_1
      try clear hfz85_2
      try clear hfz87_0
      try clear hfz87_1
      try clear hfz87_2
      try clear hfz93_0
      try clear hfz93_1
      try clear hfz93_2
      try clear hfz97_0
      try clear hfz97_1
      try clear hfz97_2
      try clear p2
      obtain ⟨kq, x85_24, rfl, HA, HJ24, HO_7, BK101, BK102, BK114, BK119, BK124, HB⟩ := hcut
      cases kq with
      | zero => exact absurd HA.out (by simp [law04_EntryPuts.j1])
      | succ kj24 =>
       have H := HA.out
       clear HA
       simp only [law04_EntryPuts.j1] at H
       by_cases c119 : x85_24 = true
       ·subst c119
        have H1 : (some false) = some r := by rw [if_pos rfl] at H; exact H
        clear H
        have H := H1
        clear H1
        obtain rfl := Option.some.inj H
        go_wp2
        repeat (go_quiet (fail); try go_wp2)
        go_ret
        exact ⟨by first | rfl | (simp [errW_none, errW_some] <;> rfl) | (simp [*, errW_none, errW_some] <;> rfl), by repeat (first | (with_reducible first | exact HB.out | apply qc_ | apply qa_ | apply qb_ | refine qg_ ?_ GE101.out | refine qg_ ?_ GE102.out | refine qg_ ?_ GE114.out | refine qg_ ?_ GE119.out | refine qg_ ?_ GE124.out) | exact HB.out)⟩
       ·replace c119 := Bool.eq_false_iff.mpr c119
        subst c119
        have H1 : ((entry_Above.f t107 (wrap64 (a2_1))).bind fun t127 => (law04_EntryPuts.l0 kj24 t107 t127 0 0 a2_0 a2_1)) = some r := by rw [if_neg (show ¬ (false = true) by decide)] at H; exact H
        clear H
        have H := H1
        clear H1
        replace H := ob_ H
        obtain ⟨t127, A1200, H⟩ := H
        replace H : (law04_EntryPuts.l0 kj24 t107 t127 0 0 a2_0 a2_1) = some r := H
        have A120 := Aside0.mk A1200
        clear A1200
        have H' := Aside0.mk H
        clear H
        have hnb121 := NB102_101.out
        have hnc121 := NB101_102.out
        have hnb122 := NB102_114.out
        have hnc122 := NB114_102.out
        have hnb123 := NB102_119.out
        have hnc123 := NB119_102.out
        have hnb124 := NB102_124.out
        have hnc124 := NB124_102.out
        have hcz125_0 : wc.cell? ⟨gb102, 0, none⟩ = some (.int .u8 a2_0) := (qi_ BK102.out 0).trans rfl
        have hcz125_1 : wc.cell? ⟨gb102, 1, none⟩ = some (.int .u8 a2_1) := (qi_ BK102.out 1).trans rfl
        have hfz125_0 := qh_ BK102.out 0
        have hfz125_1 := qh_ BK102.out 1
        go_wp2_with (first | (go_at_call 20; (with_reducible refine (entry_Above.calls _ _ t107 (wrap64 (a2_1)) t127 _ ?side1 ?side2 A120.out).mono ?_); (case side1 => repeat (first | exact (Kd.R_reads' HO_7.out).2.2 | (with_reducible refine Kd.qt_ ?_ _) | (with_reducible refine Kd.qs_ ?_ _) | (with_reducible refine Kd.C_drew ?_))); (case side2 => exact (Kd.R_reads' HO_7.out).2.1); rintro e w126 ⟨v128, rfl, ho0, hb⟩; have n0_ := Aside0.mk (Kd.R_elder' (by (with_reducible repeat (first | apply Kd.qn_ | apply Kd.qm_ | apply Kd.R_drew)); exact HO_7.out) (Kd.R_base ho0) hb); have n1_ := Aside0.mk (Kd.R_lower (Kd.R_newB (Kd.R_newB (Kd.R_newB (Kd.R_newB (Kd.R_new' ho0 (Kd.R_lt (by (with_reducible repeat (first | apply Kd.qn_ | apply Kd.qm_ | apply Kd.R_drew)); exact HO_7.out))) (g := gb101) (o := .cells #[.int .i64 a1_0, .int .i64 a1_1, .string a1_2] 30 (0, 0)) (by (with_reducible repeat (first | refine qd_ ?_ _ | refine qf_ ?_ | refine qe_ ?_ _)); exact BK101.out)) (g := gb114) (o := .cells #[.int .i64 t110, .int .i64 t111, .string t112] 30 (0, 0)) (by (with_reducible repeat (first | refine qd_ ?_ _ | refine qf_ ?_ | refine qe_ ?_ _)); exact BK114.out)) (g := gb119) (o := .cells #[.int .i64 t115, .int .i64 t116, .string t117] 30 (0, 0)) (by (with_reducible repeat (first | refine qd_ ?_ _ | refine qf_ ?_ | refine qe_ ?_ _)); exact BK119.out)) (g := gb124) (o := .cells #[.int .i64 t120, .int .i64 t121, .string t122] 30 (0, 0)) (by (with_reducible repeat (first | refine qd_ ?_ _ | refine qf_ ?_ | refine qe_ ?_ _)); exact BK124.out)) (qj_ (by repeat (first | (with_reducible first | exact HB.out | apply qc_ | apply qa_ | apply qb_ | refine qg_ ?_ GE101.out | refine qg_ ?_ GE102.out | refine qg_ ?_ GE114.out | refine qg_ ?_ GE119.out | refine qg_ ?_ GE124.out) | exact HB.out)))); have n2_ := Aside0.mk (ql_ (g := gb101) (o := .cells #[.int .i64 a1_0, .int .i64 a1_1, .string a1_2] 30 (0, 0)) (by (with_reducible repeat (first | refine qd_ ?_ _ | refine qf_ ?_ | refine qe_ ?_ _)); exact BK101.out) hb); have n3_ := Aside0.mk (ql_ (g := gb102) (o := .cells #[.int .u8 a2_0, .int .u8 a2_1] 38 (0, 0)) (by (with_reducible repeat (first | refine qd_ ?_ _ | refine qf_ ?_ | refine qe_ ?_ _)); exact BK102.out) hb); have n4_ := Aside0.mk (ql_ (g := gb114) (o := .cells #[.int .i64 t110, .int .i64 t111, .string t112] 30 (0, 0)) (by (with_reducible repeat (first | refine qd_ ?_ _ | refine qf_ ?_ | refine qe_ ?_ _)); exact BK114.out) hb); have n5_ := Aside0.mk (ql_ (g := gb119) (o := .cells #[.int .i64 t115, .int .i64 t116, .string t117] 30 (0, 0)) (by (with_reducible repeat (first | refine qd_ ?_ _ | refine qf_ ?_ | refine qe_ ?_ _)); exact BK119.out) hb); have n6_ := Aside0.mk (ql_ (g := gb124) (o := .cells #[.int .i64 t120, .int .i64 t121, .string t122] 30 (0, 0)) (by (with_reducible repeat (first | refine qd_ ?_ _ | refine qf_ ?_ | refine qe_ ?_ _)); exact BK124.out) hb); have n7_ := Aside0.mk (qk_ (by repeat (first | (with_reducible first | exact HB.out | apply qc_ | apply qa_ | apply qb_ | refine qg_ ?_ GE101.out | refine qg_ ?_ GE102.out | refine qg_ ?_ GE114.out | refine qg_ ?_ GE119.out | refine qg_ ?_ GE124.out) | exact HB.out)) hb); clear HO_7; clear BK101; clear BK102; clear BK114; clear BK119; clear BK124; clear HB; have HO_7 := n0_; have HO129 := n1_; have BK101 := n2_; have BK102 := n3_; have BK114 := n4_; have BK119 := n5_; have BK124 := n6_; have HB := n7_; clear n0_ n1_ n2_ n3_ n4_ n5_ n6_ n7_; (try clear hb); (try clear hb2); (try clear hk); (try clear hi); (try clear ho0)))
        repeat (go_quiet (first | (go_at_call 20; (with_reducible refine (entry_Above.calls _ _ t107 (wrap64 (a2_1)) t127 _ ?side1 ?side2 A120.out).mono ?_); (case side1 => repeat (first | exact (Kd.R_reads' HO_7.out).2.2 | (with_reducible refine Kd.qt_ ?_ _) | (with_reducible refine Kd.qs_ ?_ _) | (with_reducible refine Kd.C_drew ?_))); (case side2 => exact (Kd.R_reads' HO_7.out).2.1); rintro e w126 ⟨v128, rfl, ho0, hb⟩; have n0_ := Aside0.mk (Kd.R_elder' (by (with_reducible repeat (first | apply Kd.qn_ | apply Kd.qm_ | apply Kd.R_drew)); exact HO_7.out) (Kd.R_base ho0) hb); have n1_ := Aside0.mk (Kd.R_lower (Kd.R_newB (Kd.R_newB (Kd.R_newB (Kd.R_newB (Kd.R_new' ho0 (Kd.R_lt (by (with_reducible repeat (first | apply Kd.qn_ | apply Kd.qm_ | apply Kd.R_drew)); exact HO_7.out))) (g := gb101) (o := .cells #[.int .i64 a1_0, .int .i64 a1_1, .string a1_2] 30 (0, 0)) (by (with_reducible repeat (first | refine qd_ ?_ _ | refine qf_ ?_ | refine qe_ ?_ _)); exact BK101.out)) (g := gb114) (o := .cells #[.int .i64 t110, .int .i64 t111, .string t112] 30 (0, 0)) (by (with_reducible repeat (first | refine qd_ ?_ _ | refine qf_ ?_ | refine qe_ ?_ _)); exact BK114.out)) (g := gb119) (o := .cells #[.int .i64 t115, .int .i64 t116, .string t117] 30 (0, 0)) (by (with_reducible repeat (first | refine qd_ ?_ _ | refine qf_ ?_ | refine qe_ ?_ _)); exact BK119.out)) (g := gb124) (o := .cells #[.int .i64 t120, .int .i64 t121, .string t122] 30 (0, 0)) (by (with_reducible repeat (first | refine qd_ ?_ _ | refine qf_ ?_ | refine qe_ ?_ _)); exact BK124.out)) (qj_ (by repeat (first | (with_reducible first | exact HB.out | apply qc_ | apply qa_ | apply qb_ | refine qg_ ?_ GE101.out | refine qg_ ?_ GE102.out | refine qg_ ?_ GE114.out | refine qg_ ?_ GE119.out | refine qg_ ?_ GE124.out) | exact HB.out)))); have n2_ := Aside0.mk (ql_ (g := gb101) (o := .cells #[.int .i64 a1_0, .int .i64 a1_1, .string a1_2] 30 (0, 0)) (by (with_reducible repeat (first | refine qd_ ?_ _ | refine qf_ ?_ | refine qe_ ?_ _)); exact BK101.out) hb); have n3_ := Aside0.mk (ql_ (g := gb102) (o := .cells #[.int .u8 a2_0, .int .u8 a2_1] 38 (0, 0)) (by (with_reducible repeat (first | refine qd_ ?_ _ | refine qf_ ?_ | refine qe_ ?_ _)); exact BK102.out) hb); have n4_ := Aside0.mk (ql_ (g := gb114) (o := .cells #[.int .i64 t110, .int .i64 t111, .string t112] 30 (0, 0)) (by (with_reducible repeat (first | refine qd_ ?_ _ | refine qf_ ?_ | refine qe_ ?_ _)); exact BK114.out) hb); have n5_ := Aside0.mk (ql_ (g := gb119) (o := .cells #[.int .i64 t115, .int .i64 t116, .string t117] 30 (0, 0)) (by (with_reducible repeat (first | refine qd_ ?_ _ | refine qf_ ?_ | refine qe_ ?_ _)); exact BK119.out) hb); have n6_ := Aside0.mk (ql_ (g := gb124) (o := .cells #[.int .i64 t120, .int .i64 t121, .string t122] 30 (0, 0)) (by (with_reducible repeat (first | refine qd_ ?_ _ | refine qf_ ?_ | refine qe_ ?_ _)); exact BK124.out) hb); have n7_ := Aside0.mk (qk_ (by repeat (first | (with_reducible first | exact HB.out | apply qc_ | apply qa_ | apply qb_ | refine qg_ ?_ GE101.out | refine qg_ ?_ GE102.out | refine qg_ ?_ GE114.out | refine qg_ ?_ GE119.out | refine qg_ ?_ GE124.out) | exact HB.out)) hb); clear HO_7; clear BK101; clear BK102; clear BK114; clear BK119; clear BK124; clear HB; have HO_7 := n0_; have HO129 := n1_; have BK101 := n2_; have BK102 := n3_; have BK114 := n4_; have BK119 := n5_; have BK124 := n6_; have HB := n7_; clear n0_ n1_ n2_ n3_ n4_ n5_ n6_ n7_; (try clear hb); (try clear hb2); (try clear hk); (try clear hi); (try clear ho0))); try go_wp2_with (first | (go_at_call 20; (with_reducible refine (entry_Above.calls _ _ t107 (wrap64 (a2_1)) t127 _ ?side1 ?side2 A120.out).mono ?_); (case side1 => repeat (first | exact (Kd.R_reads' HO_7.out).2.2 | (with_reducible refine Kd.qt_ ?_ _) | (with_reducible refine Kd.qs_ ?_ _) | (with_reducible refine Kd.C_drew ?_))); (case side2 => exact (Kd.R_reads' HO_7.out).2.1); rintro e w126 ⟨v128, rfl, ho0, hb⟩; have n0_ := Aside0.mk (Kd.R_elder' (by (with_reducible repeat (first | apply Kd.qn_ | apply Kd.qm_ | apply Kd.R_drew)); exact HO_7.out) (Kd.R_base ho0) hb); have n1_ := Aside0.mk (Kd.R_lower (Kd.R_newB (Kd.R_newB (Kd.R_newB (Kd.R_newB (Kd.R_new' ho0 (Kd.R_lt (by (with_reducible repeat (first | apply Kd.qn_ | apply Kd.qm_ | apply Kd.R_drew)); exact HO_7.out))) (g := gb101) (o := .cells #[.int .i64 a1_0, .int .i64 a1_1, .string a1_2] 30 (0, 0)) (by (with_reducible repeat (first | refine qd_ ?_ _ | refine qf_ ?_ | refine qe_ ?_ _)); exact BK101.out)) (g := gb114) (o := .cells #[.int .i64 t110, .int .i64 t111, .string t112] 30 (0, 0)) (by (with_reducible repeat (first | refine qd_ ?_ _ | refine qf_ ?_ | refine qe_ ?_ _)); exact BK114.out)) (g := gb119) (o := .cells #[.int .i64 t115, .int .i64 t116, .string t117] 30 (0, 0)) (by (with_reducible repeat (first | refine qd_ ?_ _ | refine qf_ ?_ | refine qe_ ?_ _)); exact BK119.out)) (g := gb124) (o := .cells #[.int .i64 t120, .int .i64 t121, .string t122] 30 (0, 0)) (by (with_reducible repeat (first | refine qd_ ?_ _ | refine qf_ ?_ | refine qe_ ?_ _)); exact BK124.out)) (qj_ (by repeat (first | (with_reducible first | exact HB.out | apply qc_ | apply qa_ | apply qb_ | refine qg_ ?_ GE101.out | refine qg_ ?_ GE102.out | refine qg_ ?_ GE114.out | refine qg_ ?_ GE119.out | refine qg_ ?_ GE124.out) | exact HB.out)))); have n2_ := Aside0.mk (ql_ (g := gb101) (o := .cells #[.int .i64 a1_0, .int .i64 a1_1, .string a1_2] 30 (0, 0)) (by (with_reducible repeat (first | refine qd_ ?_ _ | refine qf_ ?_ | refine qe_ ?_ _)); exact BK101.out) hb); have n3_ := Aside0.mk (ql_ (g := gb102) (o := .cells #[.int .u8 a2_0, .int .u8 a2_1] 38 (0, 0)) (by (with_reducible repeat (first | refine qd_ ?_ _ | refine qf_ ?_ | refine qe_ ?_ _)); exact BK102.out) hb); have n4_ := Aside0.mk (ql_ (g := gb114) (o := .cells #[.int .i64 t110, .int .i64 t111, .string t112] 30 (0, 0)) (by (with_reducible repeat (first | refine qd_ ?_ _ | refine qf_ ?_ | refine qe_ ?_ _)); exact BK114.out) hb); have n5_ := Aside0.mk (ql_ (g := gb119) (o := .cells #[.int .i64 t115, .int .i64 t116, .string t117] 30 (0, 0)) (by (with_reducible repeat (first | refine qd_ ?_ _ | refine qf_ ?_ | refine qe_ ?_ _)); exact BK119.out) hb); have n6_ := Aside0.mk (ql_ (g := gb124) (o := .cells #[.int .i64 t120, .int .i64 t121, .string t122] 30 (0, 0)) (by (with_reducible repeat (first | refine qd_ ?_ _ | refine qf_ ?_ | refine qe_ ?_ _)); exact BK124.out) hb); have n7_ := Aside0.mk (qk_ (by repeat (first | (with_reducible first | exact HB.out | apply qc_ | apply qa_ | apply qb_ | refine qg_ ?_ GE101.out | refine qg_ ?_ GE102.out | refine qg_ ?_ GE114.out | refine qg_ ?_ GE119.out | refine qg_ ?_ GE124.out) | exact HB.out)) hb); clear HO_7; clear BK101; clear BK102; clear BK114; clear BK119; clear BK124; clear HB; have HO_7 := n0_; have HO129 := n1_; have BK101 := n2_; have BK102 := n3_; have BK114 := n4_; have BK119 := n5_; have BK124 := n6_; have HB := n7_; clear n0_ n1_ n2_ n3_ n4_ n5_ n6_ n7_; (try clear hb); (try clear hb2); (try clear hk); (try clear hi); (try clear ho0))))
        go_loopg [16, 17] kj24 (fun kq v16 v17 w' => ∃ (x16_3 : Int) (x17_3 : Int), v16 = .int .i64 x16_3 ∧ v17 = .int .i64 x17_3 ∧ Aside0 (law04_EntryPuts.l0 kq t107 t127 x16_3 x17_3 a2_0 a2_1 = some r) ∧ Aside0 (kq ≤ kj24) ∧ Aside0 (Kd.R k30 30 w' w.heap.size (fun k_ => some k_ ≠ (v128 : Value).ownBlock ∧ k_ ≠ gb101 ∧ k_ ≠ gb114 ∧ k_ ≠ gb119 ∧ k_ ≠ gb124) (.slice Ao30 t107.length co30) t107) ∧ Aside0 (Kd.R k30 30 w' w.heap.size (fun k_ => some k_ ≠ ((.slice Ao30 t107.length co30) : Value).ownBlock ∧ k_ ≠ gb101 ∧ k_ ≠ gb114 ∧ k_ ≠ gb119 ∧ k_ ≠ gb124) v128 t127) ∧ Aside0 (w'.heap[gb101]? = some (.cells #[.int .i64 a1_0, .int .i64 a1_1, .string a1_2] 30 (0, 0))) ∧ Aside0 (w'.heap[gb102]? = some (.cells #[.int .u8 a2_0, .int .u8 a2_1] 38 (0, 0))) ∧ Aside0 (w'.heap[gb114]? = some (.cells #[.int .i64 t110, .int .i64 t111, .string t112] 30 (0, 0))) ∧ Aside0 (w'.heap[gb119]? = some (.cells #[.int .i64 t115, .int .i64 t116, .string t117] 30 (0, 0))) ∧ Aside0 (w'.heap[gb124]? = some (.cells #[.int .i64 t120, .int .i64 t121, .string t122] 30 (0, 0))) ∧ Aside0 (Below w.heap.size w w'))
        case atStart => exact ⟨(0), (0), (by first | rfl | (simp; done) | (simp [*]; done)), (by first | rfl | (simp; done) | (simp [*]; done)), H', ⟨Nat.le_refl _⟩, ⟨by (with_reducible repeat (first | apply Kd.qn_ | apply Kd.qm_ | apply Kd.R_drew)); exact Kd.R_mono HO_7.out (fun _ hk => ⟨hk.2, ⟨hk.1.1, ⟨hk.1.2.1, ⟨hk.1.2.2.1, hk.1.2.2.2⟩⟩⟩⟩)⟩, ⟨by (with_reducible repeat (first | apply Kd.qn_ | apply Kd.qm_ | apply Kd.R_drew)); exact Kd.R_mono HO129.out (fun _ hk => ⟨hk.1.1.1.1.2, ⟨hk.1.1.1.2, ⟨hk.1.1.2, ⟨hk.1.2, hk.2⟩⟩⟩⟩)⟩, ⟨by (with_reducible repeat (first | refine qd_ ?_ _ | refine qf_ ?_ | refine qe_ ?_ _)); exact BK101.out⟩, ⟨by (with_reducible repeat (first | refine qd_ ?_ _ | refine qf_ ?_ | refine qe_ ?_ _)); exact BK102.out⟩, ⟨by (with_reducible repeat (first | refine qd_ ?_ _ | refine qf_ ?_ | refine qe_ ?_ _)); exact BK114.out⟩, ⟨by (with_reducible repeat (first | refine qd_ ?_ _ | refine qf_ ?_ | refine qe_ ?_ _)); exact BK119.out⟩, ⟨by (with_reducible repeat (first | refine qd_ ?_ _ | refine qf_ ?_ | refine qe_ ?_ _)); exact BK124.out⟩, ⟨by repeat (first | (with_reducible first | exact HB.out | apply qc_ | apply qa_ | apply qb_ | refine qg_ ?_ GE101.out | refine qg_ ?_ GE102.out | refine qg_ ?_ GE114.out | refine qg_ ?_ GE119.out | refine qg_ ?_ GE124.out) | exact HB.out)⟩⟩
        case round =>
         clear H'
         try clear c1
         try clear c2
         try clear p2
         try clear c3
         try clear c4
         try clear c5
         try clear c6
         try clear p6
         try clear c7
         try clear c8
         try clear c9
         try clear c10
         try clear c11
         try clear c12
         try clear c13
         try clear c16
         try clear c20
         try clear c26
         try clear c33
         try clear c34
         try clear c39
         try clear c40
         try clear c41
         try clear c45
         try clear c46
         try clear c47
         try clear c48
         try clear c50
         try clear c51
         try clear c51b0
         try clear c52
         try clear c53
         try clear c54
         try clear c55
         try clear c57
         try clear c58
         try clear c59
         try clear c61
         try clear c61b0
         try clear c61b1
         try clear c63
         try clear c64
         try clear p64
         try clear c65
         try clear c66
         try clear c68
         try clear c69
         try clear c70
         try clear c73
         try clear c73b0
         try clear c74
         try clear c75
         try clear c76
         try clear c77
         try clear c79
         try clear c80
         try clear c81
         try clear c83
         try clear c84
         try clear c86
         try clear c88
         try clear c88b0
         try clear c88b1
         try clear c88b2
         try clear c89
         try clear c90
         try clear c91
         try clear c92
         try clear c94
         try clear c95
         try clear c96
         try clear c98
         try clear c99
         try clear c101
         try clear c104
         try clear c105
         try clear c106
         try clear c107
         try clear c109
         try clear c110
         try clear c111
         try clear c113
         try clear c114
         try clear c116
         try clear c119
         try clear c121
         try clear c122
         try clear c123
         try clear c124
         try clear hcz100_0
         try clear hcz100_1
         try clear hcz100_2
         try clear hcz102_0
         try clear hcz102_1
         try clear hcz102_2
         try clear hcz108_0
         try clear hcz108_1
         try clear hcz108_2
         try clear hcz112_0
         try clear hcz112_1
         try clear hcz112_2
         try clear hcz115_0
         try clear hcz115_1
         try clear hcz115_2
         try clear hcz117_0
         try clear hcz117_1
         try clear hcz117_2
         try clear hcz125_0
         try clear hcz125_1
         try clear hcz17_0
         try clear hcz17_1
         try clear hcz17_2
         try clear hcz27_0
         try clear hcz27_1
         try clear hcz27_2
         try clear hcz29_0
         try clear hcz29_1
         try clear hcz29_2
         try clear hcz35_0
         try clear hcz35_1
         try clear hcz35_2
         try clear hcz36_0
         try clear hcz36_1
         try clear hcz42_0
         try clear hcz42_1
         try clear hcz42_2
         try clear hcz49_0
         try clear hcz49_1
         try clear hcz49_2
         try clear hcz56_0
         try clear hcz56_1
         try clear hcz56_2
         try clear hcz60_0
         try clear hcz60_1
         try clear hcz60_2
         try clear hcz67_0
         try clear hcz67_1
         try clear hcz67_2
         try clear hcz71_0
         try clear hcz71_1
         try clear hcz71_2
         try clear hcz78_0
         try clear hcz78_1
         try clear hcz78_2
         try clear hcz82_0
         try clear hcz82_1
         try clear hcz82_2
         try clear hcz85_0
         try clear hcz85_1
         try clear hcz85_2
         try clear hcz87_0
         try clear hcz87_1
         try clear hcz87_2
         try clear hcz93_0
         try clear hcz93_1
         try clear hcz93_2
         try clear hcz97_0
         try clear hcz97_1
         try clear hcz97_2
         try clear hfz100_0
         try clear hfz100_1
         try clear hfz100_2
         try clear hfz102_0
         try clear hfz102_1
         try clear hfz102_2
         try clear hfz108_0
         try clear hfz108_1
         try clear hfz108_2
         try clear hfz112_0
         try clear hfz112_1
         try clear hfz112_2
         try clear hfz115_0
         try clear hfz115_1
         try clear hfz115_2
         try clear hfz117_0
         try clear hfz117_1
         try clear hfz117_2
         try clear hfz125_0
         try clear hfz125_1
         try clear hfz17_0
         try clear hfz17_1
         try clear hfz17_2
         try clear hfz27_0
         try clear hfz27_1
         try clear hfz27_2
         try clear hfz29_0
         try clear hfz29_1
         try clear hfz29_2
         try clear hfz35_0
         try clear hfz35_1
         try clear hfz35_2
         try clear hfz36_0
         try clear hfz36_1
         try clear hfz42_0
         try clear hfz42_1
         try clear hfz42_2
         try clear hfz49_0
         try clear hfz49_1
         try clear hfz49_2
         try clear hfz56_0
         try clear hfz56_1
         try clear hfz56_2
         try clear hfz60_0
         try clear hfz60_1
         try clear hfz60_2
         try clear hfz67_0
         try clear hfz67_1
         try clear hfz67_2
         try clear hfz71_0
         try clear hfz71_1
         try clear hfz71_2
         try clear hfz78_0
         try clear hfz78_1
         try clear hfz78_2
         try clear hfz82_0
         try clear hfz82_1
         try clear hfz82_2
         try clear hfz85_0
         try clear hfz85_1
         try clear hfz85_2
         try clear hfz87_0
         try clear hfz87_1
         try clear hfz87_2
         try clear hfz93_0
         try clear hfz93_1
         try clear hfz93_2
         try clear hfz97_0
         try clear hfz97_1
         try clear hfz97_2
         try clear p2
         try clear p6
         try clear p64
         obtain ⟨x16_3, x17_3, rfl, rfl, HA, HK3, HO_7, HO_15, BK101, BK102, BK114, BK119, BK124, HB⟩ := hrel
         cases gk with
         | zero => exact absurd HA.out (by simp [law04_EntryPuts.l0])
         | succ k3 =>
          have H := HA.out
          clear HA
          simp only [law04_EntryPuts.l0] at H
          by_cases c127 : x17_3 < (t107.length : Int)
          ·rw [if_pos c127] at H
           have c127b0 : decide (x17_3 < (t107.length : Int)) = true := decide_eq_true c127
           clear c127
           by_cases c128 : 0 ≤ x17_3
           ·rw [if_pos c128] at H
            have c128b0 : decide (0 ≤ x17_3) = true := decide_eq_true c128
            clear c128
            by_cases c129 : ((rd_T30 t107 x17_3).f1) > (wrap64 (a2_1))
            ·rw [if_pos c129] at H
             have c129b0 : decide ((wrap64 (a2_1)) < ((rd_T30 t107 x17_3).f1)) = true := decide_eq_true c129
             clear c129
             by_cases c130 : x16_3 ≥ (t127.length : Int)
             ·rw [if_pos c130] at H
              have c130b0 : decide ((t127.length : Int) ≤ x16_3) = true := decide_eq_true c130
              clear c130
              obtain rfl := Option.some.inj H
              have p130 : 0 ≤ (x17_3 : Int) := of_decide_eq_true (by first | (with_reducible assumption) | assumption)
              have q130 : x17_3 < (t107.length : Int) := of_decide_eq_true (by first | (with_reducible assumption) | assumption)
              obtain ⟨ad130, e130, hx130_0, hx130_1, hx130_2⟩ := at_T30 (Kd.R_reads' HO_7.out).2.2 x17_3 p130 q130
              cases e130
              replace p130 := eq_true p130
              replace q130 := eq_true q130
              have hnb131 := NB102_101.out
              have hnc131 := NB101_102.out
              have hnb132 := NB102_114.out
              have hnc132 := NB114_102.out
              have hnb133 := NB102_119.out
              have hnc133 := NB119_102.out
              have hnb134 := NB102_124.out
              have hnc134 := NB124_102.out
              have hcz135_0 : wr.cell? ⟨gb102, 0, none⟩ = some (.int .u8 a2_0) := (qi_ BK102.out 0).trans rfl
              have hcz135_1 : wr.cell? ⟨gb102, 1, none⟩ = some (.int .u8 a2_1) := (qi_ BK102.out 1).trans rfl
              have hfz135_0 := qh_ BK102.out 0
              have hfz135_1 := qh_ BK102.out 1
              obtain ⟨Ao136, co136, eo136⟩ := Kd.R_slice HO_15.out
              subst eo136
              go_wp2
              repeat (go_quiet (fail); try go_wp2)
              go_ret
              exact ⟨by first | rfl | (simp [errW_none, errW_some] <;> rfl) | (simp [*, errW_none, errW_some] <;> rfl), by repeat (first | (with_reducible first | exact HB.out | apply qc_ | apply qa_ | apply qb_ | refine qg_ ?_ GE101.out | refine qg_ ?_ GE102.out | refine qg_ ?_ GE114.out | refine qg_ ?_ GE119.out | refine qg_ ?_ GE124.out) | exact HB.out)⟩
             ·rw [if_neg c130] at H
              have c130b0 : decide ((t127.length : Int) ≤ x16_3) = false := decide_eq_false c130
              clear c130
              by_cases c137 : 0 ≤ x16_3
              ·rw [if_pos c137] at H
               have c137b0 : decide (0 ≤ x16_3) = true := decide_eq_true c137
               clear c137
               by_cases c138 : x16_3 < (t127.length : Int)
               ·rw [if_pos c138] at H
                have c138b0 : decide (x16_3 < (t127.length : Int)) = true := decide_eq_true c138
                clear c138
                by_cases c139 : (!(((rd_T30 t127 x16_3).f0) == ((rd_T30 t107 x17_3).f0)) || (!(((rd_T30 t127 x16_3).f1) == ((rd_T30 t107 x17_3).f1)) || (!((((rd_T30 t127 x16_3).f2).toList) == (((rd_T30 t107 x17_3).f2).toList))))) = true
                ·rw [if_pos c139] at H
                 have c139b0 : (!(((rd_T30 t127 x16_3).f0) == ((rd_T30 t107 x17_3).f0)) || (!(((rd_T30 t127 x16_3).f1) == ((rd_T30 t107 x17_3).f1)) || (!((((rd_T30 t127 x16_3).f2).toList) == (((rd_T30 t107 x17_3).f2).toList))))) = true := c139
                 clear c139
                 obtain rfl := Option.some.inj H
                 have p130 : 0 ≤ (x17_3 : Int) := of_decide_eq_true (by first | (with_reducible assumption) | assumption)
                 have q130 : x17_3 < (t107.length : Int) := of_decide_eq_true (by first | (with_reducible assumption) | assumption)
                 obtain ⟨ad130, e130, hx130_0, hx130_1, hx130_2⟩ := at_T30 (Kd.R_reads' HO_7.out).2.2 x17_3 p130 q130
                 cases e130
                 replace p130 := eq_true p130
                 replace q130 := eq_true q130
                 have hnb140 := NB102_101.out
                 have hnc140 := NB101_102.out
                 have hnb141 := NB102_114.out
                 have hnc141 := NB114_102.out
                 have hnb142 := NB102_119.out
                 have hnc142 := NB119_102.out
                 have hnb143 := NB102_124.out
                 have hnc143 := NB124_102.out
                 have hcz144_0 : wr.cell? ⟨gb102, 0, none⟩ = some (.int .u8 a2_0) := (qi_ BK102.out 0).trans rfl
                 have hcz144_1 : wr.cell? ⟨gb102, 1, none⟩ = some (.int .u8 a2_1) := (qi_ BK102.out 1).trans rfl
                 have hfz144_0 := qh_ BK102.out 0
                 have hfz144_1 := qh_ BK102.out 1
                 obtain ⟨Ao145, co145, eo145⟩ := Kd.R_slice HO_15.out
                 subst eo145
                 have p131 : 0 ≤ (x16_3 : Int) := of_decide_eq_true (by first | (with_reducible assumption) | assumption)
                 have q131 : x16_3 < (t127.length : Int) := of_decide_eq_true (by first | (with_reducible assumption) | assumption)
                 obtain ⟨ad131, e131, hx131_0, hx131_1, hx131_2⟩ := at_T30 (Kd.R_reads' HO_15.out).2.2 x16_3 p131 q131
                 cases e131
                 replace p131 := eq_true p131
                 replace q131 := eq_true q131
                 have p132 : 0 ≤ (x17_3 : Int) := of_decide_eq_true (by first | (with_reducible assumption) | assumption)
                 have q132 : x17_3 < (t107.length : Int) := of_decide_eq_true (by first | (with_reducible assumption) | assumption)
                 obtain ⟨ad132, e132, hx132_0, hx132_1, hx132_2⟩ := at_T30 (Kd.R_reads' HO_7.out).2.2 x17_3 p132 q132
                 obtain rfl : ad130 = ad132 := (by injection e132)
                 replace p132 := eq_true p132
                 replace q132 := eq_true q132
                 go_wp2
                 repeat (go_quiet (fail); try go_wp2)
                 go_ret
                 exact ⟨by first | rfl | (simp [errW_none, errW_some] <;> rfl) | (simp [*, errW_none, errW_some] <;> rfl), by repeat (first | (with_reducible first | exact HB.out | apply qc_ | apply qa_ | apply qb_ | refine qg_ ?_ GE101.out | refine qg_ ?_ GE102.out | refine qg_ ?_ GE114.out | refine qg_ ?_ GE119.out | refine qg_ ?_ GE124.out) | exact HB.out)⟩
                ·rw [if_neg c139] at H
                 have c139b0 : (!(((rd_T30 t127 x16_3).f0) == ((rd_T30 t107 x17_3).f0)) || (!(((rd_T30 t127 x16_3).f1) == ((rd_T30 t107 x17_3).f1)) || (!((((rd_T30 t127 x16_3).f2).toList) == (((rd_T30 t107 x17_3).f2).toList))))) = false := by simpa using c139
                 clear c139
                 have H' := Aside0.mk H
                 clear H
                 have p130 : 0 ≤ (x17_3 : Int) := of_decide_eq_true (by first | (with_reducible assumption) | assumption)
                 have q130 : x17_3 < (t107.length : Int) := of_decide_eq_true (by first | (with_reducible assumption) | assumption)
                 obtain ⟨ad130, e130, hx130_0, hx130_1, hx130_2⟩ := at_T30 (Kd.R_reads' HO_7.out).2.2 x17_3 p130 q130
                 cases e130
                 replace p130 := eq_true p130
                 replace q130 := eq_true q130
                 have hnb146 := NB102_101.out
                 have hnc146 := NB101_102.out
                 have hnb147 := NB102_114.out
                 have hnc147 := NB114_102.out
                 have hnb148 := NB102_119.out
                 have hnc148 := NB119_102.out
                 have hnb149 := NB102_124.out
                 have hnc149 := NB124_102.out
                 have hcz150_0 : wr.cell? ⟨gb102, 0, none⟩ = some (.int .u8 a2_0) := (qi_ BK102.out 0).trans rfl
                 have hcz150_1 : wr.cell? ⟨gb102, 1, none⟩ = some (.int .u8 a2_1) := (qi_ BK102.out 1).trans rfl
                 have hfz150_0 := qh_ BK102.out 0
                 have hfz150_1 := qh_ BK102.out 1
                 obtain ⟨Ao151, co151, eo151⟩ := Kd.R_slice HO_15.out
                 subst eo151
                 have p131 : 0 ≤ (x16_3 : Int) := of_decide_eq_true (by first | (with_reducible assumption) | assumption)
                 have q131 : x16_3 < (t127.length : Int) := of_decide_eq_true (by first | (with_reducible assumption) | assumption)
                 obtain ⟨ad131, e131, hx131_0, hx131_1, hx131_2⟩ := at_T30 (Kd.R_reads' HO_15.out).2.2 x16_3 p131 q131
                 cases e131
                 replace p131 := eq_true p131
                 replace q131 := eq_true q131
                 have p132 : 0 ≤ (x17_3 : Int) := of_decide_eq_true (by first | (with_reducible assumption) | assumption)
                 have q132 : x17_3 < (t107.length : Int) := of_decide_eq_true (by first | (with_reducible assumption) | assumption)
                 obtain ⟨ad132, e132, hx132_0, hx132_1, hx132_2⟩ := at_T30 (Kd.R_reads' HO_7.out).2.2 x17_3 p132 q132
                 obtain rfl : ad130 = ad132 := (by injection e132)
                 replace p132 := eq_true p132
                 replace q132 := eq_true q132
                 go_wp2
                 repeat (go_quiet (fail); try go_wp2)
                 go_roundg k3
                 case measure => have := HJ5.out; have := HJ24.out; have := HK3.out; omega
                 case rel => exact ⟨(wrap64 (x16_3 + 1)), (wrap64 (x17_3 + 1)), (by first | rfl | (simp; done) | (simp [*]; done)), (by first | rfl | (simp; done) | (simp [*]; done)), H', ⟨by have := HJ5.out; have := HJ24.out; have := HK3.out; omega⟩, ⟨by (with_reducible repeat (first | apply Kd.qn_ | apply Kd.qm_ | apply Kd.R_drew)); exact HO_7.out⟩, ⟨by (with_reducible repeat (first | apply Kd.qn_ | apply Kd.qm_ | apply Kd.R_drew)); exact HO_15.out⟩, ⟨by (with_reducible repeat (first | refine qd_ ?_ _ | refine qf_ ?_ | refine qe_ ?_ _)); exact BK101.out⟩, ⟨by (with_reducible repeat (first | refine qd_ ?_ _ | refine qf_ ?_ | refine qe_ ?_ _)); exact BK102.out⟩, ⟨by (with_reducible repeat (first | refine qd_ ?_ _ | refine qf_ ?_ | refine qe_ ?_ _)); exact BK114.out⟩, ⟨by (with_reducible repeat (first | refine qd_ ?_ _ | refine qf_ ?_ | refine qe_ ?_ _)); exact BK119.out⟩, ⟨by (with_reducible repeat (first | refine qd_ ?_ _ | refine qf_ ?_ | refine qe_ ?_ _)); exact BK124.out⟩, ⟨by repeat (first | (with_reducible first | exact HB.out | apply qc_ | apply qa_ | apply qb_ | refine qg_ ?_ GE101.out | refine qg_ ?_ GE102.out | refine qg_ ?_ GE114.out | refine qg_ ?_ GE119.out | refine qg_ ?_ GE124.out) | exact HB.out)⟩⟩
               ·rw [if_neg c138] at H
                exact absurd H (by simp)
              ·rw [if_neg c137] at H
               exact absurd H (by simp)
            ·rw [if_neg c129] at H
             have c129b0 : decide ((wrap64 (a2_1)) < ((rd_T30 t107 x17_3).f1)) = false := decide_eq_false c129
             clear c129
             have H' := Aside0.mk H
             clear H
             have p130 : 0 ≤ (x17_3 : Int) := of_decide_eq_true (by first | (with_reducible assumption) | assumption)
             have q130 : x17_3 < (t107.length : Int) := of_decide_eq_true (by first | (with_reducible assumption) | assumption)
             obtain ⟨ad130, e130, hx130_0, hx130_1, hx130_2⟩ := at_T30 (Kd.R_reads' HO_7.out).2.2 x17_3 p130 q130
             cases e130
             replace p130 := eq_true p130
             replace q130 := eq_true q130
             have hnb152 := NB102_101.out
             have hnc152 := NB101_102.out
             have hnb153 := NB102_114.out
             have hnc153 := NB114_102.out
             have hnb154 := NB102_119.out
             have hnc154 := NB119_102.out
             have hnb155 := NB102_124.out
             have hnc155 := NB124_102.out
             have hcz156_0 : wr.cell? ⟨gb102, 0, none⟩ = some (.int .u8 a2_0) := (qi_ BK102.out 0).trans rfl
             have hcz156_1 : wr.cell? ⟨gb102, 1, none⟩ = some (.int .u8 a2_1) := (qi_ BK102.out 1).trans rfl
             have hfz156_0 := qh_ BK102.out 0
             have hfz156_1 := qh_ BK102.out 1
             go_wp2
             repeat (go_quiet (fail); try go_wp2)
             go_roundg k3
             case measure => have := HJ5.out; have := HJ24.out; have := HK3.out; omega
             case rel => exact ⟨(x16_3), (wrap64 (x17_3 + 1)), (by first | rfl | (simp; done) | (simp [*]; done)), (by first | rfl | (simp; done) | (simp [*]; done)), H', ⟨by have := HJ5.out; have := HJ24.out; have := HK3.out; omega⟩, ⟨by (with_reducible repeat (first | apply Kd.qn_ | apply Kd.qm_ | apply Kd.R_drew)); exact HO_7.out⟩, ⟨by (with_reducible repeat (first | apply Kd.qn_ | apply Kd.qm_ | apply Kd.R_drew)); exact HO_15.out⟩, ⟨by (with_reducible repeat (first | refine qd_ ?_ _ | refine qf_ ?_ | refine qe_ ?_ _)); exact BK101.out⟩, ⟨by (with_reducible repeat (first | refine qd_ ?_ _ | refine qf_ ?_ | refine qe_ ?_ _)); exact BK102.out⟩, ⟨by (with_reducible repeat (first | refine qd_ ?_ _ | refine qf_ ?_ | refine qe_ ?_ _)); exact BK114.out⟩, ⟨by (with_reducible repeat (first | refine qd_ ?_ _ | refine qf_ ?_ | refine qe_ ?_ _)); exact BK119.out⟩, ⟨by (with_reducible repeat (first | refine qd_ ?_ _ | refine qf_ ?_ | refine qe_ ?_ _)); exact BK124.out⟩, ⟨by repeat (first | (with_reducible first | exact HB.out | apply qc_ | apply qa_ | apply qb_ | refine qg_ ?_ GE101.out | refine qg_ ?_ GE102.out | refine qg_ ?_ GE114.out | refine qg_ ?_ GE119.out | refine qg_ ?_ GE124.out) | exact HB.out)⟩⟩
           ·rw [if_neg c128] at H
            exact absurd H (by simp)
          ·rw [if_neg c127] at H
           have c127b0 : decide (x17_3 < (t107.length : Int)) = false := decide_eq_false c127
           clear c127
           obtain rfl := Option.some.inj H
           obtain ⟨Ao157, co157, eo157⟩ := Kd.R_slice HO_15.out
           subst eo157
           go_wp2
           repeat (go_quiet (fail); try go_wp2)
           go_ret
           exact ⟨by first | rfl | (simp [errW_none, errW_some] <;> rfl) | (simp [*, errW_none, errW_some] <;> rfl), by repeat (first | (with_reducible first | exact HB.out | apply qc_ | apply qa_ | apply qb_ | refine qg_ ?_ GE101.out | refine qg_ ?_ GE102.out | refine qg_ ?_ GE114.out | refine qg_ ?_ GE119.out | refine qg_ ?_ GE124.out) | exact HB.out)⟩
 ·rw [if_neg c5] at H
  exact absurd ((Option.some.inj H).trans HRT.out) (by decide)
end Go.Proofs.Ytpccnpgigmcfoaa.P

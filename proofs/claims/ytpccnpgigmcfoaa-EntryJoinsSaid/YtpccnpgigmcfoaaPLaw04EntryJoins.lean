/- What this function of the program comes to, and that the machine's call does it: written by a program (wip/tool). No condition. -/
import Derived.Test.YtpccnpgigmcfoaaP0
import Derived.Test.YtpccnpgigmcfoaaPEntryJoin
import Derived.Test.YtpccnpgigmcfoaaPRef04Same
import Derived.Test.YtpccnpgigmcfoaaPEntryOver
import Derived.Test.YtpccnpgigmcfoaaPLaw04Alive
import Derived.Test.YtpccnpgigmcfoaaPRef04Great
import Derived.Test.YtpccnpgigmcfoaaPRef04May
import Derived.Test.YtpccnpgigmcfoaaPRef04Right
import Derived.Test.YtpccnpgigmcfoaaPRef04Put
import Derived.Test.YtpccnpgigmcfoaaPRef04Join
import Derived.Test.YtpccnpgigmcfoaaPEntryPut
import Derived.Test.YtpccnpgigmcfoaaPRef04Over
import Derived.Test.YtpccnpgigmcfoaaHw
namespace Go.Proofs.Ytpccnpgigmcfoaa.P
open Go.RowKit Go.Proofs.YtpccnpgigmcfoaaW.PrintWords Go.Proofs.YtpccnpgigmcfoaaW.PrintLast Go.Proofs.YtpccnpgigmcfoaaW.PrintMore
attribute [local go_sem] max2_int min2_int max_two min_two max_three min_three max_four min_four Go.Proofs.YtpccnpgigmcfoaaW.Hw.string_gtr   -- for this text's walks alone
set_option linter.unusedVariables false
set_option linter.unusedSimpArgs false
/-! ### law04_EntryJoins: function 6 -/
def law04_EntryJoins.j0 : Nat → List (S30) → List (S30) → Bool → Int → Int → ByteArray → Option (Bool)
 | 0, _, _, _, _, _, _ => none
 | k + 1, x0, x1, x30, x102000, x102001, x102002 => if x30 = true then (some true) else ((some (([] : List (S30)) : List (S30))).bind fun y108 => (if y108.length + x0.length < 4398046511104 then ((some (y108 ++ x0 : List (S30))).bind fun y111 => ((entry_Join.f k y111 x1).bind fun t114 => ((ref04_Join.f k x0 x1).bind fun t117 => ((ref04_Same.f k t114 t117).bind fun t120 => (if t120 = true then ((entry_Put.f y111 x102000 x102001 x102002).bind fun t121 => ((ref04_Put.f k x0 x102000 x102001 x102002).bind fun t124 => ((ref04_Same.f k t121 t124).bind fun t127 => (if t127 = true then ((entry_Over.f x0 x1).bind fun t128 => ((ref04_Over.f k x0 x1).bind fun t129 => (if (t128 == t129) = true then ((ref04_Same.f k y111 x0).bind fun t130 => (some t130)) else (some false)))) else (some false))))) else (some false)))))) else (none)))
def law04_EntryJoins.f (k : Nat) (l0 : List (S30)) (l1 : List (S30)) (a2_0 : Int) (a2_1 : Int) (a2_2 : ByteArray) : Option (Bool) := (law04_alive.f k).bind fun t102 => (if t102 = true then ((ref04_Great.f k l0).bind fun t103 => (if t103 = true then (law04_EntryJoins.j0 k l0 l1 true a2_0 a2_1 a2_2) else ((ref04_Great.f k l1).bind fun t104 => (if t104 = true then (law04_EntryJoins.j0 k l0 l1 true a2_0 a2_1 a2_2) else ((ref04_Right.f k l0).bind fun t105 => (if t105 = true then ((ref04_Right.f k l1).bind fun t106 => (if t106 = true then ((ref04_May.f a2_0 a2_1 a2_2).bind fun t107 => (law04_EntryJoins.j0 k l0 l1 (!t107) a2_0 a2_1 a2_2)) else (law04_EntryJoins.j0 k l0 l1 true a2_0 a2_1 a2_2))) else (law04_EntryJoins.j0 k l0 l1 true a2_0 a2_1 a2_2))))))) else (some false))
theorem law04_EntryJoins.mono_l : ∀ k, (∀ y0 y1 y2 y3 y4 y5, LeO (law04_EntryJoins.j0 k y0 y1 y2 y3 y4 y5) (law04_EntryJoins.j0 (k + 1) y0 y1 y2 y3 y4 y5))
 | 0 => fun _ _ _ _ _ _ r h => by simp [law04_EntryJoins.j0] at h
 | k + 1 => by
  have ih0 := law04_EntryJoins.mono_l k
  ·intro y0 y1 y2 y3 y4 y5
   unfold law04_EntryJoins.j0
   repeat' first
   | (with_reducible exact ih0 _ _ _ _ _ _)
   | (with_reducible exact law04_alive.mono _)
   | (with_reducible exact ref04_Great.mono _ _)
   | (with_reducible exact ref04_Join.mono _ _ _)
   | (with_reducible exact ref04_Over.mono _ _ _)
   | (with_reducible exact ref04_Put.mono _ _ _ _ _)
   | (with_reducible exact ref04_Right.mono _ _)
   | (with_reducible exact ref04_Same.mono _ _ _)
   | (with_reducible exact entry_Join.mono _ _ _)
   | (with_reducible exact LeO.refl _)
   | (with_reducible exact LeO.none _)
   | (with_reducible refine LeO.ite ?_ ?_)
   | (with_reducible refine LeO.bind ?_ (fun _ => ?_))
   | exact ih0 _ _ _ _ _ _
   | exact law04_alive.mono _
   | exact ref04_Great.mono _ _
   | exact ref04_Join.mono _ _ _
   | exact ref04_Over.mono _ _ _
   | exact ref04_Put.mono _ _ _ _ _
   | exact ref04_Right.mono _ _
   | exact ref04_Same.mono _ _ _
   | exact entry_Join.mono _ _ _
   | exact LeO.none _
   | refine LeO.ite ?_ ?_
   | refine LeO.bind ?_ (fun _ => ?_)
theorem law04_EntryJoins.mono : ∀ a0 a1 a2 a3 a4 k, LeO (law04_EntryJoins.f k a0 a1 a2 a3 a4) (law04_EntryJoins.f (k + 1) a0 a1 a2 a3 a4) := by
 intro a0 a1 a2 a3 a4 k
 have ih0 := law04_EntryJoins.mono_l k
 unfold law04_EntryJoins.f
 repeat' first
   | (with_reducible exact ih0 _ _ _ _ _ _)
   | (with_reducible exact law04_alive.mono _)
   | (with_reducible exact ref04_Great.mono _ _)
   | (with_reducible exact ref04_Join.mono _ _ _)
   | (with_reducible exact ref04_Over.mono _ _ _)
   | (with_reducible exact ref04_Put.mono _ _ _ _ _)
   | (with_reducible exact ref04_Right.mono _ _)
   | (with_reducible exact ref04_Same.mono _ _ _)
   | (with_reducible exact entry_Join.mono _ _ _)
   | (with_reducible exact LeO.refl _)
   | (with_reducible exact LeO.none _)
   | (with_reducible refine LeO.ite ?_ ?_)
   | (with_reducible refine LeO.bind ?_ (fun _ => ?_))
   | exact ih0 _ _ _ _ _ _
   | exact law04_alive.mono _
   | exact ref04_Great.mono _ _
   | exact ref04_Join.mono _ _ _
   | exact ref04_Over.mono _ _ _
   | exact ref04_Put.mono _ _ _ _ _
   | exact ref04_Right.mono _ _
   | exact ref04_Same.mono _ _ _
   | exact entry_Join.mono _ _ _
   | exact LeO.none _
   | refine LeO.ite ?_ ?_
   | refine LeO.bind ?_ (fun _ => ?_)
def law04_EntryJoins.T6 : Bool × List (List Nat × List Nat) := (true, [([], []), ([], []), ([0, 1], [0, 1]), ([], []), ([], []), ([3, 4, 2], [3, 4]), ([2, 5, 5], [2, 5]), ([6, 6], [6]), ([7], [7]), ([7], [7]), ([8, 9, 7, 7], [7, 8, 9]), ([7], [7]), ([7], [7]), ([11, 12, 10, 7], [7, 11, 12]), ([10, 13, 13, 7], [7, 10, 13]), ([7, 14], [7, 14]), ([15, 14], [15]), ([16], [16]), ([16], [16]), ([17, 18, 16, 16], [16, 17, 18]), ([16], [16]), ([16], [16]), ([20, 21, 19, 16], [16, 20, 21]), ([19, 22, 16], [16, 19, 22]), ([16, 23], [16, 23]), ([24, 22], [24]), ([25], [25]), ([25], [25]), ([26, 27, 25, 25], [25, 26, 27]), ([25, 28], [25, 28]), ([29, 28, 0, 1, 2, 3, 4, 5, 6, 7, 8, 9, 10, 11, 12, 13, 14, 15, 16, 17, 18, 19, 20, 21, 22, 23, 24, 25, 26, 27, 28, 29], [29])])
def law04_EntryJoins.B6 : List Nat := [0, 0, 3, 0, 0, 31, 63, 127, 255, 255, 1023, 255, 255, 8191, 16383, 32767, 65535, 131071, 131071, 524287, 131071, 131071, 4194303, 8388607, 16777215, 33554431, 67108863, 67108863, 268435455, 536870911, 1073741823]
theorem law04_EntryJoins.tab6 : rtab .any (opsOf Try.f6 6) = law04_EntryJoins.T6 := by kernel_rfl
theorem law04_EntryJoins.bits6 : waitsOk law04_EntryJoins.T6.2 law04_EntryJoins.B6 = true := by kernel_rfl
set_option maxHeartbeats 8000000 in
set_option maxRecDepth 100000 in
theorem law04_EntryJoins.calls (k : Nat) (A0 : Option Addr) (c0 : Nat) (l0 : List (S30)) (A1 : Option Addr) (c1 : Nat) (l1 : List (S30)) (a2_0 : Int) (a2_1 : Int) (a2_2 : ByteArray) (r : Bool) (w : World) (hr0 : Kd.C k30 w A0 l0.length l0) (hc0 : l0.length ≤ c0) (hr1 : Kd.C k30 w A1 l1.length l1) (hc1 : l1.length ≤ c1) (h : law04_EntryJoins.f k l0 l1 a2_0 a2_1 a2_2 = some r) (hrt : r = true) :
  Calls Try.prog 6 #[.slice A0 l0.length c0, .slice A1 l1.length c1, .agg #[.int .i64 a2_0, .int .i64 a2_1, .string a2_2]] w fun e w' => e = .returned (.bool r) ∧ Below w.heap.size w w' := by
 have HRT := Aside0.mk hrt
 clear hrt
 have hu30 := Try.underlying30
 have HR0 := Aside0.mk hr0
 have HC0 := Aside0.mk hc0
 clear hr0 hc0
 have HR1 := Aside0.mk hr1
 have HC1 := Aside0.mk hc1
 clear hr1 hc1
 have HB := Aside0.mk (Below.refl w.heap.size w)
 have H : ((law04_alive.f k).bind fun t102 => (if t102 = true then ((ref04_Great.f k l0).bind fun t103 => (if t103 = true then (law04_EntryJoins.j0 k l0 l1 true a2_0 a2_1 a2_2) else ((ref04_Great.f k l1).bind fun t104 => (if t104 = true then (law04_EntryJoins.j0 k l0 l1 true a2_0 a2_1 a2_2) else ((ref04_Right.f k l0).bind fun t105 => (if t105 = true then ((ref04_Right.f k l1).bind fun t106 => (if t106 = true then ((ref04_May.f a2_0 a2_1 a2_2).bind fun t107 => (law04_EntryJoins.j0 k l0 l1 (!t107) a2_0 a2_1 a2_2)) else (law04_EntryJoins.j0 k l0 l1 true a2_0 a2_1 a2_2))) else (law04_EntryJoins.j0 k l0 l1 true a2_0 a2_1 a2_2))))))) else (some false))) = some r := h
 clear h
 replace H := ob_ H
 obtain ⟨t102, A40, H⟩ := H
 replace H : (if t102 = true then ((ref04_Great.f k l0).bind fun t103 => (if t103 = true then (law04_EntryJoins.j0 k l0 l1 true a2_0 a2_1 a2_2) else ((ref04_Great.f k l1).bind fun t104 => (if t104 = true then (law04_EntryJoins.j0 k l0 l1 true a2_0 a2_1 a2_2) else ((ref04_Right.f k l0).bind fun t105 => (if t105 = true then ((ref04_Right.f k l1).bind fun t106 => (if t106 = true then ((ref04_May.f a2_0 a2_1 a2_2).bind fun t107 => (law04_EntryJoins.j0 k l0 l1 (!t107) a2_0 a2_1 a2_2)) else (law04_EntryJoins.j0 k l0 l1 true a2_0 a2_1 a2_2))) else (law04_EntryJoins.j0 k l0 l1 true a2_0 a2_1 a2_2))))))) else (some false)) = some r := H
 have A4 := Aside0.mk A40
 clear A40
 by_cases c5 : t102 = true
 ·subst c5
  have H1 : ((ref04_Great.f k l0).bind fun t103 => (if t103 = true then (law04_EntryJoins.j0 k l0 l1 true a2_0 a2_1 a2_2) else ((ref04_Great.f k l1).bind fun t104 => (if t104 = true then (law04_EntryJoins.j0 k l0 l1 true a2_0 a2_1 a2_2) else ((ref04_Right.f k l0).bind fun t105 => (if t105 = true then ((ref04_Right.f k l1).bind fun t106 => (if t106 = true then ((ref04_May.f a2_0 a2_1 a2_2).bind fun t107 => (law04_EntryJoins.j0 k l0 l1 (!t107) a2_0 a2_1 a2_2)) else (law04_EntryJoins.j0 k l0 l1 true a2_0 a2_1 a2_2))) else (law04_EntryJoins.j0 k l0 l1 true a2_0 a2_1 a2_2))))))) = some r := by rw [if_pos rfl] at H; exact H
  clear H
  have H := H1
  clear H1
  have HC6 := Aside0.mk H
  clear H
  go_enter Try.func6, Try.ntmps6
  go_upto_region 3 with (first | ((with_reducible refine qq_ (N := 5) rfl ?_); refine qp_ ?hg (N := 5) ?hd (cs := #[.int .i64 a2_0, .int .i64 a2_1, .string a2_2]) (t := 30) ?hr ?_; (case hd => rfl); (case hg => rfl); (case hr => first | (go_simp; done) | (go_simp; rfl)); intro gb101 hg w7 hbox hb; have n0_ := Aside0.mk (qk_ (by repeat (first | (with_reducible first | exact HB.out | apply qc_ | apply qa_ | apply qb_) | exact HB.out)) hb); have n1_ := Aside0.mk (hbox); have n2_ := Aside0.mk ((by rw [hg]; exact (qj_ (by repeat (first | (with_reducible first | exact HB.out | apply qc_ | apply qa_ | apply qb_) | exact HB.out))) : w.heap.size ≤ gb101)); have n3_ := Aside0.mk ((by rw [hg]; exact (qj_ (by repeat (first | (with_reducible first | exact HB.out | apply qc_ | apply qa_ | apply qb_) | exact HB.out))) : w.heap.size ≤ gb101)); clear HB; have HB := n0_; have BK101 := n1_; have GW101 := n2_; have GE101 := n3_; clear n0_ n1_ n2_ n3_; clear hb hbox hg) | ((with_reducible refine gate_callee (f := 8) rfl ?_); refine goesL_ (some 8) rfl rfl Try.func8 (by kernel_rfl) rfl #[] rfl (by (try simp only [List.map_toArray, List.map_cons, List.map_nil]); first | done | rfl | (simp only [List.length_drop, List.length_take]; rfl)) ?_; (with_reducible refine (law04_alive.calls k  true _ A4.out).mono ?_); rintro e w8 ⟨rfl, hb⟩; refine ⟨_, rfl, ?_⟩; have n0_ := Aside0.mk (ql_ (g := gb101) (o := .cells #[.int .i64 a2_0, .int .i64 a2_1, .string a2_2] 30 (0, 0)) (by (with_reducible repeat (first | refine qd_ ?_ _ | refine qf_ ?_ | refine qe_ ?_ _)); exact BK101.out) hb); have n1_ := Aside0.mk (qk_ (by repeat (first | (with_reducible first | exact HB.out | apply qc_ | apply qa_ | apply qb_ | refine qg_ ?_ GE101.out) | exact HB.out)) hb); clear BK101; clear HB; have BK101 := n0_; have HB := n1_; clear n0_ n1_; (try clear hb); (try clear hb2); (try clear hk); (try clear hi)))
  (try simp only [Act.put, sa_, sb_, sc_])
  go_cut [30] (fun v30 wc => ∃ (kq : Nat) (x30_5 : Bool), v30 = .bool x30_5 ∧ Aside0 (law04_EntryJoins.j0 kq l0 l1 x30_5 a2_0 a2_1 a2_2 = some r) ∧ Aside0 (kq ≤ k) ∧ Aside0 (wc.heap[gb101]? = some (.cells #[.int .i64 a2_0, .int .i64 a2_1, .string a2_2] 30 (0, 0))) ∧ Aside0 (Below w.heap.size w wc))
  case first =>
   have H := HC6.out
   clear HC6
   replace H := ob_ H
   obtain ⟨t103, A90, H⟩ := H
   replace H : (if t103 = true then (law04_EntryJoins.j0 k l0 l1 true a2_0 a2_1 a2_2) else ((ref04_Great.f k l1).bind fun t104 => (if t104 = true then (law04_EntryJoins.j0 k l0 l1 true a2_0 a2_1 a2_2) else ((ref04_Right.f k l0).bind fun t105 => (if t105 = true then ((ref04_Right.f k l1).bind fun t106 => (if t106 = true then ((ref04_May.f a2_0 a2_1 a2_2).bind fun t107 => (law04_EntryJoins.j0 k l0 l1 (!t107) a2_0 a2_1 a2_2)) else (law04_EntryJoins.j0 k l0 l1 true a2_0 a2_1 a2_2))) else (law04_EntryJoins.j0 k l0 l1 true a2_0 a2_1 a2_2)))))) = some r := H
   have A9 := Aside0.mk A90
   clear A90
   by_cases c10 : t103 = true
   ·subst c10
    have H1 : (law04_EntryJoins.j0 k l0 l1 true a2_0 a2_1 a2_2) = some r := by rw [if_pos rfl] at H; exact H
    clear H
    have H := H1
    clear H1
    have H' := Aside0.mk H
    clear H
    go_wp2_with (first | ((with_reducible refine gate_callee (f := 9) rfl ?_); refine goesL_ (some 11) rfl rfl Try.func9 (by kernel_rfl) rfl #[.slice A0 l0.length c0] rfl (by (try simp only [List.map_toArray, List.map_cons, List.map_nil]); first | done | rfl | (simp only [List.length_drop, List.length_take]; rfl)) ?_; (with_reducible refine (ref04_Great.calls k _ _ l0 true _ ?side1 ?side2 A9.out).mono ?_); (case side1 => repeat (first | exact (Kd.C_below HR0.out HB.out) | (with_reducible refine Kd.qt_ ?_ _) | (with_reducible refine Kd.qs_ ?_ _) | (with_reducible refine Kd.C_drew ?_))); (case side2 => exact HC0.out); rintro e w' ⟨rfl, ⟨nd, rfl⟩⟩; refine ⟨_, rfl, ?_⟩))
    go_meet
    case rel => exact ⟨_, (true), (by first | rfl | (simp; done) | (simp [*]; done)), H', ⟨by first | omega | exact Nat.le_refl _⟩, ⟨by (with_reducible repeat (first | refine qd_ ?_ _ | refine qf_ ?_ | refine qe_ ?_ _)); exact BK101.out⟩, ⟨by repeat (first | (with_reducible first | exact HB.out | apply qc_ | apply qa_ | apply qb_ | refine qg_ ?_ GE101.out) | exact HB.out)⟩⟩
   ·replace c10 := Bool.eq_false_iff.mpr c10
    subst c10
    have H1 : ((ref04_Great.f k l1).bind fun t104 => (if t104 = true then (law04_EntryJoins.j0 k l0 l1 true a2_0 a2_1 a2_2) else ((ref04_Right.f k l0).bind fun t105 => (if t105 = true then ((ref04_Right.f k l1).bind fun t106 => (if t106 = true then ((ref04_May.f a2_0 a2_1 a2_2).bind fun t107 => (law04_EntryJoins.j0 k l0 l1 (!t107) a2_0 a2_1 a2_2)) else (law04_EntryJoins.j0 k l0 l1 true a2_0 a2_1 a2_2))) else (law04_EntryJoins.j0 k l0 l1 true a2_0 a2_1 a2_2))))) = some r := by rw [if_neg (show ¬ (false = true) by decide)] at H; exact H
    clear H
    have H := H1
    clear H1
    replace H := ob_ H
    obtain ⟨t104, A110, H⟩ := H
    replace H : (if t104 = true then (law04_EntryJoins.j0 k l0 l1 true a2_0 a2_1 a2_2) else ((ref04_Right.f k l0).bind fun t105 => (if t105 = true then ((ref04_Right.f k l1).bind fun t106 => (if t106 = true then ((ref04_May.f a2_0 a2_1 a2_2).bind fun t107 => (law04_EntryJoins.j0 k l0 l1 (!t107) a2_0 a2_1 a2_2)) else (law04_EntryJoins.j0 k l0 l1 true a2_0 a2_1 a2_2))) else (law04_EntryJoins.j0 k l0 l1 true a2_0 a2_1 a2_2)))) = some r := H
    have A11 := Aside0.mk A110
    clear A110
    by_cases c12 : t104 = true
    ·subst c12
     have H1 : (law04_EntryJoins.j0 k l0 l1 true a2_0 a2_1 a2_2) = some r := by rw [if_pos rfl] at H; exact H
     clear H
     have H := H1
     clear H1
     have H' := Aside0.mk H
     clear H
     go_wp2_with (first | ((with_reducible refine gate_callee (f := 9) rfl ?_); refine goesL_ (some 11) rfl rfl Try.func9 (by kernel_rfl) rfl #[.slice A0 l0.length c0] rfl (by (try simp only [List.map_toArray, List.map_cons, List.map_nil]); first | done | rfl | (simp only [List.length_drop, List.length_take]; rfl)) ?_; (with_reducible refine (ref04_Great.calls k _ _ l0 false _ ?side1 ?side2 A9.out).mono ?_); (case side1 => repeat (first | exact (Kd.C_below HR0.out HB.out) | (with_reducible refine Kd.qt_ ?_ _) | (with_reducible refine Kd.qs_ ?_ _) | (with_reducible refine Kd.C_drew ?_))); (case side2 => exact HC0.out); rintro e w' ⟨rfl, ⟨nd, rfl⟩⟩; refine ⟨_, rfl, ?_⟩) | (go_at_call 9; (with_reducible refine (ref04_Great.calls k _ _ l1 true _ ?side1 ?side2 A11.out).mono ?_); (case side1 => repeat (first | exact (Kd.C_below HR1.out (by repeat (first | (with_reducible first | exact HB.out | apply qc_ | apply qa_ | apply qb_ | refine qg_ ?_ GE101.out) | exact HB.out))) | (with_reducible refine Kd.qt_ ?_ _) | (with_reducible refine Kd.qs_ ?_ _) | (with_reducible refine Kd.C_drew ?_))); (case side2 => exact HC1.out); rintro e w' ⟨rfl, ⟨nd, rfl⟩⟩))
     go_meet
     case rel => exact ⟨_, (true), (by first | rfl | (simp; done) | (simp [*]; done)), H', ⟨by first | omega | exact Nat.le_refl _⟩, ⟨by (with_reducible repeat (first | refine qd_ ?_ _ | refine qf_ ?_ | refine qe_ ?_ _)); exact BK101.out⟩, ⟨by repeat (first | (with_reducible first | exact HB.out | apply qc_ | apply qa_ | apply qb_ | refine qg_ ?_ GE101.out) | exact HB.out)⟩⟩
    ·replace c12 := Bool.eq_false_iff.mpr c12
     subst c12
     have H1 : ((ref04_Right.f k l0).bind fun t105 => (if t105 = true then ((ref04_Right.f k l1).bind fun t106 => (if t106 = true then ((ref04_May.f a2_0 a2_1 a2_2).bind fun t107 => (law04_EntryJoins.j0 k l0 l1 (!t107) a2_0 a2_1 a2_2)) else (law04_EntryJoins.j0 k l0 l1 true a2_0 a2_1 a2_2))) else (law04_EntryJoins.j0 k l0 l1 true a2_0 a2_1 a2_2))) = some r := by rw [if_neg (show ¬ (false = true) by decide)] at H; exact H
     clear H
     have H := H1
     clear H1
     replace H := ob_ H
     obtain ⟨t105, A130, H⟩ := H
     replace H : (if t105 = true then ((ref04_Right.f k l1).bind fun t106 => (if t106 = true then ((ref04_May.f a2_0 a2_1 a2_2).bind fun t107 => (law04_EntryJoins.j0 k l0 l1 (!t107) a2_0 a2_1 a2_2)) else (law04_EntryJoins.j0 k l0 l1 true a2_0 a2_1 a2_2))) else (law04_EntryJoins.j0 k l0 l1 true a2_0 a2_1 a2_2)) = some r := H
     have A13 := Aside0.mk A130
     clear A130
     by_cases c14 : t105 = true
     ·subst c14
      have H1 : ((ref04_Right.f k l1).bind fun t106 => (if t106 = true then ((ref04_May.f a2_0 a2_1 a2_2).bind fun t107 => (law04_EntryJoins.j0 k l0 l1 (!t107) a2_0 a2_1 a2_2)) else (law04_EntryJoins.j0 k l0 l1 true a2_0 a2_1 a2_2))) = some r := by rw [if_pos rfl] at H; exact H
      clear H
      have H := H1
      clear H1
      replace H := ob_ H
      obtain ⟨t106, A150, H⟩ := H
      replace H : (if t106 = true then ((ref04_May.f a2_0 a2_1 a2_2).bind fun t107 => (law04_EntryJoins.j0 k l0 l1 (!t107) a2_0 a2_1 a2_2)) else (law04_EntryJoins.j0 k l0 l1 true a2_0 a2_1 a2_2)) = some r := H
      have A15 := Aside0.mk A150
      clear A150
      by_cases c16 : t106 = true
      ·subst c16
       have H1 : ((ref04_May.f a2_0 a2_1 a2_2).bind fun t107 => (law04_EntryJoins.j0 k l0 l1 (!t107) a2_0 a2_1 a2_2)) = some r := by rw [if_pos rfl] at H; exact H
       clear H
       have H := H1
       clear H1
       replace H := ob_ H
       obtain ⟨t107, A170, H⟩ := H
       replace H : (law04_EntryJoins.j0 k l0 l1 (!t107) a2_0 a2_1 a2_2) = some r := H
       have A17 := Aside0.mk A170
       clear A170
       have H' := Aside0.mk H
       clear H
       go_wp2_with (first | ((with_reducible refine gate_callee (f := 9) rfl ?_); refine goesL_ (some 11) rfl rfl Try.func9 (by kernel_rfl) rfl #[.slice A0 l0.length c0] rfl (by (try simp only [List.map_toArray, List.map_cons, List.map_nil]); first | done | rfl | (simp only [List.length_drop, List.length_take]; rfl)) ?_; (with_reducible refine (ref04_Great.calls k _ _ l0 false _ ?side1 ?side2 A9.out).mono ?_); (case side1 => repeat (first | exact (Kd.C_below HR0.out HB.out) | (with_reducible refine Kd.qt_ ?_ _) | (with_reducible refine Kd.qs_ ?_ _) | (with_reducible refine Kd.C_drew ?_))); (case side2 => exact HC0.out); rintro e w' ⟨rfl, ⟨nd, rfl⟩⟩; refine ⟨_, rfl, ?_⟩) | (go_at_call 9; (with_reducible refine (ref04_Great.calls k _ _ l1 false _ ?side1 ?side2 A11.out).mono ?_); (case side1 => repeat (first | exact (Kd.C_below HR1.out (by repeat (first | (with_reducible first | exact HB.out | apply qc_ | apply qa_ | apply qb_ | refine qg_ ?_ GE101.out) | exact HB.out))) | (with_reducible refine Kd.qt_ ?_ _) | (with_reducible refine Kd.qs_ ?_ _) | (with_reducible refine Kd.C_drew ?_))); (case side2 => exact HC1.out); rintro e w' ⟨rfl, ⟨nd, rfl⟩⟩) | (go_at_call 10; (with_reducible refine (ref04_Right.calls k _ _ l0 true _ ?side1 ?side2 A13.out).mono ?_); (case side1 => repeat (first | exact (Kd.C_below HR0.out (by repeat (first | (with_reducible first | exact HB.out | apply qc_ | apply qa_ | apply qb_ | refine qg_ ?_ GE101.out) | exact HB.out))) | (with_reducible refine Kd.qt_ ?_ _) | (with_reducible refine Kd.qs_ ?_ _) | (with_reducible refine Kd.C_drew ?_))); (case side2 => exact HC0.out); rintro e w18 ⟨rfl, hb⟩; have n0_ := Aside0.mk (ql_ (g := gb101) (o := .cells #[.int .i64 a2_0, .int .i64 a2_1, .string a2_2] 30 (0, 0)) (by (with_reducible repeat (first | refine qd_ ?_ _ | refine qf_ ?_ | refine qe_ ?_ _)); exact BK101.out) hb); have n1_ := Aside0.mk (qk_ (by repeat (first | (with_reducible first | exact HB.out | apply qc_ | apply qa_ | apply qb_ | refine qg_ ?_ GE101.out) | exact HB.out)) hb); clear BK101; clear HB; have BK101 := n0_; have HB := n1_; clear n0_ n1_; (try clear hb); (try clear hb2); (try clear hk); (try clear hi)) | (go_at_call 10; (with_reducible refine (ref04_Right.calls k _ _ l1 true _ ?side1 ?side2 A15.out).mono ?_); (case side1 => repeat (first | exact (Kd.C_below HR1.out HB.out) | (with_reducible refine Kd.qt_ ?_ _) | (with_reducible refine Kd.qs_ ?_ _) | (with_reducible refine Kd.C_drew ?_))); (case side2 => exact HC1.out); rintro e w19 ⟨rfl, hb⟩; have n0_ := Aside0.mk (ql_ (g := gb101) (o := .cells #[.int .i64 a2_0, .int .i64 a2_1, .string a2_2] 30 (0, 0)) (by (with_reducible repeat (first | refine qd_ ?_ _ | refine qf_ ?_ | refine qe_ ?_ _)); exact BK101.out) hb); have n1_ := Aside0.mk (qk_ (by repeat (first | (with_reducible first | exact HB.out | apply qc_ | apply qa_ | apply qb_ | refine qg_ ?_ GE101.out) | exact HB.out)) hb); clear BK101; clear HB; have BK101 := n0_; have HB := n1_; clear n0_ n1_; (try clear hb); (try clear hb2); (try clear hk); (try clear hi); have hcz20_0 : w19.cell? ⟨gb101, 0, none⟩ = some (.int .i64 a2_0) := (qi_ BK101.out 0).trans rfl; have hcz20_1 : w19.cell? ⟨gb101, 1, none⟩ = some (.int .i64 a2_1) := (qi_ BK101.out 1).trans rfl; have hcz20_2 : w19.cell? ⟨gb101, 2, none⟩ = some (.string a2_2) := (qi_ BK101.out 2).trans rfl; have hfz20_0 := qh_ BK101.out 0; have hfz20_1 := qh_ BK101.out 1; have hfz20_2 := qh_ BK101.out 2) | (go_at_call 19; (with_reducible refine (ref04_May.calls a2_0 a2_1 a2_2 t107 _ A17.out).mono ?_); rintro e w21 ⟨rfl, hb⟩; have n0_ := Aside0.mk (ql_ (g := gb101) (o := .cells #[.int .i64 a2_0, .int .i64 a2_1, .string a2_2] 30 (0, 0)) (by (with_reducible repeat (first | refine qd_ ?_ _ | refine qf_ ?_ | refine qe_ ?_ _)); exact BK101.out) hb); have n1_ := Aside0.mk (qk_ (by repeat (first | (with_reducible first | exact HB.out | apply qc_ | apply qa_ | apply qb_ | refine qg_ ?_ GE101.out) | exact HB.out)) hb); clear BK101; clear HB; have BK101 := n0_; have HB := n1_; clear n0_ n1_; (try clear hb); (try clear hb2); (try clear hk); (try clear hi)))
       go_meet
       case rel => exact ⟨_, (!t107), (by first | rfl | (simp; done) | (simp [*]; done)), H', ⟨by first | omega | exact Nat.le_refl _⟩, ⟨by (with_reducible repeat (first | refine qd_ ?_ _ | refine qf_ ?_ | refine qe_ ?_ _)); exact BK101.out⟩, ⟨by repeat (first | (with_reducible first | exact HB.out | apply qc_ | apply qa_ | apply qb_ | refine qg_ ?_ GE101.out) | exact HB.out)⟩⟩
      ·replace c16 := Bool.eq_false_iff.mpr c16
       subst c16
       have H1 : (law04_EntryJoins.j0 k l0 l1 true a2_0 a2_1 a2_2) = some r := by rw [if_neg (show ¬ (false = true) by decide)] at H; exact H
       clear H
       have H := H1
       clear H1
       have H' := Aside0.mk H
       clear H
       go_wp2_with (first | ((with_reducible refine gate_callee (f := 9) rfl ?_); refine goesL_ (some 11) rfl rfl Try.func9 (by kernel_rfl) rfl #[.slice A0 l0.length c0] rfl (by (try simp only [List.map_toArray, List.map_cons, List.map_nil]); first | done | rfl | (simp only [List.length_drop, List.length_take]; rfl)) ?_; (with_reducible refine (ref04_Great.calls k _ _ l0 false _ ?side1 ?side2 A9.out).mono ?_); (case side1 => repeat (first | exact (Kd.C_below HR0.out HB.out) | (with_reducible refine Kd.qt_ ?_ _) | (with_reducible refine Kd.qs_ ?_ _) | (with_reducible refine Kd.C_drew ?_))); (case side2 => exact HC0.out); rintro e w' ⟨rfl, ⟨nd, rfl⟩⟩; refine ⟨_, rfl, ?_⟩) | (go_at_call 9; (with_reducible refine (ref04_Great.calls k _ _ l1 false _ ?side1 ?side2 A11.out).mono ?_); (case side1 => repeat (first | exact (Kd.C_below HR1.out (by repeat (first | (with_reducible first | exact HB.out | apply qc_ | apply qa_ | apply qb_ | refine qg_ ?_ GE101.out) | exact HB.out))) | (with_reducible refine Kd.qt_ ?_ _) | (with_reducible refine Kd.qs_ ?_ _) | (with_reducible refine Kd.C_drew ?_))); (case side2 => exact HC1.out); rintro e w' ⟨rfl, ⟨nd, rfl⟩⟩) | (go_at_call 10; (with_reducible refine (ref04_Right.calls k _ _ l0 true _ ?side1 ?side2 A13.out).mono ?_); (case side1 => repeat (first | exact (Kd.C_below HR0.out (by repeat (first | (with_reducible first | exact HB.out | apply qc_ | apply qa_ | apply qb_ | refine qg_ ?_ GE101.out) | exact HB.out))) | (with_reducible refine Kd.qt_ ?_ _) | (with_reducible refine Kd.qs_ ?_ _) | (with_reducible refine Kd.C_drew ?_))); (case side2 => exact HC0.out); rintro e w22 ⟨rfl, hb⟩; have n0_ := Aside0.mk (ql_ (g := gb101) (o := .cells #[.int .i64 a2_0, .int .i64 a2_1, .string a2_2] 30 (0, 0)) (by (with_reducible repeat (first | refine qd_ ?_ _ | refine qf_ ?_ | refine qe_ ?_ _)); exact BK101.out) hb); have n1_ := Aside0.mk (qk_ (by repeat (first | (with_reducible first | exact HB.out | apply qc_ | apply qa_ | apply qb_ | refine qg_ ?_ GE101.out) | exact HB.out)) hb); clear BK101; clear HB; have BK101 := n0_; have HB := n1_; clear n0_ n1_; (try clear hb); (try clear hb2); (try clear hk); (try clear hi)) | (go_at_call 10; (with_reducible refine (ref04_Right.calls k _ _ l1 false _ ?side1 ?side2 A15.out).mono ?_); (case side1 => repeat (first | exact (Kd.C_below HR1.out HB.out) | (with_reducible refine Kd.qt_ ?_ _) | (with_reducible refine Kd.qs_ ?_ _) | (with_reducible refine Kd.C_drew ?_))); (case side2 => exact HC1.out); rintro e w23 ⟨rfl, hb⟩; have n0_ := Aside0.mk (ql_ (g := gb101) (o := .cells #[.int .i64 a2_0, .int .i64 a2_1, .string a2_2] 30 (0, 0)) (by (with_reducible repeat (first | refine qd_ ?_ _ | refine qf_ ?_ | refine qe_ ?_ _)); exact BK101.out) hb); have n1_ := Aside0.mk (qk_ (by repeat (first | (with_reducible first | exact HB.out | apply qc_ | apply qa_ | apply qb_ | refine qg_ ?_ GE101.out) | exact HB.out)) hb); clear BK101; clear HB; have BK101 := n0_; have HB := n1_; clear n0_ n1_; (try clear hb); (try clear hb2); (try clear hk); (try clear hi)))
       go_meet
       case rel => exact ⟨_, (true), (by first | rfl | (simp; done) | (simp [*]; done)), H', ⟨by first | omega | exact Nat.le_refl _⟩, ⟨by (with_reducible repeat (first | refine qd_ ?_ _ | refine qf_ ?_ | refine qe_ ?_ _)); exact BK101.out⟩, ⟨by repeat (first | (with_reducible first | exact HB.out | apply qc_ | apply qa_ | apply qb_ | refine qg_ ?_ GE101.out) | exact HB.out)⟩⟩
     ·replace c14 := Bool.eq_false_iff.mpr c14
      subst c14
      have H1 : (law04_EntryJoins.j0 k l0 l1 true a2_0 a2_1 a2_2) = some r := by rw [if_neg (show ¬ (false = true) by decide)] at H; exact H
      clear H
      have H := H1
      clear H1
      have H' := Aside0.mk H
      clear H
      go_wp2_with (first | ((with_reducible refine gate_callee (f := 9) rfl ?_); refine goesL_ (some 11) rfl rfl Try.func9 (by kernel_rfl) rfl #[.slice A0 l0.length c0] rfl (by (try simp only [List.map_toArray, List.map_cons, List.map_nil]); first | done | rfl | (simp only [List.length_drop, List.length_take]; rfl)) ?_; (with_reducible refine (ref04_Great.calls k _ _ l0 false _ ?side1 ?side2 A9.out).mono ?_); (case side1 => repeat (first | exact (Kd.C_below HR0.out HB.out) | (with_reducible refine Kd.qt_ ?_ _) | (with_reducible refine Kd.qs_ ?_ _) | (with_reducible refine Kd.C_drew ?_))); (case side2 => exact HC0.out); rintro e w' ⟨rfl, ⟨nd, rfl⟩⟩; refine ⟨_, rfl, ?_⟩) | (go_at_call 9; (with_reducible refine (ref04_Great.calls k _ _ l1 false _ ?side1 ?side2 A11.out).mono ?_); (case side1 => repeat (first | exact (Kd.C_below HR1.out (by repeat (first | (with_reducible first | exact HB.out | apply qc_ | apply qa_ | apply qb_ | refine qg_ ?_ GE101.out) | exact HB.out))) | (with_reducible refine Kd.qt_ ?_ _) | (with_reducible refine Kd.qs_ ?_ _) | (with_reducible refine Kd.C_drew ?_))); (case side2 => exact HC1.out); rintro e w' ⟨rfl, ⟨nd, rfl⟩⟩) | (go_at_call 10; (with_reducible refine (ref04_Right.calls k _ _ l0 false _ ?side1 ?side2 A13.out).mono ?_); (case side1 => repeat (first | exact (Kd.C_below HR0.out (by repeat (first | (with_reducible first | exact HB.out | apply qc_ | apply qa_ | apply qb_ | refine qg_ ?_ GE101.out) | exact HB.out))) | (with_reducible refine Kd.qt_ ?_ _) | (with_reducible refine Kd.qs_ ?_ _) | (with_reducible refine Kd.C_drew ?_))); (case side2 => exact HC0.out); rintro e w24 ⟨rfl, hb⟩; have n0_ := Aside0.mk (ql_ (g := gb101) (o := .cells #[.int .i64 a2_0, .int .i64 a2_1, .string a2_2] 30 (0, 0)) (by (with_reducible repeat (first | refine qd_ ?_ _ | refine qf_ ?_ | refine qe_ ?_ _)); exact BK101.out) hb); have n1_ := Aside0.mk (qk_ (by repeat (first | (with_reducible first | exact HB.out | apply qc_ | apply qa_ | apply qb_ | refine qg_ ?_ GE101.out) | exact HB.out)) hb); clear BK101; clear HB; have BK101 := n0_; have HB := n1_; clear n0_ n1_; (try clear hb); (try clear hb2); (try clear hk); (try clear hi)))
      go_meet
      case rel => exact ⟨_, (true), (by first | rfl | (simp; done) | (simp [*]; done)), H', ⟨by first | omega | exact Nat.le_refl _⟩, ⟨by (with_reducible repeat (first | refine qd_ ?_ _ | refine qf_ ?_ | refine qe_ ?_ _)); exact BK101.out⟩, ⟨by repeat (first | (with_reducible first | exact HB.out | apply qc_ | apply qa_ | apply qb_ | refine qg_ ?_ GE101.out) | exact HB.out)⟩⟩
  case rest =>
   clear HC6
   try clear c1
   try clear p2
   try clear c5
   try clear c6
   try clear c8
   try clear c9
   try clear c10
   try clear c12
   try clear c14
   try clear c16
   try clear hcz20_0
   try clear hcz20_1
   try clear hcz20_2
   try clear hfz20_0
   try clear hfz20_1
   try clear hfz20_2
   obtain ⟨kq, x30_5, rfl, HA, HJ5, BK101, HB⟩ := hcut
   cases kq with
   | zero => exact absurd HA.out (by simp [law04_EntryJoins.j0])
   | succ kj5 =>
    have H := HA.out
    clear HA
    simp only [law04_EntryJoins.j0] at H
    by_cases c25 : x30_5 = true
    ·subst c25
     have H1 : (some true) = some r := by rw [if_pos rfl] at H; exact H
     clear H
     have H := H1
     clear H1
     obtain rfl := Option.some.inj H
     go_wp2
     go_ret
     exact ⟨by first | rfl | (simp [errW_none, errW_some] <;> rfl) | (simp [*, errW_none, errW_some] <;> rfl), by repeat (first | (with_reducible first | exact HB.out | apply qc_ | apply qa_ | apply qb_ | refine qg_ ?_ GE101.out) | exact HB.out)⟩
    ·replace c25 := Bool.eq_false_iff.mpr c25
     subst c25
     have H1 : ((some (([] : List (S30)) : List (S30))).bind fun y108 => (if y108.length + l0.length < 4398046511104 then ((some (y108 ++ l0 : List (S30))).bind fun y111 => ((entry_Join.f kj5 y111 l1).bind fun t114 => ((ref04_Join.f kj5 l0 l1).bind fun t117 => ((ref04_Same.f kj5 t114 t117).bind fun t120 => (if t120 = true then ((entry_Put.f y111 a2_0 a2_1 a2_2).bind fun t121 => ((ref04_Put.f kj5 l0 a2_0 a2_1 a2_2).bind fun t124 => ((ref04_Same.f kj5 t121 t124).bind fun t127 => (if t127 = true then ((entry_Over.f l0 l1).bind fun t128 => ((ref04_Over.f kj5 l0 l1).bind fun t129 => (if (t128 == t129) = true then ((ref04_Same.f kj5 y111 l0).bind fun t130 => (some t130)) else (some false)))) else (some false))))) else (some false)))))) else (none))) = some r := by rw [if_neg (show ¬ (false = true) by decide)] at H; exact H
     clear H
     have H := H1
     clear H1
     obtain ⟨y108, hy108⟩ : ∃ y_ : List (S30), y_ = (([] : List (S30))) := ⟨_, rfl⟩
     replace H : (if y108.length + l0.length < 4398046511104 then ((some (y108 ++ l0 : List (S30))).bind fun y111 => ((entry_Join.f kj5 y111 l1).bind fun t114 => ((ref04_Join.f kj5 l0 l1).bind fun t117 => ((ref04_Same.f kj5 t114 t117).bind fun t120 => (if t120 = true then ((entry_Put.f y111 a2_0 a2_1 a2_2).bind fun t121 => ((ref04_Put.f kj5 l0 a2_0 a2_1 a2_2).bind fun t124 => ((ref04_Same.f kj5 t121 t124).bind fun t127 => (if t127 = true then ((entry_Over.f l0 l1).bind fun t128 => ((ref04_Over.f kj5 l0 l1).bind fun t129 => (if (t128 == t129) = true then ((ref04_Same.f kj5 y111 l0).bind fun t130 => (some t130)) else (some false)))) else (some false))))) else (some false)))))) else (none)) = some r := by first | (rw [hy108]; with_reducible exact H) | (have H2_ := (Option.bind_some _ _).symm.trans H; rw [hy108]; with_reducible exact H2_) | (have H2_ := (Option.bind_some _ _).symm.trans H; with_reducible exact H2_) | with_reducible exact H | (rw [hy108]; exact H) | exact H
     have Ny108 := Aside0.mk hy108
     clear hy108
     by_cases c26 : y108.length + l0.length < 4398046511104
     ·rw [if_pos c26] at H
      have LMc26 := Aside0.mk c26
      clear c26
      obtain ⟨y111, hy111⟩ : ∃ y_ : List (S30), y_ = (y108 ++ l0) := ⟨_, rfl⟩
      replace H : ((entry_Join.f kj5 y111 l1).bind fun t114 => ((ref04_Join.f kj5 l0 l1).bind fun t117 => ((ref04_Same.f kj5 t114 t117).bind fun t120 => (if t120 = true then ((entry_Put.f y111 a2_0 a2_1 a2_2).bind fun t121 => ((ref04_Put.f kj5 l0 a2_0 a2_1 a2_2).bind fun t124 => ((ref04_Same.f kj5 t121 t124).bind fun t127 => (if t127 = true then ((entry_Over.f l0 l1).bind fun t128 => ((ref04_Over.f kj5 l0 l1).bind fun t129 => (if (t128 == t129) = true then ((ref04_Same.f kj5 y111 l0).bind fun t130 => (some t130)) else (some false)))) else (some false))))) else (some false))))) = some r := by first | (rw [hy111]; with_reducible exact H) | (have H2_ := (Option.bind_some _ _).symm.trans H; rw [hy111]; with_reducible exact H2_) | (have H2_ := (Option.bind_some _ _).symm.trans H; with_reducible exact H2_) | with_reducible exact H | (rw [hy111]; exact H) | exact H
      have Ny111 := Aside0.mk hy111
      clear hy111
      replace H := ob_ H
      obtain ⟨t114, A270, H⟩ := H
      replace H : ((ref04_Join.f kj5 l0 l1).bind fun t117 => ((ref04_Same.f kj5 t114 t117).bind fun t120 => (if t120 = true then ((entry_Put.f y111 a2_0 a2_1 a2_2).bind fun t121 => ((ref04_Put.f kj5 l0 a2_0 a2_1 a2_2).bind fun t124 => ((ref04_Same.f kj5 t121 t124).bind fun t127 => (if t127 = true then ((entry_Over.f l0 l1).bind fun t128 => ((ref04_Over.f kj5 l0 l1).bind fun t129 => (if (t128 == t129) = true then ((ref04_Same.f kj5 y111 l0).bind fun t130 => (some t130)) else (some false)))) else (some false))))) else (some false)))) = some r := H
      have A27 := Aside0.mk A270
      clear A270
      replace H := ob_ H
      obtain ⟨t117, A280, H⟩ := H
      replace H : ((ref04_Same.f kj5 t114 t117).bind fun t120 => (if t120 = true then ((entry_Put.f y111 a2_0 a2_1 a2_2).bind fun t121 => ((ref04_Put.f kj5 l0 a2_0 a2_1 a2_2).bind fun t124 => ((ref04_Same.f kj5 t121 t124).bind fun t127 => (if t127 = true then ((entry_Over.f l0 l1).bind fun t128 => ((ref04_Over.f kj5 l0 l1).bind fun t129 => (if (t128 == t129) = true then ((ref04_Same.f kj5 y111 l0).bind fun t130 => (some t130)) else (some false)))) else (some false))))) else (some false))) = some r := H
      have A28 := Aside0.mk A280
      clear A280
      replace H := ob_ H
      obtain ⟨t120, A290, H⟩ := H
      replace H : (if t120 = true then ((entry_Put.f y111 a2_0 a2_1 a2_2).bind fun t121 => ((ref04_Put.f kj5 l0 a2_0 a2_1 a2_2).bind fun t124 => ((ref04_Same.f kj5 t121 t124).bind fun t127 => (if t127 = true then ((entry_Over.f l0 l1).bind fun t128 => ((ref04_Over.f kj5 l0 l1).bind fun t129 => (if (t128 == t129) = true then ((ref04_Same.f kj5 y111 l0).bind fun t130 => (some t130)) else (some false)))) else (some false))))) else (some false)) = some r := H
      have A29 := Aside0.mk A290
      clear A290
      by_cases c30 : t120 = true
      ·subst c30
       have H1 : ((entry_Put.f y111 a2_0 a2_1 a2_2).bind fun t121 => ((ref04_Put.f kj5 l0 a2_0 a2_1 a2_2).bind fun t124 => ((ref04_Same.f kj5 t121 t124).bind fun t127 => (if t127 = true then ((entry_Over.f l0 l1).bind fun t128 => ((ref04_Over.f kj5 l0 l1).bind fun t129 => (if (t128 == t129) = true then ((ref04_Same.f kj5 y111 l0).bind fun t130 => (some t130)) else (some false)))) else (some false))))) = some r := by rw [if_pos rfl] at H; exact H
       clear H
       have H := H1
       clear H1
       replace H := ob_ H
       obtain ⟨t121, A310, H⟩ := H
       replace H : ((ref04_Put.f kj5 l0 a2_0 a2_1 a2_2).bind fun t124 => ((ref04_Same.f kj5 t121 t124).bind fun t127 => (if t127 = true then ((entry_Over.f l0 l1).bind fun t128 => ((ref04_Over.f kj5 l0 l1).bind fun t129 => (if (t128 == t129) = true then ((ref04_Same.f kj5 y111 l0).bind fun t130 => (some t130)) else (some false)))) else (some false)))) = some r := H
       have A31 := Aside0.mk A310
       clear A310
       replace H := ob_ H
       obtain ⟨t124, A320, H⟩ := H
       replace H : ((ref04_Same.f kj5 t121 t124).bind fun t127 => (if t127 = true then ((entry_Over.f l0 l1).bind fun t128 => ((ref04_Over.f kj5 l0 l1).bind fun t129 => (if (t128 == t129) = true then ((ref04_Same.f kj5 y111 l0).bind fun t130 => (some t130)) else (some false)))) else (some false))) = some r := H
       have A32 := Aside0.mk A320
       clear A320
       replace H := ob_ H
       obtain ⟨t127, A330, H⟩ := H
       replace H : (if t127 = true then ((entry_Over.f l0 l1).bind fun t128 => ((ref04_Over.f kj5 l0 l1).bind fun t129 => (if (t128 == t129) = true then ((ref04_Same.f kj5 y111 l0).bind fun t130 => (some t130)) else (some false)))) else (some false)) = some r := H
       have A33 := Aside0.mk A330
       clear A330
       by_cases c34 : t127 = true
       ·subst c34
        have H1 : ((entry_Over.f l0 l1).bind fun t128 => ((ref04_Over.f kj5 l0 l1).bind fun t129 => (if (t128 == t129) = true then ((ref04_Same.f kj5 y111 l0).bind fun t130 => (some t130)) else (some false)))) = some r := by rw [if_pos rfl] at H; exact H
        clear H
        have H := H1
        clear H1
        replace H := ob_ H
        obtain ⟨t128, A350, H⟩ := H
        replace H : ((ref04_Over.f kj5 l0 l1).bind fun t129 => (if (t128 == t129) = true then ((ref04_Same.f kj5 y111 l0).bind fun t130 => (some t130)) else (some false))) = some r := H
        have A35 := Aside0.mk A350
        clear A350
        replace H := ob_ H
        obtain ⟨t129, A360, H⟩ := H
        replace H : (if (t128 == t129) = true then ((ref04_Same.f kj5 y111 l0).bind fun t130 => (some t130)) else (some false)) = some r := H
        have A36 := Aside0.mk A360
        clear A360
        by_cases c37 : (t128 == t129) = true
        ·rw [if_pos c37] at H
         have c37b0 : (t128 == t129) = true := c37
         (try (have c37b1 : decide (t128 = t129) = true := by simpa using c37))
         (try (have c37b2 : (t128 == t129) = true := by simpa using c37))
         clear c37
         replace H := ob_ H
         obtain ⟨t130, A380, H⟩ := H
         replace H : (some t130) = some r := H
         have A38 := Aside0.mk A380
         clear A380
         obtain rfl := Option.some.inj H
         try go_wp2_with (first | ((with_reducible refine qq_ (N := 31) rfl ?_); refine Kd.R_lit k30 _ 30 ?hg (N := 31) ?hd (xs := ([] : List (S30))) (inner := []) (ok := fun _ => True) (okp := fun _ => True) ?hr ?hp (fun _ hk => hk) trivial (Below.refl _ _) (Nat.le_refl _) (by simp) ?_; (case hd => rfl); (case hg => rfl); (case hr => first | (go_simp; done) | (go_simp; rfl)); (case hp => exact (Reps.none _ _)); intro v109 w39 ho40 hb hg_ hnew_; clear hg_ hnew_; (first | rw [← Ny108.out] at ho40 | (simp only [Int.reduceToNat] at ho40; rw [← Ny108.out] at ho40)); have n0_ := Aside0.mk (Kd.R_lower (Kd.R_newB ho40 (g := gb101) (o := .cells #[.int .i64 a2_0, .int .i64 a2_1, .string a2_2] 30 (0, 0)) (by (with_reducible repeat (first | refine qd_ ?_ _ | refine qf_ ?_ | refine qe_ ?_ _)); exact BK101.out)) (qj_ (by repeat (first | (with_reducible first | exact HB.out | apply qc_ | apply qa_ | apply qb_ | refine qg_ ?_ GE101.out) | exact HB.out)))); have n1_ := Aside0.mk (ql_ (g := gb101) (o := .cells #[.int .i64 a2_0, .int .i64 a2_1, .string a2_2] 30 (0, 0)) (by (with_reducible repeat (first | refine qd_ ?_ _ | refine qf_ ?_ | refine qe_ ?_ _)); exact BK101.out) hb); have n2_ := Aside0.mk (qk_ (by repeat (first | (with_reducible first | exact HB.out | apply qc_ | apply qa_ | apply qb_ | refine qg_ ?_ GE101.out) | exact HB.out)) hb); clear BK101; clear HB; have HO110 := n0_; have BK101 := n1_; have HB := n2_; clear n0_ n1_ n2_; clear hb ho40) | ((with_reducible refine gate_builtin (b := .append) (xs := #[.tmp 31, .tmp 32]) rfl ?_); at_builtin; refine Kd.R_append_rows k30 (w0 := w) w.heap.size rfl (.tmp 31) (.tmp 32) 22 30 (.agg #[(.int .i64 0), (.int .i64 0), (.string ⟨#[]⟩)]) 32 rfl Try.underlying22 info30 rfl (by decide) (by omega) v109 y108 l0 _ _ _ (fun k_ => k_ ≠ gb101) (fun _ => False) rfl rfl ?aO ?aR (fun _ _ h => h) (fun _ h => h.elim) ?aF ?aB ?aS ?aL ?_; (case aR => repeat (first | exact (Kd.C_below HR0.out HB.out) | (with_reducible refine Kd.qt_ ?_ _) | (with_reducible refine Kd.qs_ ?_ _) | (with_reducible refine Kd.C_drew ?_))); (case aB => exact (by repeat (first | (with_reducible first | exact HB.out | apply qc_ | apply qa_ | apply qb_ | refine qg_ ?_ GE101.out) | exact HB.out))); (case aF => exact (fun k_ hk => Kd.freshB (g := gb101) (o := .cells #[.int .i64 a2_0, .int .i64 a2_1, .string a2_2] 30 (0, 0)) (by (with_reducible repeat (first | refine qd_ ?_ _ | refine qf_ ?_ | refine qe_ ?_ _)); exact BK101.out) k_ hk)); (case aO => exact (by (with_reducible repeat (first | apply Kd.qn_ | apply Kd.qm_ | apply Kd.R_drew)); exact Kd.R_mono HO110.out (fun _ hk => hk.2))); (case aS => exact (qj_ (by repeat (first | (with_reducible first | exact HB.out | apply qc_ | apply qa_ | apply qb_ | refine qg_ ?_ GE101.out) | exact HB.out)))); (case aL => have := LMc26.out; omega); intro v112 w41 ho hb hg hat; rw [← Ny111.out] at ho; have n0_ := Aside0.mk (blk_grown (g := gb101) (o := .cells #[.int .i64 a2_0, .int .i64 a2_1, .string a2_2] 30 (0, 0)) (by (with_reducible repeat (first | refine qd_ ?_ _ | refine qf_ ?_ | refine qe_ ?_ _)); exact BK101.out) hg (Kd.R_away HO110.out (fun _ hk => hk.2))); have n1_ := Aside0.mk (hb); have n2_ := Aside0.mk (ho); clear BK101; clear HB; clear HO110; have BK101 := n0_; have HB := n1_; have HO113 := n2_; clear n0_ n1_ n2_; clear ho hb hg hat))
         have n0_ := Aside0.mk (Kd.R_drew HO113.out)
         have n1_ := Aside0.mk (qf_ BK101.out)
         have n2_ := Aside0.mk (qb_ HB.out)
         clear HO113
         clear BK101
         clear HB
         have HO113 := n0_
         have BK101 := n1_
         have HB := n2_
         clear n0_ n1_ n2_
         obtain ⟨Ao43, co43, eo43⟩ := Kd.R_slice HO113.out
         (first | subst eo43 | (injection eo43 with f1_ f2_ f3_; have f4_ := f1_.symm; have f5_ := f3_.symm; clear f1_ f2_ f3_; subst f4_; subst f5_))
         refine start_ (n := 31) (S := fun w' => w'.cell? ⟨gb101, 0, none⟩ = some (.int .i64 a2_0) ∧ w'.cell? ⟨gb101, 1, none⟩ = some (.int .i64 a2_1) ∧ w'.cell? ⟨gb101, 2, none⟩ = some (.string a2_2)) (ds := []) #[false,false,false,false,false,false,false,false,false,false,false,false,false,false,false,false,false,false,false,false,false,false,false,false,false,false,false,false,false,false,false] (by kernel_rfl) rfl rfl ⟨(qi_ BK101.out 0).trans rfl, (qi_ BK101.out 1).trans rfl, (qi_ BK101.out 2).trans rfl⟩ (fun hHeld => ?_); refine with_tabW law04_EntryJoins.tab6 law04_EntryJoins.bits6 (fun HT_ HW_ => ?_)
         generalize w41.drew = w42 at HO113 BK101 HB hHeld ⊢
         refine pure_ (i := 0) (N := some 34) (v := ?_) (a' := ?_) #[true,false,false,false,false,false,false,false,false,false,false,false,false,false,false,false,false,false,false,false,false,false,false,false,false,false,false,false,false,false,false] rfl rfl (any_of HT_.out (by kernel_rfl)) (fun _ _ _ h => h) (Or.inl ⟨by rfl, ?_⟩) ?_ ?_
         rotate_left
         ·intro w'
          go_simp
          with_reducible rfl
         rotate_left
         ·simp only [Act.put, sa_, sb_, sc_, i64_w, i32_w]
          rfl
         refine pure_ (i := 1) (N := some 35) (v := ?_) (a' := ?_) #[true,true,false,false,false,false,false,false,false,false,false,false,false,false,false,false,false,false,false,false,false,false,false,false,false,false,false,false,false,false,false] rfl rfl (any_of HT_.out (by kernel_rfl)) (fun _ _ _ h => h) (Or.inl ⟨by rfl, ?_⟩) ?_ ?_
         rotate_left
         ·intro w'
          go_simp
          with_reducible rfl
         rotate_left
         ·simp only [Act.put, sa_, sb_, sc_, i64_w, i32_w]
          rfl
         refine pure_ (i := 3) (N := some 37) (v := ?_) (a' := ?_) #[true,true,false,true,false,false,false,false,false,false,false,false,false,false,false,false,false,false,false,false,false,false,false,false,false,false,false,false,false,false,false] rfl rfl (any_of HT_.out (by kernel_rfl)) (fun _ _ _ h => h) (Or.inl ⟨by rfl, ?_⟩) ?_ ?_
         rotate_left
         ·intro w'
          go_simp
          with_reducible rfl
         rotate_left
         ·simp only [Act.put, sa_, sb_, sc_, i64_w, i32_w]
          rfl
         refine pure_ (i := 4) (N := some 38) (v := ?_) (a' := ?_) #[true,true,false,true,true,false,false,false,false,false,false,false,false,false,false,false,false,false,false,false,false,false,false,false,false,false,false,false,false,false,false] rfl rfl (any_of HT_.out (by kernel_rfl)) (fun _ _ _ h => h) (Or.inl ⟨by rfl, ?_⟩) ?_ ?_
         rotate_left
         ·intro w'
          go_simp
          with_reducible rfl
         rotate_left
         ·simp only [Act.put, sa_, sb_, sc_, i64_w, i32_w]
          rfl
         refine one_ (i := 2) (N := some 36) #[true,true,true,true,true,false,false,false,false,false,false,false,false,false,false,false,false,false,false,false,false,false,false,false,false,false,false,false,false,false,false] rfl rfl (one_of HT_.out (by kernel_rfl)) (by decide) (fun K hK => ?_)
         refine goes_ Try.func11 (by kernel_rfl) rfl #[.slice Ao43 y111.length co43, .slice A1 l1.length c1] (by rfl) rfl rfl (by (try simp only [List.map_toArray, List.map_cons, List.map_nil]); first | done | rfl | (simp only [List.length_drop, List.length_take]; rfl)) ?_
         with_reducible refine (entry_Join.calls kj5 (fun k_ => some k_ = (.slice Ao43 y111.length co43 : Value).ownBlock) _ _ y111 (fun k_ => k_ < w.heap.size) _ _ l1 t114 _ ?side1 ?side2 A27.out).mono ?_
         (case side1 => exact Kd.R_V (Kd.R_tight rfl (HO113.out)))
         (case side2 => exact Kd.V_mk HC1.out (Kd.F_below (Kd.C_F k30_heap HR1.out) (by repeat (first | (with_reducible first | exact HB.out | apply qc_ | apply qa_ | apply qb_ | refine qg_ ?_ GE101.out) | exact HB.out))))
         rintro e w44 ⟨v115, rfl, ho0, hb⟩
         refine ⟨_, rfl, ?_⟩
         have n0_ := Aside0.mk (Kd.R_elder' (by (with_reducible repeat (first | apply Kd.qn_ | apply Kd.qm_ | apply Kd.R_drew)); exact HO113.out) (Kd.R_base ho0) hb)
         have n1_ := Aside0.mk (Kd.R_lower (Kd.R_newB (Kd.R_new' (Kd.R_mono (ok' := fun k_ => True) ho0 (fun _ hk_ => trivial)) (Kd.R_lt (by (with_reducible repeat (first | apply Kd.qn_ | apply Kd.qm_ | apply Kd.R_drew)); exact HO113.out))) (g := gb101) (o := .cells #[.int .i64 a2_0, .int .i64 a2_1, .string a2_2] 30 (0, 0)) (by (with_reducible repeat (first | refine qd_ ?_ _ | refine qf_ ?_ | refine qe_ ?_ _)); exact BK101.out)) (qj_ (by repeat (first | (with_reducible first | exact HB.out | apply qc_ | apply qa_ | apply qb_ | refine qg_ ?_ GE101.out) | exact HB.out))))
         have n2_ := Aside0.mk (ql_ (g := gb101) (o := .cells #[.int .i64 a2_0, .int .i64 a2_1, .string a2_2] 30 (0, 0)) (by (with_reducible repeat (first | refine qd_ ?_ _ | refine qf_ ?_ | refine qe_ ?_ _)); exact BK101.out) hb)
         have n3_ := Aside0.mk (qk_ (by repeat (first | (with_reducible first | exact HB.out | apply qc_ | apply qa_ | apply qb_ | refine qg_ ?_ GE101.out) | exact HB.out)) hb)
         clear HO113
         clear BK101
         clear HB
         have HO113 := n0_
         have HO116 := n1_
         have BK101 := n2_
         have HB := n3_
         clear n0_ n1_ n2_ n3_
         (try clear hb)
         (try clear hb2)
         (try clear hk)
         (try clear hi)
         (try clear ho0)
         refine hK.out _ _ ⟨(qi_ BK101.out 0).trans rfl, (qi_ BK101.out 1).trans rfl, (qi_ BK101.out 2).trans rfl⟩ (fun hHeld => ?_)
         clear hK K
         refine norm_ (a' := ?_) ?_ ?_
         rotate_left
         ·show Act.put _ (some 36) _ = _
          simp only [Act.put, sa_, sb_, sc_, i64_w, i32_w]
          rfl
         refine one_ (i := 5) (N := some 39) #[true,true,true,true,true,true,false,false,false,false,false,false,false,false,false,false,false,false,false,false,false,false,false,false,false,false,false,false,false,false,false] rfl rfl (one_of HT_.out (by kernel_rfl)) (by decide) (fun K hK => ?_)
         refine goes_ Try.func24 (by kernel_rfl) rfl #[.slice A0 l0.length c0, .slice A1 l1.length c1] (by rfl) rfl rfl (by (try simp only [List.map_toArray, List.map_cons, List.map_nil]); first | done | rfl | (simp only [List.length_drop, List.length_take]; rfl)) ?_
         with_reducible refine (ref04_Join.calls kj5 _ _ l0 _ _ l1 t117 _ ?side1 ?side2 ?side3 ?side4 A28.out).mono ?_
         (case side1 => repeat (first | exact (Kd.C_below HR0.out HB.out) | (with_reducible refine Kd.qt_ ?_ _) | (with_reducible refine Kd.qs_ ?_ _) | (with_reducible refine Kd.C_drew ?_)))
         (case side2 => exact HC0.out)
         (case side3 => repeat (first | exact (Kd.C_below HR1.out HB.out) | (with_reducible refine Kd.qt_ ?_ _) | (with_reducible refine Kd.qs_ ?_ _) | (with_reducible refine Kd.C_drew ?_)))
         (case side4 => exact HC1.out)
         rintro e w45 ⟨v118, rfl, ho0, hb⟩
         refine ⟨_, rfl, ?_⟩
         have n0_ := Aside0.mk (Kd.R_elder' (by (with_reducible repeat (first | apply Kd.qn_ | apply Kd.qm_ | apply Kd.R_drew)); exact HO113.out) (Kd.R_base ho0) hb)
         have n1_ := Aside0.mk (Kd.R_elder' (by (with_reducible repeat (first | apply Kd.qn_ | apply Kd.qm_ | apply Kd.R_drew)); exact HO116.out) (Kd.R_base ho0) hb)
         have n2_ := Aside0.mk (Kd.R_lower (Kd.R_newB (Kd.R_new' (Kd.R_new' ho0 (Kd.R_lt (by (with_reducible repeat (first | apply Kd.qn_ | apply Kd.qm_ | apply Kd.R_drew)); exact HO113.out))) (Kd.R_lt (by (with_reducible repeat (first | apply Kd.qn_ | apply Kd.qm_ | apply Kd.R_drew)); exact HO116.out))) (g := gb101) (o := .cells #[.int .i64 a2_0, .int .i64 a2_1, .string a2_2] 30 (0, 0)) (by (with_reducible repeat (first | refine qd_ ?_ _ | refine qf_ ?_ | refine qe_ ?_ _)); exact BK101.out)) (qj_ (by repeat (first | (with_reducible first | exact HB.out | apply qc_ | apply qa_ | apply qb_ | refine qg_ ?_ GE101.out) | exact HB.out))))
         have n3_ := Aside0.mk (ql_ (g := gb101) (o := .cells #[.int .i64 a2_0, .int .i64 a2_1, .string a2_2] 30 (0, 0)) (by (with_reducible repeat (first | refine qd_ ?_ _ | refine qf_ ?_ | refine qe_ ?_ _)); exact BK101.out) hb)
         have n4_ := Aside0.mk (qk_ (by repeat (first | (with_reducible first | exact HB.out | apply qc_ | apply qa_ | apply qb_ | refine qg_ ?_ GE101.out) | exact HB.out)) hb)
         clear HO113
         clear HO116
         clear BK101
         clear HB
         have HO113 := n0_
         have HO116 := n1_
         have HO119 := n2_
         have BK101 := n3_
         have HB := n4_
         clear n0_ n1_ n2_ n3_ n4_
         (try clear hb)
         (try clear hb2)
         (try clear hk)
         (try clear hi)
         (try clear ho0)
         obtain ⟨Ao46, co46, eo46⟩ := Kd.R_slice HO116.out
         (first | subst eo46 | (injection eo46 with f1_ f2_ f3_; have f4_ := f1_.symm; have f5_ := f3_.symm; clear f1_ f2_ f3_; subst f4_; subst f5_))
         obtain ⟨Ao47, co47, eo47⟩ := Kd.R_slice HO119.out
         (first | subst eo47 | (injection eo47 with f1_ f2_ f3_; have f4_ := f1_.symm; have f5_ := f3_.symm; clear f1_ f2_ f3_; subst f4_; subst f5_))
         refine hK.out _ _ ⟨(qi_ BK101.out 0).trans rfl, (qi_ BK101.out 1).trans rfl, (qi_ BK101.out 2).trans rfl⟩ (fun hHeld => ?_)
         clear hK K
         refine norm_ (a' := ?_) ?_ ?_
         rotate_left
         ·show Act.put _ (some 39) _ = _
          simp only [Act.put, sa_, sb_, sc_, i64_w, i32_w]
          rfl
         refine one_ (i := 6) (N := some 40) #[true,true,true,true,true,true,true,false,false,false,false,false,false,false,false,false,false,false,false,false,false,false,false,false,false,false,false,false,false,false,false] rfl rfl (one_of HT_.out (by kernel_rfl)) (by decide) (fun K hK => ?_)
         refine goes_ Try.func12 (by kernel_rfl) rfl #[.slice Ao46 t114.length co46, .slice Ao47 t117.length co47] (by rfl) rfl rfl (by (try simp only [List.map_toArray, List.map_cons, List.map_nil]); first | done | rfl | (simp only [List.length_drop, List.length_take]; rfl)) ?_
         with_reducible refine (ref04_Same.calls kj5 _ _ t114 _ _ t117 true _ ?side1 ?side2 ?side3 ?side4 A29.out).mono ?_
         (case side1 => repeat (first | exact (Kd.R_reads' HO116.out).2.2 | (with_reducible refine Kd.qt_ ?_ _) | (with_reducible refine Kd.qs_ ?_ _) | (with_reducible refine Kd.C_drew ?_)))
         (case side2 => exact (Kd.R_reads' HO116.out).2.1)
         (case side3 => repeat (first | exact (Kd.R_reads' HO119.out).2.2 | (with_reducible refine Kd.qt_ ?_ _) | (with_reducible refine Kd.qs_ ?_ _) | (with_reducible refine Kd.C_drew ?_)))
         (case side4 => exact (Kd.R_reads' HO119.out).2.1)
         rintro e w' ⟨rfl, ⟨nd, rfl⟩⟩
         refine ⟨_, rfl, ?_⟩
         refine hK.out _ _ ⟨(qi_ BK101.out 0).trans rfl, (qi_ BK101.out 1).trans rfl, (qi_ BK101.out 2).trans rfl⟩ (fun hHeld => ?_)
         clear hK K
         refine norm_ (a' := ?_) ?_ ?_
         rotate_left
         ·show Act.put _ (some 40) _ = _
          simp only [Act.put, sa_, sb_, sc_, i64_w, i32_w]
          rfl
         refine pure_ (i := 7) (N := some 41) (v := ?_) (a' := ?_) #[true,true,true,true,true,true,true,true,false,false,false,false,false,false,false,false,false,false,false,false,false,false,false,false,false,false,false,false,false,false,false] rfl rfl (any_of HT_.out (by kernel_rfl)) (fun _ _ _ h => h) (Or.inl ⟨by rfl, ?_⟩) ?_ ?_
         rotate_left
         ·intro w'
          go_simp
          with_reducible rfl
         rotate_left
         ·simp only [Act.put, sa_, sb_, sc_, i64_w, i32_w]
          rfl
         refine pure_ (i := 8) (N := some 42) (v := ?_) (a' := ?_) #[true,true,true,true,true,true,true,true,true,false,false,false,false,false,false,false,false,false,false,false,false,false,false,false,false,false,false,false,false,false,false] rfl rfl (any_of HT_.out (by kernel_rfl)) (fun _ _ _ h => h) (Or.inl ⟨by rfl, ?_⟩) ?_ ?_
         rotate_left
         ·intro w'
          go_simp
          with_reducible rfl
         rotate_left
         ·simp only [Act.put, sa_, sb_, sc_, i64_w, i32_w]
          rfl
         refine pure_ (i := 11) (N := some 45) (v := ?_) (a' := ?_) #[true,true,true,true,true,true,true,true,true,false,false,true,false,false,false,false,false,false,false,false,false,false,false,false,false,false,false,false,false,false,false] rfl rfl (any_of HT_.out (by kernel_rfl)) (fun _ _ _ h => h) (Or.inl ⟨by rfl, ?_⟩) ?_ ?_
         rotate_left
         ·intro w'
          go_simp
          with_reducible rfl
         rotate_left
         ·simp only [Act.put, sa_, sb_, sc_, i64_w, i32_w]
          rfl
         refine take_ (i := 9) (N := some 43) (v := ?_) (a' := ?_) #[true,true,true,true,true,true,true,true,true,true,false,true,false,false,false,false,false,false,false,false,false,false,false,false,false,false,false,false,false,false,false] rfl rfl (take_ofW HT_.out HW_.out (by kernel_rfl)) (fun _ _ _ h => h) (Or.inl ⟨by rfl, ?_⟩) hHeld ?_ ?_
         rotate_left
         ·rintro w' ⟨s0, s1, s2⟩
          go_simp
          with_reducible rfl
         rotate_left
         ·simp only [Act.put, sa_, sb_, sc_, i64_w, i32_w]
          rfl
         refine take_ (i := 12) (N := some 46) (v := ?_) (a' := ?_) #[true,true,true,true,true,true,true,true,true,true,false,true,true,false,false,false,false,false,false,false,false,false,false,false,false,false,false,false,false,false,false] rfl rfl (take_ofW HT_.out HW_.out (by kernel_rfl)) (fun _ _ _ h => h) (Or.inl ⟨by rfl, ?_⟩) hHeld ?_ ?_
         rotate_left
         ·rintro w' ⟨s0, s1, s2⟩
          go_simp
          with_reducible rfl
         rotate_left
         ·simp only [Act.put, sa_, sb_, sc_, i64_w, i32_w]
          rfl
         refine one_ (i := 10) (N := some 44) #[true,true,true,true,true,true,true,true,true,true,true,true,true,false,false,false,false,false,false,false,false,false,false,false,false,false,false,false,false,false,false] rfl rfl (one_of HT_.out (by kernel_rfl)) (by decide) (fun K hK => ?_)
         refine goes_ Try.func25 (by kernel_rfl) rfl #[.slice Ao43 y111.length co43, .agg #[.int .i64 a2_0, .int .i64 a2_1, .string a2_2]] (by rfl) rfl rfl (by (try simp only [List.map_toArray, List.map_cons, List.map_nil]); first | done | rfl | (simp only [List.length_drop, List.length_take]; rfl)) ?_
         with_reducible refine (entry_Put.calls _ _ y111 a2_0 a2_1 a2_2 t121 _ ?side1 ?side2 A31.out).mono ?_
         (case side1 => repeat (first | exact (Kd.R_reads' HO113.out).2.2 | (with_reducible refine Kd.qt_ ?_ _) | (with_reducible refine Kd.qs_ ?_ _) | (with_reducible refine Kd.C_drew ?_)))
         (case side2 => exact (Kd.R_reads' HO113.out).2.1)
         rintro e w48 ⟨v122, rfl, ho0, hb⟩
         refine ⟨_, rfl, ?_⟩
         have n0_ := Aside0.mk (Kd.R_elder' (by (with_reducible repeat (first | apply Kd.qn_ | apply Kd.qm_ | apply Kd.R_drew)); exact HO113.out) (Kd.R_base ho0) hb)
         have n1_ := Aside0.mk (Kd.R_elder' (by (with_reducible repeat (first | apply Kd.qn_ | apply Kd.qm_ | apply Kd.R_drew)); exact HO116.out) (Kd.R_base ho0) hb)
         have n2_ := Aside0.mk (Kd.R_elder' (by (with_reducible repeat (first | apply Kd.qn_ | apply Kd.qm_ | apply Kd.R_drew)); exact HO119.out) (Kd.R_base ho0) hb)
         have n3_ := Aside0.mk (Kd.R_lower (Kd.R_newB (Kd.R_new' (Kd.R_new' (Kd.R_new' ho0 (Kd.R_lt (by (with_reducible repeat (first | apply Kd.qn_ | apply Kd.qm_ | apply Kd.R_drew)); exact HO113.out))) (Kd.R_lt (by (with_reducible repeat (first | apply Kd.qn_ | apply Kd.qm_ | apply Kd.R_drew)); exact HO116.out))) (Kd.R_lt (by (with_reducible repeat (first | apply Kd.qn_ | apply Kd.qm_ | apply Kd.R_drew)); exact HO119.out))) (g := gb101) (o := .cells #[.int .i64 a2_0, .int .i64 a2_1, .string a2_2] 30 (0, 0)) (by (with_reducible repeat (first | refine qd_ ?_ _ | refine qf_ ?_ | refine qe_ ?_ _)); exact BK101.out)) (qj_ (by repeat (first | (with_reducible first | exact HB.out | apply qc_ | apply qa_ | apply qb_ | refine qg_ ?_ GE101.out) | exact HB.out))))
         have n4_ := Aside0.mk (ql_ (g := gb101) (o := .cells #[.int .i64 a2_0, .int .i64 a2_1, .string a2_2] 30 (0, 0)) (by (with_reducible repeat (first | refine qd_ ?_ _ | refine qf_ ?_ | refine qe_ ?_ _)); exact BK101.out) hb)
         have n5_ := Aside0.mk (qk_ (by repeat (first | (with_reducible first | exact HB.out | apply qc_ | apply qa_ | apply qb_ | refine qg_ ?_ GE101.out) | exact HB.out)) hb)
         clear HO113
         clear HO116
         clear HO119
         clear BK101
         clear HB
         have HO113 := n0_
         have HO116 := n1_
         have HO119 := n2_
         have HO123 := n3_
         have BK101 := n4_
         have HB := n5_
         clear n0_ n1_ n2_ n3_ n4_ n5_
         (try clear hb)
         (try clear hb2)
         (try clear hk)
         (try clear hi)
         (try clear ho0)
         refine hK.out _ _ ⟨(qi_ BK101.out 0).trans rfl, (qi_ BK101.out 1).trans rfl, (qi_ BK101.out 2).trans rfl⟩ (fun hHeld => ?_)
         clear hK K
         refine norm_ (a' := ?_) ?_ ?_
         rotate_left
         ·show Act.put _ (some 44) _ = _
          simp only [Act.put, sa_, sb_, sc_, i64_w, i32_w]
          rfl
         refine one_ (i := 13) (N := some 47) #[true,true,true,true,true,true,true,true,true,true,true,true,true,true,false,false,false,false,false,false,false,false,false,false,false,false,false,false,false,false,false] rfl rfl (one_of HT_.out (by kernel_rfl)) (by decide) (fun K hK => ?_)
         refine goes_ Try.func26 (by kernel_rfl) rfl #[.slice A0 l0.length c0, .agg #[.int .i64 a2_0, .int .i64 a2_1, .string a2_2]] (by rfl) rfl rfl (by (try simp only [List.map_toArray, List.map_cons, List.map_nil]); first | done | rfl | (simp only [List.length_drop, List.length_take]; rfl)) ?_
         with_reducible refine (ref04_Put.calls kj5 _ _ l0 a2_0 a2_1 a2_2 t124 _ ?side1 ?side2 A32.out).mono ?_
         (case side1 => repeat (first | exact (Kd.C_below HR0.out HB.out) | (with_reducible refine Kd.qt_ ?_ _) | (with_reducible refine Kd.qs_ ?_ _) | (with_reducible refine Kd.C_drew ?_)))
         (case side2 => exact HC0.out)
         rintro e w49 ⟨v125, rfl, ho0, hb⟩
         refine ⟨_, rfl, ?_⟩
         have n0_ := Aside0.mk (Kd.R_elder' (by (with_reducible repeat (first | apply Kd.qn_ | apply Kd.qm_ | apply Kd.R_drew)); exact HO113.out) (Kd.R_base ho0) hb)
         have n1_ := Aside0.mk (Kd.R_elder' (by (with_reducible repeat (first | apply Kd.qn_ | apply Kd.qm_ | apply Kd.R_drew)); exact HO116.out) (Kd.R_base ho0) hb)
         have n2_ := Aside0.mk (Kd.R_elder' (by (with_reducible repeat (first | apply Kd.qn_ | apply Kd.qm_ | apply Kd.R_drew)); exact HO119.out) (Kd.R_base ho0) hb)
         have n3_ := Aside0.mk (Kd.R_elder' (by (with_reducible repeat (first | apply Kd.qn_ | apply Kd.qm_ | apply Kd.R_drew)); exact HO123.out) (Kd.R_base ho0) hb)
         have n4_ := Aside0.mk (Kd.R_lower (Kd.R_newB (Kd.R_new' (Kd.R_new' (Kd.R_new' (Kd.R_new' ho0 (Kd.R_lt (by (with_reducible repeat (first | apply Kd.qn_ | apply Kd.qm_ | apply Kd.R_drew)); exact HO113.out))) (Kd.R_lt (by (with_reducible repeat (first | apply Kd.qn_ | apply Kd.qm_ | apply Kd.R_drew)); exact HO116.out))) (Kd.R_lt (by (with_reducible repeat (first | apply Kd.qn_ | apply Kd.qm_ | apply Kd.R_drew)); exact HO119.out))) (Kd.R_lt (by (with_reducible repeat (first | apply Kd.qn_ | apply Kd.qm_ | apply Kd.R_drew)); exact HO123.out))) (g := gb101) (o := .cells #[.int .i64 a2_0, .int .i64 a2_1, .string a2_2] 30 (0, 0)) (by (with_reducible repeat (first | refine qd_ ?_ _ | refine qf_ ?_ | refine qe_ ?_ _)); exact BK101.out)) (qj_ (by repeat (first | (with_reducible first | exact HB.out | apply qc_ | apply qa_ | apply qb_ | refine qg_ ?_ GE101.out) | exact HB.out))))
         have n5_ := Aside0.mk (ql_ (g := gb101) (o := .cells #[.int .i64 a2_0, .int .i64 a2_1, .string a2_2] 30 (0, 0)) (by (with_reducible repeat (first | refine qd_ ?_ _ | refine qf_ ?_ | refine qe_ ?_ _)); exact BK101.out) hb)
         have n6_ := Aside0.mk (qk_ (by repeat (first | (with_reducible first | exact HB.out | apply qc_ | apply qa_ | apply qb_ | refine qg_ ?_ GE101.out) | exact HB.out)) hb)
         clear HO113
         clear HO116
         clear HO119
         clear HO123
         clear BK101
         clear HB
         have HO113 := n0_
         have HO116 := n1_
         have HO119 := n2_
         have HO123 := n3_
         have HO126 := n4_
         have BK101 := n5_
         have HB := n6_
         clear n0_ n1_ n2_ n3_ n4_ n5_ n6_
         (try clear hb)
         (try clear hb2)
         (try clear hk)
         (try clear hi)
         (try clear ho0)
         obtain ⟨Ao50, co50, eo50⟩ := Kd.R_slice HO123.out
         (first | subst eo50 | (injection eo50 with f1_ f2_ f3_; have f4_ := f1_.symm; have f5_ := f3_.symm; clear f1_ f2_ f3_; subst f4_; subst f5_))
         obtain ⟨Ao51, co51, eo51⟩ := Kd.R_slice HO126.out
         (first | subst eo51 | (injection eo51 with f1_ f2_ f3_; have f4_ := f1_.symm; have f5_ := f3_.symm; clear f1_ f2_ f3_; subst f4_; subst f5_))
         refine hK.out _ _ ⟨(qi_ BK101.out 0).trans rfl, (qi_ BK101.out 1).trans rfl, (qi_ BK101.out 2).trans rfl⟩ (fun hHeld => ?_)
         clear hK K
         refine norm_ (a' := ?_) ?_ ?_
         rotate_left
         ·show Act.put _ (some 47) _ = _
          simp only [Act.put, sa_, sb_, sc_, i64_w, i32_w]
          rfl
         refine one_ (i := 14) (N := some 48) #[true,true,true,true,true,true,true,true,true,true,true,true,true,true,true,false,false,false,false,false,false,false,false,false,false,false,false,false,false,false,false] rfl rfl (one_of HT_.out (by kernel_rfl)) (by decide) (fun K hK => ?_)
         refine goes_ Try.func12 (by kernel_rfl) rfl #[.slice Ao50 t121.length co50, .slice Ao51 t124.length co51] (by rfl) rfl rfl (by (try simp only [List.map_toArray, List.map_cons, List.map_nil]); first | done | rfl | (simp only [List.length_drop, List.length_take]; rfl)) ?_
         with_reducible refine (ref04_Same.calls kj5 _ _ t121 _ _ t124 true _ ?side1 ?side2 ?side3 ?side4 A33.out).mono ?_
         (case side1 => repeat (first | exact (Kd.R_reads' HO123.out).2.2 | (with_reducible refine Kd.qt_ ?_ _) | (with_reducible refine Kd.qs_ ?_ _) | (with_reducible refine Kd.C_drew ?_)))
         (case side2 => exact (Kd.R_reads' HO123.out).2.1)
         (case side3 => repeat (first | exact (Kd.R_reads' HO126.out).2.2 | (with_reducible refine Kd.qt_ ?_ _) | (with_reducible refine Kd.qs_ ?_ _) | (with_reducible refine Kd.C_drew ?_)))
         (case side4 => exact (Kd.R_reads' HO126.out).2.1)
         rintro e w' ⟨rfl, ⟨nd, rfl⟩⟩
         refine ⟨_, rfl, ?_⟩
         refine hK.out _ _ ⟨(qi_ BK101.out 0).trans rfl, (qi_ BK101.out 1).trans rfl, (qi_ BK101.out 2).trans rfl⟩ (fun hHeld => ?_)
         clear hK K
         refine norm_ (a' := ?_) ?_ ?_
         rotate_left
         ·show Act.put _ (some 48) _ = _
          simp only [Act.put, sa_, sb_, sc_, i64_w, i32_w]
          rfl
         refine pure_ (i := 15) (N := some 49) (v := ?_) (a' := ?_) #[true,true,true,true,true,true,true,true,true,true,true,true,true,true,true,true,false,false,false,false,false,false,false,false,false,false,false,false,false,false,false] rfl rfl (any_of HT_.out (by kernel_rfl)) (fun _ _ _ h => h) (Or.inl ⟨by rfl, ?_⟩) ?_ ?_
         rotate_left
         ·intro w'
          go_simp
          with_reducible rfl
         rotate_left
         ·simp only [Act.put, sa_, sb_, sc_, i64_w, i32_w]
          rfl
         refine pure_ (i := 16) (N := some 50) (v := ?_) (a' := ?_) #[true,true,true,true,true,true,true,true,true,true,true,true,true,true,true,true,true,false,false,false,false,false,false,false,false,false,false,false,false,false,false] rfl rfl (any_of HT_.out (by kernel_rfl)) (fun _ _ _ h => h) (Or.inl ⟨by rfl, ?_⟩) ?_ ?_
         rotate_left
         ·intro w'
          go_simp
          with_reducible rfl
         rotate_left
         ·simp only [Act.put, sa_, sb_, sc_, i64_w, i32_w]
          rfl
         refine pure_ (i := 17) (N := some 51) (v := ?_) (a' := ?_) #[true,true,true,true,true,true,true,true,true,true,true,true,true,true,true,true,true,true,false,false,false,false,false,false,false,false,false,false,false,false,false] rfl rfl (any_of HT_.out (by kernel_rfl)) (fun _ _ _ h => h) (Or.inl ⟨by rfl, ?_⟩) ?_ ?_
         rotate_left
         ·intro w'
          go_simp
          with_reducible rfl
         rotate_left
         ·simp only [Act.put, sa_, sb_, sc_, i64_w, i32_w]
          rfl
         refine pure_ (i := 18) (N := some 52) (v := ?_) (a' := ?_) #[true,true,true,true,true,true,true,true,true,true,true,true,true,true,true,true,true,true,true,false,false,false,false,false,false,false,false,false,false,false,false] rfl rfl (any_of HT_.out (by kernel_rfl)) (fun _ _ _ h => h) (Or.inl ⟨by rfl, ?_⟩) ?_ ?_
         rotate_left
         ·intro w'
          go_simp
          with_reducible rfl
         rotate_left
         ·simp only [Act.put, sa_, sb_, sc_, i64_w, i32_w]
          rfl
         refine pure_ (i := 20) (N := some 54) (v := ?_) (a' := ?_) #[true,true,true,true,true,true,true,true,true,true,true,true,true,true,true,true,true,true,true,false,true,false,false,false,false,false,false,false,false,false,false] rfl rfl (any_of HT_.out (by kernel_rfl)) (fun _ _ _ h => h) (Or.inl ⟨by rfl, ?_⟩) ?_ ?_
         rotate_left
         ·intro w'
          go_simp
          with_reducible rfl
         rotate_left
         ·simp only [Act.put, sa_, sb_, sc_, i64_w, i32_w]
          rfl
         refine pure_ (i := 21) (N := some 55) (v := ?_) (a' := ?_) #[true,true,true,true,true,true,true,true,true,true,true,true,true,true,true,true,true,true,true,false,true,true,false,false,false,false,false,false,false,false,false] rfl rfl (any_of HT_.out (by kernel_rfl)) (fun _ _ _ h => h) (Or.inl ⟨by rfl, ?_⟩) ?_ ?_
         rotate_left
         ·intro w'
          go_simp
          with_reducible rfl
         rotate_left
         ·simp only [Act.put, sa_, sb_, sc_, i64_w, i32_w]
          rfl
         refine one_ (i := 19) (N := some 53) #[true,true,true,true,true,true,true,true,true,true,true,true,true,true,true,true,true,true,true,true,true,true,false,false,false,false,false,false,false,false,false] rfl rfl (one_of HT_.out (by kernel_rfl)) (by decide) (fun K hK => ?_)
         refine goes_ Try.func13 (by kernel_rfl) rfl #[.slice A0 l0.length c0, .slice A1 l1.length c1] (by rfl) rfl rfl (by (try simp only [List.map_toArray, List.map_cons, List.map_nil]); first | done | rfl | (simp only [List.length_drop, List.length_take]; rfl)) ?_
         with_reducible refine (entry_Over.calls _ _ l0 _ _ l1 t128 _ ?side1 ?side2 ?side3 ?side4 A35.out).mono ?_
         (case side1 => repeat (first | exact (Kd.C_below HR0.out (by repeat (first | (with_reducible first | exact HB.out | apply qc_ | apply qa_ | apply qb_ | refine qg_ ?_ GE101.out) | exact HB.out))) | (with_reducible refine Kd.qt_ ?_ _) | (with_reducible refine Kd.qs_ ?_ _) | (with_reducible refine Kd.C_drew ?_)))
         (case side2 => exact HC0.out)
         (case side3 => repeat (first | exact (Kd.C_below HR1.out (by repeat (first | (with_reducible first | exact HB.out | apply qc_ | apply qa_ | apply qb_ | refine qg_ ?_ GE101.out) | exact HB.out))) | (with_reducible refine Kd.qt_ ?_ _) | (with_reducible refine Kd.qs_ ?_ _) | (with_reducible refine Kd.C_drew ?_)))
         (case side4 => exact HC1.out)
         rintro e w52 ⟨rfl, hb⟩
         refine ⟨_, rfl, ?_⟩
         have n0_ := Aside0.mk (Kd.R_below (by (with_reducible repeat (first | apply Kd.qn_ | apply Kd.qm_ | apply Kd.R_drew)); exact HO113.out) hb)
         have n1_ := Aside0.mk (Kd.R_below (by (with_reducible repeat (first | apply Kd.qn_ | apply Kd.qm_ | apply Kd.R_drew)); exact HO116.out) hb)
         have n2_ := Aside0.mk (Kd.R_below (by (with_reducible repeat (first | apply Kd.qn_ | apply Kd.qm_ | apply Kd.R_drew)); exact HO119.out) hb)
         have n3_ := Aside0.mk (Kd.R_below (by (with_reducible repeat (first | apply Kd.qn_ | apply Kd.qm_ | apply Kd.R_drew)); exact HO123.out) hb)
         have n4_ := Aside0.mk (Kd.R_below (by (with_reducible repeat (first | apply Kd.qn_ | apply Kd.qm_ | apply Kd.R_drew)); exact HO126.out) hb)
         have n5_ := Aside0.mk (ql_ (g := gb101) (o := .cells #[.int .i64 a2_0, .int .i64 a2_1, .string a2_2] 30 (0, 0)) (by (with_reducible repeat (first | refine qd_ ?_ _ | refine qf_ ?_ | refine qe_ ?_ _)); exact BK101.out) hb)
         have n6_ := Aside0.mk (qk_ (by repeat (first | (with_reducible first | exact HB.out | apply qc_ | apply qa_ | apply qb_ | refine qg_ ?_ GE101.out) | exact HB.out)) hb)
         clear HO113
         clear HO116
         clear HO119
         clear HO123
         clear HO126
         clear BK101
         clear HB
         have HO113 := n0_
         have HO116 := n1_
         have HO119 := n2_
         have HO123 := n3_
         have HO126 := n4_
         have BK101 := n5_
         have HB := n6_
         clear n0_ n1_ n2_ n3_ n4_ n5_ n6_
         (try clear hb)
         (try clear hb2)
         (try clear hk)
         (try clear hi)
         refine hK.out _ _ ⟨(qi_ BK101.out 0).trans rfl, (qi_ BK101.out 1).trans rfl, (qi_ BK101.out 2).trans rfl⟩ (fun hHeld => ?_)
         clear hK K
         refine norm_ (a' := ?_) ?_ ?_
         rotate_left
         ·show Act.put _ (some 53) _ = _
          simp only [Act.put, sa_, sb_, sc_, i64_w, i32_w]
          rfl
         refine one_ (i := 22) (N := some 56) #[true,true,true,true,true,true,true,true,true,true,true,true,true,true,true,true,true,true,true,true,true,true,true,false,false,false,false,false,false,false,false] rfl rfl (one_of HT_.out (by kernel_rfl)) (by decide) (fun K hK => ?_)
         refine goes_ Try.func27 (by kernel_rfl) rfl #[.slice A0 l0.length c0, .slice A1 l1.length c1] (by rfl) rfl rfl (by (try simp only [List.map_toArray, List.map_cons, List.map_nil]); first | done | rfl | (simp only [List.length_drop, List.length_take]; rfl)) ?_
         with_reducible refine (ref04_Over.calls kj5 _ _ l0 _ _ l1 t129 _ ?side1 ?side2 ?side3 ?side4 A36.out).mono ?_
         (case side1 => repeat (first | exact (Kd.C_below HR0.out HB.out) | (with_reducible refine Kd.qt_ ?_ _) | (with_reducible refine Kd.qs_ ?_ _) | (with_reducible refine Kd.C_drew ?_)))
         (case side2 => exact HC0.out)
         (case side3 => repeat (first | exact (Kd.C_below HR1.out HB.out) | (with_reducible refine Kd.qt_ ?_ _) | (with_reducible refine Kd.qs_ ?_ _) | (with_reducible refine Kd.C_drew ?_)))
         (case side4 => exact HC1.out)
         rintro e w53 ⟨rfl, hb⟩
         refine ⟨_, rfl, ?_⟩
         have n0_ := Aside0.mk (Kd.R_below (by (with_reducible repeat (first | apply Kd.qn_ | apply Kd.qm_ | apply Kd.R_drew)); exact HO113.out) hb)
         have n1_ := Aside0.mk (Kd.R_below (by (with_reducible repeat (first | apply Kd.qn_ | apply Kd.qm_ | apply Kd.R_drew)); exact HO116.out) hb)
         have n2_ := Aside0.mk (Kd.R_below (by (with_reducible repeat (first | apply Kd.qn_ | apply Kd.qm_ | apply Kd.R_drew)); exact HO119.out) hb)
         have n3_ := Aside0.mk (Kd.R_below (by (with_reducible repeat (first | apply Kd.qn_ | apply Kd.qm_ | apply Kd.R_drew)); exact HO123.out) hb)
         have n4_ := Aside0.mk (Kd.R_below (by (with_reducible repeat (first | apply Kd.qn_ | apply Kd.qm_ | apply Kd.R_drew)); exact HO126.out) hb)
         have n5_ := Aside0.mk (ql_ (g := gb101) (o := .cells #[.int .i64 a2_0, .int .i64 a2_1, .string a2_2] 30 (0, 0)) (by (with_reducible repeat (first | refine qd_ ?_ _ | refine qf_ ?_ | refine qe_ ?_ _)); exact BK101.out) hb)
         have n6_ := Aside0.mk (qk_ (by repeat (first | (with_reducible first | exact HB.out | apply qc_ | apply qa_ | apply qb_ | refine qg_ ?_ GE101.out) | exact HB.out)) hb)
         clear HO113
         clear HO116
         clear HO119
         clear HO123
         clear HO126
         clear BK101
         clear HB
         have HO113 := n0_
         have HO116 := n1_
         have HO119 := n2_
         have HO123 := n3_
         have HO126 := n4_
         have BK101 := n5_
         have HB := n6_
         clear n0_ n1_ n2_ n3_ n4_ n5_ n6_
         (try clear hb)
         (try clear hb2)
         (try clear hk)
         (try clear hi)
         refine hK.out _ _ ⟨(qi_ BK101.out 0).trans rfl, (qi_ BK101.out 1).trans rfl, (qi_ BK101.out 2).trans rfl⟩ (fun hHeld => ?_)
         clear hK K
         refine norm_ (a' := ?_) ?_ ?_
         rotate_left
         ·show Act.put _ (some 56) _ = _
          simp only [Act.put, sa_, sb_, sc_, i64_w, i32_w]
          rfl
         refine pure_ (i := 23) (N := some 57) (v := ?_) (a' := ?_) #[true,true,true,true,true,true,true,true,true,true,true,true,true,true,true,true,true,true,true,true,true,true,true,true,false,false,false,false,false,false,false] rfl rfl (any_of HT_.out (by kernel_rfl)) (fun _ _ _ h => h) (Or.inl ⟨by rfl, ?_⟩) ?_ ?_
         rotate_left
         ·intro w'
          go_simp
          with_reducible rfl
         rotate_left
         ·simp only [Act.put, sa_, sb_, sc_, i64_w, i32_w]
          rfl
         refine pure_ (i := 24) (N := some 58) (v := ?_) (a' := ?_) #[true,true,true,true,true,true,true,true,true,true,true,true,true,true,true,true,true,true,true,true,true,true,true,true,true,false,false,false,false,false,false] rfl rfl (any_of HT_.out (by kernel_rfl)) (fun _ _ _ h => h) (Or.inl ⟨by rfl, ?_⟩) ?_ ?_
         rotate_left
         ·intro w'
          go_simp
          with_reducible rfl
         rotate_left
         ·simp only [Act.put, sa_, sb_, sc_, i64_w, i32_w]
          rfl
         refine pure_ (i := 25) (N := some 59) (v := ?_) (a' := ?_) #[true,true,true,true,true,true,true,true,true,true,true,true,true,true,true,true,true,true,true,true,true,true,true,true,true,true,false,false,false,false,false] rfl rfl (any_of HT_.out (by kernel_rfl)) (fun _ _ _ h => h) (Or.inl ⟨by rfl, ?_⟩) ?_ ?_
         rotate_left
         ·intro w'
          go_simp
          with_reducible rfl
         rotate_left
         ·simp only [Act.put, sa_, sb_, sc_, i64_w, i32_w]
          rfl
         refine pure_ (i := 26) (N := some 60) (v := ?_) (a' := ?_) #[true,true,true,true,true,true,true,true,true,true,true,true,true,true,true,true,true,true,true,true,true,true,true,true,true,true,true,false,false,false,false] rfl rfl (any_of HT_.out (by kernel_rfl)) (fun _ _ _ h => h) (Or.inl ⟨by rfl, ?_⟩) ?_ ?_
         rotate_left
         ·intro w'
          go_simp
          with_reducible rfl
         rotate_left
         ·simp only [Act.put, sa_, sb_, sc_, i64_w, i32_w]
          rfl
         refine pure_ (i := 27) (N := some 61) (v := ?_) (a' := ?_) #[true,true,true,true,true,true,true,true,true,true,true,true,true,true,true,true,true,true,true,true,true,true,true,true,true,true,true,true,false,false,false] rfl rfl (any_of HT_.out (by kernel_rfl)) (fun _ _ _ h => h) (Or.inl ⟨by rfl, ?_⟩) ?_ ?_
         rotate_left
         ·intro w'
          go_simp
          with_reducible rfl
         rotate_left
         ·simp only [Act.put, sa_, sb_, sc_, i64_w, i32_w]
          rfl
         refine one_ (i := 28) (N := some 62) #[true,true,true,true,true,true,true,true,true,true,true,true,true,true,true,true,true,true,true,true,true,true,true,true,true,true,true,true,true,false,false] rfl rfl (one_of HT_.out (by kernel_rfl)) (by decide) (fun K hK => ?_)
         refine goes_ Try.func12 (by kernel_rfl) rfl #[.slice Ao43 y111.length co43, .slice A0 l0.length c0] (by rfl) rfl rfl (by (try simp only [List.map_toArray, List.map_cons, List.map_nil]); first | done | rfl | (simp only [List.length_drop, List.length_take]; rfl)) ?_
         with_reducible refine (ref04_Same.calls kj5 _ _ y111 _ _ l0 t130 _ ?side1 ?side2 ?side3 ?side4 A38.out).mono ?_
         (case side1 => repeat (first | exact (Kd.R_reads' HO113.out).2.2 | (with_reducible refine Kd.qt_ ?_ _) | (with_reducible refine Kd.qs_ ?_ _) | (with_reducible refine Kd.C_drew ?_)))
         (case side2 => exact (Kd.R_reads' HO113.out).2.1)
         (case side3 => repeat (first | exact (Kd.C_below HR0.out HB.out) | (with_reducible refine Kd.qt_ ?_ _) | (with_reducible refine Kd.qs_ ?_ _) | (with_reducible refine Kd.C_drew ?_)))
         (case side4 => exact HC0.out)
         rintro e w' ⟨rfl, ⟨nd, rfl⟩⟩
         refine ⟨_, rfl, ?_⟩
         refine hK.out _ _ ⟨(qi_ BK101.out 0).trans rfl, (qi_ BK101.out 1).trans rfl, (qi_ BK101.out 2).trans rfl⟩ (fun hHeld => ?_)
         clear hK K
         refine norm_ (a' := ?_) ?_ ?_
         rotate_left
         ·show Act.put _ (some 62) _ = _
          simp only [Act.put, sa_, sb_, sc_, i64_w, i32_w]
          rfl
         refine pure_ (i := 29) (N := some 63) (v := ?_) (a' := ?_) #[true,true,true,true,true,true,true,true,true,true,true,true,true,true,true,true,true,true,true,true,true,true,true,true,true,true,true,true,true,true,false] rfl rfl (any_of HT_.out (by kernel_rfl)) (fun _ _ _ h => h) (Or.inl ⟨by rfl, ?_⟩) ?_ ?_
         rotate_left
         ·intro w'
          go_simp
          with_reducible rfl
         rotate_left
         ·simp only [Act.put, sa_, sb_, sc_, i64_w, i32_w]
          rfl
         refine pure_ (i := 30) (N := some 6) (v := ?_) (a' := ?_) #[true,true,true,true,true,true,true,true,true,true,true,true,true,true,true,true,true,true,true,true,true,true,true,true,true,true,true,true,true,true,true] rfl rfl (any_of HT_.out (by kernel_rfl)) (fun _ _ _ h => h) (Or.inl ⟨by rfl, ?_⟩) ?_ ?_
         rotate_left
         ·intro w'
          go_simp
          with_reducible rfl
         rotate_left
         ·simp only [Act.put, sa_, sb_, sc_, i64_w, i32_w]
          rfl
         refine done_ (done_of HT_.out (by kernel_rfl)) ?_
         try go_wp2
         go_ret
         exact ⟨by first | rfl | (simp [errW_none, errW_some] <;> rfl) | (simp [*, errW_none, errW_some] <;> rfl), by repeat (first | (with_reducible first | exact HB.out | apply qc_ | apply qa_ | apply qb_ | refine qg_ ?_ GE101.out) | exact HB.out)⟩
        ·rw [if_neg c37] at H
         exact absurd ((Option.some.inj H).trans HRT.out) (by decide)
       ·rw [if_neg c34] at H
        exact absurd ((Option.some.inj H).trans HRT.out) (by decide)
      ·rw [if_neg c30] at H
       exact absurd ((Option.some.inj H).trans HRT.out) (by decide)
     ·rw [if_neg c26] at H
      exact absurd H (by simp)
 ·rw [if_neg c5] at H
  exact absurd ((Option.some.inj H).trans HRT.out) (by decide)
end Go.Proofs.Ytpccnpgigmcfoaa.P

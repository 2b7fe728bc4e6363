/- What this function of the program comes to, and that the machine's call does it: written by a program (wip/tool). No condition. -/
import Derived.Test.YtpccnpgigmcfoaaP0
import Derived.Test.YtpccnpgigmcfoaaPRef04Same
import Derived.Test.YtpccnpgigmcfoaaPEntryGet
import Derived.Test.YtpccnpgigmcfoaaPEntryOver
import Derived.Test.YtpccnpgigmcfoaaPLaw04Alive
import Derived.Test.YtpccnpgigmcfoaaPRef04Great
import Derived.Test.YtpccnpgigmcfoaaPRef04Right
import Derived.Test.YtpccnpgigmcfoaaHw
namespace Go.Proofs.Ytpccnpgigmcfoaa.P
open Go.RowKit Go.Proofs.YtpccnpgigmcfoaaW.PrintWords Go.Proofs.YtpccnpgigmcfoaaW.PrintLast Go.Proofs.YtpccnpgigmcfoaaW.PrintMore
attribute [local go_sem] max2_int min2_int max_two min_two max_three min_three max_four min_four Go.Proofs.YtpccnpgigmcfoaaW.Hw.string_gtr   -- for this text's walks alone
set_option linter.unusedVariables false
set_option linter.unusedSimpArgs false
/-! ### law04_EntryOvers: function 4 -/
mutual
def law04_EntryOvers.j0 : Nat → List (S30) → List (S30) → Bool → Option (Bool)
 | 0, _, _, _ => none
 | k + 1, x0, x1, x25 => if x25 = true then (some true) else ((entry_Over.f x0 x1).bind fun t106 => (if t106 = true then (law04_EntryOvers.l0 k x0 x1 0) else (law04_EntryOvers.j2 k x0 x1)))
def law04_EntryOvers.j2 : Nat → List (S30) → List (S30) → Option (Bool)
 | 0, _, _ => none
 | k + 1, x0, x1 => (entry_Over.f x0 x0).bind fun t114 => (if t114 = true then ((entry_Over.f x0 ([] : List (S30))).bind fun t115 => (if t115 = true then ((entry_Over.f x0 x1).bind fun t116 => (if t116 = true then ((entry_Over.f x1 x0).bind fun t117 => ((ref04_Same.f k x0 x1).bind fun t118 => (some (t117 == t118)))) else ((ref04_Same.f k x0 x1).bind fun t119 => (some (false == t119))))) else (some false))) else (some false))
def law04_EntryOvers.l0 : Nat → List (S30) → List (S30) → Int → Option (Bool)
 | 0, _, _, _ => none
 | k + 1, x0, x1, x5 => if x5 < (x1.length : Int) then (if 0 ≤ x5 then ((entry_Get.f x0 ((rd_T30 x1 x5).f0)).bind fun bt108 => (if bt108.2.2.2 = true then (if bt108.2.1 < ((rd_T30 x1 x5).f1) then (some false) else (law04_EntryOvers.l0 k x0 x1 (wrap64 (x5 + 1)))) else (some false))) else (none)) else (law04_EntryOvers.j2 k x0 x1)
end
def law04_EntryOvers.f (k : Nat) (l0 : List (S30)) (l1 : List (S30)) : Option (Bool) := (law04_alive.f k).bind fun t101 => (if t101 = true then ((ref04_Great.f k l0).bind fun t102 => (if t102 = true then (law04_EntryOvers.j0 k l0 l1 true) else ((ref04_Great.f k l1).bind fun t103 => (if t103 = true then (law04_EntryOvers.j0 k l0 l1 true) else ((ref04_Right.f k l0).bind fun t104 => (if t104 = true then ((ref04_Right.f k l1).bind fun t105 => (law04_EntryOvers.j0 k l0 l1 (!t105))) else (law04_EntryOvers.j0 k l0 l1 true))))))) else (some false))
theorem law04_EntryOvers.mono_l : ∀ k, (∀ y0 y1 y2, LeO (law04_EntryOvers.j0 k y0 y1 y2) (law04_EntryOvers.j0 (k + 1) y0 y1 y2)) ∧ (∀ y0 y1, LeO (law04_EntryOvers.j2 k y0 y1) (law04_EntryOvers.j2 (k + 1) y0 y1)) ∧ (∀ y0 y1 y2, LeO (law04_EntryOvers.l0 k y0 y1 y2) (law04_EntryOvers.l0 (k + 1) y0 y1 y2))
 | 0 => ⟨fun _ _ _ r h => by simp [law04_EntryOvers.j0] at h, fun _ _ r h => by simp [law04_EntryOvers.j2] at h, fun _ _ _ r h => by simp [law04_EntryOvers.l0] at h⟩
 | k + 1 => by
  obtain ⟨ih0, ih1, ih2⟩ := law04_EntryOvers.mono_l k
  refine ⟨?_, ?_, ?_⟩
  ·intro y0 y1 y2
   unfold law04_EntryOvers.j0
   repeat' first
   | (with_reducible exact ih0 _ _ _)
   | (with_reducible exact ih1 _ _)
   | (with_reducible exact ih2 _ _ _)
   | (with_reducible exact law04_alive.mono _)
   | (with_reducible exact ref04_Great.mono _ _)
   | (with_reducible exact ref04_Right.mono _ _)
   | (with_reducible exact ref04_Same.mono _ _ _)
   | (with_reducible exact LeO.refl _)
   | (with_reducible exact LeO.none _)
   | (with_reducible refine LeO.ite ?_ ?_)
   | (with_reducible refine LeO.bind ?_ (fun _ => ?_))
   | exact ih0 _ _ _
   | exact ih1 _ _
   | exact ih2 _ _ _
   | exact law04_alive.mono _
   | exact ref04_Great.mono _ _
   | exact ref04_Right.mono _ _
   | exact ref04_Same.mono _ _ _
   | exact LeO.none _
   | refine LeO.ite ?_ ?_
   | refine LeO.bind ?_ (fun _ => ?_)
  ·intro y0 y1
   unfold law04_EntryOvers.j2
   repeat' first
   | (with_reducible exact ih0 _ _ _)
   | (with_reducible exact ih1 _ _)
   | (with_reducible exact ih2 _ _ _)
   | (with_reducible exact law04_alive.mono _)
   | (with_reducible exact ref04_Great.mono _ _)
   | (with_reducible exact ref04_Right.mono _ _)
   | (with_reducible exact ref04_Same.mono _ _ _)
   | (with_reducible exact LeO.refl _)
   | (with_reducible exact LeO.none _)
   | (with_reducible refine LeO.ite ?_ ?_)
   | (with_reducible refine LeO.bind ?_ (fun _ => ?_))
   | exact ih0 _ _ _
   | exact ih1 _ _
   | exact ih2 _ _ _
   | exact law04_alive.mono _
   | exact ref04_Great.mono _ _
   | exact ref04_Right.mono _ _
   | exact ref04_Same.mono _ _ _
   | exact LeO.none _
   | refine LeO.ite ?_ ?_
   | refine LeO.bind ?_ (fun _ => ?_)
  ·intro y0 y1 y2
   unfold law04_EntryOvers.l0
   repeat' first
   | (with_reducible exact ih0 _ _ _)
   | (with_reducible exact ih1 _ _)
   | (with_reducible exact ih2 _ _ _)
   | (with_reducible exact law04_alive.mono _)
   | (with_reducible exact ref04_Great.mono _ _)
   | (with_reducible exact ref04_Right.mono _ _)
   | (with_reducible exact ref04_Same.mono _ _ _)
   | (with_reducible exact LeO.refl _)
   | (with_reducible exact LeO.none _)
   | (with_reducible refine LeO.ite ?_ ?_)
   | (with_reducible refine LeO.bind ?_ (fun _ => ?_))
   | exact ih0 _ _ _
   | exact ih1 _ _
   | exact ih2 _ _ _
   | exact law04_alive.mono _
   | exact ref04_Great.mono _ _
   | exact ref04_Right.mono _ _
   | exact ref04_Same.mono _ _ _
   | exact LeO.none _
   | refine LeO.ite ?_ ?_
   | refine LeO.bind ?_ (fun _ => ?_)
theorem law04_EntryOvers.mono : ∀ a0 a1 k, LeO (law04_EntryOvers.f k a0 a1) (law04_EntryOvers.f (k + 1) a0 a1) := by
 intro a0 a1 k
 obtain ⟨ih0, ih1, ih2⟩ := law04_EntryOvers.mono_l k
 unfold law04_EntryOvers.f
 repeat' first
   | (with_reducible exact ih0 _ _ _)
   | (with_reducible exact ih1 _ _)
   | (with_reducible exact ih2 _ _ _)
   | (with_reducible exact law04_alive.mono _)
   | (with_reducible exact ref04_Great.mono _ _)
   | (with_reducible exact ref04_Right.mono _ _)
   | (with_reducible exact ref04_Same.mono _ _ _)
   | (with_reducible exact LeO.refl _)
   | (with_reducible exact LeO.none _)
   | (with_reducible refine LeO.ite ?_ ?_)
   | (with_reducible refine LeO.bind ?_ (fun _ => ?_))
   | exact ih0 _ _ _
   | exact ih1 _ _
   | exact ih2 _ _ _
   | exact law04_alive.mono _
   | exact ref04_Great.mono _ _
   | exact ref04_Right.mono _ _
   | exact ref04_Same.mono _ _ _
   | exact LeO.none _
   | refine LeO.ite ?_ ?_
   | refine LeO.bind ?_ (fun _ => ?_)
set_option maxHeartbeats 8000000 in
set_option maxRecDepth 100000 in
theorem law04_EntryOvers.calls (k : Nat) (A0 : Option Addr) (c0 : Nat) (l0 : List (S30)) (A1 : Option Addr) (c1 : Nat) (l1 : List (S30)) (r : Bool) (w : World) (hr0 : Kd.C k30 w A0 l0.length l0) (hc0 : l0.length ≤ c0) (hr1 : Kd.C k30 w A1 l1.length l1) (hc1 : l1.length ≤ c1) (h : law04_EntryOvers.f k l0 l1 = some r) (hrt : r = true) :
  Calls Try.prog 4 #[.slice A0 l0.length c0, .slice A1 l1.length c1] w fun e w' => e = .returned (.bool r) ∧ Below w.heap.size w w' := by
 have HRT := Aside0.mk hrt
 clear hrt
 have hu30 := Try.underlying30
 have HR0 := Aside0.mk hr0
 have HC0 := Aside0.mk hc0
 clear hr0 hc0
 have HR1 := Aside0.mk hr1
 have HC1 := Aside0.mk hc1
 clear hr1 hc1
 have HB := Aside0.mk (Below.refl w.heap.size w)
 have H : ((law04_alive.f k).bind fun t101 => (if t101 = true then ((ref04_Great.f k l0).bind fun t102 => (if t102 = true then (law04_EntryOvers.j0 k l0 l1 true) else ((ref04_Great.f k l1).bind fun t103 => (if t103 = true then (law04_EntryOvers.j0 k l0 l1 true) else ((ref04_Right.f k l0).bind fun t104 => (if t104 = true then ((ref04_Right.f k l1).bind fun t105 => (law04_EntryOvers.j0 k l0 l1 (!t105))) else (law04_EntryOvers.j0 k l0 l1 true))))))) else (some false))) = some r := h
 clear h
 replace H := ob_ H
 obtain ⟨t101, A30, H⟩ := H
 replace H : (if t101 = true then ((ref04_Great.f k l0).bind fun t102 => (if t102 = true then (law04_EntryOvers.j0 k l0 l1 true) else ((ref04_Great.f k l1).bind fun t103 => (if t103 = true then (law04_EntryOvers.j0 k l0 l1 true) else ((ref04_Right.f k l0).bind fun t104 => (if t104 = true then ((ref04_Right.f k l1).bind fun t105 => (law04_EntryOvers.j0 k l0 l1 (!t105))) else (law04_EntryOvers.j0 k l0 l1 true))))))) else (some false)) = some r := H
 have A3 := Aside0.mk A30
 clear A30
 by_cases c4 : t101 = true
 ·subst c4
  have H1 : ((ref04_Great.f k l0).bind fun t102 => (if t102 = true then (law04_EntryOvers.j0 k l0 l1 true) else ((ref04_Great.f k l1).bind fun t103 => (if t103 = true then (law04_EntryOvers.j0 k l0 l1 true) else ((ref04_Right.f k l0).bind fun t104 => (if t104 = true then ((ref04_Right.f k l1).bind fun t105 => (law04_EntryOvers.j0 k l0 l1 (!t105))) else (law04_EntryOvers.j0 k l0 l1 true))))))) = some r := by rw [if_pos rfl] at H; exact H
  clear H
  have H := H1
  clear H1
  have HC5 := Aside0.mk H
  clear H
  go_enter Try.func4, Try.ntmps4
  go_upto_region 3 with (first | (go_at_call 8; (with_reducible refine (law04_alive.calls k  true _ A3.out).mono ?_); rintro e w6 ⟨rfl, hb⟩; have n0_ := Aside0.mk (qf_ (by repeat (first | (with_reducible first | exact HB.out | apply qc_ | apply qa_ | apply qb_) | exact HB.out)) hb); clear HB; have HB := n0_; clear n0_; (try clear hb); (try clear hb2); (try clear hk); (try clear hi)))
  repeat (go_quiet (first | (go_at_call 8; (with_reducible refine (law04_alive.calls k  true _ A3.out).mono ?_); rintro e w6 ⟨rfl, hb⟩; have n0_ := Aside0.mk (qf_ (by repeat (first | (with_reducible first | exact HB.out | apply qc_ | apply qa_ | apply qb_) | exact HB.out)) hb); clear HB; have HB := n0_; clear n0_; (try clear hb); (try clear hb2); (try clear hk); (try clear hi))); go_upto_region 3 with (first | (go_at_call 8; (with_reducible refine (law04_alive.calls k  true _ A3.out).mono ?_); rintro e w6 ⟨rfl, hb⟩; have n0_ := Aside0.mk (qf_ (by repeat (first | (with_reducible first | exact HB.out | apply qc_ | apply qa_ | apply qb_) | exact HB.out)) hb); clear HB; have HB := n0_; clear n0_; (try clear hb); (try clear hb2); (try clear hk); (try clear hi))))
  (try simp only [Act.put, sa_, sb_, sc_])
  go_cut [25] (fun v25 wc => ∃ (kq : Nat) (x25_4 : Bool), v25 = .bool x25_4 ∧ Aside0 (law04_EntryOvers.j0 kq l0 l1 x25_4 = some r) ∧ Aside0 (kq ≤ k) ∧ Aside0 (Below w.heap.size w wc))
  case first =>
   have H := HC5.out
   clear HC5
   replace H := ob_ H
   obtain ⟨t102, A70, H⟩ := H
   replace H : (if t102 = true then (law04_EntryOvers.j0 k l0 l1 true) else ((ref04_Great.f k l1).bind fun t103 => (if t103 = true then (law04_EntryOvers.j0 k l0 l1 true) else ((ref04_Right.f k l0).bind fun t104 => (if t104 = true then ((ref04_Right.f k l1).bind fun t105 => (law04_EntryOvers.j0 k l0 l1 (!t105))) else (law04_EntryOvers.j0 k l0 l1 true)))))) = some r := H
   have A7 := Aside0.mk A70
   clear A70
   by_cases c8 : t102 = true
   ·subst c8
    have H1 : (law04_EntryOvers.j0 k l0 l1 true) = some r := by rw [if_pos rfl] at H; exact H
    clear H
    have H := H1
    clear H1
    have H' := Aside0.mk H
    clear H
    go_wp2_with (first | (go_at_call 9; (with_reducible refine (ref04_Great.calls k _ _ l0 true _ ?side1 ?side2 A7.out).mono ?_); (case side1 => repeat (first | exact (Kd.qq_ HR0.out HB.out) | (with_reducible refine Kd.qo_ ?_ _) | (with_reducible refine Kd.qn_ ?_ _) | (with_reducible refine Kd.C_drew ?_))); (case side2 => exact HC0.out); rintro e w' ⟨rfl, ⟨nd, rfl⟩⟩; (try first | exact ⟨rfl, _, World.drewN_drewN _ _ _⟩ | exact ⟨rfl, _, Eq.trans (World.drewN_drewN _ _ _) (congrArg (World.drewN _) (Nat.add_assoc _ _ _))⟩)))
    repeat (go_quiet (first | (go_at_call 9; (with_reducible refine (ref04_Great.calls k _ _ l0 true _ ?side1 ?side2 A7.out).mono ?_); (case side1 => repeat (first | exact (Kd.qq_ HR0.out HB.out) | (with_reducible refine Kd.qo_ ?_ _) | (with_reducible refine Kd.qn_ ?_ _) | (with_reducible refine Kd.C_drew ?_))); (case side2 => exact HC0.out); rintro e w' ⟨rfl, ⟨nd, rfl⟩⟩; (try first | exact ⟨rfl, _, World.drewN_drewN _ _ _⟩ | exact ⟨rfl, _, Eq.trans (World.drewN_drewN _ _ _) (congrArg (World.drewN _) (Nat.add_assoc _ _ _))⟩))); try go_wp2_with (first | (go_at_call 9; (with_reducible refine (ref04_Great.calls k _ _ l0 true _ ?side1 ?side2 A7.out).mono ?_); (case side1 => repeat (first | exact (Kd.qq_ HR0.out HB.out) | (with_reducible refine Kd.qo_ ?_ _) | (with_reducible refine Kd.qn_ ?_ _) | (with_reducible refine Kd.C_drew ?_))); (case side2 => exact HC0.out); rintro e w' ⟨rfl, ⟨nd, rfl⟩⟩; (try first | exact ⟨rfl, _, World.drewN_drewN _ _ _⟩ | exact ⟨rfl, _, Eq.trans (World.drewN_drewN _ _ _) (congrArg (World.drewN _) (Nat.add_assoc _ _ _))⟩))))
    go_meet
    case rel => exact ⟨_, (true), (by first | rfl | (simp; done) | (simp [*]; done)), H', ⟨by first | omega | exact Nat.le_refl _⟩, ⟨by repeat (first | (with_reducible first | exact HB.out | apply qc_ | apply qa_ | apply qb_) | exact HB.out)⟩⟩
   ·replace c8 := Bool.eq_false_iff.mpr c8
    subst c8
    have H1 : ((ref04_Great.f k l1).bind fun t103 => (if t103 = true then (law04_EntryOvers.j0 k l0 l1 true) else ((ref04_Right.f k l0).bind fun t104 => (if t104 = true then ((ref04_Right.f k l1).bind fun t105 => (law04_EntryOvers.j0 k l0 l1 (!t105))) else (law04_EntryOvers.j0 k l0 l1 true))))) = some r := by rw [if_neg (show ¬ (false = true) by decide)] at H; exact H
    clear H
    have H := H1
    clear H1
    replace H := ob_ H
    obtain ⟨t103, A90, H⟩ := H
    replace H : (if t103 = true then (law04_EntryOvers.j0 k l0 l1 true) else ((ref04_Right.f k l0).bind fun t104 => (if t104 = true then ((ref04_Right.f k l1).bind fun t105 => (law04_EntryOvers.j0 k l0 l1 (!t105))) else (law04_EntryOvers.j0 k l0 l1 true)))) = some r := H
    have A9 := Aside0.mk A90
    clear A90
    by_cases c10 : t103 = true
    ·subst c10
     have H1 : (law04_EntryOvers.j0 k l0 l1 true) = some r := by rw [if_pos rfl] at H; exact H
     clear H
     have H := H1
     clear H1
     have H' := Aside0.mk H
     clear H
     go_wp2_with (first | (go_at_call 9; (with_reducible refine (ref04_Great.calls k _ _ l0 false _ ?side1 ?side2 A7.out).mono ?_); (case side1 => repeat (first | exact (Kd.qq_ HR0.out HB.out) | (with_reducible refine Kd.qo_ ?_ _) | (with_reducible refine Kd.qn_ ?_ _) | (with_reducible refine Kd.C_drew ?_))); (case side2 => exact HC0.out); rintro e w' ⟨rfl, ⟨nd, rfl⟩⟩; (try first | exact ⟨rfl, _, World.drewN_drewN _ _ _⟩ | exact ⟨rfl, _, Eq.trans (World.drewN_drewN _ _ _) (congrArg (World.drewN _) (Nat.add_assoc _ _ _))⟩)) | (go_at_call 9; (with_reducible refine (ref04_Great.calls k _ _ l1 true _ ?side1 ?side2 A9.out).mono ?_); (case side1 => repeat (first | exact (Kd.qq_ HR1.out (by repeat (first | (with_reducible first | exact HB.out | apply qc_ | apply qa_ | apply qb_) | exact HB.out))) | (with_reducible refine Kd.qo_ ?_ _) | (with_reducible refine Kd.qn_ ?_ _) | (with_reducible refine Kd.C_drew ?_))); (case side2 => exact HC1.out); rintro e w' ⟨rfl, ⟨nd, rfl⟩⟩; (try first | exact ⟨rfl, _, World.drewN_drewN _ _ _⟩ | exact ⟨rfl, _, Eq.trans (World.drewN_drewN _ _ _) (congrArg (World.drewN _) (Nat.add_assoc _ _ _))⟩)))
     repeat (go_quiet (first | (go_at_call 9; (with_reducible refine (ref04_Great.calls k _ _ l0 false _ ?side1 ?side2 A7.out).mono ?_); (case side1 => repeat (first | exact (Kd.qq_ HR0.out HB.out) | (with_reducible refine Kd.qo_ ?_ _) | (with_reducible refine Kd.qn_ ?_ _) | (with_reducible refine Kd.C_drew ?_))); (case side2 => exact HC0.out); rintro e w' ⟨rfl, ⟨nd, rfl⟩⟩; (try first | exact ⟨rfl, _, World.drewN_drewN _ _ _⟩ | exact ⟨rfl, _, Eq.trans (World.drewN_drewN _ _ _) (congrArg (World.drewN _) (Nat.add_assoc _ _ _))⟩)) | (go_at_call 9; (with_reducible refine (ref04_Great.calls k _ _ l1 true _ ?side1 ?side2 A9.out).mono ?_); (case side1 => repeat (first | exact (Kd.qq_ HR1.out (by repeat (first | (with_reducible first | exact HB.out | apply qc_ | apply qa_ | apply qb_) | exact HB.out))) | (with_reducible refine Kd.qo_ ?_ _) | (with_reducible refine Kd.qn_ ?_ _) | (with_reducible refine Kd.C_drew ?_))); (case side2 => exact HC1.out); rintro e w' ⟨rfl, ⟨nd, rfl⟩⟩; (try first | exact ⟨rfl, _, World.drewN_drewN _ _ _⟩ | exact ⟨rfl, _, Eq.trans (World.drewN_drewN _ _ _) (congrArg (World.drewN _) (Nat.add_assoc _ _ _))⟩))); try go_wp2_with (first | (go_at_call 9; (with_reducible refine (ref04_Great.calls k _ _ l0 false _ ?side1 ?side2 A7.out).mono ?_); (case side1 => repeat (first | exact (Kd.qq_ HR0.out HB.out) | (with_reducible refine Kd.qo_ ?_ _) | (with_reducible refine Kd.qn_ ?_ _) | (with_reducible refine Kd.C_drew ?_))); (case side2 => exact HC0.out); rintro e w' ⟨rfl, ⟨nd, rfl⟩⟩; (try first | exact ⟨rfl, _, World.drewN_drewN _ _ _⟩ | exact ⟨rfl, _, Eq.trans (World.drewN_drewN _ _ _) (congrArg (World.drewN _) (Nat.add_assoc _ _ _))⟩)) | (go_at_call 9; (with_reducible refine (ref04_Great.calls k _ _ l1 true _ ?side1 ?side2 A9.out).mono ?_); (case side1 => repeat (first | exact (Kd.qq_ HR1.out (by repeat (first | (with_reducible first | exact HB.out | apply qc_ | apply qa_ | apply qb_) | exact HB.out))) | (with_reducible refine Kd.qo_ ?_ _) | (with_reducible refine Kd.qn_ ?_ _) | (with_reducible refine Kd.C_drew ?_))); (case side2 => exact HC1.out); rintro e w' ⟨rfl, ⟨nd, rfl⟩⟩; (try first | exact ⟨rfl, _, World.drewN_drewN _ _ _⟩ | exact ⟨rfl, _, Eq.trans (World.drewN_drewN _ _ _) (congrArg (World.drewN _) (Nat.add_assoc _ _ _))⟩))))
     go_meet
     case rel => exact ⟨_, (true), (by first | rfl | (simp; done) | (simp [*]; done)), H', ⟨by first | omega | exact Nat.le_refl _⟩, ⟨by repeat (first | (with_reducible first | exact HB.out | apply qc_ | apply qa_ | apply qb_) | exact HB.out)⟩⟩
    ·replace c10 := Bool.eq_false_iff.mpr c10
     subst c10
     have H1 : ((ref04_Right.f k l0).bind fun t104 => (if t104 = true then ((ref04_Right.f k l1).bind fun t105 => (law04_EntryOvers.j0 k l0 l1 (!t105))) else (law04_EntryOvers.j0 k l0 l1 true))) = some r := by rw [if_neg (show ¬ (false = true) by decide)] at H; exact H
     clear H
     have H := H1
     clear H1
     replace H := ob_ H
     obtain ⟨t104, A110, H⟩ := H
     replace H : (if t104 = true then ((ref04_Right.f k l1).bind fun t105 => (law04_EntryOvers.j0 k l0 l1 (!t105))) else (law04_EntryOvers.j0 k l0 l1 true)) = some r := H
     have A11 := Aside0.mk A110
     clear A110
     by_cases c12 : t104 = true
     ·subst c12
      have H1 : ((ref04_Right.f k l1).bind fun t105 => (law04_EntryOvers.j0 k l0 l1 (!t105))) = some r := by rw [if_pos rfl] at H; exact H
      clear H
      have H := H1
      clear H1
      replace H := ob_ H
      obtain ⟨t105, A130, H⟩ := H
      replace H : (law04_EntryOvers.j0 k l0 l1 (!t105)) = some r := H
      have A13 := Aside0.mk A130
      clear A130
      have H' := Aside0.mk H
      clear H
      go_wp2_with (first | (go_at_call 9; (with_reducible refine (ref04_Great.calls k _ _ l0 false _ ?side1 ?side2 A7.out).mono ?_); (case side1 => repeat (first | exact (Kd.qq_ HR0.out HB.out) | (with_reducible refine Kd.qo_ ?_ _) | (with_reducible refine Kd.qn_ ?_ _) | (with_reducible refine Kd.C_drew ?_))); (case side2 => exact HC0.out); rintro e w' ⟨rfl, ⟨nd, rfl⟩⟩; (try first | exact ⟨rfl, _, World.drewN_drewN _ _ _⟩ | exact ⟨rfl, _, Eq.trans (World.drewN_drewN _ _ _) (congrArg (World.drewN _) (Nat.add_assoc _ _ _))⟩)) | (go_at_call 9; (with_reducible refine (ref04_Great.calls k _ _ l1 false _ ?side1 ?side2 A9.out).mono ?_); (case side1 => repeat (first | exact (Kd.qq_ HR1.out (by repeat (first | (with_reducible first | exact HB.out | apply qc_ | apply qa_ | apply qb_) | exact HB.out))) | (with_reducible refine Kd.qo_ ?_ _) | (with_reducible refine Kd.qn_ ?_ _) | (with_reducible refine Kd.C_drew ?_))); (case side2 => exact HC1.out); rintro e w' ⟨rfl, ⟨nd, rfl⟩⟩; (try first | exact ⟨rfl, _, World.drewN_drewN _ _ _⟩ | exact ⟨rfl, _, Eq.trans (World.drewN_drewN _ _ _) (congrArg (World.drewN _) (Nat.add_assoc _ _ _))⟩)) | (go_at_call 10; (with_reducible refine (ref04_Right.calls k _ _ l0 true _ ?side1 ?side2 A11.out).mono ?_); (case side1 => repeat (first | exact (Kd.qq_ HR0.out (by repeat (first | (with_reducible first | exact HB.out | apply qc_ | apply qa_ | apply qb_) | exact HB.out))) | (with_reducible refine Kd.qo_ ?_ _) | (with_reducible refine Kd.qn_ ?_ _) | (with_reducible refine Kd.C_drew ?_))); (case side2 => exact HC0.out); rintro e w14 ⟨rfl, hb⟩; have n0_ := Aside0.mk (qf_ (by repeat (first | (with_reducible first | exact HB.out | apply qc_ | apply qa_ | apply qb_) | exact HB.out)) hb); clear HB; have HB := n0_; clear n0_; (try clear hb); (try clear hb2); (try clear hk); (try clear hi)) | (go_at_call 10; (with_reducible refine (ref04_Right.calls k _ _ l1 t105 _ ?side1 ?side2 A13.out).mono ?_); (case side1 => repeat (first | exact (Kd.qq_ HR1.out HB.out) | (with_reducible refine Kd.qo_ ?_ _) | (with_reducible refine Kd.qn_ ?_ _) | (with_reducible refine Kd.C_drew ?_))); (case side2 => exact HC1.out); rintro e w15 ⟨rfl, hb⟩; have n0_ := Aside0.mk (qf_ (by repeat (first | (with_reducible first | exact HB.out | apply qc_ | apply qa_ | apply qb_) | exact HB.out)) hb); clear HB; have HB := n0_; clear n0_; (try clear hb); (try clear hb2); (try clear hk); (try clear hi)))
      repeat (go_quiet (first | (go_at_call 9; (with_reducible refine (ref04_Great.calls k _ _ l0 false _ ?side1 ?side2 A7.out).mono ?_); (case side1 => repeat (first | exact (Kd.qq_ HR0.out HB.out) | (with_reducible refine Kd.qo_ ?_ _) | (with_reducible refine Kd.qn_ ?_ _) | (with_reducible refine Kd.C_drew ?_))); (case side2 => exact HC0.out); rintro e w' ⟨rfl, ⟨nd, rfl⟩⟩; (try first | exact ⟨rfl, _, World.drewN_drewN _ _ _⟩ | exact ⟨rfl, _, Eq.trans (World.drewN_drewN _ _ _) (congrArg (World.drewN _) (Nat.add_assoc _ _ _))⟩)) | (go_at_call 9; (with_reducible refine (ref04_Great.calls k _ _ l1 false _ ?side1 ?side2 A9.out).mono ?_); (case side1 => repeat (first | exact (Kd.qq_ HR1.out (by repeat (first | (with_reducible first | exact HB.out | apply qc_ | apply qa_ | apply qb_) | exact HB.out))) | (with_reducible refine Kd.qo_ ?_ _) | (with_reducible refine Kd.qn_ ?_ _) | (with_reducible refine Kd.C_drew ?_))); (case side2 => exact HC1.out); rintro e w' ⟨rfl, ⟨nd, rfl⟩⟩; (try first | exact ⟨rfl, _, World.drewN_drewN _ _ _⟩ | exact ⟨rfl, _, Eq.trans (World.drewN_drewN _ _ _) (congrArg (World.drewN _) (Nat.add_assoc _ _ _))⟩)) | (go_at_call 10; (with_reducible refine (ref04_Right.calls k _ _ l0 true _ ?side1 ?side2 A11.out).mono ?_); (case side1 => repeat (first | exact (Kd.qq_ HR0.out (by repeat (first | (with_reducible first | exact HB.out | apply qc_ | apply qa_ | apply qb_) | exact HB.out))) | (with_reducible refine Kd.qo_ ?_ _) | (with_reducible refine Kd.qn_ ?_ _) | (with_reducible refine Kd.C_drew ?_))); (case side2 => exact HC0.out); rintro e w14 ⟨rfl, hb⟩; have n0_ := Aside0.mk (qf_ (by repeat (first | (with_reducible first | exact HB.out | apply qc_ | apply qa_ | apply qb_) | exact HB.out)) hb); clear HB; have HB := n0_; clear n0_; (try clear hb); (try clear hb2); (try clear hk); (try clear hi)) | (go_at_call 10; (with_reducible refine (ref04_Right.calls k _ _ l1 t105 _ ?side1 ?side2 A13.out).mono ?_); (case side1 => repeat (first | exact (Kd.qq_ HR1.out HB.out) | (with_reducible refine Kd.qo_ ?_ _) | (with_reducible refine Kd.qn_ ?_ _) | (with_reducible refine Kd.C_drew ?_))); (case side2 => exact HC1.out); rintro e w15 ⟨rfl, hb⟩; have n0_ := Aside0.mk (qf_ (by repeat (first | (with_reducible first | exact HB.out | apply qc_ | apply qa_ | apply qb_) | exact HB.out)) hb); clear HB; have HB := n0_; clear n0_; (try clear hb); (try clear hb2); (try clear hk); (try clear hi))); try go_wp2_with (first | (go_at_call 9; (with_reducible refine (ref04_Great.calls k _ _ l0 false _ ?side1 ?side2 A7.out).mono ?_); (case side1 => repeat (first | exact (Kd.qq_ HR0.out HB.out) | (with_reducible refine Kd.qo_ ?_ _) | (with_reducible refine Kd.qn_ ?_ _) | (with_reducible refine Kd.C_drew ?_))); (case side2 => exact HC0.out); rintro e w' ⟨rfl, ⟨nd, rfl⟩⟩; (try first | exact ⟨rfl, _, World.drewN_drewN _ _ _⟩ | exact ⟨rfl, _, Eq.trans (World.drewN_drewN _ _ _) (congrArg (World.drewN _) (Nat.add_assoc _ _ _))⟩)) | (go_at_call 9; (with_reducible refine (ref04_Great.calls k _ _ l1 false _ ?side1 ?side2 A9.out).mono ?_); (case side1 => repeat (first | exact (Kd.qq_ HR1.out (by repeat (first | (with_reducible first | exact HB.out | apply qc_ | apply qa_ | apply qb_) | exact HB.out))) | (with_reducible refine Kd.qo_ ?_ _) | (with_reducible refine Kd.qn_ ?_ _) | (with_reducible refine Kd.C_drew ?_))); (case side2 => exact HC1.out); rintro e w' ⟨rfl, ⟨nd, rfl⟩⟩; (try first | exact ⟨rfl, _, World.drewN_drewN _ _ _⟩ | exact ⟨rfl, _, Eq.trans (World.drewN_drewN _ _ _) (congrArg (World.drewN _) (Nat.add_assoc _ _ _))⟩)) | (go_at_call 10; (with_reducible refine (ref04_Right.calls k _ _ l0 true _ ?side1 ?side2 A11.out).mono ?_); (case side1 => repeat (first | exact (Kd.qq_ HR0.out (by repeat (first | (with_reducible first | exact HB.out | apply qc_ | apply qa_ | apply qb_) | exact HB.out))) | (with_reducible refine Kd.qo_ ?_ _) | (with_reducible refine Kd.qn_ ?_ _) | (with_reducible refine Kd.C_drew ?_))); (case side2 => exact HC0.out); rintro e w14 ⟨rfl, hb⟩; have n0_ := Aside0.mk (qf_ (by repeat (first | (with_reducible first | exact HB.out | apply qc_ | apply qa_ | apply qb_) | exact HB.out)) hb); clear HB; have HB := n0_; clear n0_; (try clear hb); (try clear hb2); (try clear hk); (try clear hi)) | (go_at_call 10; (with_reducible refine (ref04_Right.calls k _ _ l1 t105 _ ?side1 ?side2 A13.out).mono ?_); (case side1 => repeat (first | exact (Kd.qq_ HR1.out HB.out) | (with_reducible refine Kd.qo_ ?_ _) | (with_reducible refine Kd.qn_ ?_ _) | (with_reducible refine Kd.C_drew ?_))); (case side2 => exact HC1.out); rintro e w15 ⟨rfl, hb⟩; have n0_ := Aside0.mk (qf_ (by repeat (first | (with_reducible first | exact HB.out | apply qc_ | apply qa_ | apply qb_) | exact HB.out)) hb); clear HB; have HB := n0_; clear n0_; (try clear hb); (try clear hb2); (try clear hk); (try clear hi))))
      go_meet
      case rel => exact ⟨_, (!t105), (by first | rfl | (simp; done) | (simp [*]; done)), H', ⟨by first | omega | exact Nat.le_refl _⟩, ⟨by repeat (first | (with_reducible first | exact HB.out | apply qc_ | apply qa_ | apply qb_) | exact HB.out)⟩⟩
     ·replace c12 := Bool.eq_false_iff.mpr c12
      subst c12
      have H1 : (law04_EntryOvers.j0 k l0 l1 true) = some r := by rw [if_neg (show ¬ (false = true) by decide)] at H; exact H
      clear H
      have H := H1
      clear H1
      have H' := Aside0.mk H
      clear H
      go_wp2_with (first | (go_at_call 9; (with_reducible refine (ref04_Great.calls k _ _ l0 false _ ?side1 ?side2 A7.out).mono ?_); (case side1 => repeat (first | exact (Kd.qq_ HR0.out HB.out) | (with_reducible refine Kd.qo_ ?_ _) | (with_reducible refine Kd.qn_ ?_ _) | (with_reducible refine Kd.C_drew ?_))); (case side2 => exact HC0.out); rintro e w' ⟨rfl, ⟨nd, rfl⟩⟩; (try first | exact ⟨rfl, _, World.drewN_drewN _ _ _⟩ | exact ⟨rfl, _, Eq.trans (World.drewN_drewN _ _ _) (congrArg (World.drewN _) (Nat.add_assoc _ _ _))⟩)) | (go_at_call 9; (with_reducible refine (ref04_Great.calls k _ _ l1 false _ ?side1 ?side2 A9.out).mono ?_); (case side1 => repeat (first | exact (Kd.qq_ HR1.out (by repeat (first | (with_reducible first | exact HB.out | apply qc_ | apply qa_ | apply qb_) | exact HB.out))) | (with_reducible refine Kd.qo_ ?_ _) | (with_reducible refine Kd.qn_ ?_ _) | (with_reducible refine Kd.C_drew ?_))); (case side2 => exact HC1.out); rintro e w' ⟨rfl, ⟨nd, rfl⟩⟩; (try first | exact ⟨rfl, _, World.drewN_drewN _ _ _⟩ | exact ⟨rfl, _, Eq.trans (World.drewN_drewN _ _ _) (congrArg (World.drewN _) (Nat.add_assoc _ _ _))⟩)) | (go_at_call 10; (with_reducible refine (ref04_Right.calls k _ _ l0 false _ ?side1 ?side2 A11.out).mono ?_); (case side1 => repeat (first | exact (Kd.qq_ HR0.out (by repeat (first | (with_reducible first | exact HB.out | apply qc_ | apply qa_ | apply qb_) | exact HB.out))) | (with_reducible refine Kd.qo_ ?_ _) | (with_reducible refine Kd.qn_ ?_ _) | (with_reducible refine Kd.C_drew ?_))); (case side2 => exact HC0.out); rintro e w16 ⟨rfl, hb⟩; have n0_ := Aside0.mk (qf_ (by repeat (first | (with_reducible first | exact HB.out | apply qc_ | apply qa_ | apply qb_) | exact HB.out)) hb); clear HB; have HB := n0_; clear n0_; (try clear hb); (try clear hb2); (try clear hk); (try clear hi)))
      repeat (go_quiet (first | (go_at_call 9; (with_reducible refine (ref04_Great.calls k _ _ l0 false _ ?side1 ?side2 A7.out).mono ?_); (case side1 => repeat (first | exact (Kd.qq_ HR0.out HB.out) | (with_reducible refine Kd.qo_ ?_ _) | (with_reducible refine Kd.qn_ ?_ _) | (with_reducible refine Kd.C_drew ?_))); (case side2 => exact HC0.out); rintro e w' ⟨rfl, ⟨nd, rfl⟩⟩; (try first | exact ⟨rfl, _, World.drewN_drewN _ _ _⟩ | exact ⟨rfl, _, Eq.trans (World.drewN_drewN _ _ _) (congrArg (World.drewN _) (Nat.add_assoc _ _ _))⟩)) | (go_at_call 9; (with_reducible refine (ref04_Great.calls k _ _ l1 false _ ?side1 ?side2 A9.out).mono ?_); (case side1 => repeat (first | exact (Kd.qq_ HR1.out (by repeat (first | (with_reducible first | exact HB.out | apply qc_ | apply qa_ | apply qb_) | exact HB.out))) | (with_reducible refine Kd.qo_ ?_ _) | (with_reducible refine Kd.qn_ ?_ _) | (with_reducible refine Kd.C_drew ?_))); (case side2 => exact HC1.out); rintro e w' ⟨rfl, ⟨nd, rfl⟩⟩; (try first | exact ⟨rfl, _, World.drewN_drewN _ _ _⟩ | exact ⟨rfl, _, Eq.trans (World.drewN_drewN _ _ _) (congrArg (World.drewN _) (Nat.add_assoc _ _ _))⟩)) | (go_at_call 10; (with_reducible refine (ref04_Right.calls k _ _ l0 false _ ?side1 ?side2 A11.out).mono ?_); (case side1 => repeat (first | exact (Kd.qq_ HR0.out (by repeat (first | (with_reducible first | exact HB.out | apply qc_ | apply qa_ | apply qb_) | exact HB.out))) | (with_reducible refine Kd.qo_ ?_ _) | (with_reducible refine Kd.qn_ ?_ _) | (with_reducible refine Kd.C_drew ?_))); (case side2 => exact HC0.out); rintro e w16 ⟨rfl, hb⟩; have n0_ := Aside0.mk (qf_ (by repeat (first | (with_reducible first | exact HB.out | apply qc_ | apply qa_ | apply qb_) | exact HB.out)) hb); clear HB; have HB := n0_; clear n0_; (try clear hb); (try clear hb2); (try clear hk); (try clear hi))); try go_wp2_with (first | (go_at_call 9; (with_reducible refine (ref04_Great.calls k _ _ l0 false _ ?side1 ?side2 A7.out).mono ?_); (case side1 => repeat (first | exact (Kd.qq_ HR0.out HB.out) | (with_reducible refine Kd.qo_ ?_ _) | (with_reducible refine Kd.qn_ ?_ _) | (with_reducible refine Kd.C_drew ?_))); (case side2 => exact HC0.out); rintro e w' ⟨rfl, ⟨nd, rfl⟩⟩; (try first | exact ⟨rfl, _, World.drewN_drewN _ _ _⟩ | exact ⟨rfl, _, Eq.trans (World.drewN_drewN _ _ _) (congrArg (World.drewN _) (Nat.add_assoc _ _ _))⟩)) | (go_at_call 9; (with_reducible refine (ref04_Great.calls k _ _ l1 false _ ?side1 ?side2 A9.out).mono ?_); (case side1 => repeat (first | exact (Kd.qq_ HR1.out (by repeat (first | (with_reducible first | exact HB.out | apply qc_ | apply qa_ | apply qb_) | exact HB.out))) | (with_reducible refine Kd.qo_ ?_ _) | (with_reducible refine Kd.qn_ ?_ _) | (with_reducible refine Kd.C_drew ?_))); (case side2 => exact HC1.out); rintro e w' ⟨rfl, ⟨nd, rfl⟩⟩; (try first | exact ⟨rfl, _, World.drewN_drewN _ _ _⟩ | exact ⟨rfl, _, Eq.trans (World.drewN_drewN _ _ _) (congrArg (World.drewN _) (Nat.add_assoc _ _ _))⟩)) | (go_at_call 10; (with_reducible refine (ref04_Right.calls k _ _ l0 false _ ?side1 ?side2 A11.out).mono ?_); (case side1 => repeat (first | exact (Kd.qq_ HR0.out (by repeat (first | (with_reducible first | exact HB.out | apply qc_ | apply qa_ | apply qb_) | exact HB.out))) | (with_reducible refine Kd.qo_ ?_ _) | (with_reducible refine Kd.qn_ ?_ _) | (with_reducible refine Kd.C_drew ?_))); (case side2 => exact HC0.out); rintro e w16 ⟨rfl, hb⟩; have n0_ := Aside0.mk (qf_ (by repeat (first | (with_reducible first | exact HB.out | apply qc_ | apply qa_ | apply qb_) | exact HB.out)) hb); clear HB; have HB := n0_; clear n0_; (try clear hb); (try clear hb2); (try clear hk); (try clear hi))))
      go_meet
      case rel => exact ⟨_, (true), (by first | rfl | (simp; done) | (simp [*]; done)), H', ⟨by first | omega | exact Nat.le_refl _⟩, ⟨by repeat (first | (with_reducible first | exact HB.out | apply qc_ | apply qa_ | apply qb_) | exact HB.out)⟩⟩
  case rest =>
   clear HC5
   try clear c1
   try clear p2
   try clear c4
   try clear c8
   try clear c10
   try clear c12
   obtain ⟨kq, x25_4, rfl, HA, HJ4, HB⟩ := hcut
   cases kq with
   | zero => exact absurd HA.out (by simp [law04_EntryOvers.j0])
   | succ kj4 =>
    have H := HA.out
    clear HA
    simp only [law04_EntryOvers.j0] at H
    by_cases c17 : x25_4 = true
    ·subst c17
     have H1 : (some true) = some r := by rw [if_pos rfl] at H; exact H
     clear H
     have H := H1
     clear H1
     obtain rfl := Option.some.inj H
     go_wp2
     repeat (go_quiet (fail); try go_wp2)
     go_ret
     exact ⟨by first | rfl | (simp [errW_none, errW_some] <;> rfl) | (simp [*, errW_none, errW_some] <;> rfl), by repeat (first | (with_reducible first | exact HB.out | apply qc_ | apply qa_ | apply qb_) | exact HB.out)⟩
    ·replace c17 := Bool.eq_false_iff.mpr c17
     subst c17
     have H1 : ((entry_Over.f l0 l1).bind fun t106 => (if t106 = true then (law04_EntryOvers.l0 kj4 l0 l1 0) else (law04_EntryOvers.j2 kj4 l0 l1))) = some r := by rw [if_neg (show ¬ (false = true) by decide)] at H; exact H
     clear H
     have H := H1
     clear H1
     replace H := ob_ H
     obtain ⟨t106, A180, H⟩ := H
     replace H : (if t106 = true then (law04_EntryOvers.l0 kj4 l0 l1 0) else (law04_EntryOvers.j2 kj4 l0 l1)) = some r := H
     have A18 := Aside0.mk A180
     clear A180
     have HC19 := Aside0.mk H
     clear H
     go_upto_if 28 with (first | (go_at_call 13; (with_reducible refine (entry_Over.calls _ _ l0 _ _ l1 t106 _ ?side1 ?side2 ?side3 ?side4 A18.out).mono ?_); (case side1 => repeat (first | exact (Kd.qq_ HR0.out HB.out) | (with_reducible refine Kd.qo_ ?_ _) | (with_reducible refine Kd.qn_ ?_ _) | (with_reducible refine Kd.C_drew ?_))); (case side2 => exact HC0.out); (case side3 => repeat (first | exact (Kd.qq_ HR1.out HB.out) | (with_reducible refine Kd.qo_ ?_ _) | (with_reducible refine Kd.qn_ ?_ _) | (with_reducible refine Kd.C_drew ?_))); (case side4 => exact HC1.out); rintro e w20 ⟨rfl, hb⟩; have n0_ := Aside0.mk (qf_ (by repeat (first | (with_reducible first | exact HB.out | apply qc_ | apply qa_ | apply qb_) | exact HB.out)) hb); clear HB; have HB := n0_; clear n0_; (try clear hb); (try clear hb2); (try clear hk); (try clear hi)))
     repeat (go_quiet (first | (go_at_call 13; (with_reducible refine (entry_Over.calls _ _ l0 _ _ l1 t106 _ ?side1 ?side2 ?side3 ?side4 A18.out).mono ?_); (case side1 => repeat (first | exact (Kd.qq_ HR0.out HB.out) | (with_reducible refine Kd.qo_ ?_ _) | (with_reducible refine Kd.qn_ ?_ _) | (with_reducible refine Kd.C_drew ?_))); (case side2 => exact HC0.out); (case side3 => repeat (first | exact (Kd.qq_ HR1.out HB.out) | (with_reducible refine Kd.qo_ ?_ _) | (with_reducible refine Kd.qn_ ?_ _) | (with_reducible refine Kd.C_drew ?_))); (case side4 => exact HC1.out); rintro e w20 ⟨rfl, hb⟩; have n0_ := Aside0.mk (qf_ (by repeat (first | (with_reducible first | exact HB.out | apply qc_ | apply qa_ | apply qb_) | exact HB.out)) hb); clear HB; have HB := n0_; clear n0_; (try clear hb); (try clear hb2); (try clear hk); (try clear hi))); go_upto_if 28 with (first | (go_at_call 13; (with_reducible refine (entry_Over.calls _ _ l0 _ _ l1 t106 _ ?side1 ?side2 ?side3 ?side4 A18.out).mono ?_); (case side1 => repeat (first | exact (Kd.qq_ HR0.out HB.out) | (with_reducible refine Kd.qo_ ?_ _) | (with_reducible refine Kd.qn_ ?_ _) | (with_reducible refine Kd.C_drew ?_))); (case side2 => exact HC0.out); (case side3 => repeat (first | exact (Kd.qq_ HR1.out HB.out) | (with_reducible refine Kd.qo_ ?_ _) | (with_reducible refine Kd.qn_ ?_ _) | (with_reducible refine Kd.C_drew ?_))); (case side4 => exact HC1.out); rintro e w20 ⟨rfl, hb⟩; have n0_ := Aside0.mk (qf_ (by repeat (first | (with_reducible first | exact HB.out | apply qc_ | apply qa_ | apply qb_) | exact HB.out)) hb); clear HB; have HB := n0_; clear n0_; (try clear hb); (try clear hb2); (try clear hk); (try clear hi))))
     (try simp only [Act.put, sa_, sb_, sc_])
     go_cut [] (fun wc => ∃ (kq : Nat), Aside0 (law04_EntryOvers.j2 kq l0 l1 = some r) ∧ Aside0 (kq ≤ kj4) ∧ Aside0 (Below w.heap.size w wc))
     case first =>
      have H := HC19.out
      clear HC19
      by_cases c21 : t106 = true
      ·subst c21
       have H1 : (law04_EntryOvers.l0 kj4 l0 l1 0) = some r := by rw [if_pos rfl] at H; exact H
       clear H
       have H := H1
       clear H1
       have H' := Aside0.mk H
       clear H
       go_wp2
       repeat (go_quiet (fail); try go_wp2)
       go_loopg [5] kj4 (fun kq v5 w' => ∃ (x5_2 : Int), v5 = .int .i64 x5_2 ∧ Aside0 (law04_EntryOvers.l0 kq l0 l1 x5_2 = some r) ∧ Aside0 (kq ≤ kj4) ∧ Aside0 (Below w.heap.size w w'))
       case atStart => exact ⟨(0), (by first | rfl | (simp; done) | (simp [*]; done)), H', ⟨Nat.le_refl _⟩, ⟨by repeat (first | (with_reducible first | exact HB.out | apply qc_ | apply qa_ | apply qb_) | exact HB.out)⟩⟩
       case round =>
        clear H'
        try clear c1
        try clear c2
        try clear p2
        try clear c4
        try clear c8
        try clear c10
        try clear c12
        try clear c17
        try clear c21
        try clear p2
        obtain ⟨x5_2, rfl, HA, HK2, HB⟩ := hrel
        cases gk with
        | zero => exact absurd HA.out (by simp [law04_EntryOvers.l0])
        | succ k2 =>
         have H := HA.out
         clear HA
         simp only [law04_EntryOvers.l0] at H
         by_cases c22 : x5_2 < (l1.length : Int)
         ·rw [if_pos c22] at H
          have c22b0 : decide (x5_2 < (l1.length : Int)) = true := decide_eq_true c22
          clear c22
          (first | rw [c22b0] | (simp only [i64_w, i32_w]; rw [c22b0]) | skip)
          by_cases c23 : 0 ≤ x5_2
          ·rw [if_pos c23] at H
           have c23b0 : decide (0 ≤ x5_2) = true := decide_eq_true c23
           clear c23
           replace H := ob_ H
           obtain ⟨⟨t108, t109, t110, t111⟩, A240, H⟩ := H
           replace H : (if t111 = true then (if t109 < ((rd_T30 l1 x5_2).f1) then (some false) else (law04_EntryOvers.l0 k2 l0 l1 (wrap64 (x5_2 + 1)))) else (some false)) = some r := H
           have A24 := Aside0.mk A240
           clear A240
           by_cases c25 : t111 = true
           ·subst c25
            have H1 : (if t109 < ((rd_T30 l1 x5_2).f1) then (some false) else (law04_EntryOvers.l0 k2 l0 l1 (wrap64 (x5_2 + 1)))) = some r := by rw [if_pos rfl] at H; exact H
            clear H
            have H := H1
            clear H1
            by_cases c26 : t109 < ((rd_T30 l1 x5_2).f1)
            ·rw [if_pos c26] at H
             exact absurd ((Option.some.inj H).trans HRT.out) (by decide)
            ·rw [if_neg c26] at H
             have c26b0 : decide (t109 < ((rd_T30 l1 x5_2).f1)) = false := decide_eq_false c26
             clear c26
             have H' := Aside0.mk H
             clear H
             have p107 : 0 ≤ (x5_2 : Int) := of_decide_eq_true (by first | (with_reducible assumption) | assumption)
             have q107 : x5_2 < (l1.length : Int) := of_decide_eq_true (by first | (with_reducible assumption) | assumption)
             obtain ⟨ad107, e107, hx107_0, hx107_1, hx107_2⟩ := at_T30 HR1.out x5_2 p107 q107
             cases e107
             replace hx107_0 := (HB.out.cell (wb_ w _ hx107_0)).trans hx107_0
             replace hx107_1 := (HB.out.cell (wb_ w _ hx107_1)).trans hx107_1
             replace hx107_2 := (HB.out.cell (wb_ w _ hx107_2)).trans hx107_2
             replace p107 := eq_true p107
             replace q107 := eq_true q107
             go_wp2_with (first | (go_at_call 16; (with_reducible refine (entry_Get.calls _ _ l0 ((rd_T30 l1 x5_2).f0) t108 t109 t110 true _ ?side1 ?side2 A24.out).mono ?_); (case side1 => repeat (first | exact (Kd.qq_ HR0.out HB.out) | (with_reducible refine Kd.qo_ ?_ _) | (with_reducible refine Kd.qn_ ?_ _) | (with_reducible refine Kd.C_drew ?_))); (case side2 => exact HC0.out); rintro e w30 ⟨rfl, hb⟩; have n0_ := Aside0.mk (qf_ (by repeat (first | (with_reducible first | exact HB.out | apply qc_ | apply qa_ | apply qb_) | exact HB.out)) hb); clear HB; have HB := n0_; clear n0_; (try clear hb); (try clear hb2); (try clear hk); (try clear hi)) | ((with_reducible refine gate_dst (N := 6) rfl ?_); refine qt_ ?hg (N := 6) ?hd (cs := #[.int .i64 0, .int .i64 0, .string (⟨#[]⟩ : ByteArray)]) (t := 30) ?hr ?_; (case hd => rfl); (case hg => rfl); (case hr => first | (go_simp; done) | (go_simp; rfl)); intro gb112 hg w31 hbox hb; have n0_ := Aside0.mk (qf_ (by repeat (first | (with_reducible first | exact HB.out | apply qc_ | apply qa_ | apply qb_) | exact HB.out)) hb); have n1_ := Aside0.mk (hbox); have n2_ := Aside0.mk ((by rw [hg]; exact (qi_ (by repeat (first | (with_reducible first | exact HB.out | apply qc_ | apply qa_ | apply qb_) | exact HB.out))) : w.heap.size ≤ gb112)); have n3_ := Aside0.mk ((by rw [hg]; exact (qi_ (by repeat (first | (with_reducible first | exact HB.out | apply qc_ | apply qa_ | apply qb_) | exact HB.out))) : w.heap.size ≤ gb112)); clear HB; have HB := n0_; have BK112 := n1_; have GW112 := n2_; have GE112 := n3_; clear n0_ n1_ n2_ n3_; clear hb hbox hg; have hcz32_0 : w31.cell? ⟨gb112, 0, none⟩ = some (.int .i64 0) := (qh_ BK112.out 0).trans rfl; have hcz32_1 : w31.cell? ⟨gb112, 1, none⟩ = some (.int .i64 0) := (qh_ BK112.out 1).trans rfl; have hcz32_2 : w31.cell? ⟨gb112, 2, none⟩ = some (.string (⟨#[]⟩ : ByteArray)) := (qh_ BK112.out 2).trans rfl; have hfz32_0 := qg_ BK112.out 0; have hfz32_1 := qg_ BK112.out 1; have hfz32_2 := qg_ BK112.out 2; have p113 : 0 ≤ (x5_2 : Int) := of_decide_eq_true (by first | (with_reducible assumption) | assumption); have q113 : x5_2 < (l1.length : Int) := of_decide_eq_true (by first | (with_reducible assumption) | assumption); obtain ⟨ad113, e113, hx113_0, hx113_1, hx113_2⟩ := at_T30 HR1.out x5_2 p113 q113; obtain rfl : ad107 = ad113 := (by injection e113); have hn113_0 : ad107.block ≠ gb112 := Nat.ne_of_lt (Nat.lt_of_lt_of_le (by have := wb_ _ _ hx113_0; first | rwa [qr_] at this | exact this) GW112.out); have hn113_1 : ad107.block ≠ gb112 := Nat.ne_of_lt (Nat.lt_of_lt_of_le (by have := wb_ _ _ hx113_0; first | rwa [qr_] at this | exact this) GW112.out); have hn113_2 : ad107.block ≠ gb112 := Nat.ne_of_lt (Nat.lt_of_lt_of_le (by have := wb_ _ _ hx113_0; first | rwa [qr_] at this | exact this) GW112.out); replace hx113_0 := (HB.out.cell (wb_ w _ hx113_0)).trans hx113_0; replace hx113_1 := (HB.out.cell (wb_ w _ hx113_1)).trans hx113_1; replace hx113_2 := (HB.out.cell (wb_ w _ hx113_2)).trans hx113_2; replace hx113_0 := (cell_far (p := ⟨gb112, 0, none⟩) (by first | (rw [qr_]; exact hn113_0) | (show (Addr.add _ _).block ≠ _; rw [qr_]; exact hn113_0) | exact hn113_0) (.int .i64 t108)).trans hx113_0; replace hx113_1 := (cell_far (p := ⟨gb112, 0, none⟩) (by first | (rw [qr_]; exact hn113_0) | (show (Addr.add _ _).block ≠ _; rw [qr_]; exact hn113_0) | exact hn113_0) (.int .i64 t108)).trans hx113_1; replace hx113_2 := (cell_far (p := ⟨gb112, 0, none⟩) (by first | (rw [qr_]; exact hn113_0) | (show (Addr.add _ _).block ≠ _; rw [qr_]; exact hn113_0) | exact hn113_0) (.int .i64 t108)).trans hx113_2; replace hx113_0 := (cell_far (p := ⟨gb112, 1, none⟩) (by first | (rw [qr_]; exact hn113_1) | (show (Addr.add _ _).block ≠ _; rw [qr_]; exact hn113_1) | exact hn113_1) (.int .i64 t109)).trans hx113_0; replace hx113_1 := (cell_far (p := ⟨gb112, 1, none⟩) (by first | (rw [qr_]; exact hn113_1) | (show (Addr.add _ _).block ≠ _; rw [qr_]; exact hn113_1) | exact hn113_1) (.int .i64 t109)).trans hx113_1; replace hx113_2 := (cell_far (p := ⟨gb112, 1, none⟩) (by first | (rw [qr_]; exact hn113_1) | (show (Addr.add _ _).block ≠ _; rw [qr_]; exact hn113_1) | exact hn113_1) (.int .i64 t109)).trans hx113_2; replace hx113_0 := (cell_far (p := ⟨gb112, 2, none⟩) (by first | (rw [qr_]; exact hn113_2) | (show (Addr.add _ _).block ≠ _; rw [qr_]; exact hn113_2) | exact hn113_2) (.string t110)).trans hx113_0; replace hx113_1 := (cell_far (p := ⟨gb112, 2, none⟩) (by first | (rw [qr_]; exact hn113_2) | (show (Addr.add _ _).block ≠ _; rw [qr_]; exact hn113_2) | exact hn113_2) (.string t110)).trans hx113_1; replace hx113_2 := (cell_far (p := ⟨gb112, 2, none⟩) (by first | (rw [qr_]; exact hn113_2) | (show (Addr.add _ _).block ≠ _; rw [qr_]; exact hn113_2) | exact hn113_2) (.string t110)).trans hx113_2; (try have hy113_0 := fun (n_ : Nat) => (show (((((w31.drewN n_).setCell ⟨gb112, 0, none⟩ (.int .i64 t108)).setCell ⟨gb112, 1, none⟩ (.int .i64 t109)).setCell ⟨gb112, 2, none⟩ (.string t110))).cell? _ = some _ from hx113_0)); (try have hy113_1 := fun (n_ : Nat) => (show (((((w31.drewN n_).setCell ⟨gb112, 0, none⟩ (.int .i64 t108)).setCell ⟨gb112, 1, none⟩ (.int .i64 t109)).setCell ⟨gb112, 2, none⟩ (.string t110))).cell? _ = some _ from hx113_1)); (try have hy113_2 := fun (n_ : Nat) => (show (((((w31.drewN n_).setCell ⟨gb112, 0, none⟩ (.int .i64 t108)).setCell ⟨gb112, 1, none⟩ (.int .i64 t109)).setCell ⟨gb112, 2, none⟩ (.string t110))).cell? _ = some _ from hx113_2)); clear hn113_0; clear hn113_1; clear hn113_2; replace p113 := eq_true p113; replace q113 := eq_true q113))
             repeat (go_quiet (first | (go_at_call 16; (with_reducible refine (entry_Get.calls _ _ l0 ((rd_T30 l1 x5_2).f0) t108 t109 t110 true _ ?side1 ?side2 A24.out).mono ?_); (case side1 => repeat (first | exact (Kd.qq_ HR0.out HB.out) | (with_reducible refine Kd.qo_ ?_ _) | (with_reducible refine Kd.qn_ ?_ _) | (with_reducible refine Kd.C_drew ?_))); (case side2 => exact HC0.out); rintro e w30 ⟨rfl, hb⟩; have n0_ := Aside0.mk (qf_ (by repeat (first | (with_reducible first | exact HB.out | apply qc_ | apply qa_ | apply qb_) | exact HB.out)) hb); clear HB; have HB := n0_; clear n0_; (try clear hb); (try clear hb2); (try clear hk); (try clear hi)) | ((with_reducible refine gate_dst (N := 6) rfl ?_); refine qt_ ?hg (N := 6) ?hd (cs := #[.int .i64 0, .int .i64 0, .string (⟨#[]⟩ : ByteArray)]) (t := 30) ?hr ?_; (case hd => rfl); (case hg => rfl); (case hr => first | (go_simp; done) | (go_simp; rfl)); intro gb112 hg w31 hbox hb; have n0_ := Aside0.mk (qf_ (by repeat (first | (with_reducible first | exact HB.out | apply qc_ | apply qa_ | apply qb_) | exact HB.out)) hb); have n1_ := Aside0.mk (hbox); have n2_ := Aside0.mk ((by rw [hg]; exact (qi_ (by repeat (first | (with_reducible first | exact HB.out | apply qc_ | apply qa_ | apply qb_) | exact HB.out))) : w.heap.size ≤ gb112)); have n3_ := Aside0.mk ((by rw [hg]; exact (qi_ (by repeat (first | (with_reducible first | exact HB.out | apply qc_ | apply qa_ | apply qb_) | exact HB.out))) : w.heap.size ≤ gb112)); clear HB; have HB := n0_; have BK112 := n1_; have GW112 := n2_; have GE112 := n3_; clear n0_ n1_ n2_ n3_; clear hb hbox hg; have hcz32_0 : w31.cell? ⟨gb112, 0, none⟩ = some (.int .i64 0) := (qh_ BK112.out 0).trans rfl; have hcz32_1 : w31.cell? ⟨gb112, 1, none⟩ = some (.int .i64 0) := (qh_ BK112.out 1).trans rfl; have hcz32_2 : w31.cell? ⟨gb112, 2, none⟩ = some (.string (⟨#[]⟩ : ByteArray)) := (qh_ BK112.out 2).trans rfl; have hfz32_0 := qg_ BK112.out 0; have hfz32_1 := qg_ BK112.out 1; have hfz32_2 := qg_ BK112.out 2; have p113 : 0 ≤ (x5_2 : Int) := of_decide_eq_true (by first | (with_reducible assumption) | assumption); have q113 : x5_2 < (l1.length : Int) := of_decide_eq_true (by first | (with_reducible assumption) | assumption); obtain ⟨ad113, e113, hx113_0, hx113_1, hx113_2⟩ := at_T30 HR1.out x5_2 p113 q113; obtain rfl : ad107 = ad113 := (by injection e113); have hn113_0 : ad107.block ≠ gb112 := Nat.ne_of_lt (Nat.lt_of_lt_of_le (by have := wb_ _ _ hx113_0; first | rwa [qr_] at this | exact this) GW112.out); have hn113_1 : ad107.block ≠ gb112 := Nat.ne_of_lt (Nat.lt_of_lt_of_le (by have := wb_ _ _ hx113_0; first | rwa [qr_] at this | exact this) GW112.out); have hn113_2 : ad107.block ≠ gb112 := Nat.ne_of_lt (Nat.lt_of_lt_of_le (by have := wb_ _ _ hx113_0; first | rwa [qr_] at this | exact this) GW112.out); replace hx113_0 := (HB.out.cell (wb_ w _ hx113_0)).trans hx113_0; replace hx113_1 := (HB.out.cell (wb_ w _ hx113_1)).trans hx113_1; replace hx113_2 := (HB.out.cell (wb_ w _ hx113_2)).trans hx113_2; replace hx113_0 := (cell_far (p := ⟨gb112, 0, none⟩) (by first | (rw [qr_]; exact hn113_0) | (show (Addr.add _ _).block ≠ _; rw [qr_]; exact hn113_0) | exact hn113_0) (.int .i64 t108)).trans hx113_0; replace hx113_1 := (cell_far (p := ⟨gb112, 0, none⟩) (by first | (rw [qr_]; exact hn113_0) | (show (Addr.add _ _).block ≠ _; rw [qr_]; exact hn113_0) | exact hn113_0) (.int .i64 t108)).trans hx113_1; replace hx113_2 := (cell_far (p := ⟨gb112, 0, none⟩) (by first | (rw [qr_]; exact hn113_0) | (show (Addr.add _ _).block ≠ _; rw [qr_]; exact hn113_0) | exact hn113_0) (.int .i64 t108)).trans hx113_2; replace hx113_0 := (cell_far (p := ⟨gb112, 1, none⟩) (by first | (rw [qr_]; exact hn113_1) | (show (Addr.add _ _).block ≠ _; rw [qr_]; exact hn113_1) | exact hn113_1) (.int .i64 t109)).trans hx113_0; replace hx113_1 := (cell_far (p := ⟨gb112, 1, none⟩) (by first | (rw [qr_]; exact hn113_1) | (show (Addr.add _ _).block ≠ _; rw [qr_]; exact hn113_1) | exact hn113_1) (.int .i64 t109)).trans hx113_1; replace hx113_2 := (cell_far (p := ⟨gb112, 1, none⟩) (by first | (rw [qr_]; exact hn113_1) | (show (Addr.add _ _).block ≠ _; rw [qr_]; exact hn113_1) | exact hn113_1) (.int .i64 t109)).trans hx113_2; replace hx113_0 := (cell_far (p := ⟨gb112, 2, none⟩) (by first | (rw [qr_]; exact hn113_2) | (show (Addr.add _ _).block ≠ _; rw [qr_]; exact hn113_2) | exact hn113_2) (.string t110)).trans hx113_0; replace hx113_1 := (cell_far (p := ⟨gb112, 2, none⟩) (by first | (rw [qr_]; exact hn113_2) | (show (Addr.add _ _).block ≠ _; rw [qr_]; exact hn113_2) | exact hn113_2) (.string t110)).trans hx113_1; replace hx113_2 := (cell_far (p := ⟨gb112, 2, none⟩) (by first | (rw [qr_]; exact hn113_2) | (show (Addr.add _ _).block ≠ _; rw [qr_]; exact hn113_2) | exact hn113_2) (.string t110)).trans hx113_2; (try have hy113_0 := fun (n_ : Nat) => (show (((((w31.drewN n_).setCell ⟨gb112, 0, none⟩ (.int .i64 t108)).setCell ⟨gb112, 1, none⟩ (.int .i64 t109)).setCell ⟨gb112, 2, none⟩ (.string t110))).cell? _ = some _ from hx113_0)); (try have hy113_1 := fun (n_ : Nat) => (show (((((w31.drewN n_).setCell ⟨gb112, 0, none⟩ (.int .i64 t108)).setCell ⟨gb112, 1, none⟩ (.int .i64 t109)).setCell ⟨gb112, 2, none⟩ (.string t110))).cell? _ = some _ from hx113_1)); (try have hy113_2 := fun (n_ : Nat) => (show (((((w31.drewN n_).setCell ⟨gb112, 0, none⟩ (.int .i64 t108)).setCell ⟨gb112, 1, none⟩ (.int .i64 t109)).setCell ⟨gb112, 2, none⟩ (.string t110))).cell? _ = some _ from hx113_2)); clear hn113_0; clear hn113_1; clear hn113_2; replace p113 := eq_true p113; replace q113 := eq_true q113)); try go_wp2_with (first | (go_at_call 16; (with_reducible refine (entry_Get.calls _ _ l0 ((rd_T30 l1 x5_2).f0) t108 t109 t110 true _ ?side1 ?side2 A24.out).mono ?_); (case side1 => repeat (first | exact (Kd.qq_ HR0.out HB.out) | (with_reducible refine Kd.qo_ ?_ _) | (with_reducible refine Kd.qn_ ?_ _) | (with_reducible refine Kd.C_drew ?_))); (case side2 => exact HC0.out); rintro e w30 ⟨rfl, hb⟩; have n0_ := Aside0.mk (qf_ (by repeat (first | (with_reducible first | exact HB.out | apply qc_ | apply qa_ | apply qb_) | exact HB.out)) hb); clear HB; have HB := n0_; clear n0_; (try clear hb); (try clear hb2); (try clear hk); (try clear hi)) | ((with_reducible refine gate_dst (N := 6) rfl ?_); refine qt_ ?hg (N := 6) ?hd (cs := #[.int .i64 0, .int .i64 0, .string (⟨#[]⟩ : ByteArray)]) (t := 30) ?hr ?_; (case hd => rfl); (case hg => rfl); (case hr => first | (go_simp; done) | (go_simp; rfl)); intro gb112 hg w31 hbox hb; have n0_ := Aside0.mk (qf_ (by repeat (first | (with_reducible first | exact HB.out | apply qc_ | apply qa_ | apply qb_) | exact HB.out)) hb); have n1_ := Aside0.mk (hbox); have n2_ := Aside0.mk ((by rw [hg]; exact (qi_ (by repeat (first | (with_reducible first | exact HB.out | apply qc_ | apply qa_ | apply qb_) | exact HB.out))) : w.heap.size ≤ gb112)); have n3_ := Aside0.mk ((by rw [hg]; exact (qi_ (by repeat (first | (with_reducible first | exact HB.out | apply qc_ | apply qa_ | apply qb_) | exact HB.out))) : w.heap.size ≤ gb112)); clear HB; have HB := n0_; have BK112 := n1_; have GW112 := n2_; have GE112 := n3_; clear n0_ n1_ n2_ n3_; clear hb hbox hg; have hcz32_0 : w31.cell? ⟨gb112, 0, none⟩ = some (.int .i64 0) := (qh_ BK112.out 0).trans rfl; have hcz32_1 : w31.cell? ⟨gb112, 1, none⟩ = some (.int .i64 0) := (qh_ BK112.out 1).trans rfl; have hcz32_2 : w31.cell? ⟨gb112, 2, none⟩ = some (.string (⟨#[]⟩ : ByteArray)) := (qh_ BK112.out 2).trans rfl; have hfz32_0 := qg_ BK112.out 0; have hfz32_1 := qg_ BK112.out 1; have hfz32_2 := qg_ BK112.out 2; have p113 : 0 ≤ (x5_2 : Int) := of_decide_eq_true (by first | (with_reducible assumption) | assumption); have q113 : x5_2 < (l1.length : Int) := of_decide_eq_true (by first | (with_reducible assumption) | assumption); obtain ⟨ad113, e113, hx113_0, hx113_1, hx113_2⟩ := at_T30 HR1.out x5_2 p113 q113; obtain rfl : ad107 = ad113 := (by injection e113); have hn113_0 : ad107.block ≠ gb112 := Nat.ne_of_lt (Nat.lt_of_lt_of_le (by have := wb_ _ _ hx113_0; first | rwa [qr_] at this | exact this) GW112.out); have hn113_1 : ad107.block ≠ gb112 := Nat.ne_of_lt (Nat.lt_of_lt_of_le (by have := wb_ _ _ hx113_0; first | rwa [qr_] at this | exact this) GW112.out); have hn113_2 : ad107.block ≠ gb112 := Nat.ne_of_lt (Nat.lt_of_lt_of_le (by have := wb_ _ _ hx113_0; first | rwa [qr_] at this | exact this) GW112.out); replace hx113_0 := (HB.out.cell (wb_ w _ hx113_0)).trans hx113_0; replace hx113_1 := (HB.out.cell (wb_ w _ hx113_1)).trans hx113_1; replace hx113_2 := (HB.out.cell (wb_ w _ hx113_2)).trans hx113_2; replace hx113_0 := (cell_far (p := ⟨gb112, 0, none⟩) (by first | (rw [qr_]; exact hn113_0) | (show (Addr.add _ _).block ≠ _; rw [qr_]; exact hn113_0) | exact hn113_0) (.int .i64 t108)).trans hx113_0; replace hx113_1 := (cell_far (p := ⟨gb112, 0, none⟩) (by first | (rw [qr_]; exact hn113_0) | (show (Addr.add _ _).block ≠ _; rw [qr_]; exact hn113_0) | exact hn113_0) (.int .i64 t108)).trans hx113_1; replace hx113_2 := (cell_far (p := ⟨gb112, 0, none⟩) (by first | (rw [qr_]; exact hn113_0) | (show (Addr.add _ _).block ≠ _; rw [qr_]; exact hn113_0) | exact hn113_0) (.int .i64 t108)).trans hx113_2; replace hx113_0 := (cell_far (p := ⟨gb112, 1, none⟩) (by first | (rw [qr_]; exact hn113_1) | (show (Addr.add _ _).block ≠ _; rw [qr_]; exact hn113_1) | exact hn113_1) (.int .i64 t109)).trans hx113_0; replace hx113_1 := (cell_far (p := ⟨gb112, 1, none⟩) (by first | (rw [qr_]; exact hn113_1) | (show (Addr.add _ _).block ≠ _; rw [qr_]; exact hn113_1) | exact hn113_1) (.int .i64 t109)).trans hx113_1; replace hx113_2 := (cell_far (p := ⟨gb112, 1, none⟩) (by first | (rw [qr_]; exact hn113_1) | (show (Addr.add _ _).block ≠ _; rw [qr_]; exact hn113_1) | exact hn113_1) (.int .i64 t109)).trans hx113_2; replace hx113_0 := (cell_far (p := ⟨gb112, 2, none⟩) (by first | (rw [qr_]; exact hn113_2) | (show (Addr.add _ _).block ≠ _; rw [qr_]; exact hn113_2) | exact hn113_2) (.string t110)).trans hx113_0; replace hx113_1 := (cell_far (p := ⟨gb112, 2, none⟩) (by first | (rw [qr_]; exact hn113_2) | (show (Addr.add _ _).block ≠ _; rw [qr_]; exact hn113_2) | exact hn113_2) (.string t110)).trans hx113_1; replace hx113_2 := (cell_far (p := ⟨gb112, 2, none⟩) (by first | (rw [qr_]; exact hn113_2) | (show (Addr.add _ _).block ≠ _; rw [qr_]; exact hn113_2) | exact hn113_2) (.string t110)).trans hx113_2; (try have hy113_0 := fun (n_ : Nat) => (show (((((w31.drewN n_).setCell ⟨gb112, 0, none⟩ (.int .i64 t108)).setCell ⟨gb112, 1, none⟩ (.int .i64 t109)).setCell ⟨gb112, 2, none⟩ (.string t110))).cell? _ = some _ from hx113_0)); (try have hy113_1 := fun (n_ : Nat) => (show (((((w31.drewN n_).setCell ⟨gb112, 0, none⟩ (.int .i64 t108)).setCell ⟨gb112, 1, none⟩ (.int .i64 t109)).setCell ⟨gb112, 2, none⟩ (.string t110))).cell? _ = some _ from hx113_1)); (try have hy113_2 := fun (n_ : Nat) => (show (((((w31.drewN n_).setCell ⟨gb112, 0, none⟩ (.int .i64 t108)).setCell ⟨gb112, 1, none⟩ (.int .i64 t109)).setCell ⟨gb112, 2, none⟩ (.string t110))).cell? _ = some _ from hx113_2)); clear hn113_0; clear hn113_1; clear hn113_2; replace p113 := eq_true p113; replace q113 := eq_true q113)))
             go_roundg k2
             case measure => have := HJ4.out; have := HK2.out; omega
             case rel => exact ⟨(wrap64 (x5_2 + 1)), (by first | rfl | (simp; done) | (simp [*]; done)), H', ⟨by have := HJ4.out; have := HK2.out; omega⟩, ⟨by repeat (first | (with_reducible first | exact HB.out | apply qc_ | apply qa_ | apply qb_ | refine qk_ ?_ GE112.out) | exact HB.out)⟩⟩
           ·rw [if_neg c25] at H
            exact absurd ((Option.some.inj H).trans HRT.out) (by decide)
          ·rw [if_neg c23] at H
           exact absurd H (by simp)
         ·rw [if_neg c22] at H
          have c22b0 : decide (x5_2 < (l1.length : Int)) = false := decide_eq_false c22
          clear c22
          (first | rw [c22b0] | (simp only [i64_w, i32_w]; rw [c22b0]) | skip)
          have H' := Aside0.mk H
          clear H
          go_wp2
          repeat (go_quiet (fail); try go_wp2)
          go_meet
          case rel => exact ⟨_, H', ⟨by have := HJ4.out; have := HK2.out; first | omega | exact Nat.le_refl _⟩, ⟨by repeat (first | (with_reducible first | exact HB.out | apply qc_ | apply qa_ | apply qb_) | exact HB.out)⟩⟩
      ·replace c21 := Bool.eq_false_iff.mpr c21
       subst c21
       have H1 : (law04_EntryOvers.j2 kj4 l0 l1) = some r := by rw [if_neg (show ¬ (false = true) by decide)] at H; exact H
       clear H
       have H := H1
       clear H1
       have H' := Aside0.mk H
       clear H
       go_wp2
       repeat (go_quiet (fail); try go_wp2)
       go_meet
       case rel => exact ⟨_, H', ⟨by have := HJ4.out; first | omega | exact Nat.le_refl _⟩, ⟨by repeat (first | (with_reducible first | exact HB.out | apply qc_ | apply qa_ | apply qb_) | exact HB.out)⟩⟩
     case rest =>
      clear HC19
      try clear c1
      try clear p1
      try clear q1
      try clear hx1
      try clear c2
      try clear p2
      try clear c4
      try clear p6
      try clear c8
      try clear c10
      try clear p10
      try clear q10
      try clear hx10
      try clear p11
      try clear q11
      try clear hx11
      try clear c12
      try clear c17
      try clear c21
      try clear c22
      try clear c22b0
      try clear c23
      try clear c23b0
      try clear c25
      try clear c26
      try clear c26b0
      try clear hcz29_0
      try clear hcz29_1
      try clear hcz29_2
      try clear hcz32_0
      try clear hcz32_1
      try clear hcz32_2
      try clear hcz35_0
      try clear hcz35_1
      try clear hcz35_2
      try clear hfz29_0
      try clear hfz29_1
      try clear hfz29_2
      try clear hfz32_0
      try clear hfz32_1
      try clear hfz32_2
      try clear hfz35_0
      try clear hfz35_1
      try clear hfz35_2
      try clear hx107_0
      try clear hx107_1
      try clear hx107_2
      try clear hx113_0
      try clear hx113_1
      try clear hx113_2
      try clear p107
      try clear p113
      try clear p2
      try clear q107
      try clear q113
      obtain ⟨kq, HA, HJ18, HB⟩ := hcut
      cases kq with
      | zero => exact absurd HA.out (by simp [law04_EntryOvers.j2])
      | succ kj18 =>
       have H := HA.out
       clear HA
       simp only [law04_EntryOvers.j2] at H
       replace H := ob_ H
       obtain ⟨t114, A360, H⟩ := H
       replace H : (if t114 = true then ((entry_Over.f l0 ([] : List (S30))).bind fun t115 => (if t115 = true then ((entry_Over.f l0 l1).bind fun t116 => (if t116 = true then ((entry_Over.f l1 l0).bind fun t117 => ((ref04_Same.f kj18 l0 l1).bind fun t118 => (some (t117 == t118)))) else ((ref04_Same.f kj18 l0 l1).bind fun t119 => (some (false == t119))))) else (some false))) else (some false)) = some r := H
       have A36 := Aside0.mk A360
       clear A360
       by_cases c37 : t114 = true
       ·subst c37
        have H1 : ((entry_Over.f l0 ([] : List (S30))).bind fun t115 => (if t115 = true then ((entry_Over.f l0 l1).bind fun t116 => (if t116 = true then ((entry_Over.f l1 l0).bind fun t117 => ((ref04_Same.f kj18 l0 l1).bind fun t118 => (some (t117 == t118)))) else ((ref04_Same.f kj18 l0 l1).bind fun t119 => (some (false == t119))))) else (some false))) = some r := by rw [if_pos rfl] at H; exact H
        clear H
        have H := H1
        clear H1
        replace H := ob_ H
        obtain ⟨t115, A380, H⟩ := H
        replace H : (if t115 = true then ((entry_Over.f l0 l1).bind fun t116 => (if t116 = true then ((entry_Over.f l1 l0).bind fun t117 => ((ref04_Same.f kj18 l0 l1).bind fun t118 => (some (t117 == t118)))) else ((ref04_Same.f kj18 l0 l1).bind fun t119 => (some (false == t119))))) else (some false)) = some r := H
        have A38 := Aside0.mk A380
        clear A380
        by_cases c39 : t115 = true
        ·subst c39
         have H1 : ((entry_Over.f l0 l1).bind fun t116 => (if t116 = true then ((entry_Over.f l1 l0).bind fun t117 => ((ref04_Same.f kj18 l0 l1).bind fun t118 => (some (t117 == t118)))) else ((ref04_Same.f kj18 l0 l1).bind fun t119 => (some (false == t119))))) = some r := by rw [if_pos rfl] at H; exact H
         clear H
         have H := H1
         clear H1
         replace H := ob_ H
         obtain ⟨t116, A400, H⟩ := H
         replace H : (if t116 = true then ((entry_Over.f l1 l0).bind fun t117 => ((ref04_Same.f kj18 l0 l1).bind fun t118 => (some (t117 == t118)))) else ((ref04_Same.f kj18 l0 l1).bind fun t119 => (some (false == t119)))) = some r := H
         have A40 := Aside0.mk A400
         clear A400
         by_cases c41 : t116 = true
         ·subst c41
          have H1 : ((entry_Over.f l1 l0).bind fun t117 => ((ref04_Same.f kj18 l0 l1).bind fun t118 => (some (t117 == t118)))) = some r := by rw [if_pos rfl] at H; exact H
          clear H
          have H := H1
          clear H1
          replace H := ob_ H
          obtain ⟨t117, A420, H⟩ := H
          replace H : ((ref04_Same.f kj18 l0 l1).bind fun t118 => (some (t117 == t118))) = some r := H
          have A42 := Aside0.mk A420
          clear A420
          replace H := ob_ H
          obtain ⟨t118, A430, H⟩ := H
          replace H : (some (t117 == t118)) = some r := H
          have A43 := Aside0.mk A430
          clear A430
          obtain rfl := Option.some.inj H
          go_wp2_with (first | (go_at_call 13; (with_reducible refine (entry_Over.calls _ _ l0 _ _ l0 true _ ?side1 ?side2 ?side3 ?side4 A36.out).mono ?_); (case side1 => repeat (first | exact (Kd.qq_ HR0.out HB.out) | (with_reducible refine Kd.qo_ ?_ _) | (with_reducible refine Kd.qn_ ?_ _) | (with_reducible refine Kd.C_drew ?_))); (case side2 => exact HC0.out); (case side3 => repeat (first | exact (Kd.qq_ HR0.out HB.out) | (with_reducible refine Kd.qo_ ?_ _) | (with_reducible refine Kd.qn_ ?_ _) | (with_reducible refine Kd.C_drew ?_))); (case side4 => exact HC0.out); rintro e w44 ⟨rfl, hb⟩; have n0_ := Aside0.mk (qf_ (by repeat (first | (with_reducible first | exact HB.out | apply qc_ | apply qa_ | apply qb_) | exact HB.out)) hb); clear HB; have HB := n0_; clear n0_; (try clear hb); (try clear hb2); (try clear hk); (try clear hi)) | (go_at_call 13; (with_reducible show Calls _ _ #[_, .slice none 0 0] _ _); (refine (entry_Over.calls _ _ l0 _ _ ([] : List (S30)) true _ ?side1 ?side2 ?side3 ?side4 A38.out).mono ?_); (case side1 => repeat (first | exact (Kd.qq_ HR0.out HB.out) | (with_reducible refine Kd.qo_ ?_ _) | (with_reducible refine Kd.qn_ ?_ _) | (with_reducible refine Kd.C_drew ?_))); (case side2 => exact HC0.out); (case side3 => exact Kd.C_nil _ _); (case side4 => exact Nat.le_refl _); rintro e w45 ⟨rfl, hb⟩; have n0_ := Aside0.mk (qf_ (by repeat (first | (with_reducible first | exact HB.out | apply qc_ | apply qa_ | apply qb_) | exact HB.out)) hb); clear HB; have HB := n0_; clear n0_; (try clear hb); (try clear hb2); (try clear hk); (try clear hi)) | (go_at_call 13; (with_reducible refine (entry_Over.calls _ _ l0 _ _ l1 true _ ?side1 ?side2 ?side3 ?side4 A40.out).mono ?_); (case side1 => repeat (first | exact (Kd.qq_ HR0.out HB.out) | (with_reducible refine Kd.qo_ ?_ _) | (with_reducible refine Kd.qn_ ?_ _) | (with_reducible refine Kd.C_drew ?_))); (case side2 => exact HC0.out); (case side3 => repeat (first | exact (Kd.qq_ HR1.out HB.out) | (with_reducible refine Kd.qo_ ?_ _) | (with_reducible refine Kd.qn_ ?_ _) | (with_reducible refine Kd.C_drew ?_))); (case side4 => exact HC1.out); rintro e w46 ⟨rfl, hb⟩; have n0_ := Aside0.mk (qf_ (by repeat (first | (with_reducible first | exact HB.out | apply qc_ | apply qa_ | apply qb_) | exact HB.out)) hb); clear HB; have HB := n0_; clear n0_; (try clear hb); (try clear hb2); (try clear hk); (try clear hi)) | (go_at_call 13; (with_reducible refine (entry_Over.calls _ _ l1 _ _ l0 t117 _ ?side1 ?side2 ?side3 ?side4 A42.out).mono ?_); (case side1 => repeat (first | exact (Kd.qq_ HR1.out HB.out) | (with_reducible refine Kd.qo_ ?_ _) | (with_reducible refine Kd.qn_ ?_ _) | (with_reducible refine Kd.C_drew ?_))); (case side2 => exact HC1.out); (case side3 => repeat (first | exact (Kd.qq_ HR0.out HB.out) | (with_reducible refine Kd.qo_ ?_ _) | (with_reducible refine Kd.qn_ ?_ _) | (with_reducible refine Kd.C_drew ?_))); (case side4 => exact HC0.out); rintro e w47 ⟨rfl, hb⟩; have n0_ := Aside0.mk (qf_ (by repeat (first | (with_reducible first | exact HB.out | apply qc_ | apply qa_ | apply qb_) | exact HB.out)) hb); clear HB; have HB := n0_; clear n0_; (try clear hb); (try clear hb2); (try clear hk); (try clear hi)) | (go_at_call 12; (with_reducible refine (ref04_Same.calls kj18 _ _ l0 _ _ l1 t118 _ ?side1 ?side2 ?side3 ?side4 A43.out).mono ?_); (case side1 => repeat (first | exact (Kd.qq_ HR0.out HB.out) | (with_reducible refine Kd.qo_ ?_ _) | (with_reducible refine Kd.qn_ ?_ _) | (with_reducible refine Kd.C_drew ?_))); (case side2 => exact HC0.out); (case side3 => repeat (first | exact (Kd.qq_ HR1.out HB.out) | (with_reducible refine Kd.qo_ ?_ _) | (with_reducible refine Kd.qn_ ?_ _) | (with_reducible refine Kd.C_drew ?_))); (case side4 => exact HC1.out); rintro e w' ⟨rfl, ⟨nd, rfl⟩⟩; (try first | exact ⟨rfl, _, World.drewN_drewN _ _ _⟩ | exact ⟨rfl, _, Eq.trans (World.drewN_drewN _ _ _) (congrArg (World.drewN _) (Nat.add_assoc _ _ _))⟩)))
          repeat (go_quiet (first | (go_at_call 13; (with_reducible refine (entry_Over.calls _ _ l0 _ _ l0 true _ ?side1 ?side2 ?side3 ?side4 A36.out).mono ?_); (case side1 => repeat (first | exact (Kd.qq_ HR0.out HB.out) | (with_reducible refine Kd.qo_ ?_ _) | (with_reducible refine Kd.qn_ ?_ _) | (with_reducible refine Kd.C_drew ?_))); (case side2 => exact HC0.out); (case side3 => repeat (first | exact (Kd.qq_ HR0.out HB.out) | (with_reducible refine Kd.qo_ ?_ _) | (with_reducible refine Kd.qn_ ?_ _) | (with_reducible refine Kd.C_drew ?_))); (case side4 => exact HC0.out); rintro e w44 ⟨rfl, hb⟩; have n0_ := Aside0.mk (qf_ (by repeat (first | (with_reducible first | exact HB.out | apply qc_ | apply qa_ | apply qb_) | exact HB.out)) hb); clear HB; have HB := n0_; clear n0_; (try clear hb); (try clear hb2); (try clear hk); (try clear hi)) | (go_at_call 13; (with_reducible show Calls _ _ #[_, .slice none 0 0] _ _); (refine (entry_Over.calls _ _ l0 _ _ ([] : List (S30)) true _ ?side1 ?side2 ?side3 ?side4 A38.out).mono ?_); (case side1 => repeat (first | exact (Kd.qq_ HR0.out HB.out) | (with_reducible refine Kd.qo_ ?_ _) | (with_reducible refine Kd.qn_ ?_ _) | (with_reducible refine Kd.C_drew ?_))); (case side2 => exact HC0.out); (case side3 => exact Kd.C_nil _ _); (case side4 => exact Nat.le_refl _); rintro e w45 ⟨rfl, hb⟩; have n0_ := Aside0.mk (qf_ (by repeat (first | (with_reducible first | exact HB.out | apply qc_ | apply qa_ | apply qb_) | exact HB.out)) hb); clear HB; have HB := n0_; clear n0_; (try clear hb); (try clear hb2); (try clear hk); (try clear hi)) | (go_at_call 13; (with_reducible refine (entry_Over.calls _ _ l0 _ _ l1 true _ ?side1 ?side2 ?side3 ?side4 A40.out).mono ?_); (case side1 => repeat (first | exact (Kd.qq_ HR0.out HB.out) | (with_reducible refine Kd.qo_ ?_ _) | (with_reducible refine Kd.qn_ ?_ _) | (with_reducible refine Kd.C_drew ?_))); (case side2 => exact HC0.out); (case side3 => repeat (first | exact (Kd.qq_ HR1.out HB.out) | (with_reducible refine Kd.qo_ ?_ _) | (with_reducible refine Kd.qn_ ?_ _) | (with_reducible refine Kd.C_drew ?_))); (case side4 => exact HC1.out); rintro e w46 ⟨rfl, hb⟩; have n0_ := Aside0.mk (qf_ (by repeat (first | (with_reducible first | exact HB.out | apply qc_ | apply qa_ | apply qb_) | exact HB.out)) hb); clear HB; have HB := n0_; clear n0_; (try clear hb); (try clear hb2); (try clear hk); (try clear hi)) | (go_at_call 13; (with_reducible refine (entry_Over.calls _ _ l1 _ _ l0 t117 _ ?side1 ?side2 ?side3 ?side4 A42.out).mono ?_); (case side1 => repeat (first | exact (Kd.qq_ HR1.out HB.out) | (with_reducible refine Kd.qo_ ?_ _) | (with_reducible refine Kd.qn_ ?_ _) | (with_reducible refine Kd.C_drew ?_))); (case side2 => exact HC1.out); (case side3 => repeat (first | exact (Kd.qq_ HR0.out HB.out) | (with_reducible refine Kd.qo_ ?_ _) | (with_reducible refine Kd.qn_ ?_ _) | (with_reducible refine Kd.C_drew ?_))); (case side4 => exact HC0.out); rintro e w47 ⟨rfl, hb⟩; have n0_ := Aside0.mk (qf_ (by repeat (first | (with_reducible first | exact HB.out | apply qc_ | apply qa_ | apply qb_) | exact HB.out)) hb); clear HB; have HB := n0_; clear n0_; (try clear hb); (try clear hb2); (try clear hk); (try clear hi)) | (go_at_call 12; (with_reducible refine (ref04_Same.calls kj18 _ _ l0 _ _ l1 t118 _ ?side1 ?side2 ?side3 ?side4 A43.out).mono ?_); (case side1 => repeat (first | exact (Kd.qq_ HR0.out HB.out) | (with_reducible refine Kd.qo_ ?_ _) | (with_reducible refine Kd.qn_ ?_ _) | (with_reducible refine Kd.C_drew ?_))); (case side2 => exact HC0.out); (case side3 => repeat (first | exact (Kd.qq_ HR1.out HB.out) | (with_reducible refine Kd.qo_ ?_ _) | (with_reducible refine Kd.qn_ ?_ _) | (with_reducible refine Kd.C_drew ?_))); (case side4 => exact HC1.out); rintro e w' ⟨rfl, ⟨nd, rfl⟩⟩; (try first | exact ⟨rfl, _, World.drewN_drewN _ _ _⟩ | exact ⟨rfl, _, Eq.trans (World.drewN_drewN _ _ _) (congrArg (World.drewN _) (Nat.add_assoc _ _ _))⟩))); try go_wp2_with (first | (go_at_call 13; (with_reducible refine (entry_Over.calls _ _ l0 _ _ l0 true _ ?side1 ?side2 ?side3 ?side4 A36.out).mono ?_); (case side1 => repeat (first | exact (Kd.qq_ HR0.out HB.out) | (with_reducible refine Kd.qo_ ?_ _) | (with_reducible refine Kd.qn_ ?_ _) | (with_reducible refine Kd.C_drew ?_))); (case side2 => exact HC0.out); (case side3 => repeat (first | exact (Kd.qq_ HR0.out HB.out) | (with_reducible refine Kd.qo_ ?_ _) | (with_reducible refine Kd.qn_ ?_ _) | (with_reducible refine Kd.C_drew ?_))); (case side4 => exact HC0.out); rintro e w44 ⟨rfl, hb⟩; have n0_ := Aside0.mk (qf_ (by repeat (first | (with_reducible first | exact HB.out | apply qc_ | apply qa_ | apply qb_) | exact HB.out)) hb); clear HB; have HB := n0_; clear n0_; (try clear hb); (try clear hb2); (try clear hk); (try clear hi)) | (go_at_call 13; (with_reducible show Calls _ _ #[_, .slice none 0 0] _ _); (refine (entry_Over.calls _ _ l0 _ _ ([] : List (S30)) true _ ?side1 ?side2 ?side3 ?side4 A38.out).mono ?_); (case side1 => repeat (first | exact (Kd.qq_ HR0.out HB.out) | (with_reducible refine Kd.qo_ ?_ _) | (with_reducible refine Kd.qn_ ?_ _) | (with_reducible refine Kd.C_drew ?_))); (case side2 => exact HC0.out); (case side3 => exact Kd.C_nil _ _); (case side4 => exact Nat.le_refl _); rintro e w45 ⟨rfl, hb⟩; have n0_ := Aside0.mk (qf_ (by repeat (first | (with_reducible first | exact HB.out | apply qc_ | apply qa_ | apply qb_) | exact HB.out)) hb); clear HB; have HB := n0_; clear n0_; (try clear hb); (try clear hb2); (try clear hk); (try clear hi)) | (go_at_call 13; (with_reducible refine (entry_Over.calls _ _ l0 _ _ l1 true _ ?side1 ?side2 ?side3 ?side4 A40.out).mono ?_); (case side1 => repeat (first | exact (Kd.qq_ HR0.out HB.out) | (with_reducible refine Kd.qo_ ?_ _) | (with_reducible refine Kd.qn_ ?_ _) | (with_reducible refine Kd.C_drew ?_))); (case side2 => exact HC0.out); (case side3 => repeat (first | exact (Kd.qq_ HR1.out HB.out) | (with_reducible refine Kd.qo_ ?_ _) | (with_reducible refine Kd.qn_ ?_ _) | (with_reducible refine Kd.C_drew ?_))); (case side4 => exact HC1.out); rintro e w46 ⟨rfl, hb⟩; have n0_ := Aside0.mk (qf_ (by repeat (first | (with_reducible first | exact HB.out | apply qc_ | apply qa_ | apply qb_) | exact HB.out)) hb); clear HB; have HB := n0_; clear n0_; (try clear hb); (try clear hb2); (try clear hk); (try clear hi)) | (go_at_call 13; (with_reducible refine (entry_Over.calls _ _ l1 _ _ l0 t117 _ ?side1 ?side2 ?side3 ?side4 A42.out).mono ?_); (case side1 => repeat (first | exact (Kd.qq_ HR1.out HB.out) | (with_reducible refine Kd.qo_ ?_ _) | (with_reducible refine Kd.qn_ ?_ _) | (with_reducible refine Kd.C_drew ?_))); (case side2 => exact HC1.out); (case side3 => repeat (first | exact (Kd.qq_ HR0.out HB.out) | (with_reducible refine Kd.qo_ ?_ _) | (with_reducible refine Kd.qn_ ?_ _) | (with_reducible refine Kd.C_drew ?_))); (case side4 => exact HC0.out); rintro e w47 ⟨rfl, hb⟩; have n0_ := Aside0.mk (qf_ (by repeat (first | (with_reducible first | exact HB.out | apply qc_ | apply qa_ | apply qb_) | exact HB.out)) hb); clear HB; have HB := n0_; clear n0_; (try clear hb); (try clear hb2); (try clear hk); (try clear hi)) | (go_at_call 12; (with_reducible refine (ref04_Same.calls kj18 _ _ l0 _ _ l1 t118 _ ?side1 ?side2 ?side3 ?side4 A43.out).mono ?_); (case side1 => repeat (first | exact (Kd.qq_ HR0.out HB.out) | (with_reducible refine Kd.qo_ ?_ _) | (with_reducible refine Kd.qn_ ?_ _) | (with_reducible refine Kd.C_drew ?_))); (case side2 => exact HC0.out); (case side3 => repeat (first | exact (Kd.qq_ HR1.out HB.out) | (with_reducible refine Kd.qo_ ?_ _) | (with_reducible refine Kd.qn_ ?_ _) | (with_reducible refine Kd.C_drew ?_))); (case side4 => exact HC1.out); rintro e w' ⟨rfl, ⟨nd, rfl⟩⟩; (try first | exact ⟨rfl, _, World.drewN_drewN _ _ _⟩ | exact ⟨rfl, _, Eq.trans (World.drewN_drewN _ _ _) (congrArg (World.drewN _) (Nat.add_assoc _ _ _))⟩))))
          go_ret
          exact ⟨by first | rfl | (simp [errW_none, errW_some] <;> rfl) | (simp [*, errW_none, errW_some] <;> rfl), by repeat (first | (with_reducible first | exact HB.out | apply qc_ | apply qa_ | apply qb_) | exact HB.out)⟩
         ·replace c41 := Bool.eq_false_iff.mpr c41
          subst c41
          have H1 : ((ref04_Same.f kj18 l0 l1).bind fun t119 => (some (false == t119))) = some r := by rw [if_neg (show ¬ (false = true) by decide)] at H; exact H
          clear H
          have H := H1
          clear H1
          replace H := ob_ H
          obtain ⟨t119, A480, H⟩ := H
          replace H : (some (false == t119)) = some r := H
          have A48 := Aside0.mk A480
          clear A480
          obtain rfl := Option.some.inj H
          go_wp2_with (first | (go_at_call 13; (with_reducible refine (entry_Over.calls _ _ l0 _ _ l0 true _ ?side1 ?side2 ?side3 ?side4 A36.out).mono ?_); (case side1 => repeat (first | exact (Kd.qq_ HR0.out HB.out) | (with_reducible refine Kd.qo_ ?_ _) | (with_reducible refine Kd.qn_ ?_ _) | (with_reducible refine Kd.C_drew ?_))); (case side2 => exact HC0.out); (case side3 => repeat (first | exact (Kd.qq_ HR0.out HB.out) | (with_reducible refine Kd.qo_ ?_ _) | (with_reducible refine Kd.qn_ ?_ _) | (with_reducible refine Kd.C_drew ?_))); (case side4 => exact HC0.out); rintro e w49 ⟨rfl, hb⟩; have n0_ := Aside0.mk (qf_ (by repeat (first | (with_reducible first | exact HB.out | apply qc_ | apply qa_ | apply qb_) | exact HB.out)) hb); clear HB; have HB := n0_; clear n0_; (try clear hb); (try clear hb2); (try clear hk); (try clear hi)) | (go_at_call 13; (with_reducible show Calls _ _ #[_, .slice none 0 0] _ _); (refine (entry_Over.calls _ _ l0 _ _ ([] : List (S30)) true _ ?side1 ?side2 ?side3 ?side4 A38.out).mono ?_); (case side1 => repeat (first | exact (Kd.qq_ HR0.out HB.out) | (with_reducible refine Kd.qo_ ?_ _) | (with_reducible refine Kd.qn_ ?_ _) | (with_reducible refine Kd.C_drew ?_))); (case side2 => exact HC0.out); (case side3 => exact Kd.C_nil _ _); (case side4 => exact Nat.le_refl _); rintro e w50 ⟨rfl, hb⟩; have n0_ := Aside0.mk (qf_ (by repeat (first | (with_reducible first | exact HB.out | apply qc_ | apply qa_ | apply qb_) | exact HB.out)) hb); clear HB; have HB := n0_; clear n0_; (try clear hb); (try clear hb2); (try clear hk); (try clear hi)) | (go_at_call 13; (with_reducible refine (entry_Over.calls _ _ l0 _ _ l1 false _ ?side1 ?side2 ?side3 ?side4 A40.out).mono ?_); (case side1 => repeat (first | exact (Kd.qq_ HR0.out HB.out) | (with_reducible refine Kd.qo_ ?_ _) | (with_reducible refine Kd.qn_ ?_ _) | (with_reducible refine Kd.C_drew ?_))); (case side2 => exact HC0.out); (case side3 => repeat (first | exact (Kd.qq_ HR1.out HB.out) | (with_reducible refine Kd.qo_ ?_ _) | (with_reducible refine Kd.qn_ ?_ _) | (with_reducible refine Kd.C_drew ?_))); (case side4 => exact HC1.out); rintro e w51 ⟨rfl, hb⟩; have n0_ := Aside0.mk (qf_ (by repeat (first | (with_reducible first | exact HB.out | apply qc_ | apply qa_ | apply qb_) | exact HB.out)) hb); clear HB; have HB := n0_; clear n0_; (try clear hb); (try clear hb2); (try clear hk); (try clear hi)) | (go_at_call 12; (with_reducible refine (ref04_Same.calls kj18 _ _ l0 _ _ l1 t119 _ ?side1 ?side2 ?side3 ?side4 A48.out).mono ?_); (case side1 => repeat (first | exact (Kd.qq_ HR0.out HB.out) | (with_reducible refine Kd.qo_ ?_ _) | (with_reducible refine Kd.qn_ ?_ _) | (with_reducible refine Kd.C_drew ?_))); (case side2 => exact HC0.out); (case side3 => repeat (first | exact (Kd.qq_ HR1.out HB.out) | (with_reducible refine Kd.qo_ ?_ _) | (with_reducible refine Kd.qn_ ?_ _) | (with_reducible refine Kd.C_drew ?_))); (case side4 => exact HC1.out); rintro e w' ⟨rfl, ⟨nd, rfl⟩⟩; (try first | exact ⟨rfl, _, World.drewN_drewN _ _ _⟩ | exact ⟨rfl, _, Eq.trans (World.drewN_drewN _ _ _) (congrArg (World.drewN _) (Nat.add_assoc _ _ _))⟩)))
          repeat (go_quiet (first | (go_at_call 13; (with_reducible refine (entry_Over.calls _ _ l0 _ _ l0 true _ ?side1 ?side2 ?side3 ?side4 A36.out).mono ?_); (case side1 => repeat (first | exact (Kd.qq_ HR0.out HB.out) | (with_reducible refine Kd.qo_ ?_ _) | (with_reducible refine Kd.qn_ ?_ _) | (with_reducible refine Kd.C_drew ?_))); (case side2 => exact HC0.out); (case side3 => repeat (first | exact (Kd.qq_ HR0.out HB.out) | (with_reducible refine Kd.qo_ ?_ _) | (with_reducible refine Kd.qn_ ?_ _) | (with_reducible refine Kd.C_drew ?_))); (case side4 => exact HC0.out); rintro e w49 ⟨rfl, hb⟩; have n0_ := Aside0.mk (qf_ (by repeat (first | (with_reducible first | exact HB.out | apply qc_ | apply qa_ | apply qb_) | exact HB.out)) hb); clear HB; have HB := n0_; clear n0_; (try clear hb); (try clear hb2); (try clear hk); (try clear hi)) | (go_at_call 13; (with_reducible show Calls _ _ #[_, .slice none 0 0] _ _); (refine (entry_Over.calls _ _ l0 _ _ ([] : List (S30)) true _ ?side1 ?side2 ?side3 ?side4 A38.out).mono ?_); (case side1 => repeat (first | exact (Kd.qq_ HR0.out HB.out) | (with_reducible refine Kd.qo_ ?_ _) | (with_reducible refine Kd.qn_ ?_ _) | (with_reducible refine Kd.C_drew ?_))); (case side2 => exact HC0.out); (case side3 => exact Kd.C_nil _ _); (case side4 => exact Nat.le_refl _); rintro e w50 ⟨rfl, hb⟩; have n0_ := Aside0.mk (qf_ (by repeat (first | (with_reducible first | exact HB.out | apply qc_ | apply qa_ | apply qb_) | exact HB.out)) hb); clear HB; have HB := n0_; clear n0_; (try clear hb); (try clear hb2); (try clear hk); (try clear hi)) | (go_at_call 13; (with_reducible refine (entry_Over.calls _ _ l0 _ _ l1 false _ ?side1 ?side2 ?side3 ?side4 A40.out).mono ?_); (case side1 => repeat (first | exact (Kd.qq_ HR0.out HB.out) | (with_reducible refine Kd.qo_ ?_ _) | (with_reducible refine Kd.qn_ ?_ _) | (with_reducible refine Kd.C_drew ?_))); (case side2 => exact HC0.out); (case side3 => repeat (first | exact (Kd.qq_ HR1.out HB.out) | (with_reducible refine Kd.qo_ ?_ _) | (with_reducible refine Kd.qn_ ?_ _) | (with_reducible refine Kd.C_drew ?_))); (case side4 => exact HC1.out); rintro e w51 ⟨rfl, hb⟩; have n0_ := Aside0.mk (qf_ (by repeat (first | (with_reducible first | exact HB.out | apply qc_ | apply qa_ | apply qb_) | exact HB.out)) hb); clear HB; have HB := n0_; clear n0_; (try clear hb); (try clear hb2); (try clear hk); (try clear hi)) | (go_at_call 12; (with_reducible refine (ref04_Same.calls kj18 _ _ l0 _ _ l1 t119 _ ?side1 ?side2 ?side3 ?side4 A48.out).mono ?_); (case side1 => repeat (first | exact (Kd.qq_ HR0.out HB.out) | (with_reducible refine Kd.qo_ ?_ _) | (with_reducible refine Kd.qn_ ?_ _) | (with_reducible refine Kd.C_drew ?_))); (case side2 => exact HC0.out); (case side3 => repeat (first | exact (Kd.qq_ HR1.out HB.out) | (with_reducible refine Kd.qo_ ?_ _) | (with_reducible refine Kd.qn_ ?_ _) | (with_reducible refine Kd.C_drew ?_))); (case side4 => exact HC1.out); rintro e w' ⟨rfl, ⟨nd, rfl⟩⟩; (try first | exact ⟨rfl, _, World.drewN_drewN _ _ _⟩ | exact ⟨rfl, _, Eq.trans (World.drewN_drewN _ _ _) (congrArg (World.drewN _) (Nat.add_assoc _ _ _))⟩))); try go_wp2_with (first | (go_at_call 13; (with_reducible refine (entry_Over.calls _ _ l0 _ _ l0 true _ ?side1 ?side2 ?side3 ?side4 A36.out).mono ?_); (case side1 => repeat (first | exact (Kd.qq_ HR0.out HB.out) | (with_reducible refine Kd.qo_ ?_ _) | (with_reducible refine Kd.qn_ ?_ _) | (with_reducible refine Kd.C_drew ?_))); (case side2 => exact HC0.out); (case side3 => repeat (first | exact (Kd.qq_ HR0.out HB.out) | (with_reducible refine Kd.qo_ ?_ _) | (with_reducible refine Kd.qn_ ?_ _) | (with_reducible refine Kd.C_drew ?_))); (case side4 => exact HC0.out); rintro e w49 ⟨rfl, hb⟩; have n0_ := Aside0.mk (qf_ (by repeat (first | (with_reducible first | exact HB.out | apply qc_ | apply qa_ | apply qb_) | exact HB.out)) hb); clear HB; have HB := n0_; clear n0_; (try clear hb); (try clear hb2); (try clear hk); (try clear hi)) | (go_at_call 13; (with_reducible show Calls _ _ #[_, .slice none 0 0] _ _); (refine (entry_Over.calls _ _ l0 _ _ ([] : List (S30)) true _ ?side1 ?side2 ?side3 ?side4 A38.out).mono ?_); (case side1 => repeat (first | exact (Kd.qq_ HR0.out HB.out) | (with_reducible refine Kd.qo_ ?_ _) | (with_reducible refine Kd.qn_ ?_ _) | (with_reducible refine Kd.C_drew ?_))); (case side2 => exact HC0.out); (case side3 => exact Kd.C_nil _ _); (case side4 => exact Nat.le_refl _); rintro e w50 ⟨rfl, hb⟩; have n0_ := Aside0.mk (qf_ (by repeat (first | (with_reducible first | exact HB.out | apply qc_ | apply qa_ | apply qb_) | exact HB.out)) hb); clear HB; have HB := n0_; clear n0_; (try clear hb); (try clear hb2); (try clear hk); (try clear hi)) | (go_at_call 13; (with_reducible refine (entry_Over.calls _ _ l0 _ _ l1 false _ ?side1 ?side2 ?side3 ?side4 A40.out).mono ?_); (case side1 => repeat (first | exact (Kd.qq_ HR0.out HB.out) | (with_reducible refine Kd.qo_ ?_ _) | (with_reducible refine Kd.qn_ ?_ _) | (with_reducible refine Kd.C_drew ?_))); (case side2 => exact HC0.out); (case side3 => repeat (first | exact (Kd.qq_ HR1.out HB.out) | (with_reducible refine Kd.qo_ ?_ _) | (with_reducible refine Kd.qn_ ?_ _) | (with_reducible refine Kd.C_drew ?_))); (case side4 => exact HC1.out); rintro e w51 ⟨rfl, hb⟩; have n0_ := Aside0.mk (qf_ (by repeat (first | (with_reducible first | exact HB.out | apply qc_ | apply qa_ | apply qb_) | exact HB.out)) hb); clear HB; have HB := n0_; clear n0_; (try clear hb); (try clear hb2); (try clear hk); (try clear hi)) | (go_at_call 12; (with_reducible refine (ref04_Same.calls kj18 _ _ l0 _ _ l1 t119 _ ?side1 ?side2 ?side3 ?side4 A48.out).mono ?_); (case side1 => repeat (first | exact (Kd.qq_ HR0.out HB.out) | (with_reducible refine Kd.qo_ ?_ _) | (with_reducible refine Kd.qn_ ?_ _) | (with_reducible refine Kd.C_drew ?_))); (case side2 => exact HC0.out); (case side3 => repeat (first | exact (Kd.qq_ HR1.out HB.out) | (with_reducible refine Kd.qo_ ?_ _) | (with_reducible refine Kd.qn_ ?_ _) | (with_reducible refine Kd.C_drew ?_))); (case side4 => exact HC1.out); rintro e w' ⟨rfl, ⟨nd, rfl⟩⟩; (try first | exact ⟨rfl, _, World.drewN_drewN _ _ _⟩ | exact ⟨rfl, _, Eq.trans (World.drewN_drewN _ _ _) (congrArg (World.drewN _) (Nat.add_assoc _ _ _))⟩))))
          go_ret
          exact ⟨by first | rfl | (simp [errW_none, errW_some] <;> rfl) | (simp [*, errW_none, errW_some] <;> rfl), by repeat (first | (with_reducible first | exact HB.out | apply qc_ | apply qa_ | apply qb_) | exact HB.out)⟩
        ·rw [if_neg c39] at H
         exact absurd ((Option.some.inj H).trans HRT.out) (by decide)
       ·rw [if_neg c37] at H
        exact absurd ((Option.some.inj H).trans HRT.out) (by decide)
 ·rw [if_neg c4] at H
  exact absurd ((Option.some.inj H).trans HRT.out) (by decide)
end Go.Proofs.Ytpccnpgigmcfoaa.P

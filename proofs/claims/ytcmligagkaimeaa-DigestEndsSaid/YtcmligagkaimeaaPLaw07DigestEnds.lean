/- What this function of the program comes to, and that the machine's call does it: written by a program (wip/tool). No condition. -/
import Derived.Test.YtcmligagkaimeaaP0
import Derived.Test.YtcmligagkaimeaaPDigestCompare
import Derived.Test.YtcmligagkaimeaaPLaw07Alive
import Derived.Test.YtcmligagkaimeaaPRef06Great
import Derived.Test.YtcmligagkaimeaaPRef06Right
import Derived.Test.YtcmligagkaimeaaPRef07Right
import Derived.Test.YtcmligagkaimeaaHw
namespace Go.Proofs.Ytcmligagkaimeaa.P
open Go.RowKit Go.Proofs.YtcmligagkaimeaaW.PrintWords Go.Proofs.YtcmligagkaimeaaW.PrintLast Go.Proofs.YtcmligagkaimeaaW.PrintMore
attribute [local go_sem] max2_int min2_int max_two min_two max_three min_three max_four min_four   -- for this text's walks alone
set_option linter.unusedVariables false
set_option linter.unusedSimpArgs false
/-! ### law07_DigestEnds: function 3 -/
mutual
def law07_DigestEnds.j0 : Nat → List (S35) → List (S30) → Bool → Option (Bool)
 | 0, _, _, _ => none
 | k + 1, x0, x1, x29 => if x29 = true then (some true) else ((digest_Compare.f k ([] : List (S35)) x1).bind fun bt105 => ((digest_Compare.f k x0 ([] : List (S30))).bind fun bt111 => (if (bt105.1.length : Int) = (x1.length : Int) then (if (bt105.2.length : Int) = 0 then (if (bt111.1.length : Int) = 0 then (law07_DigestEnds.j1 k x0 x1 bt105.1 bt111.2 ((bt111.2.length : Int) != (x0.length : Int))) else (law07_DigestEnds.j1 k x0 x1 bt105.1 bt111.2 true)) else (law07_DigestEnds.j1 k x0 x1 bt105.1 bt111.2 true)) else (law07_DigestEnds.j1 k x0 x1 bt105.1 bt111.2 true))))
def law07_DigestEnds.j1 : Nat → List (S35) → List (S30) → List (S30) → List (S30) → Bool → Option (Bool)
 | 0, _, _, _, _, _ => none
 | k + 1, x0, x1, x5, x8, x61 => if x61 = true then (some false) else (law07_DigestEnds.l0 k x0 x1 x5 x8 0)
def law07_DigestEnds.l0 : Nat → List (S35) → List (S30) → List (S30) → List (S30) → Int → Option (Bool)
 | 0, _, _, _, _, _ => none
 | k + 1, x0, x1, x5, x8, x9 => if x9 < (x1.length : Int) then (if 0 ≤ x9 then (if x9 < (x5.length : Int) then (if ((rd_T30 x5 x9).f0) = ((rd_T30 x1 x9).f0) then (if ((rd_T30 x5 x9).f1) = ((rd_T30 x1 x9).f1) then (if ((rd_T30 x5 x9).f2) = 0 then (law07_DigestEnds.l0 k x0 x1 x5 x8 (wrap64 (x9 + 1))) else (some false)) else (some false)) else (some false)) else (none)) else (none)) else (law07_DigestEnds.l1 k x0 x8 0)
def law07_DigestEnds.l1 : Nat → List (S35) → List (S30) → Int → Option (Bool)
 | 0, _, _, _ => none
 | k + 1, x0, x8, x10 => if x10 < (x0.length : Int) then (if 0 ≤ x10 then (if x10 < (x8.length : Int) then (if ((rd_T30 x8 x10).f0) = ((rd_T35 x0 x10).f0) then (if ((rd_T30 x8 x10).f1) = ((rd_T35 x0 x10).f1.f0) then (if ((rd_T30 x8 x10).f2) = 0 then (law07_DigestEnds.l1 k x0 x8 (wrap64 (x10 + 1))) else (some false)) else (some false)) else (some false)) else (none)) else (none)) else (some true)
end
def law07_DigestEnds.f (k : Nat) (l0 : List (S35)) (l1 : List (S30)) : Option (Bool) := (law07_alive.f k).bind fun t101 => (if t101 = true then ((ref06_Great.f k l0).bind fun t102 => (if t102 = true then (law07_DigestEnds.j0 k l0 l1 true) else (if (l1.length : Int) > 40 then (law07_DigestEnds.j0 k l0 l1 true) else ((ref06_Right.f k l0).bind fun t103 => (if t103 = true then ((ref07_Right.f k l1).bind fun t104 => (law07_DigestEnds.j0 k l0 l1 (!t104))) else (law07_DigestEnds.j0 k l0 l1 true)))))) else (some false))
theorem law07_DigestEnds.mono_l : ∀ k, (∀ y0 y1 y2, LeO (law07_DigestEnds.j0 k y0 y1 y2) (law07_DigestEnds.j0 (k + 1) y0 y1 y2)) ∧ (∀ y0 y1 y2 y3 y4, LeO (law07_DigestEnds.j1 k y0 y1 y2 y3 y4) (law07_DigestEnds.j1 (k + 1) y0 y1 y2 y3 y4)) ∧ (∀ y0 y1 y2 y3 y4, LeO (law07_DigestEnds.l0 k y0 y1 y2 y3 y4) (law07_DigestEnds.l0 (k + 1) y0 y1 y2 y3 y4)) ∧ (∀ y0 y1 y2, LeO (law07_DigestEnds.l1 k y0 y1 y2) (law07_DigestEnds.l1 (k + 1) y0 y1 y2))
 | 0 => ⟨fun _ _ _ r h => by simp [law07_DigestEnds.j0] at h, fun _ _ _ _ _ r h => by simp [law07_DigestEnds.j1] at h, fun _ _ _ _ _ r h => by simp [law07_DigestEnds.l0] at h, fun _ _ _ r h => by simp [law07_DigestEnds.l1] at h⟩
 | k + 1 => by
  obtain ⟨ih0, ih1, ih2, ih3⟩ := law07_DigestEnds.mono_l k
  refine ⟨?_, ?_, ?_, ?_⟩
  ·intro y0 y1 y2
   unfold law07_DigestEnds.j0
   repeat' first
   | (with_reducible exact ih0 _ _ _)
   | (with_reducible exact ih1 _ _ _ _ _)
   | (with_reducible exact ih2 _ _ _ _ _)
   | (with_reducible exact ih3 _ _ _)
   | (with_reducible exact law07_alive.mono _)
   | (with_reducible exact ref06_Great.mono _ _)
   | (with_reducible exact ref06_Right.mono _ _)
   | (with_reducible exact ref07_Right.mono _ _)
   | (with_reducible exact digest_Compare.mono _ _ _)
   | (with_reducible exact LeO.refl _)
   | (with_reducible exact LeO.none _)
   | (with_reducible refine LeO.ite ?_ ?_)
   | (with_reducible refine LeO.bind ?_ (fun _ => ?_))
   | exact ih0 _ _ _
   | exact ih1 _ _ _ _ _
   | exact ih2 _ _ _ _ _
   | exact ih3 _ _ _
   | exact law07_alive.mono _
   | exact ref06_Great.mono _ _
   | exact ref06_Right.mono _ _
   | exact ref07_Right.mono _ _
   | exact digest_Compare.mono _ _ _
   | exact LeO.none _
   | refine LeO.ite ?_ ?_
   | refine LeO.bind ?_ (fun _ => ?_)
  ·intro y0 y1 y2 y3 y4
   unfold law07_DigestEnds.j1
   repeat' first
   | (with_reducible exact ih0 _ _ _)
   | (with_reducible exact ih1 _ _ _ _ _)
   | (with_reducible exact ih2 _ _ _ _ _)
   | (with_reducible exact ih3 _ _ _)
   | (with_reducible exact law07_alive.mono _)
   | (with_reducible exact ref06_Great.mono _ _)
   | (with_reducible exact ref06_Right.mono _ _)
   | (with_reducible exact ref07_Right.mono _ _)
   | (with_reducible exact digest_Compare.mono _ _ _)
   | (with_reducible exact LeO.refl _)
   | (with_reducible exact LeO.none _)
   | (with_reducible refine LeO.ite ?_ ?_)
   | (with_reducible refine LeO.bind ?_ (fun _ => ?_))
   | exact ih0 _ _ _
   | exact ih1 _ _ _ _ _
   | exact ih2 _ _ _ _ _
   | exact ih3 _ _ _
   | exact law07_alive.mono _
   | exact ref06_Great.mono _ _
   | exact ref06_Right.mono _ _
   | exact ref07_Right.mono _ _
   | exact digest_Compare.mono _ _ _
   | exact LeO.none _
   | refine LeO.ite ?_ ?_
   | refine LeO.bind ?_ (fun _ => ?_)
  ·intro y0 y1 y2 y3 y4
   unfold law07_DigestEnds.l0
   repeat' first
   | (with_reducible exact ih0 _ _ _)
   | (with_reducible exact ih1 _ _ _ _ _)
   | (with_reducible exact ih2 _ _ _ _ _)
   | (with_reducible exact ih3 _ _ _)
   | (with_reducible exact law07_alive.mono _)
   | (with_reducible exact ref06_Great.mono _ _)
   | (with_reducible exact ref06_Right.mono _ _)
   | (with_reducible exact ref07_Right.mono _ _)
   | (with_reducible exact digest_Compare.mono _ _ _)
   | (with_reducible exact LeO.refl _)
   | (with_reducible exact LeO.none _)
   | (with_reducible refine LeO.ite ?_ ?_)
   | (with_reducible refine LeO.bind ?_ (fun _ => ?_))
   | exact ih0 _ _ _
   | exact ih1 _ _ _ _ _
   | exact ih2 _ _ _ _ _
   | exact ih3 _ _ _
   | exact law07_alive.mono _
   | exact ref06_Great.mono _ _
   | exact ref06_Right.mono _ _
   | exact ref07_Right.mono _ _
   | exact digest_Compare.mono _ _ _
   | exact LeO.none _
   | refine LeO.ite ?_ ?_
   | refine LeO.bind ?_ (fun _ => ?_)
  ·intro y0 y1 y2
   unfold law07_DigestEnds.l1
   repeat' first
   | (with_reducible exact ih0 _ _ _)
   | (with_reducible exact ih1 _ _ _ _ _)
   | (with_reducible exact ih2 _ _ _ _ _)
   | (with_reducible exact ih3 _ _ _)
   | (with_reducible exact law07_alive.mono _)
   | (with_reducible exact ref06_Great.mono _ _)
   | (with_reducible exact ref06_Right.mono _ _)
   | (with_reducible exact ref07_Right.mono _ _)
   | (with_reducible exact digest_Compare.mono _ _ _)
   | (with_reducible exact LeO.refl _)
   | (with_reducible exact LeO.none _)
   | (with_reducible refine LeO.ite ?_ ?_)
   | (with_reducible refine LeO.bind ?_ (fun _ => ?_))
   | exact ih0 _ _ _
   | exact ih1 _ _ _ _ _
   | exact ih2 _ _ _ _ _
   | exact ih3 _ _ _
   | exact law07_alive.mono _
   | exact ref06_Great.mono _ _
   | exact ref06_Right.mono _ _
   | exact ref07_Right.mono _ _
   | exact digest_Compare.mono _ _ _
   | exact LeO.none _
   | refine LeO.ite ?_ ?_
   | refine LeO.bind ?_ (fun _ => ?_)
theorem law07_DigestEnds.mono : ∀ a0 a1 k, LeO (law07_DigestEnds.f k a0 a1) (law07_DigestEnds.f (k + 1) a0 a1) := by
 intro a0 a1 k
 obtain ⟨ih0, ih1, ih2, ih3⟩ := law07_DigestEnds.mono_l k
 unfold law07_DigestEnds.f
 repeat' first
   | (with_reducible exact ih0 _ _ _)
   | (with_reducible exact ih1 _ _ _ _ _)
   | (with_reducible exact ih2 _ _ _ _ _)
   | (with_reducible exact ih3 _ _ _)
   | (with_reducible exact law07_alive.mono _)
   | (with_reducible exact ref06_Great.mono _ _)
   | (with_reducible exact ref06_Right.mono _ _)
   | (with_reducible exact ref07_Right.mono _ _)
   | (with_reducible exact digest_Compare.mono _ _ _)
   | (with_reducible exact LeO.refl _)
   | (with_reducible exact LeO.none _)
   | (with_reducible refine LeO.ite ?_ ?_)
   | (with_reducible refine LeO.bind ?_ (fun _ => ?_))
   | exact ih0 _ _ _
   | exact ih1 _ _ _ _ _
   | exact ih2 _ _ _ _ _
   | exact ih3 _ _ _
   | exact law07_alive.mono _
   | exact ref06_Great.mono _ _
   | exact ref06_Right.mono _ _
   | exact ref07_Right.mono _ _
   | exact digest_Compare.mono _ _ _
   | exact LeO.none _
   | refine LeO.ite ?_ ?_
   | refine LeO.bind ?_ (fun _ => ?_)
set_option maxHeartbeats 8000000 in
set_option maxRecDepth 100000 in
theorem law07_DigestEnds.calls (k : Nat) (A0 : Option Addr) (c0 : Nat) (l0 : List (S35)) (A1 : Option Addr) (c1 : Nat) (l1 : List (S30)) (r : Bool) (w : World) (hr0 : Kd.C k35 w A0 l0.length l0) (hc0 : l0.length ≤ c0) (hr1 : Kd.C k30 w A1 l1.length l1) (hc1 : l1.length ≤ c1) (h : law07_DigestEnds.f k l0 l1 = some r) :
  Calls Try.prog 3 #[.slice A0 l0.length c0, .slice A1 l1.length c1] w fun e w' => e = .returned (.bool r) ∧ Below w.heap.size w w' := by
 have HR0 := Aside0.mk hr0
 have HC0 := Aside0.mk hc0
 clear hr0 hc0
 have HR1 := Aside0.mk hr1
 have HC1 := Aside0.mk hc1
 clear hr1 hc1
 have HB := Aside0.mk (Below.refl w.heap.size w)
 have H : ((law07_alive.f k).bind fun t101 => (if t101 = true then ((ref06_Great.f k l0).bind fun t102 => (if t102 = true then (law07_DigestEnds.j0 k l0 l1 true) else (if (l1.length : Int) > 40 then (law07_DigestEnds.j0 k l0 l1 true) else ((ref06_Right.f k l0).bind fun t103 => (if t103 = true then ((ref07_Right.f k l1).bind fun t104 => (law07_DigestEnds.j0 k l0 l1 (!t104))) else (law07_DigestEnds.j0 k l0 l1 true)))))) else (some false))) = some r := h
 clear h
 replace H := ob_ H
 obtain ⟨t101, A30, H⟩ := H
 replace H : (if t101 = true then ((ref06_Great.f k l0).bind fun t102 => (if t102 = true then (law07_DigestEnds.j0 k l0 l1 true) else (if (l1.length : Int) > 40 then (law07_DigestEnds.j0 k l0 l1 true) else ((ref06_Right.f k l0).bind fun t103 => (if t103 = true then ((ref07_Right.f k l1).bind fun t104 => (law07_DigestEnds.j0 k l0 l1 (!t104))) else (law07_DigestEnds.j0 k l0 l1 true)))))) else (some false)) = some r := H
 have A3 := Aside0.mk A30
 clear A30
 by_cases c4 : t101 = true
 ·subst c4
  have H1 : ((ref06_Great.f k l0).bind fun t102 => (if t102 = true then (law07_DigestEnds.j0 k l0 l1 true) else (if (l1.length : Int) > 40 then (law07_DigestEnds.j0 k l0 l1 true) else ((ref06_Right.f k l0).bind fun t103 => (if t103 = true then ((ref07_Right.f k l1).bind fun t104 => (law07_DigestEnds.j0 k l0 l1 (!t104))) else (law07_DigestEnds.j0 k l0 l1 true)))))) = some r := by rw [if_pos rfl] at H; exact H
  clear H
  have H := H1
  clear H1
  have HC5 := Aside0.mk H
  clear H
  go_enter Try.func3, Try.ntmps3
  go_upto_region 3 with (first | (go_at_call 6; (with_reducible refine (law07_alive.calls k  true _ A3.out).mono ?_); rintro e w6 ⟨rfl, hb⟩; have n0_ := Aside0.mk (qi_ (by repeat (first | (with_reducible first | exact HB.out | apply qc_ | apply qa_ | apply qb_) | exact HB.out)) hb); clear HB; have HB := n0_; clear n0_; (try clear hb); (try clear hb2); (try clear hk); (try clear hi)))
  repeat (go_quiet (first | (go_at_call 6; (with_reducible refine (law07_alive.calls k  true _ A3.out).mono ?_); rintro e w6 ⟨rfl, hb⟩; have n0_ := Aside0.mk (qi_ (by repeat (first | (with_reducible first | exact HB.out | apply qc_ | apply qa_ | apply qb_) | exact HB.out)) hb); clear HB; have HB := n0_; clear n0_; (try clear hb); (try clear hb2); (try clear hk); (try clear hi))); go_upto_region 3 with (first | (go_at_call 6; (with_reducible refine (law07_alive.calls k  true _ A3.out).mono ?_); rintro e w6 ⟨rfl, hb⟩; have n0_ := Aside0.mk (qi_ (by repeat (first | (with_reducible first | exact HB.out | apply qc_ | apply qa_ | apply qb_) | exact HB.out)) hb); clear HB; have HB := n0_; clear n0_; (try clear hb); (try clear hb2); (try clear hk); (try clear hi))))
  (try simp only [Act.put, sa_, sb_, sc_])
  go_cut [29] (fun v29 wc => ∃ (kq : Nat) (x29_4 : Bool), v29 = .bool x29_4 ∧ Aside0 (law07_DigestEnds.j0 kq l0 l1 x29_4 = some r) ∧ Aside0 (kq ≤ k) ∧ Aside0 (Below w.heap.size w wc))
  case first =>
   have H := HC5.out
   clear HC5
   replace H := ob_ H
   obtain ⟨t102, A70, H⟩ := H
   replace H : (if t102 = true then (law07_DigestEnds.j0 k l0 l1 true) else (if (l1.length : Int) > 40 then (law07_DigestEnds.j0 k l0 l1 true) else ((ref06_Right.f k l0).bind fun t103 => (if t103 = true then ((ref07_Right.f k l1).bind fun t104 => (law07_DigestEnds.j0 k l0 l1 (!t104))) else (law07_DigestEnds.j0 k l0 l1 true))))) = some r := H
   have A7 := Aside0.mk A70
   clear A70
   by_cases c8 : t102 = true
   ·subst c8
    have H1 : (law07_DigestEnds.j0 k l0 l1 true) = some r := by rw [if_pos rfl] at H; exact H
    clear H
    have H := H1
    clear H1
    have H' := Aside0.mk H
    clear H
    go_wp2_with (first | (go_at_call 7; (with_reducible refine (ref06_Great.calls k _ _ l0 true _ ?side1 ?side2 A7.out).mono ?_); (case side1 => repeat (first | exact (Kd.qr_ HR0.out HB.out) | (with_reducible refine Kd.qp_ ?_ _) | (with_reducible refine Kd.qo_ ?_ _) | (with_reducible refine Kd.C_drew ?_))); (case side2 => exact HC0.out); rintro e w9 ⟨rfl, hb⟩; have n0_ := Aside0.mk (qi_ (by repeat (first | (with_reducible first | exact HB.out | apply qc_ | apply qa_ | apply qb_) | exact HB.out)) hb); clear HB; have HB := n0_; clear n0_; (try clear hb); (try clear hb2); (try clear hk); (try clear hi)))
    repeat (go_quiet (first | (go_at_call 7; (with_reducible refine (ref06_Great.calls k _ _ l0 true _ ?side1 ?side2 A7.out).mono ?_); (case side1 => repeat (first | exact (Kd.qr_ HR0.out HB.out) | (with_reducible refine Kd.qp_ ?_ _) | (with_reducible refine Kd.qo_ ?_ _) | (with_reducible refine Kd.C_drew ?_))); (case side2 => exact HC0.out); rintro e w9 ⟨rfl, hb⟩; have n0_ := Aside0.mk (qi_ (by repeat (first | (with_reducible first | exact HB.out | apply qc_ | apply qa_ | apply qb_) | exact HB.out)) hb); clear HB; have HB := n0_; clear n0_; (try clear hb); (try clear hb2); (try clear hk); (try clear hi))); try go_wp2_with (first | (go_at_call 7; (with_reducible refine (ref06_Great.calls k _ _ l0 true _ ?side1 ?side2 A7.out).mono ?_); (case side1 => repeat (first | exact (Kd.qr_ HR0.out HB.out) | (with_reducible refine Kd.qp_ ?_ _) | (with_reducible refine Kd.qo_ ?_ _) | (with_reducible refine Kd.C_drew ?_))); (case side2 => exact HC0.out); rintro e w9 ⟨rfl, hb⟩; have n0_ := Aside0.mk (qi_ (by repeat (first | (with_reducible first | exact HB.out | apply qc_ | apply qa_ | apply qb_) | exact HB.out)) hb); clear HB; have HB := n0_; clear n0_; (try clear hb); (try clear hb2); (try clear hk); (try clear hi))))
    go_meet
    case rel => exact ⟨_, (true), (by first | rfl | (simp; done) | (simp [*]; done)), H', ⟨by first | omega | exact Nat.le_refl _⟩, ⟨by repeat (first | (with_reducible first | exact HB.out | apply qc_ | apply qa_ | apply qb_) | exact HB.out)⟩⟩
   ·replace c8 := Bool.eq_false_iff.mpr c8
    subst c8
    have H1 : (if (l1.length : Int) > 40 then (law07_DigestEnds.j0 k l0 l1 true) else ((ref06_Right.f k l0).bind fun t103 => (if t103 = true then ((ref07_Right.f k l1).bind fun t104 => (law07_DigestEnds.j0 k l0 l1 (!t104))) else (law07_DigestEnds.j0 k l0 l1 true)))) = some r := by rw [if_neg (show ¬ (false = true) by decide)] at H; exact H
    clear H
    have H := H1
    clear H1
    by_cases c10 : (l1.length : Int) > 40
    ·rw [if_pos c10] at H
     have c10b0 : decide (40 < (l1.length : Int)) = true := decide_eq_true c10
     have c10b1 : decide (40 < l1.length) = true := decide_eq_true (by omega)
     clear c10
     (first | rw [c10b0] | (simp only [i64_w, i32_w]; rw [c10b0]) | skip)
     have H' := Aside0.mk H
     clear H
     go_wp2_with (first | (go_at_call 7; (with_reducible refine (ref06_Great.calls k _ _ l0 false _ ?side1 ?side2 A7.out).mono ?_); (case side1 => repeat (first | exact (Kd.qr_ HR0.out HB.out) | (with_reducible refine Kd.qp_ ?_ _) | (with_reducible refine Kd.qo_ ?_ _) | (with_reducible refine Kd.C_drew ?_))); (case side2 => exact HC0.out); rintro e w11 ⟨rfl, hb⟩; have n0_ := Aside0.mk (qi_ (by repeat (first | (with_reducible first | exact HB.out | apply qc_ | apply qa_ | apply qb_) | exact HB.out)) hb); clear HB; have HB := n0_; clear n0_; (try clear hb); (try clear hb2); (try clear hk); (try clear hi)))
     repeat (go_quiet (first | (go_at_call 7; (with_reducible refine (ref06_Great.calls k _ _ l0 false _ ?side1 ?side2 A7.out).mono ?_); (case side1 => repeat (first | exact (Kd.qr_ HR0.out HB.out) | (with_reducible refine Kd.qp_ ?_ _) | (with_reducible refine Kd.qo_ ?_ _) | (with_reducible refine Kd.C_drew ?_))); (case side2 => exact HC0.out); rintro e w11 ⟨rfl, hb⟩; have n0_ := Aside0.mk (qi_ (by repeat (first | (with_reducible first | exact HB.out | apply qc_ | apply qa_ | apply qb_) | exact HB.out)) hb); clear HB; have HB := n0_; clear n0_; (try clear hb); (try clear hb2); (try clear hk); (try clear hi))); try go_wp2_with (first | (go_at_call 7; (with_reducible refine (ref06_Great.calls k _ _ l0 false _ ?side1 ?side2 A7.out).mono ?_); (case side1 => repeat (first | exact (Kd.qr_ HR0.out HB.out) | (with_reducible refine Kd.qp_ ?_ _) | (with_reducible refine Kd.qo_ ?_ _) | (with_reducible refine Kd.C_drew ?_))); (case side2 => exact HC0.out); rintro e w11 ⟨rfl, hb⟩; have n0_ := Aside0.mk (qi_ (by repeat (first | (with_reducible first | exact HB.out | apply qc_ | apply qa_ | apply qb_) | exact HB.out)) hb); clear HB; have HB := n0_; clear n0_; (try clear hb); (try clear hb2); (try clear hk); (try clear hi))))
     go_meet
     case rel => exact ⟨_, (true), (by first | rfl | (simp; done) | (simp [*]; done)), H', ⟨by first | omega | exact Nat.le_refl _⟩, ⟨by repeat (first | (with_reducible first | exact HB.out | apply qc_ | apply qa_ | apply qb_) | exact HB.out)⟩⟩
    ·rw [if_neg c10] at H
     have c10b0 : decide (40 < (l1.length : Int)) = false := decide_eq_false c10
     have c10b1 : decide (40 < l1.length) = false := decide_eq_false (by omega)
     clear c10
     (first | rw [c10b0] | (simp only [i64_w, i32_w]; rw [c10b0]) | skip)
     replace H := ob_ H
     obtain ⟨t103, A120, H⟩ := H
     replace H : (if t103 = true then ((ref07_Right.f k l1).bind fun t104 => (law07_DigestEnds.j0 k l0 l1 (!t104))) else (law07_DigestEnds.j0 k l0 l1 true)) = some r := H
     have A12 := Aside0.mk A120
     clear A120
     by_cases c13 : t103 = true
     ·subst c13
      have H1 : ((ref07_Right.f k l1).bind fun t104 => (law07_DigestEnds.j0 k l0 l1 (!t104))) = some r := by rw [if_pos rfl] at H; exact H
      clear H
      have H := H1
      clear H1
      replace H := ob_ H
      obtain ⟨t104, A140, H⟩ := H
      replace H : (law07_DigestEnds.j0 k l0 l1 (!t104)) = some r := H
      have A14 := Aside0.mk A140
      clear A140
      have H' := Aside0.mk H
      clear H
      go_wp2_with (first | (go_at_call 7; (with_reducible refine (ref06_Great.calls k _ _ l0 false _ ?side1 ?side2 A7.out).mono ?_); (case side1 => repeat (first | exact (Kd.qr_ HR0.out HB.out) | (with_reducible refine Kd.qp_ ?_ _) | (with_reducible refine Kd.qo_ ?_ _) | (with_reducible refine Kd.C_drew ?_))); (case side2 => exact HC0.out); rintro e w15 ⟨rfl, hb⟩; have n0_ := Aside0.mk (qi_ (by repeat (first | (with_reducible first | exact HB.out | apply qc_ | apply qa_ | apply qb_) | exact HB.out)) hb); clear HB; have HB := n0_; clear n0_; (try clear hb); (try clear hb2); (try clear hk); (try clear hi)) | (go_at_call 8; (with_reducible refine (ref06_Right.calls k _ _ l0 true _ ?side1 ?side2 A12.out).mono ?_); (case side1 => repeat (first | exact (Kd.qr_ HR0.out HB.out) | (with_reducible refine Kd.qp_ ?_ _) | (with_reducible refine Kd.qo_ ?_ _) | (with_reducible refine Kd.C_drew ?_))); (case side2 => exact HC0.out); rintro e w16 ⟨rfl, hb⟩; have n0_ := Aside0.mk (qi_ (by repeat (first | (with_reducible first | exact HB.out | apply qc_ | apply qa_ | apply qb_) | exact HB.out)) hb); clear HB; have HB := n0_; clear n0_; (try clear hb); (try clear hb2); (try clear hk); (try clear hi)) | (go_at_call 9; (with_reducible refine (ref07_Right.calls k _ _ l1 t104 _ ?side1 ?side2 A14.out).mono ?_); (case side1 => repeat (first | exact (Kd.qr_ HR1.out HB.out) | (with_reducible refine Kd.qp_ ?_ _) | (with_reducible refine Kd.qo_ ?_ _) | (with_reducible refine Kd.C_drew ?_))); (case side2 => exact HC1.out); rintro e w17 ⟨rfl, hb⟩; have n0_ := Aside0.mk (qi_ (by repeat (first | (with_reducible first | exact HB.out | apply qc_ | apply qa_ | apply qb_) | exact HB.out)) hb); clear HB; have HB := n0_; clear n0_; (try clear hb); (try clear hb2); (try clear hk); (try clear hi)))
      repeat (go_quiet (first | (go_at_call 7; (with_reducible refine (ref06_Great.calls k _ _ l0 false _ ?side1 ?side2 A7.out).mono ?_); (case side1 => repeat (first | exact (Kd.qr_ HR0.out HB.out) | (with_reducible refine Kd.qp_ ?_ _) | (with_reducible refine Kd.qo_ ?_ _) | (with_reducible refine Kd.C_drew ?_))); (case side2 => exact HC0.out); rintro e w15 ⟨rfl, hb⟩; have n0_ := Aside0.mk (qi_ (by repeat (first | (with_reducible first | exact HB.out | apply qc_ | apply qa_ | apply qb_) | exact HB.out)) hb); clear HB; have HB := n0_; clear n0_; (try clear hb); (try clear hb2); (try clear hk); (try clear hi)) | (go_at_call 8; (with_reducible refine (ref06_Right.calls k _ _ l0 true _ ?side1 ?side2 A12.out).mono ?_); (case side1 => repeat (first | exact (Kd.qr_ HR0.out HB.out) | (with_reducible refine Kd.qp_ ?_ _) | (with_reducible refine Kd.qo_ ?_ _) | (with_reducible refine Kd.C_drew ?_))); (case side2 => exact HC0.out); rintro e w16 ⟨rfl, hb⟩; have n0_ := Aside0.mk (qi_ (by repeat (first | (with_reducible first | exact HB.out | apply qc_ | apply qa_ | apply qb_) | exact HB.out)) hb); clear HB; have HB := n0_; clear n0_; (try clear hb); (try clear hb2); (try clear hk); (try clear hi)) | (go_at_call 9; (with_reducible refine (ref07_Right.calls k _ _ l1 t104 _ ?side1 ?side2 A14.out).mono ?_); (case side1 => repeat (first | exact (Kd.qr_ HR1.out HB.out) | (with_reducible refine Kd.qp_ ?_ _) | (with_reducible refine Kd.qo_ ?_ _) | (with_reducible refine Kd.C_drew ?_))); (case side2 => exact HC1.out); rintro e w17 ⟨rfl, hb⟩; have n0_ := Aside0.mk (qi_ (by repeat (first | (with_reducible first | exact HB.out | apply qc_ | apply qa_ | apply qb_) | exact HB.out)) hb); clear HB; have HB := n0_; clear n0_; (try clear hb); (try clear hb2); (try clear hk); (try clear hi))); try go_wp2_with (first | (go_at_call 7; (with_reducible refine (ref06_Great.calls k _ _ l0 false _ ?side1 ?side2 A7.out).mono ?_); (case side1 => repeat (first | exact (Kd.qr_ HR0.out HB.out) | (with_reducible refine Kd.qp_ ?_ _) | (with_reducible refine Kd.qo_ ?_ _) | (with_reducible refine Kd.C_drew ?_))); (case side2 => exact HC0.out); rintro e w15 ⟨rfl, hb⟩; have n0_ := Aside0.mk (qi_ (by repeat (first | (with_reducible first | exact HB.out | apply qc_ | apply qa_ | apply qb_) | exact HB.out)) hb); clear HB; have HB := n0_; clear n0_; (try clear hb); (try clear hb2); (try clear hk); (try clear hi)) | (go_at_call 8; (with_reducible refine (ref06_Right.calls k _ _ l0 true _ ?side1 ?side2 A12.out).mono ?_); (case side1 => repeat (first | exact (Kd.qr_ HR0.out HB.out) | (with_reducible refine Kd.qp_ ?_ _) | (with_reducible refine Kd.qo_ ?_ _) | (with_reducible refine Kd.C_drew ?_))); (case side2 => exact HC0.out); rintro e w16 ⟨rfl, hb⟩; have n0_ := Aside0.mk (qi_ (by repeat (first | (with_reducible first | exact HB.out | apply qc_ | apply qa_ | apply qb_) | exact HB.out)) hb); clear HB; have HB := n0_; clear n0_; (try clear hb); (try clear hb2); (try clear hk); (try clear hi)) | (go_at_call 9; (with_reducible refine (ref07_Right.calls k _ _ l1 t104 _ ?side1 ?side2 A14.out).mono ?_); (case side1 => repeat (first | exact (Kd.qr_ HR1.out HB.out) | (with_reducible refine Kd.qp_ ?_ _) | (with_reducible refine Kd.qo_ ?_ _) | (with_reducible refine Kd.C_drew ?_))); (case side2 => exact HC1.out); rintro e w17 ⟨rfl, hb⟩; have n0_ := Aside0.mk (qi_ (by repeat (first | (with_reducible first | exact HB.out | apply qc_ | apply qa_ | apply qb_) | exact HB.out)) hb); clear HB; have HB := n0_; clear n0_; (try clear hb); (try clear hb2); (try clear hk); (try clear hi))))
      go_meet
      case rel => exact ⟨_, (!t104), (by first | rfl | (simp; done) | (simp [*]; done)), H', ⟨by first | omega | exact Nat.le_refl _⟩, ⟨by repeat (first | (with_reducible first | exact HB.out | apply qc_ | apply qa_ | apply qb_) | exact HB.out)⟩⟩
     ·replace c13 := Bool.eq_false_iff.mpr c13
      subst c13
      have H1 : (law07_DigestEnds.j0 k l0 l1 true) = some r := by rw [if_neg (show ¬ (false = true) by decide)] at H; exact H
      clear H
      have H := H1
      clear H1
      have H' := Aside0.mk H
      clear H
      go_wp2_with (first | (go_at_call 7; (with_reducible refine (ref06_Great.calls k _ _ l0 false _ ?side1 ?side2 A7.out).mono ?_); (case side1 => repeat (first | exact (Kd.qr_ HR0.out HB.out) | (with_reducible refine Kd.qp_ ?_ _) | (with_reducible refine Kd.qo_ ?_ _) | (with_reducible refine Kd.C_drew ?_))); (case side2 => exact HC0.out); rintro e w18 ⟨rfl, hb⟩; have n0_ := Aside0.mk (qi_ (by repeat (first | (with_reducible first | exact HB.out | apply qc_ | apply qa_ | apply qb_) | exact HB.out)) hb); clear HB; have HB := n0_; clear n0_; (try clear hb); (try clear hb2); (try clear hk); (try clear hi)) | (go_at_call 8; (with_reducible refine (ref06_Right.calls k _ _ l0 false _ ?side1 ?side2 A12.out).mono ?_); (case side1 => repeat (first | exact (Kd.qr_ HR0.out HB.out) | (with_reducible refine Kd.qp_ ?_ _) | (with_reducible refine Kd.qo_ ?_ _) | (with_reducible refine Kd.C_drew ?_))); (case side2 => exact HC0.out); rintro e w19 ⟨rfl, hb⟩; have n0_ := Aside0.mk (qi_ (by repeat (first | (with_reducible first | exact HB.out | apply qc_ | apply qa_ | apply qb_) | exact HB.out)) hb); clear HB; have HB := n0_; clear n0_; (try clear hb); (try clear hb2); (try clear hk); (try clear hi)))
      repeat (go_quiet (first | (go_at_call 7; (with_reducible refine (ref06_Great.calls k _ _ l0 false _ ?side1 ?side2 A7.out).mono ?_); (case side1 => repeat (first | exact (Kd.qr_ HR0.out HB.out) | (with_reducible refine Kd.qp_ ?_ _) | (with_reducible refine Kd.qo_ ?_ _) | (with_reducible refine Kd.C_drew ?_))); (case side2 => exact HC0.out); rintro e w18 ⟨rfl, hb⟩; have n0_ := Aside0.mk (qi_ (by repeat (first | (with_reducible first | exact HB.out | apply qc_ | apply qa_ | apply qb_) | exact HB.out)) hb); clear HB; have HB := n0_; clear n0_; (try clear hb); (try clear hb2); (try clear hk); (try clear hi)) | (go_at_call 8; (with_reducible refine (ref06_Right.calls k _ _ l0 false _ ?side1 ?side2 A12.out).mono ?_); (case side1 => repeat (first | exact (Kd.qr_ HR0.out HB.out) | (with_reducible refine Kd.qp_ ?_ _) | (with_reducible refine Kd.qo_ ?_ _) | (with_reducible refine Kd.C_drew ?_))); (case side2 => exact HC0.out); rintro e w19 ⟨rfl, hb⟩; have n0_ := Aside0.mk (qi_ (by repeat (first | (with_reducible first | exact HB.out | apply qc_ | apply qa_ | apply qb_) | exact HB.out)) hb); clear HB; have HB := n0_; clear n0_; (try clear hb); (try clear hb2); (try clear hk); (try clear hi))); try go_wp2_with (first | (go_at_call 7; (with_reducible refine (ref06_Great.calls k _ _ l0 false _ ?side1 ?side2 A7.out).mono ?_); (case side1 => repeat (first | exact (Kd.qr_ HR0.out HB.out) | (with_reducible refine Kd.qp_ ?_ _) | (with_reducible refine Kd.qo_ ?_ _) | (with_reducible refine Kd.C_drew ?_))); (case side2 => exact HC0.out); rintro e w18 ⟨rfl, hb⟩; have n0_ := Aside0.mk (qi_ (by repeat (first | (with_reducible first | exact HB.out | apply qc_ | apply qa_ | apply qb_) | exact HB.out)) hb); clear HB; have HB := n0_; clear n0_; (try clear hb); (try clear hb2); (try clear hk); (try clear hi)) | (go_at_call 8; (with_reducible refine (ref06_Right.calls k _ _ l0 false _ ?side1 ?side2 A12.out).mono ?_); (case side1 => repeat (first | exact (Kd.qr_ HR0.out HB.out) | (with_reducible refine Kd.qp_ ?_ _) | (with_reducible refine Kd.qo_ ?_ _) | (with_reducible refine Kd.C_drew ?_))); (case side2 => exact HC0.out); rintro e w19 ⟨rfl, hb⟩; have n0_ := Aside0.mk (qi_ (by repeat (first | (with_reducible first | exact HB.out | apply qc_ | apply qa_ | apply qb_) | exact HB.out)) hb); clear HB; have HB := n0_; clear n0_; (try clear hb); (try clear hb2); (try clear hk); (try clear hi))))
      go_meet
      case rel => exact ⟨_, (true), (by first | rfl | (simp; done) | (simp [*]; done)), H', ⟨by first | omega | exact Nat.le_refl _⟩, ⟨by repeat (first | (with_reducible first | exact HB.out | apply qc_ | apply qa_ | apply qb_) | exact HB.out)⟩⟩
  case rest =>
   clear HC5
   try clear c1
   try clear p2
   try clear c3
   try clear c4
   try clear c8
   try clear c10
   try clear c10b0
   try clear c10b1
   try clear c13
   obtain ⟨kq, x29_4, rfl, HA, HJ4, HB⟩ := hcut
   cases kq with
   | zero => exact absurd HA.out (by simp [law07_DigestEnds.j0])
   | succ kj4 =>
    have H := HA.out
    clear HA
    simp only [law07_DigestEnds.j0] at H
    by_cases c20 : x29_4 = true
    ·subst c20
     have H1 : (some true) = some r := by rw [if_pos rfl] at H; exact H
     clear H
     have H := H1
     clear H1
     obtain rfl := Option.some.inj H
     go_wp2
     repeat (go_quiet (fail); try go_wp2)
     go_ret
     exact ⟨by first | rfl | (simp [errW_none, errW_some] <;> rfl) | (simp [*, errW_none, errW_some] <;> rfl), by repeat (first | (with_reducible first | exact HB.out | apply qc_ | apply qa_ | apply qb_) | exact HB.out)⟩
    ·replace c20 := Bool.eq_false_iff.mpr c20
     subst c20
     have H1 : ((digest_Compare.f kj4 ([] : List (S35)) l1).bind fun bt105 => ((digest_Compare.f kj4 l0 ([] : List (S30))).bind fun bt111 => (if (bt105.1.length : Int) = (l1.length : Int) then (if (bt105.2.length : Int) = 0 then (if (bt111.1.length : Int) = 0 then (law07_DigestEnds.j1 kj4 l0 l1 bt105.1 bt111.2 ((bt111.2.length : Int) != (l0.length : Int))) else (law07_DigestEnds.j1 kj4 l0 l1 bt105.1 bt111.2 true)) else (law07_DigestEnds.j1 kj4 l0 l1 bt105.1 bt111.2 true)) else (law07_DigestEnds.j1 kj4 l0 l1 bt105.1 bt111.2 true)))) = some r := by rw [if_neg (show ¬ (false = true) by decide)] at H; exact H
     clear H
     have H := H1
     clear H1
     replace H := ob_ H
     obtain ⟨⟨t105, t108⟩, A210, H⟩ := H
     replace H : ((digest_Compare.f kj4 l0 ([] : List (S30))).bind fun bt111 => (if (t105.length : Int) = (l1.length : Int) then (if (t108.length : Int) = 0 then (if (bt111.1.length : Int) = 0 then (law07_DigestEnds.j1 kj4 l0 l1 t105 bt111.2 ((bt111.2.length : Int) != (l0.length : Int))) else (law07_DigestEnds.j1 kj4 l0 l1 t105 bt111.2 true)) else (law07_DigestEnds.j1 kj4 l0 l1 t105 bt111.2 true)) else (law07_DigestEnds.j1 kj4 l0 l1 t105 bt111.2 true))) = some r := H
     have A21 := Aside0.mk A210
     clear A210
     replace H := ob_ H
     obtain ⟨⟨t111, t114⟩, A220, H⟩ := H
     replace H : (if (t105.length : Int) = (l1.length : Int) then (if (t108.length : Int) = 0 then (if (t111.length : Int) = 0 then (law07_DigestEnds.j1 kj4 l0 l1 t105 t114 ((t114.length : Int) != (l0.length : Int))) else (law07_DigestEnds.j1 kj4 l0 l1 t105 t114 true)) else (law07_DigestEnds.j1 kj4 l0 l1 t105 t114 true)) else (law07_DigestEnds.j1 kj4 l0 l1 t105 t114 true)) = some r := H
     have A22 := Aside0.mk A220
     clear A220
     have HC23 := Aside0.mk H
     clear H
     go_upto_region 7 with (first | (go_at_call 10; (with_reducible show Calls _ _ #[.slice none 0 0, _] _ _); (refine (digest_Compare.calls kj4 _ _ ([] : List (S35)) (fun k_ => k_ < w.heap.size) _ _ l1 t105 t108 _ ?side1 ?side2 ?side3 A21.out).mono ?_); (case side1 => exact Kd.C_nil _ _); (case side2 => exact Nat.le_refl _); (case side3 => exact Kd.V_mk HC1.out (Kd.F_below (Kd.C_F k30_heap HR1.out) (by repeat (first | (with_reducible first | exact HB.out | apply qc_ | apply qa_ | apply qb_) | exact HB.out)))); rintro e w24 ⟨v106, v109, rfl, ho0, ho1, hb⟩; have n0_ := Aside0.mk (Kd.qt_ (Kd.R_mono (ok' := fun k_ => some k_ ≠ (v109 : Value).ownBlock) ho0 (fun _ hk_ => hk_.2)) (qg_ (by repeat (first | (with_reducible first | exact HB.out | apply qc_ | apply qa_ | apply qb_) | exact HB.out)))); have n1_ := Aside0.mk (Kd.qt_ (Kd.R_mono (ok' := fun k_ => some k_ ≠ (v106 : Value).ownBlock) ho1 (fun _ hk_ => hk_.2)) (qg_ (by repeat (first | (with_reducible first | exact HB.out | apply qc_ | apply qa_ | apply qb_) | exact HB.out)))); have n2_ := Aside0.mk (qi_ (by repeat (first | (with_reducible first | exact HB.out | apply qc_ | apply qa_ | apply qb_) | exact HB.out)) hb); clear HB; have HO107 := n0_; have HO110 := n1_; have HB := n2_; clear n0_ n1_ n2_; (try clear hb); (try clear hb2); (try clear hk); (try clear hi); (try clear ho0); (try clear ho1)) | (go_at_call 10; (with_reducible show Calls _ _ #[_, .slice none 0 0] _ _); (refine (digest_Compare.calls kj4 _ _ l0 (fun k_ => False) _ _ ([] : List (S30)) t111 t114 _ ?side1 ?side2 ?side3 A22.out).mono ?_); (case side1 => repeat (first | exact (Kd.qr_ HR0.out HB.out) | (with_reducible refine Kd.qp_ ?_ _) | (with_reducible refine Kd.qo_ ?_ _) | (with_reducible refine Kd.C_drew ?_))); (case side2 => exact HC0.out); (case side3 => exact Kd.V_nil _ _ _ _ _); rintro e w25 ⟨v112, v115, rfl, ho0, ho1, hb⟩; have n0_ := Aside0.mk (Kd.R_mono (Kd.R_told (Kd.R_told (Kd.R_old (by (with_reducible repeat (first | apply Kd.qe_ | apply Kd.qd_ | apply Kd.R_drew)); exact HO107.out) hb) (Kd.R_base ho0)) (Kd.R_base ho1)) (fun _ h_ => h_.1)); have n1_ := Aside0.mk (Kd.R_mono (Kd.R_told (Kd.R_told (Kd.R_old (by (with_reducible repeat (first | apply Kd.qe_ | apply Kd.qd_ | apply Kd.R_drew)); exact HO110.out) hb) (Kd.R_base ho0)) (Kd.R_base ho1)) (fun _ h_ => h_.1)); have n2_ := Aside0.mk (Kd.qt_ (Kd.R_new' (Kd.R_new' (Kd.R_mono (ok' := fun k_ => some k_ ≠ (v115 : Value).ownBlock) ho0 (fun _ hk_ => hk_.2)) (Kd.R_lt (by (with_reducible repeat (first | apply Kd.qe_ | apply Kd.qd_ | apply Kd.R_drew)); exact HO107.out))) (Kd.R_lt (by (with_reducible repeat (first | apply Kd.qe_ | apply Kd.qd_ | apply Kd.R_drew)); exact HO110.out))) (qg_ (by repeat (first | (with_reducible first | exact HB.out | apply qc_ | apply qa_ | apply qb_) | exact HB.out)))); have n3_ := Aside0.mk (Kd.qt_ (Kd.R_new' (Kd.R_new' (Kd.R_mono (ok' := fun k_ => some k_ ≠ (v112 : Value).ownBlock) ho1 (fun _ hk_ => hk_.2)) (Kd.R_lt (by (with_reducible repeat (first | apply Kd.qe_ | apply Kd.qd_ | apply Kd.R_drew)); exact HO107.out))) (Kd.R_lt (by (with_reducible repeat (first | apply Kd.qe_ | apply Kd.qd_ | apply Kd.R_drew)); exact HO110.out))) (qg_ (by repeat (first | (with_reducible first | exact HB.out | apply qc_ | apply qa_ | apply qb_) | exact HB.out)))); have n4_ := Aside0.mk (qi_ (by repeat (first | (with_reducible first | exact HB.out | apply qc_ | apply qa_ | apply qb_) | exact HB.out)) hb); clear HO107; clear HO110; clear HB; have HO107 := n0_; have HO110 := n1_; have HO113 := n2_; have HO116 := n3_; have HB := n4_; clear n0_ n1_ n2_ n3_ n4_; (try clear hb); (try clear hb2); (try clear hk); (try clear hi); (try clear ho0); (try clear ho1)))
     repeat (go_quiet (first | (go_at_call 10; (with_reducible show Calls _ _ #[.slice none 0 0, _] _ _); (refine (digest_Compare.calls kj4 _ _ ([] : List (S35)) (fun k_ => k_ < w.heap.size) _ _ l1 t105 t108 _ ?side1 ?side2 ?side3 A21.out).mono ?_); (case side1 => exact Kd.C_nil _ _); (case side2 => exact Nat.le_refl _); (case side3 => exact Kd.V_mk HC1.out (Kd.F_below (Kd.C_F k30_heap HR1.out) (by repeat (first | (with_reducible first | exact HB.out | apply qc_ | apply qa_ | apply qb_) | exact HB.out)))); rintro e w24 ⟨v106, v109, rfl, ho0, ho1, hb⟩; have n0_ := Aside0.mk (Kd.qt_ (Kd.R_mono (ok' := fun k_ => some k_ ≠ (v109 : Value).ownBlock) ho0 (fun _ hk_ => hk_.2)) (qg_ (by repeat (first | (with_reducible first | exact HB.out | apply qc_ | apply qa_ | apply qb_) | exact HB.out)))); have n1_ := Aside0.mk (Kd.qt_ (Kd.R_mono (ok' := fun k_ => some k_ ≠ (v106 : Value).ownBlock) ho1 (fun _ hk_ => hk_.2)) (qg_ (by repeat (first | (with_reducible first | exact HB.out | apply qc_ | apply qa_ | apply qb_) | exact HB.out)))); have n2_ := Aside0.mk (qi_ (by repeat (first | (with_reducible first | exact HB.out | apply qc_ | apply qa_ | apply qb_) | exact HB.out)) hb); clear HB; have HO107 := n0_; have HO110 := n1_; have HB := n2_; clear n0_ n1_ n2_; (try clear hb); (try clear hb2); (try clear hk); (try clear hi); (try clear ho0); (try clear ho1)) | (go_at_call 10; (with_reducible show Calls _ _ #[_, .slice none 0 0] _ _); (refine (digest_Compare.calls kj4 _ _ l0 (fun k_ => False) _ _ ([] : List (S30)) t111 t114 _ ?side1 ?side2 ?side3 A22.out).mono ?_); (case side1 => repeat (first | exact (Kd.qr_ HR0.out HB.out) | (with_reducible refine Kd.qp_ ?_ _) | (with_reducible refine Kd.qo_ ?_ _) | (with_reducible refine Kd.C_drew ?_))); (case side2 => exact HC0.out); (case side3 => exact Kd.V_nil _ _ _ _ _); rintro e w25 ⟨v112, v115, rfl, ho0, ho1, hb⟩; have n0_ := Aside0.mk (Kd.R_mono (Kd.R_told (Kd.R_told (Kd.R_old (by (with_reducible repeat (first | apply Kd.qe_ | apply Kd.qd_ | apply Kd.R_drew)); exact HO107.out) hb) (Kd.R_base ho0)) (Kd.R_base ho1)) (fun _ h_ => h_.1)); have n1_ := Aside0.mk (Kd.R_mono (Kd.R_told (Kd.R_told (Kd.R_old (by (with_reducible repeat (first | apply Kd.qe_ | apply Kd.qd_ | apply Kd.R_drew)); exact HO110.out) hb) (Kd.R_base ho0)) (Kd.R_base ho1)) (fun _ h_ => h_.1)); have n2_ := Aside0.mk (Kd.qt_ (Kd.R_new' (Kd.R_new' (Kd.R_mono (ok' := fun k_ => some k_ ≠ (v115 : Value).ownBlock) ho0 (fun _ hk_ => hk_.2)) (Kd.R_lt (by (with_reducible repeat (first | apply Kd.qe_ | apply Kd.qd_ | apply Kd.R_drew)); exact HO107.out))) (Kd.R_lt (by (with_reducible repeat (first | apply Kd.qe_ | apply Kd.qd_ | apply Kd.R_drew)); exact HO110.out))) (qg_ (by repeat (first | (with_reducible first | exact HB.out | apply qc_ | apply qa_ | apply qb_) | exact HB.out)))); have n3_ := Aside0.mk (Kd.qt_ (Kd.R_new' (Kd.R_new' (Kd.R_mono (ok' := fun k_ => some k_ ≠ (v112 : Value).ownBlock) ho1 (fun _ hk_ => hk_.2)) (Kd.R_lt (by (with_reducible repeat (first | apply Kd.qe_ | apply Kd.qd_ | apply Kd.R_drew)); exact HO107.out))) (Kd.R_lt (by (with_reducible repeat (first | apply Kd.qe_ | apply Kd.qd_ | apply Kd.R_drew)); exact HO110.out))) (qg_ (by repeat (first | (with_reducible first | exact HB.out | apply qc_ | apply qa_ | apply qb_) | exact HB.out)))); have n4_ := Aside0.mk (qi_ (by repeat (first | (with_reducible first | exact HB.out | apply qc_ | apply qa_ | apply qb_) | exact HB.out)) hb); clear HO107; clear HO110; clear HB; have HO107 := n0_; have HO110 := n1_; have HO113 := n2_; have HO116 := n3_; have HB := n4_; clear n0_ n1_ n2_ n3_ n4_; (try clear hb); (try clear hb2); (try clear hk); (try clear hi); (try clear ho0); (try clear ho1))); go_upto_region 7 with (first | (go_at_call 10; (with_reducible show Calls _ _ #[.slice none 0 0, _] _ _); (refine (digest_Compare.calls kj4 _ _ ([] : List (S35)) (fun k_ => k_ < w.heap.size) _ _ l1 t105 t108 _ ?side1 ?side2 ?side3 A21.out).mono ?_); (case side1 => exact Kd.C_nil _ _); (case side2 => exact Nat.le_refl _); (case side3 => exact Kd.V_mk HC1.out (Kd.F_below (Kd.C_F k30_heap HR1.out) (by repeat (first | (with_reducible first | exact HB.out | apply qc_ | apply qa_ | apply qb_) | exact HB.out)))); rintro e w24 ⟨v106, v109, rfl, ho0, ho1, hb⟩; have n0_ := Aside0.mk (Kd.qt_ (Kd.R_mono (ok' := fun k_ => some k_ ≠ (v109 : Value).ownBlock) ho0 (fun _ hk_ => hk_.2)) (qg_ (by repeat (first | (with_reducible first | exact HB.out | apply qc_ | apply qa_ | apply qb_) | exact HB.out)))); have n1_ := Aside0.mk (Kd.qt_ (Kd.R_mono (ok' := fun k_ => some k_ ≠ (v106 : Value).ownBlock) ho1 (fun _ hk_ => hk_.2)) (qg_ (by repeat (first | (with_reducible first | exact HB.out | apply qc_ | apply qa_ | apply qb_) | exact HB.out)))); have n2_ := Aside0.mk (qi_ (by repeat (first | (with_reducible first | exact HB.out | apply qc_ | apply qa_ | apply qb_) | exact HB.out)) hb); clear HB; have HO107 := n0_; have HO110 := n1_; have HB := n2_; clear n0_ n1_ n2_; (try clear hb); (try clear hb2); (try clear hk); (try clear hi); (try clear ho0); (try clear ho1)) | (go_at_call 10; (with_reducible show Calls _ _ #[_, .slice none 0 0] _ _); (refine (digest_Compare.calls kj4 _ _ l0 (fun k_ => False) _ _ ([] : List (S30)) t111 t114 _ ?side1 ?side2 ?side3 A22.out).mono ?_); (case side1 => repeat (first | exact (Kd.qr_ HR0.out HB.out) | (with_reducible refine Kd.qp_ ?_ _) | (with_reducible refine Kd.qo_ ?_ _) | (with_reducible refine Kd.C_drew ?_))); (case side2 => exact HC0.out); (case side3 => exact Kd.V_nil _ _ _ _ _); rintro e w25 ⟨v112, v115, rfl, ho0, ho1, hb⟩; have n0_ := Aside0.mk (Kd.R_mono (Kd.R_told (Kd.R_told (Kd.R_old (by (with_reducible repeat (first | apply Kd.qe_ | apply Kd.qd_ | apply Kd.R_drew)); exact HO107.out) hb) (Kd.R_base ho0)) (Kd.R_base ho1)) (fun _ h_ => h_.1)); have n1_ := Aside0.mk (Kd.R_mono (Kd.R_told (Kd.R_told (Kd.R_old (by (with_reducible repeat (first | apply Kd.qe_ | apply Kd.qd_ | apply Kd.R_drew)); exact HO110.out) hb) (Kd.R_base ho0)) (Kd.R_base ho1)) (fun _ h_ => h_.1)); have n2_ := Aside0.mk (Kd.qt_ (Kd.R_new' (Kd.R_new' (Kd.R_mono (ok' := fun k_ => some k_ ≠ (v115 : Value).ownBlock) ho0 (fun _ hk_ => hk_.2)) (Kd.R_lt (by (with_reducible repeat (first | apply Kd.qe_ | apply Kd.qd_ | apply Kd.R_drew)); exact HO107.out))) (Kd.R_lt (by (with_reducible repeat (first | apply Kd.qe_ | apply Kd.qd_ | apply Kd.R_drew)); exact HO110.out))) (qg_ (by repeat (first | (with_reducible first | exact HB.out | apply qc_ | apply qa_ | apply qb_) | exact HB.out)))); have n3_ := Aside0.mk (Kd.qt_ (Kd.R_new' (Kd.R_new' (Kd.R_mono (ok' := fun k_ => some k_ ≠ (v112 : Value).ownBlock) ho1 (fun _ hk_ => hk_.2)) (Kd.R_lt (by (with_reducible repeat (first | apply Kd.qe_ | apply Kd.qd_ | apply Kd.R_drew)); exact HO107.out))) (Kd.R_lt (by (with_reducible repeat (first | apply Kd.qe_ | apply Kd.qd_ | apply Kd.R_drew)); exact HO110.out))) (qg_ (by repeat (first | (with_reducible first | exact HB.out | apply qc_ | apply qa_ | apply qb_) | exact HB.out)))); have n4_ := Aside0.mk (qi_ (by repeat (first | (with_reducible first | exact HB.out | apply qc_ | apply qa_ | apply qb_) | exact HB.out)) hb); clear HO107; clear HO110; clear HB; have HO107 := n0_; have HO110 := n1_; have HO113 := n2_; have HO116 := n3_; have HB := n4_; clear n0_ n1_ n2_ n3_ n4_; (try clear hb); (try clear hb2); (try clear hk); (try clear hi); (try clear ho0); (try clear ho1))))
     (try simp only [Act.put, sa_, sb_, sc_])
     go_cut [61] (fun v61 wc => ∃ (kq : Nat) (x61_22 : Bool), v61 = .bool x61_22 ∧ Aside0 (law07_DigestEnds.j1 kq l0 l1 t105 t114 x61_22 = some r) ∧ Aside0 (kq ≤ kj4) ∧ Aside0 (Kd.R k30 30 wc w.heap.size (fun k_ => some k_ ≠ (v115 : Value).ownBlock) v106 t105) ∧ Aside0 (Kd.R k30 30 wc w.heap.size (fun k_ => some k_ ≠ (v106 : Value).ownBlock) v115 t114) ∧ Aside0 (Below w.heap.size w wc))
     case first =>
      have H := HC23.out
      clear HC23
      by_cases c26 : (t105.length : Int) = (l1.length : Int)
      ·rw [if_pos c26] at H
       have c26b0 : ((t105.length : Int) == (l1.length : Int)) = true := beq_iff_eq.mpr c26
       have c26b1 : ((t105.length : Int) != (l1.length : Int)) = false := bne_eq_false_iff_eq.mpr c26
       have c26b2 : (t105.length == l1.length) = true := by first | simpa using c26 | (simp at c26 ⊢; omega)
       clear c26
       (first | rw [c26b0] | (simp only [i64_w, i32_w]; rw [c26b0]) | skip)
       by_cases c27 : (t108.length : Int) = 0
       ·rw [if_pos c27] at H
        have c27b0 : ((t108.length : Int) == 0) = true := beq_iff_eq.mpr c27
        have c27b1 : ((t108.length : Int) != 0) = false := bne_eq_false_iff_eq.mpr c27
        clear c27
        by_cases c28 : (t111.length : Int) = 0
        ·rw [if_pos c28] at H
         have c28b0 : ((t111.length : Int) == 0) = true := beq_iff_eq.mpr c28
         have c28b1 : ((t111.length : Int) != 0) = false := bne_eq_false_iff_eq.mpr c28
         clear c28
         have H' := Aside0.mk H
         clear H
         obtain ⟨Ao29, co29, eo29⟩ := Kd.qu_ HO107.out
         subst eo29
         obtain ⟨Ao30, co30, eo30⟩ := Kd.qu_ HO110.out
         subst eo30
         obtain ⟨Ao31, co31, eo31⟩ := Kd.qu_ HO113.out
         subst eo31
         obtain ⟨Ao32, co32, eo32⟩ := Kd.qu_ HO116.out
         subst eo32
         go_wp2
         repeat (go_quiet (fail); try go_wp2)
         go_meet
         case rel => exact ⟨_, (((t114.length : Int) != (l0.length : Int))), (by first | rfl | (simp; done) | (simp [*]; done)), H', ⟨by have := HJ4.out; first | omega | exact Nat.le_refl _⟩, ⟨by (with_reducible repeat (first | apply Kd.qe_ | apply Kd.qd_ | apply Kd.R_drew)); exact Kd.R_mono HO107.out (fun _ hk => hk.2)⟩, ⟨by (with_reducible repeat (first | apply Kd.qe_ | apply Kd.qd_ | apply Kd.R_drew)); exact Kd.R_mono HO116.out (fun _ hk => hk.1.2)⟩, ⟨by repeat (first | (with_reducible first | exact HB.out | apply qc_ | apply qa_ | apply qb_) | exact HB.out)⟩⟩
        ·rw [if_neg c28] at H
         have c28b0 : ((t111.length : Int) == 0) = false := beq_eq_false_iff_ne.mpr c28
         have c28b1 : ((t111.length : Int) != 0) = true := bne_iff_ne.mpr c28
         have c28b2 : ¬ (t111 = []) := fun h_ => c28 (by rw [h_]; rfl)
         have H' := Aside0.mk H
         clear H
         obtain ⟨Ao33, co33, eo33⟩ := Kd.qu_ HO107.out
         subst eo33
         obtain ⟨Ao34, co34, eo34⟩ := Kd.qu_ HO110.out
         subst eo34
         obtain ⟨Ao35, co35, eo35⟩ := Kd.qu_ HO113.out
         subst eo35
         go_wp2
         repeat (go_quiet (fail); try go_wp2)
         go_meet
         case rel => exact ⟨_, (true), (by first | rfl | (simp; done) | (simp [*]; done)), H', ⟨by have := HJ4.out; first | omega | exact Nat.le_refl _⟩, ⟨by (with_reducible repeat (first | apply Kd.qe_ | apply Kd.qd_ | apply Kd.R_drew)); exact Kd.R_mono HO107.out (fun _ hk => hk.2)⟩, ⟨by (with_reducible repeat (first | apply Kd.qe_ | apply Kd.qd_ | apply Kd.R_drew)); exact Kd.R_mono HO116.out (fun _ hk => hk.1.2)⟩, ⟨by repeat (first | (with_reducible first | exact HB.out | apply qc_ | apply qa_ | apply qb_) | exact HB.out)⟩⟩
       ·rw [if_neg c27] at H
        have c27b0 : ((t108.length : Int) == 0) = false := beq_eq_false_iff_ne.mpr c27
        have c27b1 : ((t108.length : Int) != 0) = true := bne_iff_ne.mpr c27
        have c27b2 : ¬ (t108 = []) := fun h_ => c27 (by rw [h_]; rfl)
        have H' := Aside0.mk H
        clear H
        obtain ⟨Ao36, co36, eo36⟩ := Kd.qu_ HO107.out
        subst eo36
        obtain ⟨Ao37, co37, eo37⟩ := Kd.qu_ HO110.out
        subst eo37
        go_wp2
        repeat (go_quiet (fail); try go_wp2)
        go_meet
        case rel => exact ⟨_, (true), (by first | rfl | (simp; done) | (simp [*]; done)), H', ⟨by have := HJ4.out; first | omega | exact Nat.le_refl _⟩, ⟨by (with_reducible repeat (first | apply Kd.qe_ | apply Kd.qd_ | apply Kd.R_drew)); exact Kd.R_mono HO107.out (fun _ hk => hk.2)⟩, ⟨by (with_reducible repeat (first | apply Kd.qe_ | apply Kd.qd_ | apply Kd.R_drew)); exact Kd.R_mono HO116.out (fun _ hk => hk.1.2)⟩, ⟨by repeat (first | (with_reducible first | exact HB.out | apply qc_ | apply qa_ | apply qb_) | exact HB.out)⟩⟩
      ·rw [if_neg c26] at H
       have c26b0 : ((t105.length : Int) == (l1.length : Int)) = false := beq_eq_false_iff_ne.mpr c26
       have c26b1 : ((t105.length : Int) != (l1.length : Int)) = true := bne_iff_ne.mpr c26
       have c26b2 : (t105.length == l1.length) = false := by first | simpa using c26 | (simp at c26 ⊢; omega)
       (first | rw [c26b0] | (simp only [i64_w, i32_w]; rw [c26b0]) | skip)
       have H' := Aside0.mk H
       clear H
       obtain ⟨Ao38, co38, eo38⟩ := Kd.qu_ HO107.out
       subst eo38
       go_wp2
       repeat (go_quiet (fail); try go_wp2)
       go_meet
       case rel => exact ⟨_, (true), (by first | rfl | (simp; done) | (simp [*]; done)), H', ⟨by have := HJ4.out; first | omega | exact Nat.le_refl _⟩, ⟨by (with_reducible repeat (first | apply Kd.qe_ | apply Kd.qd_ | apply Kd.R_drew)); exact Kd.R_mono HO107.out (fun _ hk => hk.2)⟩, ⟨by (with_reducible repeat (first | apply Kd.qe_ | apply Kd.qd_ | apply Kd.R_drew)); exact Kd.R_mono HO116.out (fun _ hk => hk.1.2)⟩, ⟨by repeat (first | (with_reducible first | exact HB.out | apply qc_ | apply qa_ | apply qb_) | exact HB.out)⟩⟩
     case rest =>
      clear HC23
      try clear c1
      try clear c2
      try clear p2
      try clear c3
      try clear c4
      try clear c8
      try clear c10
      try clear c10b0
      try clear c10b1
      try clear c13
      try clear c20
      try clear c26
      try clear c26b0
      try clear c26b1
      try clear c26b2
      try clear c27
      try clear c27b0
      try clear c27b1
      try clear c27b2
      try clear c28
      try clear c28b0
      try clear c28b1
      try clear c28b2
      try clear p2
      obtain ⟨kq, x61_22, rfl, HA, HJ22, HO_5, HO_8, HB⟩ := hcut
      cases kq with
      | zero => exact absurd HA.out (by simp [law07_DigestEnds.j1])
      | succ kj22 =>
       have H := HA.out
       clear HA
       simp only [law07_DigestEnds.j1] at H
       by_cases c39 : x61_22 = true
       ·subst c39
        have H1 : (some false) = some r := by rw [if_pos rfl] at H; exact H
        clear H
        have H := H1
        clear H1
        obtain rfl := Option.some.inj H
        go_wp2
        repeat (go_quiet (fail); try go_wp2)
        go_ret
        exact ⟨by first | rfl | (simp [errW_none, errW_some] <;> rfl) | (simp [*, errW_none, errW_some] <;> rfl), by repeat (first | (with_reducible first | exact HB.out | apply qc_ | apply qa_ | apply qb_) | exact HB.out)⟩
       ·replace c39 := Bool.eq_false_iff.mpr c39
        subst c39
        have H1 : (law07_DigestEnds.l0 kj22 l0 l1 t105 t114 0) = some r := by rw [if_neg (show ¬ (false = true) by decide)] at H; exact H
        clear H
        have H := H1
        clear H1
        have H' := Aside0.mk H
        clear H
        go_wp2
        repeat (go_quiet (fail); try go_wp2)
        go_loopg [9] kj22 (fun kq v9 w' => ∃ (x9_3 : Int), v9 = .int .i64 x9_3 ∧ Aside0 (law07_DigestEnds.l0 kq l0 l1 t105 t114 x9_3 = some r) ∧ Aside0 (kq ≤ kj22) ∧ Aside0 (Kd.R k30 30 w' w.heap.size (fun k_ => some k_ ≠ (v115 : Value).ownBlock) v106 t105) ∧ Aside0 (Kd.R k30 30 w' w.heap.size (fun k_ => some k_ ≠ (v106 : Value).ownBlock) v115 t114) ∧ Aside0 (Below w.heap.size w w'))
        case atStart => exact ⟨(0), (by first | rfl | (simp; done) | (simp [*]; done)), H', ⟨Nat.le_refl _⟩, ⟨by (with_reducible repeat (first | apply Kd.qe_ | apply Kd.qd_ | apply Kd.R_drew)); exact HO_5.out⟩, ⟨by (with_reducible repeat (first | apply Kd.qe_ | apply Kd.qd_ | apply Kd.R_drew)); exact HO_8.out⟩, ⟨by repeat (first | (with_reducible first | exact HB.out | apply qc_ | apply qa_ | apply qb_) | exact HB.out)⟩⟩
        case round =>
         clear H'
         try clear c1
         try clear c2
         try clear p2
         try clear c3
         try clear c4
         try clear c8
         try clear c10
         try clear c10b0
         try clear c10b1
         try clear c13
         try clear c20
         try clear c26
         try clear c26b0
         try clear c26b1
         try clear c26b2
         try clear c27
         try clear c27b0
         try clear c27b1
         try clear c27b2
         try clear c28
         try clear c28b0
         try clear c28b1
         try clear c28b2
         try clear c39
         try clear p2
         obtain ⟨x9_3, rfl, HA, HK3, HO_5, HO_8, HB⟩ := hrel
         cases gk with
         | zero => exact absurd HA.out (by simp [law07_DigestEnds.l0])
         | succ k3 =>
          have H := HA.out
          clear HA
          simp only [law07_DigestEnds.l0] at H
          by_cases c40 : x9_3 < (l1.length : Int)
          ·rw [if_pos c40] at H
           have c40b0 : decide (x9_3 < (l1.length : Int)) = true := decide_eq_true c40
           clear c40
           by_cases c41 : 0 ≤ x9_3
           ·rw [if_pos c41] at H
            have c41b0 : decide (0 ≤ x9_3) = true := decide_eq_true c41
            clear c41
            by_cases c42 : x9_3 < (t105.length : Int)
            ·rw [if_pos c42] at H
             have c42b0 : decide (x9_3 < (t105.length : Int)) = true := decide_eq_true c42
             clear c42
             by_cases c43 : ((rd_T30 t105 x9_3).f0) = ((rd_T30 l1 x9_3).f0)
             ·rw [if_pos c43] at H
              have c43b0 : (((rd_T30 t105 x9_3).f0) == ((rd_T30 l1 x9_3).f0)) = true := beq_iff_eq.mpr c43
              have c43b1 : (((rd_T30 t105 x9_3).f0) != ((rd_T30 l1 x9_3).f0)) = false := bne_eq_false_iff_eq.mpr c43
              clear c43
              by_cases c44 : ((rd_T30 t105 x9_3).f1) = ((rd_T30 l1 x9_3).f1)
              ·rw [if_pos c44] at H
               have c44b0 : (((rd_T30 t105 x9_3).f1) == ((rd_T30 l1 x9_3).f1)) = true := beq_iff_eq.mpr c44
               have c44b1 : (((rd_T30 t105 x9_3).f1) != ((rd_T30 l1 x9_3).f1)) = false := bne_eq_false_iff_eq.mpr c44
               clear c44
               by_cases c45 : ((rd_T30 t105 x9_3).f2) = 0
               ·rw [if_pos c45] at H
                have c45b0 : (((rd_T30 t105 x9_3).f2) == 0) = true := beq_iff_eq.mpr c45
                have c45b1 : (((rd_T30 t105 x9_3).f2) != 0) = false := bne_eq_false_iff_eq.mpr c45
                clear c45
                have H' := Aside0.mk H
                clear H
                obtain ⟨Ao46, co46, eo46⟩ := Kd.qu_ HO_5.out
                subst eo46
                have p117 : 0 ≤ (x9_3 : Int) := of_decide_eq_true (by first | (with_reducible assumption) | assumption)
                have q117 : x9_3 < (t105.length : Int) := of_decide_eq_true (by first | (with_reducible assumption) | assumption)
                obtain ⟨ad117, e117, hx117_0, hx117_1, hx117_2⟩ := at_T30 (Kd.R_reads' HO_5.out).2.2 x9_3 p117 q117
                cases e117
                replace p117 := eq_true p117
                replace q117 := eq_true q117
                have p118 : 0 ≤ (x9_3 : Int) := of_decide_eq_true (by first | (with_reducible assumption) | assumption)
                have q118 : x9_3 < (l1.length : Int) := of_decide_eq_true (by first | (with_reducible assumption) | assumption)
                obtain ⟨ad118, e118, hx118_0, hx118_1, hx118_2⟩ := at_T30 HR1.out x9_3 p118 q118
                cases e118
                replace hx118_0 := (HB.out.cell (wb_ w _ hx118_0)).trans hx118_0
                replace hx118_1 := (HB.out.cell (wb_ w _ hx118_1)).trans hx118_1
                replace hx118_2 := (HB.out.cell (wb_ w _ hx118_2)).trans hx118_2
                replace p118 := eq_true p118
                replace q118 := eq_true q118
                have p119 : 0 ≤ (x9_3 : Int) := of_decide_eq_true (by first | (with_reducible assumption) | assumption)
                have q119 : x9_3 < (t105.length : Int) := of_decide_eq_true (by first | (with_reducible assumption) | assumption)
                obtain ⟨ad119, e119, hx119_0, hx119_1, hx119_2⟩ := at_T30 (Kd.R_reads' HO_5.out).2.2 x9_3 p119 q119
                obtain rfl : ad117 = ad119 := (by injection e119)
                replace p119 := eq_true p119
                replace q119 := eq_true q119
                have p120 : 0 ≤ (x9_3 : Int) := of_decide_eq_true (by first | (with_reducible assumption) | assumption)
                have q120 : x9_3 < (l1.length : Int) := of_decide_eq_true (by first | (with_reducible assumption) | assumption)
                obtain ⟨ad120, e120, hx120_0, hx120_1, hx120_2⟩ := at_T30 HR1.out x9_3 p120 q120
                obtain rfl : ad118 = ad120 := (by injection e120)
                replace hx120_0 := (HB.out.cell (wb_ w _ hx120_0)).trans hx120_0
                replace hx120_1 := (HB.out.cell (wb_ w _ hx120_1)).trans hx120_1
                replace hx120_2 := (HB.out.cell (wb_ w _ hx120_2)).trans hx120_2
                replace p120 := eq_true p120
                replace q120 := eq_true q120
                have p121 : 0 ≤ (x9_3 : Int) := of_decide_eq_true (by first | (with_reducible assumption) | assumption)
                have q121 : x9_3 < (t105.length : Int) := of_decide_eq_true (by first | (with_reducible assumption) | assumption)
                obtain ⟨ad121, e121, hx121_0, hx121_1, hx121_2⟩ := at_T30 (Kd.R_reads' HO_5.out).2.2 x9_3 p121 q121
                obtain rfl : ad117 = ad121 := (by injection e121)
                replace p121 := eq_true p121
                replace q121 := eq_true q121
                go_wp2
                repeat (go_quiet (fail); try go_wp2)
                go_roundg k3
                case measure => have := HJ4.out; have := HJ22.out; have := HK3.out; omega
                case rel => exact ⟨(wrap64 (x9_3 + 1)), (by first | rfl | (simp; done) | (simp [*]; done)), H', ⟨by have := HJ4.out; have := HJ22.out; have := HK3.out; omega⟩, ⟨by (with_reducible repeat (first | apply Kd.qe_ | apply Kd.qd_ | apply Kd.R_drew)); exact HO_5.out⟩, ⟨by (with_reducible repeat (first | apply Kd.qe_ | apply Kd.qd_ | apply Kd.R_drew)); exact HO_8.out⟩, ⟨by repeat (first | (with_reducible first | exact HB.out | apply qc_ | apply qa_ | apply qb_) | exact HB.out)⟩⟩
               ·rw [if_neg c45] at H
                have c45b0 : (((rd_T30 t105 x9_3).f2) == 0) = false := beq_eq_false_iff_ne.mpr c45
                have c45b1 : (((rd_T30 t105 x9_3).f2) != 0) = true := bne_iff_ne.mpr c45
                obtain rfl := Option.some.inj H
                obtain ⟨Ao47, co47, eo47⟩ := Kd.qu_ HO_5.out
                subst eo47
                have p117 : 0 ≤ (x9_3 : Int) := of_decide_eq_true (by first | (with_reducible assumption) | assumption)
                have q117 : x9_3 < (t105.length : Int) := of_decide_eq_true (by first | (with_reducible assumption) | assumption)
                obtain ⟨ad117, e117, hx117_0, hx117_1, hx117_2⟩ := at_T30 (Kd.R_reads' HO_5.out).2.2 x9_3 p117 q117
                cases e117
                replace p117 := eq_true p117
                replace q117 := eq_true q117
                have p118 : 0 ≤ (x9_3 : Int) := of_decide_eq_true (by first | (with_reducible assumption) | assumption)
                have q118 : x9_3 < (l1.length : Int) := of_decide_eq_true (by first | (with_reducible assumption) | assumption)
                obtain ⟨ad118, e118, hx118_0, hx118_1, hx118_2⟩ := at_T30 HR1.out x9_3 p118 q118
                cases e118
                replace hx118_0 := (HB.out.cell (wb_ w _ hx118_0)).trans hx118_0
                replace hx118_1 := (HB.out.cell (wb_ w _ hx118_1)).trans hx118_1
                replace hx118_2 := (HB.out.cell (wb_ w _ hx118_2)).trans hx118_2
                replace p118 := eq_true p118
                replace q118 := eq_true q118
                have p119 : 0 ≤ (x9_3 : Int) := of_decide_eq_true (by first | (with_reducible assumption) | assumption)
                have q119 : x9_3 < (t105.length : Int) := of_decide_eq_true (by first | (with_reducible assumption) | assumption)
                obtain ⟨ad119, e119, hx119_0, hx119_1, hx119_2⟩ := at_T30 (Kd.R_reads' HO_5.out).2.2 x9_3 p119 q119
                obtain rfl : ad117 = ad119 := (by injection e119)
                replace p119 := eq_true p119
                replace q119 := eq_true q119
                have p120 : 0 ≤ (x9_3 : Int) := of_decide_eq_true (by first | (with_reducible assumption) | assumption)
                have q120 : x9_3 < (l1.length : Int) := of_decide_eq_true (by first | (with_reducible assumption) | assumption)
                obtain ⟨ad120, e120, hx120_0, hx120_1, hx120_2⟩ := at_T30 HR1.out x9_3 p120 q120
                obtain rfl : ad118 = ad120 := (by injection e120)
                replace hx120_0 := (HB.out.cell (wb_ w _ hx120_0)).trans hx120_0
                replace hx120_1 := (HB.out.cell (wb_ w _ hx120_1)).trans hx120_1
                replace hx120_2 := (HB.out.cell (wb_ w _ hx120_2)).trans hx120_2
                replace p120 := eq_true p120
                replace q120 := eq_true q120
                have p121 : 0 ≤ (x9_3 : Int) := of_decide_eq_true (by first | (with_reducible assumption) | assumption)
                have q121 : x9_3 < (t105.length : Int) := of_decide_eq_true (by first | (with_reducible assumption) | assumption)
                obtain ⟨ad121, e121, hx121_0, hx121_1, hx121_2⟩ := at_T30 (Kd.R_reads' HO_5.out).2.2 x9_3 p121 q121
                obtain rfl : ad117 = ad121 := (by injection e121)
                replace p121 := eq_true p121
                replace q121 := eq_true q121
                go_wp2
                repeat (go_quiet (fail); try go_wp2)
                go_ret
                exact ⟨by first | rfl | (simp [errW_none, errW_some] <;> rfl) | (simp [*, errW_none, errW_some] <;> rfl), by repeat (first | (with_reducible first | exact HB.out | apply qc_ | apply qa_ | apply qb_) | exact HB.out)⟩
              ·rw [if_neg c44] at H
               have c44b0 : (((rd_T30 t105 x9_3).f1) == ((rd_T30 l1 x9_3).f1)) = false := beq_eq_false_iff_ne.mpr c44
               have c44b1 : (((rd_T30 t105 x9_3).f1) != ((rd_T30 l1 x9_3).f1)) = true := bne_iff_ne.mpr c44
               obtain rfl := Option.some.inj H
               obtain ⟨Ao48, co48, eo48⟩ := Kd.qu_ HO_5.out
               subst eo48
               have p117 : 0 ≤ (x9_3 : Int) := of_decide_eq_true (by first | (with_reducible assumption) | assumption)
               have q117 : x9_3 < (t105.length : Int) := of_decide_eq_true (by first | (with_reducible assumption) | assumption)
               obtain ⟨ad117, e117, hx117_0, hx117_1, hx117_2⟩ := at_T30 (Kd.R_reads' HO_5.out).2.2 x9_3 p117 q117
               cases e117
               replace p117 := eq_true p117
               replace q117 := eq_true q117
               have p118 : 0 ≤ (x9_3 : Int) := of_decide_eq_true (by first | (with_reducible assumption) | assumption)
               have q118 : x9_3 < (l1.length : Int) := of_decide_eq_true (by first | (with_reducible assumption) | assumption)
               obtain ⟨ad118, e118, hx118_0, hx118_1, hx118_2⟩ := at_T30 HR1.out x9_3 p118 q118
               cases e118
               replace hx118_0 := (HB.out.cell (wb_ w _ hx118_0)).trans hx118_0
               replace hx118_1 := (HB.out.cell (wb_ w _ hx118_1)).trans hx118_1
               replace hx118_2 := (HB.out.cell (wb_ w _ hx118_2)).trans hx118_2
               replace p118 := eq_true p118
               replace q118 := eq_true q118
               have p119 : 0 ≤ (x9_3 : Int) := of_decide_eq_true (by first | (with_reducible assumption) | assumption)
               have q119 : x9_3 < (t105.length : Int) := of_decide_eq_true (by first | (with_reducible assumption) | assumption)
               obtain ⟨ad119, e119, hx119_0, hx119_1, hx119_2⟩ := at_T30 (Kd.R_reads' HO_5.out).2.2 x9_3 p119 q119
               obtain rfl : ad117 = ad119 := (by injection e119)
               replace p119 := eq_true p119
               replace q119 := eq_true q119
               have p120 : 0 ≤ (x9_3 : Int) := of_decide_eq_true (by first | (with_reducible assumption) | assumption)
               have q120 : x9_3 < (l1.length : Int) := of_decide_eq_true (by first | (with_reducible assumption) | assumption)
               obtain ⟨ad120, e120, hx120_0, hx120_1, hx120_2⟩ := at_T30 HR1.out x9_3 p120 q120
               obtain rfl : ad118 = ad120 := (by injection e120)
               replace hx120_0 := (HB.out.cell (wb_ w _ hx120_0)).trans hx120_0
               replace hx120_1 := (HB.out.cell (wb_ w _ hx120_1)).trans hx120_1
               replace hx120_2 := (HB.out.cell (wb_ w _ hx120_2)).trans hx120_2
               replace p120 := eq_true p120
               replace q120 := eq_true q120
               go_wp2
               repeat (go_quiet (fail); try go_wp2)
               go_ret
               exact ⟨by first | rfl | (simp [errW_none, errW_some] <;> rfl) | (simp [*, errW_none, errW_some] <;> rfl), by repeat (first | (with_reducible first | exact HB.out | apply qc_ | apply qa_ | apply qb_) | exact HB.out)⟩
             ·rw [if_neg c43] at H
              have c43b0 : (((rd_T30 t105 x9_3).f0) == ((rd_T30 l1 x9_3).f0)) = false := beq_eq_false_iff_ne.mpr c43
              have c43b1 : (((rd_T30 t105 x9_3).f0) != ((rd_T30 l1 x9_3).f0)) = true := bne_iff_ne.mpr c43
              obtain rfl := Option.some.inj H
              obtain ⟨Ao49, co49, eo49⟩ := Kd.qu_ HO_5.out
              subst eo49
              have p117 : 0 ≤ (x9_3 : Int) := of_decide_eq_true (by first | (with_reducible assumption) | assumption)
              have q117 : x9_3 < (t105.length : Int) := of_decide_eq_true (by first | (with_reducible assumption) | assumption)
              obtain ⟨ad117, e117, hx117_0, hx117_1, hx117_2⟩ := at_T30 (Kd.R_reads' HO_5.out).2.2 x9_3 p117 q117
              cases e117
              replace p117 := eq_true p117
              replace q117 := eq_true q117
              have p118 : 0 ≤ (x9_3 : Int) := of_decide_eq_true (by first | (with_reducible assumption) | assumption)
              have q118 : x9_3 < (l1.length : Int) := of_decide_eq_true (by first | (with_reducible assumption) | assumption)
              obtain ⟨ad118, e118, hx118_0, hx118_1, hx118_2⟩ := at_T30 HR1.out x9_3 p118 q118
              cases e118
              replace hx118_0 := (HB.out.cell (wb_ w _ hx118_0)).trans hx118_0
              replace hx118_1 := (HB.out.cell (wb_ w _ hx118_1)).trans hx118_1
              replace hx118_2 := (HB.out.cell (wb_ w _ hx118_2)).trans hx118_2
              replace p118 := eq_true p118
              replace q118 := eq_true q118
              go_wp2
              repeat (go_quiet (fail); try go_wp2)
              go_ret
              exact ⟨by first | rfl | (simp [errW_none, errW_some] <;> rfl) | (simp [*, errW_none, errW_some] <;> rfl), by repeat (first | (with_reducible first | exact HB.out | apply qc_ | apply qa_ | apply qb_) | exact HB.out)⟩
            ·rw [if_neg c42] at H
             exact absurd H (by simp)
           ·rw [if_neg c41] at H
            exact absurd H (by simp)
          ·rw [if_neg c40] at H
           have c40b0 : decide (x9_3 < (l1.length : Int)) = false := decide_eq_false c40
           clear c40
           have H' := Aside0.mk H
           clear H
           go_wp2
           repeat (go_quiet (fail); try go_wp2)
           go_loopg [10] k3 (fun kq v10 w' => ∃ (x10_4 : Int), v10 = .int .i64 x10_4 ∧ Aside0 (law07_DigestEnds.l1 kq l0 t114 x10_4 = some r) ∧ Aside0 (kq ≤ k3) ∧ Aside0 (Kd.R k30 30 w' w.heap.size (fun _ => True) v115 t114) ∧ Aside0 (Below w.heap.size w w'))
           case atStart => exact ⟨(0), (by first | rfl | (simp; done) | (simp [*]; done)), H', ⟨Nat.le_refl _⟩, ⟨by (with_reducible repeat (first | apply Kd.qe_ | apply Kd.qd_ | apply Kd.R_drew)); exact Kd.R_mono HO_8.out (fun _ hk => trivial)⟩, ⟨by repeat (first | (with_reducible first | exact HB.out | apply qc_ | apply qa_ | apply qb_) | exact HB.out)⟩⟩
           case round =>
            clear H'
            try clear c1
            try clear p1
            try clear q1
            try clear hx1
            try clear c2
            try clear p2
            try clear c3
            try clear c4
            try clear p6
            try clear c8
            try clear c10
            try clear c10b0
            try clear c10b1
            try clear p11
            try clear q11
            try clear hx11
            try clear p12
            try clear q12
            try clear hx12
            try clear c13
            try clear c20
            try clear c26
            try clear c26b0
            try clear c26b1
            try clear c26b2
            try clear c27
            try clear c27b0
            try clear c27b1
            try clear c27b2
            try clear c28
            try clear c28b0
            try clear c28b1
            try clear c28b2
            try clear c39
            try clear c40
            try clear c40b0
            try clear c41
            try clear c41b0
            try clear c42
            try clear c42b0
            try clear c43
            try clear c43b0
            try clear c43b1
            try clear c44
            try clear c44b0
            try clear c44b1
            try clear c45
            try clear c45b0
            try clear c45b1
            try clear hx117_0
            try clear hx117_1
            try clear hx117_2
            try clear hx118_0
            try clear hx118_1
            try clear hx118_2
            try clear hx119_0
            try clear hx119_1
            try clear hx119_2
            try clear hx120_0
            try clear hx120_1
            try clear hx120_2
            try clear hx121_0
            try clear hx121_1
            try clear hx121_2
            try clear p117
            try clear p118
            try clear p119
            try clear p120
            try clear p121
            try clear p2
            try clear q117
            try clear q118
            try clear q119
            try clear q120
            try clear q121
            obtain ⟨x10_4, rfl, HA, HK4, HO_8, HB⟩ := hrel
            cases gk with
            | zero => exact absurd HA.out (by simp [law07_DigestEnds.l1])
            | succ k4 =>
             have H := HA.out
             clear HA
             simp only [law07_DigestEnds.l1] at H
             by_cases c50 : x10_4 < (l0.length : Int)
             ·rw [if_pos c50] at H
              have c50b0 : decide (x10_4 < (l0.length : Int)) = true := decide_eq_true c50
              clear c50
              by_cases c51 : 0 ≤ x10_4
              ·rw [if_pos c51] at H
               have c51b0 : decide (0 ≤ x10_4) = true := decide_eq_true c51
               clear c51
               by_cases c52 : x10_4 < (t114.length : Int)
               ·rw [if_pos c52] at H
                have c52b0 : decide (x10_4 < (t114.length : Int)) = true := decide_eq_true c52
                clear c52
                by_cases c53 : ((rd_T30 t114 x10_4).f0) = ((rd_T35 l0 x10_4).f0)
                ·rw [if_pos c53] at H
                 have c53b0 : (((rd_T30 t114 x10_4).f0) == ((rd_T35 l0 x10_4).f0)) = true := beq_iff_eq.mpr c53
                 have c53b1 : (((rd_T30 t114 x10_4).f0) != ((rd_T35 l0 x10_4).f0)) = false := bne_eq_false_iff_eq.mpr c53
                 clear c53
                 by_cases c54 : ((rd_T30 t114 x10_4).f1) = ((rd_T35 l0 x10_4).f1.f0)
                 ·rw [if_pos c54] at H
                  have c54b0 : (((rd_T30 t114 x10_4).f1) == ((rd_T35 l0 x10_4).f1.f0)) = true := beq_iff_eq.mpr c54
                  have c54b1 : (((rd_T30 t114 x10_4).f1) != ((rd_T35 l0 x10_4).f1.f0)) = false := bne_eq_false_iff_eq.mpr c54
                  clear c54
                  by_cases c55 : ((rd_T30 t114 x10_4).f2) = 0
                  ·rw [if_pos c55] at H
                   have c55b0 : (((rd_T30 t114 x10_4).f2) == 0) = true := beq_iff_eq.mpr c55
                   have c55b1 : (((rd_T30 t114 x10_4).f2) != 0) = false := bne_eq_false_iff_eq.mpr c55
                   clear c55
                   have H' := Aside0.mk H
                   clear H
                   obtain ⟨Ao56, co56, eo56⟩ := Kd.qu_ HO_8.out
                   subst eo56
                   have p122 : 0 ≤ (x10_4 : Int) := of_decide_eq_true (by first | (with_reducible assumption) | assumption)
                   have q122 : x10_4 < (t114.length : Int) := of_decide_eq_true (by first | (with_reducible assumption) | assumption)
                   obtain ⟨ad122, e122, hx122_0, hx122_1, hx122_2⟩ := at_T30 (Kd.R_reads' HO_8.out).2.2 x10_4 p122 q122
                   cases e122
                   replace p122 := eq_true p122
                   replace q122 := eq_true q122
                   have p123 : 0 ≤ (x10_4 : Int) := of_decide_eq_true (by first | (with_reducible assumption) | assumption)
                   have q123 : x10_4 < (l0.length : Int) := of_decide_eq_true (by first | (with_reducible assumption) | assumption)
                   obtain ⟨ad123, A123_3, c123_3, e123, hx123_0, hx123_1, hx123_2, hx123_3, hl123_3, hi123_3⟩ := at_T35 HR0.out x10_4 p123 q123
                   cases e123
                   replace hx123_0 := (HB.out.cell (wb_ w _ hx123_0)).trans hx123_0
                   replace hx123_1 := (HB.out.cell (wb_ w _ hx123_1)).trans hx123_1
                   replace hx123_2 := (HB.out.cell (wb_ w _ hx123_2)).trans hx123_2
                   replace hx123_3 := (HB.out.cell (wb_ w _ hx123_3)).trans hx123_3
                   have HR123_3 := Aside0.mk hi123_3
                   have HC123_3 := Aside0.mk hl123_3
                   clear hi123_3 hl123_3
                   replace p123 := eq_true p123
                   replace q123 := eq_true q123
                   have p124 : 0 ≤ (x10_4 : Int) := of_decide_eq_true (by first | (with_reducible assumption) | assumption)
                   have q124 : x10_4 < (t114.length : Int) := of_decide_eq_true (by first | (with_reducible assumption) | assumption)
                   obtain ⟨ad124, e124, hx124_0, hx124_1, hx124_2⟩ := at_T30 (Kd.R_reads' HO_8.out).2.2 x10_4 p124 q124
                   obtain rfl : ad122 = ad124 := (by injection e124)
                   replace p124 := eq_true p124
                   replace q124 := eq_true q124
                   have p125 : 0 ≤ (x10_4 : Int) := of_decide_eq_true (by first | (with_reducible assumption) | assumption)
                   have q125 : x10_4 < (l0.length : Int) := of_decide_eq_true (by first | (with_reducible assumption) | assumption)
                   obtain ⟨ad125, A125_3, c125_3, e125, hx125_0, hx125_1, hx125_2, hx125_3, hl125_3, hi125_3⟩ := at_T35 HR0.out x10_4 p125 q125
                   obtain rfl : ad123 = ad125 := (by injection e125)
                   replace hx125_0 := (HB.out.cell (wb_ w _ hx125_0)).trans hx125_0
                   replace hx125_1 := (HB.out.cell (wb_ w _ hx125_1)).trans hx125_1
                   replace hx125_2 := (HB.out.cell (wb_ w _ hx125_2)).trans hx125_2
                   replace hx125_3 := (HB.out.cell (wb_ w _ hx125_3)).trans hx125_3
                   have HR125_3 := Aside0.mk hi125_3
                   have HC125_3 := Aside0.mk hl125_3
                   clear hi125_3 hl125_3
                   replace p125 := eq_true p125
                   replace q125 := eq_true q125
                   have ea_ := Option.some.inj (hx123_3.symm.trans hx125_3)
                   injection ea_ with ea_ en_ ec_
                   subst ea_
                   subst ec_
                   clear en_
                   have p126 : 0 ≤ (x10_4 : Int) := of_decide_eq_true (by first | (with_reducible assumption) | assumption)
                   have q126 : x10_4 < (t114.length : Int) := of_decide_eq_true (by first | (with_reducible assumption) | assumption)
                   obtain ⟨ad126, e126, hx126_0, hx126_1, hx126_2⟩ := at_T30 (Kd.R_reads' HO_8.out).2.2 x10_4 p126 q126
                   obtain rfl : ad122 = ad126 := (by injection e126)
                   replace p126 := eq_true p126
                   replace q126 := eq_true q126
                   go_wp2
                   repeat (go_quiet (fail); try go_wp2)
                   go_roundg k4
                   case measure => have := HJ4.out; have := HJ22.out; have := HK3.out; have := HK4.out; omega
                   case rel => exact ⟨(wrap64 (x10_4 + 1)), (by first | rfl | (simp; done) | (simp [*]; done)), H', ⟨by have := HJ4.out; have := HJ22.out; have := HK3.out; have := HK4.out; omega⟩, ⟨by (with_reducible repeat (first | apply Kd.qe_ | apply Kd.qd_ | apply Kd.R_drew)); exact HO_8.out⟩, ⟨by repeat (first | (with_reducible first | exact HB.out | apply qc_ | apply qa_ | apply qb_) | exact HB.out)⟩⟩
                  ·rw [if_neg c55] at H
                   have c55b0 : (((rd_T30 t114 x10_4).f2) == 0) = false := beq_eq_false_iff_ne.mpr c55
                   have c55b1 : (((rd_T30 t114 x10_4).f2) != 0) = true := bne_iff_ne.mpr c55
                   obtain rfl := Option.some.inj H
                   obtain ⟨Ao57, co57, eo57⟩ := Kd.qu_ HO_8.out
                   subst eo57
                   have p122 : 0 ≤ (x10_4 : Int) := of_decide_eq_true (by first | (with_reducible assumption) | assumption)
                   have q122 : x10_4 < (t114.length : Int) := of_decide_eq_true (by first | (with_reducible assumption) | assumption)
                   obtain ⟨ad122, e122, hx122_0, hx122_1, hx122_2⟩ := at_T30 (Kd.R_reads' HO_8.out).2.2 x10_4 p122 q122
                   cases e122
                   replace p122 := eq_true p122
                   replace q122 := eq_true q122
                   have p123 : 0 ≤ (x10_4 : Int) := of_decide_eq_true (by first | (with_reducible assumption) | assumption)
                   have q123 : x10_4 < (l0.length : Int) := of_decide_eq_true (by first | (with_reducible assumption) | assumption)
                   obtain ⟨ad123, A123_3, c123_3, e123, hx123_0, hx123_1, hx123_2, hx123_3, hl123_3, hi123_3⟩ := at_T35 HR0.out x10_4 p123 q123
                   cases e123
                   replace hx123_0 := (HB.out.cell (wb_ w _ hx123_0)).trans hx123_0
                   replace hx123_1 := (HB.out.cell (wb_ w _ hx123_1)).trans hx123_1
                   replace hx123_2 := (HB.out.cell (wb_ w _ hx123_2)).trans hx123_2
                   replace hx123_3 := (HB.out.cell (wb_ w _ hx123_3)).trans hx123_3
                   have HR123_3 := Aside0.mk hi123_3
                   have HC123_3 := Aside0.mk hl123_3
                   clear hi123_3 hl123_3
                   replace p123 := eq_true p123
                   replace q123 := eq_true q123
                   have p124 : 0 ≤ (x10_4 : Int) := of_decide_eq_true (by first | (with_reducible assumption) | assumption)
                   have q124 : x10_4 < (t114.length : Int) := of_decide_eq_true (by first | (with_reducible assumption) | assumption)
                   obtain ⟨ad124, e124, hx124_0, hx124_1, hx124_2⟩ := at_T30 (Kd.R_reads' HO_8.out).2.2 x10_4 p124 q124
                   obtain rfl : ad122 = ad124 := (by injection e124)
                   replace p124 := eq_true p124
                   replace q124 := eq_true q124
                   have p125 : 0 ≤ (x10_4 : Int) := of_decide_eq_true (by first | (with_reducible assumption) | assumption)
                   have q125 : x10_4 < (l0.length : Int) := of_decide_eq_true (by first | (with_reducible assumption) | assumption)
                   obtain ⟨ad125, A125_3, c125_3, e125, hx125_0, hx125_1, hx125_2, hx125_3, hl125_3, hi125_3⟩ := at_T35 HR0.out x10_4 p125 q125
                   obtain rfl : ad123 = ad125 := (by injection e125)
                   replace hx125_0 := (HB.out.cell (wb_ w _ hx125_0)).trans hx125_0
                   replace hx125_1 := (HB.out.cell (wb_ w _ hx125_1)).trans hx125_1
                   replace hx125_2 := (HB.out.cell (wb_ w _ hx125_2)).trans hx125_2
                   replace hx125_3 := (HB.out.cell (wb_ w _ hx125_3)).trans hx125_3
                   have HR125_3 := Aside0.mk hi125_3
                   have HC125_3 := Aside0.mk hl125_3
                   clear hi125_3 hl125_3
                   replace p125 := eq_true p125
                   replace q125 := eq_true q125
                   have ea_ := Option.some.inj (hx123_3.symm.trans hx125_3)
                   injection ea_ with ea_ en_ ec_
                   subst ea_
                   subst ec_
                   clear en_
                   have p126 : 0 ≤ (x10_4 : Int) := of_decide_eq_true (by first | (with_reducible assumption) | assumption)
                   have q126 : x10_4 < (t114.length : Int) := of_decide_eq_true (by first | (with_reducible assumption) | assumption)
                   obtain ⟨ad126, e126, hx126_0, hx126_1, hx126_2⟩ := at_T30 (Kd.R_reads' HO_8.out).2.2 x10_4 p126 q126
                   obtain rfl : ad122 = ad126 := (by injection e126)
                   replace p126 := eq_true p126
                   replace q126 := eq_true q126
                   go_wp2
                   repeat (go_quiet (fail); try go_wp2)
                   go_ret
                   exact ⟨by first | rfl | (simp [errW_none, errW_some] <;> rfl) | (simp [*, errW_none, errW_some] <;> rfl), by repeat (first | (with_reducible first | exact HB.out | apply qc_ | apply qa_ | apply qb_) | exact HB.out)⟩
                 ·rw [if_neg c54] at H
                  have c54b0 : (((rd_T30 t114 x10_4).f1) == ((rd_T35 l0 x10_4).f1.f0)) = false := beq_eq_false_iff_ne.mpr c54
                  have c54b1 : (((rd_T30 t114 x10_4).f1) != ((rd_T35 l0 x10_4).f1.f0)) = true := bne_iff_ne.mpr c54
                  obtain rfl := Option.some.inj H
                  obtain ⟨Ao58, co58, eo58⟩ := Kd.qu_ HO_8.out
                  subst eo58
                  have p122 : 0 ≤ (x10_4 : Int) := of_decide_eq_true (by first | (with_reducible assumption) | assumption)
                  have q122 : x10_4 < (t114.length : Int) := of_decide_eq_true (by first | (with_reducible assumption) | assumption)
                  obtain ⟨ad122, e122, hx122_0, hx122_1, hx122_2⟩ := at_T30 (Kd.R_reads' HO_8.out).2.2 x10_4 p122 q122
                  cases e122
                  replace p122 := eq_true p122
                  replace q122 := eq_true q122
                  have p123 : 0 ≤ (x10_4 : Int) := of_decide_eq_true (by first | (with_reducible assumption) | assumption)
                  have q123 : x10_4 < (l0.length : Int) := of_decide_eq_true (by first | (with_reducible assumption) | assumption)
                  obtain ⟨ad123, A123_3, c123_3, e123, hx123_0, hx123_1, hx123_2, hx123_3, hl123_3, hi123_3⟩ := at_T35 HR0.out x10_4 p123 q123
                  cases e123
                  replace hx123_0 := (HB.out.cell (wb_ w _ hx123_0)).trans hx123_0
                  replace hx123_1 := (HB.out.cell (wb_ w _ hx123_1)).trans hx123_1
                  replace hx123_2 := (HB.out.cell (wb_ w _ hx123_2)).trans hx123_2
                  replace hx123_3 := (HB.out.cell (wb_ w _ hx123_3)).trans hx123_3
                  have HR123_3 := Aside0.mk hi123_3
                  have HC123_3 := Aside0.mk hl123_3
                  clear hi123_3 hl123_3
                  replace p123 := eq_true p123
                  replace q123 := eq_true q123
                  have p124 : 0 ≤ (x10_4 : Int) := of_decide_eq_true (by first | (with_reducible assumption) | assumption)
                  have q124 : x10_4 < (t114.length : Int) := of_decide_eq_true (by first | (with_reducible assumption) | assumption)
                  obtain ⟨ad124, e124, hx124_0, hx124_1, hx124_2⟩ := at_T30 (Kd.R_reads' HO_8.out).2.2 x10_4 p124 q124
                  obtain rfl : ad122 = ad124 := (by injection e124)
                  replace p124 := eq_true p124
                  replace q124 := eq_true q124
                  have p125 : 0 ≤ (x10_4 : Int) := of_decide_eq_true (by first | (with_reducible assumption) | assumption)
                  have q125 : x10_4 < (l0.length : Int) := of_decide_eq_true (by first | (with_reducible assumption) | assumption)
                  obtain ⟨ad125, A125_3, c125_3, e125, hx125_0, hx125_1, hx125_2, hx125_3, hl125_3, hi125_3⟩ := at_T35 HR0.out x10_4 p125 q125
                  obtain rfl : ad123 = ad125 := (by injection e125)
                  replace hx125_0 := (HB.out.cell (wb_ w _ hx125_0)).trans hx125_0
                  replace hx125_1 := (HB.out.cell (wb_ w _ hx125_1)).trans hx125_1
                  replace hx125_2 := (HB.out.cell (wb_ w _ hx125_2)).trans hx125_2
                  replace hx125_3 := (HB.out.cell (wb_ w _ hx125_3)).trans hx125_3
                  have HR125_3 := Aside0.mk hi125_3
                  have HC125_3 := Aside0.mk hl125_3
                  clear hi125_3 hl125_3
                  replace p125 := eq_true p125
                  replace q125 := eq_true q125
                  have ea_ := Option.some.inj (hx123_3.symm.trans hx125_3)
                  injection ea_ with ea_ en_ ec_
                  subst ea_
                  subst ec_
                  clear en_
                  go_wp2
                  repeat (go_quiet (fail); try go_wp2)
                  go_ret
                  exact ⟨by first | rfl | (simp [errW_none, errW_some] <;> rfl) | (simp [*, errW_none, errW_some] <;> rfl), by repeat (first | (with_reducible first | exact HB.out | apply qc_ | apply qa_ | apply qb_) | exact HB.out)⟩
                ·rw [if_neg c53] at H
                 have c53b0 : (((rd_T30 t114 x10_4).f0) == ((rd_T35 l0 x10_4).f0)) = false := beq_eq_false_iff_ne.mpr c53
                 have c53b1 : (((rd_T30 t114 x10_4).f0) != ((rd_T35 l0 x10_4).f0)) = true := bne_iff_ne.mpr c53
                 obtain rfl := Option.some.inj H
                 obtain ⟨Ao59, co59, eo59⟩ := Kd.qu_ HO_8.out
                 subst eo59
                 have p122 : 0 ≤ (x10_4 : Int) := of_decide_eq_true (by first | (with_reducible assumption) | assumption)
                 have q122 : x10_4 < (t114.length : Int) := of_decide_eq_true (by first | (with_reducible assumption) | assumption)
                 obtain ⟨ad122, e122, hx122_0, hx122_1, hx122_2⟩ := at_T30 (Kd.R_reads' HO_8.out).2.2 x10_4 p122 q122
                 cases e122
                 replace p122 := eq_true p122
                 replace q122 := eq_true q122
                 have p123 : 0 ≤ (x10_4 : Int) := of_decide_eq_true (by first | (with_reducible assumption) | assumption)
                 have q123 : x10_4 < (l0.length : Int) := of_decide_eq_true (by first | (with_reducible assumption) | assumption)
                 obtain ⟨ad123, A123_3, c123_3, e123, hx123_0, hx123_1, hx123_2, hx123_3, hl123_3, hi123_3⟩ := at_T35 HR0.out x10_4 p123 q123
                 cases e123
                 replace hx123_0 := (HB.out.cell (wb_ w _ hx123_0)).trans hx123_0
                 replace hx123_1 := (HB.out.cell (wb_ w _ hx123_1)).trans hx123_1
                 replace hx123_2 := (HB.out.cell (wb_ w _ hx123_2)).trans hx123_2
                 replace hx123_3 := (HB.out.cell (wb_ w _ hx123_3)).trans hx123_3
                 have HR123_3 := Aside0.mk hi123_3
                 have HC123_3 := Aside0.mk hl123_3
                 clear hi123_3 hl123_3
                 replace p123 := eq_true p123
                 replace q123 := eq_true q123
                 go_wp2
                 repeat (go_quiet (fail); try go_wp2)
                 go_ret
                 exact ⟨by first | rfl | (simp [errW_none, errW_some] <;> rfl) | (simp [*, errW_none, errW_some] <;> rfl), by repeat (first | (with_reducible first | exact HB.out | apply qc_ | apply qa_ | apply qb_) | exact HB.out)⟩
               ·rw [if_neg c52] at H
                exact absurd H (by simp)
              ·rw [if_neg c51] at H
               exact absurd H (by simp)
             ·rw [if_neg c50] at H
              have c50b0 : decide (x10_4 < (l0.length : Int)) = false := decide_eq_false c50
              clear c50
              obtain rfl := Option.some.inj H
              go_wp2
              repeat (go_quiet (fail); try go_wp2)
              go_ret
              exact ⟨by first | rfl | (simp [errW_none, errW_some] <;> rfl) | (simp [*, errW_none, errW_some] <;> rfl), by repeat (first | (with_reducible first | exact HB.out | apply qc_ | apply qa_ | apply qb_) | exact HB.out)⟩
 ·replace c4 := Bool.eq_false_iff.mpr c4
  subst c4
  have H1 : (some false) = some r := by rw [if_neg (show ¬ (false = true) by decide)] at H; exact H
  clear H
  have H := H1
  clear H1
  obtain rfl := Option.some.inj H
  go_enter Try.func3, Try.ntmps3
  go_wp2_with (first | (go_at_call 6; (with_reducible refine (law07_alive.calls k  false _ A3.out).mono ?_); rintro e w60 ⟨rfl, hb⟩; have n0_ := Aside0.mk (qi_ (by repeat (first | (with_reducible first | exact HB.out | apply qc_ | apply qa_ | apply qb_) | exact HB.out)) hb); clear HB; have HB := n0_; clear n0_; (try clear hb); (try clear hb2); (try clear hk); (try clear hi)))
  repeat (go_quiet (first | (go_at_call 6; (with_reducible refine (law07_alive.calls k  false _ A3.out).mono ?_); rintro e w60 ⟨rfl, hb⟩; have n0_ := Aside0.mk (qi_ (by repeat (first | (with_reducible first | exact HB.out | apply qc_ | apply qa_ | apply qb_) | exact HB.out)) hb); clear HB; have HB := n0_; clear n0_; (try clear hb); (try clear hb2); (try clear hk); (try clear hi))); try go_wp2_with (first | (go_at_call 6; (with_reducible refine (law07_alive.calls k  false _ A3.out).mono ?_); rintro e w60 ⟨rfl, hb⟩; have n0_ := Aside0.mk (qi_ (by repeat (first | (with_reducible first | exact HB.out | apply qc_ | apply qa_ | apply qb_) | exact HB.out)) hb); clear HB; have HB := n0_; clear n0_; (try clear hb); (try clear hb2); (try clear hk); (try clear hi))))
  go_ret
  exact ⟨by first | rfl | (simp [errW_none, errW_some] <;> rfl) | (simp [*, errW_none, errW_some] <;> rfl), by repeat (first | (with_reducible first | exact HB.out | apply qc_ | apply qa_ | apply qb_) | exact HB.out)⟩
end Go.Proofs.Ytcmligagkaimeaa.P

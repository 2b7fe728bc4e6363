/- What this function of the program comes to, and that the machine's call does it: written by a program (wip/tool). No condition. -/
import Derived.Test.YtcmligagkaimeaaP0
import Derived.Test.YtcmligagkaimeaaPDigestOf
import Derived.Test.YtcmligagkaimeaaPDigestCompare
import Derived.Test.YtcmligagkaimeaaPRef07Same
import Derived.Test.YtcmligagkaimeaaPLaw07Alive
import Derived.Test.YtcmligagkaimeaaPRef06Great
import Derived.Test.YtcmligagkaimeaaPRef06Right
import Derived.Test.YtcmligagkaimeaaPRef07Right
import Derived.Test.YtcmligagkaimeaaPDigestRight
import Derived.Test.YtcmligagkaimeaaPDigestSame
import Derived.Test.YtcmligagkaimeaaPRef07Compare
import Derived.Test.YtcmligagkaimeaaPRef07Of
import Derived.Test.YtcmligagkaimeaaHw
namespace Go.Proofs.Ytcmligagkaimeaa.P
open Go.RowKit Go.Proofs.YtcmligagkaimeaaW.PrintWords Go.Proofs.YtcmligagkaimeaaW.PrintLast Go.Proofs.YtcmligagkaimeaaW.PrintMore
attribute [local go_sem] max2_int min2_int max_two min_two max_three min_three max_four min_four   -- for this text's walks alone
set_option linter.unusedVariables false
set_option linter.unusedSimpArgs false
/-! ### law07_DigestCompares: function 5 -/
mutual
def law07_DigestCompares.j0 : Nat → List (S35) → List (S30) → List (S30) → Bool → Option (Bool)
 | 0, _, _, _, _ => none
 | k + 1, x0, x1, x2, x24 => if x24 = true then (some true) else ((digest_Right.f k x1).bind fun t103 => ((ref07_Right.f k x1).bind fun t104 => (if (t103 != t104) = true then (law07_DigestCompares.j1 k x0 x1 true) else ((digest_Same.f k x1 x2).bind fun t105 => ((ref07_Same.f k x1 x2).bind fun t106 => (if (t105 != t106) = true then (law07_DigestCompares.j1 k x0 x1 true) else ((digest_Same.f k x1 x1).bind fun t107 => (law07_DigestCompares.j1 k x0 x1 (!t107)))))))))
def law07_DigestCompares.j1 : Nat → List (S35) → List (S30) → Bool → Option (Bool)
 | 0, _, _, _ => none
 | k + 1, x0, x1, x44 => if x44 = true then (some false) else ((ref06_Right.f k x0).bind fun t108 => (if t108 = true then ((ref07_Right.f k x1).bind fun t109 => (law07_DigestCompares.j2 k x0 x1 (!t109))) else (law07_DigestCompares.j2 k x0 x1 true)))
def law07_DigestCompares.j2 : Nat → List (S35) → List (S30) → Bool → Option (Bool)
 | 0, _, _, _ => none
 | k + 1, x0, x1, x52 => if x52 = true then (some true) else ((digest_Compare.f k x0 x1).bind fun bt110 => ((ref07_Compare.f k x0 x1).bind fun bt116 => ((ref07_Same.f k bt110.1 bt116.1).bind fun t122 => (if t122 = true then ((ref07_Same.f k bt110.2 bt116.2).bind fun t123 => (if t123 = true then ((digest_Of.f k x0).bind fun t124 => ((ref07_Of.f k x0).bind fun t127 => ((ref07_Same.f k t124 t127).bind fun t130 => (some t130)))) else (some false))) else (some false)))))
end
def law07_DigestCompares.f (k : Nat) (l0 : List (S35)) (l1 : List (S30)) (l2 : List (S30)) : Option (Bool) := (law07_alive.f k).bind fun t101 => (if t101 = true then ((ref06_Great.f k l0).bind fun t102 => (if t102 = true then (law07_DigestCompares.j0 k l0 l1 l2 true) else (if (l1.length : Int) > 40 then (law07_DigestCompares.j0 k l0 l1 l2 true) else (law07_DigestCompares.j0 k l0 l1 l2 (decide ((l2.length : Int) > 40)))))) else (some false))
theorem law07_DigestCompares.mono_l : ∀ k, (∀ y0 y1 y2 y3, LeO (law07_DigestCompares.j0 k y0 y1 y2 y3) (law07_DigestCompares.j0 (k + 1) y0 y1 y2 y3)) ∧ (∀ y0 y1 y2, LeO (law07_DigestCompares.j1 k y0 y1 y2) (law07_DigestCompares.j1 (k + 1) y0 y1 y2)) ∧ (∀ y0 y1 y2, LeO (law07_DigestCompares.j2 k y0 y1 y2) (law07_DigestCompares.j2 (k + 1) y0 y1 y2))
 | 0 => ⟨fun _ _ _ _ r h => by simp [law07_DigestCompares.j0] at h, fun _ _ _ r h => by simp [law07_DigestCompares.j1] at h, fun _ _ _ r h => by simp [law07_DigestCompares.j2] at h⟩
 | k + 1 => by
  obtain ⟨ih0, ih1, ih2⟩ := law07_DigestCompares.mono_l k
  refine ⟨?_, ?_, ?_⟩
  ·intro y0 y1 y2 y3
   unfold law07_DigestCompares.j0
   repeat' first
   | (with_reducible exact ih0 _ _ _ _)
   | (with_reducible exact ih1 _ _ _)
   | (with_reducible exact ih2 _ _ _)
   | (with_reducible exact law07_alive.mono _)
   | (with_reducible exact ref06_Great.mono _ _)
   | (with_reducible exact ref06_Right.mono _ _)
   | (with_reducible exact ref07_Compare.mono _ _ _)
   | (with_reducible exact ref07_Of.mono _ _)
   | (with_reducible exact ref07_Right.mono _ _)
   | (with_reducible exact ref07_Same.mono _ _ _)
   | (with_reducible exact digest_Compare.mono _ _ _)
   | (with_reducible exact digest_Of.mono _ _)
   | (with_reducible exact digest_Right.mono _ _)
   | (with_reducible exact digest_Same.mono _ _ _)
   | (with_reducible exact LeO.refl _)
   | (with_reducible exact LeO.none _)
   | (with_reducible refine LeO.ite ?_ ?_)
   | (with_reducible refine LeO.bind ?_ (fun _ => ?_))
   | exact ih0 _ _ _ _
   | exact ih1 _ _ _
   | exact ih2 _ _ _
   | exact law07_alive.mono _
   | exact ref06_Great.mono _ _
   | exact ref06_Right.mono _ _
   | exact ref07_Compare.mono _ _ _
   | exact ref07_Of.mono _ _
   | exact ref07_Right.mono _ _
   | exact ref07_Same.mono _ _ _
   | exact digest_Compare.mono _ _ _
   | exact digest_Of.mono _ _
   | exact digest_Right.mono _ _
   | exact digest_Same.mono _ _ _
   | exact LeO.none _
   | refine LeO.ite ?_ ?_
   | refine LeO.bind ?_ (fun _ => ?_)
  ·intro y0 y1 y2
   unfold law07_DigestCompares.j1
   repeat' first
   | (with_reducible exact ih0 _ _ _ _)
   | (with_reducible exact ih1 _ _ _)
   | (with_reducible exact ih2 _ _ _)
   | (with_reducible exact law07_alive.mono _)
   | (with_reducible exact ref06_Great.mono _ _)
   | (with_reducible exact ref06_Right.mono _ _)
   | (with_reducible exact ref07_Compare.mono _ _ _)
   | (with_reducible exact ref07_Of.mono _ _)
   | (with_reducible exact ref07_Right.mono _ _)
   | (with_reducible exact ref07_Same.mono _ _ _)
   | (with_reducible exact digest_Compare.mono _ _ _)
   | (with_reducible exact digest_Of.mono _ _)
   | (with_reducible exact digest_Right.mono _ _)
   | (with_reducible exact digest_Same.mono _ _ _)
   | (with_reducible exact LeO.refl _)
   | (with_reducible exact LeO.none _)
   | (with_reducible refine LeO.ite ?_ ?_)
   | (with_reducible refine LeO.bind ?_ (fun _ => ?_))
   | exact ih0 _ _ _ _
   | exact ih1 _ _ _
   | exact ih2 _ _ _
   | exact law07_alive.mono _
   | exact ref06_Great.mono _ _
   | exact ref06_Right.mono _ _
   | exact ref07_Compare.mono _ _ _
   | exact ref07_Of.mono _ _
   | exact ref07_Right.mono _ _
   | exact ref07_Same.mono _ _ _
   | exact digest_Compare.mono _ _ _
   | exact digest_Of.mono _ _
   | exact digest_Right.mono _ _
   | exact digest_Same.mono _ _ _
   | exact LeO.none _
   | refine LeO.ite ?_ ?_
   | refine LeO.bind ?_ (fun _ => ?_)
  ·intro y0 y1 y2
   unfold law07_DigestCompares.j2
   repeat' first
   | (with_reducible exact ih0 _ _ _ _)
   | (with_reducible exact ih1 _ _ _)
   | (with_reducible exact ih2 _ _ _)
   | (with_reducible exact law07_alive.mono _)
   | (with_reducible exact ref06_Great.mono _ _)
   | (with_reducible exact ref06_Right.mono _ _)
   | (with_reducible exact ref07_Compare.mono _ _ _)
   | (with_reducible exact ref07_Of.mono _ _)
   | (with_reducible exact ref07_Right.mono _ _)
   | (with_reducible exact ref07_Same.mono _ _ _)
   | (with_reducible exact digest_Compare.mono _ _ _)
   | (with_reducible exact digest_Of.mono _ _)
   | (with_reducible exact digest_Right.mono _ _)
   | (with_reducible exact digest_Same.mono _ _ _)
   | (with_reducible exact LeO.refl _)
   | (with_reducible exact LeO.none _)
   | (with_reducible refine LeO.ite ?_ ?_)
   | (with_reducible refine LeO.bind ?_ (fun _ => ?_))
   | exact ih0 _ _ _ _
   | exact ih1 _ _ _
   | exact ih2 _ _ _
   | exact law07_alive.mono _
   | exact ref06_Great.mono _ _
   | exact ref06_Right.mono _ _
   | exact ref07_Compare.mono _ _ _
   | exact ref07_Of.mono _ _
   | exact ref07_Right.mono _ _
   | exact ref07_Same.mono _ _ _
   | exact digest_Compare.mono _ _ _
   | exact digest_Of.mono _ _
   | exact digest_Right.mono _ _
   | exact digest_Same.mono _ _ _
   | exact LeO.none _
   | refine LeO.ite ?_ ?_
   | refine LeO.bind ?_ (fun _ => ?_)
theorem law07_DigestCompares.mono : ∀ a0 a1 a2 k, LeO (law07_DigestCompares.f k a0 a1 a2) (law07_DigestCompares.f (k + 1) a0 a1 a2) := by
 intro a0 a1 a2 k
 obtain ⟨ih0, ih1, ih2⟩ := law07_DigestCompares.mono_l k
 unfold law07_DigestCompares.f
 repeat' first
   | (with_reducible exact ih0 _ _ _ _)
   | (with_reducible exact ih1 _ _ _)
   | (with_reducible exact ih2 _ _ _)
   | (with_reducible exact law07_alive.mono _)
   | (with_reducible exact ref06_Great.mono _ _)
   | (with_reducible exact ref06_Right.mono _ _)
   | (with_reducible exact ref07_Compare.mono _ _ _)
   | (with_reducible exact ref07_Of.mono _ _)
   | (with_reducible exact ref07_Right.mono _ _)
   | (with_reducible exact ref07_Same.mono _ _ _)
   | (with_reducible exact digest_Compare.mono _ _ _)
   | (with_reducible exact digest_Of.mono _ _)
   | (with_reducible exact digest_Right.mono _ _)
   | (with_reducible exact digest_Same.mono _ _ _)
   | (with_reducible exact LeO.refl _)
   | (with_reducible exact LeO.none _)
   | (with_reducible refine LeO.ite ?_ ?_)
   | (with_reducible refine LeO.bind ?_ (fun _ => ?_))
   | exact ih0 _ _ _ _
   | exact ih1 _ _ _
   | exact ih2 _ _ _
   | exact law07_alive.mono _
   | exact ref06_Great.mono _ _
   | exact ref06_Right.mono _ _
   | exact ref07_Compare.mono _ _ _
   | exact ref07_Of.mono _ _
   | exact ref07_Right.mono _ _
   | exact ref07_Same.mono _ _ _
   | exact digest_Compare.mono _ _ _
   | exact digest_Of.mono _ _
   | exact digest_Right.mono _ _
   | exact digest_Same.mono _ _ _
   | exact LeO.none _
   | refine LeO.ite ?_ ?_
   | refine LeO.bind ?_ (fun _ => ?_)
set_option maxHeartbeats 8000000 in
set_option maxRecDepth 100000 in
theorem law07_DigestCompares.calls (k : Nat) (A0 : Option Addr) (c0 : Nat) (l0 : List (S35)) (A1 : Option Addr) (c1 : Nat) (l1 : List (S30)) (A2 : Option Addr) (c2 : Nat) (l2 : List (S30)) (r : Bool) (w : World) (hr0 : Kd.C k35 w A0 l0.length l0) (hc0 : l0.length ≤ c0) (hr1 : Kd.C k30 w A1 l1.length l1) (hc1 : l1.length ≤ c1) (hr2 : Kd.C k30 w A2 l2.length l2) (hc2 : l2.length ≤ c2) (h : law07_DigestCompares.f k l0 l1 l2 = some r) :
  Calls Try.prog 5 #[.slice A0 l0.length c0, .slice A1 l1.length c1, .slice A2 l2.length c2] w fun e w' => e = .returned (.bool r) ∧ Below w.heap.size w w' := by
 have HR0 := Aside0.mk hr0
 have HC0 := Aside0.mk hc0
 clear hr0 hc0
 have HR1 := Aside0.mk hr1
 have HC1 := Aside0.mk hc1
 clear hr1 hc1
 have HR2 := Aside0.mk hr2
 have HC2 := Aside0.mk hc2
 clear hr2 hc2
 have HB := Aside0.mk (Below.refl w.heap.size w)
 have H : ((law07_alive.f k).bind fun t101 => (if t101 = true then ((ref06_Great.f k l0).bind fun t102 => (if t102 = true then (law07_DigestCompares.j0 k l0 l1 l2 true) else (if (l1.length : Int) > 40 then (law07_DigestCompares.j0 k l0 l1 l2 true) else (law07_DigestCompares.j0 k l0 l1 l2 (decide ((l2.length : Int) > 40)))))) else (some false))) = some r := h
 clear h
 replace H := ob_ H
 obtain ⟨t101, A40, H⟩ := H
 replace H : (if t101 = true then ((ref06_Great.f k l0).bind fun t102 => (if t102 = true then (law07_DigestCompares.j0 k l0 l1 l2 true) else (if (l1.length : Int) > 40 then (law07_DigestCompares.j0 k l0 l1 l2 true) else (law07_DigestCompares.j0 k l0 l1 l2 (decide ((l2.length : Int) > 40)))))) else (some false)) = some r := H
 have A4 := Aside0.mk A40
 clear A40
 by_cases c5 : t101 = true
 ·subst c5
  have H1 : ((ref06_Great.f k l0).bind fun t102 => (if t102 = true then (law07_DigestCompares.j0 k l0 l1 l2 true) else (if (l1.length : Int) > 40 then (law07_DigestCompares.j0 k l0 l1 l2 true) else (law07_DigestCompares.j0 k l0 l1 l2 (decide ((l2.length : Int) > 40)))))) = some r := by rw [if_pos rfl] at H; exact H
  clear H
  have H := H1
  clear H1
  have HC6 := Aside0.mk H
  clear H
  go_enter Try.func5, Try.ntmps5
  go_upto_region 3 with (first | ((with_reducible refine qm_ (f := 6) rfl ?_); refine goesL_ (some 11) rfl rfl Try.func6 (by kernel_rfl) rfl #[] rfl (by (try simp only [List.map_toArray, List.map_cons, List.map_nil]); first | done | rfl | (simp only [List.length_drop, List.length_take]; rfl)) ?_; (with_reducible refine (law07_alive.calls k  true _ A4.out).mono ?_); rintro e w7 ⟨rfl, hb⟩; refine ⟨_, rfl, ?_⟩; have n0_ := Aside0.mk (qi_ (by repeat (first | (with_reducible first | exact HB.out | apply qc_ | apply qa_ | apply qb_) | exact HB.out)) hb); clear HB; have HB := n0_; clear n0_; (try clear hb); (try clear hb2); (try clear hk); (try clear hi)))
  (try simp only [Act.put, sa_, sb_, sc_])
  go_cut [24] (fun v24 wc => ∃ (kq : Nat) (x24_5 : Bool), v24 = .bool x24_5 ∧ Aside0 (law07_DigestCompares.j0 kq l0 l1 l2 x24_5 = some r) ∧ Aside0 (kq ≤ k) ∧ Aside0 (Below w.heap.size w wc))
  case first =>
   have H := HC6.out
   clear HC6
   replace H := ob_ H
   obtain ⟨t102, A80, H⟩ := H
   replace H : (if t102 = true then (law07_DigestCompares.j0 k l0 l1 l2 true) else (if (l1.length : Int) > 40 then (law07_DigestCompares.j0 k l0 l1 l2 true) else (law07_DigestCompares.j0 k l0 l1 l2 (decide ((l2.length : Int) > 40))))) = some r := H
   have A8 := Aside0.mk A80
   clear A80
   by_cases c9 : t102 = true
   ·subst c9
    have H1 : (law07_DigestCompares.j0 k l0 l1 l2 true) = some r := by rw [if_pos rfl] at H; exact H
    clear H
    have H := H1
    clear H1
    have H' := Aside0.mk H
    clear H
    go_wp2_with (first | ((with_reducible refine qm_ (f := 7) rfl ?_); refine goesL_ (some 14) rfl rfl Try.func7 (by kernel_rfl) rfl #[.slice A0 l0.length c0] rfl (by (try simp only [List.map_toArray, List.map_cons, List.map_nil]); first | done | rfl | (simp only [List.length_drop, List.length_take]; rfl)) ?_; (with_reducible refine (ref06_Great.calls k _ _ l0 true _ ?side1 ?side2 A8.out).mono ?_); (case side1 => repeat (first | exact (Kd.qr_ HR0.out HB.out) | (with_reducible refine Kd.qp_ ?_ _) | (with_reducible refine Kd.qo_ ?_ _) | (with_reducible refine Kd.C_drew ?_))); (case side2 => exact HC0.out); rintro e w10 ⟨rfl, hb⟩; refine ⟨_, rfl, ?_⟩; have n0_ := Aside0.mk (qi_ (by repeat (first | (with_reducible first | exact HB.out | apply qc_ | apply qa_ | apply qb_) | exact HB.out)) hb); clear HB; have HB := n0_; clear n0_; (try clear hb); (try clear hb2); (try clear hk); (try clear hi)))
    go_meet
    case rel => exact ⟨_, (true), (by first | rfl | (simp; done) | (simp [*]; done)), H', ⟨by first | omega | exact Nat.le_refl _⟩, ⟨by repeat (first | (with_reducible first | exact HB.out | apply qc_ | apply qa_ | apply qb_) | exact HB.out)⟩⟩
   ·replace c9 := Bool.eq_false_iff.mpr c9
    subst c9
    have H1 : (if (l1.length : Int) > 40 then (law07_DigestCompares.j0 k l0 l1 l2 true) else (law07_DigestCompares.j0 k l0 l1 l2 (decide ((l2.length : Int) > 40)))) = some r := by rw [if_neg (show ¬ (false = true) by decide)] at H; exact H
    clear H
    have H := H1
    clear H1
    by_cases c11 : (l1.length : Int) > 40
    ·rw [if_pos c11] at H
     have c11b0 : decide (40 < (l1.length : Int)) = true := decide_eq_true c11
     have c11b1 : decide (40 < l1.length) = true := decide_eq_true (by omega)
     clear c11
     (first | rw [c11b0] | (simp only [i64_w, i32_w]; rw [c11b0]) | skip)
     have H' := Aside0.mk H
     clear H
     go_wp2_with (first | ((with_reducible refine qm_ (f := 7) rfl ?_); refine goesL_ (some 14) rfl rfl Try.func7 (by kernel_rfl) rfl #[.slice A0 l0.length c0] rfl (by (try simp only [List.map_toArray, List.map_cons, List.map_nil]); first | done | rfl | (simp only [List.length_drop, List.length_take]; rfl)) ?_; (with_reducible refine (ref06_Great.calls k _ _ l0 false _ ?side1 ?side2 A8.out).mono ?_); (case side1 => repeat (first | exact (Kd.qr_ HR0.out HB.out) | (with_reducible refine Kd.qp_ ?_ _) | (with_reducible refine Kd.qo_ ?_ _) | (with_reducible refine Kd.C_drew ?_))); (case side2 => exact HC0.out); rintro e w12 ⟨rfl, hb⟩; refine ⟨_, rfl, ?_⟩; have n0_ := Aside0.mk (qi_ (by repeat (first | (with_reducible first | exact HB.out | apply qc_ | apply qa_ | apply qb_) | exact HB.out)) hb); clear HB; have HB := n0_; clear n0_; (try clear hb); (try clear hb2); (try clear hk); (try clear hi)))
     go_meet
     case rel => exact ⟨_, (true), (by first | rfl | (simp; done) | (simp [*]; done)), H', ⟨by first | omega | exact Nat.le_refl _⟩, ⟨by repeat (first | (with_reducible first | exact HB.out | apply qc_ | apply qa_ | apply qb_) | exact HB.out)⟩⟩
    ·rw [if_neg c11] at H
     have c11b0 : decide (40 < (l1.length : Int)) = false := decide_eq_false c11
     have c11b1 : decide (40 < l1.length) = false := decide_eq_false (by omega)
     clear c11
     (first | rw [c11b0] | (simp only [i64_w, i32_w]; rw [c11b0]) | skip)
     have H' := Aside0.mk H
     clear H
     go_wp2_with (first | ((with_reducible refine qm_ (f := 7) rfl ?_); refine goesL_ (some 14) rfl rfl Try.func7 (by kernel_rfl) rfl #[.slice A0 l0.length c0] rfl (by (try simp only [List.map_toArray, List.map_cons, List.map_nil]); first | done | rfl | (simp only [List.length_drop, List.length_take]; rfl)) ?_; (with_reducible refine (ref06_Great.calls k _ _ l0 false _ ?side1 ?side2 A8.out).mono ?_); (case side1 => repeat (first | exact (Kd.qr_ HR0.out HB.out) | (with_reducible refine Kd.qp_ ?_ _) | (with_reducible refine Kd.qo_ ?_ _) | (with_reducible refine Kd.C_drew ?_))); (case side2 => exact HC0.out); rintro e w13 ⟨rfl, hb⟩; refine ⟨_, rfl, ?_⟩; have n0_ := Aside0.mk (qi_ (by repeat (first | (with_reducible first | exact HB.out | apply qc_ | apply qa_ | apply qb_) | exact HB.out)) hb); clear HB; have HB := n0_; clear n0_; (try clear hb); (try clear hb2); (try clear hk); (try clear hi)))
     go_meet
     case rel => exact ⟨_, (decide ((l2.length : Int) > 40)), (by first | rfl | (simp; done) | (simp [*]; done)), H', ⟨by first | omega | exact Nat.le_refl _⟩, ⟨by repeat (first | (with_reducible first | exact HB.out | apply qc_ | apply qa_ | apply qb_) | exact HB.out)⟩⟩
  case rest =>
   clear HC6
   try clear c1
   try clear c2
   try clear p2
   try clear c5
   try clear c6
   try clear c7
   try clear c9
   try clear c11
   try clear c11b0
   try clear c11b1
   obtain ⟨kq, x24_5, rfl, HA, HJ5, HB⟩ := hcut
   cases kq with
   | zero => exact absurd HA.out (by simp [law07_DigestCompares.j0])
   | succ kj5 =>
    have H := HA.out
    clear HA
    simp only [law07_DigestCompares.j0] at H
    by_cases c14 : x24_5 = true
    ·subst c14
     have H1 : (some true) = some r := by rw [if_pos rfl] at H; exact H
     clear H
     have H := H1
     clear H1
     obtain rfl := Option.some.inj H
     go_wp2
     go_ret
     exact ⟨by first | rfl | (simp [errW_none, errW_some] <;> rfl) | (simp [*, errW_none, errW_some] <;> rfl), by repeat (first | (with_reducible first | exact HB.out | apply qc_ | apply qa_ | apply qb_) | exact HB.out)⟩
    ·replace c14 := Bool.eq_false_iff.mpr c14
     subst c14
     have H1 : ((digest_Right.f kj5 l1).bind fun t103 => ((ref07_Right.f kj5 l1).bind fun t104 => (if (t103 != t104) = true then (law07_DigestCompares.j1 kj5 l0 l1 true) else ((digest_Same.f kj5 l1 l2).bind fun t105 => ((ref07_Same.f kj5 l1 l2).bind fun t106 => (if (t105 != t106) = true then (law07_DigestCompares.j1 kj5 l0 l1 true) else ((digest_Same.f kj5 l1 l1).bind fun t107 => (law07_DigestCompares.j1 kj5 l0 l1 (!t107))))))))) = some r := by rw [if_neg (show ¬ (false = true) by decide)] at H; exact H
     clear H
     have H := H1
     clear H1
     have HC15 := Aside0.mk H
     clear H
     go_upto_region 5 with (fail)
     go_cut [44] (fun v44 wc => ∃ (kq : Nat) (x44_14 : Bool), v44 = .bool x44_14 ∧ Aside0 (law07_DigestCompares.j1 kq l0 l1 x44_14 = some r) ∧ Aside0 (kq ≤ kj5) ∧ Aside0 (Below w.heap.size w wc))
     case first =>
      have H := HC15.out
      clear HC15
      replace H := ob_ H
      obtain ⟨t103, A160, H⟩ := H
      replace H : ((ref07_Right.f kj5 l1).bind fun t104 => (if (t103 != t104) = true then (law07_DigestCompares.j1 kj5 l0 l1 true) else ((digest_Same.f kj5 l1 l2).bind fun t105 => ((ref07_Same.f kj5 l1 l2).bind fun t106 => (if (t105 != t106) = true then (law07_DigestCompares.j1 kj5 l0 l1 true) else ((digest_Same.f kj5 l1 l1).bind fun t107 => (law07_DigestCompares.j1 kj5 l0 l1 (!t107)))))))) = some r := H
      have A16 := Aside0.mk A160
      clear A160
      replace H := ob_ H
      obtain ⟨t104, A170, H⟩ := H
      replace H : (if (t103 != t104) = true then (law07_DigestCompares.j1 kj5 l0 l1 true) else ((digest_Same.f kj5 l1 l2).bind fun t105 => ((ref07_Same.f kj5 l1 l2).bind fun t106 => (if (t105 != t106) = true then (law07_DigestCompares.j1 kj5 l0 l1 true) else ((digest_Same.f kj5 l1 l1).bind fun t107 => (law07_DigestCompares.j1 kj5 l0 l1 (!t107))))))) = some r := H
      have A17 := Aside0.mk A170
      clear A170
      by_cases c18 : (t103 != t104) = true
      ·rw [if_pos c18] at H
       have c18b0 : (t103 != t104) = true := c18
       (try (have c18b1 : decide (t103 = t104) = false := by simpa using c18))
       (try (have c18b2 : (t103 == t104) = false := by simpa using c18))
       (try (have c18b3 : ¬ (t103 = t104) := by simpa using c18))
       clear c18
       (first | rw [c18b0] | (simp only [i64_w, i32_w]; rw [c18b0]) | skip)
       have H' := Aside0.mk H
       clear H
       go_wp2_with (first | ((with_reducible refine qm_ (f := 13) rfl ?_); refine goesL_ (some 26) rfl rfl Try.func13 (by kernel_rfl) rfl #[.slice A1 l1.length c1] rfl (by (try simp only [List.map_toArray, List.map_cons, List.map_nil]); first | done | rfl | (simp only [List.length_drop, List.length_take]; rfl)) ?_; (with_reducible refine (digest_Right.calls kj5 _ _ l1 t103 _ ?side1 ?side2 A16.out).mono ?_); (case side1 => repeat (first | exact (Kd.qr_ HR1.out HB.out) | (with_reducible refine Kd.qp_ ?_ _) | (with_reducible refine Kd.qo_ ?_ _) | (with_reducible refine Kd.C_drew ?_))); (case side2 => exact HC1.out); rintro e w19 ⟨rfl, hb⟩; refine ⟨_, rfl, ?_⟩; have n0_ := Aside0.mk (qi_ (by repeat (first | (with_reducible first | exact HB.out | apply qc_ | apply qa_ | apply qb_) | exact HB.out)) hb); clear HB; have HB := n0_; clear n0_; (try clear hb); (try clear hb2); (try clear hk); (try clear hi)) | ((with_reducible refine qm_ (f := 9) rfl ?_); refine goesL_ (some 28) rfl rfl Try.func9 (by kernel_rfl) rfl #[.slice A1 l1.length c1] rfl (by (try simp only [List.map_toArray, List.map_cons, List.map_nil]); first | done | rfl | (simp only [List.length_drop, List.length_take]; rfl)) ?_; (with_reducible refine (ref07_Right.calls kj5 _ _ l1 t104 _ ?side1 ?side2 A17.out).mono ?_); (case side1 => repeat (first | exact (Kd.qr_ HR1.out HB.out) | (with_reducible refine Kd.qp_ ?_ _) | (with_reducible refine Kd.qo_ ?_ _) | (with_reducible refine Kd.C_drew ?_))); (case side2 => exact HC1.out); rintro e w20 ⟨rfl, hb⟩; refine ⟨_, rfl, ?_⟩; have n0_ := Aside0.mk (qi_ (by repeat (first | (with_reducible first | exact HB.out | apply qc_ | apply qa_ | apply qb_) | exact HB.out)) hb); clear HB; have HB := n0_; clear n0_; (try clear hb); (try clear hb2); (try clear hk); (try clear hi)))
       go_meet
       case rel => exact ⟨_, (true), (by first | rfl | (simp; done) | (simp [*]; done)), H', ⟨by have := HJ5.out; first | omega | exact Nat.le_refl _⟩, ⟨by repeat (first | (with_reducible first | exact HB.out | apply qc_ | apply qa_ | apply qb_) | exact HB.out)⟩⟩
      ·rw [if_neg c18] at H
       have c18b0 : (t103 != t104) = false := by simpa using c18
       (try (have c18b1 : decide (t103 = t104) = true := by simpa using c18))
       (try (have c18b2 : (t103 == t104) = true := by simpa using c18))
       clear c18
       (first | rw [c18b0] | (simp only [i64_w, i32_w]; rw [c18b0]) | skip)
       replace H := ob_ H
       obtain ⟨t105, A210, H⟩ := H
       replace H : ((ref07_Same.f kj5 l1 l2).bind fun t106 => (if (t105 != t106) = true then (law07_DigestCompares.j1 kj5 l0 l1 true) else ((digest_Same.f kj5 l1 l1).bind fun t107 => (law07_DigestCompares.j1 kj5 l0 l1 (!t107))))) = some r := H
       have A21 := Aside0.mk A210
       clear A210
       replace H := ob_ H
       obtain ⟨t106, A220, H⟩ := H
       replace H : (if (t105 != t106) = true then (law07_DigestCompares.j1 kj5 l0 l1 true) else ((digest_Same.f kj5 l1 l1).bind fun t107 => (law07_DigestCompares.j1 kj5 l0 l1 (!t107)))) = some r := H
       have A22 := Aside0.mk A220
       clear A220
       by_cases c23 : (t105 != t106) = true
       ·rw [if_pos c23] at H
        have c23b0 : (t105 != t106) = true := c23
        (try (have c23b1 : decide (t105 = t106) = false := by simpa using c23))
        (try (have c23b2 : (t105 == t106) = false := by simpa using c23))
        (try (have c23b3 : ¬ (t105 = t106) := by simpa using c23))
        clear c23
        have H' := Aside0.mk H
        clear H
        go_wp2_with (first | ((with_reducible refine qm_ (f := 13) rfl ?_); refine goesL_ (some 26) rfl rfl Try.func13 (by kernel_rfl) rfl #[.slice A1 l1.length c1] rfl (by (try simp only [List.map_toArray, List.map_cons, List.map_nil]); first | done | rfl | (simp only [List.length_drop, List.length_take]; rfl)) ?_; (with_reducible refine (digest_Right.calls kj5 _ _ l1 t103 _ ?side1 ?side2 A16.out).mono ?_); (case side1 => repeat (first | exact (Kd.qr_ HR1.out HB.out) | (with_reducible refine Kd.qp_ ?_ _) | (with_reducible refine Kd.qo_ ?_ _) | (with_reducible refine Kd.C_drew ?_))); (case side2 => exact HC1.out); rintro e w24 ⟨rfl, hb⟩; refine ⟨_, rfl, ?_⟩; have n0_ := Aside0.mk (qi_ (by repeat (first | (with_reducible first | exact HB.out | apply qc_ | apply qa_ | apply qb_) | exact HB.out)) hb); clear HB; have HB := n0_; clear n0_; (try clear hb); (try clear hb2); (try clear hk); (try clear hi)) | ((with_reducible refine qm_ (f := 9) rfl ?_); refine goesL_ (some 28) rfl rfl Try.func9 (by kernel_rfl) rfl #[.slice A1 l1.length c1] rfl (by (try simp only [List.map_toArray, List.map_cons, List.map_nil]); first | done | rfl | (simp only [List.length_drop, List.length_take]; rfl)) ?_; (with_reducible refine (ref07_Right.calls kj5 _ _ l1 t104 _ ?side1 ?side2 A17.out).mono ?_); (case side1 => repeat (first | exact (Kd.qr_ HR1.out HB.out) | (with_reducible refine Kd.qp_ ?_ _) | (with_reducible refine Kd.qo_ ?_ _) | (with_reducible refine Kd.C_drew ?_))); (case side2 => exact HC1.out); rintro e w25 ⟨rfl, hb⟩; refine ⟨_, rfl, ?_⟩; have n0_ := Aside0.mk (qi_ (by repeat (first | (with_reducible first | exact HB.out | apply qc_ | apply qa_ | apply qb_) | exact HB.out)) hb); clear HB; have HB := n0_; clear n0_; (try clear hb); (try clear hb2); (try clear hk); (try clear hi)) | (go_at_call 14; (with_reducible refine (digest_Same.calls kj5 _ _ l1 _ _ l2 t105 _ ?side1 ?side2 ?side3 ?side4 A21.out).mono ?_); (case side1 => repeat (first | exact (Kd.qr_ HR1.out HB.out) | (with_reducible refine Kd.qp_ ?_ _) | (with_reducible refine Kd.qo_ ?_ _) | (with_reducible refine Kd.C_drew ?_))); (case side2 => exact HC1.out); (case side3 => repeat (first | exact (Kd.qr_ HR2.out HB.out) | (with_reducible refine Kd.qp_ ?_ _) | (with_reducible refine Kd.qo_ ?_ _) | (with_reducible refine Kd.C_drew ?_))); (case side4 => exact HC2.out); rintro e w' ⟨rfl, ⟨nd, rfl⟩⟩) | (go_at_call 12; (with_reducible refine (ref07_Same.calls kj5 _ _ l1 _ _ l2 t106 _ ?side1 ?side2 ?side3 ?side4 A22.out).mono ?_); (case side1 => repeat (first | exact (Kd.qr_ HR1.out (by repeat (first | (with_reducible first | exact HB.out | apply qc_ | apply qa_ | apply qb_) | exact HB.out))) | (with_reducible refine Kd.qp_ ?_ _) | (with_reducible refine Kd.qo_ ?_ _) | (with_reducible refine Kd.C_drew ?_))); (case side2 => exact HC1.out); (case side3 => repeat (first | exact (Kd.qr_ HR2.out (by repeat (first | (with_reducible first | exact HB.out | apply qc_ | apply qa_ | apply qb_) | exact HB.out))) | (with_reducible refine Kd.qp_ ?_ _) | (with_reducible refine Kd.qo_ ?_ _) | (with_reducible refine Kd.C_drew ?_))); (case side4 => exact HC2.out); rintro e w' ⟨rfl, ⟨nd, rfl⟩⟩))
        go_meet
        case rel => exact ⟨_, (true), (by first | rfl | (simp; done) | (simp [*]; done)), H', ⟨by have := HJ5.out; first | omega | exact Nat.le_refl _⟩, ⟨by repeat (first | (with_reducible first | exact HB.out | apply qc_ | apply qa_ | apply qb_) | exact HB.out)⟩⟩
       ·rw [if_neg c23] at H
        have c23b0 : (t105 != t106) = false := by simpa using c23
        (try (have c23b1 : decide (t105 = t106) = true := by simpa using c23))
        (try (have c23b2 : (t105 == t106) = true := by simpa using c23))
        clear c23
        replace H := ob_ H
        obtain ⟨t107, A260, H⟩ := H
        replace H : (law07_DigestCompares.j1 kj5 l0 l1 (!t107)) = some r := H
        have A26 := Aside0.mk A260
        clear A260
        have H' := Aside0.mk H
        clear H
        go_wp2_with (first | ((with_reducible refine qm_ (f := 13) rfl ?_); refine goesL_ (some 26) rfl rfl Try.func13 (by kernel_rfl) rfl #[.slice A1 l1.length c1] rfl (by (try simp only [List.map_toArray, List.map_cons, List.map_nil]); first | done | rfl | (simp only [List.length_drop, List.length_take]; rfl)) ?_; (with_reducible refine (digest_Right.calls kj5 _ _ l1 t103 _ ?side1 ?side2 A16.out).mono ?_); (case side1 => repeat (first | exact (Kd.qr_ HR1.out HB.out) | (with_reducible refine Kd.qp_ ?_ _) | (with_reducible refine Kd.qo_ ?_ _) | (with_reducible refine Kd.C_drew ?_))); (case side2 => exact HC1.out); rintro e w27 ⟨rfl, hb⟩; refine ⟨_, rfl, ?_⟩; have n0_ := Aside0.mk (qi_ (by repeat (first | (with_reducible first | exact HB.out | apply qc_ | apply qa_ | apply qb_) | exact HB.out)) hb); clear HB; have HB := n0_; clear n0_; (try clear hb); (try clear hb2); (try clear hk); (try clear hi)) | ((with_reducible refine qm_ (f := 9) rfl ?_); refine goesL_ (some 28) rfl rfl Try.func9 (by kernel_rfl) rfl #[.slice A1 l1.length c1] rfl (by (try simp only [List.map_toArray, List.map_cons, List.map_nil]); first | done | rfl | (simp only [List.length_drop, List.length_take]; rfl)) ?_; (with_reducible refine (ref07_Right.calls kj5 _ _ l1 t104 _ ?side1 ?side2 A17.out).mono ?_); (case side1 => repeat (first | exact (Kd.qr_ HR1.out HB.out) | (with_reducible refine Kd.qp_ ?_ _) | (with_reducible refine Kd.qo_ ?_ _) | (with_reducible refine Kd.C_drew ?_))); (case side2 => exact HC1.out); rintro e w28 ⟨rfl, hb⟩; refine ⟨_, rfl, ?_⟩; have n0_ := Aside0.mk (qi_ (by repeat (first | (with_reducible first | exact HB.out | apply qc_ | apply qa_ | apply qb_) | exact HB.out)) hb); clear HB; have HB := n0_; clear n0_; (try clear hb); (try clear hb2); (try clear hk); (try clear hi)) | (go_at_call 14; (with_reducible refine (digest_Same.calls kj5 _ _ l1 _ _ l2 t105 _ ?side1 ?side2 ?side3 ?side4 A21.out).mono ?_); (case side1 => repeat (first | exact (Kd.qr_ HR1.out HB.out) | (with_reducible refine Kd.qp_ ?_ _) | (with_reducible refine Kd.qo_ ?_ _) | (with_reducible refine Kd.C_drew ?_))); (case side2 => exact HC1.out); (case side3 => repeat (first | exact (Kd.qr_ HR2.out HB.out) | (with_reducible refine Kd.qp_ ?_ _) | (with_reducible refine Kd.qo_ ?_ _) | (with_reducible refine Kd.C_drew ?_))); (case side4 => exact HC2.out); rintro e w' ⟨rfl, ⟨nd, rfl⟩⟩) | (go_at_call 12; (with_reducible refine (ref07_Same.calls kj5 _ _ l1 _ _ l2 t106 _ ?side1 ?side2 ?side3 ?side4 A22.out).mono ?_); (case side1 => repeat (first | exact (Kd.qr_ HR1.out (by repeat (first | (with_reducible first | exact HB.out | apply qc_ | apply qa_ | apply qb_) | exact HB.out))) | (with_reducible refine Kd.qp_ ?_ _) | (with_reducible refine Kd.qo_ ?_ _) | (with_reducible refine Kd.C_drew ?_))); (case side2 => exact HC1.out); (case side3 => repeat (first | exact (Kd.qr_ HR2.out (by repeat (first | (with_reducible first | exact HB.out | apply qc_ | apply qa_ | apply qb_) | exact HB.out))) | (with_reducible refine Kd.qp_ ?_ _) | (with_reducible refine Kd.qo_ ?_ _) | (with_reducible refine Kd.C_drew ?_))); (case side4 => exact HC2.out); rintro e w' ⟨rfl, ⟨nd, rfl⟩⟩) | (go_at_call 14; (with_reducible refine (digest_Same.calls kj5 _ _ l1 _ _ l1 t107 _ ?side1 ?side2 ?side3 ?side4 A26.out).mono ?_); (case side1 => repeat (first | exact (Kd.qr_ HR1.out (by repeat (first | (with_reducible first | exact HB.out | apply qc_ | apply qa_ | apply qb_) | exact HB.out))) | (with_reducible refine Kd.qp_ ?_ _) | (with_reducible refine Kd.qo_ ?_ _) | (with_reducible refine Kd.C_drew ?_))); (case side2 => exact HC1.out); (case side3 => repeat (first | exact (Kd.qr_ HR1.out (by repeat (first | (with_reducible first | exact HB.out | apply qc_ | apply qa_ | apply qb_) | exact HB.out))) | (with_reducible refine Kd.qp_ ?_ _) | (with_reducible refine Kd.qo_ ?_ _) | (with_reducible refine Kd.C_drew ?_))); (case side4 => exact HC1.out); rintro e w' ⟨rfl, ⟨nd, rfl⟩⟩))
        go_meet
        case rel => exact ⟨_, (!t107), (by first | rfl | (simp; done) | (simp [*]; done)), H', ⟨by have := HJ5.out; first | omega | exact Nat.le_refl _⟩, ⟨by repeat (first | (with_reducible first | exact HB.out | apply qc_ | apply qa_ | apply qb_) | exact HB.out)⟩⟩
     case rest =>
      clear HC15
      try clear c1
      try clear c2
      try clear p2
      try clear c5
      try clear c6
      try clear c7
      try clear c9
      try clear c11
      try clear c11b0
      try clear c11b1
      try clear c13
      try clear c14
      try clear c18
      try clear c18b0
      try clear c18b1
      try clear c18b2
      try clear c23
      try clear c23b0
      try clear c23b1
      try clear c23b2
      try clear p2
      obtain ⟨kq, x44_14, rfl, HA, HJ14, HB⟩ := hcut
      cases kq with
      | zero => exact absurd HA.out (by simp [law07_DigestCompares.j1])
      | succ kj14 =>
       have H := HA.out
       clear HA
       simp only [law07_DigestCompares.j1] at H
       by_cases c29 : x44_14 = true
       ·subst c29
        have H1 : (some false) = some r := by rw [if_pos rfl] at H; exact H
        clear H
        have H := H1
        clear H1
        obtain rfl := Option.some.inj H
        go_wp2
        go_ret
        exact ⟨by first | rfl | (simp [errW_none, errW_some] <;> rfl) | (simp [*, errW_none, errW_some] <;> rfl), by repeat (first | (with_reducible first | exact HB.out | apply qc_ | apply qa_ | apply qb_) | exact HB.out)⟩
       ·replace c29 := Bool.eq_false_iff.mpr c29
        subst c29
        have H1 : ((ref06_Right.f kj14 l0).bind fun t108 => (if t108 = true then ((ref07_Right.f kj14 l1).bind fun t109 => (law07_DigestCompares.j2 kj14 l0 l1 (!t109))) else (law07_DigestCompares.j2 kj14 l0 l1 true))) = some r := by rw [if_neg (show ¬ (false = true) by decide)] at H; exact H
        clear H
        have H := H1
        clear H1
        have HC30 := Aside0.mk H
        clear H
        go_upto_region 7 with (fail)
        go_cut [52] (fun v52 wc => ∃ (kq : Nat) (x52_29 : Bool), v52 = .bool x52_29 ∧ Aside0 (law07_DigestCompares.j2 kq l0 l1 x52_29 = some r) ∧ Aside0 (kq ≤ kj14) ∧ Aside0 (Below w.heap.size w wc))
        case first =>
         have H := HC30.out
         clear HC30
         replace H := ob_ H
         obtain ⟨t108, A310, H⟩ := H
         replace H : (if t108 = true then ((ref07_Right.f kj14 l1).bind fun t109 => (law07_DigestCompares.j2 kj14 l0 l1 (!t109))) else (law07_DigestCompares.j2 kj14 l0 l1 true)) = some r := H
         have A31 := Aside0.mk A310
         clear A310
         by_cases c32 : t108 = true
         ·subst c32
          have H1 : ((ref07_Right.f kj14 l1).bind fun t109 => (law07_DigestCompares.j2 kj14 l0 l1 (!t109))) = some r := by rw [if_pos rfl] at H; exact H
          clear H
          have H := H1
          clear H1
          replace H := ob_ H
          obtain ⟨t109, A330, H⟩ := H
          replace H : (law07_DigestCompares.j2 kj14 l0 l1 (!t109)) = some r := H
          have A33 := Aside0.mk A330
          clear A330
          have H' := Aside0.mk H
          clear H
          go_wp2_with (first | ((with_reducible refine qm_ (f := 8) rfl ?_); refine goesL_ (some 46) rfl rfl Try.func8 (by kernel_rfl) rfl #[.slice A0 l0.length c0] rfl (by (try simp only [List.map_toArray, List.map_cons, List.map_nil]); first | done | rfl | (simp only [List.length_drop, List.length_take]; rfl)) ?_; (with_reducible refine (ref06_Right.calls kj14 _ _ l0 true _ ?side1 ?side2 A31.out).mono ?_); (case side1 => repeat (first | exact (Kd.qr_ HR0.out HB.out) | (with_reducible refine Kd.qp_ ?_ _) | (with_reducible refine Kd.qo_ ?_ _) | (with_reducible refine Kd.C_drew ?_))); (case side2 => exact HC0.out); rintro e w34 ⟨rfl, hb⟩; refine ⟨_, rfl, ?_⟩; have n0_ := Aside0.mk (qi_ (by repeat (first | (with_reducible first | exact HB.out | apply qc_ | apply qa_ | apply qb_) | exact HB.out)) hb); clear HB; have HB := n0_; clear n0_; (try clear hb); (try clear hb2); (try clear hk); (try clear hi)) | (go_at_call 9; (with_reducible refine (ref07_Right.calls kj14 _ _ l1 t109 _ ?side1 ?side2 A33.out).mono ?_); (case side1 => repeat (first | exact (Kd.qr_ HR1.out HB.out) | (with_reducible refine Kd.qp_ ?_ _) | (with_reducible refine Kd.qo_ ?_ _) | (with_reducible refine Kd.C_drew ?_))); (case side2 => exact HC1.out); rintro e w35 ⟨rfl, hb⟩; have n0_ := Aside0.mk (qi_ (by repeat (first | (with_reducible first | exact HB.out | apply qc_ | apply qa_ | apply qb_) | exact HB.out)) hb); clear HB; have HB := n0_; clear n0_; (try clear hb); (try clear hb2); (try clear hk); (try clear hi)))
          go_meet
          case rel => exact ⟨_, (!t109), (by first | rfl | (simp; done) | (simp [*]; done)), H', ⟨by have := HJ5.out; have := HJ14.out; first | omega | exact Nat.le_refl _⟩, ⟨by repeat (first | (with_reducible first | exact HB.out | apply qc_ | apply qa_ | apply qb_) | exact HB.out)⟩⟩
         ·replace c32 := Bool.eq_false_iff.mpr c32
          subst c32
          have H1 : (law07_DigestCompares.j2 kj14 l0 l1 true) = some r := by rw [if_neg (show ¬ (false = true) by decide)] at H; exact H
          clear H
          have H := H1
          clear H1
          have H' := Aside0.mk H
          clear H
          go_wp2_with (first | ((with_reducible refine qm_ (f := 8) rfl ?_); refine goesL_ (some 46) rfl rfl Try.func8 (by kernel_rfl) rfl #[.slice A0 l0.length c0] rfl (by (try simp only [List.map_toArray, List.map_cons, List.map_nil]); first | done | rfl | (simp only [List.length_drop, List.length_take]; rfl)) ?_; (with_reducible refine (ref06_Right.calls kj14 _ _ l0 false _ ?side1 ?side2 A31.out).mono ?_); (case side1 => repeat (first | exact (Kd.qr_ HR0.out HB.out) | (with_reducible refine Kd.qp_ ?_ _) | (with_reducible refine Kd.qo_ ?_ _) | (with_reducible refine Kd.C_drew ?_))); (case side2 => exact HC0.out); rintro e w36 ⟨rfl, hb⟩; refine ⟨_, rfl, ?_⟩; have n0_ := Aside0.mk (qi_ (by repeat (first | (with_reducible first | exact HB.out | apply qc_ | apply qa_ | apply qb_) | exact HB.out)) hb); clear HB; have HB := n0_; clear n0_; (try clear hb); (try clear hb2); (try clear hk); (try clear hi)))
          go_meet
          case rel => exact ⟨_, (true), (by first | rfl | (simp; done) | (simp [*]; done)), H', ⟨by have := HJ5.out; have := HJ14.out; first | omega | exact Nat.le_refl _⟩, ⟨by repeat (first | (with_reducible first | exact HB.out | apply qc_ | apply qa_ | apply qb_) | exact HB.out)⟩⟩
        case rest =>
         clear HC30
         try clear c1
         try clear c2
         try clear p2
         try clear c3
         try clear c5
         try clear c6
         try clear c7
         try clear c8
         try clear c9
         try clear c11
         try clear c11b0
         try clear c11b1
         try clear c13
         try clear c14
         try clear c18
         try clear c18b0
         try clear c18b1
         try clear c18b2
         try clear c23
         try clear c23b0
         try clear c23b1
         try clear c23b2
         try clear c29
         try clear c32
         try clear p2
         obtain ⟨kq, x52_29, rfl, HA, HJ29, HB⟩ := hcut
         cases kq with
         | zero => exact absurd HA.out (by simp [law07_DigestCompares.j2])
         | succ kj29 =>
          have H := HA.out
          clear HA
          simp only [law07_DigestCompares.j2] at H
          by_cases c37 : x52_29 = true
          ·subst c37
           have H1 : (some true) = some r := by rw [if_pos rfl] at H; exact H
           clear H
           have H := H1
           clear H1
           obtain rfl := Option.some.inj H
           go_wp2
           go_ret
           exact ⟨by first | rfl | (simp [errW_none, errW_some] <;> rfl) | (simp [*, errW_none, errW_some] <;> rfl), by repeat (first | (with_reducible first | exact HB.out | apply qc_ | apply qa_ | apply qb_) | exact HB.out)⟩
          ·replace c37 := Bool.eq_false_iff.mpr c37
           subst c37
           have H1 : ((digest_Compare.f kj29 l0 l1).bind fun bt110 => ((ref07_Compare.f kj29 l0 l1).bind fun bt116 => ((ref07_Same.f kj29 bt110.1 bt116.1).bind fun t122 => (if t122 = true then ((ref07_Same.f kj29 bt110.2 bt116.2).bind fun t123 => (if t123 = true then ((digest_Of.f kj29 l0).bind fun t124 => ((ref07_Of.f kj29 l0).bind fun t127 => ((ref07_Same.f kj29 t124 t127).bind fun t130 => (some t130)))) else (some false))) else (some false))))) = some r := by rw [if_neg (show ¬ (false = true) by decide)] at H; exact H
           clear H
           have H := H1
           clear H1
           replace H := ob_ H
           obtain ⟨⟨t110, t113⟩, A380, H⟩ := H
           replace H : ((ref07_Compare.f kj29 l0 l1).bind fun bt116 => ((ref07_Same.f kj29 t110 bt116.1).bind fun t122 => (if t122 = true then ((ref07_Same.f kj29 t113 bt116.2).bind fun t123 => (if t123 = true then ((digest_Of.f kj29 l0).bind fun t124 => ((ref07_Of.f kj29 l0).bind fun t127 => ((ref07_Same.f kj29 t124 t127).bind fun t130 => (some t130)))) else (some false))) else (some false)))) = some r := H
           have A38 := Aside0.mk A380
           clear A380
           replace H := ob_ H
           obtain ⟨⟨t116, t117⟩, A390, H⟩ := H
           replace H : ((ref07_Same.f kj29 t110 t116).bind fun t122 => (if t122 = true then ((ref07_Same.f kj29 t113 t117).bind fun t123 => (if t123 = true then ((digest_Of.f kj29 l0).bind fun t124 => ((ref07_Of.f kj29 l0).bind fun t127 => ((ref07_Same.f kj29 t124 t127).bind fun t130 => (some t130)))) else (some false))) else (some false))) = some r := H
           have A39 := Aside0.mk A390
           clear A390
           replace H := ob_ H
           obtain ⟨t122, A400, H⟩ := H
           replace H : (if t122 = true then ((ref07_Same.f kj29 t113 t117).bind fun t123 => (if t123 = true then ((digest_Of.f kj29 l0).bind fun t124 => ((ref07_Of.f kj29 l0).bind fun t127 => ((ref07_Same.f kj29 t124 t127).bind fun t130 => (some t130)))) else (some false))) else (some false)) = some r := H
           have A40 := Aside0.mk A400
           clear A400
           by_cases c41 : t122 = true
           ·subst c41
            have H1 : ((ref07_Same.f kj29 t113 t117).bind fun t123 => (if t123 = true then ((digest_Of.f kj29 l0).bind fun t124 => ((ref07_Of.f kj29 l0).bind fun t127 => ((ref07_Same.f kj29 t124 t127).bind fun t130 => (some t130)))) else (some false))) = some r := by rw [if_pos rfl] at H; exact H
            clear H
            have H := H1
            clear H1
            replace H := ob_ H
            obtain ⟨t123, A420, H⟩ := H
            replace H : (if t123 = true then ((digest_Of.f kj29 l0).bind fun t124 => ((ref07_Of.f kj29 l0).bind fun t127 => ((ref07_Same.f kj29 t124 t127).bind fun t130 => (some t130)))) else (some false)) = some r := H
            have A42 := Aside0.mk A420
            clear A420
            by_cases c43 : t123 = true
            ·subst c43
             have H1 : ((digest_Of.f kj29 l0).bind fun t124 => ((ref07_Of.f kj29 l0).bind fun t127 => ((ref07_Same.f kj29 t124 t127).bind fun t130 => (some t130)))) = some r := by rw [if_pos rfl] at H; exact H
             clear H
             have H := H1
             clear H1
             replace H := ob_ H
             obtain ⟨t124, A440, H⟩ := H
             replace H : ((ref07_Of.f kj29 l0).bind fun t127 => ((ref07_Same.f kj29 t124 t127).bind fun t130 => (some t130))) = some r := H
             have A44 := Aside0.mk A440
             clear A440
             replace H := ob_ H
             obtain ⟨t127, A450, H⟩ := H
             replace H : ((ref07_Same.f kj29 t124 t127).bind fun t130 => (some t130)) = some r := H
             have A45 := Aside0.mk A450
             clear A450
             replace H := ob_ H
             obtain ⟨t130, A460, H⟩ := H
             replace H : (some t130) = some r := H
             have A46 := Aside0.mk A460
             clear A460
             obtain rfl := Option.some.inj H
             go_wp2_with (first | ((with_reducible refine qm_ (f := 10) rfl ?_); refine goesL_ (some 56) rfl rfl Try.func10 (by kernel_rfl) rfl #[.slice A0 l0.length c0, .slice A1 l1.length c1] rfl (by (try simp only [List.map_toArray, List.map_cons, List.map_nil]); first | done | rfl | (simp only [List.length_drop, List.length_take]; rfl)) ?_; (with_reducible refine (digest_Compare.calls kj29 _ _ l0 (fun k_ => k_ < w.heap.size) _ _ l1 t110 t113 _ ?side1 ?side2 ?side3 A38.out).mono ?_); (case side1 => repeat (first | exact (Kd.qr_ HR0.out HB.out) | (with_reducible refine Kd.qp_ ?_ _) | (with_reducible refine Kd.qo_ ?_ _) | (with_reducible refine Kd.C_drew ?_))); (case side2 => exact HC0.out); (case side3 => exact Kd.V_mk HC1.out (Kd.F_below (Kd.C_F k30_heap HR1.out) (by repeat (first | (with_reducible first | exact HB.out | apply qc_ | apply qa_ | apply qb_) | exact HB.out)))); rintro e w47 ⟨v111, v114, rfl, ho0, ho1, hb⟩; refine ⟨_, rfl, ?_⟩; have n0_ := Aside0.mk (Kd.qt_ (Kd.R_mono (ok' := fun k_ => some k_ ≠ (v114 : Value).ownBlock) ho0 (fun _ hk_ => hk_.2)) (qg_ (by repeat (first | (with_reducible first | exact HB.out | apply qc_ | apply qa_ | apply qb_) | exact HB.out)))); have n1_ := Aside0.mk (Kd.qt_ (Kd.R_mono (ok' := fun k_ => some k_ ≠ (v111 : Value).ownBlock) ho1 (fun _ hk_ => hk_.2)) (qg_ (by repeat (first | (with_reducible first | exact HB.out | apply qc_ | apply qa_ | apply qb_) | exact HB.out)))); have n2_ := Aside0.mk (qi_ (by repeat (first | (with_reducible first | exact HB.out | apply qc_ | apply qa_ | apply qb_) | exact HB.out)) hb); clear HB; have HO112 := n0_; have HO115 := n1_; have HB := n2_; clear n0_ n1_ n2_; (try clear hb); (try clear hb2); (try clear hk); (try clear hi); (try clear ho0); (try clear ho1)) | ((with_reducible refine qm_ (f := 15) rfl ?_); refine goesL_ (some 62) rfl rfl Try.func15 (by kernel_rfl) rfl #[.slice A0 l0.length c0, .slice A1 l1.length c1] rfl (by (try simp only [List.map_toArray, List.map_cons, List.map_nil]); first | done | rfl | (simp only [List.length_drop, List.length_take]; rfl)) ?_; (with_reducible refine (ref07_Compare.calls kj29 _ _ l0 _ _ l1 t116 t117 _ ?side1 ?side2 ?side3 ?side4 A39.out).mono ?_); (case side1 => repeat (first | exact (Kd.qr_ HR0.out HB.out) | (with_reducible refine Kd.qp_ ?_ _) | (with_reducible refine Kd.qo_ ?_ _) | (with_reducible refine Kd.C_drew ?_))); (case side2 => exact HC0.out); (case side3 => repeat (first | exact (Kd.qr_ HR1.out HB.out) | (with_reducible refine Kd.qp_ ?_ _) | (with_reducible refine Kd.qo_ ?_ _) | (with_reducible refine Kd.C_drew ?_))); (case side4 => exact HC1.out); rintro e w48 ⟨v118, v120, rfl, ho0, ho1, hb⟩; refine ⟨_, rfl, ?_⟩; have n0_ := Aside0.mk (Kd.R_mono (Kd.R_told (Kd.R_told (Kd.R_old (by (with_reducible repeat (first | apply Kd.qe_ | apply Kd.qd_ | apply Kd.R_drew)); exact HO112.out) hb) (Kd.R_base ho0)) (Kd.R_base ho1)) (fun _ h_ => h_.1)); have n1_ := Aside0.mk (Kd.R_mono (Kd.R_told (Kd.R_told (Kd.R_old (by (with_reducible repeat (first | apply Kd.qe_ | apply Kd.qd_ | apply Kd.R_drew)); exact HO115.out) hb) (Kd.R_base ho0)) (Kd.R_base ho1)) (fun _ h_ => h_.1)); have n2_ := Aside0.mk (Kd.qt_ (Kd.R_new' (Kd.R_new' ho0 (Kd.R_lt (by (with_reducible repeat (first | apply Kd.qe_ | apply Kd.qd_ | apply Kd.R_drew)); exact HO112.out))) (Kd.R_lt (by (with_reducible repeat (first | apply Kd.qe_ | apply Kd.qd_ | apply Kd.R_drew)); exact HO115.out))) (qg_ (by repeat (first | (with_reducible first | exact HB.out | apply qc_ | apply qa_ | apply qb_) | exact HB.out)))); have n3_ := Aside0.mk (Kd.qt_ (Kd.R_new' (Kd.R_new' ho1 (Kd.R_lt (by (with_reducible repeat (first | apply Kd.qe_ | apply Kd.qd_ | apply Kd.R_drew)); exact HO112.out))) (Kd.R_lt (by (with_reducible repeat (first | apply Kd.qe_ | apply Kd.qd_ | apply Kd.R_drew)); exact HO115.out))) (qg_ (by repeat (first | (with_reducible first | exact HB.out | apply qc_ | apply qa_ | apply qb_) | exact HB.out)))); have n4_ := Aside0.mk (qi_ (by repeat (first | (with_reducible first | exact HB.out | apply qc_ | apply qa_ | apply qb_) | exact HB.out)) hb); clear HO112; clear HO115; clear HB; have HO112 := n0_; have HO115 := n1_; have HO119 := n2_; have HO121 := n3_; have HB := n4_; clear n0_ n1_ n2_ n3_ n4_; (try clear hb); (try clear hb2); (try clear hk); (try clear hi); (try clear ho0); (try clear ho1); obtain ⟨Ao49, co49, eo49⟩ := Kd.qu_ HO112.out; subst eo49; obtain ⟨Ao50, co50, eo50⟩ := Kd.qu_ HO119.out; subst eo50) | ((with_reducible refine qm_ (f := 12) rfl ?_); refine goesL_ (some 67) rfl rfl Try.func12 (by kernel_rfl) rfl #[.slice Ao49 t110.length co49, .slice Ao50 t116.length co50] rfl (by (try simp only [List.map_toArray, List.map_cons, List.map_nil]); first | done | rfl | (simp only [List.length_drop, List.length_take]; rfl)) ?_; (with_reducible refine (ref07_Same.calls kj29 _ _ t110 _ _ t116 true _ ?side1 ?side2 ?side3 ?side4 A40.out).mono ?_); (case side1 => repeat (first | exact (Kd.R_reads' HO112.out).2.2 | (with_reducible refine Kd.qp_ ?_ _) | (with_reducible refine Kd.qo_ ?_ _) | (with_reducible refine Kd.C_drew ?_))); (case side2 => exact (Kd.R_reads' HO112.out).2.1); (case side3 => repeat (first | exact (Kd.R_reads' HO119.out).2.2 | (with_reducible refine Kd.qp_ ?_ _) | (with_reducible refine Kd.qo_ ?_ _) | (with_reducible refine Kd.C_drew ?_))); (case side4 => exact (Kd.R_reads' HO119.out).2.1); rintro e w' ⟨rfl, ⟨nd, rfl⟩⟩; refine ⟨_, rfl, ?_⟩; obtain ⟨Ao51, co51, eo51⟩ := Kd.qu_ HO115.out; subst eo51; obtain ⟨Ao52, co52, eo52⟩ := Kd.qu_ HO121.out; subst eo52) | (go_at_call 12; (with_reducible refine (ref07_Same.calls kj29 _ _ t113 _ _ t117 true _ ?side1 ?side2 ?side3 ?side4 A42.out).mono ?_); (case side1 => repeat (first | exact (Kd.R_reads' HO115.out).2.2 | (with_reducible refine Kd.qp_ ?_ _) | (with_reducible refine Kd.qo_ ?_ _) | (with_reducible refine Kd.C_drew ?_))); (case side2 => exact (Kd.R_reads' HO115.out).2.1); (case side3 => repeat (first | exact (Kd.R_reads' HO121.out).2.2 | (with_reducible refine Kd.qp_ ?_ _) | (with_reducible refine Kd.qo_ ?_ _) | (with_reducible refine Kd.C_drew ?_))); (case side4 => exact (Kd.R_reads' HO121.out).2.1); rintro e w' ⟨rfl, ⟨nd, rfl⟩⟩) | (go_at_call 11; (with_reducible refine (digest_Of.calls kj29 _ _ l0 t124 _ ?side1 ?side2 A44.out).mono ?_); (case side1 => repeat (first | exact (Kd.qr_ HR0.out (by repeat (first | (with_reducible first | exact HB.out | apply qc_ | apply qa_ | apply qb_) | exact HB.out))) | (with_reducible refine Kd.qp_ ?_ _) | (with_reducible refine Kd.qo_ ?_ _) | (with_reducible refine Kd.C_drew ?_))); (case side2 => exact HC0.out); rintro e w53 ⟨v125, rfl, ho0, hb⟩; have n0_ := Aside0.mk (Kd.R_elder' (by (with_reducible repeat (first | apply Kd.qe_ | apply Kd.qd_ | apply Kd.R_drew)); exact HO112.out) (Kd.R_base ho0) hb); have n1_ := Aside0.mk (Kd.R_elder' (by (with_reducible repeat (first | apply Kd.qe_ | apply Kd.qd_ | apply Kd.R_drew)); exact HO115.out) (Kd.R_base ho0) hb); have n2_ := Aside0.mk (Kd.R_elder' (by (with_reducible repeat (first | apply Kd.qe_ | apply Kd.qd_ | apply Kd.R_drew)); exact HO119.out) (Kd.R_base ho0) hb); have n3_ := Aside0.mk (Kd.R_elder' (by (with_reducible repeat (first | apply Kd.qe_ | apply Kd.qd_ | apply Kd.R_drew)); exact HO121.out) (Kd.R_base ho0) hb); have n4_ := Aside0.mk (Kd.qt_ (Kd.R_new' (Kd.R_new' (Kd.R_new' (Kd.R_new' ho0 (Kd.R_lt (by (with_reducible repeat (first | apply Kd.qe_ | apply Kd.qd_ | apply Kd.R_drew)); exact HO112.out))) (Kd.R_lt (by (with_reducible repeat (first | apply Kd.qe_ | apply Kd.qd_ | apply Kd.R_drew)); exact HO115.out))) (Kd.R_lt (by (with_reducible repeat (first | apply Kd.qe_ | apply Kd.qd_ | apply Kd.R_drew)); exact HO119.out))) (Kd.R_lt (by (with_reducible repeat (first | apply Kd.qe_ | apply Kd.qd_ | apply Kd.R_drew)); exact HO121.out))) (qg_ (by repeat (first | (with_reducible first | exact HB.out | apply qc_ | apply qa_ | apply qb_) | exact HB.out)))); have n5_ := Aside0.mk (qi_ (by repeat (first | (with_reducible first | exact HB.out | apply qc_ | apply qa_ | apply qb_) | exact HB.out)) hb); clear HO112; clear HO115; clear HO119; clear HO121; clear HB; have HO112 := n0_; have HO115 := n1_; have HO119 := n2_; have HO121 := n3_; have HO126 := n4_; have HB := n5_; clear n0_ n1_ n2_ n3_ n4_ n5_; (try clear hb); (try clear hb2); (try clear hk); (try clear hi); (try clear ho0)) | (go_at_call 16; (with_reducible refine (ref07_Of.calls kj29 _ _ l0 t127 _ ?side1 ?side2 A45.out).mono ?_); (case side1 => repeat (first | exact (Kd.qr_ HR0.out HB.out) | (with_reducible refine Kd.qp_ ?_ _) | (with_reducible refine Kd.qo_ ?_ _) | (with_reducible refine Kd.C_drew ?_))); (case side2 => exact HC0.out); rintro e w54 ⟨v128, rfl, ho0, hb⟩; have n0_ := Aside0.mk (Kd.R_elder' (by (with_reducible repeat (first | apply Kd.qe_ | apply Kd.qd_ | apply Kd.R_drew)); exact HO112.out) (Kd.R_base ho0) hb); have n1_ := Aside0.mk (Kd.R_elder' (by (with_reducible repeat (first | apply Kd.qe_ | apply Kd.qd_ | apply Kd.R_drew)); exact HO115.out) (Kd.R_base ho0) hb); have n2_ := Aside0.mk (Kd.R_elder' (by (with_reducible repeat (first | apply Kd.qe_ | apply Kd.qd_ | apply Kd.R_drew)); exact HO119.out) (Kd.R_base ho0) hb); have n3_ := Aside0.mk (Kd.R_elder' (by (with_reducible repeat (first | apply Kd.qe_ | apply Kd.qd_ | apply Kd.R_drew)); exact HO121.out) (Kd.R_base ho0) hb); have n4_ := Aside0.mk (Kd.R_elder' (by (with_reducible repeat (first | apply Kd.qe_ | apply Kd.qd_ | apply Kd.R_drew)); exact HO126.out) (Kd.R_base ho0) hb); have n5_ := Aside0.mk (Kd.qt_ (Kd.R_new' (Kd.R_new' (Kd.R_new' (Kd.R_new' (Kd.R_new' ho0 (Kd.R_lt (by (with_reducible repeat (first | apply Kd.qe_ | apply Kd.qd_ | apply Kd.R_drew)); exact HO112.out))) (Kd.R_lt (by (with_reducible repeat (first | apply Kd.qe_ | apply Kd.qd_ | apply Kd.R_drew)); exact HO115.out))) (Kd.R_lt (by (with_reducible repeat (first | apply Kd.qe_ | apply Kd.qd_ | apply Kd.R_drew)); exact HO119.out))) (Kd.R_lt (by (with_reducible repeat (first | apply Kd.qe_ | apply Kd.qd_ | apply Kd.R_drew)); exact HO121.out))) (Kd.R_lt (by (with_reducible repeat (first | apply Kd.qe_ | apply Kd.qd_ | apply Kd.R_drew)); exact HO126.out))) (qg_ (by repeat (first | (with_reducible first | exact HB.out | apply qc_ | apply qa_ | apply qb_) | exact HB.out)))); have n6_ := Aside0.mk (qi_ (by repeat (first | (with_reducible first | exact HB.out | apply qc_ | apply qa_ | apply qb_) | exact HB.out)) hb); clear HO112; clear HO115; clear HO119; clear HO121; clear HO126; clear HB; have HO112 := n0_; have HO115 := n1_; have HO119 := n2_; have HO121 := n3_; have HO126 := n4_; have HO129 := n5_; have HB := n6_; clear n0_ n1_ n2_ n3_ n4_ n5_ n6_; (try clear hb); (try clear hb2); (try clear hk); (try clear hi); (try clear ho0); obtain ⟨Ao55, co55, eo55⟩ := Kd.qu_ HO126.out; subst eo55; obtain ⟨Ao56, co56, eo56⟩ := Kd.qu_ HO129.out; subst eo56) | (go_at_call 12; (with_reducible refine (ref07_Same.calls kj29 _ _ t124 _ _ t127 t130 _ ?side1 ?side2 ?side3 ?side4 A46.out).mono ?_); (case side1 => repeat (first | exact (Kd.R_reads' HO126.out).2.2 | (with_reducible refine Kd.qp_ ?_ _) | (with_reducible refine Kd.qo_ ?_ _) | (with_reducible refine Kd.C_drew ?_))); (case side2 => exact (Kd.R_reads' HO126.out).2.1); (case side3 => repeat (first | exact (Kd.R_reads' HO129.out).2.2 | (with_reducible refine Kd.qp_ ?_ _) | (with_reducible refine Kd.qo_ ?_ _) | (with_reducible refine Kd.C_drew ?_))); (case side4 => exact (Kd.R_reads' HO129.out).2.1); rintro e w' ⟨rfl, ⟨nd, rfl⟩⟩))
             go_ret
             exact ⟨by first | rfl | (simp [errW_none, errW_some] <;> rfl) | (simp [*, errW_none, errW_some] <;> rfl), by repeat (first | (with_reducible first | exact HB.out | apply qc_ | apply qa_ | apply qb_) | exact HB.out)⟩
            ·replace c43 := Bool.eq_false_iff.mpr c43
             subst c43
             have H1 : (some false) = some r := by rw [if_neg (show ¬ (false = true) by decide)] at H; exact H
             clear H
             have H := H1
             clear H1
             obtain rfl := Option.some.inj H
             go_wp2_with (first | ((with_reducible refine qm_ (f := 10) rfl ?_); refine goesL_ (some 56) rfl rfl Try.func10 (by kernel_rfl) rfl #[.slice A0 l0.length c0, .slice A1 l1.length c1] rfl (by (try simp only [List.map_toArray, List.map_cons, List.map_nil]); first | done | rfl | (simp only [List.length_drop, List.length_take]; rfl)) ?_; (with_reducible refine (digest_Compare.calls kj29 _ _ l0 (fun k_ => k_ < w.heap.size) _ _ l1 t110 t113 _ ?side1 ?side2 ?side3 A38.out).mono ?_); (case side1 => repeat (first | exact (Kd.qr_ HR0.out HB.out) | (with_reducible refine Kd.qp_ ?_ _) | (with_reducible refine Kd.qo_ ?_ _) | (with_reducible refine Kd.C_drew ?_))); (case side2 => exact HC0.out); (case side3 => exact Kd.V_mk HC1.out (Kd.F_below (Kd.C_F k30_heap HR1.out) (by repeat (first | (with_reducible first | exact HB.out | apply qc_ | apply qa_ | apply qb_) | exact HB.out)))); rintro e w57 ⟨v111, v114, rfl, ho0, ho1, hb⟩; refine ⟨_, rfl, ?_⟩; have n0_ := Aside0.mk (Kd.qt_ (Kd.R_mono (ok' := fun k_ => some k_ ≠ (v114 : Value).ownBlock) ho0 (fun _ hk_ => hk_.2)) (qg_ (by repeat (first | (with_reducible first | exact HB.out | apply qc_ | apply qa_ | apply qb_) | exact HB.out)))); have n1_ := Aside0.mk (Kd.qt_ (Kd.R_mono (ok' := fun k_ => some k_ ≠ (v111 : Value).ownBlock) ho1 (fun _ hk_ => hk_.2)) (qg_ (by repeat (first | (with_reducible first | exact HB.out | apply qc_ | apply qa_ | apply qb_) | exact HB.out)))); have n2_ := Aside0.mk (qi_ (by repeat (first | (with_reducible first | exact HB.out | apply qc_ | apply qa_ | apply qb_) | exact HB.out)) hb); clear HB; have HO112 := n0_; have HO115 := n1_; have HB := n2_; clear n0_ n1_ n2_; (try clear hb); (try clear hb2); (try clear hk); (try clear hi); (try clear ho0); (try clear ho1)) | ((with_reducible refine qm_ (f := 15) rfl ?_); refine goesL_ (some 62) rfl rfl Try.func15 (by kernel_rfl) rfl #[.slice A0 l0.length c0, .slice A1 l1.length c1] rfl (by (try simp only [List.map_toArray, List.map_cons, List.map_nil]); first | done | rfl | (simp only [List.length_drop, List.length_take]; rfl)) ?_; (with_reducible refine (ref07_Compare.calls kj29 _ _ l0 _ _ l1 t116 t117 _ ?side1 ?side2 ?side3 ?side4 A39.out).mono ?_); (case side1 => repeat (first | exact (Kd.qr_ HR0.out HB.out) | (with_reducible refine Kd.qp_ ?_ _) | (with_reducible refine Kd.qo_ ?_ _) | (with_reducible refine Kd.C_drew ?_))); (case side2 => exact HC0.out); (case side3 => repeat (first | exact (Kd.qr_ HR1.out HB.out) | (with_reducible refine Kd.qp_ ?_ _) | (with_reducible refine Kd.qo_ ?_ _) | (with_reducible refine Kd.C_drew ?_))); (case side4 => exact HC1.out); rintro e w58 ⟨v118, v120, rfl, ho0, ho1, hb⟩; refine ⟨_, rfl, ?_⟩; have n0_ := Aside0.mk (Kd.R_mono (Kd.R_told (Kd.R_told (Kd.R_old (by (with_reducible repeat (first | apply Kd.qe_ | apply Kd.qd_ | apply Kd.R_drew)); exact HO112.out) hb) (Kd.R_base ho0)) (Kd.R_base ho1)) (fun _ h_ => h_.1)); have n1_ := Aside0.mk (Kd.R_mono (Kd.R_told (Kd.R_told (Kd.R_old (by (with_reducible repeat (first | apply Kd.qe_ | apply Kd.qd_ | apply Kd.R_drew)); exact HO115.out) hb) (Kd.R_base ho0)) (Kd.R_base ho1)) (fun _ h_ => h_.1)); have n2_ := Aside0.mk (Kd.qt_ (Kd.R_new' (Kd.R_new' ho0 (Kd.R_lt (by (with_reducible repeat (first | apply Kd.qe_ | apply Kd.qd_ | apply Kd.R_drew)); exact HO112.out))) (Kd.R_lt (by (with_reducible repeat (first | apply Kd.qe_ | apply Kd.qd_ | apply Kd.R_drew)); exact HO115.out))) (qg_ (by repeat (first | (with_reducible first | exact HB.out | apply qc_ | apply qa_ | apply qb_) | exact HB.out)))); have n3_ := Aside0.mk (Kd.qt_ (Kd.R_new' (Kd.R_new' ho1 (Kd.R_lt (by (with_reducible repeat (first | apply Kd.qe_ | apply Kd.qd_ | apply Kd.R_drew)); exact HO112.out))) (Kd.R_lt (by (with_reducible repeat (first | apply Kd.qe_ | apply Kd.qd_ | apply Kd.R_drew)); exact HO115.out))) (qg_ (by repeat (first | (with_reducible first | exact HB.out | apply qc_ | apply qa_ | apply qb_) | exact HB.out)))); have n4_ := Aside0.mk (qi_ (by repeat (first | (with_reducible first | exact HB.out | apply qc_ | apply qa_ | apply qb_) | exact HB.out)) hb); clear HO112; clear HO115; clear HB; have HO112 := n0_; have HO115 := n1_; have HO119 := n2_; have HO121 := n3_; have HB := n4_; clear n0_ n1_ n2_ n3_ n4_; (try clear hb); (try clear hb2); (try clear hk); (try clear hi); (try clear ho0); (try clear ho1); obtain ⟨Ao59, co59, eo59⟩ := Kd.qu_ HO112.out; subst eo59; obtain ⟨Ao60, co60, eo60⟩ := Kd.qu_ HO119.out; subst eo60) | ((with_reducible refine qm_ (f := 12) rfl ?_); refine goesL_ (some 67) rfl rfl Try.func12 (by kernel_rfl) rfl #[.slice Ao59 t110.length co59, .slice Ao60 t116.length co60] rfl (by (try simp only [List.map_toArray, List.map_cons, List.map_nil]); first | done | rfl | (simp only [List.length_drop, List.length_take]; rfl)) ?_; (with_reducible refine (ref07_Same.calls kj29 _ _ t110 _ _ t116 true _ ?side1 ?side2 ?side3 ?side4 A40.out).mono ?_); (case side1 => repeat (first | exact (Kd.R_reads' HO112.out).2.2 | (with_reducible refine Kd.qp_ ?_ _) | (with_reducible refine Kd.qo_ ?_ _) | (with_reducible refine Kd.C_drew ?_))); (case side2 => exact (Kd.R_reads' HO112.out).2.1); (case side3 => repeat (first | exact (Kd.R_reads' HO119.out).2.2 | (with_reducible refine Kd.qp_ ?_ _) | (with_reducible refine Kd.qo_ ?_ _) | (with_reducible refine Kd.C_drew ?_))); (case side4 => exact (Kd.R_reads' HO119.out).2.1); rintro e w' ⟨rfl, ⟨nd, rfl⟩⟩; refine ⟨_, rfl, ?_⟩; obtain ⟨Ao61, co61, eo61⟩ := Kd.qu_ HO115.out; subst eo61; obtain ⟨Ao62, co62, eo62⟩ := Kd.qu_ HO121.out; subst eo62) | (go_at_call 12; (with_reducible refine (ref07_Same.calls kj29 _ _ t113 _ _ t117 false _ ?side1 ?side2 ?side3 ?side4 A42.out).mono ?_); (case side1 => repeat (first | exact (Kd.R_reads' HO115.out).2.2 | (with_reducible refine Kd.qp_ ?_ _) | (with_reducible refine Kd.qo_ ?_ _) | (with_reducible refine Kd.C_drew ?_))); (case side2 => exact (Kd.R_reads' HO115.out).2.1); (case side3 => repeat (first | exact (Kd.R_reads' HO121.out).2.2 | (with_reducible refine Kd.qp_ ?_ _) | (with_reducible refine Kd.qo_ ?_ _) | (with_reducible refine Kd.C_drew ?_))); (case side4 => exact (Kd.R_reads' HO121.out).2.1); rintro e w' ⟨rfl, ⟨nd, rfl⟩⟩))
             go_ret
             exact ⟨by first | rfl | (simp [errW_none, errW_some] <;> rfl) | (simp [*, errW_none, errW_some] <;> rfl), by repeat (first | (with_reducible first | exact HB.out | apply qc_ | apply qa_ | apply qb_) | exact HB.out)⟩
           ·replace c41 := Bool.eq_false_iff.mpr c41
            subst c41
            have H1 : (some false) = some r := by rw [if_neg (show ¬ (false = true) by decide)] at H; exact H
            clear H
            have H := H1
            clear H1
            obtain rfl := Option.some.inj H
            go_wp2_with (first | ((with_reducible refine qm_ (f := 10) rfl ?_); refine goesL_ (some 56) rfl rfl Try.func10 (by kernel_rfl) rfl #[.slice A0 l0.length c0, .slice A1 l1.length c1] rfl (by (try simp only [List.map_toArray, List.map_cons, List.map_nil]); first | done | rfl | (simp only [List.length_drop, List.length_take]; rfl)) ?_; (with_reducible refine (digest_Compare.calls kj29 _ _ l0 (fun k_ => k_ < w.heap.size) _ _ l1 t110 t113 _ ?side1 ?side2 ?side3 A38.out).mono ?_); (case side1 => repeat (first | exact (Kd.qr_ HR0.out HB.out) | (with_reducible refine Kd.qp_ ?_ _) | (with_reducible refine Kd.qo_ ?_ _) | (with_reducible refine Kd.C_drew ?_))); (case side2 => exact HC0.out); (case side3 => exact Kd.V_mk HC1.out (Kd.F_below (Kd.C_F k30_heap HR1.out) (by repeat (first | (with_reducible first | exact HB.out | apply qc_ | apply qa_ | apply qb_) | exact HB.out)))); rintro e w63 ⟨v111, v114, rfl, ho0, ho1, hb⟩; refine ⟨_, rfl, ?_⟩; have n0_ := Aside0.mk (Kd.qt_ (Kd.R_mono (ok' := fun k_ => some k_ ≠ (v114 : Value).ownBlock) ho0 (fun _ hk_ => hk_.2)) (qg_ (by repeat (first | (with_reducible first | exact HB.out | apply qc_ | apply qa_ | apply qb_) | exact HB.out)))); have n1_ := Aside0.mk (Kd.qt_ (Kd.R_mono (ok' := fun k_ => some k_ ≠ (v111 : Value).ownBlock) ho1 (fun _ hk_ => hk_.2)) (qg_ (by repeat (first | (with_reducible first | exact HB.out | apply qc_ | apply qa_ | apply qb_) | exact HB.out)))); have n2_ := Aside0.mk (qi_ (by repeat (first | (with_reducible first | exact HB.out | apply qc_ | apply qa_ | apply qb_) | exact HB.out)) hb); clear HB; have HO112 := n0_; have HO115 := n1_; have HB := n2_; clear n0_ n1_ n2_; (try clear hb); (try clear hb2); (try clear hk); (try clear hi); (try clear ho0); (try clear ho1)) | ((with_reducible refine qm_ (f := 15) rfl ?_); refine goesL_ (some 62) rfl rfl Try.func15 (by kernel_rfl) rfl #[.slice A0 l0.length c0, .slice A1 l1.length c1] rfl (by (try simp only [List.map_toArray, List.map_cons, List.map_nil]); first | done | rfl | (simp only [List.length_drop, List.length_take]; rfl)) ?_; (with_reducible refine (ref07_Compare.calls kj29 _ _ l0 _ _ l1 t116 t117 _ ?side1 ?side2 ?side3 ?side4 A39.out).mono ?_); (case side1 => repeat (first | exact (Kd.qr_ HR0.out HB.out) | (with_reducible refine Kd.qp_ ?_ _) | (with_reducible refine Kd.qo_ ?_ _) | (with_reducible refine Kd.C_drew ?_))); (case side2 => exact HC0.out); (case side3 => repeat (first | exact (Kd.qr_ HR1.out HB.out) | (with_reducible refine Kd.qp_ ?_ _) | (with_reducible refine Kd.qo_ ?_ _) | (with_reducible refine Kd.C_drew ?_))); (case side4 => exact HC1.out); rintro e w64 ⟨v118, v120, rfl, ho0, ho1, hb⟩; refine ⟨_, rfl, ?_⟩; have n0_ := Aside0.mk (Kd.R_mono (Kd.R_told (Kd.R_told (Kd.R_old (by (with_reducible repeat (first | apply Kd.qe_ | apply Kd.qd_ | apply Kd.R_drew)); exact HO112.out) hb) (Kd.R_base ho0)) (Kd.R_base ho1)) (fun _ h_ => h_.1)); have n1_ := Aside0.mk (Kd.R_mono (Kd.R_told (Kd.R_told (Kd.R_old (by (with_reducible repeat (first | apply Kd.qe_ | apply Kd.qd_ | apply Kd.R_drew)); exact HO115.out) hb) (Kd.R_base ho0)) (Kd.R_base ho1)) (fun _ h_ => h_.1)); have n2_ := Aside0.mk (Kd.qt_ (Kd.R_new' (Kd.R_new' ho0 (Kd.R_lt (by (with_reducible repeat (first | apply Kd.qe_ | apply Kd.qd_ | apply Kd.R_drew)); exact HO112.out))) (Kd.R_lt (by (with_reducible repeat (first | apply Kd.qe_ | apply Kd.qd_ | apply Kd.R_drew)); exact HO115.out))) (qg_ (by repeat (first | (with_reducible first | exact HB.out | apply qc_ | apply qa_ | apply qb_) | exact HB.out)))); have n3_ := Aside0.mk (Kd.qt_ (Kd.R_new' (Kd.R_new' ho1 (Kd.R_lt (by (with_reducible repeat (first | apply Kd.qe_ | apply Kd.qd_ | apply Kd.R_drew)); exact HO112.out))) (Kd.R_lt (by (with_reducible repeat (first | apply Kd.qe_ | apply Kd.qd_ | apply Kd.R_drew)); exact HO115.out))) (qg_ (by repeat (first | (with_reducible first | exact HB.out | apply qc_ | apply qa_ | apply qb_) | exact HB.out)))); have n4_ := Aside0.mk (qi_ (by repeat (first | (with_reducible first | exact HB.out | apply qc_ | apply qa_ | apply qb_) | exact HB.out)) hb); clear HO112; clear HO115; clear HB; have HO112 := n0_; have HO115 := n1_; have HO119 := n2_; have HO121 := n3_; have HB := n4_; clear n0_ n1_ n2_ n3_ n4_; (try clear hb); (try clear hb2); (try clear hk); (try clear hi); (try clear ho0); (try clear ho1); obtain ⟨Ao65, co65, eo65⟩ := Kd.qu_ HO112.out; subst eo65; obtain ⟨Ao66, co66, eo66⟩ := Kd.qu_ HO119.out; subst eo66) | ((with_reducible refine qm_ (f := 12) rfl ?_); refine goesL_ (some 67) rfl rfl Try.func12 (by kernel_rfl) rfl #[.slice Ao65 t110.length co65, .slice Ao66 t116.length co66] rfl (by (try simp only [List.map_toArray, List.map_cons, List.map_nil]); first | done | rfl | (simp only [List.length_drop, List.length_take]; rfl)) ?_; (with_reducible refine (ref07_Same.calls kj29 _ _ t110 _ _ t116 false _ ?side1 ?side2 ?side3 ?side4 A40.out).mono ?_); (case side1 => repeat (first | exact (Kd.R_reads' HO112.out).2.2 | (with_reducible refine Kd.qp_ ?_ _) | (with_reducible refine Kd.qo_ ?_ _) | (with_reducible refine Kd.C_drew ?_))); (case side2 => exact (Kd.R_reads' HO112.out).2.1); (case side3 => repeat (first | exact (Kd.R_reads' HO119.out).2.2 | (with_reducible refine Kd.qp_ ?_ _) | (with_reducible refine Kd.qo_ ?_ _) | (with_reducible refine Kd.C_drew ?_))); (case side4 => exact (Kd.R_reads' HO119.out).2.1); rintro e w' ⟨rfl, ⟨nd, rfl⟩⟩; refine ⟨_, rfl, ?_⟩))
            go_ret
            exact ⟨by first | rfl | (simp [errW_none, errW_some] <;> rfl) | (simp [*, errW_none, errW_some] <;> rfl), by repeat (first | (with_reducible first | exact HB.out | apply qc_ | apply qa_ | apply qb_) | exact HB.out)⟩
 ·replace c5 := Bool.eq_false_iff.mpr c5
  subst c5
  have H1 : (some false) = some r := by rw [if_neg (show ¬ (false = true) by decide)] at H; exact H
  clear H
  have H := H1
  clear H1
  obtain rfl := Option.some.inj H
  go_enter Try.func5, Try.ntmps5
  go_wp2_with (first | ((with_reducible refine qm_ (f := 6) rfl ?_); refine goesL_ (some 11) rfl rfl Try.func6 (by kernel_rfl) rfl #[] rfl (by (try simp only [List.map_toArray, List.map_cons, List.map_nil]); first | done | rfl | (simp only [List.length_drop, List.length_take]; rfl)) ?_; (with_reducible refine (law07_alive.calls k  false _ A4.out).mono ?_); rintro e w67 ⟨rfl, hb⟩; refine ⟨_, rfl, ?_⟩; have n0_ := Aside0.mk (qi_ (by repeat (first | (with_reducible first | exact HB.out | apply qc_ | apply qa_ | apply qb_) | exact HB.out)) hb); clear HB; have HB := n0_; clear n0_; (try clear hb); (try clear hb2); (try clear hk); (try clear hi)))
  go_ret
  exact ⟨by first | rfl | (simp [errW_none, errW_some] <;> rfl) | (simp [*, errW_none, errW_some] <;> rfl), by repeat (first | (with_reducible first | exact HB.out | apply qc_ | apply qa_ | apply qb_) | exact HB.out)⟩
end Go.Proofs.Ytcmligagkaimeaa.P

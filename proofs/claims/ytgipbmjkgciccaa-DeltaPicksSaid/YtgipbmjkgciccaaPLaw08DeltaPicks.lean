/- What this function of the program comes to, and that the machine's call does it. No condition. -/
import Derived.Test.YtgipbmjkgciccaaPLaw08Alive
import Derived.Test.YtgipbmjkgciccaaPRef06Great
import Derived.Test.YtgipbmjkgciccaaPRef06Right
import Derived.Test.YtgipbmjkgciccaaPRef07Right
import Derived.Test.YtgipbmjkgciccaaPRef08Same
import Derived.Test.YtgipbmjkgciccaaPRef08Pick
import Derived.Test.YtgipbmjkgciccaaPRef08Full
namespace Go.Proofs.Ytgipbmjkgciccaa.P
set_option maxHeartbeats 8000000
set_option maxRecDepth 100000
open Go.RowKit Go.Proofs.YtgipbmjkgciccaaW.PrintWords Go.Proofs.YtgipbmjkgciccaaW.PrintLast Go.Proofs.YtgipbmjkgciccaaW.PrintMore
attribute [local go_sem] max2_int min2_int max_two min_two max_three min_three max_four min_four Go.Proofs.YtgipbmjkgciccaaW.Hw.string_gtr
set_option linter.unusedVariables false
set_option linter.unusedSimpArgs false
def law08_DeltaPicks.j0 : Nat → List (S39) → List (S60) → Bool → Option (Bool)
 | 0, _, _, _ => none
 | k + 1, x0, x1, x24 => if x24 = true then (some true) else ((delta_Pick.f k x0 x1).bind fun t105 => ((ref08_Pick.f k x0 x1).bind fun t108 => ((ref08_Same.f k t105 t108).bind fun t111 => (if t111 = true then ((delta_Full.f k x0).bind fun t112 => ((ref08_Full.f k x0).bind fun t115 => ((ref08_Same.f k t112 t115).bind fun t118 => (if t118 = true then ((delta_Right.f k t105).bind fun t119 => (if t119 = true then ((delta_Full.f k x0).bind fun t120 => ((delta_Right.f k t120).bind fun t123 => (some t123))) else (some false))) else (some false))))) else (some false)))))
def law08_DeltaPicks.f (k : Nat) (l0 : List (S39)) (l1 : List (S60)) : Option (Bool) := (law08_alive.f k).bind fun t101 => (if t101 = true then ((ref06_Great.f k l0).bind fun t102 => (if t102 = true then (law08_DeltaPicks.j0 k l0 l1 true) else (if (l1.length : Int) > 40 then (law08_DeltaPicks.j0 k l0 l1 true) else ((ref06_Right.f k l0).bind fun t103 => (if t103 = true then ((ref07_Right.f k l1).bind fun t104 => (law08_DeltaPicks.j0 k l0 l1 (!t104))) else (law08_DeltaPicks.j0 k l0 l1 true)))))) else (some false))
theorem law08_DeltaPicks.mono_l : ∀ k, (∀ y0 y1 y2, LeO (law08_DeltaPicks.j0 k y0 y1 y2) (law08_DeltaPicks.j0 (k + 1) y0 y1 y2))
 | 0 => fun _ _ _ r h => by simp [law08_DeltaPicks.j0] at h
 | k + 1 => by
  have ih0 := law08_DeltaPicks.mono_l k
  ·intro y0 y1 y2
   unfold law08_DeltaPicks.j0
   repeat' first
   | (with_reducible exact ih0 _ _ _)
   | (with_reducible exact law08_alive.mono _)
   | (with_reducible exact ref06_Great.mono _ _)
   | (with_reducible exact ref06_Right.mono _ _)
   | (with_reducible exact ref07_Right.mono _ _)
   | (with_reducible exact ref08_Full.mono _ _)
   | (with_reducible exact ref08_Pick.mono _ _ _)
   | (with_reducible exact ref08_Same.mono _ _ _)
   | (with_reducible exact delta_Full.mono _ _)
   | (with_reducible exact delta_Pick.mono _ _ _)
   | (with_reducible exact delta_Right.mono _ _)
   | (with_reducible exact LeO.refl _)
   | (with_reducible exact LeO.none _)
   | (with_reducible refine LeO.ite ?_ ?_)
   | (with_reducible refine LeO.bind ?_ (fun _ => ?_))
   | exact ih0 _ _ _
   | exact law08_alive.mono _
   | exact ref06_Great.mono _ _
   | exact ref06_Right.mono _ _
   | exact ref07_Right.mono _ _
   | exact ref08_Full.mono _ _
   | exact ref08_Pick.mono _ _ _
   | exact ref08_Same.mono _ _ _
   | exact delta_Full.mono _ _
   | exact delta_Pick.mono _ _ _
   | exact delta_Right.mono _ _
   | exact LeO.none _
   | refine LeO.ite ?_ ?_
   | refine LeO.bind ?_ (fun _ => ?_)
theorem law08_DeltaPicks.mono : ∀ a0 a1 k, LeO (law08_DeltaPicks.f k a0 a1) (law08_DeltaPicks.f (k + 1) a0 a1) := by
 intro a0 a1 k; have ih0 := law08_DeltaPicks.mono_l k
 unfold law08_DeltaPicks.f
 repeat' first
   | (with_reducible exact ih0 _ _ _)
   | (with_reducible exact law08_alive.mono _)
   | (with_reducible exact ref06_Great.mono _ _)
   | (with_reducible exact ref06_Right.mono _ _)
   | (with_reducible exact ref07_Right.mono _ _)
   | (with_reducible exact ref08_Full.mono _ _)
   | (with_reducible exact ref08_Pick.mono _ _ _)
   | (with_reducible exact ref08_Same.mono _ _ _)
   | (with_reducible exact delta_Full.mono _ _)
   | (with_reducible exact delta_Pick.mono _ _ _)
   | (with_reducible exact delta_Right.mono _ _)
   | (with_reducible exact LeO.refl _)
   | (with_reducible exact LeO.none _)
   | (with_reducible refine LeO.ite ?_ ?_)
   | (with_reducible refine LeO.bind ?_ (fun _ => ?_))
   | exact ih0 _ _ _
   | exact law08_alive.mono _
   | exact ref06_Great.mono _ _
   | exact ref06_Right.mono _ _
   | exact ref07_Right.mono _ _
   | exact ref08_Full.mono _ _
   | exact ref08_Pick.mono _ _ _
   | exact ref08_Same.mono _ _ _
   | exact delta_Full.mono _ _
   | exact delta_Pick.mono _ _ _
   | exact delta_Right.mono _ _
   | exact LeO.none _
   | refine LeO.ite ?_ ?_
   | refine LeO.bind ?_ (fun _ => ?_)
theorem law08_DeltaPicks.calls (k : Nat) (A0 : Option Addr) (c0 : Nat) (l0 : List (S39)) (A1 : Option Addr) (c1 : Nat) (l1 : List (S60)) (r : Bool) (w : World) (hr0 : Kd.C k39 w A0 l0.length l0) (hc0 : l0.length ≤ c0) (hr1 : Kd.C k60 w A1 l1.length l1) (hc1 : l1.length ≤ c1) (h : law08_DeltaPicks.f k l0 l1 = some r) (hrt : r = true) :
  Calls Try.prog 3 #[.slice A0 l0.length c0, .slice A1 l1.length c1] w fun e w' => e = .returned (.bool r) ∧ Below w.heap.size w w' := by
 have HRT := Zq_.mk hrt; clear hrt; have HR0 := Zq_.mk hr0; have HC0 := Zq_.mk hc0; clear hr0 hc0; have HR1 := Zq_.mk hr1; have HC1 := Zq_.mk hc1; clear hr1 hc1; have HB := Zq_.mk (Below.refl w.heap.size w); have H : ((law08_alive.f k).bind fun t101 => (if t101 = true then ((ref06_Great.f k l0).bind fun t102 => (if t102 = true then (law08_DeltaPicks.j0 k l0 l1 true) else (if (l1.length : Int) > 40 then (law08_DeltaPicks.j0 k l0 l1 true) else ((ref06_Right.f k l0).bind fun t103 => (if t103 = true then ((ref07_Right.f k l1).bind fun t104 => (law08_DeltaPicks.j0 k l0 l1 (!t104))) else (law08_DeltaPicks.j0 k l0 l1 true)))))) else (some false))) = some r := h; clear h; replace H := ob_ H; obtain ⟨t101, A30, H⟩ := H; replace H : (if t101 = true then ((ref06_Great.f k l0).bind fun t102 => (if t102 = true then (law08_DeltaPicks.j0 k l0 l1 true) else (if (l1.length : Int) > 40 then (law08_DeltaPicks.j0 k l0 l1 true) else ((ref06_Right.f k l0).bind fun t103 => (if t103 = true then ((ref07_Right.f k l1).bind fun t104 => (law08_DeltaPicks.j0 k l0 l1 (!t104))) else (law08_DeltaPicks.j0 k l0 l1 true)))))) else (some false)) = some r := H; have A3 := Zq_.mk A30; clear A30
 by_cases c4 : t101 = true
 ·subst c4
  have H1 : ((ref06_Great.f k l0).bind fun t102 => (if t102 = true then (law08_DeltaPicks.j0 k l0 l1 true) else (if (l1.length : Int) > 40 then (law08_DeltaPicks.j0 k l0 l1 true) else ((ref06_Right.f k l0).bind fun t103 => (if t103 = true then ((ref07_Right.f k l1).bind fun t104 => (law08_DeltaPicks.j0 k l0 l1 (!t104))) else (law08_DeltaPicks.j0 k l0 l1 true)))))) = some r := by rw [if_pos rfl] at H; exact H
  clear H; have H := H1; clear H1; have HC5 := Zq_.mk H; clear H
  go_enter Try.func3, Try.ntmps3
  go_upto_region 3 with (first | ((with_reducible refine va_ (f := 7) rfl ?_); refine goesL_ (some 6) rfl rfl Try.func7 (by kernel_rfl) rfl #[] rfl (by (try simp only [List.map_toArray, List.map_cons, List.map_nil]); first | done | rfl | (simp only [List.length_drop, List.length_take]; rfl)) ?_; (with_reducible refine (law08_alive.calls k  true _ A3.out).mono ?_); rintro e w6 ⟨rfl, hb⟩; refine ⟨_, rfl, ?_⟩; replace HB := Zq_.mk (ql_ (hB_ HB) hb); (try clear hb)))
  (try simp only [Act.put, sa_, sb_, sc_])
  go_cut [24] (fun v24 wc => ∃ (kq : Nat) (x24_4 : Bool), v24 = .bool x24_4 ∧ Zq_ (law08_DeltaPicks.j0 kq l0 l1 x24_4 = some r) ∧ Zq_ (kq ≤ k) ∧ Zq_ (Below w.heap.size w wc))
  case first =>
   have H := HC5.out; clear HC5; replace H := ob_ H; obtain ⟨t102, A70, H⟩ := H; replace H : (if t102 = true then (law08_DeltaPicks.j0 k l0 l1 true) else (if (l1.length : Int) > 40 then (law08_DeltaPicks.j0 k l0 l1 true) else ((ref06_Right.f k l0).bind fun t103 => (if t103 = true then ((ref07_Right.f k l1).bind fun t104 => (law08_DeltaPicks.j0 k l0 l1 (!t104))) else (law08_DeltaPicks.j0 k l0 l1 true))))) = some r := H; have A7 := Zq_.mk A70; clear A70
   by_cases c8 : t102 = true
   ·subst c8
    have H1 : (law08_DeltaPicks.j0 k l0 l1 true) = some r := by rw [if_pos rfl] at H; exact H
    clear H; have H := H1; clear H1; have H' := Zq_.mk H; clear H
    go_wp2_with (first | ((with_reducible refine va_ (f := 8) rfl ?_); refine goesL_ (some 9) rfl rfl Try.func8 (by kernel_rfl) rfl #[.slice A0 l0.length c0] rfl (by (try simp only [List.map_toArray, List.map_cons, List.map_nil]); first | done | rfl | (simp only [List.length_drop, List.length_take]; rfl)) ?_; (with_reducible refine (ref06_Great.calls k _ _ l0 true _ ?side1 ?side2 A7.out).mono ?_); (case side1 => exact cX_ (Kd.qz_ HR0.out HB.out)); (case side2 => exact HC0.out); rintro e w9 ⟨rfl, hb⟩; refine ⟨_, rfl, ?_⟩; replace HB := Zq_.mk (ql_ (hB_ HB) hb); (try clear hb)))
    go_meet
    case rel => exact ⟨_, (true), (by first | rfl | (simp; done) | (simp [*]; done)), H', ⟨by first | omega | exact Nat.le_refl _⟩, ⟨hB_ HB⟩⟩
   ·replace c8 := Bool.eq_false_iff.mpr c8; subst c8
    have H1 : (if (l1.length : Int) > 40 then (law08_DeltaPicks.j0 k l0 l1 true) else ((ref06_Right.f k l0).bind fun t103 => (if t103 = true then ((ref07_Right.f k l1).bind fun t104 => (law08_DeltaPicks.j0 k l0 l1 (!t104))) else (law08_DeltaPicks.j0 k l0 l1 true)))) = some r := by rw [if_neg (show ¬ (false = true) by decide)] at H; exact H
    clear H; have H := H1; clear H1
    by_cases c10 : (l1.length : Int) > 40
    ·rw [if_pos c10] at H; have c10b0 : decide (40 < (l1.length : Int)) = true := decide_eq_true c10; have c10b1 : decide (40 < l1.length) = true := decide_eq_true (by omega); clear c10; (first | rw [c10b0] | (simp only [i64_w, i32_w]; rw [c10b0]) | skip); have H' := Zq_.mk H; clear H
     go_wp2_with (first | ((with_reducible refine va_ (f := 8) rfl ?_); refine goesL_ (some 9) rfl rfl Try.func8 (by kernel_rfl) rfl #[.slice A0 l0.length c0] rfl (by (try simp only [List.map_toArray, List.map_cons, List.map_nil]); first | done | rfl | (simp only [List.length_drop, List.length_take]; rfl)) ?_; (with_reducible refine (ref06_Great.calls k _ _ l0 false _ ?side1 ?side2 A7.out).mono ?_); (case side1 => exact cX_ (Kd.qz_ HR0.out HB.out)); (case side2 => exact HC0.out); rintro e w11 ⟨rfl, hb⟩; refine ⟨_, rfl, ?_⟩; replace HB := Zq_.mk (ql_ (hB_ HB) hb); (try clear hb)))
     go_meet
     case rel => exact ⟨_, (true), (by first | rfl | (simp; done) | (simp [*]; done)), H', ⟨by first | omega | exact Nat.le_refl _⟩, ⟨hB_ HB⟩⟩
    ·rw [if_neg c10] at H; have c10b0 : decide (40 < (l1.length : Int)) = false := decide_eq_false c10; have c10b1 : decide (40 < l1.length) = false := decide_eq_false (by omega); clear c10; (first | rw [c10b0] | (simp only [i64_w, i32_w]; rw [c10b0]) | skip); replace H := ob_ H; obtain ⟨t103, A120, H⟩ := H; replace H : (if t103 = true then ((ref07_Right.f k l1).bind fun t104 => (law08_DeltaPicks.j0 k l0 l1 (!t104))) else (law08_DeltaPicks.j0 k l0 l1 true)) = some r := H; have A12 := Zq_.mk A120; clear A120
     by_cases c13 : t103 = true
     ·subst c13
      have H1 : ((ref07_Right.f k l1).bind fun t104 => (law08_DeltaPicks.j0 k l0 l1 (!t104))) = some r := by rw [if_pos rfl] at H; exact H
      clear H; have H := H1; clear H1; replace H := ob_ H; obtain ⟨t104, A140, H⟩ := H; replace H : (law08_DeltaPicks.j0 k l0 l1 (!t104)) = some r := H; have A14 := Zq_.mk A140; clear A140; have H' := Zq_.mk H; clear H
      go_wp2_with (first | ((with_reducible refine va_ (f := 8) rfl ?_); refine goesL_ (some 9) rfl rfl Try.func8 (by kernel_rfl) rfl #[.slice A0 l0.length c0] rfl (by (try simp only [List.map_toArray, List.map_cons, List.map_nil]); first | done | rfl | (simp only [List.length_drop, List.length_take]; rfl)) ?_; (with_reducible refine (ref06_Great.calls k _ _ l0 false _ ?side1 ?side2 A7.out).mono ?_); (case side1 => exact cX_ (Kd.qz_ HR0.out HB.out)); (case side2 => exact HC0.out); rintro e w15 ⟨rfl, hb⟩; refine ⟨_, rfl, ?_⟩; replace HB := Zq_.mk (ql_ (hB_ HB) hb); (try clear hb)) | (go_at_call 9; (with_reducible refine (ref06_Right.calls k _ _ l0 true _ ?side1 ?side2 A12.out).mono ?_); (case side1 => exact cX_ (Kd.qz_ HR0.out HB.out)); (case side2 => exact HC0.out); rintro e w16 ⟨rfl, hb⟩; replace HB := Zq_.mk (ql_ (hB_ HB) hb); (try clear hb)) | (go_at_call 10; (with_reducible refine (ref07_Right.calls k _ _ l1 t104 _ ?side1 ?side2 A14.out).mono ?_); (case side1 => exact cX_ (Kd.qz_ HR1.out HB.out)); (case side2 => exact HC1.out); rintro e w17 ⟨rfl, hb⟩; replace HB := Zq_.mk (ql_ (hB_ HB) hb); (try clear hb)))
      go_meet
      case rel => exact ⟨_, (!t104), (by first | rfl | (simp; done) | (simp [*]; done)), H', ⟨by first | omega | exact Nat.le_refl _⟩, ⟨hB_ HB⟩⟩
     ·replace c13 := Bool.eq_false_iff.mpr c13; subst c13
      have H1 : (law08_DeltaPicks.j0 k l0 l1 true) = some r := by rw [if_neg (show ¬ (false = true) by decide)] at H; exact H
      clear H; have H := H1; clear H1; have H' := Zq_.mk H; clear H
      go_wp2_with (first | ((with_reducible refine va_ (f := 8) rfl ?_); refine goesL_ (some 9) rfl rfl Try.func8 (by kernel_rfl) rfl #[.slice A0 l0.length c0] rfl (by (try simp only [List.map_toArray, List.map_cons, List.map_nil]); first | done | rfl | (simp only [List.length_drop, List.length_take]; rfl)) ?_; (with_reducible refine (ref06_Great.calls k _ _ l0 false _ ?side1 ?side2 A7.out).mono ?_); (case side1 => exact cX_ (Kd.qz_ HR0.out HB.out)); (case side2 => exact HC0.out); rintro e w18 ⟨rfl, hb⟩; refine ⟨_, rfl, ?_⟩; replace HB := Zq_.mk (ql_ (hB_ HB) hb); (try clear hb)) | (go_at_call 9; (with_reducible refine (ref06_Right.calls k _ _ l0 false _ ?side1 ?side2 A12.out).mono ?_); (case side1 => exact cX_ (Kd.qz_ HR0.out HB.out)); (case side2 => exact HC0.out); rintro e w19 ⟨rfl, hb⟩; replace HB := Zq_.mk (ql_ (hB_ HB) hb); (try clear hb)))
      go_meet
      case rel => exact ⟨_, (true), (by first | rfl | (simp; done) | (simp [*]; done)), H', ⟨by first | omega | exact Nat.le_refl _⟩, ⟨hB_ HB⟩⟩
  case rest =>
   clear HC5
   try clear c1
   try clear p2
   try clear c3
   try clear c4
   try clear c7
   try clear c8
   try clear c10
   try clear c10b0
   try clear c10b1
   try clear c13
   obtain ⟨kq, x24_4, rfl, HA, HJ4, HB⟩ := hcut
   cases kq with
   | zero => exact absurd HA.out (by simp [law08_DeltaPicks.j0])
   | succ kj4 =>
    have H := HA.out; clear HA; simp only [law08_DeltaPicks.j0] at H
    by_cases c20 : x24_4 = true
    ·subst c20
     have H1 : (some true) = some r := by rw [if_pos rfl] at H; exact H
     clear H; have H := H1; clear H1; obtain rfl := Option.some.inj H
     go_wp2
     go_ret
     exact ⟨by first | rfl | (simp [errW_none, errW_some] <;> rfl) | (simp [*, errW_none, errW_some] <;> rfl), hB_ HB⟩
    ·replace c20 := Bool.eq_false_iff.mpr c20; subst c20
     have H1 : ((delta_Pick.f kj4 l0 l1).bind fun t105 => ((ref08_Pick.f kj4 l0 l1).bind fun t108 => ((ref08_Same.f kj4 t105 t108).bind fun t111 => (if t111 = true then ((delta_Full.f kj4 l0).bind fun t112 => ((ref08_Full.f kj4 l0).bind fun t115 => ((ref08_Same.f kj4 t112 t115).bind fun t118 => (if t118 = true then ((delta_Right.f kj4 t105).bind fun t119 => (if t119 = true then ((delta_Full.f kj4 l0).bind fun t120 => ((delta_Right.f kj4 t120).bind fun t123 => (some t123))) else (some false))) else (some false))))) else (some false))))) = some r := by rw [if_neg (show ¬ (false = true) by decide)] at H; exact H
     clear H; have H := H1; clear H1; replace H := ob_ H; obtain ⟨t105, A210, H⟩ := H; replace H : ((ref08_Pick.f kj4 l0 l1).bind fun t108 => ((ref08_Same.f kj4 t105 t108).bind fun t111 => (if t111 = true then ((delta_Full.f kj4 l0).bind fun t112 => ((ref08_Full.f kj4 l0).bind fun t115 => ((ref08_Same.f kj4 t112 t115).bind fun t118 => (if t118 = true then ((delta_Right.f kj4 t105).bind fun t119 => (if t119 = true then ((delta_Full.f kj4 l0).bind fun t120 => ((delta_Right.f kj4 t120).bind fun t123 => (some t123))) else (some false))) else (some false))))) else (some false)))) = some r := H; have A21 := Zq_.mk A210; clear A210; replace H := ob_ H; obtain ⟨t108, A220, H⟩ := H; replace H : ((ref08_Same.f kj4 t105 t108).bind fun t111 => (if t111 = true then ((delta_Full.f kj4 l0).bind fun t112 => ((ref08_Full.f kj4 l0).bind fun t115 => ((ref08_Same.f kj4 t112 t115).bind fun t118 => (if t118 = true then ((delta_Right.f kj4 t105).bind fun t119 => (if t119 = true then ((delta_Full.f kj4 l0).bind fun t120 => ((delta_Right.f kj4 t120).bind fun t123 => (some t123))) else (some false))) else (some false))))) else (some false))) = some r := H; have A22 := Zq_.mk A220; clear A220; replace H := ob_ H; obtain ⟨t111, A230, H⟩ := H; replace H : (if t111 = true then ((delta_Full.f kj4 l0).bind fun t112 => ((ref08_Full.f kj4 l0).bind fun t115 => ((ref08_Same.f kj4 t112 t115).bind fun t118 => (if t118 = true then ((delta_Right.f kj4 t105).bind fun t119 => (if t119 = true then ((delta_Full.f kj4 l0).bind fun t120 => ((delta_Right.f kj4 t120).bind fun t123 => (some t123))) else (some false))) else (some false))))) else (some false)) = some r := H; have A23 := Zq_.mk A230; clear A230
     by_cases c24 : t111 = true
     ·subst c24
      have H1 : ((delta_Full.f kj4 l0).bind fun t112 => ((ref08_Full.f kj4 l0).bind fun t115 => ((ref08_Same.f kj4 t112 t115).bind fun t118 => (if t118 = true then ((delta_Right.f kj4 t105).bind fun t119 => (if t119 = true then ((delta_Full.f kj4 l0).bind fun t120 => ((delta_Right.f kj4 t120).bind fun t123 => (some t123))) else (some false))) else (some false))))) = some r := by rw [if_pos rfl] at H; exact H
      clear H; have H := H1; clear H1; replace H := ob_ H; obtain ⟨t112, A250, H⟩ := H; replace H : ((ref08_Full.f kj4 l0).bind fun t115 => ((ref08_Same.f kj4 t112 t115).bind fun t118 => (if t118 = true then ((delta_Right.f kj4 t105).bind fun t119 => (if t119 = true then ((delta_Full.f kj4 l0).bind fun t120 => ((delta_Right.f kj4 t120).bind fun t123 => (some t123))) else (some false))) else (some false)))) = some r := H; have A25 := Zq_.mk A250; clear A250; replace H := ob_ H; obtain ⟨t115, A260, H⟩ := H; replace H : ((ref08_Same.f kj4 t112 t115).bind fun t118 => (if t118 = true then ((delta_Right.f kj4 t105).bind fun t119 => (if t119 = true then ((delta_Full.f kj4 l0).bind fun t120 => ((delta_Right.f kj4 t120).bind fun t123 => (some t123))) else (some false))) else (some false))) = some r := H; have A26 := Zq_.mk A260; clear A260; replace H := ob_ H; obtain ⟨t118, A270, H⟩ := H; replace H : (if t118 = true then ((delta_Right.f kj4 t105).bind fun t119 => (if t119 = true then ((delta_Full.f kj4 l0).bind fun t120 => ((delta_Right.f kj4 t120).bind fun t123 => (some t123))) else (some false))) else (some false)) = some r := H; have A27 := Zq_.mk A270; clear A270
      by_cases c28 : t118 = true
      ·subst c28
       have H1 : ((delta_Right.f kj4 t105).bind fun t119 => (if t119 = true then ((delta_Full.f kj4 l0).bind fun t120 => ((delta_Right.f kj4 t120).bind fun t123 => (some t123))) else (some false))) = some r := by rw [if_pos rfl] at H; exact H
       clear H; have H := H1; clear H1; replace H := ob_ H; obtain ⟨t119, A290, H⟩ := H; replace H : (if t119 = true then ((delta_Full.f kj4 l0).bind fun t120 => ((delta_Right.f kj4 t120).bind fun t123 => (some t123))) else (some false)) = some r := H; have A29 := Zq_.mk A290; clear A290
       by_cases c30 : t119 = true
       ·subst c30
        have H1 : ((delta_Full.f kj4 l0).bind fun t120 => ((delta_Right.f kj4 t120).bind fun t123 => (some t123))) = some r := by rw [if_pos rfl] at H; exact H
        clear H; have H := H1; clear H1; replace H := ob_ H; obtain ⟨t120, A310, H⟩ := H; replace H : ((delta_Right.f kj4 t120).bind fun t123 => (some t123)) = some r := H; have A31 := Zq_.mk A310; clear A310; replace H := ob_ H; obtain ⟨t123, A320, H⟩ := H; replace H : (some t123) = some r := H; have A32 := Zq_.mk A320; clear A320; obtain rfl := Option.some.inj H
        go_wp2_with (first | ((with_reducible refine va_ (f := 11) rfl ?_); refine goesL_ (some 27) rfl rfl Try.func11 (by kernel_rfl) rfl #[.slice A0 l0.length c0, .slice A1 l1.length c1] rfl (by (try simp only [List.map_toArray, List.map_cons, List.map_nil]); first | done | rfl | (simp only [List.length_drop, List.length_take]; rfl)) ?_; (with_reducible refine (delta_Pick.calls kj4 _ _ l0 _ _ l1 t105 _ ?side1 ?side2 ?side3 ?side4 A21.out).mono ?_); (case side1 => exact cX_ (Kd.qz_ HR0.out HB.out)); (case side2 => exact HC0.out); (case side3 => exact cX_ (Kd.qz_ HR1.out HB.out)); (case side4 => exact HC1.out); rintro e w33 ⟨v106, rfl, ho0, hb⟩; refine ⟨_, rfl, ?_⟩; have HO107 := Zq_.mk (Kd.S_lower ho0 (qj_ (hB_ HB))); replace HB := Zq_.mk (ql_ (hB_ HB) hb); (try clear hb); (try clear ho0)) | ((with_reducible refine va_ (f := 13) rfl ?_); refine goesL_ (some 31) rfl rfl Try.func13 (by kernel_rfl) rfl #[.slice A0 l0.length c0, .slice A1 l1.length c1] rfl (by (try simp only [List.map_toArray, List.map_cons, List.map_nil]); first | done | rfl | (simp only [List.length_drop, List.length_take]; rfl)) ?_; (with_reducible refine (ref08_Pick.calls kj4 _ _ l0 _ _ l1 t108 _ ?side1 ?side2 ?side3 ?side4 A22.out).mono ?_); (case side1 => exact cX_ (Kd.qz_ HR0.out HB.out)); (case side2 => exact HC0.out); (case side3 => exact cX_ (Kd.qz_ HR1.out HB.out)); (case side4 => exact HC1.out); rintro e w34 ⟨v109, rfl, ho0, hb⟩; refine ⟨_, rfl, ?_⟩; have HO110 := Zq_.mk (Kd.S_lower (Kd.S_new' ho0 (Kd.S_lt (vX_ HO107))) (qj_ (hB_ HB))); replace HO107 := Zq_.mk (Kd.S_elder' (vX_ HO107) (Kd.S_base ho0) hb); replace HB := Zq_.mk (ql_ (hB_ HB) hb); (try clear hb); (try clear ho0); obtain ⟨Ao35, co35, eo35⟩ := Kd.S_slice HO107.out; subst eo35; obtain ⟨Ao36, co36, eo36⟩ := Kd.S_slice HO110.out; subst eo36) | ((with_reducible refine va_ (f := 12) rfl ?_); refine goesL_ (some 32) rfl rfl Try.func12 (by kernel_rfl) rfl #[.slice Ao35 t105.length co35, .slice Ao36 t108.length co36] rfl (by (try simp only [List.map_toArray, List.map_cons, List.map_nil]); first | done | rfl | (simp only [List.length_drop, List.length_take]; rfl)) ?_; (with_reducible refine (ref08_Same.calls kj4 _ _ t105 _ _ t108 true _ ?side1 ?side2 ?side3 ?side4 A23.out).mono ?_); (case side1 => exact cX_ ((Kd.S_reads' HO107.out).2.2)); (case side2 => exact (Kd.S_reads' HO107.out).2.1); (case side3 => exact cX_ ((Kd.S_reads' HO110.out).2.2)); (case side4 => exact (Kd.S_reads' HO110.out).2.1); rintro e w37 ⟨rfl, hb⟩; refine ⟨_, rfl, ?_⟩; replace HO107 := vV_ Kd.S_below HO107 hb; replace HO110 := vV_ Kd.S_below HO110 hb; replace HB := Zq_.mk (ql_ (hB_ HB) hb); (try clear hb)) | (go_at_call 14; (with_reducible refine (delta_Full.calls kj4 _ _ l0 t112 _ ?side1 ?side2 A25.out).mono ?_); (case side1 => exact cX_ (Kd.qz_ HR0.out HB.out)); (case side2 => exact HC0.out); rintro e w38 ⟨v113, rfl, ho0, hb⟩; clear A25; have HO114 := Zq_.mk (Kd.S_lower (Kd.S_new' (Kd.S_new' ho0 (Kd.S_lt (vX_ HO107))) (Kd.S_lt (vX_ HO110))) (qj_ (hB_ HB))); replace HO107 := Zq_.mk (Kd.S_elder' (vX_ HO107) (Kd.S_base ho0) hb); replace HO110 := Zq_.mk (Kd.S_elder' (vX_ HO110) (Kd.S_base ho0) hb); replace HB := Zq_.mk (ql_ (hB_ HB) hb); (try clear hb); (try clear ho0)) | (go_at_call 15; (with_reducible refine (ref08_Full.calls kj4 _ _ l0 t115 _ ?side1 ?side2 A26.out).mono ?_); (case side1 => exact cX_ (Kd.qz_ HR0.out HB.out)); (case side2 => exact HC0.out); rintro e w39 ⟨v116, rfl, ho0, hb⟩; have HO117 := Zq_.mk (Kd.S_lower (Kd.S_new' (Kd.S_new' (Kd.S_new' ho0 (Kd.S_lt (vX_ HO107))) (Kd.S_lt (vX_ HO110))) (Kd.S_lt (vX_ HO114))) (qj_ (hB_ HB))); replace HO107 := Zq_.mk (Kd.S_elder' (vX_ HO107) (Kd.S_base ho0) hb); replace HO110 := Zq_.mk (Kd.S_elder' (vX_ HO110) (Kd.S_base ho0) hb); replace HO114 := Zq_.mk (Kd.S_elder' (vX_ HO114) (Kd.S_base ho0) hb); replace HB := Zq_.mk (ql_ (hB_ HB) hb); (try clear hb); (try clear ho0); obtain ⟨Ao40, co40, eo40⟩ := Kd.S_slice HO114.out; subst eo40; obtain ⟨Ao41, co41, eo41⟩ := Kd.S_slice HO117.out; subst eo41) | (go_at_call 12; (with_reducible refine (ref08_Same.calls kj4 _ _ t112 _ _ t115 true _ ?side1 ?side2 ?side3 ?side4 A27.out).mono ?_); (case side1 => exact cX_ ((Kd.S_reads' HO114.out).2.2)); (case side2 => exact (Kd.S_reads' HO114.out).2.1); (case side3 => exact cX_ ((Kd.S_reads' HO117.out).2.2)); (case side4 => exact (Kd.S_reads' HO117.out).2.1); rintro e w42 ⟨rfl, hb⟩; replace HO107 := vV_ Kd.S_below HO107 hb; replace HO110 := vV_ Kd.S_below HO110 hb; replace HO114 := vV_ Kd.S_below HO114 hb; replace HO117 := vV_ Kd.S_below HO117 hb; replace HB := Zq_.mk (ql_ (hB_ HB) hb); (try clear hb)) | (go_at_call 16; (with_reducible refine (delta_Right.calls kj4 _ _ t105 true _ ?side1 ?side2 A29.out).mono ?_); (case side1 => exact cX_ ((Kd.S_reads' HO107.out).2.2)); (case side2 => exact (Kd.S_reads' HO107.out).2.1); rintro e w43 ⟨rfl, hb⟩; replace HO107 := vV_ Kd.S_below HO107 hb; replace HO110 := vV_ Kd.S_below HO110 hb; replace HO114 := vV_ Kd.S_below HO114 hb; replace HO117 := vV_ Kd.S_below HO117 hb; replace HB := Zq_.mk (ql_ (hB_ HB) hb); (try clear hb)) | (go_at_call 14; (with_reducible refine (delta_Full.calls kj4 _ _ l0 t120 _ ?side1 ?side2 A31.out).mono ?_); (case side1 => exact cX_ (Kd.qz_ HR0.out HB.out)); (case side2 => exact HC0.out); rintro e w44 ⟨v121, rfl, ho0, hb⟩; clear A31; have HO122 := Zq_.mk (Kd.S_lower (Kd.S_new' (Kd.S_new' (Kd.S_new' (Kd.S_new' ho0 (Kd.S_lt (vX_ HO107))) (Kd.S_lt (vX_ HO110))) (Kd.S_lt (vX_ HO114))) (Kd.S_lt (vX_ HO117))) (qj_ (hB_ HB))); replace HO107 := Zq_.mk (Kd.S_elder' (vX_ HO107) (Kd.S_base ho0) hb); replace HO110 := Zq_.mk (Kd.S_elder' (vX_ HO110) (Kd.S_base ho0) hb); replace HO114 := Zq_.mk (Kd.S_elder' (vX_ HO114) (Kd.S_base ho0) hb); replace HO117 := Zq_.mk (Kd.S_elder' (vX_ HO117) (Kd.S_base ho0) hb); replace HB := Zq_.mk (ql_ (hB_ HB) hb); (try clear hb); (try clear ho0); obtain ⟨Ao45, co45, eo45⟩ := Kd.S_slice HO122.out; subst eo45) | (go_at_call 16; (with_reducible refine (delta_Right.calls kj4 _ _ t120 t123 _ ?side1 ?side2 A32.out).mono ?_); (case side1 => exact cX_ ((Kd.S_reads' HO122.out).2.2)); (case side2 => exact (Kd.S_reads' HO122.out).2.1); rintro e w46 ⟨rfl, hb⟩; replace HO107 := vV_ Kd.S_below HO107 hb; replace HO110 := vV_ Kd.S_below HO110 hb; replace HO114 := vV_ Kd.S_below HO114 hb; replace HO117 := vV_ Kd.S_below HO117 hb; replace HO122 := vV_ Kd.S_below HO122 hb; replace HB := Zq_.mk (ql_ (hB_ HB) hb); (try clear hb)))
        go_ret
        exact ⟨by first | rfl | (simp [errW_none, errW_some] <;> rfl) | (simp [*, errW_none, errW_some] <;> rfl), hB_ HB⟩
       ·rw [if_neg c30] at H; exact absurd ((Option.some.inj H).trans HRT.out) (by decide)
      ·rw [if_neg c28] at H; exact absurd ((Option.some.inj H).trans HRT.out) (by decide)
     ·rw [if_neg c24] at H; exact absurd ((Option.some.inj H).trans HRT.out) (by decide)
 ·rw [if_neg c4] at H; exact absurd ((Option.some.inj H).trans HRT.out) (by decide)
end Go.Proofs.Ytgipbmjkgciccaa.P

/- What this function of the program comes to, and that the machine's call does it: written by a program (wip/tool). No condition. -/
import Derived.Test.YthpbggknfhchlaaP0
import Derived.Test.YthpbggknfhchlaaPViewOver
import Derived.Test.YthpbggknfhchlaaPLaw06Alive
import Derived.Test.YthpbggknfhchlaaPLaw06Great
import Derived.Test.YthpbggknfhchlaaPRef06Right
import Derived.Test.YthpbggknfhchlaaPRef06Same
import Derived.Test.YthpbggknfhchlaaHw
namespace Go.Proofs.Ythpbggknfhchlaa.P
open Go.RowKit Go.Proofs.YthpbggknfhchlaaW.PrintWords Go.Proofs.YthpbggknfhchlaaW.PrintLast Go.Proofs.YthpbggknfhchlaaW.PrintMore
attribute [local go_sem] max2_int min2_int max_two min_two vf_ ve_ max_four min_four Go.Proofs.YthpbggknfhchlaaW.Hw.string_gtr   -- for this text's walks alone
set_option linter.unusedVariables false
set_option linter.unusedSimpArgs false
/-! ### law06_ViewOvers: function 6 -/
mutual
def law06_ViewOvers.j0 : Nat → List (S41) → List (S41) → Bool → Option (Bool)
 | 0, _, _, _ => none
 | k + 1, x0, x1, x21 => if x21 = true then (some true) else ((view_Over.f x0 x1).bind fun t108 => (if t108 = true then ((view_Over.f x1 x0).bind fun t109 => (law06_ViewOvers.j1 k x0 x1 t109)) else (law06_ViewOvers.j1 k x0 x1 false)))
def law06_ViewOvers.j1 : Nat → List (S41) → List (S41) → Bool → Option (Bool)
 | 0, _, _, _ => none
 | k + 1, x0, x1, x5 => (ref06_Same.f k x0 x1).bind fun t110 => (if (x5 == t110) = true then ((view_Over.f x0 ([] : List (S41))).bind fun t111 => (if t111 = true then ((view_Over.f x0 x0).bind fun t112 => (if t112 = true then (if (x1.length : Int) = 0 then (some true) else ((view_Over.f ([] : List (S41)) x1).bind fun t113 => (some (!t113)))) else (some false))) else (some false))) else (some false))
end
def law06_ViewOvers.f (k : Nat) (l0 : List (S41)) (l1 : List (S41)) : Option (Bool) := (law06_alive.f k).bind fun t101 => (if t101 = true then ((law06_great.f k (([l0, l1] : List (List (S41))))).bind fun t105 => (if t105 = true then (law06_ViewOvers.j0 k l0 l1 true) else ((ref06_Right.f k l0).bind fun t106 => (if t106 = true then ((ref06_Right.f k l1).bind fun t107 => (law06_ViewOvers.j0 k l0 l1 (!t107))) else (law06_ViewOvers.j0 k l0 l1 true))))) else (some false))
theorem law06_ViewOvers.mono_l : ∀ k, (∀ y0 y1 y2, LeO (law06_ViewOvers.j0 k y0 y1 y2) (law06_ViewOvers.j0 (k + 1) y0 y1 y2)) ∧ (∀ y0 y1 y2, LeO (law06_ViewOvers.j1 k y0 y1 y2) (law06_ViewOvers.j1 (k + 1) y0 y1 y2))
 | 0 => ⟨fun _ _ _ r h => by simp [law06_ViewOvers.j0] at h, fun _ _ _ r h => by simp [law06_ViewOvers.j1] at h⟩
 | k + 1 => by
  obtain ⟨ih0, ih1⟩ := law06_ViewOvers.mono_l k; refine ⟨?_, ?_⟩
  ·intro y0 y1 y2
   unfold law06_ViewOvers.j0
   repeat' first
   | (with_reducible exact ih0 _ _ _)
   | (with_reducible exact ih1 _ _ _)
   | (with_reducible exact law06_alive.mono _)
   | (with_reducible exact law06_great.mono _ _)
   | (with_reducible exact ref06_Right.mono _ _)
   | (with_reducible exact ref06_Same.mono _ _ _)
   | (with_reducible exact LeO.refl _)
   | (with_reducible exact LeO.none _)
   | (with_reducible refine LeO.ite ?_ ?_)
   | (with_reducible refine LeO.bind ?_ (fun _ => ?_))
   | exact ih0 _ _ _
   | exact ih1 _ _ _
   | exact law06_alive.mono _
   | exact law06_great.mono _ _
   | exact ref06_Right.mono _ _
   | exact ref06_Same.mono _ _ _
   | exact LeO.none _
   | refine LeO.ite ?_ ?_
   | refine LeO.bind ?_ (fun _ => ?_)
  ·intro y0 y1 y2
   unfold law06_ViewOvers.j1
   repeat' first
   | (with_reducible exact ih0 _ _ _)
   | (with_reducible exact ih1 _ _ _)
   | (with_reducible exact law06_alive.mono _)
   | (with_reducible exact law06_great.mono _ _)
   | (with_reducible exact ref06_Right.mono _ _)
   | (with_reducible exact ref06_Same.mono _ _ _)
   | (with_reducible exact LeO.refl _)
   | (with_reducible exact LeO.none _)
   | (with_reducible refine LeO.ite ?_ ?_)
   | (with_reducible refine LeO.bind ?_ (fun _ => ?_))
   | exact ih0 _ _ _
   | exact ih1 _ _ _
   | exact law06_alive.mono _
   | exact law06_great.mono _ _
   | exact ref06_Right.mono _ _
   | exact ref06_Same.mono _ _ _
   | exact LeO.none _
   | refine LeO.ite ?_ ?_
   | refine LeO.bind ?_ (fun _ => ?_)
theorem law06_ViewOvers.mono : ∀ a0 a1 k, LeO (law06_ViewOvers.f k a0 a1) (law06_ViewOvers.f (k + 1) a0 a1) := by
 intro a0 a1 k; obtain ⟨ih0, ih1⟩ := law06_ViewOvers.mono_l k
 unfold law06_ViewOvers.f
 repeat' first
   | (with_reducible exact ih0 _ _ _)
   | (with_reducible exact ih1 _ _ _)
   | (with_reducible exact law06_alive.mono _)
   | (with_reducible exact law06_great.mono _ _)
   | (with_reducible exact ref06_Right.mono _ _)
   | (with_reducible exact ref06_Same.mono _ _ _)
   | (with_reducible exact LeO.refl _)
   | (with_reducible exact LeO.none _)
   | (with_reducible refine LeO.ite ?_ ?_)
   | (with_reducible refine LeO.bind ?_ (fun _ => ?_))
   | exact ih0 _ _ _
   | exact ih1 _ _ _
   | exact law06_alive.mono _
   | exact law06_great.mono _ _
   | exact ref06_Right.mono _ _
   | exact ref06_Same.mono _ _ _
   | exact LeO.none _
   | refine LeO.ite ?_ ?_
   | refine LeO.bind ?_ (fun _ => ?_)
set_option maxHeartbeats 8000000 in
set_option maxRecDepth 100000 in
theorem law06_ViewOvers.calls (k : Nat) (P0_ : Nat → Prop) (A0 : Option Addr) (c0 : Nat) (l0 : List (S41)) (P1_ : Nat → Prop) (A1 : Option Addr) (c1 : Nat) (l1 : List (S41)) (r : Bool) (w : World) (hs0 : Kd.V k41 41 w w.heap.size (fun k_ => P0_ k_) (.slice A0 l0.length c0) l0) (hs1 : Kd.V k41 41 w w.heap.size (fun k_ => P1_ k_) (.slice A1 l1.length c1) l1) (h : law06_ViewOvers.f k l0 l1 = some r) (hrt : r = true) :
  Calls Try.prog 6 #[.slice A0 l0.length c0, .slice A1 l1.length c1] w fun e w' => e = .returned (.bool r) ∧ Below w.heap.size w w' := by
 have HRT := Aside0.mk hrt; clear hrt; have HO0 := Aside0.mk (show Kd.V k41 41 w w.heap.size (fun k_ => ((P0_ k_ ∨ P1_ k_) ∨ w.heap.size ≤ k_)) (.slice A0 l0.length c0) l0 from Kd.V_mono hs0 (fun k_ hk => .inl (.inl hk))); have HO1 := Aside0.mk (show Kd.V k41 41 w w.heap.size (fun k_ => ((P0_ k_ ∨ P1_ k_) ∨ w.heap.size ≤ k_)) (.slice A1 l1.length c1) l1 from Kd.V_mono hs1 (fun k_ hk => .inl (.inr hk))); have HB := Aside0.mk (Below.refl w.heap.size w); have H : ((law06_alive.f k).bind fun t101 => (if t101 = true then ((law06_great.f k (([l0, l1] : List (List (S41))))).bind fun t105 => (if t105 = true then (law06_ViewOvers.j0 k l0 l1 true) else ((ref06_Right.f k l0).bind fun t106 => (if t106 = true then ((ref06_Right.f k l1).bind fun t107 => (law06_ViewOvers.j0 k l0 l1 (!t107))) else (law06_ViewOvers.j0 k l0 l1 true))))) else (some false))) = some r := h; clear h; replace H := ob_ H; obtain ⟨t101, A30, H⟩ := H; replace H : (if t101 = true then ((law06_great.f k (([l0, l1] : List (List (S41))))).bind fun t105 => (if t105 = true then (law06_ViewOvers.j0 k l0 l1 true) else ((ref06_Right.f k l0).bind fun t106 => (if t106 = true then ((ref06_Right.f k l1).bind fun t107 => (law06_ViewOvers.j0 k l0 l1 (!t107))) else (law06_ViewOvers.j0 k l0 l1 true))))) else (some false)) = some r := H; have A3 := Aside0.mk A30; clear A30
 by_cases c4 : t101 = true
 ·subst c4
  have H1 : ((law06_great.f k (([l0, l1] : List (List (S41))))).bind fun t105 => (if t105 = true then (law06_ViewOvers.j0 k l0 l1 true) else ((ref06_Right.f k l0).bind fun t106 => (if t106 = true then ((ref06_Right.f k l1).bind fun t107 => (law06_ViewOvers.j0 k l0 l1 (!t107))) else (law06_ViewOvers.j0 k l0 l1 true))))) = some r := by rw [if_pos rfl] at H; exact H
  clear H; have H := H1; clear H1; have HC5 := Aside0.mk H; clear H
  go_enter Try.func6, Try.ntmps6
  go_upto_region 3 with (first | ((with_reducible refine qw_ (f := 8) rfl ?_); refine goesL_ (some 6) rfl rfl Try.func8 (by kernel_rfl) rfl #[] rfl (by (try simp only [List.map_toArray, List.map_cons, List.map_nil]); first | done | rfl | (simp only [List.length_drop, List.length_take]; rfl)) ?_; (with_reducible refine (law06_alive.calls k  true _ A3.out).mono ?_); rintro e w6 ⟨rfl, hb⟩; refine ⟨_, rfl, ?_⟩; have n0_ := Aside0.mk (Kd.qn_ (vX_ HO0) hb); have n1_ := Aside0.mk (Kd.qn_ (vX_ HO1) hb); have n2_ := Aside0.mk (qm_ (hB_ HB) hb); clear HO0; clear HO1; clear HB; have HO0 := n0_; have HO1 := n1_; have HB := n2_; clear n0_ n1_ n2_; (try clear hb); (try clear hb2); (try clear hk); (try clear hi)))
  (try simp only [Act.put, sa_, sb_, sc_])
  go_cut [21] (fun v21 wc => ∃ (kq : Nat) (x21_4 : Bool), v21 = .bool x21_4 ∧ Aside0 (law06_ViewOvers.j0 kq l0 l1 x21_4 = some r) ∧ Aside0 (kq ≤ k) ∧ Aside0 (Kd.V k41 41 wc w.heap.size (fun k_ => ((P0_ k_ ∨ P1_ k_) ∨ w.heap.size ≤ k_)) (.slice A0 l0.length c0) l0) ∧ Aside0 (Kd.V k41 41 wc w.heap.size (fun k_ => ((P0_ k_ ∨ P1_ k_) ∨ w.heap.size ≤ k_)) (.slice A1 l1.length c1) l1) ∧ Aside0 (Below w.heap.size w wc))
  case first =>
   have H := HC5.out; clear HC5; obtain ⟨y102, hy102⟩ : ∃ y_ : List (List (S41)), y_ = (([l0, l1] : List (List (S41)))) := ⟨_, rfl⟩
   replace H : ((law06_great.f k y102).bind fun t105 => (if t105 = true then (law06_ViewOvers.j0 k l0 l1 true) else ((ref06_Right.f k l0).bind fun t106 => (if t106 = true then ((ref06_Right.f k l1).bind fun t107 => (law06_ViewOvers.j0 k l0 l1 (!t107))) else (law06_ViewOvers.j0 k l0 l1 true))))) = some r := by first | (rw [hy102]; with_reducible exact H) | (have H2_ := (Option.bind_some _ _).symm.trans H; rw [hy102]; with_reducible exact H2_) | (have H2_ := (Option.bind_some _ _).symm.trans H; with_reducible exact H2_) | with_reducible exact H | (rw [hy102]; exact H) | exact H
   have Ny102 := Aside0.mk hy102; clear hy102; replace H := ob_ H; obtain ⟨t105, A70, H⟩ := H; replace H : (if t105 = true then (law06_ViewOvers.j0 k l0 l1 true) else ((ref06_Right.f k l0).bind fun t106 => (if t106 = true then ((ref06_Right.f k l1).bind fun t107 => (law06_ViewOvers.j0 k l0 l1 (!t107))) else (law06_ViewOvers.j0 k l0 l1 true)))) = some r := H; have A7 := Aside0.mk A70; clear A70
   by_cases c8 : t105 = true
   ·subst c8
    have H1 : (law06_ViewOvers.j0 k l0 l1 true) = some r := by rw [if_pos rfl] at H; exact H
    clear H; have H := H1; clear H1; have H' := Aside0.mk H; clear H
    go_wp2_with (first | ((with_reducible refine qv_ (N := 10) rfl ?_); (try (refine vg_ (by rfl) ?_; dsimp only)); refine Kd.N_lit (Kd.slice 41 k41) _ 22 ?hg (N' := 10) ?hd (xs := ([l0, l1] : List (List (S41)))) (inner := [.slice A0 l0.length c0, .slice A1 l1.length c1]) (ok := (fun k_ => ((P0_ k_ ∨ P1_ k_) ∨ w.heap.size ≤ k_))) (okp := (fun k_ => ((P0_ k_ ∨ P1_ k_) ∨ w.heap.size ≤ k_))) ?hr ?hp (fun _ hk => hk) ((show ∀ k_, w6.heap.size ≤ k_ → (fun k_ => ((P0_ k_ ∨ P1_ k_) ∨ w.heap.size ≤ k_)) k_ from fun k_ hk => (.inr (Nat.le_trans (qh_ (hB_ HB)) hk))) _ (Nat.le_refl _)) (Below.refl _ _) (Nat.le_refl _) (by simp) ?_; (case hd => rfl); (case hg => rfl); (case hr => first | (go_simp; done) | (go_simp; rfl)); (case hp => exact (Reps.one (show Kd.FK (Kd.slice 41 k41) _ _ l0 [.slice A0 l0.length c0] from (Kd.FK_slice_mk (Kd.V_reads' (Kd.V_mono (ok' := (fun k_ => ((P0_ k_ ∨ P1_ k_) ∨ w.heap.size ≤ k_))) (HO0.out) (fun k_ hk => hk))).2.1 (Kd.V_F (Kd.V_mono (ok' := (fun k_ => ((P0_ k_ ∨ P1_ k_) ∨ w.heap.size ≤ k_))) (HO0.out) (fun k_ hk => hk))))) (Reps.one (show Kd.FK (Kd.slice 41 k41) _ _ l1 [.slice A1 l1.length c1] from (Kd.FK_slice_mk (Kd.V_reads' (Kd.V_mono (ok' := (fun k_ => ((P0_ k_ ∨ P1_ k_) ∨ w.heap.size ≤ k_))) (HO1.out) (fun k_ hk => hk))).2.1 (Kd.V_F (Kd.V_mono (ok' := (fun k_ => ((P0_ k_ ∨ P1_ k_) ∨ w.heap.size ≤ k_))) (HO1.out) (fun k_ hk => hk))))) (Reps.none _ _)))); intro v103 w9 ho10 hb hg_ hnew_; clear hg_ hnew_; (first | rw [← Ny102.out] at ho10 | (simp only [Int.reduceToNat] at ho10; rw [← Ny102.out] at ho10)); have n0_ := Aside0.mk (Kd.V_elder' (vX_ HO0) (by first | exact Kd.N_base ho10 | exact Kd.S_base ho10) hb); have n1_ := Aside0.mk (Kd.V_elder' (vX_ HO1) (by first | exact Kd.N_base ho10 | exact Kd.S_base ho10) hb); have n2_ := Aside0.mk (Kd.N_lower ho10 (qh_ (hB_ HB))); have n3_ := Aside0.mk (qm_ (hB_ HB) hb); clear HO0; clear HO1; clear HB; have HO0 := n0_; have HO1 := n1_; have HO104 := n2_; have HB := n3_; clear n0_ n1_ n2_ n3_; clear hb ho10; obtain ⟨Ao11, co11, eo11⟩ := Kd.N_slice HO104.out; subst eo11) | ((with_reducible refine qw_ (f := 9) rfl ?_); refine goesL_ (some 11) rfl rfl Try.func9 (by kernel_rfl) rfl #[.slice Ao11 y102.length co11] rfl (by (try simp only [List.map_toArray, List.map_cons, List.map_nil]); first | done | rfl | (simp only [List.length_drop, List.length_take]; rfl)) ?_; (with_reducible refine (law06_great.calls k _ _ y102 true _ ?side1 ?side2 A7.out).mono ?_); (case side1 => repeat (first | exact (Kd.N_reads' HO104.out).2.2 | (with_reducible refine Kd.qp_ ?_ _) | (with_reducible refine Kd.qo_ ?_ _) | (with_reducible refine Kd.C_drew ?_))); (case side2 => exact (Kd.N_reads' HO104.out).2.1); rintro e w12 ⟨rfl, hb⟩; refine ⟨_, rfl, ?_⟩; have n0_ := Aside0.mk (Kd.qn_ (vX_ HO0) hb); have n1_ := Aside0.mk (Kd.qn_ (vX_ HO1) hb); have n2_ := Aside0.mk (Kd.va_ (vX_ HO104) hb); have n3_ := Aside0.mk (qm_ (hB_ HB) hb); clear HO0; clear HO1; clear HO104; clear HB; have HO0 := n0_; have HO1 := n1_; have HO104 := n2_; have HB := n3_; clear n0_ n1_ n2_ n3_; (try clear hb); (try clear hb2); (try clear hk); (try clear hi)))
    go_meet
    case rel => exact ⟨_, (true), (by first | rfl | (simp; done) | (simp [*]; done)), H', ⟨by first | omega | exact Nat.le_refl _⟩, ⟨by (with_reducible repeat (first | apply Kd.qk_ | apply Kd.ql_ | apply Kd.V_drew)); exact Kd.V_mono HO0.out (fun _ hk => hk.1)⟩, ⟨by (with_reducible repeat (first | apply Kd.qk_ | apply Kd.ql_ | apply Kd.V_drew)); exact Kd.V_mono HO1.out (fun _ hk => hk.1)⟩, ⟨by repeat (first | (with_reducible first | exact HB.out | apply qc_ | apply qa_ | apply qb_) | exact HB.out)⟩⟩
   ·replace c8 := Bool.eq_false_iff.mpr c8; subst c8
    have H1 : ((ref06_Right.f k l0).bind fun t106 => (if t106 = true then ((ref06_Right.f k l1).bind fun t107 => (law06_ViewOvers.j0 k l0 l1 (!t107))) else (law06_ViewOvers.j0 k l0 l1 true))) = some r := by rw [if_neg (show ¬ (false = true) by decide)] at H; exact H
    clear H; have H := H1; clear H1; replace H := ob_ H; obtain ⟨t106, A130, H⟩ := H; replace H : (if t106 = true then ((ref06_Right.f k l1).bind fun t107 => (law06_ViewOvers.j0 k l0 l1 (!t107))) else (law06_ViewOvers.j0 k l0 l1 true)) = some r := H; have A13 := Aside0.mk A130; clear A130
    by_cases c14 : t106 = true
    ·subst c14
     have H1 : ((ref06_Right.f k l1).bind fun t107 => (law06_ViewOvers.j0 k l0 l1 (!t107))) = some r := by rw [if_pos rfl] at H; exact H
     clear H; have H := H1; clear H1; replace H := ob_ H; obtain ⟨t107, A150, H⟩ := H; replace H : (law06_ViewOvers.j0 k l0 l1 (!t107)) = some r := H; have A15 := Aside0.mk A150; clear A150; have H' := Aside0.mk H; clear H
     go_wp2_with (first | ((with_reducible refine qv_ (N := 10) rfl ?_); (try (refine vg_ (by rfl) ?_; dsimp only)); refine Kd.N_lit (Kd.slice 41 k41) _ 22 ?hg (N' := 10) ?hd (xs := ([l0, l1] : List (List (S41)))) (inner := [.slice A0 l0.length c0, .slice A1 l1.length c1]) (ok := (fun k_ => ((P0_ k_ ∨ P1_ k_) ∨ w.heap.size ≤ k_))) (okp := (fun k_ => ((P0_ k_ ∨ P1_ k_) ∨ w.heap.size ≤ k_))) ?hr ?hp (fun _ hk => hk) ((show ∀ k_, w6.heap.size ≤ k_ → (fun k_ => ((P0_ k_ ∨ P1_ k_) ∨ w.heap.size ≤ k_)) k_ from fun k_ hk => (.inr (Nat.le_trans (qh_ (hB_ HB)) hk))) _ (Nat.le_refl _)) (Below.refl _ _) (Nat.le_refl _) (by simp) ?_; (case hd => rfl); (case hg => rfl); (case hr => first | (go_simp; done) | (go_simp; rfl)); (case hp => exact (Reps.one (show Kd.FK (Kd.slice 41 k41) _ _ l0 [.slice A0 l0.length c0] from (Kd.FK_slice_mk (Kd.V_reads' (Kd.V_mono (ok' := (fun k_ => ((P0_ k_ ∨ P1_ k_) ∨ w.heap.size ≤ k_))) (HO0.out) (fun k_ hk => hk))).2.1 (Kd.V_F (Kd.V_mono (ok' := (fun k_ => ((P0_ k_ ∨ P1_ k_) ∨ w.heap.size ≤ k_))) (HO0.out) (fun k_ hk => hk))))) (Reps.one (show Kd.FK (Kd.slice 41 k41) _ _ l1 [.slice A1 l1.length c1] from (Kd.FK_slice_mk (Kd.V_reads' (Kd.V_mono (ok' := (fun k_ => ((P0_ k_ ∨ P1_ k_) ∨ w.heap.size ≤ k_))) (HO1.out) (fun k_ hk => hk))).2.1 (Kd.V_F (Kd.V_mono (ok' := (fun k_ => ((P0_ k_ ∨ P1_ k_) ∨ w.heap.size ≤ k_))) (HO1.out) (fun k_ hk => hk))))) (Reps.none _ _)))); intro v103 w16 ho17 hb hg_ hnew_; clear hg_ hnew_; (first | rw [← Ny102.out] at ho17 | (simp only [Int.reduceToNat] at ho17; rw [← Ny102.out] at ho17)); have n0_ := Aside0.mk (Kd.V_elder' (vX_ HO0) (by first | exact Kd.N_base ho17 | exact Kd.S_base ho17) hb); have n1_ := Aside0.mk (Kd.V_elder' (vX_ HO1) (by first | exact Kd.N_base ho17 | exact Kd.S_base ho17) hb); have n2_ := Aside0.mk (Kd.N_lower ho17 (qh_ (hB_ HB))); have n3_ := Aside0.mk (qm_ (hB_ HB) hb); clear HO0; clear HO1; clear HB; have HO0 := n0_; have HO1 := n1_; have HO104 := n2_; have HB := n3_; clear n0_ n1_ n2_ n3_; clear hb ho17; obtain ⟨Ao18, co18, eo18⟩ := Kd.N_slice HO104.out; subst eo18) | ((with_reducible refine qw_ (f := 9) rfl ?_); refine goesL_ (some 11) rfl rfl Try.func9 (by kernel_rfl) rfl #[.slice Ao18 y102.length co18] rfl (by (try simp only [List.map_toArray, List.map_cons, List.map_nil]); first | done | rfl | (simp only [List.length_drop, List.length_take]; rfl)) ?_; (with_reducible refine (law06_great.calls k _ _ y102 false _ ?side1 ?side2 A7.out).mono ?_); (case side1 => repeat (first | exact (Kd.N_reads' HO104.out).2.2 | (with_reducible refine Kd.qp_ ?_ _) | (with_reducible refine Kd.qo_ ?_ _) | (with_reducible refine Kd.C_drew ?_))); (case side2 => exact (Kd.N_reads' HO104.out).2.1); rintro e w19 ⟨rfl, hb⟩; refine ⟨_, rfl, ?_⟩; have n0_ := Aside0.mk (Kd.qn_ (vX_ HO0) hb); have n1_ := Aside0.mk (Kd.qn_ (vX_ HO1) hb); have n2_ := Aside0.mk (Kd.va_ (vX_ HO104) hb); have n3_ := Aside0.mk (qm_ (hB_ HB) hb); clear HO0; clear HO1; clear HO104; clear HB; have HO0 := n0_; have HO1 := n1_; have HO104 := n2_; have HB := n3_; clear n0_ n1_ n2_ n3_; (try clear hb); (try clear hb2); (try clear hk); (try clear hi)) | (go_at_call 11; (with_reducible refine (ref06_Right.calls k _ _ l0 true _ ?side1 ?side2 A13.out).mono ?_); (case side1 => repeat (first | exact (Kd.V_reads' HO0.out).2.2 | (with_reducible refine Kd.qp_ ?_ _) | (with_reducible refine Kd.qo_ ?_ _) | (with_reducible refine Kd.C_drew ?_))); (case side2 => exact (Kd.V_reads' HO0.out).2.1); rintro e w20 ⟨rfl, hb⟩; have n0_ := Aside0.mk (Kd.qn_ (vX_ HO0) hb); have n1_ := Aside0.mk (Kd.qn_ (vX_ HO1) hb); have n2_ := Aside0.mk (Kd.va_ (vX_ HO104) hb); have n3_ := Aside0.mk (qm_ (hB_ HB) hb); clear HO0; clear HO1; clear HO104; clear HB; have HO0 := n0_; have HO1 := n1_; have HO104 := n2_; have HB := n3_; clear n0_ n1_ n2_ n3_; (try clear hb); (try clear hb2); (try clear hk); (try clear hi)) | (go_at_call 11; (with_reducible refine (ref06_Right.calls k _ _ l1 t107 _ ?side1 ?side2 A15.out).mono ?_); (case side1 => repeat (first | exact (Kd.V_reads' HO1.out).2.2 | (with_reducible refine Kd.qp_ ?_ _) | (with_reducible refine Kd.qo_ ?_ _) | (with_reducible refine Kd.C_drew ?_))); (case side2 => exact (Kd.V_reads' HO1.out).2.1); rintro e w21 ⟨rfl, hb⟩; have n0_ := Aside0.mk (Kd.qn_ (vX_ HO0) hb); have n1_ := Aside0.mk (Kd.qn_ (vX_ HO1) hb); have n2_ := Aside0.mk (Kd.va_ (vX_ HO104) hb); have n3_ := Aside0.mk (qm_ (hB_ HB) hb); clear HO0; clear HO1; clear HO104; clear HB; have HO0 := n0_; have HO1 := n1_; have HO104 := n2_; have HB := n3_; clear n0_ n1_ n2_ n3_; (try clear hb); (try clear hb2); (try clear hk); (try clear hi)))
     go_meet
     case rel => exact ⟨_, (!t107), (by first | rfl | (simp; done) | (simp [*]; done)), H', ⟨by first | omega | exact Nat.le_refl _⟩, ⟨by (with_reducible repeat (first | apply Kd.qk_ | apply Kd.ql_ | apply Kd.V_drew)); exact Kd.V_mono HO0.out (fun _ hk => hk.1)⟩, ⟨by (with_reducible repeat (first | apply Kd.qk_ | apply Kd.ql_ | apply Kd.V_drew)); exact Kd.V_mono HO1.out (fun _ hk => hk.1)⟩, ⟨by repeat (first | (with_reducible first | exact HB.out | apply qc_ | apply qa_ | apply qb_) | exact HB.out)⟩⟩
    ·replace c14 := Bool.eq_false_iff.mpr c14; subst c14
     have H1 : (law06_ViewOvers.j0 k l0 l1 true) = some r := by rw [if_neg (show ¬ (false = true) by decide)] at H; exact H
     clear H; have H := H1; clear H1; have H' := Aside0.mk H; clear H
     go_wp2_with (first | ((with_reducible refine qv_ (N := 10) rfl ?_); (try (refine vg_ (by rfl) ?_; dsimp only)); refine Kd.N_lit (Kd.slice 41 k41) _ 22 ?hg (N' := 10) ?hd (xs := ([l0, l1] : List (List (S41)))) (inner := [.slice A0 l0.length c0, .slice A1 l1.length c1]) (ok := (fun k_ => ((P0_ k_ ∨ P1_ k_) ∨ w.heap.size ≤ k_))) (okp := (fun k_ => ((P0_ k_ ∨ P1_ k_) ∨ w.heap.size ≤ k_))) ?hr ?hp (fun _ hk => hk) ((show ∀ k_, w6.heap.size ≤ k_ → (fun k_ => ((P0_ k_ ∨ P1_ k_) ∨ w.heap.size ≤ k_)) k_ from fun k_ hk => (.inr (Nat.le_trans (qh_ (hB_ HB)) hk))) _ (Nat.le_refl _)) (Below.refl _ _) (Nat.le_refl _) (by simp) ?_; (case hd => rfl); (case hg => rfl); (case hr => first | (go_simp; done) | (go_simp; rfl)); (case hp => exact (Reps.one (show Kd.FK (Kd.slice 41 k41) _ _ l0 [.slice A0 l0.length c0] from (Kd.FK_slice_mk (Kd.V_reads' (Kd.V_mono (ok' := (fun k_ => ((P0_ k_ ∨ P1_ k_) ∨ w.heap.size ≤ k_))) (HO0.out) (fun k_ hk => hk))).2.1 (Kd.V_F (Kd.V_mono (ok' := (fun k_ => ((P0_ k_ ∨ P1_ k_) ∨ w.heap.size ≤ k_))) (HO0.out) (fun k_ hk => hk))))) (Reps.one (show Kd.FK (Kd.slice 41 k41) _ _ l1 [.slice A1 l1.length c1] from (Kd.FK_slice_mk (Kd.V_reads' (Kd.V_mono (ok' := (fun k_ => ((P0_ k_ ∨ P1_ k_) ∨ w.heap.size ≤ k_))) (HO1.out) (fun k_ hk => hk))).2.1 (Kd.V_F (Kd.V_mono (ok' := (fun k_ => ((P0_ k_ ∨ P1_ k_) ∨ w.heap.size ≤ k_))) (HO1.out) (fun k_ hk => hk))))) (Reps.none _ _)))); intro v103 w22 ho23 hb hg_ hnew_; clear hg_ hnew_; (first | rw [← Ny102.out] at ho23 | (simp only [Int.reduceToNat] at ho23; rw [← Ny102.out] at ho23)); have n0_ := Aside0.mk (Kd.V_elder' (vX_ HO0) (by first | exact Kd.N_base ho23 | exact Kd.S_base ho23) hb); have n1_ := Aside0.mk (Kd.V_elder' (vX_ HO1) (by first | exact Kd.N_base ho23 | exact Kd.S_base ho23) hb); have n2_ := Aside0.mk (Kd.N_lower ho23 (qh_ (hB_ HB))); have n3_ := Aside0.mk (qm_ (hB_ HB) hb); clear HO0; clear HO1; clear HB; have HO0 := n0_; have HO1 := n1_; have HO104 := n2_; have HB := n3_; clear n0_ n1_ n2_ n3_; clear hb ho23; obtain ⟨Ao24, co24, eo24⟩ := Kd.N_slice HO104.out; subst eo24) | ((with_reducible refine qw_ (f := 9) rfl ?_); refine goesL_ (some 11) rfl rfl Try.func9 (by kernel_rfl) rfl #[.slice Ao24 y102.length co24] rfl (by (try simp only [List.map_toArray, List.map_cons, List.map_nil]); first | done | rfl | (simp only [List.length_drop, List.length_take]; rfl)) ?_; (with_reducible refine (law06_great.calls k _ _ y102 false _ ?side1 ?side2 A7.out).mono ?_); (case side1 => repeat (first | exact (Kd.N_reads' HO104.out).2.2 | (with_reducible refine Kd.qp_ ?_ _) | (with_reducible refine Kd.qo_ ?_ _) | (with_reducible refine Kd.C_drew ?_))); (case side2 => exact (Kd.N_reads' HO104.out).2.1); rintro e w25 ⟨rfl, hb⟩; refine ⟨_, rfl, ?_⟩; have n0_ := Aside0.mk (Kd.qn_ (vX_ HO0) hb); have n1_ := Aside0.mk (Kd.qn_ (vX_ HO1) hb); have n2_ := Aside0.mk (Kd.va_ (vX_ HO104) hb); have n3_ := Aside0.mk (qm_ (hB_ HB) hb); clear HO0; clear HO1; clear HO104; clear HB; have HO0 := n0_; have HO1 := n1_; have HO104 := n2_; have HB := n3_; clear n0_ n1_ n2_ n3_; (try clear hb); (try clear hb2); (try clear hk); (try clear hi)) | (go_at_call 11; (with_reducible refine (ref06_Right.calls k _ _ l0 false _ ?side1 ?side2 A13.out).mono ?_); (case side1 => repeat (first | exact (Kd.V_reads' HO0.out).2.2 | (with_reducible refine Kd.qp_ ?_ _) | (with_reducible refine Kd.qo_ ?_ _) | (with_reducible refine Kd.C_drew ?_))); (case side2 => exact (Kd.V_reads' HO0.out).2.1); rintro e w26 ⟨rfl, hb⟩; have n0_ := Aside0.mk (Kd.qn_ (vX_ HO0) hb); have n1_ := Aside0.mk (Kd.qn_ (vX_ HO1) hb); have n2_ := Aside0.mk (Kd.va_ (vX_ HO104) hb); have n3_ := Aside0.mk (qm_ (hB_ HB) hb); clear HO0; clear HO1; clear HO104; clear HB; have HO0 := n0_; have HO1 := n1_; have HO104 := n2_; have HB := n3_; clear n0_ n1_ n2_ n3_; (try clear hb); (try clear hb2); (try clear hk); (try clear hi)))
     go_meet
     case rel => exact ⟨_, (true), (by first | rfl | (simp; done) | (simp [*]; done)), H', ⟨by first | omega | exact Nat.le_refl _⟩, ⟨by (with_reducible repeat (first | apply Kd.qk_ | apply Kd.ql_ | apply Kd.V_drew)); exact Kd.V_mono HO0.out (fun _ hk => hk.1)⟩, ⟨by (with_reducible repeat (first | apply Kd.qk_ | apply Kd.ql_ | apply Kd.V_drew)); exact Kd.V_mono HO1.out (fun _ hk => hk.1)⟩, ⟨by repeat (first | (with_reducible first | exact HB.out | apply qc_ | apply qa_ | apply qb_) | exact HB.out)⟩⟩
  case rest =>
   clear HC5
   try clear c1
   try clear p2
   try clear c4
   try clear c6
   try clear c8
   try clear c9
   try clear c14
   obtain ⟨kq, x21_4, rfl, HA, HJ4, HO_0, HO_1, HB⟩ := hcut
   cases kq with
   | zero => exact absurd HA.out (by simp [law06_ViewOvers.j0])
   | succ kj4 =>
    have H := HA.out; clear HA; simp only [law06_ViewOvers.j0] at H
    by_cases c27 : x21_4 = true
    ·subst c27
     have H1 : (some true) = some r := by rw [if_pos rfl] at H; exact H
     clear H; have H := H1; clear H1; obtain rfl := Option.some.inj H
     go_wp2
     go_ret
     exact ⟨by first | rfl | (simp [errW_none, errW_some] <;> rfl) | (simp [*, errW_none, errW_some] <;> rfl), by repeat (first | (with_reducible first | exact HB.out | apply qc_ | apply qa_ | apply qb_) | exact HB.out)⟩
    ·replace c27 := Bool.eq_false_iff.mpr c27; subst c27
     have H1 : ((view_Over.f l0 l1).bind fun t108 => (if t108 = true then ((view_Over.f l1 l0).bind fun t109 => (law06_ViewOvers.j1 kj4 l0 l1 t109)) else (law06_ViewOvers.j1 kj4 l0 l1 false))) = some r := by rw [if_neg (show ¬ (false = true) by decide)] at H; exact H
     clear H; have H := H1; clear H1; have HC28 := Aside0.mk H; clear H
     go_upto_region 5 with (fail)
     go_cut [5] (fun v5 wc => ∃ (kq : Nat) (x5_27 : Bool), v5 = .bool x5_27 ∧ Aside0 (law06_ViewOvers.j1 kq l0 l1 x5_27 = some r) ∧ Aside0 (kq ≤ kj4) ∧ Aside0 (Kd.V k41 41 wc w.heap.size (fun k_ => ((P0_ k_ ∨ P1_ k_) ∨ w.heap.size ≤ k_)) (.slice A0 l0.length c0) l0) ∧ Aside0 (Kd.V k41 41 wc w.heap.size (fun k_ => ((P0_ k_ ∨ P1_ k_) ∨ w.heap.size ≤ k_)) (.slice A1 l1.length c1) l1) ∧ Aside0 (Below w.heap.size w wc))
     case first =>
      have H := HC28.out; clear HC28; replace H := ob_ H; obtain ⟨t108, A290, H⟩ := H; replace H : (if t108 = true then ((view_Over.f l1 l0).bind fun t109 => (law06_ViewOvers.j1 kj4 l0 l1 t109)) else (law06_ViewOvers.j1 kj4 l0 l1 false)) = some r := H; have A29 := Aside0.mk A290; clear A290
      by_cases c30 : t108 = true
      ·subst c30
       have H1 : ((view_Over.f l1 l0).bind fun t109 => (law06_ViewOvers.j1 kj4 l0 l1 t109)) = some r := by rw [if_pos rfl] at H; exact H
       clear H; have H := H1; clear H1; replace H := ob_ H; obtain ⟨t109, A310, H⟩ := H; replace H : (law06_ViewOvers.j1 kj4 l0 l1 t109) = some r := H; have A31 := Aside0.mk A310; clear A310; have H' := Aside0.mk H; clear H
       go_wp2_with (first | ((with_reducible refine qw_ (f := 22) rfl ?_); refine goesL_ (some 24) rfl rfl Try.func22 (by kernel_rfl) rfl #[.slice A0 l0.length c0, .slice A1 l1.length c1] rfl (by (try simp only [List.map_toArray, List.map_cons, List.map_nil]); first | done | rfl | (simp only [List.length_drop, List.length_take]; rfl)) ?_; (with_reducible refine (view_Over.calls _ _ l0 _ _ l1 true _ ?side1 ?side2 ?side3 ?side4 A29.out).mono ?_); (case side1 => repeat (first | exact (Kd.V_reads' HO_0.out).2.2 | (with_reducible refine Kd.qp_ ?_ _) | (with_reducible refine Kd.qo_ ?_ _) | (with_reducible refine Kd.C_drew ?_))); (case side2 => exact (Kd.V_reads' HO_0.out).2.1); (case side3 => repeat (first | exact (Kd.V_reads' HO_1.out).2.2 | (with_reducible refine Kd.qp_ ?_ _) | (with_reducible refine Kd.qo_ ?_ _) | (with_reducible refine Kd.C_drew ?_))); (case side4 => exact (Kd.V_reads' HO_1.out).2.1); rintro e w32 ⟨rfl, hb⟩; refine ⟨_, rfl, ?_⟩; have n0_ := Aside0.mk (Kd.qn_ (vX_ HO_0) hb); have n1_ := Aside0.mk (Kd.qn_ (vX_ HO_1) hb); have n2_ := Aside0.mk (qm_ (hB_ HB) hb); clear HO_0; clear HO_1; clear HB; have HO_0 := n0_; have HO_1 := n1_; have HB := n2_; clear n0_ n1_ n2_; (try clear hb); (try clear hb2); (try clear hk); (try clear hi)) | (go_at_call 22; (with_reducible refine (view_Over.calls _ _ l1 _ _ l0 t109 _ ?side1 ?side2 ?side3 ?side4 A31.out).mono ?_); (case side1 => repeat (first | exact (Kd.V_reads' HO_1.out).2.2 | (with_reducible refine Kd.qp_ ?_ _) | (with_reducible refine Kd.qo_ ?_ _) | (with_reducible refine Kd.C_drew ?_))); (case side2 => exact (Kd.V_reads' HO_1.out).2.1); (case side3 => repeat (first | exact (Kd.V_reads' HO_0.out).2.2 | (with_reducible refine Kd.qp_ ?_ _) | (with_reducible refine Kd.qo_ ?_ _) | (with_reducible refine Kd.C_drew ?_))); (case side4 => exact (Kd.V_reads' HO_0.out).2.1); rintro e w33 ⟨rfl, hb⟩; have n0_ := Aside0.mk (Kd.qn_ (vX_ HO_0) hb); have n1_ := Aside0.mk (Kd.qn_ (vX_ HO_1) hb); have n2_ := Aside0.mk (qm_ (hB_ HB) hb); clear HO_0; clear HO_1; clear HB; have HO_0 := n0_; have HO_1 := n1_; have HB := n2_; clear n0_ n1_ n2_; (try clear hb); (try clear hb2); (try clear hk); (try clear hi)))
       go_meet
       case rel => exact ⟨_, (t109), (by first | rfl | (simp; done) | (simp [*]; done)), H', ⟨by have := HJ4.out; first | omega | exact Nat.le_refl _⟩, ⟨by (with_reducible repeat (first | apply Kd.qk_ | apply Kd.ql_ | apply Kd.V_drew)); exact HO_0.out⟩, ⟨by (with_reducible repeat (first | apply Kd.qk_ | apply Kd.ql_ | apply Kd.V_drew)); exact HO_1.out⟩, ⟨by repeat (first | (with_reducible first | exact HB.out | apply qc_ | apply qa_ | apply qb_) | exact HB.out)⟩⟩
      ·replace c30 := Bool.eq_false_iff.mpr c30; subst c30
       have H1 : (law06_ViewOvers.j1 kj4 l0 l1 false) = some r := by rw [if_neg (show ¬ (false = true) by decide)] at H; exact H
       clear H; have H := H1; clear H1; have H' := Aside0.mk H; clear H
       go_wp2_with (first | ((with_reducible refine qw_ (f := 22) rfl ?_); refine goesL_ (some 24) rfl rfl Try.func22 (by kernel_rfl) rfl #[.slice A0 l0.length c0, .slice A1 l1.length c1] rfl (by (try simp only [List.map_toArray, List.map_cons, List.map_nil]); first | done | rfl | (simp only [List.length_drop, List.length_take]; rfl)) ?_; (with_reducible refine (view_Over.calls _ _ l0 _ _ l1 false _ ?side1 ?side2 ?side3 ?side4 A29.out).mono ?_); (case side1 => repeat (first | exact (Kd.V_reads' HO_0.out).2.2 | (with_reducible refine Kd.qp_ ?_ _) | (with_reducible refine Kd.qo_ ?_ _) | (with_reducible refine Kd.C_drew ?_))); (case side2 => exact (Kd.V_reads' HO_0.out).2.1); (case side3 => repeat (first | exact (Kd.V_reads' HO_1.out).2.2 | (with_reducible refine Kd.qp_ ?_ _) | (with_reducible refine Kd.qo_ ?_ _) | (with_reducible refine Kd.C_drew ?_))); (case side4 => exact (Kd.V_reads' HO_1.out).2.1); rintro e w34 ⟨rfl, hb⟩; refine ⟨_, rfl, ?_⟩; have n0_ := Aside0.mk (Kd.qn_ (vX_ HO_0) hb); have n1_ := Aside0.mk (Kd.qn_ (vX_ HO_1) hb); have n2_ := Aside0.mk (qm_ (hB_ HB) hb); clear HO_0; clear HO_1; clear HB; have HO_0 := n0_; have HO_1 := n1_; have HB := n2_; clear n0_ n1_ n2_; (try clear hb); (try clear hb2); (try clear hk); (try clear hi)))
       go_meet
       case rel => exact ⟨_, (false), (by first | rfl | (simp; done) | (simp [*]; done)), H', ⟨by have := HJ4.out; first | omega | exact Nat.le_refl _⟩, ⟨by (with_reducible repeat (first | apply Kd.qk_ | apply Kd.ql_ | apply Kd.V_drew)); exact HO_0.out⟩, ⟨by (with_reducible repeat (first | apply Kd.qk_ | apply Kd.ql_ | apply Kd.V_drew)); exact HO_1.out⟩, ⟨by repeat (first | (with_reducible first | exact HB.out | apply qc_ | apply qa_ | apply qb_) | exact HB.out)⟩⟩
     case rest =>
      clear HC28
      try clear c1
      try clear c2
      try clear p2
      try clear c3
      try clear c4
      try clear c6
      try clear c8
      try clear c9
      try clear c14
      try clear c22
      try clear c27
      try clear c30
      try clear p2
      obtain ⟨kq, x5_27, rfl, HA, HJ27, HO_0, HO_1, HB⟩ := hcut
      cases kq with
      | zero => exact absurd HA.out (by simp [law06_ViewOvers.j1])
      | succ kj27 =>
       have H := HA.out; clear HA; simp only [law06_ViewOvers.j1] at H; replace H := ob_ H; obtain ⟨t110, A350, H⟩ := H; replace H : (if (x5_27 == t110) = true then ((view_Over.f l0 ([] : List (S41))).bind fun t111 => (if t111 = true then ((view_Over.f l0 l0).bind fun t112 => (if t112 = true then (if (l1.length : Int) = 0 then (some true) else ((view_Over.f ([] : List (S41)) l1).bind fun t113 => (some (!t113)))) else (some false))) else (some false))) else (some false)) = some r := H; have A35 := Aside0.mk A350; clear A350
       by_cases c36 : (x5_27 == t110) = true
       ·rw [if_pos c36] at H; have c36b0 : (x5_27 == t110) = true := c36; (try (have c36b1 : decide (x5_27 = t110) = true := by simpa using c36)); (try (have c36b2 : (x5_27 == t110) = true := by simpa using c36)); clear c36; replace H := ob_ H; obtain ⟨t111, A370, H⟩ := H; replace H : (if t111 = true then ((view_Over.f l0 l0).bind fun t112 => (if t112 = true then (if (l1.length : Int) = 0 then (some true) else ((view_Over.f ([] : List (S41)) l1).bind fun t113 => (some (!t113)))) else (some false))) else (some false)) = some r := H; have A37 := Aside0.mk A370; clear A370
        by_cases c38 : t111 = true
        ·subst c38
         have H1 : ((view_Over.f l0 l0).bind fun t112 => (if t112 = true then (if (l1.length : Int) = 0 then (some true) else ((view_Over.f ([] : List (S41)) l1).bind fun t113 => (some (!t113)))) else (some false))) = some r := by rw [if_pos rfl] at H; exact H
         clear H; have H := H1; clear H1; replace H := ob_ H; obtain ⟨t112, A390, H⟩ := H; replace H : (if t112 = true then (if (l1.length : Int) = 0 then (some true) else ((view_Over.f ([] : List (S41)) l1).bind fun t113 => (some (!t113)))) else (some false)) = some r := H; have A39 := Aside0.mk A390; clear A390
         by_cases c40 : t112 = true
         ·subst c40
          have H1 : (if (l1.length : Int) = 0 then (some true) else ((view_Over.f ([] : List (S41)) l1).bind fun t113 => (some (!t113)))) = some r := by rw [if_pos rfl] at H; exact H
          clear H; have H := H1; clear H1
          by_cases c41 : (l1.length : Int) = 0
          ·rw [if_pos c41] at H; have c41b0 : ((l1.length : Int) == 0) = true := beq_iff_eq.mpr c41; have c41b1 : ((l1.length : Int) != 0) = false := bne_eq_false_iff_eq.mpr c41; clear c41; obtain rfl := Option.some.inj H
           go_wp2_with (first | ((with_reducible refine qw_ (f := 16) rfl ?_); refine goesL_ (some 33) rfl rfl Try.func16 (by kernel_rfl) rfl #[.slice A0 l0.length c0, .slice A1 l1.length c1] rfl (by (try simp only [List.map_toArray, List.map_cons, List.map_nil]); first | done | rfl | (simp only [List.length_drop, List.length_take]; rfl)) ?_; (with_reducible refine (ref06_Same.calls kj27 _ _ l0 _ _ l1 t110 _ ?side1 ?side2 ?side3 ?side4 A35.out).mono ?_); (case side1 => repeat (first | exact (Kd.V_reads' HO_0.out).2.2 | (with_reducible refine Kd.qp_ ?_ _) | (with_reducible refine Kd.qo_ ?_ _) | (with_reducible refine Kd.C_drew ?_))); (case side2 => exact (Kd.V_reads' HO_0.out).2.1); (case side3 => repeat (first | exact (Kd.V_reads' HO_1.out).2.2 | (with_reducible refine Kd.qp_ ?_ _) | (with_reducible refine Kd.qo_ ?_ _) | (with_reducible refine Kd.C_drew ?_))); (case side4 => exact (Kd.V_reads' HO_1.out).2.1); rintro e w42 ⟨rfl, hb⟩; refine ⟨_, rfl, ?_⟩; have n0_ := Aside0.mk (Kd.qn_ (vX_ HO_0) hb); have n1_ := Aside0.mk (Kd.qn_ (vX_ HO_1) hb); have n2_ := Aside0.mk (qm_ (hB_ HB) hb); clear HO_0; clear HO_1; clear HB; have HO_0 := n0_; have HO_1 := n1_; have HB := n2_; clear n0_ n1_ n2_; (try clear hb); (try clear hb2); (try clear hk); (try clear hi)) | (go_at_call 22; (with_reducible show Calls _ _ #[_, .slice none 0 0] _ _); (refine (view_Over.calls _ _ l0 _ _ ([] : List (S41)) true _ ?side1 ?side2 ?side3 ?side4 A37.out).mono ?_); (case side1 => repeat (first | exact (Kd.V_reads' HO_0.out).2.2 | (with_reducible refine Kd.qp_ ?_ _) | (with_reducible refine Kd.qo_ ?_ _) | (with_reducible refine Kd.C_drew ?_))); (case side2 => exact (Kd.V_reads' HO_0.out).2.1); (case side3 => exact Kd.C_nil _ _); (case side4 => exact Nat.le_refl _); rintro e w43 ⟨rfl, hb⟩; have n0_ := Aside0.mk (Kd.qn_ (vX_ HO_0) hb); have n1_ := Aside0.mk (Kd.qn_ (vX_ HO_1) hb); have n2_ := Aside0.mk (qm_ (hB_ HB) hb); clear HO_0; clear HO_1; clear HB; have HO_0 := n0_; have HO_1 := n1_; have HB := n2_; clear n0_ n1_ n2_; (try clear hb); (try clear hb2); (try clear hk); (try clear hi)) | (go_at_call 22; (with_reducible refine (view_Over.calls _ _ l0 _ _ l0 true _ ?side1 ?side2 ?side3 ?side4 A39.out).mono ?_); (case side1 => repeat (first | exact (Kd.V_reads' HO_0.out).2.2 | (with_reducible refine Kd.qp_ ?_ _) | (with_reducible refine Kd.qo_ ?_ _) | (with_reducible refine Kd.C_drew ?_))); (case side2 => exact (Kd.V_reads' HO_0.out).2.1); (case side3 => repeat (first | exact (Kd.V_reads' HO_0.out).2.2 | (with_reducible refine Kd.qp_ ?_ _) | (with_reducible refine Kd.qo_ ?_ _) | (with_reducible refine Kd.C_drew ?_))); (case side4 => exact (Kd.V_reads' HO_0.out).2.1); rintro e w44 ⟨rfl, hb⟩; have n0_ := Aside0.mk (Kd.qn_ (vX_ HO_0) hb); have n1_ := Aside0.mk (Kd.qn_ (vX_ HO_1) hb); have n2_ := Aside0.mk (qm_ (hB_ HB) hb); clear HO_0; clear HO_1; clear HB; have HO_0 := n0_; have HO_1 := n1_; have HB := n2_; clear n0_ n1_ n2_; (try clear hb); (try clear hb2); (try clear hk); (try clear hi)))
           go_ret
           exact ⟨by first | rfl | (simp [errW_none, errW_some] <;> rfl) | (simp [*, errW_none, errW_some] <;> rfl), by repeat (first | (with_reducible first | exact HB.out | apply qc_ | apply qa_ | apply qb_) | exact HB.out)⟩
          ·rw [if_neg c41] at H; have c41b0 : ((l1.length : Int) == 0) = false := beq_eq_false_iff_ne.mpr c41; have c41b1 : ((l1.length : Int) != 0) = true := bne_iff_ne.mpr c41
           have c41b2 : ¬ (l1 = []) := fun h_ => c41 (by rw [h_]; rfl)
           replace H := ob_ H; obtain ⟨t113, A450, H⟩ := H; replace H : (some (!t113)) = some r := H; have A45 := Aside0.mk A450; clear A450; obtain rfl := Option.some.inj H
           go_wp2_with (first | ((with_reducible refine qw_ (f := 16) rfl ?_); refine goesL_ (some 33) rfl rfl Try.func16 (by kernel_rfl) rfl #[.slice A0 l0.length c0, .slice A1 l1.length c1] rfl (by (try simp only [List.map_toArray, List.map_cons, List.map_nil]); first | done | rfl | (simp only [List.length_drop, List.length_take]; rfl)) ?_; (with_reducible refine (ref06_Same.calls kj27 _ _ l0 _ _ l1 t110 _ ?side1 ?side2 ?side3 ?side4 A35.out).mono ?_); (case side1 => repeat (first | exact (Kd.V_reads' HO_0.out).2.2 | (with_reducible refine Kd.qp_ ?_ _) | (with_reducible refine Kd.qo_ ?_ _) | (with_reducible refine Kd.C_drew ?_))); (case side2 => exact (Kd.V_reads' HO_0.out).2.1); (case side3 => repeat (first | exact (Kd.V_reads' HO_1.out).2.2 | (with_reducible refine Kd.qp_ ?_ _) | (with_reducible refine Kd.qo_ ?_ _) | (with_reducible refine Kd.C_drew ?_))); (case side4 => exact (Kd.V_reads' HO_1.out).2.1); rintro e w46 ⟨rfl, hb⟩; refine ⟨_, rfl, ?_⟩; have n0_ := Aside0.mk (Kd.qn_ (vX_ HO_0) hb); have n1_ := Aside0.mk (Kd.qn_ (vX_ HO_1) hb); have n2_ := Aside0.mk (qm_ (hB_ HB) hb); clear HO_0; clear HO_1; clear HB; have HO_0 := n0_; have HO_1 := n1_; have HB := n2_; clear n0_ n1_ n2_; (try clear hb); (try clear hb2); (try clear hk); (try clear hi)) | (go_at_call 22; (with_reducible show Calls _ _ #[_, .slice none 0 0] _ _); (refine (view_Over.calls _ _ l0 _ _ ([] : List (S41)) true _ ?side1 ?side2 ?side3 ?side4 A37.out).mono ?_); (case side1 => repeat (first | exact (Kd.V_reads' HO_0.out).2.2 | (with_reducible refine Kd.qp_ ?_ _) | (with_reducible refine Kd.qo_ ?_ _) | (with_reducible refine Kd.C_drew ?_))); (case side2 => exact (Kd.V_reads' HO_0.out).2.1); (case side3 => exact Kd.C_nil _ _); (case side4 => exact Nat.le_refl _); rintro e w47 ⟨rfl, hb⟩; have n0_ := Aside0.mk (Kd.qn_ (vX_ HO_0) hb); have n1_ := Aside0.mk (Kd.qn_ (vX_ HO_1) hb); have n2_ := Aside0.mk (qm_ (hB_ HB) hb); clear HO_0; clear HO_1; clear HB; have HO_0 := n0_; have HO_1 := n1_; have HB := n2_; clear n0_ n1_ n2_; (try clear hb); (try clear hb2); (try clear hk); (try clear hi)) | (go_at_call 22; (with_reducible refine (view_Over.calls _ _ l0 _ _ l0 true _ ?side1 ?side2 ?side3 ?side4 A39.out).mono ?_); (case side1 => repeat (first | exact (Kd.V_reads' HO_0.out).2.2 | (with_reducible refine Kd.qp_ ?_ _) | (with_reducible refine Kd.qo_ ?_ _) | (with_reducible refine Kd.C_drew ?_))); (case side2 => exact (Kd.V_reads' HO_0.out).2.1); (case side3 => repeat (first | exact (Kd.V_reads' HO_0.out).2.2 | (with_reducible refine Kd.qp_ ?_ _) | (with_reducible refine Kd.qo_ ?_ _) | (with_reducible refine Kd.C_drew ?_))); (case side4 => exact (Kd.V_reads' HO_0.out).2.1); rintro e w48 ⟨rfl, hb⟩; have n0_ := Aside0.mk (Kd.qn_ (vX_ HO_0) hb); have n1_ := Aside0.mk (Kd.qn_ (vX_ HO_1) hb); have n2_ := Aside0.mk (qm_ (hB_ HB) hb); clear HO_0; clear HO_1; clear HB; have HO_0 := n0_; have HO_1 := n1_; have HB := n2_; clear n0_ n1_ n2_; (try clear hb); (try clear hb2); (try clear hk); (try clear hi)) | (go_at_call 22; (with_reducible show Calls _ _ #[.slice none 0 0, _] _ _); (refine (view_Over.calls _ _ ([] : List (S41)) _ _ l1 t113 _ ?side1 ?side2 ?side3 ?side4 A45.out).mono ?_); (case side1 => exact Kd.C_nil _ _); (case side2 => exact Nat.le_refl _); (case side3 => repeat (first | exact (Kd.V_reads' HO_1.out).2.2 | (with_reducible refine Kd.qp_ ?_ _) | (with_reducible refine Kd.qo_ ?_ _) | (with_reducible refine Kd.C_drew ?_))); (case side4 => exact (Kd.V_reads' HO_1.out).2.1); rintro e w49 ⟨rfl, hb⟩; have n0_ := Aside0.mk (Kd.qn_ (vX_ HO_0) hb); have n1_ := Aside0.mk (Kd.qn_ (vX_ HO_1) hb); have n2_ := Aside0.mk (qm_ (hB_ HB) hb); clear HO_0; clear HO_1; clear HB; have HO_0 := n0_; have HO_1 := n1_; have HB := n2_; clear n0_ n1_ n2_; (try clear hb); (try clear hb2); (try clear hk); (try clear hi)))
           go_ret
           exact ⟨by first | rfl | (simp [errW_none, errW_some] <;> rfl) | (simp [*, errW_none, errW_some] <;> rfl), by repeat (first | (with_reducible first | exact HB.out | apply qc_ | apply qa_ | apply qb_) | exact HB.out)⟩
         ·rw [if_neg c40] at H; exact absurd ((Option.some.inj H).trans HRT.out) (by decide)
        ·rw [if_neg c38] at H; exact absurd ((Option.some.inj H).trans HRT.out) (by decide)
       ·rw [if_neg c36] at H; exact absurd ((Option.some.inj H).trans HRT.out) (by decide)
 ·rw [if_neg c4] at H; exact absurd ((Option.some.inj H).trans HRT.out) (by decide)
end Go.Proofs.Ythpbggknfhchlaa.P

/- What this function of the program comes to, and that the machine's call does it. No condition. -/
import Derived.Test.YtgipbmjkgciccaaPEntryHigher
namespace Go.Proofs.Ytgipbmjkgciccaa.P
set_option maxHeartbeats 8000000
set_option maxRecDepth 100000
open Go.RowKit Go.Proofs.YtgipbmjkgciccaaW.PrintWords Go.Proofs.YtgipbmjkgciccaaW.PrintLast Go.Proofs.YtgipbmjkgciccaaW.PrintMore
attribute [local go_sem] max2_int min2_int max_two min_two max_three min_three max_four min_four Go.Proofs.YtgipbmjkgciccaaW.Hw.string_gtr
set_option linter.unusedVariables false
set_option linter.unusedSimpArgs false
mutual
def entry_Join.l0 : Nat → List (S58) → List (S58) → List (S58) → Option ((List (S58)))
 | 0, _, _, _ => none
 | k + 1, x0, x1, x5 => if (x0.length : Int) > 0 then (entry_Join.j1 k x0 x1 x5 true) else (entry_Join.j1 k x0 x1 x5 (decide ((x1.length : Int) > 0)))
def entry_Join.j1 : Nat → List (S58) → List (S58) → List (S58) → Bool → Option ((List (S58)))
 | 0, _, _, _, _ => none
 | k + 1, x0, x1, x5, x19 => if x19 = true then (if (x1.length : Int) = 0 then (entry_Join.j2 k x0 x1 x5 true) else (if (x0.length : Int) > 0 then (if 0 < (x0.length : Int) then (if 0 < (x1.length : Int) then (entry_Join.j2 k x0 x1 x5 (decide (((rd_T58 x0 0).f0) < ((rd_T58 x1 0).f0)))) else (none)) else (none)) else (entry_Join.j2 k x0 x1 x5 false))) else (some x5)
def entry_Join.j2 : Nat → List (S58) → List (S58) → List (S58) → Bool → Option ((List (S58)))
 | 0, _, _, _, _ => none
 | k + 1, x0, x1, x5, x34 => if x34 = true then (if 0 < (x0.length : Int) then (if x5.length < 4398046511104 then (if 1 ≤ (x0.length : Int) then (entry_Join.l0 k (x0.drop 1) x1 (x5 ++ [(⟨(rd_T58 x0 0).f0, (rd_T58 x0 0).f1, (rd_T58 x0 0).f2⟩ : S58)])) else (none)) else (none)) else (none)) else (if (x0.length : Int) = 0 then (if 0 < (x1.length : Int) then (if x5.length < 4398046511104 then (if 1 ≤ (x1.length : Int) then (entry_Join.l0 k x0 (x1.drop 1) (x5 ++ [(⟨(rd_T58 x1 0).f0, (rd_T58 x1 0).f1, (rd_T58 x1 0).f2⟩ : S58)])) else (none)) else (none)) else (none)) else (if 0 < (x1.length : Int) then (if 0 < (x0.length : Int) then (if ((rd_T58 x1 0).f0) < ((rd_T58 x0 0).f0) then (if x5.length < 4398046511104 then (if 1 ≤ (x1.length : Int) then (entry_Join.l0 k x0 (x1.drop 1) (x5 ++ [(⟨(rd_T58 x1 0).f0, (rd_T58 x1 0).f1, (rd_T58 x1 0).f2⟩ : S58)])) else (none)) else (none)) else ((entry_higher.f ((rd_T58 x0 0).f0) ((rd_T58 x0 0).f1) ((rd_T58 x0 0).f2) ((rd_T58 x1 0).f0) ((rd_T58 x1 0).f1) ((rd_T58 x1 0).f2)).bind fun bt137 => (if x5.length < 4398046511104 then (if 1 ≤ (x0.length : Int) then (if 1 ≤ (x1.length : Int) then (entry_Join.l0 k (x0.drop 1) (x1.drop 1) (x5 ++ [(⟨bt137.1, bt137.2.1, bt137.2.2⟩ : S58)])) else (none)) else (none)) else (none)))) else (none)) else (none)))
end
def entry_Join.f (k : Nat) (l0 : List (S58)) (l1 : List (S58)) : Option ((List (S58))) := if 0 ≤ (wrap64 ((l0.length : Int) + (l1.length : Int))) then (if (wrap64 ((l0.length : Int) + (l1.length : Int)) : Int).toNat ≤ 8796093022208 then (entry_Join.l0 k l0 l1 (([] : List (S58)))) else (none)) else (none)
theorem entry_Join.mono_l : ∀ k, (∀ y0 y1 y2, LeO (entry_Join.l0 k y0 y1 y2) (entry_Join.l0 (k + 1) y0 y1 y2)) ∧ (∀ y0 y1 y2 y3, LeO (entry_Join.j1 k y0 y1 y2 y3) (entry_Join.j1 (k + 1) y0 y1 y2 y3)) ∧ (∀ y0 y1 y2 y3, LeO (entry_Join.j2 k y0 y1 y2 y3) (entry_Join.j2 (k + 1) y0 y1 y2 y3))
 | 0 => ⟨fun _ _ _ r h => by simp [entry_Join.l0] at h, fun _ _ _ _ r h => by simp [entry_Join.j1] at h, fun _ _ _ _ r h => by simp [entry_Join.j2] at h⟩
 | k + 1 => by
  obtain ⟨ih0, ih1, ih2⟩ := entry_Join.mono_l k; refine ⟨?_, ?_, ?_⟩
  ·intro y0 y1 y2
   unfold entry_Join.l0
   repeat' first
   | (with_reducible exact ih0 _ _ _)
   | (with_reducible exact ih1 _ _ _ _)
   | (with_reducible exact ih2 _ _ _ _)
   | (with_reducible exact LeO.refl _)
   | (with_reducible exact LeO.none _)
   | (with_reducible refine LeO.ite ?_ ?_)
   | (with_reducible refine LeO.bind ?_ (fun _ => ?_))
   | exact ih0 _ _ _
   | exact ih1 _ _ _ _
   | exact ih2 _ _ _ _
   | exact LeO.none _
   | refine LeO.ite ?_ ?_
   | refine LeO.bind ?_ (fun _ => ?_)
  ·intro y0 y1 y2 y3
   unfold entry_Join.j1
   repeat' first
   | (with_reducible exact ih0 _ _ _)
   | (with_reducible exact ih1 _ _ _ _)
   | (with_reducible exact ih2 _ _ _ _)
   | (with_reducible exact LeO.refl _)
   | (with_reducible exact LeO.none _)
   | (with_reducible refine LeO.ite ?_ ?_)
   | (with_reducible refine LeO.bind ?_ (fun _ => ?_))
   | exact ih0 _ _ _
   | exact ih1 _ _ _ _
   | exact ih2 _ _ _ _
   | exact LeO.none _
   | refine LeO.ite ?_ ?_
   | refine LeO.bind ?_ (fun _ => ?_)
  ·intro y0 y1 y2 y3
   unfold entry_Join.j2
   repeat' first
   | (with_reducible exact ih0 _ _ _)
   | (with_reducible exact ih1 _ _ _ _)
   | (with_reducible exact ih2 _ _ _ _)
   | (with_reducible exact LeO.refl _)
   | (with_reducible exact LeO.none _)
   | (with_reducible refine LeO.ite ?_ ?_)
   | (with_reducible refine LeO.bind ?_ (fun _ => ?_))
   | exact ih0 _ _ _
   | exact ih1 _ _ _ _
   | exact ih2 _ _ _ _
   | exact LeO.none _
   | refine LeO.ite ?_ ?_
   | refine LeO.bind ?_ (fun _ => ?_)
theorem entry_Join.mono : ∀ a0 a1 k, LeO (entry_Join.f k a0 a1) (entry_Join.f (k + 1) a0 a1) := by
 intro a0 a1 k; obtain ⟨ih0, ih1, ih2⟩ := entry_Join.mono_l k
 unfold entry_Join.f
 repeat' first
   | (with_reducible exact ih0 _ _ _)
   | (with_reducible exact ih1 _ _ _ _)
   | (with_reducible exact ih2 _ _ _ _)
   | (with_reducible exact LeO.refl _)
   | (with_reducible exact LeO.none _)
   | (with_reducible refine LeO.ite ?_ ?_)
   | (with_reducible refine LeO.bind ?_ (fun _ => ?_))
   | exact ih0 _ _ _
   | exact ih1 _ _ _ _
   | exact ih2 _ _ _ _
   | exact LeO.none _
   | refine LeO.ite ?_ ?_
   | refine LeO.bind ?_ (fun _ => ?_)
def entry_Join.T3 : Bool × List (List Nat × List Nat) := (true, [([], []), ([], []), ([1], [1]), ([2], [2]), ([], []), ([4], [4]), ([5], [5]), ([3, 6], [3, 6]), ([7], [7]), ([0, 8, 7], [0, 8]), ([], []), ([10], [10]), ([], []), ([12], [12]), ([9, 9, 0, 1, 2, 3, 4, 5, 6, 7, 8, 9], [0, 9]), ([11, 14, 0, 1, 2, 3, 4, 5, 6, 7, 8, 9, 10, 11, 14], [1, 10, 11]), ([13, 15, 0, 1, 2, 3, 4, 5, 6, 7, 8, 9, 10, 11, 12, 13, 14, 15], [4, 12, 13])])
def entry_Join.B3 : List Nat := [0, 0, 2, 6, 0, 16, 48, 126, 254, 511, 0, 1024, 0, 4096, 1023, 20479, 65535]
theorem entry_Join.tab3 : rtab .any (opsOf Try.f83 3) = entry_Join.T3 := by kernel_rfl
theorem entry_Join.bits3 : waitsOk entry_Join.T3.2 entry_Join.B3 = true := by kernel_rfl
def entry_Join.T4 : Bool × List (List Nat × List Nat) := (true, [([], []), ([0], [0]), ([1], [1]), ([2], [2]), ([3], [3]), ([4, 3], [3, 4]), ([5, 3], [3, 5]), ([6, 3, 3], [3, 6]), ([7], [7]), ([8, 7], [7, 8]), ([9, 7], [7, 9]), ([10, 7], [7, 10]), ([7], [7]), ([12, 7], [7, 12]), ([13, 7], [7, 13]), ([14, 7], [7, 14]), ([11, 15, 7], [7, 11, 15]), ([7, 16, 3], [3, 7, 16]), ([3, 17], [3, 17]), ([18, 7], [18])])
def entry_Join.B4 : List Nat := [0, 1, 3, 7, 15, 31, 63, 127, 255, 511, 1023, 2047, 255, 4351, 12543, 28927, 65535, 131071, 262143, 524287]
theorem entry_Join.tab4 : rtab .any (opsOf Try.f83 4) = entry_Join.T4 := by kernel_rfl
theorem entry_Join.bits4 : waitsOk entry_Join.T4.2 entry_Join.B4 = true := by kernel_rfl
def entry_Join.T5 : Bool × List (List Nat × List Nat) := (true, [([], []), ([], []), ([1], [1]), ([2], [2]), ([3], [3]), ([0, 4], [0, 4]), ([], []), ([6], [6]), ([5, 5, 0, 1, 2, 3, 4, 5], [0, 5]), ([7, 8, 0, 1, 2, 3, 4, 5, 6, 7, 8], [1, 6, 7])])
def entry_Join.B5 : List Nat := [0, 0, 2, 6, 14, 31, 0, 64, 63, 511]
theorem entry_Join.tab5 : rtab .any (opsOf Try.f83 5) = entry_Join.T5 := by kernel_rfl
theorem entry_Join.bits5 : waitsOk entry_Join.T5.2 entry_Join.B5 = true := by kernel_rfl
def entry_Join.T6 : Bool × List (List Nat × List Nat) := (true, [([], []), ([0], [0]), ([1], [1]), ([2], [2]), ([3], [3]), ([4, 3], [3, 4]), ([5, 3], [3, 5]), ([6, 3], [3, 6]), ([3], [3]), ([8, 3], [3, 8]), ([9, 3], [3, 9]), ([10, 3], [3, 10]), ([7, 11, 3], [3, 7, 11]), ([3, 12], [3, 12]), ([13, 3], [13])])
def entry_Join.B6 : List Nat := [0, 1, 3, 7, 15, 31, 63, 127, 15, 271, 783, 1807, 4095, 8191, 16383]
theorem entry_Join.tab6 : rtab .any (opsOf Try.f83 6) = entry_Join.T6 := by kernel_rfl
theorem entry_Join.bits6 : waitsOk entry_Join.T6.2 entry_Join.B6 = true := by kernel_rfl
def entry_Join.T7 : Bool × List (List Nat × List Nat) := (true, [([], []), ([], []), ([1], [1]), ([2], [2]), ([3], [3]), ([0, 4], [0, 4]), ([], []), ([6], [6]), ([5, 5, 0, 1, 2, 3, 4, 5], [0, 5]), ([7, 8, 0, 1, 2, 3, 4, 5, 6, 7, 8], [1, 6, 7])])
def entry_Join.B7 : List Nat := [0, 0, 2, 6, 14, 31, 0, 64, 63, 511]
theorem entry_Join.tab7 : rtab .any (opsOf Try.f83 7) = entry_Join.T7 := by kernel_rfl
theorem entry_Join.bits7 : waitsOk entry_Join.T7.2 entry_Join.B7 = true := by kernel_rfl
theorem entry_Join.calls (k : Nat) (P0_ : Nat → Prop) (A0 : Option Addr) (c0 : Nat) (l0 : List (S58)) (P1_ : Nat → Prop) (A1 : Option Addr) (c1 : Nat) (l1 : List (S58)) (r : List (S58)) (w : World) (hs0 : Kd.V k58 58 w w.heap.size (fun k_ => P0_ k_) (.slice A0 l0.length c0) l0) (hs1 : Kd.V k58 58 w w.heap.size (fun k_ => P1_ k_) (.slice A1 l1.length c1) l1) (h : entry_Join.f k l0 l1 = some r) :
  Calls Try.prog 83 #[.slice A0 l0.length c0, .slice A1 l1.length c1] w fun e w' => ∃ v0_ : Value, e = .returned (v0_) ∧ Kd.R k58 58 w' w.heap.size (fun k_ => (w.heap.size ≤ k_)) v0_ r ∧ Below w.heap.size w w' := by
 have hu58 := Try.underlying58; have HO0 := Zq_.mk (show Kd.V k58 58 w w.heap.size (fun k_ => ((P0_ k_ ∨ P1_ k_) ∨ w.heap.size ≤ k_)) (.slice A0 l0.length c0) l0 from Kd.V_mono hs0 (fun k_ hk => .inl (.inl hk))); have HO1 := Zq_.mk (show Kd.V k58 58 w w.heap.size (fun k_ => ((P0_ k_ ∨ P1_ k_) ∨ w.heap.size ≤ k_)) (.slice A1 l1.length c1) l1 from Kd.V_mono hs1 (fun k_ hk => .inl (.inr hk))); have HB := Zq_.mk (Below.refl w.heap.size w); have H : (if 0 ≤ (wrap64 ((l0.length : Int) + (l1.length : Int))) then (if (wrap64 ((l0.length : Int) + (l1.length : Int)) : Int).toNat ≤ 8796093022208 then (entry_Join.l0 k l0 l1 (([] : List (S58)))) else (none)) else (none)) = some r := h; clear h; obtain ⟨ji3, hji3⟩ : ∃ j_ : Int, (wrap64 ((l0.length : Int) + (l1.length : Int))) = j_ := ⟨_, rfl⟩
 replace H : (if 0 ≤ (ji3) then (if (ji3 : Int).toNat ≤ 8796093022208 then (entry_Join.l0 k l0 l1 (([] : List (S58)))) else (none)) else (none)) = some r := by first | (rw [hji3] at H; exact H) | (simp only [hji3] at H ⊢; exact H)
 have hji3w : (IntKind.i64.wrap ((l0.length : Int) + (l1.length : Int))) = ji3 := (i64_w _).trans hji3
 by_cases c4 : 0 ≤ (ji3)
 ·rw [if_pos c4] at H; have c4b0 := eq_true c4; have c4b1 : decide (0 ≤ (ji3)) = true := decide_eq_true c4; clear c4
  by_cases c5 : (ji3 : Int).toNat ≤ 8796093022208
  ·rw [if_pos c5] at H; have c5b0 := eq_true c5; have c5b1 : decide ((ji3 : Int).toNat ≤ 8796093022208) = true := decide_eq_true c5; clear c5; obtain ⟨y101, hy101⟩ : ∃ y_ : List (S58), y_ = (([] : List (S58))) := ⟨_, rfl⟩
   replace H : (entry_Join.l0 k l0 l1 y101) = some r := by first | (rw [hy101]; with_reducible exact H) | (have H2_ := (Option.bind_some _ _).symm.trans H; rw [hy101]; with_reducible exact H2_) | (have H2_ := (Option.bind_some _ _).symm.trans H; with_reducible exact H2_) | with_reducible exact H | (rw [hy101]; exact H) | exact H
   have Ny101 := Zq_.mk hy101; clear hy101; have H' := Zq_.mk H; clear H
   go_enter Try.func83, Try.ntmps83
   go_wp2_with (first | ((with_reducible refine qq_ (N := 11) rfl ?_); (try (refine gate_guard (by rfl) ?_; dsimp only)); refine Kd.R_makec k58 _ 58 rfl (N := 11) rfl 33 _ _ rfl ji3 rfl rfl Try.underlying33 (.agg #[(.int .i64 0), (.int .i64 0), (.string ⟨#[]⟩)]) 32 info58 rfl (by decide) (by omega) (ok := fun _ => True) trivial (dA_) (Nat.le_trans (Nat.mul_le_mul_right _ (dA_ : (ji3 : Int).toNat ≤ 8796093022208)) (by omega)) (Below.refl _ _) (Nat.le_refl _) ?_; intro v102 w6 ho7 hb hg_ hnew_; clear hg_ hnew_; (first | rw [← Ny101.out] at ho7 | (simp only [Int.reduceToNat] at ho7; rw [← Ny101.out] at ho7)); replace HO0 := Zq_.mk (Kd.V_elder' (vX_ HO0) (Kd.R_base ho7) hb); replace HO1 := Zq_.mk (Kd.V_elder' (vX_ HO1) (Kd.R_base ho7) hb); have HO103 := Zq_.mk (Kd.R_lower (Kd.R_newM (M := fun k_ => (w.heap.size ≤ k_)) ho7 (qj_ (hB_ HB)) (fun k_ h_ => h_)) (qj_ (hB_ HB))); replace HB := Zq_.mk (ql_ (hB_ HB) hb); clear hb ho7))
   go_loopg [0, 1, 5] k (fun kq v0 v1 v5 w' => ∃ (x0_1 : List (S58)) (x1_1 : List (S58)) (x5_1 : List (S58)), Zq_ (entry_Join.l0 kq x0_1 x1_1 x5_1 = some r) ∧ Zq_ (kq ≤ k) ∧ Zq_ (Kd.V k58 58 w' w.heap.size (fun k_ => ((P0_ k_ ∨ P1_ k_) ∨ w.heap.size ≤ k_) ∧ some k_ ≠ (v5 : Value).ownBlock) v0 x0_1) ∧ Zq_ (Kd.V k58 58 w' w.heap.size (fun k_ => ((P0_ k_ ∨ P1_ k_) ∨ w.heap.size ≤ k_) ∧ some k_ ≠ (v5 : Value).ownBlock) v1 x1_1) ∧ Zq_ (Kd.R k58 58 w' w.heap.size (fun k_ => (w.heap.size ≤ k_)) v5 x5_1) ∧ Zq_ (Below w.heap.size w w'))
   case atStart => exact ⟨(l0), (l1), (y101), H', ⟨Nat.le_refl _⟩, ⟨by (with_reducible repeat (first | apply Kd.qn_ | apply Kd.qm_ | apply Kd.V_drew)); exact HO0.out⟩, ⟨by (with_reducible repeat (first | apply Kd.qn_ | apply Kd.qm_ | apply Kd.V_drew)); exact HO1.out⟩, ⟨by (with_reducible repeat (first | apply Kd.qu_ | apply Kd.qt_ | apply Kd.R_drew)); exact Kd.R_mono HO103.out (fun _ hk => hk.1)⟩, ⟨hB_ HB⟩⟩
   case round =>
    clear H'
    try clear c1
    try clear p2
    try clear c4
    try clear c4b0
    try clear c4b1
    try clear c5
    try clear c5b0
    try clear c5b1
    try clear p6
    obtain ⟨x0_1, x1_1, x5_1, HA, HK1, HO_0, HO_1, HO_5, HB⟩ := hrel
    cases gk with
    | zero => exact absurd HA.out (by simp [entry_Join.l0])
    | succ k1 =>
     have H := HA.out; clear HA; simp only [entry_Join.l0] at H; have HC8 := Zq_.mk H; clear H
     go_upto_region 2 with (fail)
     go_cut [19] (fun v19 wc => ∃ (kq : Nat) (x19_7 : Bool), v19 = .bool x19_7 ∧ Zq_ (entry_Join.j1 kq x0_1 x1_1 x5_1 x19_7 = some r) ∧ Zq_ (kq ≤ k1) ∧ Zq_ (Kd.V k58 58 wc w.heap.size (fun k_ => ((P0_ k_ ∨ P1_ k_) ∨ w.heap.size ≤ k_) ∧ some k_ ≠ (u5 : Value).ownBlock) u0 x0_1) ∧ Zq_ (Kd.V k58 58 wc w.heap.size (fun k_ => ((P0_ k_ ∨ P1_ k_) ∨ w.heap.size ≤ k_) ∧ some k_ ≠ (u5 : Value).ownBlock) u1 x1_1) ∧ Zq_ (Kd.R k58 58 wc w.heap.size (fun k_ => (w.heap.size ≤ k_)) u5 x5_1) ∧ Zq_ (Below w.heap.size w wc))
     case first =>
      have H := HC8.out; clear HC8
      by_cases c9 : (x0_1.length : Int) > 0
      ·rw [if_pos c9] at H; have c9b0 : decide (0 < (x0_1.length : Int)) = true := decide_eq_true c9; have c9b1 : decide (0 < x0_1.length) = true := decide_eq_true (by omega); clear c9; (first | rw [c9b0] | (simp only [i64_w, i32_w]; rw [c9b0]) | skip); have H' := Zq_.mk H; clear H; obtain ⟨Ao10, co10, eo10⟩ := Kd.V_slice HO_0.out; subst eo10
       go_wp2
       go_meet
       case rel => exact ⟨_, (true), (by first | rfl | (simp; done) | (simp [*]; done)), H', ⟨by have := HK1.out; first | omega | exact Nat.le_refl _⟩, ⟨by (with_reducible repeat (first | apply Kd.qn_ | apply Kd.qm_ | apply Kd.V_drew)); exact HO_0.out⟩, ⟨by (with_reducible repeat (first | apply Kd.qn_ | apply Kd.qm_ | apply Kd.V_drew)); exact HO_1.out⟩, ⟨by (with_reducible repeat (first | apply Kd.qu_ | apply Kd.qt_ | apply Kd.R_drew)); exact HO_5.out⟩, ⟨hB_ HB⟩⟩
      ·rw [if_neg c9] at H; have c9b0 : decide (0 < (x0_1.length : Int)) = false := decide_eq_false c9; have c9b1 : decide (0 < x0_1.length) = false := decide_eq_false (by omega); clear c9; (first | rw [c9b0] | (simp only [i64_w, i32_w]; rw [c9b0]) | skip); have H' := Zq_.mk H; clear H; obtain ⟨Ao11, co11, eo11⟩ := Kd.V_slice HO_0.out; subst eo11; obtain ⟨Ao12, co12, eo12⟩ := Kd.V_slice HO_1.out; subst eo12
       go_wp2
       go_meet
       case rel => exact ⟨_, (decide ((x1_1.length : Int) > 0)), (by first | rfl | (simp; done) | (simp [*]; done)), H', ⟨by have := HK1.out; first | omega | exact Nat.le_refl _⟩, ⟨by (with_reducible repeat (first | apply Kd.qn_ | apply Kd.qm_ | apply Kd.V_drew)); exact HO_0.out⟩, ⟨by (with_reducible repeat (first | apply Kd.qn_ | apply Kd.qm_ | apply Kd.V_drew)); exact HO_1.out⟩, ⟨by (with_reducible repeat (first | apply Kd.qu_ | apply Kd.qt_ | apply Kd.R_drew)); exact HO_5.out⟩, ⟨hB_ HB⟩⟩
     case rest =>
      clear HC8
      try clear c1
      try clear p2
      try clear c4
      try clear c4b0
      try clear c4b1
      try clear c5
      try clear c5b0
      try clear c5b1
      try clear p6
      try clear c8
      try clear c9
      try clear c9b0
      try clear c9b1
      try clear p2
      try clear p6
      obtain ⟨kq, x19_7, rfl, HA, HJ7, HO_0, HO_1, HO_5, HB⟩ := hcut
      cases kq with
      | zero => exact absurd HA.out (by simp [entry_Join.j1])
      | succ kj7 =>
       have H := HA.out; clear HA; simp only [entry_Join.j1] at H
       by_cases c13 : x19_7 = true
       ·subst c13
        have H1 : (if (x1_1.length : Int) = 0 then (entry_Join.j2 kj7 x0_1 x1_1 x5_1 true) else (if (x0_1.length : Int) > 0 then (if 0 < (x0_1.length : Int) then (if 0 < (x1_1.length : Int) then (entry_Join.j2 kj7 x0_1 x1_1 x5_1 (decide (((rd_T58 x0_1 0).f0) < ((rd_T58 x1_1 0).f0)))) else (none)) else (none)) else (entry_Join.j2 kj7 x0_1 x1_1 x5_1 false))) = some r := by rw [if_pos rfl] at H; exact H
        clear H; have H := H1; clear H1; have HC14 := Zq_.mk H; clear H
        go_upto_region 4 with (fail)
        go_cut [34] (fun v34 wc => ∃ (kq : Nat) (x34_13 : Bool), v34 = .bool x34_13 ∧ Zq_ (entry_Join.j2 kq x0_1 x1_1 x5_1 x34_13 = some r) ∧ Zq_ (kq ≤ kj7) ∧ Zq_ (Kd.V k58 58 wc w.heap.size (fun k_ => ((P0_ k_ ∨ P1_ k_) ∨ w.heap.size ≤ k_) ∧ some k_ ≠ (u5 : Value).ownBlock) u0 x0_1) ∧ Zq_ (Kd.V k58 58 wc w.heap.size (fun k_ => ((P0_ k_ ∨ P1_ k_) ∨ w.heap.size ≤ k_) ∧ some k_ ≠ (u5 : Value).ownBlock) u1 x1_1) ∧ Zq_ (Kd.R k58 58 wc w.heap.size (fun k_ => (w.heap.size ≤ k_)) u5 x5_1) ∧ Zq_ (Below w.heap.size w wc))
        case first =>
         have H := HC14.out; clear HC14
         by_cases c15 : (x1_1.length : Int) = 0
         ·rw [if_pos c15] at H; have c15b0 : ((x1_1.length : Int) == 0) = true := beq_iff_eq.mpr c15; have c15b1 : ((x1_1.length : Int) != 0) = false := bne_eq_false_iff_eq.mpr c15; clear c15; (first | rw [c15b0] | (simp only [i64_w, i32_w]; rw [c15b0]) | skip); have H' := Zq_.mk H; clear H; (try go_wp2); replace HO_0 := Zq_.mk (Kd.V_drew HO_0.out); replace HO_1 := Zq_.mk (Kd.V_drew HO_1.out); replace HO_5 := Zq_.mk (Kd.R_drew HO_5.out); replace HB := Zq_.mk (qb_ HB.out); obtain ⟨Ao17, co17, eo17⟩ := Kd.V_slice HO_1.out; (first | subst eo17 | (injection eo17 with f1_ f2_ f3_; have f4_ := f1_.symm; have f5_ := f3_.symm; clear f1_ f2_ f3_; subst f4_; subst f5_)); refine start_ (n := 20) (S := fun w' => True) (ds := []) #[false,false,false,false,false,false,false,false,false,false,false,false,false,false,false,false,false,false,false,false] (by kernel_rfl) rfl rfl trivial (fun hHeld => ?_); refine vd_ entry_Join.tab4 entry_Join.bits4 (fun HT_ HW_ => ?_); generalize wc.drew = w16 at HO_0 HO_1 HO_5 HB hHeld ⊢; refine pP_ 0 35 20 1 HT_ ?_; refine pP_ 1 36 20 3 HT_ ?_; refine pP_ 2 37 20 7 HT_ ?_; refine pP_ 3 38 20 15 HT_ ?_; refine pU_ 4 39 20 31 HT_ ?_; refine pU_ 5 40 20 63 HT_ ?_; refine pU_ 6 41 20 127 HT_ ?_; refine pU_ 7 42 20 255 HT_ ?_; refine pU_ 8 43 20 511 HT_ ?_; refine pU_ 9 44 20 1023 HT_ ?_; refine pU_ 10 45 20 2047 HT_ ?_; refine pU_ 11 46 20 4095 HT_ ?_; refine pU_ 12 47 20 8191 HT_ ?_; refine pU_ 13 48 20 16383 HT_ ?_; refine pU_ 14 49 20 32767 HT_ ?_; refine pU_ 15 50 20 65535 HT_ ?_; refine pU_ 16 51 20 131071 HT_ ?_; refine pU_ 17 52 20 262143 HT_ ?_; refine pP_ 18 53 20 524287 HT_ ?_; refine pP_ 19 34 20 1048575 HT_ ?_; refine done_ (done_of HT_.out (by kernel_rfl)) ?_; (try go_wp2)
          go_meet
          case rel => exact ⟨_, (true), (by first | rfl | (simp; done) | (simp [*]; done)), H', ⟨by have := HK1.out; have := HJ7.out; first | omega | exact Nat.le_refl _⟩, ⟨by (with_reducible repeat (first | apply Kd.qn_ | apply Kd.qm_ | apply Kd.V_drew)); exact HO_0.out⟩, ⟨by (with_reducible repeat (first | apply Kd.qn_ | apply Kd.qm_ | apply Kd.V_drew)); exact HO_1.out⟩, ⟨by (with_reducible repeat (first | apply Kd.qu_ | apply Kd.qt_ | apply Kd.R_drew)); exact HO_5.out⟩, ⟨hB_ HB⟩⟩
         ·rw [if_neg c15] at H; have c15b0 : ((x1_1.length : Int) == 0) = false := beq_eq_false_iff_ne.mpr c15; have c15b1 : ((x1_1.length : Int) != 0) = true := bne_iff_ne.mpr c15
          have c15b2 : ¬ (x1_1 = []) := fun h_ => c15 (by rw [h_]; rfl)
          (first | rw [c15b0] | (simp only [i64_w, i32_w]; rw [c15b0]) | skip)
          by_cases c18 : (x0_1.length : Int) > 0
          ·rw [if_pos c18] at H; have c18b0 : decide (0 < (x0_1.length : Int)) = true := decide_eq_true c18; have c18b1 : decide (0 < x0_1.length) = true := decide_eq_true (by omega); clear c18
           by_cases c19 : 0 < (x0_1.length : Int)
           ·rw [if_pos c19] at H; have c19b0 : decide (0 < (x0_1.length : Int)) = true := decide_eq_true c19; have c19b1 : decide (0 < x0_1.length) = true := decide_eq_true (by omega); clear c19
            by_cases c20 : 0 < (x1_1.length : Int)
            ·rw [if_pos c20] at H; have c20b0 : decide (0 < (x1_1.length : Int)) = true := decide_eq_true c20; have c20b1 : decide (0 < x1_1.length) = true := decide_eq_true (by omega); clear c20; have H' := Zq_.mk H; clear H; (try go_wp2); replace HO_0 := Zq_.mk (Kd.V_drew HO_0.out); replace HO_1 := Zq_.mk (Kd.V_drew HO_1.out); replace HO_5 := Zq_.mk (Kd.R_drew HO_5.out); replace HB := Zq_.mk (qb_ HB.out); obtain ⟨Ao22, co22, eo22⟩ := Kd.V_slice HO_1.out; (first | subst eo22 | (injection eo22 with f1_ f2_ f3_; have f4_ := f1_.symm; have f5_ := f3_.symm; clear f1_ f2_ f3_; subst f4_; subst f5_)); obtain ⟨Ao23, co23, eo23⟩ := Kd.V_slice HO_0.out; (first | subst eo23 | (injection eo23 with f1_ f2_ f3_; have f4_ := f1_.symm; have f5_ := f3_.symm; clear f1_ f2_ f3_; subst f4_; subst f5_)); have p104 : 0 ≤ (0 : Int) := (by omega); have q104 : 0 < (x0_1.length : Int) := dA_; obtain ⟨ad104, e104, hx104_0, hx104_1, hx104_2⟩ := at_T58 (Kd.V_reads' HO_0.out).2.2 0 p104 q104; cases e104; have qi104 : (0 < x0_1.length) = True := eq_true (by omega); (try rw [show ((0 : Int)).toNat = 0 from rfl] at hx104_0); (try rw [show 0 * 3 = 0 from rfl] at hx104_0); (try rw [Addr.add_zero'] at hx104_0); (try rw [show ((0 : Int)).toNat = 0 from rfl] at hx104_1); (try rw [show 0 * 3 = 0 from rfl] at hx104_1); (try rw [Addr.add_zero'] at hx104_1); (try rw [show ((0 : Int)).toNat = 0 from rfl] at hx104_2); (try rw [show 0 * 3 = 0 from rfl] at hx104_2); (try rw [Addr.add_zero'] at hx104_2); replace p104 := eq_true p104; replace q104 := eq_true q104; have p105 : 0 ≤ (0 : Int) := (by omega); have q105 : 0 < (x1_1.length : Int) := dA_; obtain ⟨ad105, e105, hx105_0, hx105_1, hx105_2⟩ := at_T58 (Kd.V_reads' HO_1.out).2.2 0 p105 q105; cases e105; have qi105 : (0 < x1_1.length) = True := eq_true (by omega); (try rw [show ((0 : Int)).toNat = 0 from rfl] at hx105_0); (try rw [show 0 * 3 = 0 from rfl] at hx105_0); (try rw [Addr.add_zero'] at hx105_0); (try rw [show ((0 : Int)).toNat = 0 from rfl] at hx105_1); (try rw [show 0 * 3 = 0 from rfl] at hx105_1); (try rw [Addr.add_zero'] at hx105_1); (try rw [show ((0 : Int)).toNat = 0 from rfl] at hx105_2); (try rw [show 0 * 3 = 0 from rfl] at hx105_2); (try rw [Addr.add_zero'] at hx105_2); replace p105 := eq_true p105; replace q105 := eq_true q105; refine start_ (n := 20) (S := fun w' => w'.cell? ad104 = some (.int .i64 ((rd_T58 x0_1 0).f0)) ∧ w'.cell? ⟨ad104.block, ad104.off + 1, none⟩ = some (.int .i64 ((rd_T58 x0_1 0).f1)) ∧ w'.cell? ⟨ad104.block, ad104.off + 2, none⟩ = some (.string ((rd_T58 x0_1 0).f2)) ∧ w'.cell? ad105 = some (.int .i64 ((rd_T58 x1_1 0).f0)) ∧ w'.cell? ⟨ad105.block, ad105.off + 1, none⟩ = some (.int .i64 ((rd_T58 x1_1 0).f1)) ∧ w'.cell? ⟨ad105.block, ad105.off + 2, none⟩ = some (.string ((rd_T58 x1_1 0).f2))) (ds := []) #[false,false,false,false,false,false,false,false,false,false,false,false,false,false,false,false,false,false,false,false] (by kernel_rfl) rfl rfl ⟨hx104_0, hx104_1, hx104_2, hx105_0, hx105_1, hx105_2⟩ (fun hHeld => ?_); refine vd_ entry_Join.tab4 entry_Join.bits4 (fun HT_ HW_ => ?_); generalize wc.drew = w21 at HO_0 HO_1 HO_5 HB hx104_0 hx104_1 hx104_2 hx105_0 hx105_1 hx105_2 hHeld ⊢; refine pP_ 0 35 20 1 HT_ ?_; refine pP_ 1 36 20 3 HT_ ?_; refine pP_ 2 37 20 7 HT_ ?_; refine pP_ 3 38 20 15 HT_ ?_; refine pP_ 4 39 20 31 HT_ ?_; refine pP_ 5 40 20 63 HT_ ?_; refine pP_ 6 41 20 127 HT_ ?_; refine pP_ 7 42 20 255 HT_ ?_; refine pP_ 8 43 20 511 HT_ ?_; refine pP_ 9 44 20 1023 HT_ ?_; refine pP_ 10 45 20 2047 HT_ ?_; refine pP_ 12 47 20 6143 HT_ ?_; refine pP_ 13 48 20 14335 HT_ ?_; refine pP_ 14 49 20 30719 HT_ ?_; refine tK_ 11 46 20 32767 HT_ HW_ hHeld ?_; refine tK_ 15 50 20 65535 HT_ HW_ hHeld ?_; refine pP_ 16 51 20 131071 HT_ ?_; refine pP_ 17 52 20 262143 HT_ ?_; refine pP_ 18 53 20 524287 HT_ ?_; refine pP_ 19 34 20 1048575 HT_ ?_; refine done_ (done_of HT_.out (by kernel_rfl)) ?_; (try go_wp2)
             go_meet
             case rel => exact ⟨_, (decide (((rd_T58 x0_1 0).f0) < ((rd_T58 x1_1 0).f0))), (by first | rfl | (simp; done) | (simp [*]; done)), H', ⟨by have := HK1.out; have := HJ7.out; first | omega | exact Nat.le_refl _⟩, ⟨by (with_reducible repeat (first | apply Kd.qn_ | apply Kd.qm_ | apply Kd.V_drew)); exact HO_0.out⟩, ⟨by (with_reducible repeat (first | apply Kd.qn_ | apply Kd.qm_ | apply Kd.V_drew)); exact HO_1.out⟩, ⟨by (with_reducible repeat (first | apply Kd.qu_ | apply Kd.qt_ | apply Kd.R_drew)); exact HO_5.out⟩, ⟨hB_ HB⟩⟩
            ·rw [if_neg c20] at H; exact absurd H (by simp)
           ·rw [if_neg c19] at H; exact absurd H (by simp)
          ·rw [if_neg c18] at H; have c18b0 : decide (0 < (x0_1.length : Int)) = false := decide_eq_false c18; have c18b1 : decide (0 < x0_1.length) = false := decide_eq_false (by omega); clear c18; have H' := Zq_.mk H; clear H; (try go_wp2); replace HO_0 := Zq_.mk (Kd.V_drew HO_0.out); replace HO_1 := Zq_.mk (Kd.V_drew HO_1.out); replace HO_5 := Zq_.mk (Kd.R_drew HO_5.out); replace HB := Zq_.mk (qb_ HB.out); obtain ⟨Ao25, co25, eo25⟩ := Kd.V_slice HO_1.out; (first | subst eo25 | (injection eo25 with f1_ f2_ f3_; have f4_ := f1_.symm; have f5_ := f3_.symm; clear f1_ f2_ f3_; subst f4_; subst f5_)); obtain ⟨Ao26, co26, eo26⟩ := Kd.V_slice HO_0.out; (first | subst eo26 | (injection eo26 with f1_ f2_ f3_; have f4_ := f1_.symm; have f5_ := f3_.symm; clear f1_ f2_ f3_; subst f4_; subst f5_)); refine start_ (n := 20) (S := fun w' => True) (ds := []) #[false,false,false,false,false,false,false,false,false,false,false,false,false,false,false,false,false,false,false,false] (by kernel_rfl) rfl rfl trivial (fun hHeld => ?_); refine vd_ entry_Join.tab4 entry_Join.bits4 (fun HT_ HW_ => ?_); generalize wc.drew = w24 at HO_0 HO_1 HO_5 HB hHeld ⊢; refine pP_ 0 35 20 1 HT_ ?_; refine pP_ 1 36 20 3 HT_ ?_; refine pP_ 2 37 20 7 HT_ ?_; refine pP_ 3 38 20 15 HT_ ?_; refine pP_ 4 39 20 31 HT_ ?_; refine pP_ 5 40 20 63 HT_ ?_; refine pP_ 6 41 20 127 HT_ ?_; refine pP_ 7 42 20 255 HT_ ?_; refine pU_ 8 43 20 511 HT_ ?_; refine pU_ 9 44 20 1023 HT_ ?_; refine pU_ 10 45 20 2047 HT_ ?_; refine pU_ 11 46 20 4095 HT_ ?_; refine pU_ 12 47 20 8191 HT_ ?_; refine pU_ 13 48 20 16383 HT_ ?_; refine pU_ 14 49 20 32767 HT_ ?_; refine pU_ 15 50 20 65535 HT_ ?_; refine pU_ 16 51 20 131071 HT_ ?_; refine pP_ 17 52 20 262143 HT_ ?_; refine pP_ 18 53 20 524287 HT_ ?_; refine pP_ 19 34 20 1048575 HT_ ?_; refine done_ (done_of HT_.out (by kernel_rfl)) ?_; (try go_wp2)
           go_meet
           case rel => exact ⟨_, (false), (by first | rfl | (simp; done) | (simp [*]; done)), H', ⟨by have := HK1.out; have := HJ7.out; first | omega | exact Nat.le_refl _⟩, ⟨by (with_reducible repeat (first | apply Kd.qn_ | apply Kd.qm_ | apply Kd.V_drew)); exact HO_0.out⟩, ⟨by (with_reducible repeat (first | apply Kd.qn_ | apply Kd.qm_ | apply Kd.V_drew)); exact HO_1.out⟩, ⟨by (with_reducible repeat (first | apply Kd.qu_ | apply Kd.qt_ | apply Kd.R_drew)); exact HO_5.out⟩, ⟨hB_ HB⟩⟩
        case rest =>
         clear HC14
         try clear c1
         try clear p1
         try clear q1
         try clear hx1
         try clear qi1
         try clear c2
         try clear p2
         try clear c4
         try clear c4b0
         try clear c4b1
         try clear c5
         try clear c5b0
         try clear c5b1
         try clear p6
         try clear c8
         try clear c9
         try clear c9b0
         try clear c9b1
         try clear p10
         try clear q10
         try clear hx10
         try clear qi10
         try clear c13
         try clear c15
         try clear c15b0
         try clear c15b1
         try clear c15b2
         try clear c18
         try clear c18b0
         try clear c18b1
         try clear c19
         try clear c19b0
         try clear c19b1
         try clear c20
         try clear c20b0
         try clear c20b1
         try clear hx104_0
         try clear hx104_1
         try clear hx104_2
         try clear hx105_0
         try clear hx105_1
         try clear hx105_2
         try clear p104
         try clear p105
         try clear p2
         try clear p6
         try clear q104
         try clear q105
         obtain ⟨kq, x34_13, rfl, HA, HJ13, HO_0, HO_1, HO_5, HB⟩ := hcut
         cases kq with
         | zero => exact absurd HA.out (by simp [entry_Join.j2])
         | succ kj13 =>
          have H := HA.out; clear HA; simp only [entry_Join.j2] at H
          by_cases c27 : x34_13 = true
          ·subst c27
           have H1 : (if 0 < (x0_1.length : Int) then (if x5_1.length < 4398046511104 then (if 1 ≤ (x0_1.length : Int) then (entry_Join.l0 kj13 (x0_1.drop 1) x1_1 (x5_1 ++ [(⟨(rd_T58 x0_1 0).f0, (rd_T58 x0_1 0).f1, (rd_T58 x0_1 0).f2⟩ : S58)])) else (none)) else (none)) else (none)) = some r := by rw [if_pos rfl] at H; exact H
           clear H; have H := H1; clear H1
           by_cases c28 : 0 < (x0_1.length : Int)
           ·rw [if_pos c28] at H; have c28b0 : decide (0 < (x0_1.length : Int)) = true := decide_eq_true c28; have c28b1 : decide (0 < x0_1.length) = true := decide_eq_true (by omega); clear c28
            by_cases c29 : x5_1.length < 4398046511104
            ·rw [if_pos c29] at H; have LMc29 := Zq_.mk c29; clear c29; obtain ⟨y107, hy107⟩ : ∃ y_ : List (S58), y_ = (x5_1 ++ [(⟨(rd_T58 x0_1 0).f0, (rd_T58 x0_1 0).f1, (rd_T58 x0_1 0).f2⟩ : S58)]) := ⟨_, rfl⟩
             replace H : (if 1 ≤ (x0_1.length : Int) then (entry_Join.l0 kj13 (x0_1.drop 1) x1_1 y107) else (none)) = some r := by first | (rw [hy107]; with_reducible exact H) | (have H2_ := (Option.bind_some _ _).symm.trans H; rw [hy107]; with_reducible exact H2_) | (have H2_ := (Option.bind_some _ _).symm.trans H; with_reducible exact H2_) | with_reducible exact H | (rw [hy107]; exact H) | exact H
             have Ny107 := Zq_.mk hy107; clear hy107
             by_cases c30 : 1 ≤ (x0_1.length : Int)
             ·rw [if_pos c30] at H; have c30b0 := eq_true c30; have c30b1 : decide (1 ≤ (x0_1.length : Int)) = true := decide_eq_true c30; clear c30; obtain ⟨y110, hy110⟩ : ∃ y_ : List (S58), y_ = (x0_1.drop 1) := ⟨_, rfl⟩
              replace H : (entry_Join.l0 kj13 y110 x1_1 y107) = some r := by first | (rw [hy110]; with_reducible exact H) | (have H2_ := (Option.bind_some _ _).symm.trans H; rw [hy110]; with_reducible exact H2_) | (have H2_ := (Option.bind_some _ _).symm.trans H; with_reducible exact H2_) | with_reducible exact H | (rw [hy110]; exact H) | exact H
              have Ny110 := Zq_.mk hy110; clear hy110; have H' := Zq_.mk H; clear H; (try go_wp2); replace HO_0 := Zq_.mk (Kd.V_drew HO_0.out); replace HO_1 := Zq_.mk (Kd.V_drew HO_1.out); replace HO_5 := Zq_.mk (Kd.R_drew HO_5.out); replace HB := Zq_.mk (qb_ HB.out); obtain ⟨Ao32, co32, eo32⟩ := Kd.V_slice HO_0.out; (first | subst eo32 | (injection eo32 with f1_ f2_ f3_; have f4_ := f1_.symm; have f5_ := f3_.symm; clear f1_ f2_ f3_; subst f4_; subst f5_)); have p106 : 0 ≤ (0 : Int) := (by omega); have q106 : 0 < (x0_1.length : Int) := dA_; obtain ⟨ad106, e106, hx106_0, hx106_1, hx106_2⟩ := at_T58 (Kd.V_reads' HO_0.out).2.2 0 p106 q106; cases e106; have qi106 : (0 < x0_1.length) = True := eq_true (by omega); (try rw [show ((0 : Int)).toNat = 0 from rfl] at hx106_0); (try rw [show 0 * 3 = 0 from rfl] at hx106_0); (try rw [Addr.add_zero'] at hx106_0); (try rw [show ((0 : Int)).toNat = 0 from rfl] at hx106_1); (try rw [show 0 * 3 = 0 from rfl] at hx106_1); (try rw [Addr.add_zero'] at hx106_1); (try rw [show ((0 : Int)).toNat = 0 from rfl] at hx106_2); (try rw [show 0 * 3 = 0 from rfl] at hx106_2); (try rw [Addr.add_zero'] at hx106_2); replace p106 := eq_true p106; replace q106 := eq_true q106; have q33 : (1 : Int) ≤ ((x0_1.length : Int) : Int) := dA_; obtain ⟨i033, hi033, _, hsz33, _⟩ := info_parts info58; have hroom33 : x0_1.length ≤ co32 := (Kd.V_reads' HO_0.out).2.1; have hC33 : Kd.F k58 _ _ (some ad106) x0_1.length x0_1 := (Kd.V_at (base := w.heap.size) HO_0.out).2.2; have hcut33 := cut_from (P := Try.prog) 33 58 .i64 Try.underlying33 hi033 3 hsz33 (some ad106) x0_1.length co32 1 (by omega) q33; have hr33 := Kd.F_cut (m := (1 : Int).toNat) (c := co32) hC33 (by omega) hroom33; obtain ⟨A33, hA33⟩ : ∃ A1, A1 = (if co32 = (1 : Int).toNat then (some ad106) else ((some ad106) : Option Addr).map (·.add ((1 : Int).toNat * 3))) := ⟨_, rfl⟩; obtain ⟨c33, hc33⟩ : ∃ c1, c1 = co32 - (1 : Int).toNat := ⟨_, rfl⟩; have hy33 : y110.length = x0_1.length - (1 : Int).toNat := (by rw [Ny110.out, List.length_drop] <;> omega); rw [show (x0_1).drop (1 : Int).toNat = y110 from Ny110.out.symm] at hr33; replace hr33 : Kd.F k58 _ _ A33 y110.length y110 := (by rw [hA33]; exact hr33); rw [← hy33, ← hA33, ← hc33] at hcut33; have HO114 := Zq_.mk (show Kd.V k58 58 _ w.heap.size _ (.slice A33 y110.length c33) y110 from Kd.V_mk (by rw [hy33, hc33]; exact Nat.sub_le_sub_right hroom33 _) hr33); have HC114 := Zq_.mk (show y110.length ≤ c33 from by rw [hy33, hc33]; exact Nat.sub_le_sub_right hroom33 _); clear hr33 hC33 hroom33 hi033 hsz33 hc33; have KY33 := Zq_.mk hy33; have KA33 := Zq_.mk hA33; clear hy33 hA33; replace q33 := eq_true q33; refine start_ (n := 10) (S := fun w' => w'.cell? ad106 = some (.int .i64 ((rd_T58 x0_1 0).f0)) ∧ w'.cell? ⟨ad106.block, ad106.off + 1, none⟩ = some (.int .i64 ((rd_T58 x0_1 0).f1)) ∧ w'.cell? ⟨ad106.block, ad106.off + 2, none⟩ = some (.string ((rd_T58 x0_1 0).f2))) (ds := [4, 5]) #[false,false,false,false,false,false,false,false,false,false] (by kernel_rfl) rfl rfl ⟨hx106_0, hx106_1, hx106_2⟩ (fun hHeld => ?_); refine vd_ entry_Join.tab5 entry_Join.bits5 (fun HT_ HW_ => ?_); generalize wc.drew = w31 at HO_0 HO_1 HO_5 HB HO114 hx106_0 hx106_1 hx106_2 hHeld ⊢; refine pP_ 0 54 10 1 HT_ ?_; refine pP_ 1 55 10 3 HT_ ?_; refine pP_ 2 56 10 7 HT_ ?_; refine pP_ 6 60 10 71 HT_ ?_; refine pP_ 7 61 10 199 HT_ ?_; refine tK_ 3 57 10 207 HT_ HW_ hHeld ?_; refine last_ (i := 4) (N := some 58) #[true,true,true,true,true,false,true,true,false,false] rfl rfl (one_of HT_.out (by kernel_rfl)) (by decide) (fun K hK => ?_); refine value_ (w1 := ?_) (v := ?_) (by rfl) rfl ?_ ?_; rotate_left 2
              ·go_simp
               constructor
               ·rfl
               ·rfl
              refine hK.out _ _ ?_; clear hK K; refine norm_ (a' := ?_) ?_ ?_; rotate_left
              ·show Act.put _ (some 58) _ = _
               simp only [Act.put, sa_, sb_, sc_, i64_w, i32_w]; rfl
              refine last_ (i := 5) (N := some 59) #[true,true,true,true,true,true,true,true,false,false] rfl rfl (one_of HT_.out (by kernel_rfl)) (by decide) (fun K hK => ?_); refine Kd.R_append_step k58 (w0 := w) w.heap.size (by rfl) (.tmp 54) (.tmp 58) 33 58 (.agg #[(.int .i64 0), (.int .i64 0), (.string ⟨#[]⟩)]) 32 rfl Try.underlying33 info58 rfl (by decide) (by omega) u5 x5_1 (⟨(rd_T58 x0_1 0).f0, (rd_T58 x0_1 0).f1, (rd_T58 x0_1 0).f2⟩ : S58) [.int .i64 ((rd_T58 x0_1 0).f0), .int .i64 ((rd_T58 x0_1 0).f1), .string ((rd_T58 x0_1 0).f2)] (fun k_ => (w.heap.size ≤ k_)) (fun _ => False) rfl rfl ?aP (fun _ hk => hk.elim) ?aF ?aO ?aB ?aS ?aL ?_; (case aP => exact k58_mkM _ _ _ (⟨(rd_T58 x0_1 0).f0, (rd_T58 x0_1 0).f1, (rd_T58 x0_1 0).f2⟩ : S58)); (case aB => exact (hB_ HB)); (case aF => exact (fun k_ hk => (Nat.le_trans (qj_ (hB_ HB)) hk))); (case aO => exact (vX_ HO_5)); (case aS => exact (qj_ (hB_ HB))); (case aL => have := LMc29.out; omega); intro v108 w34 ho hb hg hat; rw [← Ny107.out] at ho; replace HO_0 := Zq_.mk (Kd.V_afterv (ok := (fun k_ => ((P0_ k_ ∨ P1_ k_) ∨ w.heap.size ≤ k_))) (by (with_reducible repeat (first | apply Kd.qn_ | apply Kd.qm_ | apply Kd.V_drew)); first | exact HO_0.out | exact Kd.V_mono HO_0.out (fun _ hk => ⟨⟨hk.1, hk.2.2⟩, hk.2.1⟩)) hg hat); replace HO_1 := Zq_.mk (Kd.V_afterv (ok := (fun k_ => ((P0_ k_ ∨ P1_ k_) ∨ w.heap.size ≤ k_))) (by (with_reducible repeat (first | apply Kd.qn_ | apply Kd.qm_ | apply Kd.V_drew)); first | exact HO_1.out | exact Kd.V_mono HO_1.out (fun _ hk => ⟨⟨hk.1, hk.2.2⟩, hk.2.1⟩)) hg hat); replace HO114 := Zq_.mk (Kd.V_afterv (ok := (fun k_ => ((P0_ k_ ∨ P1_ k_) ∨ w.heap.size ≤ k_))) (vX_ HO114) hg hat); replace HB := Zq_.mk (hb); have HO109 := Zq_.mk (ho); clear HO_5; clear ho hb hg hat; refine hK.out _ _ ?_; clear hK K; refine norm_ (a' := ?_) ?_ ?_; rotate_left
              ·show Act.put _ (some 59) _ = _
               simp only [Act.put, sa_, sb_, sc_, i64_w, i32_w]; rfl
              refine pP_ 8 5 10 511 HT_ ?_; refine pP_ 9 0 10 1023 HT_ ?_; refine done_ (done_of HT_.out (by kernel_rfl)) ?_; (try go_wp2)
              go_roundg kj13
              case measure => have := HK1.out; have := HJ7.out; have := HJ13.out; omega
              case rel => exact ⟨(y110), (x1_1), (y107), H', ⟨by have := HK1.out; have := HJ7.out; have := HJ13.out; omega⟩, ⟨by (with_reducible repeat (first | apply Kd.qn_ | apply Kd.qm_ | apply Kd.V_drew)); exact HO114.out⟩, ⟨by (with_reducible repeat (first | apply Kd.qn_ | apply Kd.qm_ | apply Kd.V_drew)); exact HO_1.out⟩, ⟨by (with_reducible repeat (first | apply Kd.qu_ | apply Kd.qt_ | apply Kd.R_drew)); exact HO109.out⟩, ⟨hB_ HB⟩⟩
             ·rw [if_neg c30] at H; exact absurd H (by simp)
            ·rw [if_neg c29] at H; exact absurd H (by simp)
           ·rw [if_neg c28] at H; exact absurd H (by simp)
          ·replace c27 := Bool.eq_false_iff.mpr c27; subst c27
           have H1 : (if (x0_1.length : Int) = 0 then (if 0 < (x1_1.length : Int) then (if x5_1.length < 4398046511104 then (if 1 ≤ (x1_1.length : Int) then (entry_Join.l0 kj13 x0_1 (x1_1.drop 1) (x5_1 ++ [(⟨(rd_T58 x1_1 0).f0, (rd_T58 x1_1 0).f1, (rd_T58 x1_1 0).f2⟩ : S58)])) else (none)) else (none)) else (none)) else (if 0 < (x1_1.length : Int) then (if 0 < (x0_1.length : Int) then (if ((rd_T58 x1_1 0).f0) < ((rd_T58 x0_1 0).f0) then (if x5_1.length < 4398046511104 then (if 1 ≤ (x1_1.length : Int) then (entry_Join.l0 kj13 x0_1 (x1_1.drop 1) (x5_1 ++ [(⟨(rd_T58 x1_1 0).f0, (rd_T58 x1_1 0).f1, (rd_T58 x1_1 0).f2⟩ : S58)])) else (none)) else (none)) else ((entry_higher.f ((rd_T58 x0_1 0).f0) ((rd_T58 x0_1 0).f1) ((rd_T58 x0_1 0).f2) ((rd_T58 x1_1 0).f0) ((rd_T58 x1_1 0).f1) ((rd_T58 x1_1 0).f2)).bind fun bt137 => (if x5_1.length < 4398046511104 then (if 1 ≤ (x0_1.length : Int) then (if 1 ≤ (x1_1.length : Int) then (entry_Join.l0 kj13 (x0_1.drop 1) (x1_1.drop 1) (x5_1 ++ [(⟨bt137.1, bt137.2.1, bt137.2.2⟩ : S58)])) else (none)) else (none)) else (none)))) else (none)) else (none))) = some r := by rw [if_neg (show ¬ (false = true) by decide)] at H; exact H
           clear H; have H := H1; clear H1
           by_cases c35 : (x0_1.length : Int) = 0
           ·rw [if_pos c35] at H; have c35b0 : ((x0_1.length : Int) == 0) = true := beq_iff_eq.mpr c35; have c35b1 : ((x0_1.length : Int) != 0) = false := bne_eq_false_iff_eq.mpr c35; clear c35
            by_cases c36 : 0 < (x1_1.length : Int)
            ·rw [if_pos c36] at H; have c36b0 : decide (0 < (x1_1.length : Int)) = true := decide_eq_true c36; have c36b1 : decide (0 < x1_1.length) = true := decide_eq_true (by omega); clear c36
             by_cases c37 : x5_1.length < 4398046511104
             ·rw [if_pos c37] at H; have LMc37 := Zq_.mk c37; clear c37; obtain ⟨y116, hy116⟩ : ∃ y_ : List (S58), y_ = (x5_1 ++ [(⟨(rd_T58 x1_1 0).f0, (rd_T58 x1_1 0).f1, (rd_T58 x1_1 0).f2⟩ : S58)]) := ⟨_, rfl⟩
              replace H : (if 1 ≤ (x1_1.length : Int) then (entry_Join.l0 kj13 x0_1 (x1_1.drop 1) y116) else (none)) = some r := by first | (rw [hy116]; with_reducible exact H) | (have H2_ := (Option.bind_some _ _).symm.trans H; rw [hy116]; with_reducible exact H2_) | (have H2_ := (Option.bind_some _ _).symm.trans H; with_reducible exact H2_) | with_reducible exact H | (rw [hy116]; exact H) | exact H
              have Ny116 := Zq_.mk hy116; clear hy116
              by_cases c38 : 1 ≤ (x1_1.length : Int)
              ·rw [if_pos c38] at H; have c38b0 := eq_true c38; have c38b1 : decide (1 ≤ (x1_1.length : Int)) = true := decide_eq_true c38; clear c38; obtain ⟨y119, hy119⟩ : ∃ y_ : List (S58), y_ = (x1_1.drop 1) := ⟨_, rfl⟩
               replace H : (entry_Join.l0 kj13 x0_1 y119 y116) = some r := by first | (rw [hy119]; with_reducible exact H) | (have H2_ := (Option.bind_some _ _).symm.trans H; rw [hy119]; with_reducible exact H2_) | (have H2_ := (Option.bind_some _ _).symm.trans H; with_reducible exact H2_) | with_reducible exact H | (rw [hy119]; exact H) | exact H
               have Ny119 := Zq_.mk hy119; clear hy119; have H' := Zq_.mk H; clear H; (try go_wp2); replace HO_0 := Zq_.mk (Kd.V_drew HO_0.out); replace HO_1 := Zq_.mk (Kd.V_drew HO_1.out); replace HO_5 := Zq_.mk (Kd.R_drew HO_5.out); replace HB := Zq_.mk (qb_ HB.out); obtain ⟨Ao40, co40, eo40⟩ := Kd.V_slice HO_0.out; (first | subst eo40 | (injection eo40 with f1_ f2_ f3_; have f4_ := f1_.symm; have f5_ := f3_.symm; clear f1_ f2_ f3_; subst f4_; subst f5_)); refine start_ (n := 15) (S := fun w' => True) (ds := []) #[false,false,false,false,false,false,false,false,false,false,false,false,false,false,false] (by kernel_rfl) rfl rfl trivial (fun hHeld => ?_); refine vd_ entry_Join.tab6 entry_Join.bits6 (fun HT_ HW_ => ?_); generalize wc.drew = w39 at HO_0 HO_1 HO_5 HB hHeld ⊢; refine pP_ 0 63 15 1 HT_ ?_; refine pP_ 1 64 15 3 HT_ ?_; refine pP_ 2 65 15 7 HT_ ?_; refine pP_ 3 66 15 15 HT_ ?_; refine pU_ 4 67 15 31 HT_ ?_; refine pU_ 5 68 15 63 HT_ ?_; refine pU_ 6 69 15 127 HT_ ?_; refine pU_ 7 70 15 255 HT_ ?_; refine pU_ 8 71 15 511 HT_ ?_; refine pU_ 9 72 15 1023 HT_ ?_; refine pU_ 10 73 15 2047 HT_ ?_; refine pU_ 11 74 15 4095 HT_ ?_; refine pU_ 12 75 15 8191 HT_ ?_; refine pP_ 13 76 15 16383 HT_ ?_; refine pP_ 14 62 15 32767 HT_ ?_; refine done_ (done_of HT_.out (by kernel_rfl)) ?_; (try go_wp2); replace HO_0 := Zq_.mk (Kd.V_drew HO_0.out); replace HO_1 := Zq_.mk (Kd.V_drew HO_1.out); replace HO_5 := Zq_.mk (Kd.R_drew HO_5.out); replace HB := Zq_.mk (qb_ HB.out); obtain ⟨Ao42, co42, eo42⟩ := Kd.V_slice HO_1.out; (first | subst eo42 | (injection eo42 with f1_ f2_ f3_; have f4_ := f1_.symm; have f5_ := f3_.symm; clear f1_ f2_ f3_; subst f4_; subst f5_)); have p115 : 0 ≤ (0 : Int) := (by omega); have q115 : 0 < (x1_1.length : Int) := dA_; obtain ⟨ad115, e115, hx115_0, hx115_1, hx115_2⟩ := at_T58 (Kd.V_reads' HO_1.out).2.2 0 p115 q115; cases e115; have qi115 : (0 < x1_1.length) = True := eq_true (by omega); (try rw [show ((0 : Int)).toNat = 0 from rfl] at hx115_0); (try rw [show 0 * 3 = 0 from rfl] at hx115_0); (try rw [Addr.add_zero'] at hx115_0); (try rw [show ((0 : Int)).toNat = 0 from rfl] at hx115_1); (try rw [show 0 * 3 = 0 from rfl] at hx115_1); (try rw [Addr.add_zero'] at hx115_1); (try rw [show ((0 : Int)).toNat = 0 from rfl] at hx115_2); (try rw [show 0 * 3 = 0 from rfl] at hx115_2); (try rw [Addr.add_zero'] at hx115_2); replace p115 := eq_true p115; replace q115 := eq_true q115; have q43 : (1 : Int) ≤ ((x1_1.length : Int) : Int) := dA_; obtain ⟨i043, hi043, _, hsz43, _⟩ := info_parts info58; have hroom43 : x1_1.length ≤ co42 := (Kd.V_reads' HO_1.out).2.1; have hC43 : Kd.F k58 _ _ (some ad115) x1_1.length x1_1 := (Kd.V_at (base := w.heap.size) HO_1.out).2.2; have hcut43 := cut_from (P := Try.prog) 33 58 .i64 Try.underlying33 hi043 3 hsz43 (some ad115) x1_1.length co42 1 (by omega) q43; have hr43 := Kd.F_cut (m := (1 : Int).toNat) (c := co42) hC43 (by omega) hroom43; obtain ⟨A43, hA43⟩ : ∃ A1, A1 = (if co42 = (1 : Int).toNat then (some ad115) else ((some ad115) : Option Addr).map (·.add ((1 : Int).toNat * 3))) := ⟨_, rfl⟩; obtain ⟨c43, hc43⟩ : ∃ c1, c1 = co42 - (1 : Int).toNat := ⟨_, rfl⟩; have hy43 : y119.length = x1_1.length - (1 : Int).toNat := (by rw [Ny119.out, List.length_drop] <;> omega); rw [show (x1_1).drop (1 : Int).toNat = y119 from Ny119.out.symm] at hr43; replace hr43 : Kd.F k58 _ _ A43 y119.length y119 := (by rw [hA43]; exact hr43); rw [← hy43, ← hA43, ← hc43] at hcut43; have HO123 := Zq_.mk (show Kd.V k58 58 _ w.heap.size _ (.slice A43 y119.length c43) y119 from Kd.V_mk (by rw [hy43, hc43]; exact Nat.sub_le_sub_right hroom43 _) hr43); have HC123 := Zq_.mk (show y119.length ≤ c43 from by rw [hy43, hc43]; exact Nat.sub_le_sub_right hroom43 _); clear hr43 hC43 hroom43 hi043 hsz43 hc43; have KY43 := Zq_.mk hy43; have KA43 := Zq_.mk hA43; clear hy43 hA43; replace q43 := eq_true q43; refine start_ (n := 10) (S := fun w' => w'.cell? ad115 = some (.int .i64 ((rd_T58 x1_1 0).f0)) ∧ w'.cell? ⟨ad115.block, ad115.off + 1, none⟩ = some (.int .i64 ((rd_T58 x1_1 0).f1)) ∧ w'.cell? ⟨ad115.block, ad115.off + 2, none⟩ = some (.string ((rd_T58 x1_1 0).f2))) (ds := [4, 5]) #[false,false,false,false,false,false,false,false,false,false] (by kernel_rfl) rfl rfl ⟨hx115_0, hx115_1, hx115_2⟩ (fun hHeld => ?_); refine vd_ entry_Join.tab7 entry_Join.bits7 (fun HT_ HW_ => ?_); generalize w39.drew = w41 at HO_0 HO_1 HO_5 HB HO123 hx115_0 hx115_1 hx115_2 hHeld ⊢; refine pP_ 0 77 10 1 HT_ ?_; refine pP_ 1 78 10 3 HT_ ?_; refine pP_ 2 79 10 7 HT_ ?_; refine pP_ 6 83 10 71 HT_ ?_; refine pP_ 7 84 10 199 HT_ ?_; refine tK_ 3 80 10 207 HT_ HW_ hHeld ?_; refine last_ (i := 4) (N := some 81) #[true,true,true,true,true,false,true,true,false,false] rfl rfl (one_of HT_.out (by kernel_rfl)) (by decide) (fun K hK => ?_); refine value_ (w1 := ?_) (v := ?_) (by rfl) rfl ?_ ?_; rotate_left 2
               ·go_simp
                constructor
                ·rfl
                ·rfl
               refine hK.out _ _ ?_; clear hK K; refine norm_ (a' := ?_) ?_ ?_; rotate_left
               ·show Act.put _ (some 81) _ = _
                simp only [Act.put, sa_, sb_, sc_, i64_w, i32_w]; rfl
               refine last_ (i := 5) (N := some 82) #[true,true,true,true,true,true,true,true,false,false] rfl rfl (one_of HT_.out (by kernel_rfl)) (by decide) (fun K hK => ?_); refine Kd.R_append_step k58 (w0 := w) w.heap.size (by rfl) (.tmp 77) (.tmp 81) 33 58 (.agg #[(.int .i64 0), (.int .i64 0), (.string ⟨#[]⟩)]) 32 rfl Try.underlying33 info58 rfl (by decide) (by omega) u5 x5_1 (⟨(rd_T58 x1_1 0).f0, (rd_T58 x1_1 0).f1, (rd_T58 x1_1 0).f2⟩ : S58) [.int .i64 ((rd_T58 x1_1 0).f0), .int .i64 ((rd_T58 x1_1 0).f1), .string ((rd_T58 x1_1 0).f2)] (fun k_ => (w.heap.size ≤ k_)) (fun _ => False) rfl rfl ?aP (fun _ hk => hk.elim) ?aF ?aO ?aB ?aS ?aL ?_; (case aP => exact k58_mkM _ _ _ (⟨(rd_T58 x1_1 0).f0, (rd_T58 x1_1 0).f1, (rd_T58 x1_1 0).f2⟩ : S58)); (case aB => exact (hB_ HB)); (case aF => exact (fun k_ hk => (Nat.le_trans (qj_ (hB_ HB)) hk))); (case aO => exact (vX_ HO_5)); (case aS => exact (qj_ (hB_ HB))); (case aL => have := LMc37.out; omega); intro v117 w44 ho hb hg hat; rw [← Ny116.out] at ho; replace HO_0 := Zq_.mk (Kd.V_afterv (ok := (fun k_ => ((P0_ k_ ∨ P1_ k_) ∨ w.heap.size ≤ k_))) (by (with_reducible repeat (first | apply Kd.qn_ | apply Kd.qm_ | apply Kd.V_drew)); first | exact HO_0.out | exact Kd.V_mono HO_0.out (fun _ hk => ⟨⟨hk.1, hk.2.2⟩, hk.2.1⟩)) hg hat); replace HO_1 := Zq_.mk (Kd.V_afterv (ok := (fun k_ => ((P0_ k_ ∨ P1_ k_) ∨ w.heap.size ≤ k_))) (by (with_reducible repeat (first | apply Kd.qn_ | apply Kd.qm_ | apply Kd.V_drew)); first | exact HO_1.out | exact Kd.V_mono HO_1.out (fun _ hk => ⟨⟨hk.1, hk.2.2⟩, hk.2.1⟩)) hg hat); replace HO123 := Zq_.mk (Kd.V_afterv (ok := (fun k_ => ((P0_ k_ ∨ P1_ k_) ∨ w.heap.size ≤ k_))) (vX_ HO123) hg hat); replace HB := Zq_.mk (hb); have HO118 := Zq_.mk (ho); clear HO_5; clear ho hb hg hat; refine hK.out _ _ ?_; clear hK K; refine norm_ (a' := ?_) ?_ ?_; rotate_left
               ·show Act.put _ (some 82) _ = _
                simp only [Act.put, sa_, sb_, sc_, i64_w, i32_w]; rfl
               refine pP_ 8 5 10 511 HT_ ?_; refine pP_ 9 1 10 1023 HT_ ?_; refine done_ (done_of HT_.out (by kernel_rfl)) ?_; (try go_wp2)
               go_roundg kj13
               case measure => have := HK1.out; have := HJ7.out; have := HJ13.out; omega
               case rel => exact ⟨(x0_1), (y119), (y116), H', ⟨by have := HK1.out; have := HJ7.out; have := HJ13.out; omega⟩, ⟨by (with_reducible repeat (first | apply Kd.qn_ | apply Kd.qm_ | apply Kd.V_drew)); exact HO_0.out⟩, ⟨by (with_reducible repeat (first | apply Kd.qn_ | apply Kd.qm_ | apply Kd.V_drew)); exact HO123.out⟩, ⟨by (with_reducible repeat (first | apply Kd.qu_ | apply Kd.qt_ | apply Kd.R_drew)); exact HO118.out⟩, ⟨hB_ HB⟩⟩
              ·rw [if_neg c38] at H; exact absurd H (by simp)
             ·rw [if_neg c37] at H; exact absurd H (by simp)
            ·rw [if_neg c36] at H; exact absurd H (by simp)
           ·rw [if_neg c35] at H; have c35b0 : ((x0_1.length : Int) == 0) = false := beq_eq_false_iff_ne.mpr c35; have c35b1 : ((x0_1.length : Int) != 0) = true := bne_iff_ne.mpr c35
            have c35b2 : ¬ (x0_1 = []) := fun h_ => c35 (by rw [h_]; rfl)
            by_cases c45 : 0 < (x1_1.length : Int)
            ·rw [if_pos c45] at H; have c45b0 : decide (0 < (x1_1.length : Int)) = true := decide_eq_true c45; have c45b1 : decide (0 < x1_1.length) = true := decide_eq_true (by omega); clear c45
             by_cases c46 : 0 < (x0_1.length : Int)
             ·rw [if_pos c46] at H; have c46b0 : decide (0 < (x0_1.length : Int)) = true := decide_eq_true c46; have c46b1 : decide (0 < x0_1.length) = true := decide_eq_true (by omega); clear c46
              by_cases c47 : ((rd_T58 x1_1 0).f0) < ((rd_T58 x0_1 0).f0)
              ·rw [if_pos c47] at H; have c47b0 : decide (((rd_T58 x1_1 0).f0) < ((rd_T58 x0_1 0).f0)) = true := decide_eq_true c47; clear c47
               by_cases c48 : x5_1.length < 4398046511104
               ·rw [if_pos c48] at H; have LMc48 := Zq_.mk c48; clear c48; obtain ⟨y127, hy127⟩ : ∃ y_ : List (S58), y_ = (x5_1 ++ [(⟨(rd_T58 x1_1 0).f0, (rd_T58 x1_1 0).f1, (rd_T58 x1_1 0).f2⟩ : S58)]) := ⟨_, rfl⟩
                replace H : (if 1 ≤ (x1_1.length : Int) then (entry_Join.l0 kj13 x0_1 (x1_1.drop 1) y127) else (none)) = some r := by first | (rw [hy127]; with_reducible exact H) | (have H2_ := (Option.bind_some _ _).symm.trans H; rw [hy127]; with_reducible exact H2_) | (have H2_ := (Option.bind_some _ _).symm.trans H; with_reducible exact H2_) | with_reducible exact H | (rw [hy127]; exact H) | exact H
                have Ny127 := Zq_.mk hy127; clear hy127
                by_cases c49 : 1 ≤ (x1_1.length : Int)
                ·rw [if_pos c49] at H; have c49b0 := eq_true c49; have c49b1 : decide (1 ≤ (x1_1.length : Int)) = true := decide_eq_true c49; clear c49; obtain ⟨y130, hy130⟩ : ∃ y_ : List (S58), y_ = (x1_1.drop 1) := ⟨_, rfl⟩
                 replace H : (entry_Join.l0 kj13 x0_1 y130 y127) = some r := by first | (rw [hy130]; with_reducible exact H) | (have H2_ := (Option.bind_some _ _).symm.trans H; rw [hy130]; with_reducible exact H2_) | (have H2_ := (Option.bind_some _ _).symm.trans H; with_reducible exact H2_) | with_reducible exact H | (rw [hy130]; exact H) | exact H
                 have Ny130 := Zq_.mk hy130; clear hy130; have H' := Zq_.mk H; clear H; (try go_wp2); replace HO_0 := Zq_.mk (Kd.V_drew HO_0.out); replace HO_1 := Zq_.mk (Kd.V_drew HO_1.out); replace HO_5 := Zq_.mk (Kd.R_drew HO_5.out); replace HB := Zq_.mk (qb_ HB.out); obtain ⟨Ao51, co51, eo51⟩ := Kd.V_slice HO_0.out; (first | subst eo51 | (injection eo51 with f1_ f2_ f3_; have f4_ := f1_.symm; have f5_ := f3_.symm; clear f1_ f2_ f3_; subst f4_; subst f5_)); obtain ⟨Ao52, co52, eo52⟩ := Kd.V_slice HO_1.out; (first | subst eo52 | (injection eo52 with f1_ f2_ f3_; have f4_ := f1_.symm; have f5_ := f3_.symm; clear f1_ f2_ f3_; subst f4_; subst f5_)); have p124 : 0 ≤ (0 : Int) := (by omega); have q124 : 0 < (x1_1.length : Int) := dA_; obtain ⟨ad124, e124, hx124_0, hx124_1, hx124_2⟩ := at_T58 (Kd.V_reads' HO_1.out).2.2 0 p124 q124; cases e124; have qi124 : (0 < x1_1.length) = True := eq_true (by omega); (try rw [show ((0 : Int)).toNat = 0 from rfl] at hx124_0); (try rw [show 0 * 3 = 0 from rfl] at hx124_0); (try rw [Addr.add_zero'] at hx124_0); (try rw [show ((0 : Int)).toNat = 0 from rfl] at hx124_1); (try rw [show 0 * 3 = 0 from rfl] at hx124_1); (try rw [Addr.add_zero'] at hx124_1); (try rw [show ((0 : Int)).toNat = 0 from rfl] at hx124_2); (try rw [show 0 * 3 = 0 from rfl] at hx124_2); (try rw [Addr.add_zero'] at hx124_2); replace p124 := eq_true p124; replace q124 := eq_true q124; have p125 : 0 ≤ (0 : Int) := (by omega); have q125 : 0 < (x0_1.length : Int) := dA_; obtain ⟨ad125, e125, hx125_0, hx125_1, hx125_2⟩ := at_T58 (Kd.V_reads' HO_0.out).2.2 0 p125 q125; cases e125; have qi125 : (0 < x0_1.length) = True := eq_true (by omega); (try rw [show ((0 : Int)).toNat = 0 from rfl] at hx125_0); (try rw [show 0 * 3 = 0 from rfl] at hx125_0); (try rw [Addr.add_zero'] at hx125_0); (try rw [show ((0 : Int)).toNat = 0 from rfl] at hx125_1); (try rw [show 0 * 3 = 0 from rfl] at hx125_1); (try rw [Addr.add_zero'] at hx125_1); (try rw [show ((0 : Int)).toNat = 0 from rfl] at hx125_2); (try rw [show 0 * 3 = 0 from rfl] at hx125_2); (try rw [Addr.add_zero'] at hx125_2); replace p125 := eq_true p125; replace q125 := eq_true q125; refine start_ (n := 15) (S := fun w' => w'.cell? ad124 = some (.int .i64 ((rd_T58 x1_1 0).f0)) ∧ w'.cell? ⟨ad124.block, ad124.off + 1, none⟩ = some (.int .i64 ((rd_T58 x1_1 0).f1)) ∧ w'.cell? ⟨ad124.block, ad124.off + 2, none⟩ = some (.string ((rd_T58 x1_1 0).f2)) ∧ w'.cell? ad125 = some (.int .i64 ((rd_T58 x0_1 0).f0)) ∧ w'.cell? ⟨ad125.block, ad125.off + 1, none⟩ = some (.int .i64 ((rd_T58 x0_1 0).f1)) ∧ w'.cell? ⟨ad125.block, ad125.off + 2, none⟩ = some (.string ((rd_T58 x0_1 0).f2))) (ds := []) #[false,false,false,false,false,false,false,false,false,false,false,false,false,false,false] (by kernel_rfl) rfl rfl ⟨hx124_0, hx124_1, hx124_2, hx125_0, hx125_1, hx125_2⟩ (fun hHeld => ?_); refine vd_ entry_Join.tab6 entry_Join.bits6 (fun HT_ HW_ => ?_); generalize wc.drew = w50 at HO_0 HO_1 HO_5 HB hx124_0 hx124_1 hx124_2 hx125_0 hx125_1 hx125_2 hHeld ⊢; refine pP_ 0 63 15 1 HT_ ?_; refine pP_ 1 64 15 3 HT_ ?_; refine pP_ 2 65 15 7 HT_ ?_; refine pP_ 3 66 15 15 HT_ ?_; refine pP_ 4 67 15 31 HT_ ?_; refine pP_ 5 68 15 63 HT_ ?_; refine pP_ 6 69 15 127 HT_ ?_; refine pP_ 8 71 15 383 HT_ ?_; refine pP_ 9 72 15 895 HT_ ?_; refine pP_ 10 73 15 1919 HT_ ?_; refine tK_ 7 70 15 2047 HT_ HW_ hHeld ?_; refine tK_ 11 74 15 4095 HT_ HW_ hHeld ?_; refine pP_ 12 75 15 8191 HT_ ?_; refine pP_ 13 76 15 16383 HT_ ?_; refine pP_ 14 62 15 32767 HT_ ?_; refine done_ (done_of HT_.out (by kernel_rfl)) ?_; (try go_wp2); replace HO_0 := Zq_.mk (Kd.V_drew HO_0.out); replace HO_1 := Zq_.mk (Kd.V_drew HO_1.out); replace HO_5 := Zq_.mk (Kd.R_drew HO_5.out); replace HB := Zq_.mk (qb_ HB.out); have p126 : 0 ≤ (0 : Int) := (by omega); have q126 : 0 < (x1_1.length : Int) := dA_; obtain ⟨ad126, e126, hx126_0, hx126_1, hx126_2⟩ := at_T58 (Kd.V_reads' HO_1.out).2.2 0 p126 q126; obtain rfl : ad124 = ad126 := (by injection e126); have qi126 : (0 < x1_1.length) = True := eq_true (by omega); (try rw [show ((0 : Int)).toNat = 0 from rfl] at hx126_0); (try rw [show 0 * 3 = 0 from rfl] at hx126_0); (try rw [Addr.add_zero'] at hx126_0); (try rw [show ((0 : Int)).toNat = 0 from rfl] at hx126_1); (try rw [show 0 * 3 = 0 from rfl] at hx126_1); (try rw [Addr.add_zero'] at hx126_1); (try rw [show ((0 : Int)).toNat = 0 from rfl] at hx126_2); (try rw [show 0 * 3 = 0 from rfl] at hx126_2); (try rw [Addr.add_zero'] at hx126_2); replace p126 := eq_true p126; replace q126 := eq_true q126; have q54 : (1 : Int) ≤ ((x1_1.length : Int) : Int) := dA_; obtain ⟨i054, hi054, _, hsz54, _⟩ := info_parts info58; have hroom54 : x1_1.length ≤ co52 := (Kd.V_reads' HO_1.out).2.1; have hC54 : Kd.F k58 _ _ (some ad124) x1_1.length x1_1 := (Kd.V_at (base := w.heap.size) HO_1.out).2.2; have hcut54 := cut_from (P := Try.prog) 33 58 .i64 Try.underlying33 hi054 3 hsz54 (some ad124) x1_1.length co52 1 (by omega) q54; have hr54 := Kd.F_cut (m := (1 : Int).toNat) (c := co52) hC54 (by omega) hroom54; obtain ⟨A54, hA54⟩ : ∃ A1, A1 = (if co52 = (1 : Int).toNat then (some ad124) else ((some ad124) : Option Addr).map (·.add ((1 : Int).toNat * 3))) := ⟨_, rfl⟩; obtain ⟨c54, hc54⟩ : ∃ c1, c1 = co52 - (1 : Int).toNat := ⟨_, rfl⟩; have hy54 : y130.length = x1_1.length - (1 : Int).toNat := (by rw [Ny130.out, List.length_drop] <;> omega); rw [show (x1_1).drop (1 : Int).toNat = y130 from Ny130.out.symm] at hr54; replace hr54 : Kd.F k58 _ _ A54 y130.length y130 := (by rw [hA54]; exact hr54); rw [← hy54, ← hA54, ← hc54] at hcut54; have HO134 := Zq_.mk (show Kd.V k58 58 _ w.heap.size _ (.slice A54 y130.length c54) y130 from Kd.V_mk (by rw [hy54, hc54]; exact Nat.sub_le_sub_right hroom54 _) hr54); have HC134 := Zq_.mk (show y130.length ≤ c54 from by rw [hy54, hc54]; exact Nat.sub_le_sub_right hroom54 _); clear hr54 hC54 hroom54 hi054 hsz54 hc54; have KY54 := Zq_.mk hy54; have KA54 := Zq_.mk hA54; clear hy54 hA54; replace q54 := eq_true q54; refine start_ (n := 10) (S := fun w' => w'.cell? ad124 = some (.int .i64 ((rd_T58 x1_1 0).f0)) ∧ w'.cell? ⟨ad124.block, ad124.off + 1, none⟩ = some (.int .i64 ((rd_T58 x1_1 0).f1)) ∧ w'.cell? ⟨ad124.block, ad124.off + 2, none⟩ = some (.string ((rd_T58 x1_1 0).f2))) (ds := [4, 5]) #[false,false,false,false,false,false,false,false,false,false] (by kernel_rfl) rfl rfl ⟨hx126_0, hx126_1, hx126_2⟩ (fun hHeld => ?_); refine vd_ entry_Join.tab7 entry_Join.bits7 (fun HT_ HW_ => ?_); generalize w50.drew = w53 at HO_0 HO_1 HO_5 HB HO134 hx126_0 hx126_1 hx126_2 hHeld ⊢; refine pP_ 0 77 10 1 HT_ ?_; refine pP_ 1 78 10 3 HT_ ?_; refine pP_ 2 79 10 7 HT_ ?_; refine pP_ 6 83 10 71 HT_ ?_; refine pP_ 7 84 10 199 HT_ ?_; refine tK_ 3 80 10 207 HT_ HW_ hHeld ?_; refine last_ (i := 4) (N := some 81) #[true,true,true,true,true,false,true,true,false,false] rfl rfl (one_of HT_.out (by kernel_rfl)) (by decide) (fun K hK => ?_); refine value_ (w1 := ?_) (v := ?_) (by rfl) rfl ?_ ?_; rotate_left 2
                 ·go_simp
                  constructor
                  ·rfl
                  ·rfl
                 refine hK.out _ _ ?_; clear hK K; refine norm_ (a' := ?_) ?_ ?_; rotate_left
                 ·show Act.put _ (some 81) _ = _
                  simp only [Act.put, sa_, sb_, sc_, i64_w, i32_w]; rfl
                 refine last_ (i := 5) (N := some 82) #[true,true,true,true,true,true,true,true,false,false] rfl rfl (one_of HT_.out (by kernel_rfl)) (by decide) (fun K hK => ?_); refine Kd.R_append_step k58 (w0 := w) w.heap.size (by rfl) (.tmp 77) (.tmp 81) 33 58 (.agg #[(.int .i64 0), (.int .i64 0), (.string ⟨#[]⟩)]) 32 rfl Try.underlying33 info58 rfl (by decide) (by omega) u5 x5_1 (⟨(rd_T58 x1_1 0).f0, (rd_T58 x1_1 0).f1, (rd_T58 x1_1 0).f2⟩ : S58) [.int .i64 ((rd_T58 x1_1 0).f0), .int .i64 ((rd_T58 x1_1 0).f1), .string ((rd_T58 x1_1 0).f2)] (fun k_ => (w.heap.size ≤ k_)) (fun _ => False) rfl rfl ?aP (fun _ hk => hk.elim) ?aF ?aO ?aB ?aS ?aL ?_; (case aP => exact k58_mkM _ _ _ (⟨(rd_T58 x1_1 0).f0, (rd_T58 x1_1 0).f1, (rd_T58 x1_1 0).f2⟩ : S58)); (case aB => exact (hB_ HB)); (case aF => exact (fun k_ hk => (Nat.le_trans (qj_ (hB_ HB)) hk))); (case aO => exact (vX_ HO_5)); (case aS => exact (qj_ (hB_ HB))); (case aL => have := LMc48.out; omega); intro v128 w55 ho hb hg hat; rw [← Ny127.out] at ho; replace HO_0 := Zq_.mk (Kd.V_afterv (ok := (fun k_ => ((P0_ k_ ∨ P1_ k_) ∨ w.heap.size ≤ k_))) (by (with_reducible repeat (first | apply Kd.qn_ | apply Kd.qm_ | apply Kd.V_drew)); first | exact HO_0.out | exact Kd.V_mono HO_0.out (fun _ hk => ⟨⟨hk.1, hk.2.2⟩, hk.2.1⟩)) hg hat); replace HO_1 := Zq_.mk (Kd.V_afterv (ok := (fun k_ => ((P0_ k_ ∨ P1_ k_) ∨ w.heap.size ≤ k_))) (by (with_reducible repeat (first | apply Kd.qn_ | apply Kd.qm_ | apply Kd.V_drew)); first | exact HO_1.out | exact Kd.V_mono HO_1.out (fun _ hk => ⟨⟨hk.1, hk.2.2⟩, hk.2.1⟩)) hg hat); replace HO134 := Zq_.mk (Kd.V_afterv (ok := (fun k_ => ((P0_ k_ ∨ P1_ k_) ∨ w.heap.size ≤ k_))) (vX_ HO134) hg hat); replace HB := Zq_.mk (hb); have HO129 := Zq_.mk (ho); clear HO_5; clear ho hb hg hat; refine hK.out _ _ ?_; clear hK K; refine norm_ (a' := ?_) ?_ ?_; rotate_left
                 ·show Act.put _ (some 82) _ = _
                  simp only [Act.put, sa_, sb_, sc_, i64_w, i32_w]; rfl
                 refine pP_ 8 5 10 511 HT_ ?_; refine pP_ 9 1 10 1023 HT_ ?_; refine done_ (done_of HT_.out (by kernel_rfl)) ?_; (try go_wp2)
                 go_roundg kj13
                 case measure => have := HK1.out; have := HJ7.out; have := HJ13.out; omega
                 case rel => exact ⟨(x0_1), (y130), (y127), H', ⟨by have := HK1.out; have := HJ7.out; have := HJ13.out; omega⟩, ⟨by (with_reducible repeat (first | apply Kd.qn_ | apply Kd.qm_ | apply Kd.V_drew)); exact HO_0.out⟩, ⟨by (with_reducible repeat (first | apply Kd.qn_ | apply Kd.qm_ | apply Kd.V_drew)); exact HO134.out⟩, ⟨by (with_reducible repeat (first | apply Kd.qu_ | apply Kd.qt_ | apply Kd.R_drew)); exact HO129.out⟩, ⟨hB_ HB⟩⟩
                ·rw [if_neg c49] at H; exact absurd H (by simp)
               ·rw [if_neg c48] at H; exact absurd H (by simp)
              ·rw [if_neg c47] at H; have c47b0 : decide (((rd_T58 x1_1 0).f0) < ((rd_T58 x0_1 0).f0)) = false := decide_eq_false c47; clear c47; replace H := ob_ H; obtain ⟨⟨t137, t138, t139⟩, A560, H⟩ := H; replace H : (if x5_1.length < 4398046511104 then (if 1 ≤ (x0_1.length : Int) then (if 1 ≤ (x1_1.length : Int) then (entry_Join.l0 kj13 (x0_1.drop 1) (x1_1.drop 1) (x5_1 ++ [(⟨t137, t138, t139⟩ : S58)])) else (none)) else (none)) else (none)) = some r := H; have A56 := Zq_.mk A560; clear A560
               by_cases c57 : x5_1.length < 4398046511104
               ·rw [if_pos c57] at H; have LMc57 := Zq_.mk c57; clear c57; obtain ⟨y140, hy140⟩ : ∃ y_ : List (S58), y_ = (x5_1 ++ [(⟨t137, t138, t139⟩ : S58)]) := ⟨_, rfl⟩
                replace H : (if 1 ≤ (x0_1.length : Int) then (if 1 ≤ (x1_1.length : Int) then (entry_Join.l0 kj13 (x0_1.drop 1) (x1_1.drop 1) y140) else (none)) else (none)) = some r := by first | (rw [hy140]; with_reducible exact H) | (have H2_ := (Option.bind_some _ _).symm.trans H; rw [hy140]; with_reducible exact H2_) | (have H2_ := (Option.bind_some _ _).symm.trans H; with_reducible exact H2_) | with_reducible exact H | (rw [hy140]; exact H) | exact H
                have Ny140 := Zq_.mk hy140; clear hy140
                by_cases c58 : 1 ≤ (x0_1.length : Int)
                ·rw [if_pos c58] at H; have c58b0 := eq_true c58; have c58b1 : decide (1 ≤ (x0_1.length : Int)) = true := decide_eq_true c58; clear c58; obtain ⟨y143, hy143⟩ : ∃ y_ : List (S58), y_ = (x0_1.drop 1) := ⟨_, rfl⟩
                 replace H : (if 1 ≤ (x1_1.length : Int) then (entry_Join.l0 kj13 y143 (x1_1.drop 1) y140) else (none)) = some r := by first | (rw [hy143]; with_reducible exact H) | (have H2_ := (Option.bind_some _ _).symm.trans H; rw [hy143]; with_reducible exact H2_) | (have H2_ := (Option.bind_some _ _).symm.trans H; with_reducible exact H2_) | with_reducible exact H | (rw [hy143]; exact H) | exact H
                 have Ny143 := Zq_.mk hy143; clear hy143
                 by_cases c59 : 1 ≤ (x1_1.length : Int)
                 ·rw [if_pos c59] at H; have c59b0 := eq_true c59; have c59b1 : decide (1 ≤ (x1_1.length : Int)) = true := decide_eq_true c59; clear c59; obtain ⟨y148, hy148⟩ : ∃ y_ : List (S58), y_ = (x1_1.drop 1) := ⟨_, rfl⟩
                  replace H : (entry_Join.l0 kj13 y143 y148 y140) = some r := by first | (rw [hy148]; with_reducible exact H) | (have H2_ := (Option.bind_some _ _).symm.trans H; rw [hy148]; with_reducible exact H2_) | (have H2_ := (Option.bind_some _ _).symm.trans H; with_reducible exact H2_) | with_reducible exact H | (rw [hy148]; exact H) | exact H
                  have Ny148 := Zq_.mk hy148; clear hy148; have H' := Zq_.mk H; clear H; (try go_wp2); replace HO_0 := Zq_.mk (Kd.V_drew HO_0.out); replace HO_1 := Zq_.mk (Kd.V_drew HO_1.out); replace HO_5 := Zq_.mk (Kd.R_drew HO_5.out); replace HB := Zq_.mk (qb_ HB.out); obtain ⟨Ao61, co61, eo61⟩ := Kd.V_slice HO_0.out; (first | subst eo61 | (injection eo61 with f1_ f2_ f3_; have f4_ := f1_.symm; have f5_ := f3_.symm; clear f1_ f2_ f3_; subst f4_; subst f5_)); obtain ⟨Ao62, co62, eo62⟩ := Kd.V_slice HO_1.out; (first | subst eo62 | (injection eo62 with f1_ f2_ f3_; have f4_ := f1_.symm; have f5_ := f3_.symm; clear f1_ f2_ f3_; subst f4_; subst f5_)); have p124 : 0 ≤ (0 : Int) := (by omega); have q124 : 0 < (x1_1.length : Int) := dA_; obtain ⟨ad124, e124, hx124_0, hx124_1, hx124_2⟩ := at_T58 (Kd.V_reads' HO_1.out).2.2 0 p124 q124; cases e124; have qi124 : (0 < x1_1.length) = True := eq_true (by omega); (try rw [show ((0 : Int)).toNat = 0 from rfl] at hx124_0); (try rw [show 0 * 3 = 0 from rfl] at hx124_0); (try rw [Addr.add_zero'] at hx124_0); (try rw [show ((0 : Int)).toNat = 0 from rfl] at hx124_1); (try rw [show 0 * 3 = 0 from rfl] at hx124_1); (try rw [Addr.add_zero'] at hx124_1); (try rw [show ((0 : Int)).toNat = 0 from rfl] at hx124_2); (try rw [show 0 * 3 = 0 from rfl] at hx124_2); (try rw [Addr.add_zero'] at hx124_2); replace p124 := eq_true p124; replace q124 := eq_true q124; have p125 : 0 ≤ (0 : Int) := (by omega); have q125 : 0 < (x0_1.length : Int) := dA_; obtain ⟨ad125, e125, hx125_0, hx125_1, hx125_2⟩ := at_T58 (Kd.V_reads' HO_0.out).2.2 0 p125 q125; cases e125; have qi125 : (0 < x0_1.length) = True := eq_true (by omega); (try rw [show ((0 : Int)).toNat = 0 from rfl] at hx125_0); (try rw [show 0 * 3 = 0 from rfl] at hx125_0); (try rw [Addr.add_zero'] at hx125_0); (try rw [show ((0 : Int)).toNat = 0 from rfl] at hx125_1); (try rw [show 0 * 3 = 0 from rfl] at hx125_1); (try rw [Addr.add_zero'] at hx125_1); (try rw [show ((0 : Int)).toNat = 0 from rfl] at hx125_2); (try rw [show 0 * 3 = 0 from rfl] at hx125_2); (try rw [Addr.add_zero'] at hx125_2); replace p125 := eq_true p125; replace q125 := eq_true q125; refine start_ (n := 15) (S := fun w' => w'.cell? ad124 = some (.int .i64 ((rd_T58 x1_1 0).f0)) ∧ w'.cell? ⟨ad124.block, ad124.off + 1, none⟩ = some (.int .i64 ((rd_T58 x1_1 0).f1)) ∧ w'.cell? ⟨ad124.block, ad124.off + 2, none⟩ = some (.string ((rd_T58 x1_1 0).f2)) ∧ w'.cell? ad125 = some (.int .i64 ((rd_T58 x0_1 0).f0)) ∧ w'.cell? ⟨ad125.block, ad125.off + 1, none⟩ = some (.int .i64 ((rd_T58 x0_1 0).f1)) ∧ w'.cell? ⟨ad125.block, ad125.off + 2, none⟩ = some (.string ((rd_T58 x0_1 0).f2))) (ds := []) #[false,false,false,false,false,false,false,false,false,false,false,false,false,false,false] (by kernel_rfl) rfl rfl ⟨hx124_0, hx124_1, hx124_2, hx125_0, hx125_1, hx125_2⟩ (fun hHeld => ?_); refine vd_ entry_Join.tab6 entry_Join.bits6 (fun HT_ HW_ => ?_); generalize wc.drew = w60 at HO_0 HO_1 HO_5 HB hx124_0 hx124_1 hx124_2 hx125_0 hx125_1 hx125_2 hHeld ⊢; refine pP_ 0 63 15 1 HT_ ?_; refine pP_ 1 64 15 3 HT_ ?_; refine pP_ 2 65 15 7 HT_ ?_; refine pP_ 3 66 15 15 HT_ ?_; refine pP_ 4 67 15 31 HT_ ?_; refine pP_ 5 68 15 63 HT_ ?_; refine pP_ 6 69 15 127 HT_ ?_; refine pP_ 8 71 15 383 HT_ ?_; refine pP_ 9 72 15 895 HT_ ?_; refine pP_ 10 73 15 1919 HT_ ?_; refine tK_ 7 70 15 2047 HT_ HW_ hHeld ?_; refine tK_ 11 74 15 4095 HT_ HW_ hHeld ?_; refine pP_ 12 75 15 8191 HT_ ?_; refine pP_ 13 76 15 16383 HT_ ?_; refine pP_ 14 62 15 32767 HT_ ?_; refine done_ (done_of HT_.out (by kernel_rfl)) ?_; (try go_wp2); replace HO_0 := Zq_.mk (Kd.V_drew HO_0.out); replace HO_1 := Zq_.mk (Kd.V_drew HO_1.out); replace HO_5 := Zq_.mk (Kd.R_drew HO_5.out); replace HB := Zq_.mk (qb_ HB.out); have p135 : 0 ≤ (0 : Int) := (by omega); have q135 : 0 < (x0_1.length : Int) := dA_; obtain ⟨ad135, e135, hx135_0, hx135_1, hx135_2⟩ := at_T58 (Kd.V_reads' HO_0.out).2.2 0 p135 q135; obtain rfl : ad125 = ad135 := (by injection e135); have qi135 : (0 < x0_1.length) = True := eq_true (by omega); (try rw [show ((0 : Int)).toNat = 0 from rfl] at hx135_0); (try rw [show 0 * 3 = 0 from rfl] at hx135_0); (try rw [Addr.add_zero'] at hx135_0); (try rw [show ((0 : Int)).toNat = 0 from rfl] at hx135_1); (try rw [show 0 * 3 = 0 from rfl] at hx135_1); (try rw [Addr.add_zero'] at hx135_1); (try rw [show ((0 : Int)).toNat = 0 from rfl] at hx135_2); (try rw [show 0 * 3 = 0 from rfl] at hx135_2); (try rw [Addr.add_zero'] at hx135_2); replace p135 := eq_true p135; replace q135 := eq_true q135; have p136 : 0 ≤ (0 : Int) := (by omega); have q136 : 0 < (x1_1.length : Int) := dA_; obtain ⟨ad136, e136, hx136_0, hx136_1, hx136_2⟩ := at_T58 (Kd.V_reads' HO_1.out).2.2 0 p136 q136; obtain rfl : ad124 = ad136 := (by injection e136); have qi136 : (0 < x1_1.length) = True := eq_true (by omega); (try rw [show ((0 : Int)).toNat = 0 from rfl] at hx136_0); (try rw [show 0 * 3 = 0 from rfl] at hx136_0); (try rw [Addr.add_zero'] at hx136_0); (try rw [show ((0 : Int)).toNat = 0 from rfl] at hx136_1); (try rw [show 0 * 3 = 0 from rfl] at hx136_1); (try rw [Addr.add_zero'] at hx136_1); (try rw [show ((0 : Int)).toNat = 0 from rfl] at hx136_2); (try rw [show 0 * 3 = 0 from rfl] at hx136_2); (try rw [Addr.add_zero'] at hx136_2); replace p136 := eq_true p136; replace q136 := eq_true q136; have q64 : (1 : Int) ≤ ((x0_1.length : Int) : Int) := dA_; obtain ⟨i064, hi064, _, hsz64, _⟩ := info_parts info58; have hroom64 : x0_1.length ≤ co61 := (Kd.V_reads' HO_0.out).2.1; have hC64 : Kd.F k58 _ _ (some ad125) x0_1.length x0_1 := (Kd.V_at (base := w.heap.size) HO_0.out).2.2; have hcut64 := cut_from (P := Try.prog) 33 58 .i64 Try.underlying33 hi064 3 hsz64 (some ad125) x0_1.length co61 1 (by omega) q64; have hr64 := Kd.F_cut (m := (1 : Int).toNat) (c := co61) hC64 (by omega) hroom64; obtain ⟨A64, hA64⟩ : ∃ A1, A1 = (if co61 = (1 : Int).toNat then (some ad125) else ((some ad125) : Option Addr).map (·.add ((1 : Int).toNat * 3))) := ⟨_, rfl⟩; obtain ⟨c64, hc64⟩ : ∃ c1, c1 = co61 - (1 : Int).toNat := ⟨_, rfl⟩; have hy64 : y143.length = x0_1.length - (1 : Int).toNat := (by rw [Ny143.out, List.length_drop] <;> omega); rw [show (x0_1).drop (1 : Int).toNat = y143 from Ny143.out.symm] at hr64; replace hr64 : Kd.F k58 _ _ A64 y143.length y143 := (by rw [hA64]; exact hr64); rw [← hy64, ← hA64, ← hc64] at hcut64; have HO147 := Zq_.mk (show Kd.V k58 58 _ w.heap.size _ (.slice A64 y143.length c64) y143 from Kd.V_mk (by rw [hy64, hc64]; exact Nat.sub_le_sub_right hroom64 _) hr64); have HC147 := Zq_.mk (show y143.length ≤ c64 from by rw [hy64, hc64]; exact Nat.sub_le_sub_right hroom64 _); clear hr64 hC64 hroom64 hi064 hsz64 hc64; have KY64 := Zq_.mk hy64; have KA64 := Zq_.mk hA64; clear hy64 hA64; replace q64 := eq_true q64; have q65 : (1 : Int) ≤ ((x1_1.length : Int) : Int) := dA_; obtain ⟨i065, hi065, _, hsz65, _⟩ := info_parts info58; have hroom65 : x1_1.length ≤ co62 := (Kd.V_reads' HO_1.out).2.1; have hC65 : Kd.F k58 _ _ (some ad124) x1_1.length x1_1 := (Kd.V_at (base := w.heap.size) HO_1.out).2.2; have hcut65 := cut_from (P := Try.prog) 33 58 .i64 Try.underlying33 hi065 3 hsz65 (some ad124) x1_1.length co62 1 (by omega) q65; have hr65 := Kd.F_cut (m := (1 : Int).toNat) (c := co62) hC65 (by omega) hroom65; obtain ⟨A65, hA65⟩ : ∃ A1, A1 = (if co62 = (1 : Int).toNat then (some ad124) else ((some ad124) : Option Addr).map (·.add ((1 : Int).toNat * 3))) := ⟨_, rfl⟩; obtain ⟨c65, hc65⟩ : ∃ c1, c1 = co62 - (1 : Int).toNat := ⟨_, rfl⟩; have hy65 : y148.length = x1_1.length - (1 : Int).toNat := (by rw [Ny148.out, List.length_drop] <;> omega); rw [show (x1_1).drop (1 : Int).toNat = y148 from Ny148.out.symm] at hr65; replace hr65 : Kd.F k58 _ _ A65 y148.length y148 := (by rw [hA65]; exact hr65); rw [← hy65, ← hA65, ← hc65] at hcut65; have HO152 := Zq_.mk (show Kd.V k58 58 _ w.heap.size _ (.slice A65 y148.length c65) y148 from Kd.V_mk (by rw [hy65, hc65]; exact Nat.sub_le_sub_right hroom65 _) hr65); have HC152 := Zq_.mk (show y148.length ≤ c65 from by rw [hy65, hc65]; exact Nat.sub_le_sub_right hroom65 _); clear hr65 hC65 hroom65 hi065 hsz65 hc65; have KY65 := Zq_.mk hy65; have KA65 := Zq_.mk hA65; clear hy65 hA65; replace q65 := eq_true q65; refine start_ (n := 17) (S := fun w' => w'.cell? ad125 = some (.int .i64 ((rd_T58 x0_1 0).f0)) ∧ w'.cell? ⟨ad125.block, ad125.off + 1, none⟩ = some (.int .i64 ((rd_T58 x0_1 0).f1)) ∧ w'.cell? ⟨ad125.block, ad125.off + 2, none⟩ = some (.string ((rd_T58 x0_1 0).f2)) ∧ w'.cell? ad124 = some (.int .i64 ((rd_T58 x1_1 0).f0)) ∧ w'.cell? ⟨ad124.block, ad124.off + 1, none⟩ = some (.int .i64 ((rd_T58 x1_1 0).f1)) ∧ w'.cell? ⟨ad124.block, ad124.off + 2, none⟩ = some (.string ((rd_T58 x1_1 0).f2))) (ds := [8, 9]) #[false,false,false,false,false,false,false,false,false,false,false,false,false,false,false,false,false] (by kernel_rfl) rfl rfl ⟨hx135_0, hx135_1, hx135_2, hx136_0, hx136_1, hx136_2⟩ (fun hHeld => ?_); refine vd_ entry_Join.tab3 entry_Join.bits3 (fun HT_ HW_ => ?_); generalize w60.drew = w63 at HO_0 HO_1 HO_5 HB HO147 HO152 hx135_0 hx135_1 hx135_2 hx136_0 hx136_1 hx136_2 hHeld ⊢; refine pP_ 0 20 17 1 HT_ ?_; refine pP_ 1 21 17 3 HT_ ?_; refine pP_ 2 22 17 7 HT_ ?_; refine pP_ 4 24 17 23 HT_ ?_; refine pP_ 5 25 17 55 HT_ ?_; refine pP_ 10 30 17 1079 HT_ ?_; refine pP_ 11 31 17 3127 HT_ ?_; refine pP_ 12 32 17 7223 HT_ ?_; refine pP_ 13 33 17 15415 HT_ ?_; refine tK_ 3 23 17 15423 HT_ HW_ hHeld ?_; refine tK_ 6 26 17 15487 HT_ HW_ hHeld ?_; refine one_ (i := 7) (N := some 27) (bz_ 17 15615) rfl rfl (one_of HT_.out (by kernel_rfl)) (by decide) (fun K hK => ?_); refine goes_ Try.func85 (by kernel_rfl) rfl #[.agg #[.int .i64 ((rd_T58 x0_1 0).f0), .int .i64 ((rd_T58 x0_1 0).f1), .string ((rd_T58 x0_1 0).f2)], .agg #[.int .i64 ((rd_T58 x1_1 0).f0), .int .i64 ((rd_T58 x1_1 0).f1), .string ((rd_T58 x1_1 0).f2)]] (by rfl) rfl rfl (by (try simp only [List.map_toArray, List.map_cons, List.map_nil]); first | done | rfl | (simp only [List.length_drop, List.length_take]; rfl)) ?_
                  with_reducible refine (entry_higher.calls ((rd_T58 x0_1 0).f0) ((rd_T58 x0_1 0).f1) ((rd_T58 x0_1 0).f2) ((rd_T58 x1_1 0).f0) ((rd_T58 x1_1 0).f1) ((rd_T58 x1_1 0).f2) t137 t138 t139 _ A56.out).mono ?_
                  rintro e w66 ⟨rfl, hb⟩; have HS0_ := (hb.cell (wb_ _ _ (hHeld.1))).trans (hHeld.1); have HS1_ := (hb.cell (wb_ _ _ (hHeld.2.1))).trans (hHeld.2.1); have HS2_ := (hb.cell (wb_ _ _ (hHeld.2.2.1))).trans (hHeld.2.2.1); have HS3_ := (hb.cell (wb_ _ _ (hHeld.2.2.2.1))).trans (hHeld.2.2.2.1); have HS4_ := (hb.cell (wb_ _ _ (hHeld.2.2.2.2.1))).trans (hHeld.2.2.2.2.1); have HS5_ := (hb.cell (wb_ _ _ (hHeld.2.2.2.2.2))).trans (hHeld.2.2.2.2.2); refine ⟨_, rfl, ?_⟩; replace HO_0 := vV_ Kd.V_below HO_0 hb; replace HO_1 := vV_ Kd.V_below HO_1 hb; replace HO_5 := vV_ Kd.R_below HO_5 hb; replace HO147 := vV_ Kd.V_below HO147 hb; replace HO152 := vV_ Kd.V_below HO152 hb; replace HB := Zq_.mk (ql_ (hB_ HB) hb); (try clear hb); refine hK.out _ _ ⟨HS0_, HS1_, HS2_, HS3_, HS4_, HS5_⟩ (fun hHeld => ?_); clear hK K; refine norm_ (a' := ?_) ?_ ?_; rotate_left
                  ·show Act.put _ (some 27) _ = _
                   simp only [Act.put, sa_, sb_, sc_, i64_w, i32_w]; rfl
                  refine last_ (i := 8) (N := some 28) #[true,true,true,true,true,true,true,true,true,false,true,true,true,true,false,false,false] rfl rfl (one_of HT_.out (by kernel_rfl)) (by decide) (fun K hK => ?_); refine value_ (w1 := ?_) (v := ?_) (by rfl) rfl ?_ ?_; rotate_left 2
                  ·go_simp
                   constructor
                   ·rfl
                   ·rfl
                  refine hK.out _ _ ?_; clear hK K; refine norm_ (a' := ?_) ?_ ?_; rotate_left
                  ·show Act.put _ (some 28) _ = _
                   simp only [Act.put, sa_, sb_, sc_, i64_w, i32_w]; rfl
                  refine last_ (i := 9) (N := some 29) #[true,true,true,true,true,true,true,true,true,true,true,true,true,true,false,false,false] rfl rfl (one_of HT_.out (by kernel_rfl)) (by decide) (fun K hK => ?_); refine Kd.R_append_step k58 (w0 := w) w.heap.size (by rfl) (.tmp 20) (.tmp 28) 33 58 (.agg #[(.int .i64 0), (.int .i64 0), (.string ⟨#[]⟩)]) 32 rfl Try.underlying33 info58 rfl (by decide) (by omega) u5 x5_1 (⟨t137, t138, t139⟩ : S58) [.int .i64 t137, .int .i64 t138, .string t139] (fun k_ => (w.heap.size ≤ k_)) (fun _ => False) rfl rfl ?aP (fun _ hk => hk.elim) ?aF ?aO ?aB ?aS ?aL ?_; (case aP => exact k58_mkM _ _ _ (⟨t137, t138, t139⟩ : S58)); (case aB => exact (hB_ HB)); (case aF => exact (fun k_ hk => (Nat.le_trans (qj_ (hB_ HB)) hk))); (case aO => exact (vX_ HO_5)); (case aS => exact (qj_ (hB_ HB))); (case aL => have := LMc57.out; omega); intro v141 w67 ho hb hg hat; rw [← Ny140.out] at ho; replace HO_0 := Zq_.mk (Kd.V_afterv (ok := (fun k_ => ((P0_ k_ ∨ P1_ k_) ∨ w.heap.size ≤ k_))) (by (with_reducible repeat (first | apply Kd.qn_ | apply Kd.qm_ | apply Kd.V_drew)); first | exact HO_0.out | exact Kd.V_mono HO_0.out (fun _ hk => ⟨⟨hk.1, hk.2.2⟩, hk.2.1⟩)) hg hat); replace HO_1 := Zq_.mk (Kd.V_afterv (ok := (fun k_ => ((P0_ k_ ∨ P1_ k_) ∨ w.heap.size ≤ k_))) (by (with_reducible repeat (first | apply Kd.qn_ | apply Kd.qm_ | apply Kd.V_drew)); first | exact HO_1.out | exact Kd.V_mono HO_1.out (fun _ hk => ⟨⟨hk.1, hk.2.2⟩, hk.2.1⟩)) hg hat); replace HO147 := Zq_.mk (Kd.V_afterv (ok := (fun k_ => ((P0_ k_ ∨ P1_ k_) ∨ w.heap.size ≤ k_))) (vX_ HO147) hg hat); replace HO152 := Zq_.mk (Kd.V_afterv (ok := (fun k_ => ((P0_ k_ ∨ P1_ k_) ∨ w.heap.size ≤ k_))) (vX_ HO152) hg hat); replace HB := Zq_.mk (hb); have HO142 := Zq_.mk (ho); clear HO_5; clear ho hb hg hat; refine hK.out _ _ ?_; clear hK K; refine norm_ (a' := ?_) ?_ ?_; rotate_left
                  ·show Act.put _ (some 29) _ = _
                   simp only [Act.put, sa_, sb_, sc_, i64_w, i32_w]; rfl
                  refine pP_ 14 5 17 32767 HT_ ?_; refine pP_ 15 0 17 65535 HT_ ?_; refine pP_ 16 1 17 131071 HT_ ?_; refine done_ (done_of HT_.out (by kernel_rfl)) ?_; (try go_wp2)
                  go_roundg kj13
                  case measure => have := HK1.out; have := HJ7.out; have := HJ13.out; omega
                  case rel => exact ⟨(y143), (y148), (y140), H', ⟨by have := HK1.out; have := HJ7.out; have := HJ13.out; omega⟩, ⟨by (with_reducible repeat (first | apply Kd.qn_ | apply Kd.qm_ | apply Kd.V_drew)); exact HO147.out⟩, ⟨by (with_reducible repeat (first | apply Kd.qn_ | apply Kd.qm_ | apply Kd.V_drew)); exact HO152.out⟩, ⟨by (with_reducible repeat (first | apply Kd.qu_ | apply Kd.qt_ | apply Kd.R_drew)); exact HO142.out⟩, ⟨hB_ HB⟩⟩
                 ·rw [if_neg c59] at H; exact absurd H (by simp)
                ·rw [if_neg c58] at H; exact absurd H (by simp)
               ·rw [if_neg c57] at H; exact absurd H (by simp)
             ·rw [if_neg c46] at H; exact absurd H (by simp)
            ·rw [if_neg c45] at H; exact absurd H (by simp)
       ·replace c13 := Bool.eq_false_iff.mpr c13; subst c13
        have H1 : (some x5_1) = some r := by rw [if_neg (show ¬ (false = true) by decide)] at H; exact H
        clear H; have H := H1; clear H1; obtain rfl := Option.some.inj H
        go_wp2
        go_ret
        exact ⟨_, by first | rfl | (simp [errW_none, errW_some] <;> rfl) | (simp only [← hji3]; first | rfl | (simp [errW_none, errW_some] <;> rfl)) | (simp [*, errW_none, errW_some] <;> rfl), by (with_reducible repeat (first | apply Kd.qu_ | apply Kd.qt_ | apply Kd.R_drew)); exact HO_5.out, hB_ HB⟩
  ·rw [if_neg c5] at H; exact absurd H (by simp)
 ·rw [if_neg c4] at H; exact absurd H (by simp)
end Go.Proofs.Ytgipbmjkgciccaa.P

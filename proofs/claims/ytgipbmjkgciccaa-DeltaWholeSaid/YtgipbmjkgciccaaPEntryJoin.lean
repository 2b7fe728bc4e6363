/- What printed functions come to, and that the machine's calls do it. No condition. -/
import Derived.Test.YtgipbmjkgciccaaPApiEntry61
namespace Go.Proofs.Ytgipbmjkgciccaa.P
set_option maxHeartbeats 8000000
set_option maxRecDepth 100000
open Go.RowKit Go.Proofs.YtgipbmjkgciccaaW.PrintWords Go.Proofs.YtgipbmjkgciccaaW.PrintLast Go.Proofs.YtgipbmjkgciccaaW.PrintMore
attribute [local go_sem] qw_ qu_ vb_ va_ qp_ qo_ qv_ qt_ Go.Proofs.YtgipbmjkgciccaaW.Hw.string_gtr
set_option linter.unusedVariables false
set_option linter.unusedSimpArgs false
mutual
def entry_Join.l0 : Nat → List (S58) → List (S58) → List (S58) → Option ((List (S58)))
 | 0, _, _, _ => none
 | k + 1, x0, x1, x5 => if (x0.length : Int) > 0 then (entry_Join.j1 k x0 x1 x5 true) else (entry_Join.j1 k x0 x1 x5 (decide ((x1.length : Int) > 0)))
def entry_Join.j1 : Nat → List (S58) → List (S58) → List (S58) → Bool → Option ((List (S58)))
 | 0, _, _, _, _ => none
 | k + 1, x0, x1, x5, x19 => if x19 = true then (if (x1.length : Int) = 0 then (entry_Join.j2 k x0 x1 x5 true) else (if (x0.length : Int) > 0 then (if 0 < (x0.length : Int) then (if 0 < (x1.length : Int) then (entry_Join.j2 k x0 x1 x5 (decide (((rd_T58 x0 0).f0) < ((rd_T58 x1 0).f0)))) else (none)) else (none)) else (entry_Join.j2 k x0 x1 x5 false))) else (some x5)
def entry_Join.j2 : Nat → List (S58) → List (S58) → List (S58) → Bool → Option ((List (S58)))
 | 0, _, _, _, _ => none
 | k + 1, x0, x1, x5, x34 => if x34 = true then (if 0 < (x0.length : Int) then (if x5.length < 4398046511104 then (if 1 ≤ (x0.length : Int) then (entry_Join.l0 k (x0.drop 1) x1 (x5 ++ [(⟨(rd_T58 x0 0).f0, (rd_T58 x0 0).f1, (rd_T58 x0 0).f2⟩ : S58)])) else (none)) else (none)) else (none)) else (if (x0.length : Int) = 0 then (if 0 < (x1.length : Int) then (if x5.length < 4398046511104 then (if 1 ≤ (x1.length : Int) then (entry_Join.l0 k x0 (x1.drop 1) (x5 ++ [(⟨(rd_T58 x1 0).f0, (rd_T58 x1 0).f1, (rd_T58 x1 0).f2⟩ : S58)])) else (none)) else (none)) else (none)) else (if 0 < (x1.length : Int) then (if 0 < (x0.length : Int) then (if ((rd_T58 x1 0).f0) < ((rd_T58 x0 0).f0) then (if x5.length < 4398046511104 then (if 1 ≤ (x1.length : Int) then (entry_Join.l0 k x0 (x1.drop 1) (x5 ++ [(⟨(rd_T58 x1 0).f0, (rd_T58 x1 0).f1, (rd_T58 x1 0).f2⟩ : S58)])) else (none)) else (none)) else ((entry_higher.f ((rd_T58 x0 0).f0) ((rd_T58 x0 0).f1) ((rd_T58 x0 0).f2) ((rd_T58 x1 0).f0) ((rd_T58 x1 0).f1) ((rd_T58 x1 0).f2)).bind fun bO => (if x5.length < 4398046511104 then (if 1 ≤ (x0.length : Int) then (if 1 ≤ (x1.length : Int) then (entry_Join.l0 k (x0.drop 1) (x1.drop 1) (x5 ++ [(⟨bO.1, bO.2.1, bO.2.2⟩ : S58)])) else (none)) else (none)) else (none)))) else (none)) else (none)))
end
def entry_Join.f (k : Nat) (l0 : List (S58)) (l1 : List (S58)) : Option ((List (S58))) := if 0 ≤ (wrap64 ((l0.length : Int) + (l1.length : Int))) then (if (wrap64 ((l0.length : Int) + (l1.length : Int)) : Int).toNat ≤ 8796093022208 then (entry_Join.l0 k l0 l1 (([] : List (S58)))) else (none)) else (none)
theorem entry_Join.mono_l : ∀ k, (∀ y0 y1 y2, LeO (entry_Join.l0 k y0 y1 y2) (entry_Join.l0 (k + 1) y0 y1 y2)) ∧ (∀ y0 y1 y2 y3, LeO (entry_Join.j1 k y0 y1 y2 y3) (entry_Join.j1 (k + 1) y0 y1 y2 y3)) ∧ (∀ y0 y1 y2 y3, LeO (entry_Join.j2 k y0 y1 y2 y3) (entry_Join.j2 (k + 1) y0 y1 y2 y3))
 | 0 => ⟨fun _ _ _ r h => by simp [entry_Join.l0] at h, fun _ _ _ _ r h => by simp [entry_Join.j1] at h, fun _ _ _ _ r h => by simp [entry_Join.j2] at h⟩
 | k + 1 => by
  obtain ⟨ih0, ih1, ih2⟩ := entry_Join.mono_l k; refine ⟨?_, ?_, ?_⟩
  ·intro y0 y1 y2
   unfold entry_Join.l0
   with_reducible repeat' first | exact ih0 _ _ _ | exact ih1 _ _ _ _ | exact ih2 _ _ _ _ | exact LeO.refl _ | exact LeO.none _ | refine LeO.ite ?_ ?_ | refine LeO.bind ?_ (fun _ => ?_)
  ·intro y0 y1 y2 y3
   unfold entry_Join.j1
   with_reducible repeat' first | exact ih0 _ _ _ | exact ih1 _ _ _ _ | exact ih2 _ _ _ _ | exact LeO.refl _ | exact LeO.none _ | refine LeO.ite ?_ ?_ | refine LeO.bind ?_ (fun _ => ?_)
  ·intro y0 y1 y2 y3
   unfold entry_Join.j2
   with_reducible repeat' first | exact ih0 _ _ _ | exact ih1 _ _ _ _ | exact ih2 _ _ _ _ | exact LeO.refl _ | exact LeO.none _ | refine LeO.ite ?_ ?_ | refine LeO.bind ?_ (fun _ => ?_)
theorem entry_Join.mono : ∀ a0 a1 k, LeO (entry_Join.f k a0 a1) (entry_Join.f (k + 1) a0 a1) := by
 intro a0 a1 k; obtain ⟨ih0, ih1, ih2⟩ := entry_Join.mono_l k
 unfold entry_Join.f
 with_reducible repeat' first | exact ih0 _ _ _ | exact ih1 _ _ _ _ | exact ih2 _ _ _ _ | exact LeO.refl _ | exact LeO.none _ | refine LeO.ite ?_ ?_ | refine LeO.bind ?_ (fun _ => ?_)
def entry_Join.T3 : Bool × List (List Nat × List Nat) := (true, [([], []), ([], []), ([1], [1]), ([2], [2]), ([], []), ([4], [4]), ([5], [5]), ([3, 6], [3, 6]), ([7], [7]), ([0, 8, 7], [0, 8]), ([], []), ([10], [10]), ([], []), ([12], [12]), ([9, 9, 0, 1, 2, 3, 4, 5, 6, 7, 8, 9], [0, 9]), ([11, 14, 0, 1, 2, 3, 4, 5, 6, 7, 8, 9, 10, 11, 14], [1, 10, 11]), ([13, 15, 0, 1, 2, 3, 4, 5, 6, 7, 8, 9, 10, 11, 12, 13, 14, 15], [4, 12, 13])])
def entry_Join.B3 : List Nat := [0, 0, 2, 6, 0, 16, 48, 126, 254, 511, 0, 1024, 0, 4096, 1023, 20479, 65535]
theorem entry_Join.tab3 : rtab .any (opsOf Try.f83 3) = entry_Join.T3 := by kernel_rfl
theorem entry_Join.bits3 : waitsOk entry_Join.T3.2 entry_Join.B3 = true := by kernel_rfl
def entry_Join.T4 : Bool × List (List Nat × List Nat) := (true, [([], []), ([0], [0]), ([1], [1]), ([2], [2]), ([3], [3]), ([4, 3], [3, 4]), ([5, 3], [3, 5]), ([6, 3, 3], [3, 6]), ([7], [7]), ([8, 7], [7, 8]), ([9, 7], [7, 9]), ([10, 7], [7, 10]), ([7], [7]), ([12, 7], [7, 12]), ([13, 7], [7, 13]), ([14, 7], [7, 14]), ([11, 15, 7], [7, 11, 15]), ([7, 16, 3], [3, 7, 16]), ([3, 17], [3, 17]), ([18, 7], [18])])
def entry_Join.B4 : List Nat := [0, 1, 3, 7, 15, 31, 63, 127, 255, 511, 1023, 2047, 255, 4351, 12543, 28927, 65535, 131071, 262143, 524287]
theorem entry_Join.tab4 : rtab .any (opsOf Try.f83 4) = entry_Join.T4 := by kernel_rfl
theorem entry_Join.bits4 : waitsOk entry_Join.T4.2 entry_Join.B4 = true := by kernel_rfl
def entry_Join.T5 : Bool × List (List Nat × List Nat) := (true, [([], []), ([], []), ([1], [1]), ([2], [2]), ([3], [3]), ([0, 4], [0, 4]), ([], []), ([6], [6]), ([5, 5, 0, 1, 2, 3, 4, 5], [0, 5]), ([7, 8, 0, 1, 2, 3, 4, 5, 6, 7, 8], [1, 6, 7])])
def entry_Join.B5 : List Nat := [0, 0, 2, 6, 14, 31, 0, 64, 63, 511]
theorem entry_Join.tab5 : rtab .any (opsOf Try.f83 5) = entry_Join.T5 := by kernel_rfl
theorem entry_Join.bits5 : waitsOk entry_Join.T5.2 entry_Join.B5 = true := by kernel_rfl
def entry_Join.T6 : Bool × List (List Nat × List Nat) := (true, [([], []), ([0], [0]), ([1], [1]), ([2], [2]), ([3], [3]), ([4, 3], [3, 4]), ([5, 3], [3, 5]), ([6, 3], [3, 6]), ([3], [3]), ([8, 3], [3, 8]), ([9, 3], [3, 9]), ([10, 3], [3, 10]), ([7, 11, 3], [3, 7, 11]), ([3, 12], [3, 12]), ([13, 3], [13])])
def entry_Join.B6 : List Nat := [0, 1, 3, 7, 15, 31, 63, 127, 15, 271, 783, 1807, 4095, 8191, 16383]
theorem entry_Join.tab6 : rtab .any (opsOf Try.f83 6) = entry_Join.T6 := by kernel_rfl
theorem entry_Join.bits6 : waitsOk entry_Join.T6.2 entry_Join.B6 = true := by kernel_rfl
def entry_Join.T7 : Bool × List (List Nat × List Nat) := (true, [([], []), ([], []), ([1], [1]), ([2], [2]), ([3], [3]), ([0, 4], [0, 4]), ([], []), ([6], [6]), ([5, 5, 0, 1, 2, 3, 4, 5], [0, 5]), ([7, 8, 0, 1, 2, 3, 4, 5, 6, 7, 8], [1, 6, 7])])
def entry_Join.B7 : List Nat := [0, 0, 2, 6, 14, 31, 0, 64, 63, 511]
theorem entry_Join.tab7 : rtab .any (opsOf Try.f83 7) = entry_Join.T7 := by kernel_rfl
theorem entry_Join.bits7 : waitsOk entry_Join.T7.2 entry_Join.B7 = true := by kernel_rfl
theorem entry_Join.calls (k : Nat) (P0_ : Nat → Prop) (A0 : Option Addr) (c0 : Nat) (l0 : List (S58)) (P1_ : Nat → Prop) (A1 : Option Addr) (c1 : Nat) (l1 : List (S58)) (r : List (S58)) (w : World) (hs0 : Kd.V k58 58 w w.heap.size (fun k_ => P0_ k_) (.slice A0 l0.length c0) l0) (hs1 : Kd.V k58 58 w w.heap.size (fun k_ => P1_ k_) (.slice A1 l1.length c1) l1) (h : entry_Join.f k l0 l1 = some r) :
  Calls Try.prog 83 #[.slice A0 l0.length c0, .slice A1 l1.length c1] w fun e w' => ∃ v0_ : Value, e = .returned (v0_) ∧ Kd.R k58 58 w' w.heap.size (fun k_ => (w.heap.size ≤ k_)) v0_ r ∧ Below w.heap.size w w' := by
 have hu58 := Try.underlying58; have HO0 := Zq_.mk (show Kd.V k58 58 w w.heap.size (fun k_ => ((P0_ k_ ∨ P1_ k_) ∨ w.heap.size ≤ k_)) (.slice A0 l0.length c0) l0 from Kd.V_mono hs0 (fun k_ hk => .inl (.inl hk))); have HO1 := Zq_.mk (show Kd.V k58 58 w w.heap.size (fun k_ => ((P0_ k_ ∨ P1_ k_) ∨ w.heap.size ≤ k_)) (.slice A1 l1.length c1) l1 from Kd.V_mono hs1 (fun k_ hk => .inl (.inr hk))); have HB := Zq_.mk (Below.refl w.heap.size w); have H : (if 0 ≤ (wrap64 ((l0.length : Int) + (l1.length : Int))) then (if (wrap64 ((l0.length : Int) + (l1.length : Int)) : Int).toNat ≤ 8796093022208 then (entry_Join.l0 k l0 l1 (([] : List (S58)))) else (none)) else (none)) = some r := h; clear h; obtain ⟨ji3, dS⟩ : ∃ j_ : Int, (wrap64 ((l0.length : Int) + (l1.length : Int))) = j_ := ⟨_, rfl⟩
 replace H : (if 0 ≤ (ji3) then (if (ji3 : Int).toNat ≤ 8796093022208 then (entry_Join.l0 k l0 l1 (([] : List (S58)))) else (none)) else (none)) = some r := by first | (rw [dS] at H; exact H) | (simp only [dS] at H ⊢; exact H)
 have hji3w : (IntKind.i64.wrap ((l0.length : Int) + (l1.length : Int))) = ji3 := (i64_w _).trans dS
 by_cases c4 : 0 ≤ (ji3)
 ·rw [if_pos c4] at H; have fF := eq_true c4; have fE : decide (0 ≤ (ji3)) = true := decide_eq_true c4; clear c4
  by_cases c5 : (ji3 : Int).toNat ≤ 8796093022208
  ·rw [if_pos c5] at H; have fD := eq_true c5; have fC : decide ((ji3 : Int).toNat ≤ 8796093022208) = true := decide_eq_true c5; clear c5; obtain ⟨fH, dC⟩ : ∃ y_ : List (S58), y_ = (([] : List (S58))) := ⟨_, rfl⟩
   replace H : (entry_Join.l0 k l0 l1 fH) = some r := hY_ dC H
   have eL := Zq_.mk dC; clear dC; have H' := Zq_.mk H; clear H
   go_enter Try.func83, Try.ntmps83
   go_wp2_with (first | ((with_reducible refine qb_ (N := 11) rfl ?_); (try (refine vd_ (by rfl) ?_; dsimp only)); refine Kd.R_makec k58 _ 58 rfl (N := 11) rfl 33 _ _ rfl ji3 rfl rfl Try.underlying33 (.agg #[(.int .i64 0), (.int .i64 0), (.string ⟨#[]⟩)]) 32 info58 rfl (by decide) (by omega) (ok := fun _ => True) trivial (dA_) (Nat.le_trans (Nat.mul_le_mul_right _ (dA_ : (ji3 : Int).toNat ≤ 8796093022208)) (by omega)) (Below.refl _ _) (Nat.le_refl _) ?_; intro v102 w6 ho7 hb hg_ hnew_; clear hg_ hnew_; (first | rw [← eL.out] at ho7 | (simp only [Int.reduceToNat] at ho7; rw [← eL.out] at ho7)); replace HO0 := Zq_.mk (Kd.V_elder' (vX_ HO0) (Kd.R_base ho7) hb); replace HO1 := Zq_.mk (Kd.V_elder' (vX_ HO1) (Kd.R_base ho7) hb); have gT := Zq_.mk (Kd.qz_ (Kd.R_newM (M := fun k_ => (w.heap.size ≤ k_)) ho7 (qa_ (hB_ HB)) (fun k_ h_ => h_)) (qa_ (hB_ HB))); replace HB := sB_ HB hb; clear hb ho7))
   go_loopg [0, 1, 5] k (fun kq v0 v1 v5 w' => ∃ (aC : List (S58)) (aA : List (S58)) (aQ : List (S58)), Zq_ (entry_Join.l0 kq aC aA aQ = some r) ∧ Zq_ (kq ≤ k) ∧ Zq_ (Kd.V k58 58 w' w.heap.size (fun k_ => ((P0_ k_ ∨ P1_ k_) ∨ w.heap.size ≤ k_) ∧ some k_ ≠ (v5 : Value).ownBlock) v0 aC) ∧ Zq_ (Kd.V k58 58 w' w.heap.size (fun k_ => ((P0_ k_ ∨ P1_ k_) ∨ w.heap.size ≤ k_) ∧ some k_ ≠ (v5 : Value).ownBlock) v1 aA) ∧ Zq_ (Kd.R k58 58 w' w.heap.size (fun k_ => (w.heap.size ≤ k_)) v5 aQ) ∧ Zq_ (Below w.heap.size w w'))
   case atStart => exact ⟨(l0), (l1), (fH), H', ⟨Nat.le_refl _⟩, ⟨by refine vM_ ?_; exact HO0.out⟩, ⟨by refine vM_ ?_; exact HO1.out⟩, ⟨by (with_reducible repeat (first | apply Kd.qj_ | apply Kd.qi_ | apply Kd.R_drew)); exact Kd.R_mono gT.out (fun _ hk => hk.1)⟩, ⟨hB_ HB⟩⟩
   case round =>
    clear H'
    try clear c1
    try clear p2
    try clear c4
    try clear fF
    try clear fE
    try clear c5
    try clear fD
    try clear fC
    try clear p6
    obtain ⟨aC, aA, aQ, HA, HK1, aE, aD, aG, HB⟩ := hrel
    cases gk with
    | zero => exact absurd HA.out (by simp [entry_Join.l0])
    | succ k1 =>
     have H := HA.out; clear HA; simp only [entry_Join.l0] at H; have HC8 := Zq_.mk H; clear H
     go_upto_region 2 with (fail)
     go_cut [19] (fun v19 wc => ∃ (kq : Nat) (cF : Bool), v19 = .bool cF ∧ Zq_ (entry_Join.j1 kq aC aA aQ cF = some r) ∧ Zq_ (kq ≤ k1) ∧ Zq_ (Kd.V k58 58 wc w.heap.size (fun k_ => ((P0_ k_ ∨ P1_ k_) ∨ w.heap.size ≤ k_) ∧ some k_ ≠ (u5 : Value).ownBlock) u0 aC) ∧ Zq_ (Kd.V k58 58 wc w.heap.size (fun k_ => ((P0_ k_ ∨ P1_ k_) ∨ w.heap.size ≤ k_) ∧ some k_ ≠ (u5 : Value).ownBlock) u1 aA) ∧ Zq_ (Kd.R k58 58 wc w.heap.size (fun k_ => (w.heap.size ≤ k_)) u5 aQ) ∧ Zq_ (Below w.heap.size w wc))
     case first =>
      have H := HC8.out; clear HC8
      by_cases c9 : (aC.length : Int) > 0
      ·rw [if_pos c9] at H; have cE : decide (0 < (aC.length : Int)) = true := decide_eq_true c9; have fB : decide (0 < aC.length) = true := decide_eq_true (by omega); clear c9; (first | rw [cE] | (simp only [i64_w, i32_w]; rw [cE]) | skip); have H' := Zq_.mk H; clear H; obtain ⟨Ao10, co10, eo10⟩ := Kd.V_slice aE.out; subst eo10
       go_wp2
       go_meet
       case rel => exact ⟨_, (true), eS_, H', ⟨by have := HK1.out; first | omega | exact Nat.le_refl _⟩, ⟨by refine vM_ ?_; exact aE.out⟩, ⟨by refine vM_ ?_; exact aD.out⟩, ⟨by (with_reducible repeat (first | apply Kd.qj_ | apply Kd.qi_ | apply Kd.R_drew)); exact aG.out⟩, ⟨hB_ HB⟩⟩
      ·rw [if_neg c9] at H; have cE : decide (0 < (aC.length : Int)) = false := decide_eq_false c9; have fB : decide (0 < aC.length) = false := decide_eq_false (by omega); clear c9; (first | rw [cE] | (simp only [i64_w, i32_w]; rw [cE]) | skip); have H' := Zq_.mk H; clear H; obtain ⟨Ao11, co11, eo11⟩ := Kd.V_slice aE.out; subst eo11; obtain ⟨Ao12, co12, eo12⟩ := Kd.V_slice aD.out; subst eo12
       go_wp2
       go_meet
       case rel => exact ⟨_, (decide ((aA.length : Int) > 0)), eS_, H', ⟨by have := HK1.out; first | omega | exact Nat.le_refl _⟩, ⟨by refine vM_ ?_; exact aE.out⟩, ⟨by refine vM_ ?_; exact aD.out⟩, ⟨by (with_reducible repeat (first | apply Kd.qj_ | apply Kd.qi_ | apply Kd.R_drew)); exact aG.out⟩, ⟨hB_ HB⟩⟩
     case rest =>
      clear HC8
      try clear c1
      try clear p2
      try clear c4
      try clear fF
      try clear fE
      try clear c5
      try clear fD
      try clear fC
      try clear p6
      try clear c8
      try clear c9
      try clear cE
      try clear fB
      try clear p2
      try clear p6
      obtain ⟨kq, cF, rfl, HA, HJ7, aE, aD, aG, HB⟩ := hcut
      cases kq with
      | zero => exact absurd HA.out (by simp [entry_Join.j1])
      | succ kj7 =>
       have H := HA.out; clear HA; simp only [entry_Join.j1] at H
       by_cases c13 : cF = true
       ·subst c13
        rw [if_pos rfl] at H; have fG := Zq_.mk H; clear H
        go_upto_region 4 with (fail)
        go_cut [34] (fun v34 wc => ∃ (kq : Nat) (bY : Bool), v34 = .bool bY ∧ Zq_ (entry_Join.j2 kq aC aA aQ bY = some r) ∧ Zq_ (kq ≤ kj7) ∧ Zq_ (Kd.V k58 58 wc w.heap.size (fun k_ => ((P0_ k_ ∨ P1_ k_) ∨ w.heap.size ≤ k_) ∧ some k_ ≠ (u5 : Value).ownBlock) u0 aC) ∧ Zq_ (Kd.V k58 58 wc w.heap.size (fun k_ => ((P0_ k_ ∨ P1_ k_) ∨ w.heap.size ≤ k_) ∧ some k_ ≠ (u5 : Value).ownBlock) u1 aA) ∧ Zq_ (Kd.R k58 58 wc w.heap.size (fun k_ => (w.heap.size ≤ k_)) u5 aQ) ∧ Zq_ (Below w.heap.size w wc))
        case first =>
         have H := fG.out; clear fG
         by_cases c15 : (aA.length : Int) = 0
         ·rw [if_pos c15] at H; have bQ : ((aA.length : Int) == 0) = true := beq_iff_eq.mpr c15; have eF : ((aA.length : Int) != 0) = false := bne_eq_false_iff_eq.mpr c15; clear c15; (first | rw [bQ] | (simp only [i64_w, i32_w]; rw [bQ]) | skip); have H' := Zq_.mk H; clear H; (try go_wp2); replace aE := Zq_.mk (Kd.V_drew aE.out); replace aD := Zq_.mk (Kd.V_drew aD.out); replace aG := Zq_.mk (Kd.R_drew aG.out); replace HB := Zq_.mk (qe_ HB.out); obtain ⟨Ao17, co17, fV⟩ := Kd.V_slice aD.out; (first | subst fV | (injection fV with f1_ f2_ f3_; have f4_ := f1_.symm; have f5_ := f3_.symm; clear f1_ f2_ f3_; subst f4_; subst f5_)); refine gT_ 20 (fun hHeld => ?_); refine qm_ entry_Join.tab4 entry_Join.bits4 (fun HT_ HW_ => ?_); generalize wc.drew = w16 at aE aD aG HB hHeld ⊢; refine up0_ 0 ?_; (iterate 20 first | refine vN_ ?_ | refine pN_ ?_); refine dN_ HT_ ?_; (try go_wp2)
          go_meet
          case rel => exact ⟨_, (true), eS_, H', ⟨by have := HK1.out; have := HJ7.out; first | omega | exact Nat.le_refl _⟩, ⟨by refine vM_ ?_; exact aE.out⟩, ⟨by refine vM_ ?_; exact aD.out⟩, ⟨by (with_reducible repeat (first | apply Kd.qj_ | apply Kd.qi_ | apply Kd.R_drew)); exact aG.out⟩, ⟨hB_ HB⟩⟩
         ·rw [if_neg c15] at H; have bQ : ((aA.length : Int) == 0) = false := beq_eq_false_iff_ne.mpr c15; have eF : ((aA.length : Int) != 0) = true := bne_iff_ne.mpr c15
          have gD : ¬ (aA = []) := fun h_ => c15 (by rw [h_]; rfl)
          (first | rw [bQ] | (simp only [i64_w, i32_w]; rw [bQ]) | skip)
          by_cases c18 : (aC.length : Int) > 0
          ·rw [if_pos c18] at H; have eE : decide (0 < (aC.length : Int)) = true := decide_eq_true c18; have eD : decide (0 < aC.length) = true := decide_eq_true (by omega); clear c18
           by_cases c19 : 0 < (aC.length : Int)
           ·rw [if_pos c19] at H; have gC : decide (0 < (aC.length : Int)) = true := decide_eq_true c19; have gB : decide (0 < aC.length) = true := decide_eq_true (by omega); clear c19
            by_cases c20 : 0 < (aA.length : Int)
            ·rw [if_pos c20] at H; have gA : decide (0 < (aA.length : Int)) = true := decide_eq_true c20; have fZ : decide (0 < aA.length) = true := decide_eq_true (by omega); clear c20; have H' := Zq_.mk H; clear H; (try go_wp2); replace aE := Zq_.mk (Kd.V_drew aE.out); replace aD := Zq_.mk (Kd.V_drew aD.out); replace aG := Zq_.mk (Kd.R_drew aG.out); replace HB := Zq_.mk (qe_ HB.out); obtain ⟨Ao22, co22, fU⟩ := Kd.V_slice aD.out; (first | subst fU | (injection fU with f1_ f2_ f3_; have f4_ := f1_.symm; have f5_ := f3_.symm; clear f1_ f2_ f3_; subst f4_; subst f5_)); obtain ⟨Ao23, co23, fT⟩ := Kd.V_slice aE.out; (first | subst fT | (injection fT with f1_ f2_ f3_; have f4_ := f1_.symm; have f5_ := f3_.symm; clear f1_ f2_ f3_; subst f4_; subst f5_)); have dR : 0 ≤ (0 : Int) := (by omega); have dP : 0 < (aC.length : Int) := dA_; obtain ⟨ad104, e104, aY, aX, aW⟩ := at_T58 (Kd.V_reads' aE.out).2.2 0 dR dP; cases e104; have qi104 : (0 < aC.length) = True := eq_true (by omega); (try rw [show ((0 : Int)).toNat = 0 from rfl] at aY); (try rw [show 0 * 3 = 0 from rfl] at aY); (try rw [Addr.add_zero'] at aY); (try rw [show ((0 : Int)).toNat = 0 from rfl] at aX); (try rw [show 0 * 3 = 0 from rfl] at aX); (try rw [Addr.add_zero'] at aX); (try rw [show ((0 : Int)).toNat = 0 from rfl] at aW); (try rw [show 0 * 3 = 0 from rfl] at aW); (try rw [Addr.add_zero'] at aW); replace dR := eq_true dR; replace dP := eq_true dP; have dQ : 0 ≤ (0 : Int) := (by omega); have dO : 0 < (aA.length : Int) := dA_; obtain ⟨ad105, e105, aV, aU, aT⟩ := at_T58 (Kd.V_reads' aD.out).2.2 0 dQ dO; cases e105; have qi105 : (0 < aA.length) = True := eq_true (by omega); (try rw [show ((0 : Int)).toNat = 0 from rfl] at aV); (try rw [show 0 * 3 = 0 from rfl] at aV); (try rw [Addr.add_zero'] at aV); (try rw [show ((0 : Int)).toNat = 0 from rfl] at aU); (try rw [show 0 * 3 = 0 from rfl] at aU); (try rw [Addr.add_zero'] at aU); (try rw [show ((0 : Int)).toNat = 0 from rfl] at aT); (try rw [show 0 * 3 = 0 from rfl] at aT); (try rw [Addr.add_zero'] at aT); replace dQ := eq_true dQ; replace dO := eq_true dO; refine gS_ 20 (hA_ aY (hA_ aX (hA_ aW (hA_ aV (hA_ aU (hZ_ aT)))))) (fun hHeld => ?_); refine qm_ entry_Join.tab4 entry_Join.bits4 (fun HT_ HW_ => ?_); generalize wc.drew = w21 at aE aD aG HB aY aX aW aV aU aT hHeld ⊢; refine up0_ 0 ?_; (iterate 11 refine pN_ ?_); refine pQ_ 12 HT_ ?_; refine pQ_ 13 HT_ ?_; refine pQ_ 14 HT_ ?_; refine tL_ 11 HT_ HW_ hHeld ?_; refine up0_ 15 ?_; (iterate 5 first | refine pN_ ?_ | refine tN_ ?_); refine dN_ HT_ ?_; (try go_wp2)
             go_meet
             case rel => exact ⟨_, (decide (((rd_T58 aC 0).f0) < ((rd_T58 aA 0).f0))), eS_, H', ⟨by have := HK1.out; have := HJ7.out; first | omega | exact Nat.le_refl _⟩, ⟨by refine vM_ ?_; exact aE.out⟩, ⟨by refine vM_ ?_; exact aD.out⟩, ⟨by (with_reducible repeat (first | apply Kd.qj_ | apply Kd.qi_ | apply Kd.R_drew)); exact aG.out⟩, ⟨hB_ HB⟩⟩
            ·rw [if_neg c20] at H; exact absurd H (by simp)
           ·rw [if_neg c19] at H; exact absurd H (by simp)
          ·rw [if_neg c18] at H; have eE : decide (0 < (aC.length : Int)) = false := decide_eq_false c18; have eD : decide (0 < aC.length) = false := decide_eq_false (by omega); clear c18; have H' := Zq_.mk H; clear H; (try go_wp2); replace aE := Zq_.mk (Kd.V_drew aE.out); replace aD := Zq_.mk (Kd.V_drew aD.out); replace aG := Zq_.mk (Kd.R_drew aG.out); replace HB := Zq_.mk (qe_ HB.out); obtain ⟨Ao25, co25, fS⟩ := Kd.V_slice aD.out; (first | subst fS | (injection fS with f1_ f2_ f3_; have f4_ := f1_.symm; have f5_ := f3_.symm; clear f1_ f2_ f3_; subst f4_; subst f5_)); obtain ⟨Ao26, co26, fR⟩ := Kd.V_slice aE.out; (first | subst fR | (injection fR with f1_ f2_ f3_; have f4_ := f1_.symm; have f5_ := f3_.symm; clear f1_ f2_ f3_; subst f4_; subst f5_)); refine gT_ 20 (fun hHeld => ?_); refine qm_ entry_Join.tab4 entry_Join.bits4 (fun HT_ HW_ => ?_); generalize wc.drew = w24 at aE aD aG HB hHeld ⊢; refine up0_ 0 ?_; (iterate 20 first | refine vN_ ?_ | refine pN_ ?_); refine dN_ HT_ ?_; (try go_wp2)
           go_meet
           case rel => exact ⟨_, (false), eS_, H', ⟨by have := HK1.out; have := HJ7.out; first | omega | exact Nat.le_refl _⟩, ⟨by refine vM_ ?_; exact aE.out⟩, ⟨by refine vM_ ?_; exact aD.out⟩, ⟨by (with_reducible repeat (first | apply Kd.qj_ | apply Kd.qi_ | apply Kd.R_drew)); exact aG.out⟩, ⟨hB_ HB⟩⟩
        case rest =>
         clear fG
         try clear c1
         try clear p1
         try clear q1
         try clear hx1
         try clear qi1
         try clear c2
         try clear p2
         try clear c4
         try clear fF
         try clear fE
         try clear c5
         try clear fD
         try clear fC
         try clear p6
         try clear c8
         try clear c9
         try clear cE
         try clear fB
         try clear p10
         try clear q10
         try clear hx10
         try clear qi10
         try clear c13
         try clear c15
         try clear bQ
         try clear eF
         try clear gD
         try clear c18
         try clear eE
         try clear eD
         try clear c19
         try clear gC
         try clear gB
         try clear c20
         try clear gA
         try clear fZ
         try clear aY
         try clear aX
         try clear aW
         try clear aV
         try clear aU
         try clear aT
         try clear dR
         try clear dQ
         try clear p2
         try clear p6
         try clear dP
         try clear dO
         obtain ⟨kq, bY, rfl, HA, bZ, aE, aD, aG, HB⟩ := hcut
         cases kq with
         | zero => exact absurd HA.out (by simp [entry_Join.j2])
         | succ kj13 =>
          have H := HA.out; clear HA; simp only [entry_Join.j2] at H
          by_cases c27 : bY = true
          ·subst c27
           rw [if_pos rfl] at H
           by_cases c28 : 0 < (aC.length : Int)
           ·rw [if_pos c28] at H; have c28b0 : decide (0 < (aC.length : Int)) = true := decide_eq_true c28; have c28b1 : decide (0 < aC.length) = true := decide_eq_true (by omega); clear c28
            by_cases c29 : aQ.length < 4398046511104
            ·rw [if_pos c29] at H; have gO := Zq_.mk c29; clear c29; obtain ⟨eO, dB⟩ : ∃ y_ : List (S58), y_ = (aQ ++ [(⟨(rd_T58 aC 0).f0, (rd_T58 aC 0).f1, (rd_T58 aC 0).f2⟩ : S58)]) := ⟨_, rfl⟩
             replace H : (if 1 ≤ (aC.length : Int) then (entry_Join.l0 kj13 (aC.drop 1) aA eO) else (none)) = some r := hY_ dB H
             have gK := Zq_.mk dB; clear dB
             by_cases c30 : 1 ≤ (aC.length : Int)
             ·rw [if_pos c30] at H; have c30b0 := eq_true c30; have c30b1 : decide (1 ≤ (aC.length : Int)) = true := decide_eq_true c30; clear c30; obtain ⟨bX, dA⟩ : ∃ y_ : List (S58), y_ = (aC.drop 1) := ⟨_, rfl⟩
              replace H : (entry_Join.l0 kj13 bX aA eO) = some r := hY_ dA H
              have eK := Zq_.mk dA; clear dA; have H' := Zq_.mk H; clear H; (try go_wp2); replace aE := Zq_.mk (Kd.V_drew aE.out); replace aD := Zq_.mk (Kd.V_drew aD.out); replace aG := Zq_.mk (Kd.R_drew aG.out); replace HB := Zq_.mk (qe_ HB.out); obtain ⟨Ao32, dM, fQ⟩ := Kd.V_slice aE.out; (first | subst fQ | (injection fQ with f1_ f2_ f3_; have f4_ := f1_.symm; have f5_ := f3_.symm; clear f1_ f2_ f3_; subst f4_; subst f5_)); have eY : 0 ≤ (0 : Int) := (by omega); have eT : 0 < (aC.length : Int) := dA_; obtain ⟨cH, e106, bN, bM, bL⟩ := at_T58 (Kd.V_reads' aE.out).2.2 0 eY eT; cases e106; have qi106 : (0 < aC.length) = True := eq_true (by omega); (try rw [show ((0 : Int)).toNat = 0 from rfl] at bN); (try rw [show 0 * 3 = 0 from rfl] at bN); (try rw [Addr.add_zero'] at bN); (try rw [show ((0 : Int)).toNat = 0 from rfl] at bM); (try rw [show 0 * 3 = 0 from rfl] at bM); (try rw [Addr.add_zero'] at bM); (try rw [show ((0 : Int)).toNat = 0 from rfl] at bL); (try rw [show 0 * 3 = 0 from rfl] at bL); (try rw [Addr.add_zero'] at bL); replace eY := eq_true eY; replace eT := eq_true eT; have q33 : (1 : Int) ≤ ((aC.length : Int) : Int) := dA_; obtain ⟨i033, eC, _, hsz33, _⟩ := info_parts info58; have hroom33 : aC.length ≤ dM := (Kd.V_reads' aE.out).2.1; have hC33 : Kd.F k58 _ _ (some cH) aC.length aC := (Kd.V_at (base := w.heap.size) aE.out).2.2; have hcut33 := cut_from (P := Try.prog) 33 58 .i64 Try.underlying33 eC 3 hsz33 (some cH) aC.length dM 1 (by omega) q33; have dH := Kd.F_cut (m := (1 : Int).toNat) (c := dM) hC33 (by omega) hroom33; obtain ⟨A33, hA33⟩ : ∃ A1, A1 = (if dM = (1 : Int).toNat then (some cH) else ((some cH) : Option Addr).map (·.add ((1 : Int).toNat * 3))) := ⟨_, rfl⟩; obtain ⟨c33, dX⟩ : ∃ c1, c1 = dM - (1 : Int).toNat := ⟨_, rfl⟩; have cS : bX.length = aC.length - (1 : Int).toNat := (by rw [eK.out, List.length_drop] <;> omega); rw [show (aC).drop (1 : Int).toNat = bX from eK.out.symm] at dH; replace dH : Kd.F k58 _ _ A33 bX.length bX := (by rw [hA33]; exact dH); rw [← cS, ← hA33, ← dX] at hcut33; have cK := Zq_.mk (show Kd.V k58 58 _ w.heap.size _ (.slice A33 bX.length c33) bX from Kd.V_mk (by rw [cS, dX]; exact Nat.sub_le_sub_right hroom33 _) dH); have HC114 := Zq_.mk (show bX.length ≤ c33 from by rw [cS, dX]; exact Nat.sub_le_sub_right hroom33 _); clear dH hC33 hroom33 eC hsz33 dX; have KY33 := Zq_.mk cS; have KA33 := Zq_.mk hA33; clear cS hA33; replace q33 := eq_true q33; refine gD_ 10 [4, 5] (hA_ bN (hA_ bM (hZ_ bL))) (fun hHeld => ?_); refine qm_ entry_Join.tab5 entry_Join.bits5 (fun HT_ HW_ => ?_); generalize wc.drew = w31 at aE aD aG HB cK bN bM bL hHeld ⊢; refine pQ_ 0 HT_ ?_; refine pQ_ 1 HT_ ?_; refine pQ_ 2 HT_ ?_; refine pQ_ 6 HT_ ?_; refine pQ_ 7 HT_ ?_; refine tL_ 3 HT_ HW_ hHeld ?_; refine last_ (i := 4) (N := some 58) (bz_ 10 223) rfl rfl (one_of HT_.out (by kernel_rfl)) (by decide) (fun K hK => ?_); refine value_ (w1 := ?_) (v := ?_) (by rfl) rfl ?_ ?_; rotate_left 2
              ·go_simp
               constructor
               ·rfl
               ·rfl
              refine hK.out _ _ ?_; clear hK K; refine norm_ (a' := ?_) ?_ ?_; rotate_left
              ·show Act.put _ (some 58) _ = _
               simp only [Act.put, sa_, sb_, sc_, i64_w, i32_w]; rfl
              refine last_ (i := 5) (N := some 59) (bz_ 10 255) rfl rfl (one_of HT_.out (by kernel_rfl)) (by decide) (fun K hK => ?_); refine Kd.R_append_step k58 (w0 := w) w.heap.size (by rfl) (.tmp 54) (.tmp 58) 33 58 (.agg #[(.int .i64 0), (.int .i64 0), (.string ⟨#[]⟩)]) 32 rfl Try.underlying33 info58 rfl (by decide) (by omega) u5 aQ (⟨(rd_T58 aC 0).f0, (rd_T58 aC 0).f1, (rd_T58 aC 0).f2⟩ : S58) [.int .i64 ((rd_T58 aC 0).f0), .int .i64 ((rd_T58 aC 0).f1), .string ((rd_T58 aC 0).f2)] (fun k_ => (w.heap.size ≤ k_)) (fun _ => False) rfl rfl ?aP (fun _ hk => hk.elim) ?aF ?aO ?aB ?aS ?aL ?_; (case aP => exact k58_mkM _ _ _ (⟨(rd_T58 aC 0).f0, (rd_T58 aC 0).f1, (rd_T58 aC 0).f2⟩ : S58)); (case aB => exact (hB_ HB)); (case aF => exact (fun k_ hk => (Nat.le_trans (qa_ (hB_ HB)) hk))); (case aO => exact (vX_ aG)); (case aS => exact (qa_ (hB_ HB))); (case aL => have := gO.out; omega); intro v108 w34 ho hb hg hat; rw [← gK.out] at ho; replace aE := Zq_.mk (Kd.qx_ (ok := (fun k_ => ((P0_ k_ ∨ P1_ k_) ∨ w.heap.size ≤ k_))) (by (with_reducible repeat (first | apply Kd.V_alloc | apply Kd.V_drewN | apply Kd.V_drew)); first | exact aE.out | exact Kd.V_mono aE.out (fun _ hk => ⟨⟨hk.1, hk.2.2⟩, hk.2.1⟩)) hg hat); replace aD := Zq_.mk (Kd.qx_ (ok := (fun k_ => ((P0_ k_ ∨ P1_ k_) ∨ w.heap.size ≤ k_))) (by (with_reducible repeat (first | apply Kd.V_alloc | apply Kd.V_drewN | apply Kd.V_drew)); first | exact aD.out | exact Kd.V_mono aD.out (fun _ hk => ⟨⟨hk.1, hk.2.2⟩, hk.2.1⟩)) hg hat); replace cK := Zq_.mk (Kd.qx_ (ok := (fun k_ => ((P0_ k_ ∨ P1_ k_) ∨ w.heap.size ≤ k_))) (vX_ cK) hg hat); replace HB := Zq_.mk (hb); have gS := Zq_.mk (ho); clear aG; clear ho hb hg hat; refine hK.out _ _ ?_; clear hK K; refine norm_ (a' := ?_) ?_ ?_; rotate_left
              ·show Act.put _ (some 59) _ = _
               simp only [Act.put, sa_, sb_, sc_, i64_w, i32_w]; rfl
              refine pQ_ 8 HT_ ?_; refine pQ_ 9 HT_ ?_; refine dN_ HT_ ?_; (try go_wp2)
              go_roundg kj13
              case measure => have := HK1.out; have := HJ7.out; have := bZ.out; omega
              case rel => exact ⟨(bX), (aA), (eO), H', ⟨by have := HK1.out; have := HJ7.out; have := bZ.out; omega⟩, ⟨by refine vM_ ?_; exact cK.out⟩, ⟨by refine vM_ ?_; exact aD.out⟩, ⟨by (with_reducible repeat (first | apply Kd.qj_ | apply Kd.qi_ | apply Kd.R_drew)); exact gS.out⟩, ⟨hB_ HB⟩⟩
             ·rw [if_neg c30] at H; exact absurd H (by simp)
            ·rw [if_neg c29] at H; exact absurd H (by simp)
           ·rw [if_neg c28] at H; exact absurd H (by simp)
          ·replace c27 := Bool.eq_false_iff.mpr c27; subst c27
           have H1 : (if (aC.length : Int) = 0 then (if 0 < (aA.length : Int) then (if aQ.length < 4398046511104 then (if 1 ≤ (aA.length : Int) then (entry_Join.l0 kj13 aC (aA.drop 1) (aQ ++ [(⟨(rd_T58 aA 0).f0, (rd_T58 aA 0).f1, (rd_T58 aA 0).f2⟩ : S58)])) else (none)) else (none)) else (none)) else (if 0 < (aA.length : Int) then (if 0 < (aC.length : Int) then (if ((rd_T58 aA 0).f0) < ((rd_T58 aC 0).f0) then (if aQ.length < 4398046511104 then (if 1 ≤ (aA.length : Int) then (entry_Join.l0 kj13 aC (aA.drop 1) (aQ ++ [(⟨(rd_T58 aA 0).f0, (rd_T58 aA 0).f1, (rd_T58 aA 0).f2⟩ : S58)])) else (none)) else (none)) else ((entry_higher.f ((rd_T58 aC 0).f0) ((rd_T58 aC 0).f1) ((rd_T58 aC 0).f2) ((rd_T58 aA 0).f0) ((rd_T58 aA 0).f1) ((rd_T58 aA 0).f2)).bind fun bO => (if aQ.length < 4398046511104 then (if 1 ≤ (aC.length : Int) then (if 1 ≤ (aA.length : Int) then (entry_Join.l0 kj13 (aC.drop 1) (aA.drop 1) (aQ ++ [(⟨bO.1, bO.2.1, bO.2.2⟩ : S58)])) else (none)) else (none)) else (none)))) else (none)) else (none))) = some r := by rw [if_neg (show ¬ (false = true) by decide)] at H; exact H
           clear H; have H := H1; clear H1
           by_cases c35 : (aC.length : Int) = 0
           ·rw [if_pos c35] at H; have fY : ((aC.length : Int) == 0) = true := beq_iff_eq.mpr c35; have fX : ((aC.length : Int) != 0) = false := bne_eq_false_iff_eq.mpr c35; clear c35
            by_cases c36 : 0 < (aA.length : Int)
            ·rw [if_pos c36] at H; have c36b0 : decide (0 < (aA.length : Int)) = true := decide_eq_true c36; have c36b1 : decide (0 < aA.length) = true := decide_eq_true (by omega); clear c36
             by_cases c37 : aQ.length < 4398046511104
             ·rw [if_pos c37] at H; have gN := Zq_.mk c37; clear c37; obtain ⟨eN, cZ⟩ : ∃ y_ : List (S58), y_ = (aQ ++ [(⟨(rd_T58 aA 0).f0, (rd_T58 aA 0).f1, (rd_T58 aA 0).f2⟩ : S58)]) := ⟨_, rfl⟩
              replace H : (if 1 ≤ (aA.length : Int) then (entry_Join.l0 kj13 aC (aA.drop 1) eN) else (none)) = some r := hY_ cZ H
              have gJ := Zq_.mk cZ; clear cZ
              by_cases c38 : 1 ≤ (aA.length : Int)
              ·rw [if_pos c38] at H; have c38b0 := eq_true c38; have c38b1 : decide (1 ≤ (aA.length : Int)) = true := decide_eq_true c38; clear c38; obtain ⟨bW, cY⟩ : ∃ y_ : List (S58), y_ = (aA.drop 1) := ⟨_, rfl⟩
               replace H : (entry_Join.l0 kj13 aC bW eN) = some r := hY_ cY H
               have eJ := Zq_.mk cY; clear cY; have H' := Zq_.mk H; clear H; (try go_wp2); replace aE := Zq_.mk (Kd.V_drew aE.out); replace aD := Zq_.mk (Kd.V_drew aD.out); replace aG := Zq_.mk (Kd.R_drew aG.out); replace HB := Zq_.mk (qe_ HB.out); obtain ⟨Ao40, co40, fP⟩ := Kd.V_slice aE.out; (first | subst fP | (injection fP with f1_ f2_ f3_; have f4_ := f1_.symm; have f5_ := f3_.symm; clear f1_ f2_ f3_; subst f4_; subst f5_)); refine gT_ 15 (fun hHeld => ?_); refine qm_ entry_Join.tab6 entry_Join.bits6 (fun HT_ HW_ => ?_); generalize wc.drew = w39 at aE aD aG HB hHeld ⊢; refine up0_ 0 ?_; (iterate 15 first | refine vN_ ?_ | refine pN_ ?_); refine dN_ HT_ ?_; (try go_wp2); replace aE := Zq_.mk (Kd.V_drew aE.out); replace aD := Zq_.mk (Kd.V_drew aD.out); replace aG := Zq_.mk (Kd.R_drew aG.out); replace HB := Zq_.mk (qe_ HB.out); obtain ⟨Ao42, dL, fO⟩ := Kd.V_slice aD.out; (first | subst fO | (injection fO with f1_ f2_ f3_; have f4_ := f1_.symm; have f5_ := f3_.symm; clear f1_ f2_ f3_; subst f4_; subst f5_)); have eX : 0 ≤ (0 : Int) := (by omega); have eS : 0 < (aA.length : Int) := dA_; obtain ⟨cG, e115, bK, bJ, bI⟩ := at_T58 (Kd.V_reads' aD.out).2.2 0 eX eS; cases e115; have qi115 : (0 < aA.length) = True := eq_true (by omega); (try rw [show ((0 : Int)).toNat = 0 from rfl] at bK); (try rw [show 0 * 3 = 0 from rfl] at bK); (try rw [Addr.add_zero'] at bK); (try rw [show ((0 : Int)).toNat = 0 from rfl] at bJ); (try rw [show 0 * 3 = 0 from rfl] at bJ); (try rw [Addr.add_zero'] at bJ); (try rw [show ((0 : Int)).toNat = 0 from rfl] at bI); (try rw [show 0 * 3 = 0 from rfl] at bI); (try rw [Addr.add_zero'] at bI); replace eX := eq_true eX; replace eS := eq_true eS; have q43 : (1 : Int) ≤ ((aA.length : Int) : Int) := dA_; obtain ⟨i043, eB, _, hsz43, _⟩ := info_parts info58; have hroom43 : aA.length ≤ dL := (Kd.V_reads' aD.out).2.1; have hC43 : Kd.F k58 _ _ (some cG) aA.length aA := (Kd.V_at (base := w.heap.size) aD.out).2.2; have hcut43 := cut_from (P := Try.prog) 33 58 .i64 Try.underlying33 eB 3 hsz43 (some cG) aA.length dL 1 (by omega) q43; have dG := Kd.F_cut (m := (1 : Int).toNat) (c := dL) hC43 (by omega) hroom43; obtain ⟨A43, hA43⟩ : ∃ A1, A1 = (if dL = (1 : Int).toNat then (some cG) else ((some cG) : Option Addr).map (·.add ((1 : Int).toNat * 3))) := ⟨_, rfl⟩; obtain ⟨c43, dW⟩ : ∃ c1, c1 = dL - (1 : Int).toNat := ⟨_, rfl⟩; have cR : bW.length = aA.length - (1 : Int).toNat := (by rw [eJ.out, List.length_drop] <;> omega); rw [show (aA).drop (1 : Int).toNat = bW from eJ.out.symm] at dG; replace dG : Kd.F k58 _ _ A43 bW.length bW := (by rw [hA43]; exact dG); rw [← cR, ← hA43, ← dW] at hcut43; have cJ := Zq_.mk (show Kd.V k58 58 _ w.heap.size _ (.slice A43 bW.length c43) bW from Kd.V_mk (by rw [cR, dW]; exact Nat.sub_le_sub_right hroom43 _) dG); have HC123 := Zq_.mk (show bW.length ≤ c43 from by rw [cR, dW]; exact Nat.sub_le_sub_right hroom43 _); clear dG hC43 hroom43 eB hsz43 dW; have KY43 := Zq_.mk cR; have KA43 := Zq_.mk hA43; clear cR hA43; replace q43 := eq_true q43; refine gD_ 10 [4, 5] (hA_ bK (hA_ bJ (hZ_ bI))) (fun hHeld => ?_); refine qm_ entry_Join.tab7 entry_Join.bits7 (fun HT_ HW_ => ?_); generalize w39.drew = w41 at aE aD aG HB cJ bK bJ bI hHeld ⊢; refine pQ_ 0 HT_ ?_; refine pQ_ 1 HT_ ?_; refine pQ_ 2 HT_ ?_; refine pQ_ 6 HT_ ?_; refine pQ_ 7 HT_ ?_; refine tL_ 3 HT_ HW_ hHeld ?_; refine last_ (i := 4) (N := some 81) (bz_ 10 223) rfl rfl (one_of HT_.out (by kernel_rfl)) (by decide) (fun K hK => ?_); refine value_ (w1 := ?_) (v := ?_) (by rfl) rfl ?_ ?_; rotate_left 2
               ·go_simp
                constructor
                ·rfl
                ·rfl
               refine hK.out _ _ ?_; clear hK K; refine norm_ (a' := ?_) ?_ ?_; rotate_left
               ·show Act.put _ (some 81) _ = _
                simp only [Act.put, sa_, sb_, sc_, i64_w, i32_w]; rfl
               refine last_ (i := 5) (N := some 82) (bz_ 10 255) rfl rfl (one_of HT_.out (by kernel_rfl)) (by decide) (fun K hK => ?_); refine Kd.R_append_step k58 (w0 := w) w.heap.size (by rfl) (.tmp 77) (.tmp 81) 33 58 (.agg #[(.int .i64 0), (.int .i64 0), (.string ⟨#[]⟩)]) 32 rfl Try.underlying33 info58 rfl (by decide) (by omega) u5 aQ (⟨(rd_T58 aA 0).f0, (rd_T58 aA 0).f1, (rd_T58 aA 0).f2⟩ : S58) [.int .i64 ((rd_T58 aA 0).f0), .int .i64 ((rd_T58 aA 0).f1), .string ((rd_T58 aA 0).f2)] (fun k_ => (w.heap.size ≤ k_)) (fun _ => False) rfl rfl ?aP (fun _ hk => hk.elim) ?aF ?aO ?aB ?aS ?aL ?_; (case aP => exact k58_mkM _ _ _ (⟨(rd_T58 aA 0).f0, (rd_T58 aA 0).f1, (rd_T58 aA 0).f2⟩ : S58)); (case aB => exact (hB_ HB)); (case aF => exact (fun k_ hk => (Nat.le_trans (qa_ (hB_ HB)) hk))); (case aO => exact (vX_ aG)); (case aS => exact (qa_ (hB_ HB))); (case aL => have := gN.out; omega); intro v117 w44 ho hb hg hat; rw [← gJ.out] at ho; replace aE := Zq_.mk (Kd.qx_ (ok := (fun k_ => ((P0_ k_ ∨ P1_ k_) ∨ w.heap.size ≤ k_))) (by (with_reducible repeat (first | apply Kd.V_alloc | apply Kd.V_drewN | apply Kd.V_drew)); first | exact aE.out | exact Kd.V_mono aE.out (fun _ hk => ⟨⟨hk.1, hk.2.2⟩, hk.2.1⟩)) hg hat); replace aD := Zq_.mk (Kd.qx_ (ok := (fun k_ => ((P0_ k_ ∨ P1_ k_) ∨ w.heap.size ≤ k_))) (by (with_reducible repeat (first | apply Kd.V_alloc | apply Kd.V_drewN | apply Kd.V_drew)); first | exact aD.out | exact Kd.V_mono aD.out (fun _ hk => ⟨⟨hk.1, hk.2.2⟩, hk.2.1⟩)) hg hat); replace cJ := Zq_.mk (Kd.qx_ (ok := (fun k_ => ((P0_ k_ ∨ P1_ k_) ∨ w.heap.size ≤ k_))) (vX_ cJ) hg hat); replace HB := Zq_.mk (hb); have gR := Zq_.mk (ho); clear aG; clear ho hb hg hat; refine hK.out _ _ ?_; clear hK K; refine norm_ (a' := ?_) ?_ ?_; rotate_left
               ·show Act.put _ (some 82) _ = _
                simp only [Act.put, sa_, sb_, sc_, i64_w, i32_w]; rfl
               refine pQ_ 8 HT_ ?_; refine pQ_ 9 HT_ ?_; refine dN_ HT_ ?_; (try go_wp2)
               go_roundg kj13
               case measure => have := HK1.out; have := HJ7.out; have := bZ.out; omega
               case rel => exact ⟨(aC), (bW), (eN), H', ⟨by have := HK1.out; have := HJ7.out; have := bZ.out; omega⟩, ⟨by refine vM_ ?_; exact aE.out⟩, ⟨by refine vM_ ?_; exact cJ.out⟩, ⟨by (with_reducible repeat (first | apply Kd.qj_ | apply Kd.qi_ | apply Kd.R_drew)); exact gR.out⟩, ⟨hB_ HB⟩⟩
              ·rw [if_neg c38] at H; exact absurd H (by simp)
             ·rw [if_neg c37] at H; exact absurd H (by simp)
            ·rw [if_neg c36] at H; exact absurd H (by simp)
           ·rw [if_neg c35] at H; have fY : ((aC.length : Int) == 0) = false := beq_eq_false_iff_ne.mpr c35; have fX : ((aC.length : Int) != 0) = true := bne_iff_ne.mpr c35
            have c35b2 : ¬ (aC = []) := fun h_ => c35 (by rw [h_]; rfl)
            by_cases c45 : 0 < (aA.length : Int)
            ·rw [if_pos c45] at H; have c45b0 : decide (0 < (aA.length : Int)) = true := decide_eq_true c45; have c45b1 : decide (0 < aA.length) = true := decide_eq_true (by omega); clear c45
             by_cases c46 : 0 < (aC.length : Int)
             ·rw [if_pos c46] at H; have c46b0 : decide (0 < (aC.length : Int)) = true := decide_eq_true c46; have c46b1 : decide (0 < aC.length) = true := decide_eq_true (by omega); clear c46
              by_cases c47 : ((rd_T58 aA 0).f0) < ((rd_T58 aC 0).f0)
              ·rw [if_pos c47] at H; have fW : decide (((rd_T58 aA 0).f0) < ((rd_T58 aC 0).f0)) = true := decide_eq_true c47; clear c47
               by_cases c48 : aQ.length < 4398046511104
               ·rw [if_pos c48] at H; have gM := Zq_.mk c48; clear c48; obtain ⟨eM, cX⟩ : ∃ y_ : List (S58), y_ = (aQ ++ [(⟨(rd_T58 aA 0).f0, (rd_T58 aA 0).f1, (rd_T58 aA 0).f2⟩ : S58)]) := ⟨_, rfl⟩
                replace H : (if 1 ≤ (aA.length : Int) then (entry_Join.l0 kj13 aC (aA.drop 1) eM) else (none)) = some r := hY_ cX H
                have gI := Zq_.mk cX; clear cX
                by_cases c49 : 1 ≤ (aA.length : Int)
                ·rw [if_pos c49] at H; have c49b0 := eq_true c49; have c49b1 : decide (1 ≤ (aA.length : Int)) = true := decide_eq_true c49; clear c49; obtain ⟨bV, cW⟩ : ∃ y_ : List (S58), y_ = (aA.drop 1) := ⟨_, rfl⟩
                 replace H : (entry_Join.l0 kj13 aC bV eM) = some r := hY_ cW H
                 have eI := Zq_.mk cW; clear cW; have H' := Zq_.mk H; clear H; (try go_wp2); replace aE := Zq_.mk (Kd.V_drew aE.out); replace aD := Zq_.mk (Kd.V_drew aD.out); replace aG := Zq_.mk (Kd.R_drew aG.out); replace HB := Zq_.mk (qe_ HB.out); obtain ⟨Ao51, co51, fN⟩ := Kd.V_slice aE.out; (first | subst fN | (injection fN with f1_ f2_ f3_; have f4_ := f1_.symm; have f5_ := f3_.symm; clear f1_ f2_ f3_; subst f4_; subst f5_)); obtain ⟨Ao52, dK, fM⟩ := Kd.V_slice aD.out; (first | subst fM | (injection fM with f1_ f2_ f3_; have f4_ := f1_.symm; have f5_ := f3_.symm; clear f1_ f2_ f3_; subst f4_; subst f5_)); have cD : 0 ≤ (0 : Int) := (by omega); have cB : 0 < (aA.length : Int) := dA_; obtain ⟨aR, fA, aN, aM, aK⟩ := at_T58 (Kd.V_reads' aD.out).2.2 0 cD cB; cases fA; have fJ : (0 < aA.length) = True := eq_true (by omega); (try rw [show ((0 : Int)).toNat = 0 from rfl] at aN); (try rw [show 0 * 3 = 0 from rfl] at aN); (try rw [Addr.add_zero'] at aN); (try rw [show ((0 : Int)).toNat = 0 from rfl] at aM); (try rw [show 0 * 3 = 0 from rfl] at aM); (try rw [Addr.add_zero'] at aM); (try rw [show ((0 : Int)).toNat = 0 from rfl] at aK); (try rw [show 0 * 3 = 0 from rfl] at aK); (try rw [Addr.add_zero'] at aK); replace cD := eq_true cD; replace cB := eq_true cB; have cC : 0 ≤ (0 : Int) := (by omega); have cA : 0 < (aC.length : Int) := dA_; obtain ⟨bR, eZ, aJ, aI, aH⟩ := at_T58 (Kd.V_reads' aE.out).2.2 0 cC cA; cases eZ; have fI : (0 < aC.length) = True := eq_true (by omega); (try rw [show ((0 : Int)).toNat = 0 from rfl] at aJ); (try rw [show 0 * 3 = 0 from rfl] at aJ); (try rw [Addr.add_zero'] at aJ); (try rw [show ((0 : Int)).toNat = 0 from rfl] at aI); (try rw [show 0 * 3 = 0 from rfl] at aI); (try rw [Addr.add_zero'] at aI); (try rw [show ((0 : Int)).toNat = 0 from rfl] at aH); (try rw [show 0 * 3 = 0 from rfl] at aH); (try rw [Addr.add_zero'] at aH); replace cC := eq_true cC; replace cA := eq_true cA; refine gS_ 15 (hA_ aN (hA_ aM (hA_ aK (hA_ aJ (hA_ aI (hZ_ aH)))))) (fun hHeld => ?_); refine qm_ entry_Join.tab6 entry_Join.bits6 (fun HT_ HW_ => ?_); generalize wc.drew = w50 at aE aD aG HB aN aM aK aJ aI aH hHeld ⊢; refine up0_ 0 ?_; (iterate 7 refine pN_ ?_); refine pQ_ 8 HT_ ?_; refine pQ_ 9 HT_ ?_; refine pQ_ 10 HT_ ?_; refine tL_ 7 HT_ HW_ hHeld ?_; refine up0_ 11 ?_; (iterate 4 first | refine pN_ ?_ | refine tN_ ?_); refine dN_ HT_ ?_; (try go_wp2); replace aE := Zq_.mk (Kd.V_drew aE.out); replace aD := Zq_.mk (Kd.V_drew aD.out); replace aG := Zq_.mk (Kd.R_drew aG.out); replace HB := Zq_.mk (qe_ HB.out); have eW : 0 ≤ (0 : Int) := (by omega); have eR : 0 < (aA.length : Int) := dA_; obtain ⟨gG, e126, bH, bG, bF⟩ := at_T58 (Kd.V_reads' aD.out).2.2 0 eW eR; obtain rfl : aR = gG := (by injection e126); have qi126 : (0 < aA.length) = True := eq_true (by omega); (try rw [show ((0 : Int)).toNat = 0 from rfl] at bH); (try rw [show 0 * 3 = 0 from rfl] at bH); (try rw [Addr.add_zero'] at bH); (try rw [show ((0 : Int)).toNat = 0 from rfl] at bG); (try rw [show 0 * 3 = 0 from rfl] at bG); (try rw [Addr.add_zero'] at bG); (try rw [show ((0 : Int)).toNat = 0 from rfl] at bF); (try rw [show 0 * 3 = 0 from rfl] at bF); (try rw [Addr.add_zero'] at bF); replace eW := eq_true eW; replace eR := eq_true eR; have q54 : (1 : Int) ≤ ((aA.length : Int) : Int) := dA_; obtain ⟨i054, eA, _, hsz54, _⟩ := info_parts info58; have hroom54 : aA.length ≤ dK := (Kd.V_reads' aD.out).2.1; have hC54 : Kd.F k58 _ _ (some aR) aA.length aA := (Kd.V_at (base := w.heap.size) aD.out).2.2; have hcut54 := cut_from (P := Try.prog) 33 58 .i64 Try.underlying33 eA 3 hsz54 (some aR) aA.length dK 1 (by omega) q54; have dF := Kd.F_cut (m := (1 : Int).toNat) (c := dK) hC54 (by omega) hroom54; obtain ⟨A54, hA54⟩ : ∃ A1, A1 = (if dK = (1 : Int).toNat then (some aR) else ((some aR) : Option Addr).map (·.add ((1 : Int).toNat * 3))) := ⟨_, rfl⟩; obtain ⟨c54, dV⟩ : ∃ c1, c1 = dK - (1 : Int).toNat := ⟨_, rfl⟩; have cQ : bV.length = aA.length - (1 : Int).toNat := (by rw [eI.out, List.length_drop] <;> omega); rw [show (aA).drop (1 : Int).toNat = bV from eI.out.symm] at dF; replace dF : Kd.F k58 _ _ A54 bV.length bV := (by rw [hA54]; exact dF); rw [← cQ, ← hA54, ← dV] at hcut54; have cI := Zq_.mk (show Kd.V k58 58 _ w.heap.size _ (.slice A54 bV.length c54) bV from Kd.V_mk (by rw [cQ, dV]; exact Nat.sub_le_sub_right hroom54 _) dF); have HC134 := Zq_.mk (show bV.length ≤ c54 from by rw [cQ, dV]; exact Nat.sub_le_sub_right hroom54 _); clear dF hC54 hroom54 eA hsz54 dV; have KY54 := Zq_.mk cQ; have KA54 := Zq_.mk hA54; clear cQ hA54; replace q54 := eq_true q54; refine gD_ 10 [4, 5] (hA_ bH (hA_ bG (hZ_ bF))) (fun hHeld => ?_); refine qm_ entry_Join.tab7 entry_Join.bits7 (fun HT_ HW_ => ?_); generalize w50.drew = w53 at aE aD aG HB cI bH bG bF hHeld ⊢; refine pQ_ 0 HT_ ?_; refine pQ_ 1 HT_ ?_; refine pQ_ 2 HT_ ?_; refine pQ_ 6 HT_ ?_; refine pQ_ 7 HT_ ?_; refine tL_ 3 HT_ HW_ hHeld ?_; refine last_ (i := 4) (N := some 81) (bz_ 10 223) rfl rfl (one_of HT_.out (by kernel_rfl)) (by decide) (fun K hK => ?_); refine value_ (w1 := ?_) (v := ?_) (by rfl) rfl ?_ ?_; rotate_left 2
                 ·go_simp
                  constructor
                  ·rfl
                  ·rfl
                 refine hK.out _ _ ?_; clear hK K; refine norm_ (a' := ?_) ?_ ?_; rotate_left
                 ·show Act.put _ (some 81) _ = _
                  simp only [Act.put, sa_, sb_, sc_, i64_w, i32_w]; rfl
                 refine last_ (i := 5) (N := some 82) (bz_ 10 255) rfl rfl (one_of HT_.out (by kernel_rfl)) (by decide) (fun K hK => ?_); refine Kd.R_append_step k58 (w0 := w) w.heap.size (by rfl) (.tmp 77) (.tmp 81) 33 58 (.agg #[(.int .i64 0), (.int .i64 0), (.string ⟨#[]⟩)]) 32 rfl Try.underlying33 info58 rfl (by decide) (by omega) u5 aQ (⟨(rd_T58 aA 0).f0, (rd_T58 aA 0).f1, (rd_T58 aA 0).f2⟩ : S58) [.int .i64 ((rd_T58 aA 0).f0), .int .i64 ((rd_T58 aA 0).f1), .string ((rd_T58 aA 0).f2)] (fun k_ => (w.heap.size ≤ k_)) (fun _ => False) rfl rfl ?aP (fun _ hk => hk.elim) ?aF ?aO ?aB ?aS ?aL ?_; (case aP => exact k58_mkM _ _ _ (⟨(rd_T58 aA 0).f0, (rd_T58 aA 0).f1, (rd_T58 aA 0).f2⟩ : S58)); (case aB => exact (hB_ HB)); (case aF => exact (fun k_ hk => (Nat.le_trans (qa_ (hB_ HB)) hk))); (case aO => exact (vX_ aG)); (case aS => exact (qa_ (hB_ HB))); (case aL => have := gM.out; omega); intro v128 w55 ho hb hg hat; rw [← gI.out] at ho; replace aE := Zq_.mk (Kd.qx_ (ok := (fun k_ => ((P0_ k_ ∨ P1_ k_) ∨ w.heap.size ≤ k_))) (by (with_reducible repeat (first | apply Kd.V_alloc | apply Kd.V_drewN | apply Kd.V_drew)); first | exact aE.out | exact Kd.V_mono aE.out (fun _ hk => ⟨⟨hk.1, hk.2.2⟩, hk.2.1⟩)) hg hat); replace aD := Zq_.mk (Kd.qx_ (ok := (fun k_ => ((P0_ k_ ∨ P1_ k_) ∨ w.heap.size ≤ k_))) (by (with_reducible repeat (first | apply Kd.V_alloc | apply Kd.V_drewN | apply Kd.V_drew)); first | exact aD.out | exact Kd.V_mono aD.out (fun _ hk => ⟨⟨hk.1, hk.2.2⟩, hk.2.1⟩)) hg hat); replace cI := Zq_.mk (Kd.qx_ (ok := (fun k_ => ((P0_ k_ ∨ P1_ k_) ∨ w.heap.size ≤ k_))) (vX_ cI) hg hat); replace HB := Zq_.mk (hb); have gQ := Zq_.mk (ho); clear aG; clear ho hb hg hat; refine hK.out _ _ ?_; clear hK K; refine norm_ (a' := ?_) ?_ ?_; rotate_left
                 ·show Act.put _ (some 82) _ = _
                  simp only [Act.put, sa_, sb_, sc_, i64_w, i32_w]; rfl
                 refine pQ_ 8 HT_ ?_; refine pQ_ 9 HT_ ?_; refine dN_ HT_ ?_; (try go_wp2)
                 go_roundg kj13
                 case measure => have := HK1.out; have := HJ7.out; have := bZ.out; omega
                 case rel => exact ⟨(aC), (bV), (eM), H', ⟨by have := HK1.out; have := HJ7.out; have := bZ.out; omega⟩, ⟨by refine vM_ ?_; exact aE.out⟩, ⟨by refine vM_ ?_; exact cI.out⟩, ⟨by (with_reducible repeat (first | apply Kd.qj_ | apply Kd.qi_ | apply Kd.R_drew)); exact gQ.out⟩, ⟨hB_ HB⟩⟩
                ·rw [if_neg c49] at H; exact absurd H (by simp)
               ·rw [if_neg c48] at H; exact absurd H (by simp)
              ·rw [if_neg c47] at H; have fW : decide (((rd_T58 aA 0).f0) < ((rd_T58 aC 0).f0)) = false := decide_eq_false c47; clear c47; replace H := ob_ H; obtain ⟨⟨cN, cM, cL⟩, gU, H⟩ := H; (try dsimp only at H); have A56 := Zq_.mk gU; clear gU
               by_cases c57 : aQ.length < 4398046511104
               ·rw [if_pos c57] at H; have gL := Zq_.mk c57; clear c57; obtain ⟨dN, cV⟩ : ∃ y_ : List (S58), y_ = (aQ ++ [(⟨cN, cM, cL⟩ : S58)]) := ⟨_, rfl⟩
                replace H : (if 1 ≤ (aC.length : Int) then (if 1 ≤ (aA.length : Int) then (entry_Join.l0 kj13 (aC.drop 1) (aA.drop 1) dN) else (none)) else (none)) = some r := hY_ cV H
                have gH := Zq_.mk cV; clear cV
                by_cases c58 : 1 ≤ (aC.length : Int)
                ·rw [if_pos c58] at H; have c58b0 := eq_true c58; have c58b1 : decide (1 ≤ (aC.length : Int)) = true := decide_eq_true c58; clear c58; obtain ⟨bP, cU⟩ : ∃ y_ : List (S58), y_ = (aC.drop 1) := ⟨_, rfl⟩
                 replace H : (if 1 ≤ (aA.length : Int) then (entry_Join.l0 kj13 bP (aA.drop 1) dN) else (none)) = some r := hY_ cU H
                 have eH := Zq_.mk cU; clear cU
                 by_cases c59 : 1 ≤ (aA.length : Int)
                 ·rw [if_pos c59] at H; have c59b0 := eq_true c59; have c59b1 : decide (1 ≤ (aA.length : Int)) = true := decide_eq_true c59; clear c59; obtain ⟨bU, cT⟩ : ∃ y_ : List (S58), y_ = (aA.drop 1) := ⟨_, rfl⟩
                  replace H : (entry_Join.l0 kj13 bP bU dN) = some r := hY_ cT H
                  have eG := Zq_.mk cT; clear cT; have H' := Zq_.mk H; clear H; (try go_wp2); replace aE := Zq_.mk (Kd.V_drew aE.out); replace aD := Zq_.mk (Kd.V_drew aD.out); replace aG := Zq_.mk (Kd.R_drew aG.out); replace HB := Zq_.mk (qe_ HB.out); obtain ⟨Ao61, dJ, fL⟩ := Kd.V_slice aE.out; (first | subst fL | (injection fL with f1_ f2_ f3_; have f4_ := f1_.symm; have f5_ := f3_.symm; clear f1_ f2_ f3_; subst f4_; subst f5_)); obtain ⟨Ao62, dI, fK⟩ := Kd.V_slice aD.out; (first | subst fK | (injection fK with f1_ f2_ f3_; have f4_ := f1_.symm; have f5_ := f3_.symm; clear f1_ f2_ f3_; subst f4_; subst f5_)); have cD : 0 ≤ (0 : Int) := (by omega); have cB : 0 < (aA.length : Int) := dA_; obtain ⟨aR, fA, aN, aM, aK⟩ := at_T58 (Kd.V_reads' aD.out).2.2 0 cD cB; cases fA; have fJ : (0 < aA.length) = True := eq_true (by omega); (try rw [show ((0 : Int)).toNat = 0 from rfl] at aN); (try rw [show 0 * 3 = 0 from rfl] at aN); (try rw [Addr.add_zero'] at aN); (try rw [show ((0 : Int)).toNat = 0 from rfl] at aM); (try rw [show 0 * 3 = 0 from rfl] at aM); (try rw [Addr.add_zero'] at aM); (try rw [show ((0 : Int)).toNat = 0 from rfl] at aK); (try rw [show 0 * 3 = 0 from rfl] at aK); (try rw [Addr.add_zero'] at aK); replace cD := eq_true cD; replace cB := eq_true cB; have cC : 0 ≤ (0 : Int) := (by omega); have cA : 0 < (aC.length : Int) := dA_; obtain ⟨bR, eZ, aJ, aI, aH⟩ := at_T58 (Kd.V_reads' aE.out).2.2 0 cC cA; cases eZ; have fI : (0 < aC.length) = True := eq_true (by omega); (try rw [show ((0 : Int)).toNat = 0 from rfl] at aJ); (try rw [show 0 * 3 = 0 from rfl] at aJ); (try rw [Addr.add_zero'] at aJ); (try rw [show ((0 : Int)).toNat = 0 from rfl] at aI); (try rw [show 0 * 3 = 0 from rfl] at aI); (try rw [Addr.add_zero'] at aI); (try rw [show ((0 : Int)).toNat = 0 from rfl] at aH); (try rw [show 0 * 3 = 0 from rfl] at aH); (try rw [Addr.add_zero'] at aH); replace cC := eq_true cC; replace cA := eq_true cA; refine gS_ 15 (hA_ aN (hA_ aM (hA_ aK (hA_ aJ (hA_ aI (hZ_ aH)))))) (fun hHeld => ?_); refine qm_ entry_Join.tab6 entry_Join.bits6 (fun HT_ HW_ => ?_); generalize wc.drew = w60 at aE aD aG HB aN aM aK aJ aI aH hHeld ⊢; refine up0_ 0 ?_; (iterate 7 refine pN_ ?_); refine pQ_ 8 HT_ ?_; refine pQ_ 9 HT_ ?_; refine pQ_ 10 HT_ ?_; refine tL_ 7 HT_ HW_ hHeld ?_; refine up0_ 11 ?_; (iterate 4 first | refine pN_ ?_ | refine tN_ ?_); refine dN_ HT_ ?_; (try go_wp2); replace aE := Zq_.mk (Kd.V_drew aE.out); replace aD := Zq_.mk (Kd.V_drew aD.out); replace aG := Zq_.mk (Kd.R_drew aG.out); replace HB := Zq_.mk (qe_ HB.out); have eV : 0 ≤ (0 : Int) := (by omega); have eQ : 0 < (aC.length : Int) := dA_; obtain ⟨gF, e135, bE, bD, bC⟩ := at_T58 (Kd.V_reads' aE.out).2.2 0 eV eQ; obtain rfl : bR = gF := (by injection e135); have qi135 : (0 < aC.length) = True := eq_true (by omega); (try rw [show ((0 : Int)).toNat = 0 from rfl] at bE); (try rw [show 0 * 3 = 0 from rfl] at bE); (try rw [Addr.add_zero'] at bE); (try rw [show ((0 : Int)).toNat = 0 from rfl] at bD); (try rw [show 0 * 3 = 0 from rfl] at bD); (try rw [Addr.add_zero'] at bD); (try rw [show ((0 : Int)).toNat = 0 from rfl] at bC); (try rw [show 0 * 3 = 0 from rfl] at bC); (try rw [Addr.add_zero'] at bC); replace eV := eq_true eV; replace eQ := eq_true eQ; have eU : 0 ≤ (0 : Int) := (by omega); have eP : 0 < (aA.length : Int) := dA_; obtain ⟨gE, e136, bB, bA, aZ⟩ := at_T58 (Kd.V_reads' aD.out).2.2 0 eU eP; obtain rfl : aR = gE := (by injection e136); have qi136 : (0 < aA.length) = True := eq_true (by omega); (try rw [show ((0 : Int)).toNat = 0 from rfl] at bB); (try rw [show 0 * 3 = 0 from rfl] at bB); (try rw [Addr.add_zero'] at bB); (try rw [show ((0 : Int)).toNat = 0 from rfl] at bA); (try rw [show 0 * 3 = 0 from rfl] at bA); (try rw [Addr.add_zero'] at bA); (try rw [show ((0 : Int)).toNat = 0 from rfl] at aZ); (try rw [show 0 * 3 = 0 from rfl] at aZ); (try rw [Addr.add_zero'] at aZ); replace eU := eq_true eU; replace eP := eq_true eP; have q64 : (1 : Int) ≤ ((aC.length : Int) : Int) := dA_; obtain ⟨i064, dZ, _, hsz64, _⟩ := info_parts info58; have hroom64 : aC.length ≤ dJ := (Kd.V_reads' aE.out).2.1; have hC64 : Kd.F k58 _ _ (some bR) aC.length aC := (Kd.V_at (base := w.heap.size) aE.out).2.2; have hcut64 := cut_from (P := Try.prog) 33 58 .i64 Try.underlying33 dZ 3 hsz64 (some bR) aC.length dJ 1 (by omega) q64; have dE := Kd.F_cut (m := (1 : Int).toNat) (c := dJ) hC64 (by omega) hroom64; obtain ⟨A64, hA64⟩ : ∃ A1, A1 = (if dJ = (1 : Int).toNat then (some bR) else ((some bR) : Option Addr).map (·.add ((1 : Int).toNat * 3))) := ⟨_, rfl⟩; obtain ⟨c64, dU⟩ : ∃ c1, c1 = dJ - (1 : Int).toNat := ⟨_, rfl⟩; have cP : bP.length = aC.length - (1 : Int).toNat := (by rw [eH.out, List.length_drop] <;> omega); rw [show (aC).drop (1 : Int).toNat = bP from eH.out.symm] at dE; replace dE : Kd.F k58 _ _ A64 bP.length bP := (by rw [hA64]; exact dE); rw [← cP, ← hA64, ← dU] at hcut64; have bT := Zq_.mk (show Kd.V k58 58 _ w.heap.size _ (.slice A64 bP.length c64) bP from Kd.V_mk (by rw [cP, dU]; exact Nat.sub_le_sub_right hroom64 _) dE); have HC147 := Zq_.mk (show bP.length ≤ c64 from by rw [cP, dU]; exact Nat.sub_le_sub_right hroom64 _); clear dE hC64 hroom64 dZ hsz64 dU; have KY64 := Zq_.mk cP; have KA64 := Zq_.mk hA64; clear cP hA64; replace q64 := eq_true q64; have q65 : (1 : Int) ≤ ((aA.length : Int) : Int) := dA_; obtain ⟨i065, dY, _, hsz65, _⟩ := info_parts info58; have hroom65 : aA.length ≤ dI := (Kd.V_reads' aD.out).2.1; have hC65 : Kd.F k58 _ _ (some aR) aA.length aA := (Kd.V_at (base := w.heap.size) aD.out).2.2; have hcut65 := cut_from (P := Try.prog) 33 58 .i64 Try.underlying33 dY 3 hsz65 (some aR) aA.length dI 1 (by omega) q65; have dD := Kd.F_cut (m := (1 : Int).toNat) (c := dI) hC65 (by omega) hroom65; obtain ⟨A65, hA65⟩ : ∃ A1, A1 = (if dI = (1 : Int).toNat then (some aR) else ((some aR) : Option Addr).map (·.add ((1 : Int).toNat * 3))) := ⟨_, rfl⟩; obtain ⟨c65, dT⟩ : ∃ c1, c1 = dI - (1 : Int).toNat := ⟨_, rfl⟩; have cO : bU.length = aA.length - (1 : Int).toNat := (by rw [eG.out, List.length_drop] <;> omega); rw [show (aA).drop (1 : Int).toNat = bU from eG.out.symm] at dD; replace dD : Kd.F k58 _ _ A65 bU.length bU := (by rw [hA65]; exact dD); rw [← cO, ← hA65, ← dT] at hcut65; have bS := Zq_.mk (show Kd.V k58 58 _ w.heap.size _ (.slice A65 bU.length c65) bU from Kd.V_mk (by rw [cO, dT]; exact Nat.sub_le_sub_right hroom65 _) dD); have HC152 := Zq_.mk (show bU.length ≤ c65 from by rw [cO, dT]; exact Nat.sub_le_sub_right hroom65 _); clear dD hC65 hroom65 dY hsz65 dT; have KY65 := Zq_.mk cO; have KA65 := Zq_.mk hA65; clear cO hA65; replace q65 := eq_true q65; refine gD_ 17 [8, 9] (hA_ bE (hA_ bD (hA_ bC (hA_ bB (hA_ bA (hZ_ aZ)))))) (fun hHeld => ?_); refine qm_ entry_Join.tab3 entry_Join.bits3 (fun HT_ HW_ => ?_); generalize w60.drew = w63 at aE aD aG HB bT bS bE bD bC bB bA aZ hHeld ⊢; refine pQ_ 0 HT_ ?_; refine pQ_ 1 HT_ ?_; refine pQ_ 2 HT_ ?_; refine pQ_ 4 HT_ ?_; refine pQ_ 5 HT_ ?_; refine pQ_ 10 HT_ ?_; refine pQ_ 11 HT_ ?_; refine pQ_ 12 HT_ ?_; refine pQ_ 13 HT_ ?_; refine tL_ 3 HT_ HW_ hHeld ?_; refine tL_ 6 HT_ HW_ hHeld ?_; refine oN_ 7 27 17 15615 HT_ (fun K hK => ?_); refine goes_ Try.func85 (by kernel_rfl) rfl #[.agg #[.int .i64 ((rd_T58 aC 0).f0), .int .i64 ((rd_T58 aC 0).f1), .string ((rd_T58 aC 0).f2)], .agg #[.int .i64 ((rd_T58 aA 0).f0), .int .i64 ((rd_T58 aA 0).f1), .string ((rd_T58 aA 0).f2)]] (by rfl) rfl rfl aR_ ?_
                  with_reducible refine (entry_higher.calls ((rd_T58 aC 0).f0) ((rd_T58 aC 0).f1) ((rd_T58 aC 0).f2) ((rd_T58 aA 0).f0) ((rd_T58 aA 0).f1) ((rd_T58 aA 0).f2) cN cM cL _ A56.out).mono ?_
                  rintro e w66 ⟨rfl, hb⟩; have HS0_ := (hb.cell (wb_ _ _ (hHeld.1))).trans (hHeld.1); have HS1_ := (hb.cell (wb_ _ _ (hHeld.2.1))).trans (hHeld.2.1); have HS2_ := (hb.cell (wb_ _ _ (hHeld.2.2.1))).trans (hHeld.2.2.1); have HS3_ := (hb.cell (wb_ _ _ (hHeld.2.2.2.1))).trans (hHeld.2.2.2.1); have HS4_ := (hb.cell (wb_ _ _ (hHeld.2.2.2.2.1))).trans (hHeld.2.2.2.2.1); have HS5_ := (hb.cell (wb_ _ _ (hHeld.2.2.2.2.2))).trans (hHeld.2.2.2.2.2); refine ⟨_, rfl, ?_⟩; replace aE := vV_ Kd.vc_ aE hb; replace aD := vV_ Kd.vc_ aD hb; replace aG := vV_ Kd.qk_ aG hb; replace bT := vV_ Kd.vc_ bT hb; replace bS := vV_ Kd.vc_ bS hb; replace HB := sB_ HB hb; (try clear hb); refine hK.out _ _ ⟨HS0_, HS1_, HS2_, HS3_, HS4_, HS5_⟩ (fun hHeld => ?_); clear hK K; refine norm_ (a' := ?_) ?_ ?_; rotate_left
                  ·show Act.put _ (some 27) _ = _
                   simp only [Act.put, sa_, sb_, sc_, i64_w, i32_w]; rfl
                  refine last_ (i := 8) (N := some 28) (bz_ 17 15871) rfl rfl (one_of HT_.out (by kernel_rfl)) (by decide) (fun K hK => ?_); refine value_ (w1 := ?_) (v := ?_) (by rfl) rfl ?_ ?_; rotate_left 2
                  ·go_simp
                   constructor
                   ·rfl
                   ·rfl
                  refine hK.out _ _ ?_; clear hK K; refine norm_ (a' := ?_) ?_ ?_; rotate_left
                  ·show Act.put _ (some 28) _ = _
                   simp only [Act.put, sa_, sb_, sc_, i64_w, i32_w]; rfl
                  refine last_ (i := 9) (N := some 29) (bz_ 17 16383) rfl rfl (one_of HT_.out (by kernel_rfl)) (by decide) (fun K hK => ?_); refine Kd.R_append_step k58 (w0 := w) w.heap.size (by rfl) (.tmp 20) (.tmp 28) 33 58 (.agg #[(.int .i64 0), (.int .i64 0), (.string ⟨#[]⟩)]) 32 rfl Try.underlying33 info58 rfl (by decide) (by omega) u5 aQ (⟨cN, cM, cL⟩ : S58) [.int .i64 cN, .int .i64 cM, .string cL] (fun k_ => (w.heap.size ≤ k_)) (fun _ => False) rfl rfl ?aP (fun _ hk => hk.elim) ?aF ?aO ?aB ?aS ?aL ?_; (case aP => exact k58_mkM _ _ _ (⟨cN, cM, cL⟩ : S58)); (case aB => exact (hB_ HB)); (case aF => exact (fun k_ hk => (Nat.le_trans (qa_ (hB_ HB)) hk))); (case aO => exact (vX_ aG)); (case aS => exact (qa_ (hB_ HB))); (case aL => have := gL.out; omega); intro v141 w67 ho hb hg hat; rw [← gH.out] at ho; replace aE := Zq_.mk (Kd.qx_ (ok := (fun k_ => ((P0_ k_ ∨ P1_ k_) ∨ w.heap.size ≤ k_))) (by (with_reducible repeat (first | apply Kd.V_alloc | apply Kd.V_drewN | apply Kd.V_drew)); first | exact aE.out | exact Kd.V_mono aE.out (fun _ hk => ⟨⟨hk.1, hk.2.2⟩, hk.2.1⟩)) hg hat); replace aD := Zq_.mk (Kd.qx_ (ok := (fun k_ => ((P0_ k_ ∨ P1_ k_) ∨ w.heap.size ≤ k_))) (by (with_reducible repeat (first | apply Kd.V_alloc | apply Kd.V_drewN | apply Kd.V_drew)); first | exact aD.out | exact Kd.V_mono aD.out (fun _ hk => ⟨⟨hk.1, hk.2.2⟩, hk.2.1⟩)) hg hat); replace bT := Zq_.mk (Kd.qx_ (ok := (fun k_ => ((P0_ k_ ∨ P1_ k_) ∨ w.heap.size ≤ k_))) (vX_ bT) hg hat); replace bS := Zq_.mk (Kd.qx_ (ok := (fun k_ => ((P0_ k_ ∨ P1_ k_) ∨ w.heap.size ≤ k_))) (vX_ bS) hg hat); replace HB := Zq_.mk (hb); have gP := Zq_.mk (ho); clear aG; clear ho hb hg hat; refine hK.out _ _ ?_; clear hK K; refine norm_ (a' := ?_) ?_ ?_; rotate_left
                  ·show Act.put _ (some 29) _ = _
                   simp only [Act.put, sa_, sb_, sc_, i64_w, i32_w]; rfl
                  refine pQ_ 14 HT_ ?_; refine pQ_ 15 HT_ ?_; refine pQ_ 16 HT_ ?_; refine dN_ HT_ ?_; (try go_wp2)
                  go_roundg kj13
                  case measure => have := HK1.out; have := HJ7.out; have := bZ.out; omega
                  case rel => exact ⟨(bP), (bU), (dN), H', ⟨by have := HK1.out; have := HJ7.out; have := bZ.out; omega⟩, ⟨by refine vM_ ?_; exact bT.out⟩, ⟨by refine vM_ ?_; exact bS.out⟩, ⟨by (with_reducible repeat (first | apply Kd.qj_ | apply Kd.qi_ | apply Kd.R_drew)); exact gP.out⟩, ⟨hB_ HB⟩⟩
                 ·rw [if_neg c59] at H; exact absurd H (by simp)
                ·rw [if_neg c58] at H; exact absurd H (by simp)
               ·rw [if_neg c57] at H; exact absurd H (by simp)
             ·rw [if_neg c46] at H; exact absurd H (by simp)
            ·rw [if_neg c45] at H; exact absurd H (by simp)
       ·replace c13 := Bool.eq_false_iff.mpr c13; subst c13
        have H1 : (some aQ) = some r := by rw [if_neg (show ¬ (false = true) by decide)] at H; exact H
        clear H; have H := H1; clear H1; obtain rfl := Option.some.inj H
        go_wp2
        go_ret
        exact ⟨_, by first | rfl | (simp [errW_none, errW_some] <;> rfl) | (simp only [← dS]; first | rfl | (simp [errW_none, errW_some] <;> rfl)) | (simp [*, errW_none, errW_some] <;> rfl), by (with_reducible repeat (first | apply Kd.qj_ | apply Kd.qi_ | apply Kd.R_drew)); exact aG.out, hB_ HB⟩
  ·rw [if_neg c5] at H; exact absurd H (by simp)
 ·rw [if_neg c4] at H; exact absurd H (by simp)
end Go.Proofs.Ytgipbmjkgciccaa.P

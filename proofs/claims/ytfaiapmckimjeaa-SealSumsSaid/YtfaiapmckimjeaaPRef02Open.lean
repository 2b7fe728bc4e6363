/- What this function of the program comes to, and that the machine's call does it: written by a program (wip/tool). No condition. -/
import Derived.Test.YtfaiapmckimjeaaP0
import Derived.Test.YtfaiapmckimjeaaPRef02Seal
import Derived.Test.YtfaiapmckimjeaaHw
namespace Go.Proofs.Ytfaiapmckimjeaa.P
open Go.RowKit Go.Proofs.YtfaiapmckimjeaaW.PrintWords Go.Proofs.YtfaiapmckimjeaaW.PrintLast Go.Proofs.YtfaiapmckimjeaaW.PrintMore
attribute [local go_sem] max2_int min2_int max_two min_two max_three min_three max_four min_four Go.Proofs.YtfaiapmckimjeaaW.Hw.string_gtr   -- for this text's walks alone
set_option linter.unusedVariables false
set_option linter.unusedSimpArgs false
/-! ### ref02_Open: function 9 -/
def ref02_Open.f (k : Nat) (l0 : List Int) : Option (List Int × Int) := if (l0.length : Int) < 4 then some (([] : List Int), 2) else (ref02_Seal.f k (l0.take (l0.length - 4))).bind fun t => if (strOfNums t).toList = (strOfNums l0).toList then some (l0.take (l0.length - 4), 0) else some (([] : List Int), 5)
theorem ref02_Open.mono : ∀ a0 k, LeO (ref02_Open.f k a0) (ref02_Open.f (k + 1) a0) := by
 intro a0 k
 unfold ref02_Open.f
 exact LeO.ite (LeO.refl _) (LeO.bind (ref02_Seal.mono _ _) (fun _ => LeO.refl _))
def ref02_Open.T4 : Bool × List (List Nat × List Nat) := (true, [([], []), ([], []), ([0, 1], [0, 1]), ([2], [2]), ([3], [3]), ([], []), ([5], [5]), ([4, 6], [4, 6])])
def ref02_Open.B4 : List Nat := [0, 0, 3, 7, 15, 0, 32, 127]
theorem ref02_Open.tab4 : rtab .any (opsOf Try.f9 4) = ref02_Open.T4 := by kernel_rfl
theorem ref02_Open.bits4 : waitsOk ref02_Open.T4.2 ref02_Open.B4 = true := by kernel_rfl
open Go.Proofs.YtfaiapmckimjeaaW.Hw in
set_option maxHeartbeats 8000000 in
set_option maxRecDepth 100000 in
theorem ref02_Open.calls (k : Nat) (P0_ : Nat → Prop) (A0 : Option Addr) (c0 : Nat) (l0 : List Int) (r1 : List Int) (r2 : Int) (w : World) (hs0 : Kd.V (Kd.int .u8) 5 w w.heap.size (fun k_ => P0_ k_) (.slice A0 l0.length c0) l0) (h : ref02_Open.f k l0 = some (r1, r2)) :
  Calls Try.prog 9 #[.slice A0 l0.length c0] w fun e w' => ∃ v0_ : Value, e = .returned (.tuple #[v0_, .int .i64 r2]) ∧ Kd.V (Kd.int .u8) 5 w' w.heap.size (fun k_ => (P0_ k_ ∨ w.heap.size ≤ k_)) v0_ r1 ∧ Below w.heap.size w w' := by
 unfold ref02_Open.f at h
 have HO0 := Aside0.mk (show Kd.V (Kd.int .u8) 5 w w.heap.size (fun k_ => (P0_ k_ ∨ w.heap.size ≤ k_)) (.slice A0 l0.length c0) l0 from Kd.V_mono hs0 (fun k_ hk => .inl hk))
 have HB := Aside0.mk (Below.refl w.heap.size w)
 have hroom : l0.length ≤ c0 := (Kd.V_reads' hs0).2.1
 have hC := (Kd.V_reads' hs0).2.2
 have hlm := hC.2.1
 clear hs0
 by_cases c2 : (l0.length : Int) < 4
 ·rw [if_pos c2] at h
  have c2b0 : decide ((l0.length : Int) < 4) = true := decide_eq_true c2
  have c2b1 : decide (l0.length < 4) = true := decide_eq_true (by omega)
  simp only [Option.some.injEq, Prod.mk.injEq] at h
  obtain ⟨rfl, rfl⟩ := h
  clear c2 hroom hC hlm
  go_enter Try.func9, Try.ntmps9
  go_wp2
  go_ret2
  exact ⟨_, rfl, Kd.V_nil _ _ _ _ _, HB.out⟩
 ·rw [if_neg c2] at h
  have c2b0 : decide ((l0.length : Int) < 4) = false := decide_eq_false c2
  have c2b1 : decide (l0.length < 4) = false := decide_eq_false (by omega)
  obtain ⟨t, h1, h⟩ := Option.bind_eq_some_iff.1 h
  obtain ⟨y, hy⟩ : ∃ y, l0.take (l0.length - 4) = y := ⟨_, rfl⟩
  rw [hy] at h h1
  have hyl : y.length = l0.length - 4 := by rw [← hy, List.length_take]; omega
  have hyz : l0.take y.length = y := by rw [hyl]; exact hy
  have hw1 : wrap64 ((l0.length : Int) - 4) = (y.length : Int) := by unfold wrap64; omega
  have hw2 : IntKind.i64.wrap ((l0.length : Int) - 4) = (y.length : Int) := by rw [IntKind.wrap_i64]; omega
  obtain ⟨ie, hie, _, hsz, _⟩ := info_parts info5
  have hcut := cut_to (P := Try.prog) 22 5 .i64 Try.underlying22 hie A0 l0.length c0 (y.length : Int) (by omega) (by omega) hroom
  simp only [Int.toNat_natCast] at hcut
  have hyc : y.length ≤ c0 := by omega
  have HYC := Aside0.mk hyc
  have HYL := Aside0.mk (show y.length ≤ l0.length by omega)
  have HYZ := Aside0.mk hyz
  have A1 := Aside0.mk h1
  have hcv : ∀ W : World, Below w.heap.size w W → (convert 22 9 (.slice A0 l0.length c0)).run Try.prog W = .ok (.string (strOfNums l0)) W := fun W hb => Kd.C_string (P := Try.prog) (A := A0) (c := c0) Try.underlying22 Try.underlying5 Try.underlying9 (Kd.C_below hC hb)
  have HCV := Aside0.mk hcv
  have hcvd := hcv w.drew (qc_ HB.out)
  have HCD := Aside0.mk (Kd.C_drew hC)
  have HOD := Aside0.mk (Kd.V_drew HO0.out)
  have HF : Aside0 (Kd.C (Kd.int .u8) w.drew A0 y.length y) := ⟨by have h5 := Kd.C_take (m := y.length) (Kd.C_drew hC) HYL.out; rw [hyz] at h5; exact h5⟩
  have hyn := eq_true (show (0 : Int) ≤ (y.length : Int) by omega)
  clear c2 hroom hC hlm hyl hyz hie hsz hyc h1 hcv hy
  by_cases c7 : (strOfNums t).toList = (strOfNums l0).toList
  ·rw [if_pos c7] at h
   have c7b0 : ((strOfNums t).toList == (strOfNums l0).toList) = true := beq_iff_eq.mpr c7
   have c7b1 : ((strOfNums t).toList != (strOfNums l0).toList) = false := bne_eq_false_iff_eq.mpr c7
   simp only [Option.some.injEq, Prod.mk.injEq] at h
   obtain ⟨rfl, rfl⟩ := h
   clear c7
   go_enter Try.func9, Try.ntmps9
   go_wp2_with fail
   refine start_ (n := 8) (S := (fun W => (convert 22 9 (.slice A0 l0.length c0)).run Try.prog W = .ok (.string (strOfNums l0)) W)) (ds := []) #[false,false,false,false,false,false,false,false] (by kernel_rfl) rfl rfl hcvd (fun hHeld => ?_); refine with_tabW ref02_Open.tab4 ref02_Open.bits4 (fun HT_ HW_ => ?_)
   refine pure_ (i := 0) (N := some 11) (v := ?_) (a' := ?_) #[true,false,false,false,false,false,false,false] rfl rfl (any_of HT_.out (by kernel_rfl)) (fun _ _ _ h => h) (Or.inl ⟨by rfl, ?_⟩) ?_ ?_
   rotate_left
   ·intro w'
    go_simp
    with_reducible rfl
   rotate_left
   ·simp only [Act.put, sa_, sb_, sc_, i64_w, i32_w]
    rfl
   refine pure_ (i := 1) (N := some 12) (v := ?_) (a' := ?_) #[true,true,false,false,false,false,false,false] rfl rfl (any_of HT_.out (by kernel_rfl)) (fun _ _ _ h => h) (Or.inl ⟨by rfl, ?_⟩) ?_ ?_
   rotate_left
   ·intro w'
    go_simp
    with_reducible rfl
   rotate_left
   ·simp only [Act.put, sa_, sb_, sc_, i64_w, i32_w]
    rfl
   refine pure_ (i := 2) (N := some 13) (v := ?_) (a' := ?_) #[true,true,true,false,false,false,false,false] rfl rfl (any_of HT_.out (by kernel_rfl)) (fun _ _ _ h => h) (Or.inl ⟨by rfl, ?_⟩) ?_ ?_
   rotate_left
   ·intro w'
    go_simp
    with_reducible rfl
   rotate_left
   ·simp only [Act.put, sa_, sb_, sc_, i64_w, i32_w]
    rfl
   refine pure_ (i := 5) (N := some 16) (v := ?_) (a' := ?_) #[true,true,true,false,false,true,false,false] rfl rfl (any_of HT_.out (by kernel_rfl)) (fun _ _ _ h => h) (Or.inl ⟨by rfl, ?_⟩) ?_ ?_
   rotate_left
   ·intro w'
    go_simp
    with_reducible rfl
   rotate_left
   ·simp only [Act.put, sa_, sb_, sc_, i64_w, i32_w]
    rfl
   refine take_ (i := 6) (N := some 17) (v := ?_) (a' := ?_) #[true,true,true,false,false,true,true,false] rfl rfl (take_of HT_.out (by kernel_rfl)) (fun _ _ _ h => h) (Or.inl ⟨by rfl, ?_⟩) hcvd ?_ ?_
   rotate_left
   ·intro w' hSw
    try dsimp only at hSw
    go_simp
    try with_reducible rfl
   rotate_left
   ·simp only [Act.put, sa_, sb_, sc_, i64_w, i32_w]
    rfl
   refine one_ (i := 3) (N := some 14) #[true,true,true,true,false,true,true,false] rfl rfl (one_of HT_.out (by kernel_rfl)) (by decide) (fun K hK => ?_)
   refine goes_ Try.func14 (by kernel_rfl) rfl #[.slice A0 y.length c0] (by rfl) rfl rfl (by (try simp only [List.map_toArray, List.map_cons, List.map_nil]); first | done | rfl | (simp only [List.length_drop, List.length_take]; rfl)) ?_
   with_reducible refine (ref02_Seal.calls k A0 c0 y t w.drew HF.out HYC.out A1.out).mono ?_
   rintro e w6 ⟨v6, rfl, ho_, hb_⟩
   refine ⟨_, rfl, ?_⟩
   obtain ⟨p6, c6, rfl, hl_, hc_⟩ := Kd.R_reads ho_
   have HV6 := Aside0.mk (Kd.V_elder' HOD.out (Kd.R_base ho_) hb_)
   have hcr := Kd.C_string (P := Try.prog) (A := p6) (c := c6) Try.underlying22 Try.underlying5 Try.underlying9 hc_
   have HBB := Aside0.mk (below_step (qc_ HB.out) hb_)
   refine hK.out _ _ (HCV.out _ HBB.out) (fun hHeld => ?_)
   clear hK K hl_ hc_ ho_ hb_
   refine norm_ (a' := ?_) ?_ ?_
   rotate_left
   ·show Act.put _ (some 14) _ = _
    simp only [Act.put, sa_, sb_, sc_, i64_w, i32_w]
    rfl
   refine one_ (i := 4) (N := some 15) #[true,true,true,true,true,true,true,false] rfl rfl (one_of HT_.out (by kernel_rfl)) (by decide) (fun K hK => ?_)
   refine value_ (w1 := ?_) (v := ?_) (by rfl) rfl ?_ ?_
   rotate_left 2
   ·go_simp
    constructor
    ·rfl
    ·rfl
   clear hcr
   refine hK.out _ _ (HCV.out _ HBB.out) (fun hHeld => ?_)
   clear hK K
   refine norm_ (a' := ?_) ?_ ?_
   rotate_left
   ·show Act.put _ (some 15) _ = _
    simp only [Act.put, sa_, sb_, sc_, i64_w, i32_w]
    rfl
   refine pure_ (i := 7) (N := some 18) (v := ?_) (a' := ?_) #[true,true,true,true,true,true,true,true] rfl rfl (any_of HT_.out (by kernel_rfl)) (fun _ _ _ h => h) (Or.inl ⟨by rfl, ?_⟩) ?_ ?_
   rotate_left
   ·intro w'
    go_simp
    with_reducible rfl
   rotate_left
   ·simp only [Act.put, sa_, sb_, sc_, i64_w, i32_w]
    rfl
   refine done_ (done_of HT_.out (by kernel_rfl)) ?_
   have HVY := Aside0.mk (show Kd.V (Kd.int .u8) 5 w6 w.heap.size (fun k_ => (P0_ k_ ∨ w.heap.size ≤ k_)) (.slice A0 y.length c0) y from by have h5 := Kd.F_take (m := y.length) (Kd.V_at (base := w.heap.size) HV6.out).2.2 HYL.out; rw [HYZ.out] at h5; exact Kd.V_mono (Kd.V_mk HYC.out h5) (fun _ hk => hk.1))
   go_wp2
   go_ret2
   exact ⟨_, rfl, HVY.out, HBB.out⟩
  ·rw [if_neg c7] at h
   have c7b0 : ((strOfNums t).toList == (strOfNums l0).toList) = false := beq_eq_false_iff_ne.mpr c7
   have c7b1 : ((strOfNums t).toList != (strOfNums l0).toList) = true := bne_iff_ne.mpr c7
   simp only [Option.some.injEq, Prod.mk.injEq] at h
   obtain ⟨rfl, rfl⟩ := h
   clear c7
   go_enter Try.func9, Try.ntmps9
   go_wp2_with fail
   refine start_ (n := 8) (S := (fun W => (convert 22 9 (.slice A0 l0.length c0)).run Try.prog W = .ok (.string (strOfNums l0)) W)) (ds := []) #[false,false,false,false,false,false,false,false] (by kernel_rfl) rfl rfl hcvd (fun hHeld => ?_); refine with_tabW ref02_Open.tab4 ref02_Open.bits4 (fun HT_ HW_ => ?_)
   refine pure_ (i := 0) (N := some 11) (v := ?_) (a' := ?_) #[true,false,false,false,false,false,false,false] rfl rfl (any_of HT_.out (by kernel_rfl)) (fun _ _ _ h => h) (Or.inl ⟨by rfl, ?_⟩) ?_ ?_
   rotate_left
   ·intro w'
    go_simp
    with_reducible rfl
   rotate_left
   ·simp only [Act.put, sa_, sb_, sc_, i64_w, i32_w]
    rfl
   refine pure_ (i := 1) (N := some 12) (v := ?_) (a' := ?_) #[true,true,false,false,false,false,false,false] rfl rfl (any_of HT_.out (by kernel_rfl)) (fun _ _ _ h => h) (Or.inl ⟨by rfl, ?_⟩) ?_ ?_
   rotate_left
   ·intro w'
    go_simp
    with_reducible rfl
   rotate_left
   ·simp only [Act.put, sa_, sb_, sc_, i64_w, i32_w]
    rfl
   refine pure_ (i := 2) (N := some 13) (v := ?_) (a' := ?_) #[true,true,true,false,false,false,false,false] rfl rfl (any_of HT_.out (by kernel_rfl)) (fun _ _ _ h => h) (Or.inl ⟨by rfl, ?_⟩) ?_ ?_
   rotate_left
   ·intro w'
    go_simp
    with_reducible rfl
   rotate_left
   ·simp only [Act.put, sa_, sb_, sc_, i64_w, i32_w]
    rfl
   refine pure_ (i := 5) (N := some 16) (v := ?_) (a' := ?_) #[true,true,true,false,false,true,false,false] rfl rfl (any_of HT_.out (by kernel_rfl)) (fun _ _ _ h => h) (Or.inl ⟨by rfl, ?_⟩) ?_ ?_
   rotate_left
   ·intro w'
    go_simp
    with_reducible rfl
   rotate_left
   ·simp only [Act.put, sa_, sb_, sc_, i64_w, i32_w]
    rfl
   refine take_ (i := 6) (N := some 17) (v := ?_) (a' := ?_) #[true,true,true,false,false,true,true,false] rfl rfl (take_of HT_.out (by kernel_rfl)) (fun _ _ _ h => h) (Or.inl ⟨by rfl, ?_⟩) hcvd ?_ ?_
   rotate_left
   ·intro w' hSw
    try dsimp only at hSw
    go_simp
    try with_reducible rfl
   rotate_left
   ·simp only [Act.put, sa_, sb_, sc_, i64_w, i32_w]
    rfl
   refine one_ (i := 3) (N := some 14) #[true,true,true,true,false,true,true,false] rfl rfl (one_of HT_.out (by kernel_rfl)) (by decide) (fun K hK => ?_)
   refine goes_ Try.func14 (by kernel_rfl) rfl #[.slice A0 y.length c0] (by rfl) rfl rfl (by (try simp only [List.map_toArray, List.map_cons, List.map_nil]); first | done | rfl | (simp only [List.length_drop, List.length_take]; rfl)) ?_
   with_reducible refine (ref02_Seal.calls k A0 c0 y t w.drew HF.out HYC.out A1.out).mono ?_
   rintro e w6 ⟨v6, rfl, ho_, hb_⟩
   refine ⟨_, rfl, ?_⟩
   obtain ⟨p6, c6, rfl, hl_, hc_⟩ := Kd.R_reads ho_
   have HV6 := Aside0.mk (Kd.V_elder' HOD.out (Kd.R_base ho_) hb_)
   have hcr := Kd.C_string (P := Try.prog) (A := p6) (c := c6) Try.underlying22 Try.underlying5 Try.underlying9 hc_
   have HBB := Aside0.mk (below_step (qc_ HB.out) hb_)
   refine hK.out _ _ (HCV.out _ HBB.out) (fun hHeld => ?_)
   clear hK K hl_ hc_ ho_ hb_
   refine norm_ (a' := ?_) ?_ ?_
   rotate_left
   ·show Act.put _ (some 14) _ = _
    simp only [Act.put, sa_, sb_, sc_, i64_w, i32_w]
    rfl
   refine one_ (i := 4) (N := some 15) #[true,true,true,true,true,true,true,false] rfl rfl (one_of HT_.out (by kernel_rfl)) (by decide) (fun K hK => ?_)
   refine value_ (w1 := ?_) (v := ?_) (by rfl) rfl ?_ ?_
   rotate_left 2
   ·go_simp
    constructor
    ·rfl
    ·rfl
   clear hcr
   refine hK.out _ _ (HCV.out _ HBB.out) (fun hHeld => ?_)
   clear hK K
   refine norm_ (a' := ?_) ?_ ?_
   rotate_left
   ·show Act.put _ (some 15) _ = _
    simp only [Act.put, sa_, sb_, sc_, i64_w, i32_w]
    rfl
   refine pure_ (i := 7) (N := some 18) (v := ?_) (a' := ?_) #[true,true,true,true,true,true,true,true] rfl rfl (any_of HT_.out (by kernel_rfl)) (fun _ _ _ h => h) (Or.inl ⟨by rfl, ?_⟩) ?_ ?_
   rotate_left
   ·intro w'
    go_simp
    with_reducible rfl
   rotate_left
   ·simp only [Act.put, sa_, sb_, sc_, i64_w, i32_w]
    rfl
   refine done_ (done_of HT_.out (by kernel_rfl)) ?_
   go_wp2
   go_ret2
   exact ⟨_, rfl, Kd.V_nil _ _ _ _ _, HBB.out⟩
end Go.Proofs.Ytfaiapmckimjeaa.P

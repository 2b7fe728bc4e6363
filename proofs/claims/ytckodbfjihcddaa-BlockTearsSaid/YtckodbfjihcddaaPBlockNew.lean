/- What printed functions come to, and that the machine's calls do it. No condition. -/
import Derived.Test.YtckodbfjihcddaaP0
import Derived.Test.YtckodbfjihcddaaHw
import Derived.Test.YtckodbfjihcddaaSecW
namespace Go.Proofs.Ytckodbfjihcddaa.P
set_option maxHeartbeats 8000000
set_option maxRecDepth 100000
open Go.Proofs.YtckodbfjihcddaaW.Hw
open Go.RowKit Go.Proofs.YtckodbfjihcddaaW.PrintWords Go.Proofs.YtckodbfjihcddaaW.PrintLast Go.Proofs.YtckodbfjihcddaaW.PrintMore
attribute [local go_sem] max2_int min2_int max_two min_two max_three min_three max_four min_four Go.Proofs.YtckodbfjihcddaaW.Hw.string_gtr
set_option linter.unusedVariables false
set_option linter.unusedSimpArgs false
def block_New.f (a0 : Int) : Option ((List (S26)) × Int × Bool × Int) := if a0 < 1 then (some (([] : List (S26)), 0, false, 1)) else (if a0 > 64 then (some (([] : List (S26)), 0, false, 1)) else (if 0 ≤ a0 then (if (a0 : Int).toNat ≤ 4398046511104 then (some ((List.replicate (a0 : Int).toNat z26), (-1), false, 0)) else (none)) else (none)))
theorem block_New.calls (a0 : Int) (r1 : List (S26)) (r2 : Int) (r3 : Bool) (r4 : Int) (w : World) (h : block_New.f a0 = some (r1, r2, r3, r4)) :
  Calls Try.prog 17 #[.int .i64 a0] w fun e w' => ∃ v0_ : Value, e = .returned (.tuple #[.agg #[v0_, .int .i64 r2, .bool r3], .int .i64 r4]) ∧ Kd.R k26 26 w' w.heap.size (fun _ => True) v0_ r1 ∧ Below w.heap.size w w' := by
 have hu24 := Try.underlying24; have HB := Zq_.mk (Below.refl w.heap.size w); have H : (if a0 < 1 then (some (([] : List (S26)), 0, false, 1)) else (if a0 > 64 then (some (([] : List (S26)), 0, false, 1)) else (if 0 ≤ a0 then (if (a0 : Int).toNat ≤ 4398046511104 then (some ((List.replicate (a0 : Int).toNat z26), (-1), false, 0)) else (none)) else (none)))) = some (r1, r2, r3, r4) := h; clear h
 by_cases c2 : a0 < 1
 ·rw [if_pos c2] at H; have c2b0 : decide (a0 < 1) = true := decide_eq_true c2; clear c2; simp only [Option.some.injEq, Prod.mk.injEq] at H; obtain ⟨rfl, rfl, rfl, rfl⟩ := H
  go_enter Try.func17, Try.ntmps17
  go_wp2_with (first | ((with_reducible refine qc_ (N := 2) rfl ?_); refine bE_ 2 #[.slice none 0 0, .int .i64 0, .bool false] 24 ?_; intro aB hg w3 hbox hb; have aA := Zq_.mk (hbox); have aG := gW_ (w := w) hg (hB_ HB); have aH := gW_ (w := w) hg (hB_ HB); replace HB := sB_ HB hb; clear hb hbox hg; obtain ⟨hcz4_0, hcz4_1, hcz4_2⟩ := c3_ aA; obtain ⟨hfz4_0, hfz4_1, hfz4_2⟩ := f3_ aA))
  refine bodyPost_ret (qh_ rfl _ _ aB 24 #[.slice none 0 0, .int .i64 0, .bool false] (0, 0) _ rfl (by exact bW3_ (bK_ aA)) Try.underlying24 rfl (by kernel_rfl)) rfl ?_; exact ⟨_, by exact eW_, by first | exact Kd.R_nil _ _ _ _ _ | exact Kd.N_nil _ _ _ _ _ | exact Kd.V_nil _ _ _ _ _ | exact Kd.Q_nil _ _ _ _ _ | exact Kd.S_nil _ _ _ _ _, by exact hSet_ HB⟩
 ·rw [if_neg c2] at H; have c2b0 : decide (a0 < 1) = false := decide_eq_false c2; clear c2
  by_cases c5 : a0 > 64
  ·rw [if_pos c5] at H; have c5b0 : decide (64 < a0) = true := decide_eq_true c5; clear c5; simp only [Option.some.injEq, Prod.mk.injEq] at H; obtain ⟨rfl, rfl, rfl, rfl⟩ := H
   go_enter Try.func17, Try.ntmps17
   go_wp2_with (first | ((with_reducible refine qc_ (N := 2) rfl ?_); refine bE_ 2 #[.slice none 0 0, .int .i64 0, .bool false] 24 ?_; intro aB hg w6 hbox hb; have aA := Zq_.mk (hbox); have aG := gW_ (w := w) hg (hB_ HB); have aH := gW_ (w := w) hg (hB_ HB); replace HB := sB_ HB hb; clear hb hbox hg; obtain ⟨hcz7_0, hcz7_1, hcz7_2⟩ := c3_ aA; obtain ⟨hfz7_0, hfz7_1, hfz7_2⟩ := f3_ aA))
   refine bodyPost_ret (qh_ rfl _ _ aB 24 #[.slice none 0 0, .int .i64 0, .bool false] (0, 0) _ rfl (by exact bW3_ (bK_ aA)) Try.underlying24 rfl (by kernel_rfl)) rfl ?_; exact ⟨_, by exact eW_, by first | exact Kd.R_nil _ _ _ _ _ | exact Kd.N_nil _ _ _ _ _ | exact Kd.V_nil _ _ _ _ _ | exact Kd.Q_nil _ _ _ _ _ | exact Kd.S_nil _ _ _ _ _, by exact hSet_ HB⟩
  ·rw [if_neg c5] at H; have c5b0 : decide (64 < a0) = false := decide_eq_false c5; clear c5
   by_cases c8 : 0 ≤ a0
   ·rw [if_pos c8] at H; have c8b0 := eq_true c8; have c8b1 : decide (0 ≤ a0) = true := decide_eq_true c8; clear c8
    by_cases c9 : (a0 : Int).toNat ≤ 4398046511104
    ·rw [if_pos c9] at H; have c9b0 := eq_true c9; have c9b1 : decide ((a0 : Int).toNat ≤ 4398046511104) = true := decide_eq_true c9; clear c9; obtain ⟨aI, aC⟩ : ∃ y_ : List (S26), y_ = (List.replicate (a0 : Int).toNat z26) := ⟨_, rfl⟩
     replace H : (some (aI, (-1), false, 0)) = some (r1, r2, r3, r4) := hY_ aC H
     have aE := Zq_.mk aC; clear aC; simp only [Option.some.injEq, Prod.mk.injEq] at H; obtain ⟨rfl, rfl, rfl, rfl⟩ := H
     go_enter Try.func17, Try.ntmps17
     go_wp2_with (first | ((with_reducible refine qc_ (N := 2) rfl ?_); refine bE_ 2 #[.slice none 0 0, .int .i64 0, .bool false] 24 ?_; intro aB hg w10 hbox hb; have aA := Zq_.mk (hbox); have aG := gW_ (w := w) hg (hB_ HB); have aH := gW_ (w := w) hg (hB_ HB); replace HB := sB_ HB hb; clear hb hbox hg) | ((with_reducible refine qc_ (N := 12) rfl ?_); refine Kd.R_make k26 _ 26 rfl (N := 12) rfl 22 _ _ rfl a0 rfl rfl Try.underlying22 (.agg #[(.int .u8 0), (.int .u8 0), (.int .u8 0), (.int .u8 0), (.int .u8 0), (.int .u8 0), (.int .u8 0), (.int .u8 0), (.int .u8 0), (.int .u8 0), (.int .u8 0), (.int .u8 0), (.int .u8 0), (.int .u8 0), (.int .u8 0), (.int .u8 0), (.int .u8 0), (.int .u8 0), (.int .u8 0), (.int .u8 0), (.int .u8 0), (.int .u8 0), (.int .u8 0), (.int .u8 0), (.int .u8 0), (.int .u8 0), (.int .u8 0), (.int .u8 0), (.int .u8 0), (.int .u8 0), (.int .u8 0), (.int .u8 0), (.int .u8 0), (.int .u8 0), (.int .u8 0), (.int .u8 0), (.int .u8 0), (.int .u8 0), (.int .u8 0), (.int .u8 0), (.int .u8 0), (.int .u8 0), (.int .u8 0), (.int .u8 0), (.int .u8 0), (.int .u8 0), (.int .u8 0), (.int .u8 0), (.int .u8 0), (.int .u8 0), (.int .u8 0), (.int .u8 0), (.int .u8 0), (.int .u8 0), (.int .u8 0), (.int .u8 0), (.int .u8 0), (.int .u8 0), (.int .u8 0), (.int .u8 0), (.int .u8 0), (.int .u8 0), (.int .u8 0), (.int .u8 0)]) 64 info26 rfl (by decide) (by omega) z26 (ok := fun _ => True) (okp := fun _ => True) (k26_zM _ _ _) (fun _ hk => hk) trivial (dA_) (Nat.le_trans (Nat.mul_le_mul_right _ (dA_ : a0.toNat ≤ 4398046511104)) (by omega)) (Below.refl _ _) (Nat.le_refl _) ?_; intro v103 w11 aD hb hg_ hnew_; clear hg_ hnew_; (first | rw [← aE.out] at aD | (simp only [Int.reduceToNat] at aD; rw [← aE.out] at aD)); have aF := Zq_.mk (Kd.R_lower aD (qf_ (by exact hSet_ HB))); replace aA := kB_ aA hb; replace HB := sB_ HB hb; clear hb aD; obtain ⟨Ao13, co13, eo13⟩ := Kd.R_slice aF.out; subst eo13; obtain ⟨hcz14_0, hcz14_1, hcz14_2⟩ := c3_ aA; obtain ⟨hfz14_0, hfz14_1, hfz14_2⟩ := f3_ aA))
     refine bodyPost_ret (qh_ rfl _ _ aB 24 #[.slice Ao13 aI.length co13, .int .i64 (-1), .bool false] (0, 0) _ rfl (by exact bW3_ (bK_ aA)) Try.underlying24 rfl (by kernel_rfl)) rfl ?_; exact ⟨_, by exact eW_, by (with_reducible repeat (first | apply Kd.R_alloc | apply Kd.R_drewN | apply Kd.R_drew)); exact Kd.R_mono (Kd.R_far (Kd.R_far (Kd.R_far (Kd.R_types aF.out aA.out (by decide)) (fun _ hk => hk.2) _) (fun _ hk => hk.2) _) (fun _ hk => hk.2) _) (fun _ hk => trivial), by exact hSet_ HB⟩
    ·rw [if_neg c9] at H; exact absurd H (by simp)
   ·rw [if_neg c8] at H; exact absurd H (by simp)
def block_Right.f (aA : List (S26)) (aC : Int) (aD : Bool) : Option (Bool) := if (aA.length : Int) ≤ 64 then (some (decide (aC ≥ (-1)))) else (some false)
theorem block_Right.calls (aF : Option Addr) (aE : Nat) (aA : List (S26)) (aC : Int) (aD : Bool) (r : Bool) (w : World) (aG : Kd.C k26 w aF aA.length aA) (aH : aA.length ≤ aE) (h : block_Right.f aA aC aD = some r) :
  Calls Try.prog 19 #[.agg #[.slice aF aA.length aE, .int .i64 aC, .bool aD]] w fun e w' => e = .returned (.bool r) ∧ Below w.heap.size w w' := by
 have hu24 := Try.underlying24; have HR0_0 := Zq_.mk aG; have HC0_0 := Zq_.mk aH; clear aG aH; have HB := Zq_.mk (Below.refl w.heap.size w); have H : (if (aA.length : Int) ≤ 64 then (some (decide (aC ≥ (-1)))) else (some false)) = some r := h; clear h
 by_cases c2 : (aA.length : Int) ≤ 64
 ·rw [if_pos c2] at H; have c2b0 : decide ((aA.length : Int) ≤ 64) = true := decide_eq_true c2; have c2b1 : decide (aA.length ≤ 64) = true := decide_eq_true (by omega); clear c2; obtain rfl := Option.some.inj H
  go_enter Try.func19, Try.ntmps19
  go_wp2_with (first | ((with_reducible refine qc_ (N := 1) rfl ?_); refine bE_ 1 #[.slice aF aA.length aE, .int .i64 aC, .bool aD] 24 ?_; intro aI hg w3 hbox hb; have aB := Zq_.mk (hbox); have aJ := gW_ (w := w) hg (hB_ HB); have aK := gW_ (w := w) hg (hB_ HB); replace HB := sB_ HB hb; clear hb hbox hg; obtain ⟨hcz4_0, hcz4_1, hcz4_2⟩ := c3_ aB; obtain ⟨hfz4_0, hfz4_1, hfz4_2⟩ := f3_ aB))
  go_ret
  exact ⟨by exact eW_, by exact hSet_ HB⟩
 ·rw [if_neg c2] at H; have c2b0 : decide ((aA.length : Int) ≤ 64) = false := decide_eq_false c2; have c2b1 : decide (aA.length ≤ 64) = false := decide_eq_false (by omega); clear c2; obtain rfl := Option.some.inj H
  go_enter Try.func19, Try.ntmps19
  go_wp2_with (first | ((with_reducible refine qc_ (N := 1) rfl ?_); refine bE_ 1 #[.slice aF aA.length aE, .int .i64 aC, .bool aD] 24 ?_; intro aI hg w5 hbox hb; have aB := Zq_.mk (hbox); have aJ := gW_ (w := w) hg (hB_ HB); have aK := gW_ (w := w) hg (hB_ HB); replace HB := sB_ HB hb; clear hb hbox hg; obtain ⟨hcz6_0, hcz6_1, hcz6_2⟩ := c3_ aB; obtain ⟨hfz6_0, hfz6_1, hfz6_2⟩ := f3_ aB))
  go_ret
  exact ⟨by exact eW_, by exact hSet_ HB⟩
def ref12_Copy.f (aC : List (S26)) (aG : Int) (aH : Bool) : Option ((List (S26)) × Int × Bool) := (some (([] : List (S26)) : List (S26))).bind fun aE => (if aE.length + aC.length < 2199023255552 then (some ((aE ++ aC), aG, aH)) else (none))
theorem ref12_Copy.calls (aT : Option Addr) (aQ : Nat) (aC : List (S26)) (aG : Int) (aH : Bool) (r1 : List (S26)) (r2 : Int) (r3 : Bool) (w : World) (aU : Kd.C k26 w aT aC.length aC) (aV : aC.length ≤ aQ) (h : ref12_Copy.f aC aG aH = some (r1, r2, r3)) :
  Calls Try.prog 9 #[.agg #[.slice aT aC.length aQ, .int .i64 aG, .bool aH]] w fun e w' => ∃ v0_ : Value, e = .returned (.agg #[v0_, .int .i64 r2, .bool r3]) ∧ Kd.R k26 26 w' w.heap.size (fun _ => True) v0_ r1 ∧ Below w.heap.size w w' := by
 have hu24 := Try.underlying24; have bD := Zq_.mk aU; have HC0_0 := Zq_.mk aV; clear aU aV; have HB := Zq_.mk (Below.refl w.heap.size w); have H : ((some (([] : List (S26)) : List (S26))).bind fun aE => (if aE.length + aC.length < 2199023255552 then (some ((aE ++ aC), aG, aH)) else (none))) = some (r1, r2, r3) := h; clear h; obtain ⟨aE, aN⟩ : ∃ y_ : List (S26), y_ = (([] : List (S26))) := ⟨_, rfl⟩
 replace H : (if aE.length + aC.length < 2199023255552 then (some ((aE ++ aC), aG, aH)) else (none)) = some (r1, r2, r3) := hY_ aN H
 have aX := Zq_.mk aN; clear aN
 by_cases c2 : aE.length + aC.length < 2199023255552
 ·rw [if_pos c2] at H; have LMc2 := Zq_.mk c2; clear c2; obtain ⟨aP, aM⟩ : ∃ y_ : List (S26), y_ = (aE ++ aC) := ⟨_, rfl⟩
  replace H : (some (aP, aG, aH)) = some (r1, r2, r3) := hY_ aM H
  have bC := Zq_.mk aM; clear aM; simp only [Option.some.injEq, Prod.mk.injEq] at H; obtain ⟨rfl, rfl, rfl⟩ := H
  go_enter Try.func9, Try.ntmps9
  go_wp2_with (first | ((with_reducible refine qc_ (N := 1) rfl ?_); refine bE_ 1 #[.slice aT aC.length aQ, .int .i64 aG, .bool aH] 24 ?_; intro bB hg w3 hbox hb; have aA := Zq_.mk (hbox); have GW101 := gW_ (w := w) hg (hB_ HB); have GE101 := gW_ (w := w) hg (hB_ HB); replace HB := sB_ HB hb; clear hb hbox hg) | ((with_reducible refine qc_ (N := 2) rfl ?_); refine bE_ 2 #[.slice none 0 0, .int .i64 0, .bool false] 24 ?_; intro aW hg w4 hbox hb; have aD := Zq_.mk (hbox); have GW102 := gW_ (w := w) hg (by exact hSet_ HB); have GE102 := gW_ (w := w) hg (by exact hSet_ HB); replace HB := sB_ HB hb; have aK := nL_ aA hg; have aI := nG_ aA hg; replace aA := kB_ aA hb; clear hb hbox hg) | ((with_reducible refine qc_ (N := 3) rfl ?_); refine Kd.R_lit k26 _ 26 ?hg (N := 3) ?hd (xs := ([] : List (S26))) (inner := []) (ok := fun _ => True) (okp := fun _ => True) ?hr ?hp (fun _ hk => hk) trivial (Below.refl _ _) (Nat.le_refl _) (by simp) ?_; (case hd => rfl); (case hg => rfl); (case hr => first | (go_simp; done) | (go_simp; rfl)); (case hp => exact (Reps.none _ _)); intro v104 w5 ho6 hb hg_ hnew_; clear hg_ hnew_; (first | rw [← aX.out] at ho6 | (simp only [Int.reduceToNat] at ho6; rw [← aX.out] at ho6)); have aJ := Zq_.mk (Kd.R_lower ho6 (qf_ (by exact hSet_ HB))); replace aA := kB_ aA hb; replace aD := kB_ aD hb; replace HB := sB_ HB hb; clear hb ho6; have hnb7 := aK.out; have hnc7 := aI.out; obtain ⟨hcz8_0, hcz8_1, hcz8_2⟩ := c3_ aA; obtain ⟨hfz8_0, hfz8_1, hfz8_2⟩ := f3_ aA) | ((with_reducible refine gate_builtin (b := .append) (xs := #[.tmp 3, .tmp 5]) rfl ?_); at_builtin; refine Kd.R_append_rows k26 (w0 := w) w.heap.size rfl (.tmp 3) (.tmp 5) 22 26 (.agg #[(.int .u8 0), (.int .u8 0), (.int .u8 0), (.int .u8 0), (.int .u8 0), (.int .u8 0), (.int .u8 0), (.int .u8 0), (.int .u8 0), (.int .u8 0), (.int .u8 0), (.int .u8 0), (.int .u8 0), (.int .u8 0), (.int .u8 0), (.int .u8 0), (.int .u8 0), (.int .u8 0), (.int .u8 0), (.int .u8 0), (.int .u8 0), (.int .u8 0), (.int .u8 0), (.int .u8 0), (.int .u8 0), (.int .u8 0), (.int .u8 0), (.int .u8 0), (.int .u8 0), (.int .u8 0), (.int .u8 0), (.int .u8 0), (.int .u8 0), (.int .u8 0), (.int .u8 0), (.int .u8 0), (.int .u8 0), (.int .u8 0), (.int .u8 0), (.int .u8 0), (.int .u8 0), (.int .u8 0), (.int .u8 0), (.int .u8 0), (.int .u8 0), (.int .u8 0), (.int .u8 0), (.int .u8 0), (.int .u8 0), (.int .u8 0), (.int .u8 0), (.int .u8 0), (.int .u8 0), (.int .u8 0), (.int .u8 0), (.int .u8 0), (.int .u8 0), (.int .u8 0), (.int .u8 0), (.int .u8 0), (.int .u8 0), (.int .u8 0), (.int .u8 0), (.int .u8 0)]) 64 rfl Try.underlying22 info26 rfl (by decide) (by omega) v104 aE aC _ _ _ (fun _ => True) (fun _ => False) rfl rfl ?aO ?aR (fun _ _ h => h) (fun _ h => h.elim) ?aF ?aB ?aS ?aL ?_; (case aR => exact cX_ (Kd.C_below bD.out HB.out)); (case aB => exact (by exact hSet_ HB)); (case aF => exact (fun _ _ => trivial)); (case aO => exact (vX_ aJ)); (case aS => exact (qf_ (by exact hSet_ HB))); (case aL => have := LMc2.out; omega); intro v107 w9 ho hb hg hat; rw [← bC.out] at ho; replace aA := Zq_.mk (blk_grown (g := bB) (o := .cells #[.slice aT aC.length aQ, .int .i64 aG, .bool aH] 24 (0, 0)) (by exact bK_ aA) hg (Kd.R_ne aJ.out aA.out (by decide))); replace aD := Zq_.mk (blk_grown (g := aW) (o := .cells #[.slice none 0 0, .int .i64 0, .bool false] 24 (0, 0)) (by exact bK_ aD) hg (Kd.R_ne aJ.out aD.out (by decide))); replace HB := Zq_.mk (hb); have aY := Zq_.mk (ho); clear aJ; clear ho hb hg hat; obtain ⟨bA, aZ, eo10⟩ := Kd.R_slice aY.out; subst eo10; obtain ⟨hcz11_0, hcz11_1, hcz11_2⟩ := c3_ aA; obtain ⟨hfz11_0, hfz11_1, hfz11_2⟩ := f3_ aA; obtain ⟨hcz12_0, hcz12_1, hcz12_2⟩ := c3_ aD; obtain ⟨hfz12_0, hfz12_1, hfz12_2⟩ := f3_ aD))
  refine bodyPost_ret (results_cell_row rfl _ _ aW 24 #[.slice bA aP.length aZ, .int .i64 aG, .bool aH] (0, 0) _ rfl (by refine bP_ (cs := #[.slice bA aP.length aZ, .int .i64 aG, .bool false]) 2 ?_; refine bP_ (cs := #[.slice bA aP.length aZ, .int .i64 0, .bool false]) 1 ?_; refine bP_ (cs := #[.slice none 0 0, .int .i64 0, .bool false]) 0 ?_; refine bF_ aI ?_; exact bK_ aD) Try.underlying24 rfl (by kernel_rfl)) rfl ?_; exact ⟨_, by exact eW_, by (with_reducible repeat (first | apply Kd.R_alloc | apply Kd.R_drewN | apply Kd.R_drew)); exact Kd.R_mono (Kd.R_far (Kd.R_far (Kd.R_far (Kd.R_far (Kd.R_types (Kd.R_types aY.out aA.out (by decide)) aD.out (by decide)) (fun _ hk => hk.1.2) _) (fun _ hk => hk.2) _) (fun _ hk => hk.2) _) (fun _ hk => hk.2) _) (fun _ hk => trivial), by exact hSet_ HB⟩
 ·rw [if_neg c2] at H; exact absurd H (by simp)
def ref12_New.f (a0 : Int) : Option ((List (S26)) × Int × Bool × Int) := if a0 < 1 then (some (([] : List (S26)), 0, false, 1)) else (if a0 > 64 then (some (([] : List (S26)), 0, false, 1)) else (if 0 ≤ a0 then (if (a0 : Int).toNat ≤ 4398046511104 then (some ((List.replicate (a0 : Int).toNat z26), (-1), false, 0)) else (none)) else (none)))
theorem ref12_New.calls (a0 : Int) (r1 : List (S26)) (r2 : Int) (r3 : Bool) (r4 : Int) (w : World) (h : ref12_New.f a0 = some (r1, r2, r3, r4)) :
  Calls Try.prog 20 #[.int .i64 a0] w fun e w' => ∃ v0_ : Value, e = .returned (.tuple #[.agg #[v0_, .int .i64 r2, .bool r3], .int .i64 r4]) ∧ Kd.R k26 26 w' w.heap.size (fun _ => True) v0_ r1 ∧ Below w.heap.size w w' := by
 have hu24 := Try.underlying24; have HB := Zq_.mk (Below.refl w.heap.size w); have H : (if a0 < 1 then (some (([] : List (S26)), 0, false, 1)) else (if a0 > 64 then (some (([] : List (S26)), 0, false, 1)) else (if 0 ≤ a0 then (if (a0 : Int).toNat ≤ 4398046511104 then (some ((List.replicate (a0 : Int).toNat z26), (-1), false, 0)) else (none)) else (none)))) = some (r1, r2, r3, r4) := h; clear h
 by_cases c2 : a0 < 1
 ·rw [if_pos c2] at H; have c2b0 : decide (a0 < 1) = true := decide_eq_true c2; clear c2; simp only [Option.some.injEq, Prod.mk.injEq] at H; obtain ⟨rfl, rfl, rfl, rfl⟩ := H
  go_enter Try.func20, Try.ntmps20
  go_wp2_with (first | ((with_reducible refine qc_ (N := 2) rfl ?_); refine bE_ 2 #[.slice none 0 0, .int .i64 0, .bool false] 24 ?_; intro aB hg w3 hbox hb; have aA := Zq_.mk (hbox); have aG := gW_ (w := w) hg (hB_ HB); have aH := gW_ (w := w) hg (hB_ HB); replace HB := sB_ HB hb; clear hb hbox hg; obtain ⟨hcz4_0, hcz4_1, hcz4_2⟩ := c3_ aA; obtain ⟨hfz4_0, hfz4_1, hfz4_2⟩ := f3_ aA))
  refine bodyPost_ret (qh_ rfl _ _ aB 24 #[.slice none 0 0, .int .i64 0, .bool false] (0, 0) _ rfl (by exact bW3_ (bK_ aA)) Try.underlying24 rfl (by kernel_rfl)) rfl ?_; exact ⟨_, by exact eW_, by first | exact Kd.R_nil _ _ _ _ _ | exact Kd.N_nil _ _ _ _ _ | exact Kd.V_nil _ _ _ _ _ | exact Kd.Q_nil _ _ _ _ _ | exact Kd.S_nil _ _ _ _ _, by exact hSet_ HB⟩
 ·rw [if_neg c2] at H; have c2b0 : decide (a0 < 1) = false := decide_eq_false c2; clear c2
  by_cases c5 : a0 > 64
  ·rw [if_pos c5] at H; have c5b0 : decide (64 < a0) = true := decide_eq_true c5; clear c5; simp only [Option.some.injEq, Prod.mk.injEq] at H; obtain ⟨rfl, rfl, rfl, rfl⟩ := H
   go_enter Try.func20, Try.ntmps20
   go_wp2_with (first | ((with_reducible refine qc_ (N := 2) rfl ?_); refine bE_ 2 #[.slice none 0 0, .int .i64 0, .bool false] 24 ?_; intro aB hg w6 hbox hb; have aA := Zq_.mk (hbox); have aG := gW_ (w := w) hg (hB_ HB); have aH := gW_ (w := w) hg (hB_ HB); replace HB := sB_ HB hb; clear hb hbox hg; obtain ⟨hcz7_0, hcz7_1, hcz7_2⟩ := c3_ aA; obtain ⟨hfz7_0, hfz7_1, hfz7_2⟩ := f3_ aA))
   refine bodyPost_ret (qh_ rfl _ _ aB 24 #[.slice none 0 0, .int .i64 0, .bool false] (0, 0) _ rfl (by exact bW3_ (bK_ aA)) Try.underlying24 rfl (by kernel_rfl)) rfl ?_; exact ⟨_, by exact eW_, by first | exact Kd.R_nil _ _ _ _ _ | exact Kd.N_nil _ _ _ _ _ | exact Kd.V_nil _ _ _ _ _ | exact Kd.Q_nil _ _ _ _ _ | exact Kd.S_nil _ _ _ _ _, by exact hSet_ HB⟩
  ·rw [if_neg c5] at H; have c5b0 : decide (64 < a0) = false := decide_eq_false c5; clear c5
   by_cases c8 : 0 ≤ a0
   ·rw [if_pos c8] at H; have c8b0 := eq_true c8; have c8b1 : decide (0 ≤ a0) = true := decide_eq_true c8; clear c8
    by_cases c9 : (a0 : Int).toNat ≤ 4398046511104
    ·rw [if_pos c9] at H; have c9b0 := eq_true c9; have c9b1 : decide ((a0 : Int).toNat ≤ 4398046511104) = true := decide_eq_true c9; clear c9; obtain ⟨aI, aC⟩ : ∃ y_ : List (S26), y_ = (List.replicate (a0 : Int).toNat z26) := ⟨_, rfl⟩
     replace H : (some (aI, (-1), false, 0)) = some (r1, r2, r3, r4) := hY_ aC H
     have aE := Zq_.mk aC; clear aC; simp only [Option.some.injEq, Prod.mk.injEq] at H; obtain ⟨rfl, rfl, rfl, rfl⟩ := H
     go_enter Try.func20, Try.ntmps20
     go_wp2_with (first | ((with_reducible refine qc_ (N := 2) rfl ?_); refine bE_ 2 #[.slice none 0 0, .int .i64 0, .bool false] 24 ?_; intro aB hg w10 hbox hb; have aA := Zq_.mk (hbox); have aG := gW_ (w := w) hg (hB_ HB); have aH := gW_ (w := w) hg (hB_ HB); replace HB := sB_ HB hb; clear hb hbox hg) | ((with_reducible refine qc_ (N := 12) rfl ?_); refine Kd.R_make k26 _ 26 rfl (N := 12) rfl 22 _ _ rfl a0 rfl rfl Try.underlying22 (.agg #[(.int .u8 0), (.int .u8 0), (.int .u8 0), (.int .u8 0), (.int .u8 0), (.int .u8 0), (.int .u8 0), (.int .u8 0), (.int .u8 0), (.int .u8 0), (.int .u8 0), (.int .u8 0), (.int .u8 0), (.int .u8 0), (.int .u8 0), (.int .u8 0), (.int .u8 0), (.int .u8 0), (.int .u8 0), (.int .u8 0), (.int .u8 0), (.int .u8 0), (.int .u8 0), (.int .u8 0), (.int .u8 0), (.int .u8 0), (.int .u8 0), (.int .u8 0), (.int .u8 0), (.int .u8 0), (.int .u8 0), (.int .u8 0), (.int .u8 0), (.int .u8 0), (.int .u8 0), (.int .u8 0), (.int .u8 0), (.int .u8 0), (.int .u8 0), (.int .u8 0), (.int .u8 0), (.int .u8 0), (.int .u8 0), (.int .u8 0), (.int .u8 0), (.int .u8 0), (.int .u8 0), (.int .u8 0), (.int .u8 0), (.int .u8 0), (.int .u8 0), (.int .u8 0), (.int .u8 0), (.int .u8 0), (.int .u8 0), (.int .u8 0), (.int .u8 0), (.int .u8 0), (.int .u8 0), (.int .u8 0), (.int .u8 0), (.int .u8 0), (.int .u8 0), (.int .u8 0)]) 64 info26 rfl (by decide) (by omega) z26 (ok := fun _ => True) (okp := fun _ => True) (k26_zM _ _ _) (fun _ hk => hk) trivial (dA_) (Nat.le_trans (Nat.mul_le_mul_right _ (dA_ : a0.toNat ≤ 4398046511104)) (by omega)) (Below.refl _ _) (Nat.le_refl _) ?_; intro v103 w11 aD hb hg_ hnew_; clear hg_ hnew_; (first | rw [← aE.out] at aD | (simp only [Int.reduceToNat] at aD; rw [← aE.out] at aD)); have aF := Zq_.mk (Kd.R_lower aD (qf_ (by exact hSet_ HB))); replace aA := kB_ aA hb; replace HB := sB_ HB hb; clear hb aD; obtain ⟨Ao13, co13, eo13⟩ := Kd.R_slice aF.out; subst eo13; obtain ⟨hcz14_0, hcz14_1, hcz14_2⟩ := c3_ aA; obtain ⟨hfz14_0, hfz14_1, hfz14_2⟩ := f3_ aA))
     refine bodyPost_ret (qh_ rfl _ _ aB 24 #[.slice Ao13 aI.length co13, .int .i64 (-1), .bool false] (0, 0) _ rfl (by exact bW3_ (bK_ aA)) Try.underlying24 rfl (by kernel_rfl)) rfl ?_; exact ⟨_, by exact eW_, by (with_reducible repeat (first | apply Kd.R_alloc | apply Kd.R_drewN | apply Kd.R_drew)); exact Kd.R_mono (Kd.R_far (Kd.R_far (Kd.R_far (Kd.R_types aF.out aA.out (by decide)) (fun _ hk => hk.2) _) (fun _ hk => hk.2) _) (fun _ hk => hk.2) _) (fun _ hk => trivial), by exact hSet_ HB⟩
    ·rw [if_neg c9] at H; exact absurd H (by simp)
   ·rw [if_neg c8] at H; exact absurd H (by simp)
def ref12_Right.f (aA : List (S26)) (aC : Int) (aD : Bool) : Option (Bool) := if (aA.length : Int) ≤ 64 then (some (decide (aC ≥ (-1)))) else (some false)
theorem ref12_Right.calls (aF : Option Addr) (aE : Nat) (aA : List (S26)) (aC : Int) (aD : Bool) (r : Bool) (w : World) (aG : Kd.C k26 w aF aA.length aA) (aH : aA.length ≤ aE) (h : ref12_Right.f aA aC aD = some r) :
  Calls Try.prog 23 #[.agg #[.slice aF aA.length aE, .int .i64 aC, .bool aD]] w fun e w' => e = .returned (.bool r) ∧ Below w.heap.size w w' := by
 have hu24 := Try.underlying24; have HR0_0 := Zq_.mk aG; have HC0_0 := Zq_.mk aH; clear aG aH; have HB := Zq_.mk (Below.refl w.heap.size w); have H : (if (aA.length : Int) ≤ 64 then (some (decide (aC ≥ (-1)))) else (some false)) = some r := h; clear h
 by_cases c2 : (aA.length : Int) ≤ 64
 ·rw [if_pos c2] at H; have c2b0 : decide ((aA.length : Int) ≤ 64) = true := decide_eq_true c2; have c2b1 : decide (aA.length ≤ 64) = true := decide_eq_true (by omega); clear c2; obtain rfl := Option.some.inj H
  go_enter Try.func23, Try.ntmps23
  go_wp2_with (first | ((with_reducible refine qc_ (N := 1) rfl ?_); refine bE_ 1 #[.slice aF aA.length aE, .int .i64 aC, .bool aD] 24 ?_; intro aI hg w3 hbox hb; have aB := Zq_.mk (hbox); have aJ := gW_ (w := w) hg (hB_ HB); have aK := gW_ (w := w) hg (hB_ HB); replace HB := sB_ HB hb; clear hb hbox hg; obtain ⟨hcz4_0, hcz4_1, hcz4_2⟩ := c3_ aB; obtain ⟨hfz4_0, hfz4_1, hfz4_2⟩ := f3_ aB))
  go_ret
  exact ⟨by exact eW_, by exact hSet_ HB⟩
 ·rw [if_neg c2] at H; have c2b0 : decide ((aA.length : Int) ≤ 64) = false := decide_eq_false c2; have c2b1 : decide (aA.length ≤ 64) = false := decide_eq_false (by omega); clear c2; obtain rfl := Option.some.inj H
  go_enter Try.func23, Try.ntmps23
  go_wp2_with (first | ((with_reducible refine qc_ (N := 1) rfl ?_); refine bE_ 1 #[.slice aF aA.length aE, .int .i64 aC, .bool aD] 24 ?_; intro aI hg w5 hbox hb; have aB := Zq_.mk (hbox); have aJ := gW_ (w := w) hg (hB_ HB); have aK := gW_ (w := w) hg (hB_ HB); replace HB := sB_ HB hb; clear hb hbox hg; obtain ⟨hcz6_0, hcz6_1, hcz6_2⟩ := c3_ aB; obtain ⟨hfz6_0, hfz6_1, hfz6_2⟩ := f3_ aB))
  go_ret
  exact ⟨by exact eW_, by exact hSet_ HB⟩
def slices_Clone_64_byte_64_byte.f (l0 : List S26) : Option (List S26) := if l0.length < 2199023255552 then some l0 else none
theorem slices_Clone_64_byte_64_byte.calls (A0 : Option Addr) (c0 : Nat) (l0 : List S26) (r : List S26) (w : World) (hr0 : Kd.C k26 w A0 l0.length l0) (hc0 : l0.length ≤ c0) (h : slices_Clone_64_byte_64_byte.f l0 = some r) :
  Calls Try.prog 25 #[.slice A0 l0.length c0] w fun e w' => ∃ v0_ : Value, e = .returned v0_ ∧ Kd.R k26 26 w' w.heap.size (fun _ => True) v0_ r ∧ Below w.heap.size w w' := by
 unfold slices_Clone_64_byte_64_byte.f at h
 by_cases hl : l0.length < 2199023255552
 case neg => rw [if_neg hl] at h; cases h
 rw [if_pos hl] at h; obtain rfl := Option.some.inj h; clear h; have LM := Zq_.mk hl; clear hl
 have hnil : ∀ (W : World) (a : Option Addr) (n c n' c' : Nat), (binOp .eql 22 (.slice a n c) (.slice none n' c')).run Try.prog W = .ok (.bool a.isNone) W := fun W a n c n' c' => Lib.run_eql_slice_nil W _ _ a n c n' c' Try.underlying22
 have HB := Zq_.mk (Below.refl w.heap.size w)
 cases A0 with
 | none =>
  have e0 : l0 = [] := by
   rcases Nat.eq_zero_or_pos l0.length with e | e
   ·exact List.eq_nil_of_length_eq_zero e
   ·obtain ⟨ad, e1, _⟩ := hr0.2.2 e; cases e1
  subst e0; clear hr0 hc0 LM
  go_enter Try.func25, Try.ntmps25
  go_wp2
  go_ret
  exact ⟨_, rfl, Kd.R_nil _ _ _ _ _, Below.refl _ _⟩
 | some ad =>
  have HR := Zq_.mk hr0; have HC := Zq_.mk hc0; clear hr0 hc0
  go_enter Try.func25, Try.ntmps25
  go_wp2_with (first
   | ((with_reducible refine qc_ (N := 5) rfl ?_); refine Kd.R_lit k26 _ 26 ?hg (N := 5) ?hd (xs := ([] : List S26)) (inner := []) (ok := fun _ => True) (okp := fun _ => True) ?hr ?hp (fun _ hk => hk) trivial (Below.refl _ _) (Nat.le_refl _) (by simp) ?_; (case hd => rfl); (case hg => rfl); (case hr => first | (go_simp; done) | (go_simp; rfl)); (case hp => exact (Reps.none _ _)); intro v5 w5 ho hb hg_ hnew_; clear hg_ hnew_; have HO := Zq_.mk (Kd.R_lower ho (qf_ (hB_ HB))); replace HB := sB_ HB hb; clear hb ho)
   | ((with_reducible refine gate_builtin (b := .append) (xs := #[.tmp 5, .tmp 6]) rfl ?_); at_builtin; refine Kd.R_append_rows k26 (w0 := w) w.heap.size rfl (.tmp 5) (.tmp 6) 22 26 (.agg #[(.int .u8 0), (.int .u8 0), (.int .u8 0), (.int .u8 0), (.int .u8 0), (.int .u8 0), (.int .u8 0), (.int .u8 0), (.int .u8 0), (.int .u8 0), (.int .u8 0), (.int .u8 0), (.int .u8 0), (.int .u8 0), (.int .u8 0), (.int .u8 0), (.int .u8 0), (.int .u8 0), (.int .u8 0), (.int .u8 0), (.int .u8 0), (.int .u8 0), (.int .u8 0), (.int .u8 0), (.int .u8 0), (.int .u8 0), (.int .u8 0), (.int .u8 0), (.int .u8 0), (.int .u8 0), (.int .u8 0), (.int .u8 0), (.int .u8 0), (.int .u8 0), (.int .u8 0), (.int .u8 0), (.int .u8 0), (.int .u8 0), (.int .u8 0), (.int .u8 0), (.int .u8 0), (.int .u8 0), (.int .u8 0), (.int .u8 0), (.int .u8 0), (.int .u8 0), (.int .u8 0), (.int .u8 0), (.int .u8 0), (.int .u8 0), (.int .u8 0), (.int .u8 0), (.int .u8 0), (.int .u8 0), (.int .u8 0), (.int .u8 0), (.int .u8 0), (.int .u8 0), (.int .u8 0), (.int .u8 0), (.int .u8 0), (.int .u8 0), (.int .u8 0), (.int .u8 0)]) 64 rfl Try.underlying22 info26 rfl (by decide) (by omega) v5 ([] : List S26) l0 _ _ _ (fun _ => True) (fun _ => False) rfl rfl ?aO ?aR (fun _ _ h => h) (fun _ h => h.elim) ?aF ?aB ?aS ?aL ?_; (case aR => exact cX_ (Kd.C_below HR.out HB.out)); (case aB => exact (hB_ HB)); (case aF => exact (fun _ _ => trivial)); (case aO => exact (vX_ HO)); (case aS => exact (qf_ (hB_ HB))); (case aL => have := LM.out; simp only [List.length_nil]; omega); intro v7 w9 ho hb hg hat; rw [List.nil_append] at ho; replace HB := Zq_.mk hb; replace HO := Zq_.mk ho; clear ho hb hg hat))
  go_ret
  exact ⟨_, rfl, by (with_reducible repeat (first | apply Kd.R_alloc | apply Kd.R_drewN | apply Kd.R_drew)); exact HO.out, (hB_ HB)⟩
def block_own.f (aB : List (S26)) (aF : Int) (aG : Bool) : Option ((List (S26)) × Int × Bool) := (slices_Clone_64_byte_64_byte.f aB).bind fun aE => (some (aE, aF, aG))
theorem block_own.calls (aJ : Option Addr) (aI : Nat) (aB : List (S26)) (aF : Int) (aG : Bool) (r1 : List (S26)) (r2 : Int) (r3 : Bool) (w : World) (aK : Kd.C k26 w aJ aB.length aB) (aL : aB.length ≤ aI) (h : block_own.f aB aF aG = some (r1, r2, r3)) :
  Calls Try.prog 28 #[.agg #[.slice aJ aB.length aI, .int .i64 aF, .bool aG]] w fun e w' => ∃ v0_ : Value, e = .returned (.agg #[v0_, .int .i64 r2, .bool r3]) ∧ Kd.R k26 26 w' w.heap.size (fun _ => True) v0_ r1 ∧ Below w.heap.size w w' := by
 have hu24 := Try.underlying24; have aO := Zq_.mk aK; have aP := Zq_.mk aL; clear aK aL; have HB := Zq_.mk (Below.refl w.heap.size w); have H : ((slices_Clone_64_byte_64_byte.f aB).bind fun aE => (some (aE, aF, aG))) = some (r1, r2, r3) := h; clear h; replace H := ob_ H; obtain ⟨aE, A20, H⟩ := H; replace H : (some (aE, aF, aG)) = some (r1, r2, r3) := H; have A2 := Zq_.mk A20; clear A20; simp only [Option.some.injEq, Prod.mk.injEq] at H; obtain ⟨rfl, rfl, rfl⟩ := H
 go_enter Try.func28, Try.ntmps28
 go_wp2_with (first | ((with_reducible refine qc_ (N := 1) rfl ?_); refine bE_ 1 #[.slice aJ aB.length aI, .int .i64 aF, .bool aG] 24 ?_; intro gb101 hg w3 hbox hb; have aA := Zq_.mk (hbox); have GW101 := gW_ (w := w) hg (hB_ HB); have GE101 := gW_ (w := w) hg (hB_ HB); replace HB := sB_ HB hb; clear hb hbox hg) | ((with_reducible refine qc_ (N := 2) rfl ?_); refine bE_ 2 #[.slice none 0 0, .int .i64 0, .bool false] 24 ?_; intro aN hg w4 hbox hb; have aD := Zq_.mk (hbox); have GW102 := gW_ (w := w) hg (by exact hSet_ HB); have GE102 := gW_ (w := w) hg (by exact hSet_ HB); replace HB := sB_ HB hb; have aH := nL_ aA hg; have aC := nG_ aA hg; replace aA := kB_ aA hb; clear hb hbox hg; have hnb5 := aH.out; have hnc5 := aC.out; obtain ⟨hcz6_0, hcz6_1, hcz6_2⟩ := c3_ aA; obtain ⟨hfz6_0, hfz6_1, hfz6_2⟩ := f3_ aA) | ((with_reducible refine gate_callee (f := 25) rfl ?_); refine goesL_ (some 5) rfl rfl Try.func25 (by kernel_rfl) rfl #[.slice aJ aB.length aI] rfl aR_ ?_; (with_reducible refine (slices_Clone_64_byte_64_byte.calls _ _ aB aE _ ?side1 ?side2 A2.out).mono ?_); (case side1 => exact cX_ (Kd.C_below aO.out HB.out)); (case side2 => exact aP.out); rintro e w7 ⟨v104, rfl, ho0, hb⟩; refine ⟨_, rfl, ?_⟩; have aM := Zq_.mk (Kd.R_lower ho0 (qf_ (by exact hSet_ HB))); replace aA := kB_ aA hb; replace aD := kB_ aD hb; replace HB := sB_ HB hb; (try clear hb); (try clear ho0); obtain ⟨Ao8, co8, eo8⟩ := Kd.R_slice aM.out; subst eo8; obtain ⟨hcz9_0, hcz9_1, hcz9_2⟩ := c3_ aA; obtain ⟨hfz9_0, hfz9_1, hfz9_2⟩ := f3_ aA; obtain ⟨hcz10_0, hcz10_1, hcz10_2⟩ := c3_ aD; obtain ⟨hfz10_0, hfz10_1, hfz10_2⟩ := f3_ aD))
 refine bodyPost_ret (results_cell_row rfl _ _ aN 24 #[.slice Ao8 aE.length co8, .int .i64 aF, .bool aG] (0, 0) _ rfl (by refine bP_ (cs := #[.slice Ao8 aE.length co8, .int .i64 aF, .bool false]) 2 ?_; refine bP_ (cs := #[.slice Ao8 aE.length co8, .int .i64 0, .bool false]) 1 ?_; refine bP_ (cs := #[.slice none 0 0, .int .i64 0, .bool false]) 0 ?_; refine bF_ aC ?_; exact bK_ aD) Try.underlying24 rfl (by kernel_rfl)) rfl ?_; exact ⟨_, by exact eW_, by (with_reducible repeat (first | apply Kd.R_alloc | apply Kd.R_drewN | apply Kd.R_drew)); exact Kd.R_mono (Kd.R_far (Kd.R_far (Kd.R_far (Kd.R_far (Kd.R_types (Kd.R_types aM.out aA.out (by decide)) aD.out (by decide)) (fun _ hk => hk.1.2) _) (fun _ hk => hk.2) _) (fun _ hk => hk.2) _) (fun _ hk => hk.2) _) (fun _ hk => trivial), by exact hSet_ HB⟩
def block_up.f (aB : List (S26)) (aC : Int) (aD : Bool) : Option (Int) := (block_Right.f aB aC aD).bind fun aG => (if aG = true then (if aD = true then (some 9) else (some 0)) else (some 1))
theorem block_up.calls (aF : Option Addr) (aE : Nat) (aB : List (S26)) (aC : Int) (aD : Bool) (r : Int) (w : World) (aJ : Kd.C k26 w aF aB.length aB) (aK : aB.length ≤ aE) (h : block_up.f aB aC aD = some r) :
  Calls Try.prog 27 #[.agg #[.slice aF aB.length aE, .int .i64 aC, .bool aD]] w fun e w' => e = .returned (.int .i64 r) ∧ Below w.heap.size w w' := by
 have hu24 := Try.underlying24; have aH := Zq_.mk aJ; have aI := Zq_.mk aK; clear aJ aK; have HB := Zq_.mk (Below.refl w.heap.size w); have H : ((block_Right.f aB aC aD).bind fun aG => (if aG = true then (if aD = true then (some 9) else (some 0)) else (some 1))) = some r := h; clear h; replace H := ob_ H; obtain ⟨aG, A20, H⟩ := H; (try dsimp only at H); have A2 := Zq_.mk A20; clear A20
 by_cases c3 : aG = true
 ·subst c3
  rw [if_pos rfl] at H
  by_cases c4 : aD = true
  ·subst c4
   rw [if_pos rfl] at H; obtain rfl := Option.some.inj H
   go_enter Try.func27, Try.ntmps27
   go_wp2_with (first | ((with_reducible refine qc_ (N := 1) rfl ?_); refine bE_ 1 #[.slice aF aB.length aE, .int .i64 aC, .bool true] 24 ?_; intro aL hg w5 hbox hb; have aA := Zq_.mk (hbox); have aM := gW_ (w := w) hg (hB_ HB); have aN := gW_ (w := w) hg (hB_ HB); replace HB := sB_ HB hb; clear hb hbox hg; obtain ⟨hcz6_0, hcz6_1, hcz6_2⟩ := c3_ aA; obtain ⟨hfz6_0, hfz6_1, hfz6_2⟩ := f3_ aA) | ((with_reducible refine gate_callee (f := 19) rfl ?_); refine goesL_ (some 5) rfl rfl Try.func19 (by kernel_rfl) rfl #[.agg #[.slice aF aB.length aE, .int .i64 aC, .bool true]] rfl aR_ ?_; (with_reducible refine (block_Right.calls _ _ aB aC true true _ ?side1 ?side2 A2.out).mono ?_); (case side1 => exact cX_ (Kd.C_below aH.out HB.out)); (case side2 => exact aI.out); rintro e w7 ⟨rfl, hb⟩; refine ⟨_, rfl, ?_⟩; replace aA := kB_ aA hb; replace HB := sB_ HB hb; (try clear hb); obtain ⟨hcz8_0, hcz8_1, hcz8_2⟩ := c3_ aA; obtain ⟨hfz8_0, hfz8_1, hfz8_2⟩ := f3_ aA))
   go_ret
   exact ⟨by exact eW_, by exact hSet_ HB⟩
  ·replace c4 := Bool.eq_false_iff.mpr c4; subst c4
   have H1 : (some 0) = some r := by rw [if_neg (show ¬ (false = true) by decide)] at H; exact H
   clear H; have H := H1; clear H1; obtain rfl := Option.some.inj H
   go_enter Try.func27, Try.ntmps27
   go_wp2_with (first | ((with_reducible refine qc_ (N := 1) rfl ?_); refine bE_ 1 #[.slice aF aB.length aE, .int .i64 aC, .bool false] 24 ?_; intro aL hg w9 hbox hb; have aA := Zq_.mk (hbox); have aM := gW_ (w := w) hg (hB_ HB); have aN := gW_ (w := w) hg (hB_ HB); replace HB := sB_ HB hb; clear hb hbox hg; obtain ⟨hcz10_0, hcz10_1, hcz10_2⟩ := c3_ aA; obtain ⟨hfz10_0, hfz10_1, hfz10_2⟩ := f3_ aA) | ((with_reducible refine gate_callee (f := 19) rfl ?_); refine goesL_ (some 5) rfl rfl Try.func19 (by kernel_rfl) rfl #[.agg #[.slice aF aB.length aE, .int .i64 aC, .bool false]] rfl aR_ ?_; (with_reducible refine (block_Right.calls _ _ aB aC false true _ ?side1 ?side2 A2.out).mono ?_); (case side1 => exact cX_ (Kd.C_below aH.out HB.out)); (case side2 => exact aI.out); rintro e w11 ⟨rfl, hb⟩; refine ⟨_, rfl, ?_⟩; replace aA := kB_ aA hb; replace HB := sB_ HB hb; (try clear hb); obtain ⟨hcz12_0, hcz12_1, hcz12_2⟩ := c3_ aA; obtain ⟨hfz12_0, hfz12_1, hfz12_2⟩ := f3_ aA))
   go_ret
   exact ⟨by exact eW_, by exact hSet_ HB⟩
 ·replace c3 := Bool.eq_false_iff.mpr c3; subst c3
  have H1 : (some 1) = some r := by rw [if_neg (show ¬ (false = true) by decide)] at H; exact H
  clear H; have H := H1; clear H1; obtain rfl := Option.some.inj H
  go_enter Try.func27, Try.ntmps27
  go_wp2_with (first | ((with_reducible refine qc_ (N := 1) rfl ?_); refine bE_ 1 #[.slice aF aB.length aE, .int .i64 aC, .bool aD] 24 ?_; intro aL hg w13 hbox hb; have aA := Zq_.mk (hbox); have aM := gW_ (w := w) hg (hB_ HB); have aN := gW_ (w := w) hg (hB_ HB); replace HB := sB_ HB hb; clear hb hbox hg; obtain ⟨hcz14_0, hcz14_1, hcz14_2⟩ := c3_ aA; obtain ⟨hfz14_0, hfz14_1, hfz14_2⟩ := f3_ aA) | ((with_reducible refine gate_callee (f := 19) rfl ?_); refine goesL_ (some 5) rfl rfl Try.func19 (by kernel_rfl) rfl #[.agg #[.slice aF aB.length aE, .int .i64 aC, .bool aD]] rfl aR_ ?_; (with_reducible refine (block_Right.calls _ _ aB aC aD false _ ?side1 ?side2 A2.out).mono ?_); (case side1 => exact cX_ (Kd.C_below aH.out HB.out)); (case side2 => exact aI.out); rintro e w15 ⟨rfl, hb⟩; refine ⟨_, rfl, ?_⟩; replace aA := kB_ aA hb; replace HB := sB_ HB hb; (try clear hb)))
  go_ret
  exact ⟨by exact eW_, by exact hSet_ HB⟩
def ref12_asked.f (aB : List (S26)) (aC : Int) (aF : Bool) (a1 : Int) : Option (Int) := (ref12_Right.f aB aC aF).bind fun aL => (if aL = true then (if aF = true then (some 9) else (if a1 < 0 then (some 1) else (if a1 ≥ (aB.length : Int) then (some 1) else (some 0)))) else (some 1))
theorem ref12_asked.calls (aE : Option Addr) (aD : Nat) (aB : List (S26)) (aC : Int) (aF : Bool) (a1 : Int) (r : Int) (w : World) (aM : Kd.C k26 w aE aB.length aB) (aN : aB.length ≤ aD) (h : ref12_asked.f aB aC aF a1 = some r) :
  Calls Try.prog 26 #[.agg #[.slice aE aB.length aD, .int .i64 aC, .bool aF], .int .i64 a1] w fun e w' => e = .returned (.int .i64 r) ∧ Below w.heap.size w w' := by
 have hu24 := Try.underlying24; have aG := Zq_.mk aM; have aH := Zq_.mk aN; clear aM aN; have HB := Zq_.mk (Below.refl w.heap.size w); have H : ((ref12_Right.f aB aC aF).bind fun aL => (if aL = true then (if aF = true then (some 9) else (if a1 < 0 then (some 1) else (if a1 ≥ (aB.length : Int) then (some 1) else (some 0)))) else (some 1))) = some r := h; clear h; replace H := ob_ H; obtain ⟨aL, A30, H⟩ := H; (try dsimp only at H); have A3 := Zq_.mk A30; clear A30
 by_cases c4 : aL = true
 ·subst c4
  rw [if_pos rfl] at H
  by_cases c5 : aF = true
  ·subst c5
   rw [if_pos rfl] at H; obtain rfl := Option.some.inj H
   go_enter Try.func26, Try.ntmps26
   go_wp2_with (first | ((with_reducible refine qc_ (N := 2) rfl ?_); (try (refine qe_ (by rfl) ?_; dsimp only)); refine bE_ 2 #[.slice aE aB.length aD, .int .i64 aC, .bool true] 24 ?_; intro aI hg w6 hbox hb; have aA := Zq_.mk (hbox); have aJ := gW_ (w := w) hg (hB_ HB); have aK := gW_ (w := w) hg (hB_ HB); replace HB := sB_ HB hb; clear hb hbox hg; obtain ⟨hcz7_0, hcz7_1, hcz7_2⟩ := c3_ aA; obtain ⟨hfz7_0, hfz7_1, hfz7_2⟩ := f3_ aA) | ((with_reducible refine gate_callee (f := 23) rfl ?_); refine goesL_ (some 7) rfl rfl Try.func23 (by kernel_rfl) rfl #[.agg #[.slice aE aB.length aD, .int .i64 aC, .bool true]] rfl aR_ ?_; (with_reducible refine (ref12_Right.calls _ _ aB aC true true _ ?side1 ?side2 A3.out).mono ?_); (case side1 => exact cX_ (Kd.C_below aG.out HB.out)); (case side2 => exact aH.out); rintro e w8 ⟨rfl, hb⟩; refine ⟨_, rfl, ?_⟩; replace aA := kB_ aA hb; replace HB := sB_ HB hb; (try clear hb); obtain ⟨hcz9_0, hcz9_1, hcz9_2⟩ := c3_ aA; obtain ⟨hfz9_0, hfz9_1, hfz9_2⟩ := f3_ aA))
   go_ret
   exact ⟨by exact eW_, by exact hSet_ HB⟩
  ·replace c5 := Bool.eq_false_iff.mpr c5; subst c5
   have H1 : (if a1 < 0 then (some 1) else (if a1 ≥ (aB.length : Int) then (some 1) else (some 0))) = some r := by rw [if_neg (show ¬ (false = true) by decide)] at H; exact H
   clear H; have H := H1; clear H1
   by_cases c10 : a1 < 0
   ·rw [if_pos c10] at H; have aP : decide (a1 < 0) = true := decide_eq_true c10; clear c10; obtain rfl := Option.some.inj H
    go_enter Try.func26, Try.ntmps26
    go_wp2_with (first | ((with_reducible refine qc_ (N := 2) rfl ?_); (try (refine qe_ (by rfl) ?_; dsimp only)); refine bE_ 2 #[.slice aE aB.length aD, .int .i64 aC, .bool false] 24 ?_; intro aI hg w11 hbox hb; have aA := Zq_.mk (hbox); have aJ := gW_ (w := w) hg (hB_ HB); have aK := gW_ (w := w) hg (hB_ HB); replace HB := sB_ HB hb; clear hb hbox hg; obtain ⟨hcz12_0, hcz12_1, hcz12_2⟩ := c3_ aA; obtain ⟨hfz12_0, hfz12_1, hfz12_2⟩ := f3_ aA) | ((with_reducible refine gate_callee (f := 23) rfl ?_); refine goesL_ (some 7) rfl rfl Try.func23 (by kernel_rfl) rfl #[.agg #[.slice aE aB.length aD, .int .i64 aC, .bool false]] rfl aR_ ?_; (with_reducible refine (ref12_Right.calls _ _ aB aC false true _ ?side1 ?side2 A3.out).mono ?_); (case side1 => exact cX_ (Kd.C_below aG.out HB.out)); (case side2 => exact aH.out); rintro e w13 ⟨rfl, hb⟩; refine ⟨_, rfl, ?_⟩; replace aA := kB_ aA hb; replace HB := sB_ HB hb; (try clear hb); obtain ⟨hcz14_0, hcz14_1, hcz14_2⟩ := c3_ aA; obtain ⟨hfz14_0, hfz14_1, hfz14_2⟩ := f3_ aA))
    go_ret
    exact ⟨by exact eW_, by exact hSet_ HB⟩
   ·rw [if_neg c10] at H; have aP : decide (a1 < 0) = false := decide_eq_false c10; clear c10
    by_cases c15 : a1 ≥ (aB.length : Int)
    ·rw [if_pos c15] at H; have aO : decide ((aB.length : Int) ≤ a1) = true := decide_eq_true c15; clear c15; obtain rfl := Option.some.inj H
     go_enter Try.func26, Try.ntmps26
     go_wp2_with (first | ((with_reducible refine qc_ (N := 2) rfl ?_); (try (refine qe_ (by rfl) ?_; dsimp only)); refine bE_ 2 #[.slice aE aB.length aD, .int .i64 aC, .bool false] 24 ?_; intro aI hg w16 hbox hb; have aA := Zq_.mk (hbox); have aJ := gW_ (w := w) hg (hB_ HB); have aK := gW_ (w := w) hg (hB_ HB); replace HB := sB_ HB hb; clear hb hbox hg; obtain ⟨hcz17_0, hcz17_1, hcz17_2⟩ := c3_ aA; obtain ⟨hfz17_0, hfz17_1, hfz17_2⟩ := f3_ aA) | ((with_reducible refine gate_callee (f := 23) rfl ?_); refine goesL_ (some 7) rfl rfl Try.func23 (by kernel_rfl) rfl #[.agg #[.slice aE aB.length aD, .int .i64 aC, .bool false]] rfl aR_ ?_; (with_reducible refine (ref12_Right.calls _ _ aB aC false true _ ?side1 ?side2 A3.out).mono ?_); (case side1 => exact cX_ (Kd.C_below aG.out HB.out)); (case side2 => exact aH.out); rintro e w18 ⟨rfl, hb⟩; refine ⟨_, rfl, ?_⟩; replace aA := kB_ aA hb; replace HB := sB_ HB hb; (try clear hb); obtain ⟨hcz19_0, hcz19_1, hcz19_2⟩ := c3_ aA; obtain ⟨hfz19_0, hfz19_1, hfz19_2⟩ := f3_ aA))
     go_ret
     exact ⟨by exact eW_, by exact hSet_ HB⟩
    ·rw [if_neg c15] at H; have aO : decide ((aB.length : Int) ≤ a1) = false := decide_eq_false c15; clear c15; obtain rfl := Option.some.inj H
     go_enter Try.func26, Try.ntmps26
     go_wp2_with (first | ((with_reducible refine qc_ (N := 2) rfl ?_); (try (refine qe_ (by rfl) ?_; dsimp only)); refine bE_ 2 #[.slice aE aB.length aD, .int .i64 aC, .bool false] 24 ?_; intro aI hg w20 hbox hb; have aA := Zq_.mk (hbox); have aJ := gW_ (w := w) hg (hB_ HB); have aK := gW_ (w := w) hg (hB_ HB); replace HB := sB_ HB hb; clear hb hbox hg; obtain ⟨hcz21_0, hcz21_1, hcz21_2⟩ := c3_ aA; obtain ⟨hfz21_0, hfz21_1, hfz21_2⟩ := f3_ aA) | ((with_reducible refine gate_callee (f := 23) rfl ?_); refine goesL_ (some 7) rfl rfl Try.func23 (by kernel_rfl) rfl #[.agg #[.slice aE aB.length aD, .int .i64 aC, .bool false]] rfl aR_ ?_; (with_reducible refine (ref12_Right.calls _ _ aB aC false true _ ?side1 ?side2 A3.out).mono ?_); (case side1 => exact cX_ (Kd.C_below aG.out HB.out)); (case side2 => exact aH.out); rintro e w22 ⟨rfl, hb⟩; refine ⟨_, rfl, ?_⟩; replace aA := kB_ aA hb; replace HB := sB_ HB hb; (try clear hb); obtain ⟨hcz23_0, hcz23_1, hcz23_2⟩ := c3_ aA; obtain ⟨hfz23_0, hfz23_1, hfz23_2⟩ := f3_ aA))
     go_ret
     exact ⟨by exact eW_, by exact hSet_ HB⟩
 ·replace c4 := Bool.eq_false_iff.mpr c4; subst c4
  have H1 : (some 1) = some r := by rw [if_neg (show ¬ (false = true) by decide)] at H; exact H
  clear H; have H := H1; clear H1; obtain rfl := Option.some.inj H
  go_enter Try.func26, Try.ntmps26
  go_wp2_with (first | ((with_reducible refine qc_ (N := 2) rfl ?_); (try (refine qe_ (by rfl) ?_; dsimp only)); refine bE_ 2 #[.slice aE aB.length aD, .int .i64 aC, .bool aF] 24 ?_; intro aI hg w24 hbox hb; have aA := Zq_.mk (hbox); have aJ := gW_ (w := w) hg (hB_ HB); have aK := gW_ (w := w) hg (hB_ HB); replace HB := sB_ HB hb; clear hb hbox hg; obtain ⟨hcz25_0, hcz25_1, hcz25_2⟩ := c3_ aA; obtain ⟨hfz25_0, hfz25_1, hfz25_2⟩ := f3_ aA) | ((with_reducible refine gate_callee (f := 23) rfl ?_); refine goesL_ (some 7) rfl rfl Try.func23 (by kernel_rfl) rfl #[.agg #[.slice aE aB.length aD, .int .i64 aC, .bool aF]] rfl aR_ ?_; (with_reducible refine (ref12_Right.calls _ _ aB aC aF false _ ?side1 ?side2 A3.out).mono ?_); (case side1 => exact cX_ (Kd.C_below aG.out HB.out)); (case side2 => exact aH.out); rintro e w26 ⟨rfl, hb⟩; refine ⟨_, rfl, ?_⟩; replace aA := kB_ aA hb; replace HB := sB_ HB hb; (try clear hb)))
  go_ret
  exact ⟨by exact eW_, by exact hSet_ HB⟩
def ref12_Same.f (aB : List S26) (aG : Int) (aI : Bool) (aC : List S26) (aH : Int) (aK : Bool) : Option Bool := some (decide (aB = aC) && (decide (aG = aH) && (aI == aK)))
def ref12_Same.T6 : Bool × List (List Nat × List Nat) := (true, [([], []), ([0], [0]), ([], []), ([1, 2], [1, 2]), ([3], [3]), ([], []), ([5], [5]), ([], []), ([6, 7], [6, 7]), ([8], [8]), ([4, 9], [4, 9])])
def ref12_Same.B6 : List Nat := [0, 1, 0, 7, 15, 0, 32, 0, 224, 480, 1023]
theorem ref12_Same.tab6 : rtab .any (opsOf Try.f16 6) = ref12_Same.T6 := by kernel_rfl
theorem ref12_Same.bits6 : waitsOk ref12_Same.T6.2 ref12_Same.B6 = true := by kernel_rfl
theorem ref12_Same.ext {a b : List S26} (h : a.length = b.length) (hq : ∀ j, j < a.length → a.getD j z26 = b.getD j z26) : a = b := by
 refine List.ext_getElem h (fun j h1 h2 => ?_); have := hq j h1
 simpa [List.getD_eq_getElem?_getD, List.getElem?_eq_getElem h1, List.getElem?_eq_getElem h2] using this
theorem ref12_Same.calls (aM : Option Addr) (aJ : Nat) (aB : List S26) (aG : Int) (aI : Bool) (aP : Option Addr) (aL : Nat) (aC : List S26) (aH : Int) (aK : Bool) (r : Bool) (w : World) (aQ : Kd.C k26 w aM aB.length aB) (hc0_0 : aB.length ≤ aJ) (bD : Kd.C k26 w aP aC.length aC) (hc1_0 : aC.length ≤ aL) (h : ref12_Same.f aB aG aI aC aH aK = some r) :
  Calls Try.prog 16 #[.agg #[.slice aM aB.length aJ, .int .i64 aG, .bool aI], .agg #[.slice aP aC.length aL, .int .i64 aH, .bool aK]] w fun e w' => e = .returned (.bool r) ∧ Below w.heap.size w w' := by
 have hu24 := Try.underlying24; have hu26 := Try.underlying26; have HF := Zq_.mk (show (decide (aB = aC) && (decide (aG = aH) && (aI == aK))) = r from Option.some.inj h); have HR0 := Zq_.mk aQ; have HR1 := Zq_.mk bD; have HLM := Zq_.mk aQ.2.1; clear h aQ bD; have HB := Zq_.mk (Below.refl w.heap.size w)
 by_cases hn : aB.length = aC.length
 case neg =>
  have HFF := Zq_.mk (show r = false from by rw [← HF.out, decide_eq_false (fun e_ => hn (by rw [e_])), Bool.false_and]); have q1 : ((aB.length : Int) = (aC.length : Int)) = False := eq_false (by omega); have q2 : (aB.length = aC.length) = False := eq_false hn; have q3 : ((aB.length : Int) == (aC.length : Int)) = false := beq_eq_false_iff_ne.mpr (by omega); have q4 : ((aB.length : Int) != (aC.length : Int)) = true := bne_iff_ne.mpr (by omega); clear hn HF
  go_enter Try.func16, Try.ntmps16
  go_wp2_with (first | ((with_reducible refine qc_ (N := 2) rfl ?_); (try (refine qe_ (by rfl) ?_; dsimp only)); refine bE_ 2 #[.slice aM aB.length aJ, .int .i64 aG, .bool aI] 24 ?_; intro aD hg_ w101 hbox_ hb_; have n0_ := Zq_.mk (qd_ (hB_ HB) hb_); have bF := Zq_.mk ((by rw [hg_]; exact (qf_ (hB_ HB)) : w.heap.size ≤ aD)); have n1_ := Zq_.mk (hbox_); clear HB; have HB := n0_; have aA := n1_; clear n0_ n1_; clear hb_ hbox_ hg_; obtain ⟨bC, bB, bA⟩ := c3_ aA; obtain ⟨aW, aV, aU⟩ := f3_ aA) | ((with_reducible refine qc_ (N := 3) rfl ?_); (try (refine qe_ (by rfl) ?_; dsimp only)); refine bE_ 3 #[.slice aP aC.length aL, .int .i64 aH, .bool aK] 24 ?_; intro aF hg_ aN hbox_ hb_; have n0_ := Zq_.mk (qd_ (hB_ HB) hb_); have bE := Zq_.mk ((by rw [hg_]; exact (qf_ (hB_ HB)) : w.heap.size ≤ aF)); have n1_ := Zq_.mk (hbox_); have aO : Zq_ (aD ≠ aF) := ⟨fun e_ => by have h1 := blk_lt (by exact bK_ aA); rw [e_, hg_] at h1; exact absurd h1 (Nat.lt_irrefl _)⟩; have m101_ := Zq_.mk (blk_bel (by exact bK_ aA) hb_); clear aA; have aA := m101_; clear m101_; clear HB; have HB := n0_; have aE := n1_; clear n0_ n1_; clear hb_ hbox_ hg_; obtain ⟨aZ, aY, aX⟩ := c3_ aE; obtain ⟨aT, aS, aR⟩ := f3_ aE; have hcw102_101_0 : aN.cell? ⟨aD, 0, none⟩ = some (.slice aM aB.length aJ) := (qb_ aA.out 0).trans rfl; have hcw102_101_1 : aN.cell? ⟨aD, 1, none⟩ = some (.int .i64 aG) := (qb_ aA.out 1).trans rfl; have hcw102_101_2 : aN.cell? ⟨aD, 2, none⟩ = some (.bool aI) := (qb_ aA.out 2).trans rfl))
  go_ret
  exact ⟨by rw [HFF.out]; rfl, HB.out⟩
 have q1 : ((aB.length : Int) = (aC.length : Int)) = True := eq_true (by omega); have q2 : (aB.length = aC.length) = True := eq_true hn; have q3 : ((aB.length : Int) == (aC.length : Int)) = true := beq_iff_eq.mpr (by omega); have q4 : ((aB.length : Int) != (aC.length : Int)) = false := bne_eq_false_iff_eq.mpr (by omega); have HLN := Zq_.mk hn; clear hn
 go_enter Try.func16, Try.ntmps16
 go_upto_block 0 with (first | ((with_reducible refine qc_ (N := 2) rfl ?_); (try (refine qe_ (by rfl) ?_; dsimp only)); refine bE_ 2 #[.slice aM aB.length aJ, .int .i64 aG, .bool aI] 24 ?_; intro aD hg_ w101 hbox_ hb_; have n0_ := Zq_.mk (qd_ (hB_ HB) hb_); have bF := Zq_.mk ((by rw [hg_]; exact (qf_ (hB_ HB)) : w.heap.size ≤ aD)); have n1_ := Zq_.mk (hbox_); clear HB; have HB := n0_; have aA := n1_; clear n0_ n1_; clear hb_ hbox_ hg_; obtain ⟨bC, bB, bA⟩ := c3_ aA; obtain ⟨aW, aV, aU⟩ := f3_ aA) | ((with_reducible refine qc_ (N := 3) rfl ?_); (try (refine qe_ (by rfl) ?_; dsimp only)); refine bE_ 3 #[.slice aP aC.length aL, .int .i64 aH, .bool aK] 24 ?_; intro aF hg_ aN hbox_ hb_; have n0_ := Zq_.mk (qd_ (hB_ HB) hb_); have bE := Zq_.mk ((by rw [hg_]; exact (qf_ (hB_ HB)) : w.heap.size ≤ aF)); have n1_ := Zq_.mk (hbox_); have aO : Zq_ (aD ≠ aF) := ⟨fun e_ => by have h1 := blk_lt (by exact bK_ aA); rw [e_, hg_] at h1; exact absurd h1 (Nat.lt_irrefl _)⟩; have m101_ := Zq_.mk (blk_bel (by exact bK_ aA) hb_); clear aA; have aA := m101_; clear m101_; clear HB; have HB := n0_; have aE := n1_; clear n0_ n1_; clear hb_ hbox_ hg_; obtain ⟨aZ, aY, aX⟩ := c3_ aE; obtain ⟨aT, aS, aR⟩ := f3_ aE; have hcw102_101_0 : aN.cell? ⟨aD, 0, none⟩ = some (.slice aM aB.length aJ) := (qb_ aA.out 0).trans rfl; have hcw102_101_1 : aN.cell? ⟨aD, 1, none⟩ = some (.int .i64 aG) := (qb_ aA.out 1).trans rfl; have hcw102_101_2 : aN.cell? ⟨aD, 2, none⟩ = some (.bool aI) := (qb_ aA.out 2).trans rfl))
 clear q1 q2 q3 q4
 go_wp2
 go_loopg [5] (aB.length + 1) (fun kq v5 w' => ∃ (i : Nat), v5 = .int .i64 (i : Int) ∧ Zq_ (i ≤ aB.length ∧ kq + i = aB.length + 1) ∧ Zq_ (∀ j, j < i → aB.getD j z26 = aC.getD j z26) ∧ Zq_ (w'.heap[aD]? = some (.cells #[.slice aM aB.length aJ, .int .i64 aG, .bool aI] 24 (0, 0))) ∧ Zq_ (w'.heap[aF]? = some (.cells #[.slice aP aC.length aL, .int .i64 aH, .bool aK] 24 (0, 0))) ∧ Zq_ (Below w.heap.size w w'))
 case atStart => exact ⟨0, by first | rfl | (simp; done), ⟨by omega, by omega⟩, ⟨fun j hj => by omega⟩, aA, aE, HB⟩
 case round =>
  clear HB aA aE; obtain ⟨i, rfl, HI, HE, aA, aE, HB⟩ := hrel; have v0 : wr.cell? ⟨aD, 0, none⟩ = some (.slice aM aB.length aJ) := (qb_ aA.out 0).trans rfl; have v1 : wr.cell? ⟨aD, 1, none⟩ = some (.int .i64 aG) := (qb_ aA.out 1).trans rfl; have v2 : wr.cell? ⟨aD, 2, none⟩ = some (.bool aI) := (qb_ aA.out 2).trans rfl; have u0 : wr.cell? ⟨aF, 0, none⟩ = some (.slice aP aC.length aL) := (qb_ aE.out 0).trans rfl; have u1 : wr.cell? ⟨aF, 1, none⟩ = some (.int .i64 aH) := (qb_ aE.out 1).trans rfl; have u2 : wr.cell? ⟨aF, 2, none⟩ = some (.bool aK) := (qb_ aE.out 2).trans rfl
  by_cases hi : i < aB.length
  ·obtain ⟨x, hx⟩ : ∃ x_, x_ = aB.getD i z26 := ⟨_, rfl⟩; obtain ⟨y, hy⟩ : ∃ x_, x_ = aC.getD i z26 := ⟨_, rfl⟩; obtain ⟨ad, hA, hxl, hcx⟩ := elem_cells (Kd.C_below HR0.out HB.out) z26 (i : Int) (by omega) (by omega); obtain ⟨ae, hA2, hyl, hcy⟩ := elem_cells (Kd.C_below HR1.out HB.out) z26 (i : Int) (by omega) (by have := HLN.out; omega); rw [Int.toNat_natCast] at hxl hcx hyl hcy; rw [← hx] at hxl hcx; rw [← hy] at hyl hcy; subst hA; subst hA2; obtain ⟨nb, hnb⟩ : ∃ n_, (!decide (x = y)) = n_ := ⟨_, rfl⟩; have HNB := Zq_.mk hnb; have HXL := Zq_.mk hxl; have HYL := Zq_.mk hyl; have HCX := Zq_.mk hcx; have HCY := Zq_.mk hcy; have HII := Zq_.mk hi; have HX := Zq_.mk hx; have HY := Zq_.mk hy; have HWR := Zq_.mk (show wrap64 ((i : Int) + 1) = ((i + 1 : Nat) : Int) by have := HLM.out; unfold wrap64; omega); have j1 : decide ((i : Int) < (aB.length : Int)) = true := decide_eq_true (by omega); have j2 : ((i : Int) < (aB.length : Int)) = True := eq_true (by omega); have j3 : (i < aB.length) = True := eq_true hi; have j4 : decide (i < aB.length) = true := decide_eq_true hi; clear hnb hxl hyl hcx hcy hi hx hy
   go_upto_region 6 with fail
   clear j1 j2 j3 j4 v0 v1 v2 u0 u1 u2; replace aA := Zq_.mk (blk_drew aA.out); replace aE := Zq_.mk (blk_drew aE.out); replace HB := Zq_.mk (below_drew1 HB.out); replace HCX := Zq_.mk (show ∀ j v, (x.map (Value.int .u8))[j]? = some v → wr.drew.cell? ((ad.add (i * 64)).add j) = some v from fun j v h_ => pw_cell_below (below_drew1 (Below.refl _ _)) (HCX.out j v h_)); replace HCY := Zq_.mk (show ∀ j v, (y.map (Value.int .u8))[j]? = some v → wr.drew.cell? ((ae.add (i * 64)).add j) = some v from fun j v h_ => pw_cell_below (below_drew1 (Below.refl _ _)) (HCY.out j v h_)); refine start_ (n := 11) (S := fun W => W.cell? ⟨aD, 0, none⟩ = some (.slice (some ad) aB.length aJ) ∧ W.cell? ⟨aF, 0, none⟩ = some (.slice (some ae) aC.length aL) ∧ (∀ j v, (x.map (Value.int .u8))[j]? = some v → W.cell? ((ad.add (i * 64)).add j) = some v) ∧ (∀ j v, (y.map (Value.int .u8))[j]? = some v → W.cell? ((ae.add (i * 64)).add j) = some v)) (ds := []) (bz_ 11 0) (by kernel_rfl) rfl rfl ⟨(qb_ aA.out 0).trans rfl, (qb_ aE.out 0).trans rfl, HCX.out, HCY.out⟩ (fun hHeld => ?_); refine with_tabW ref12_Same.tab6 ref12_Same.bits6 (fun HT_ HW_ => ?_); generalize wr.drew = w8 at aA aE HB HCX HCY hHeld ⊢; refine pure_ (i := 0) (N := some 20) (v := (.pointer (some ⟨aD, 0, none⟩))) (a' := ?_) (bz_ 11 1) rfl rfl (any_of HT_.out (by kernel_rfl)) (fun _ _ _ h => h) ?_ ?_ ?_
   ·refine Or.inl ⟨by rfl, ?_⟩; intro w'
    first | (go_simp; done) | (go_simp; with_reducible rfl) | (go_simp; rfl)
   rotate_left; (focus simp only [Act.put, sa_, sb_, sc_, i64_w, i32_w]; rfl); refine take_ (i := 1) (N := some 21) (v := (.slice (some ad) aB.length aJ)) (a' := ?_) (bz_ 11 3) rfl rfl (take_ofW HT_.out HW_.out (by kernel_rfl)) (fun _ _ _ h => h) ?_ hHeld ?_ ?_
   ·refine Or.inl ⟨by rfl, ?_⟩; rintro w' ⟨s0, s1, s2, s3⟩
    first | (go_simp; done) | (go_simp; with_reducible rfl) | (go_simp; rfl)
   rotate_left; (focus simp only [Act.put, sa_, sb_, sc_, i64_w, i32_w]; rfl); refine pure_ (i := 2) (N := some 22) (v := (.int .i64 (i : Int))) (a' := ?_) (bz_ 11 7) rfl rfl (any_of HT_.out (by kernel_rfl)) (fun _ _ _ h => h) ?_ ?_ ?_
   ·refine Or.inl ⟨by rfl, ?_⟩; intro w'
    first | (go_simp; done) | (go_simp; with_reducible rfl) | (go_simp; rfl)
   rotate_left; (focus simp only [Act.put, sa_, sb_, sc_, i64_w, i32_w]; rfl); refine pure_ (i := 3) (N := some 23) (v := (.pointer (some (ad.add (i * 64))))) (a' := ?_) (bz_ 11 15) rfl rfl (any_of HT_.out (by kernel_rfl)) (fun _ _ _ h => h) ?_ ?_ ?_
   ·refine Or.inl ⟨by rfl, ?_⟩; intro w'; have hi_ := HII.out; have hn_ := HLN.out; have j1 : decide ((i : Int) < (aB.length : Int)) = true := decide_eq_true (by omega); have j2 : ((i : Int) < (aB.length : Int)) = True := eq_true (by omega); have j3 : (i < aB.length) = True := eq_true (by omega); have j4 : decide (i < aB.length) = true := decide_eq_true (by omega); have j5 : (aB.length ≤ i) = False := eq_false (by omega); clear hi_ hn_
    first | (go_simp; done) | (go_simp; with_reducible rfl) | (go_simp; rfl)
   rotate_left; (focus simp only [Act.put, sa_, sb_, sc_, i64_w, i32_w]; rfl); refine take_ (i := 4) (N := some 24) (v := (aggN .u8 x)) (a' := ?_) (bz_ 11 31) rfl rfl (take_ofW HT_.out HW_.out (by kernel_rfl)) (fun _ _ _ h => h) ?_ hHeld ?_ ?_
   ·refine Or.inl ⟨by rfl, ?_⟩; rintro w' ⟨s0, s1, s2, s3⟩; exact exec_load_elem rfl (by first | rfl | (go_simp; done) | (go_simp; rfl)) s2 hu26 (by rw [HXL.out]; kernel_rfl)
   rotate_left; (focus simp only [Act.put, sa_, sb_, sc_, i64_w, i32_w]; rfl); refine pure_ (i := 5) (N := some 25) (v := (.pointer (some ⟨aF, 0, none⟩))) (a' := ?_) (bz_ 11 63) rfl rfl (any_of HT_.out (by kernel_rfl)) (fun _ _ _ h => h) ?_ ?_ ?_
   ·refine Or.inl ⟨by rfl, ?_⟩; intro w'
    first | (go_simp; done) | (go_simp; with_reducible rfl) | (go_simp; rfl)
   rotate_left; (focus simp only [Act.put, sa_, sb_, sc_, i64_w, i32_w]; rfl); refine take_ (i := 6) (N := some 26) (v := (.slice (some ae) aC.length aL)) (a' := ?_) (bz_ 11 127) rfl rfl (take_ofW HT_.out HW_.out (by kernel_rfl)) (fun _ _ _ h => h) ?_ hHeld ?_ ?_
   ·refine Or.inl ⟨by rfl, ?_⟩; rintro w' ⟨s0, s1, s2, s3⟩
    first | (go_simp; done) | (go_simp; with_reducible rfl) | (go_simp; rfl)
   rotate_left; (focus simp only [Act.put, sa_, sb_, sc_, i64_w, i32_w]; rfl); refine pure_ (i := 7) (N := some 27) (v := (.int .i64 (i : Int))) (a' := ?_) (bz_ 11 255) rfl rfl (any_of HT_.out (by kernel_rfl)) (fun _ _ _ h => h) ?_ ?_ ?_
   ·refine Or.inl ⟨by rfl, ?_⟩; intro w'
    first | (go_simp; done) | (go_simp; with_reducible rfl) | (go_simp; rfl)
   rotate_left; (focus simp only [Act.put, sa_, sb_, sc_, i64_w, i32_w]; rfl); refine pure_ (i := 8) (N := some 28) (v := (.pointer (some (ae.add (i * 64))))) (a' := ?_) (bz_ 11 511) rfl rfl (any_of HT_.out (by kernel_rfl)) (fun _ _ _ h => h) ?_ ?_ ?_
   ·refine Or.inl ⟨by rfl, ?_⟩; intro w'; have hi_ := HII.out; have hn_ := HLN.out; have j1 : decide ((i : Int) < (aC.length : Int)) = true := decide_eq_true (by omega); have j2 : ((i : Int) < (aC.length : Int)) = True := eq_true (by omega); have j3 : (i < aC.length) = True := eq_true (by omega); have j4 : decide (i < aC.length) = true := decide_eq_true (by omega); have j5 : (aC.length ≤ i) = False := eq_false (by omega); clear hi_ hn_
    first | (go_simp; done) | (go_simp; with_reducible rfl) | (go_simp; rfl)
   rotate_left; (focus simp only [Act.put, sa_, sb_, sc_, i64_w, i32_w]; rfl); refine take_ (i := 9) (N := some 29) (v := (aggN .u8 y)) (a' := ?_) (bz_ 11 1023) rfl rfl (take_ofW HT_.out HW_.out (by kernel_rfl)) (fun _ _ _ h => h) ?_ hHeld ?_ ?_
   ·refine Or.inl ⟨by rfl, ?_⟩; rintro w' ⟨s0, s1, s2, s3⟩; exact exec_load_elem rfl (by first | rfl | (go_simp; done) | (go_simp; rfl)) s3 hu26 (by rw [HYL.out]; kernel_rfl)
   rotate_left; (focus simp only [Act.put, sa_, sb_, sc_, i64_w, i32_w]; rfl); refine pure_ (i := 10) (N := some 30) (v := (.bool nb)) (a' := ?_) (bz_ 11 2047) rfl rfl (any_of HT_.out (by kernel_rfl)) (fun _ _ _ h => h) ?_ ?_ ?_
   ·refine Or.inl ⟨by rfl, ?_⟩; intro w'; have e_ := HNB.out; obtain ⟨ti, hti, _⟩ := Option.map_eq_some_iff.1 info5; rw [← e_]; exact exec_neq_ints w' rfl hu26 (by kernel_rfl) Try.underlying5 (by kernel_rfl) hti (by kernel_rfl) x y HXL.out HYL.out (by first | rfl | (go_simp; done) | (go_simp; rfl)) (by first | rfl | (go_simp; done) | (go_simp; rfl))
   rotate_left; (focus simp only [Act.put, sa_, sb_, sc_, i64_w, i32_w]; rfl); refine dN_ HT_ ?_; clear hHeld HT_ HW_
   cases nb with
   | true =>
    have HFF := Zq_.mk (show r = false from by
     rw [← HF.out]
     have hne : x ≠ y := fun e_ => by have := HNB.out; rw [decide_eq_true e_] at this; cases this
     rw [decide_eq_false (fun e_ => hne (by rw [HX.out, HY.out, e_])), Bool.false_and])
    go_wp2
    go_ret
    exact ⟨by rw [HFF.out]; rfl, HB.out⟩
   | false =>
    have HXY := Zq_.mk (show x = y from by
     have := HNB.out
     by_cases he : x = y
     ·exact he
     ·rw [decide_eq_false he] at this; cases this)
    go_wp2
    go_roundg (aB.length - i)
    case measure => have := HI.out.2; have := HII.out; omega
    case rel => exact ⟨i + 1, by first | rfl | exact congrArg (Value.int .i64) HWR.out, ⟨by have := HII.out; omega, by have := HI.out.2; have := HII.out; omega⟩, ⟨fun j hj => by
     rcases Nat.lt_or_ge j i with h_ | h_
     ·exact HE.out j h_
     ·obtain rfl : j = i := by omega
      rw [← HX.out, ← HY.out, HXY.out]⟩, aA, aE, HB⟩
  ·have hi2 : i = aB.length := by have := HI.out.1; omega
   subst hi2; have HLL := Zq_.mk (ref12_Same.ext HLN.out HE.out); clear hi
   by_cases hf : aG = aH
   ·have HFF := Zq_.mk (show (aI == aK) = r from by rw [← HF.out, decide_eq_true HLL.out, decide_eq_true hf, Bool.true_and, Bool.true_and]); have q1 : (aG == aH) = true := beq_iff_eq.mpr hf; have q2 : (aG = aH) = True := eq_true hf; clear hf HF
    go_wp2
    go_ret
    exact ⟨by rw [← HFF.out]; rfl, HB.out⟩
   ·have HFF := Zq_.mk (show r = false from by rw [← HF.out, decide_eq_true HLL.out, decide_eq_false hf, Bool.true_and, Bool.false_and]); have q1 : (aG == aH) = false := beq_eq_false_iff_ne.mpr hf; have q2 : (aG = aH) = False := eq_false hf; clear hf HF
    go_wp2
    go_ret
    exact ⟨by rw [HFF.out]; rfl, HB.out⟩
def slices_Equal_64_byte_64_byte.f (l0 l1 : List S26) : Option Bool := some (decide (l0 = l1))
def slices_Equal_64_byte_64_byte.T6 : Bool × List (List Nat × List Nat) := (true, [([], []), ([], []), ([0, 1], [0, 1]), ([2], [2]), ([], []), ([], []), ([4, 5], [4, 5]), ([6], [6]), ([3, 7], [3, 7])])
def slices_Equal_64_byte_64_byte.B6 : List Nat := [0, 0, 3, 7, 0, 0, 48, 112, 255]
theorem slices_Equal_64_byte_64_byte.tab6 : rtab .any (opsOf Try.f29 6) = slices_Equal_64_byte_64_byte.T6 := by kernel_rfl
theorem slices_Equal_64_byte_64_byte.bits6 : waitsOk slices_Equal_64_byte_64_byte.T6.2 slices_Equal_64_byte_64_byte.B6 = true := by kernel_rfl
theorem slices_Equal_64_byte_64_byte.ext {a b : List S26} (h : a.length = b.length) (hq : ∀ j, j < a.length → a.getD j z26 = b.getD j z26) : a = b := by
 refine List.ext_getElem h (fun j h1 h2 => ?_); have := hq j h1
 simpa [List.getD_eq_getElem?_getD, List.getElem?_eq_getElem h1, List.getElem?_eq_getElem h2] using this
theorem slices_Equal_64_byte_64_byte.calls (A0 : Option Addr) (c0 : Nat) (l0 : List S26) (A1 : Option Addr) (c1 : Nat) (l1 : List S26) (r : Bool) (w : World) (hr0 : Kd.C k26 w A0 l0.length l0) (hc0 : l0.length ≤ c0) (hr1 : Kd.C k26 w A1 l1.length l1) (hc1 : l1.length ≤ c1) (h : slices_Equal_64_byte_64_byte.f l0 l1 = some r) :
  Calls Try.prog 29 #[.slice A0 l0.length c0, .slice A1 l1.length c1] w fun e w' => e = .returned (.bool r) ∧ Below w.heap.size w w' := by
 have hu26 := Try.underlying26; have HF := Zq_.mk (show decide (l0 = l1) = r from Option.some.inj h); have HR0 := Zq_.mk hr0; have HR1 := Zq_.mk hr1; have HLM := Zq_.mk hr0.2.1; clear h hr0 hr1; have HB := Zq_.mk (Below.refl w.heap.size w)
 by_cases hn : l0.length = l1.length
 case neg =>
  have HFF := Zq_.mk (show r = false from by rw [← HF.out, decide_eq_false (fun e_ => hn (by rw [e_]))]); have q1 : ((l0.length : Int) = (l1.length : Int)) = False := eq_false (by omega); have q2 : (l0.length = l1.length) = False := eq_false hn; have q3 : ((l0.length : Int) == (l1.length : Int)) = false := beq_eq_false_iff_ne.mpr (by omega); have q4 : ((l0.length : Int) != (l1.length : Int)) = true := bne_iff_ne.mpr (by omega); clear hn HF
  go_enter Try.func29, Try.ntmps29
  go_wp2
  go_ret
  exact ⟨by rw [HFF.out]; rfl, HB.out⟩
 have q1 : ((l0.length : Int) = (l1.length : Int)) = True := eq_true (by omega); have q2 : (l0.length = l1.length) = True := eq_true hn; have q3 : ((l0.length : Int) == (l1.length : Int)) = true := beq_iff_eq.mpr (by omega); have q4 : ((l0.length : Int) != (l1.length : Int)) = false := bne_eq_false_iff_eq.mpr (by omega); have HLN := Zq_.mk hn; clear hn
 go_enter Try.func29, Try.ntmps29
 go_upto_block 0 with fail
 clear q1 q2 q3 q4
 go_wp2
 go_loopg [13] (l0.length + 1) (fun kq v13 w' => ∃ (i : Nat), v13 = .int .i64 (i : Int) ∧ Zq_ (i ≤ l0.length ∧ kq + i = l0.length + 1) ∧ Zq_ (∀ j, j < i → l0.getD j z26 = l1.getD j z26) ∧ Zq_ (Below w.heap.size w w'))
 case atStart => exact ⟨0, by first | rfl | (simp; done), ⟨by omega, by omega⟩, ⟨fun j hj => by omega⟩, HB⟩
 case round =>
  clear HB; obtain ⟨i, rfl, HI, HE, HB⟩ := hrel
  by_cases hi : i < l0.length
  ·obtain ⟨x, hx⟩ : ∃ x_, x_ = l0.getD i z26 := ⟨_, rfl⟩; obtain ⟨y, hy⟩ : ∃ x_, x_ = l1.getD i z26 := ⟨_, rfl⟩; obtain ⟨ad, hA, hxl, hcx⟩ := elem_cells (Kd.C_below HR0.out HB.out) z26 (i : Int) (by omega) (by omega); obtain ⟨ae, hA2, hyl, hcy⟩ := elem_cells (Kd.C_below HR1.out HB.out) z26 (i : Int) (by omega) (by have := HLN.out; omega); rw [Int.toNat_natCast] at hxl hcx hyl hcy; rw [← hx] at hxl hcx; rw [← hy] at hyl hcy; subst hA; subst hA2; obtain ⟨nb, hnb⟩ : ∃ n_, (!decide (x = y)) = n_ := ⟨_, rfl⟩; have HNB := Zq_.mk hnb; have HXL := Zq_.mk hxl; have HYL := Zq_.mk hyl; have HCX := Zq_.mk hcx; have HCY := Zq_.mk hcy; have HII := Zq_.mk hi; have HX := Zq_.mk hx; have HY := Zq_.mk hy; have HWR := Zq_.mk (show wrap64 ((i : Int) + 1) = ((i + 1 : Nat) : Int) by have := HLM.out; unfold wrap64; omega); have j1 : decide ((i : Int) < (l0.length : Int)) = true := decide_eq_true (by omega); have j2 : ((i : Int) < (l0.length : Int)) = True := eq_true (by omega); have j3 : (i < l0.length) = True := eq_true hi; have j4 : decide (i < l0.length) = true := decide_eq_true hi; clear hnb hxl hyl hcx hcy hi hx hy
   go_upto_region 6 with fail
   clear j1 j2 j3 j4; have n2_ := Zq_.mk (below_drew1 HB.out); have n3_ := Zq_.mk (show ∀ j v, (x.map (Value.int .u8))[j]? = some v → wr.drew.cell? ((ad.add (i * 64)).add j) = some v from fun j v h_ => pw_cell_below (below_drew1 (Below.refl _ _)) (HCX.out j v h_)); have n4_ := Zq_.mk (show ∀ j v, (y.map (Value.int .u8))[j]? = some v → wr.drew.cell? ((ae.add (i * 64)).add j) = some v from fun j v h_ => pw_cell_below (below_drew1 (Below.refl _ _)) (HCY.out j v h_)); clear HB HCX HCY; have HB := n2_; have HCX := n3_; have HCY := n4_; clear n2_ n3_ n4_; refine start_ (n := 9) (S := fun W => (∀ j v, (x.map (Value.int .u8))[j]? = some v → W.cell? ((ad.add (i * 64)).add j) = some v) ∧ (∀ j v, (y.map (Value.int .u8))[j]? = some v → W.cell? ((ae.add (i * 64)).add j) = some v)) (ds := []) (bz_ 9 0) (by kernel_rfl) rfl rfl ⟨HCX.out, HCY.out⟩ (fun hHeld => ?_); refine with_tabW slices_Equal_64_byte_64_byte.tab6 slices_Equal_64_byte_64_byte.bits6 (fun HT_ HW_ => ?_); generalize wr.drew = w8 at HB HCX HCY hHeld ⊢; refine pure_ (i := 0) (N := some 16) (v := (.slice (some ad) l0.length c0)) (a' := ?_) (bz_ 9 1) rfl rfl (any_of HT_.out (by kernel_rfl)) (fun _ _ _ h => h) ?_ ?_ ?_
   ·refine Or.inl ⟨by rfl, ?_⟩; intro w'
    first | (go_simp; done) | (go_simp; with_reducible rfl) | (go_simp; rfl)
   rotate_left; (focus simp only [Act.put, sa_, sb_, sc_, i64_w, i32_w]; rfl); refine pure_ (i := 1) (N := some 17) (v := (.int .i64 (i : Int))) (a' := ?_) (bz_ 9 3) rfl rfl (any_of HT_.out (by kernel_rfl)) (fun _ _ _ h => h) ?_ ?_ ?_
   ·refine Or.inl ⟨by rfl, ?_⟩; intro w'
    first | (go_simp; done) | (go_simp; with_reducible rfl) | (go_simp; rfl)
   rotate_left; (focus simp only [Act.put, sa_, sb_, sc_, i64_w, i32_w]; rfl); refine pure_ (i := 2) (N := some 18) (v := (.pointer (some (ad.add (i * 64))))) (a' := ?_) (bz_ 9 7) rfl rfl (any_of HT_.out (by kernel_rfl)) (fun _ _ _ h => h) ?_ ?_ ?_
   ·refine Or.inl ⟨by rfl, ?_⟩; intro w'; have hi_ := HII.out; have hn_ := HLN.out; have j1 : decide ((i : Int) < (l0.length : Int)) = true := decide_eq_true (by omega); have j2 : ((i : Int) < (l0.length : Int)) = True := eq_true (by omega); have j3 : (i < l0.length) = True := eq_true (by omega); have j4 : decide (i < l0.length) = true := decide_eq_true (by omega); have j5 : (l0.length ≤ i) = False := eq_false (by omega); clear hi_ hn_
    first | (go_simp; done) | (go_simp; with_reducible rfl) | (go_simp; rfl)
   rotate_left; (focus simp only [Act.put, sa_, sb_, sc_, i64_w, i32_w]; rfl); refine take_ (i := 3) (N := some 19) (v := (aggN .u8 x)) (a' := ?_) (bz_ 9 15) rfl rfl (take_ofW HT_.out HW_.out (by kernel_rfl)) (fun _ _ _ h => h) ?_ hHeld ?_ ?_
   ·refine Or.inl ⟨by rfl, ?_⟩; rintro w' ⟨s2, s3⟩; exact exec_load_elem rfl (by first | rfl | (go_simp; done) | (go_simp; rfl)) s2 hu26 (by rw [HXL.out]; kernel_rfl)
   rotate_left; (focus simp only [Act.put, sa_, sb_, sc_, i64_w, i32_w]; rfl); refine pure_ (i := 4) (N := some 20) (v := (.slice (some ae) l1.length c1)) (a' := ?_) (bz_ 9 31) rfl rfl (any_of HT_.out (by kernel_rfl)) (fun _ _ _ h => h) ?_ ?_ ?_
   ·refine Or.inl ⟨by rfl, ?_⟩; intro w'
    first | (go_simp; done) | (go_simp; with_reducible rfl) | (go_simp; rfl)
   rotate_left; (focus simp only [Act.put, sa_, sb_, sc_, i64_w, i32_w]; rfl); refine pure_ (i := 5) (N := some 21) (v := (.int .i64 (i : Int))) (a' := ?_) (bz_ 9 63) rfl rfl (any_of HT_.out (by kernel_rfl)) (fun _ _ _ h => h) ?_ ?_ ?_
   ·refine Or.inl ⟨by rfl, ?_⟩; intro w'
    first | (go_simp; done) | (go_simp; with_reducible rfl) | (go_simp; rfl)
   rotate_left; (focus simp only [Act.put, sa_, sb_, sc_, i64_w, i32_w]; rfl); refine pure_ (i := 6) (N := some 22) (v := (.pointer (some (ae.add (i * 64))))) (a' := ?_) (bz_ 9 127) rfl rfl (any_of HT_.out (by kernel_rfl)) (fun _ _ _ h => h) ?_ ?_ ?_
   ·refine Or.inl ⟨by rfl, ?_⟩; intro w'; have hi_ := HII.out; have hn_ := HLN.out; have j1 : decide ((i : Int) < (l1.length : Int)) = true := decide_eq_true (by omega); have j2 : ((i : Int) < (l1.length : Int)) = True := eq_true (by omega); have j3 : (i < l1.length) = True := eq_true (by omega); have j4 : decide (i < l1.length) = true := decide_eq_true (by omega); have j5 : (l1.length ≤ i) = False := eq_false (by omega); clear hi_ hn_
    first | (go_simp; done) | (go_simp; with_reducible rfl) | (go_simp; rfl)
   rotate_left; (focus simp only [Act.put, sa_, sb_, sc_, i64_w, i32_w]; rfl); refine take_ (i := 7) (N := some 23) (v := (aggN .u8 y)) (a' := ?_) (bz_ 9 255) rfl rfl (take_ofW HT_.out HW_.out (by kernel_rfl)) (fun _ _ _ h => h) ?_ hHeld ?_ ?_
   ·refine Or.inl ⟨by rfl, ?_⟩; rintro w' ⟨s2, s3⟩; exact exec_load_elem rfl (by first | rfl | (go_simp; done) | (go_simp; rfl)) s3 hu26 (by rw [HYL.out]; kernel_rfl)
   rotate_left; (focus simp only [Act.put, sa_, sb_, sc_, i64_w, i32_w]; rfl); refine pure_ (i := 8) (N := some 24) (v := (.bool nb)) (a' := ?_) (bz_ 9 511) rfl rfl (any_of HT_.out (by kernel_rfl)) (fun _ _ _ h => h) ?_ ?_ ?_
   ·refine Or.inl ⟨by rfl, ?_⟩; intro w'; have e_ := HNB.out; obtain ⟨ti, hti, _⟩ := Option.map_eq_some_iff.1 info5; rw [← e_]; exact exec_neq_ints w' rfl hu26 (by kernel_rfl) Try.underlying5 (by kernel_rfl) hti (by kernel_rfl) x y HXL.out HYL.out (by first | rfl | (go_simp; done) | (go_simp; rfl)) (by first | rfl | (go_simp; done) | (go_simp; rfl))
   rotate_left; (focus simp only [Act.put, sa_, sb_, sc_, i64_w, i32_w]; rfl); refine dN_ HT_ ?_; clear hHeld HT_ HW_
   cases nb with
   | true =>
    have HFF := Zq_.mk (show r = false from by
     rw [← HF.out]
     have hne : x ≠ y := fun e_ => by have := HNB.out; rw [decide_eq_true e_] at this; cases this
     rw [decide_eq_false (fun e_ => hne (by rw [HX.out, HY.out, e_]))])
    go_wp2
    go_ret
    exact ⟨by rw [HFF.out]; rfl, HB.out⟩
   | false =>
    have HXY := Zq_.mk (show x = y from by
     have := HNB.out
     by_cases he : x = y
     ·exact he
     ·rw [decide_eq_false he] at this; cases this)
    go_wp2
    go_roundg (l0.length - i)
    case measure => have := HI.out.2; have := HII.out; omega
    case rel => exact ⟨i + 1, by first | rfl | exact congrArg (Value.int .i64) HWR.out, ⟨by have := HII.out; omega, by have := HI.out.2; have := HII.out; omega⟩, ⟨fun j hj => by
     rcases Nat.lt_or_ge j i with h_ | h_
     ·exact HE.out j h_
     ·obtain rfl : j = i := by omega
      rw [← HX.out, ← HY.out, HXY.out]⟩, HB⟩
  ·have hi2 : i = l0.length := by have := HI.out.1; omega
   subst hi2; have HLL := Zq_.mk (slices_Equal_64_byte_64_byte.ext HLN.out HE.out); have HFF := Zq_.mk (show r = true from by rw [← HF.out, decide_eq_true HLL.out]); clear hi HF
   go_wp2
   go_ret
   exact ⟨by rw [HFF.out]; rfl, HB.out⟩
def block_asked.f (aB : List (S26)) (aD : Int) (aC : Bool) (a1 : Int) : Option (Int) := (block_up.f aB aD aC).bind fun aE => (if aE = 0 then (if a1 < 0 then (some 1) else (if a1 ≥ (aB.length : Int) then (some 1) else (some 0))) else (some aE))
theorem block_asked.calls (aG : Option Addr) (aF : Nat) (aB : List (S26)) (aD : Int) (aC : Bool) (a1 : Int) (r : Int) (w : World) (aM : Kd.C k26 w aG aB.length aB) (aN : aB.length ≤ aF) (h : block_asked.f aB aD aC a1 = some r) :
  Calls Try.prog 24 #[.agg #[.slice aG aB.length aF, .int .i64 aD, .bool aC], .int .i64 a1] w fun e w' => e = .returned (.int .i64 r) ∧ Below w.heap.size w w' := by
 have hu24 := Try.underlying24; have aH := Zq_.mk aM; have aI := Zq_.mk aN; clear aM aN; have HB := Zq_.mk (Below.refl w.heap.size w); have H : ((block_up.f aB aD aC).bind fun aE => (if aE = 0 then (if a1 < 0 then (some 1) else (if a1 ≥ (aB.length : Int) then (some 1) else (some 0))) else (some aE))) = some r := h; clear h; replace H := ob_ H; obtain ⟨aE, A30, H⟩ := H; (try dsimp only at H); have A3 := Zq_.mk A30; clear A30
 by_cases c4 : aE = 0
 ·rw [if_pos c4] at H; have c4b0 : (aE == 0) = true := beq_iff_eq.mpr c4; have c4b1 : (aE != 0) = false := bne_eq_false_iff_eq.mpr c4; clear c4
  by_cases c5 : a1 < 0
  ·rw [if_pos c5] at H; have c5b0 : decide (a1 < 0) = true := decide_eq_true c5; clear c5; obtain rfl := Option.some.inj H
   go_enter Try.func24, Try.ntmps24
   go_wp2_with (first | ((with_reducible refine qc_ (N := 2) rfl ?_); (try (refine qe_ (by rfl) ?_; dsimp only)); refine bE_ 2 #[.slice aG aB.length aF, .int .i64 aD, .bool aC] 24 ?_; intro aJ hg w6 hbox hb; have aA := Zq_.mk (hbox); have aK := gW_ (w := w) hg (hB_ HB); have aL := gW_ (w := w) hg (hB_ HB); replace HB := sB_ HB hb; clear hb hbox hg; obtain ⟨hcz7_0, hcz7_1, hcz7_2⟩ := c3_ aA; obtain ⟨hfz7_0, hfz7_1, hfz7_2⟩ := f3_ aA) | ((with_reducible refine gate_callee (f := 27) rfl ?_); refine goesL_ (some 7) rfl rfl Try.func27 (by kernel_rfl) rfl #[.agg #[.slice aG aB.length aF, .int .i64 aD, .bool aC]] rfl aR_ ?_; (with_reducible refine (block_up.calls _ _ aB aD aC aE _ ?side1 ?side2 A3.out).mono ?_); (case side1 => exact cX_ (Kd.C_below aH.out HB.out)); (case side2 => exact aI.out); rintro e w8 ⟨rfl, hb⟩; refine ⟨_, rfl, ?_⟩; replace aA := kB_ aA hb; replace HB := sB_ HB hb; (try clear hb)))
   go_ret
   exact ⟨by exact eW_, by exact hSet_ HB⟩
  ·rw [if_neg c5] at H; have c5b0 : decide (a1 < 0) = false := decide_eq_false c5; clear c5
   by_cases c9 : a1 ≥ (aB.length : Int)
   ·rw [if_pos c9] at H; have c9b0 : decide ((aB.length : Int) ≤ a1) = true := decide_eq_true c9; clear c9; obtain rfl := Option.some.inj H
    go_enter Try.func24, Try.ntmps24
    go_wp2_with (first | ((with_reducible refine qc_ (N := 2) rfl ?_); (try (refine qe_ (by rfl) ?_; dsimp only)); refine bE_ 2 #[.slice aG aB.length aF, .int .i64 aD, .bool aC] 24 ?_; intro aJ hg w10 hbox hb; have aA := Zq_.mk (hbox); have aK := gW_ (w := w) hg (hB_ HB); have aL := gW_ (w := w) hg (hB_ HB); replace HB := sB_ HB hb; clear hb hbox hg; obtain ⟨hcz11_0, hcz11_1, hcz11_2⟩ := c3_ aA; obtain ⟨hfz11_0, hfz11_1, hfz11_2⟩ := f3_ aA) | ((with_reducible refine gate_callee (f := 27) rfl ?_); refine goesL_ (some 7) rfl rfl Try.func27 (by kernel_rfl) rfl #[.agg #[.slice aG aB.length aF, .int .i64 aD, .bool aC]] rfl aR_ ?_; (with_reducible refine (block_up.calls _ _ aB aD aC aE _ ?side1 ?side2 A3.out).mono ?_); (case side1 => exact cX_ (Kd.C_below aH.out HB.out)); (case side2 => exact aI.out); rintro e w12 ⟨rfl, hb⟩; refine ⟨_, rfl, ?_⟩; replace aA := kB_ aA hb; replace HB := sB_ HB hb; (try clear hb); obtain ⟨hcz13_0, hcz13_1, hcz13_2⟩ := c3_ aA; obtain ⟨hfz13_0, hfz13_1, hfz13_2⟩ := f3_ aA))
    go_ret
    exact ⟨by exact eW_, by exact hSet_ HB⟩
   ·rw [if_neg c9] at H; have c9b0 : decide ((aB.length : Int) ≤ a1) = false := decide_eq_false c9; clear c9; obtain rfl := Option.some.inj H
    go_enter Try.func24, Try.ntmps24
    go_wp2_with (first | ((with_reducible refine qc_ (N := 2) rfl ?_); (try (refine qe_ (by rfl) ?_; dsimp only)); refine bE_ 2 #[.slice aG aB.length aF, .int .i64 aD, .bool aC] 24 ?_; intro aJ hg w14 hbox hb; have aA := Zq_.mk (hbox); have aK := gW_ (w := w) hg (hB_ HB); have aL := gW_ (w := w) hg (hB_ HB); replace HB := sB_ HB hb; clear hb hbox hg; obtain ⟨hcz15_0, hcz15_1, hcz15_2⟩ := c3_ aA; obtain ⟨hfz15_0, hfz15_1, hfz15_2⟩ := f3_ aA) | ((with_reducible refine gate_callee (f := 27) rfl ?_); refine goesL_ (some 7) rfl rfl Try.func27 (by kernel_rfl) rfl #[.agg #[.slice aG aB.length aF, .int .i64 aD, .bool aC]] rfl aR_ ?_; (with_reducible refine (block_up.calls _ _ aB aD aC aE _ ?side1 ?side2 A3.out).mono ?_); (case side1 => exact cX_ (Kd.C_below aH.out HB.out)); (case side2 => exact aI.out); rintro e w16 ⟨rfl, hb⟩; refine ⟨_, rfl, ?_⟩; replace aA := kB_ aA hb; replace HB := sB_ HB hb; (try clear hb); obtain ⟨hcz17_0, hcz17_1, hcz17_2⟩ := c3_ aA; obtain ⟨hfz17_0, hfz17_1, hfz17_2⟩ := f3_ aA))
    go_ret
    exact ⟨by exact eW_, by exact hSet_ HB⟩
 ·rw [if_neg c4] at H; have c4b0 : (aE == 0) = false := beq_eq_false_iff_ne.mpr c4; have c4b1 : (aE != 0) = true := bne_iff_ne.mpr c4; obtain rfl := Option.some.inj H
  go_enter Try.func24, Try.ntmps24
  go_wp2_with (first | ((with_reducible refine qc_ (N := 2) rfl ?_); (try (refine qe_ (by rfl) ?_; dsimp only)); refine bE_ 2 #[.slice aG aB.length aF, .int .i64 aD, .bool aC] 24 ?_; intro aJ hg w18 hbox hb; have aA := Zq_.mk (hbox); have aK := gW_ (w := w) hg (hB_ HB); have aL := gW_ (w := w) hg (hB_ HB); replace HB := sB_ HB hb; clear hb hbox hg; obtain ⟨hcz19_0, hcz19_1, hcz19_2⟩ := c3_ aA; obtain ⟨hfz19_0, hfz19_1, hfz19_2⟩ := f3_ aA) | ((with_reducible refine gate_callee (f := 27) rfl ?_); refine goesL_ (some 7) rfl rfl Try.func27 (by kernel_rfl) rfl #[.agg #[.slice aG aB.length aF, .int .i64 aD, .bool aC]] rfl aR_ ?_; (with_reducible refine (block_up.calls _ _ aB aD aC aE _ ?side1 ?side2 A3.out).mono ?_); (case side1 => exact cX_ (Kd.C_below aH.out HB.out)); (case side2 => exact aI.out); rintro e w20 ⟨rfl, hb⟩; refine ⟨_, rfl, ?_⟩; replace aA := kB_ aA hb; replace HB := sB_ HB hb; (try clear hb)))
  go_ret
  exact ⟨by exact eW_, by exact hSet_ HB⟩
end Go.Proofs.Ytckodbfjihcddaa.P

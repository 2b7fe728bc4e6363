/- What this function of the program comes to, and that the machine's call does it. No condition. -/
import Derived.Test.YtgipbmjkgciccaaP0
import Derived.Test.YtgipbmjkgciccaaHw
namespace Go.Proofs.Ytgipbmjkgciccaa.P
set_option maxHeartbeats 8000000
set_option maxRecDepth 100000
open Go.RowKit Go.Proofs.YtgipbmjkgciccaaW.PrintWords Go.Proofs.YtgipbmjkgciccaaW.PrintLast Go.Proofs.YtgipbmjkgciccaaW.PrintMore
attribute [local go_sem] max2_int min2_int max_two min_two max_three min_three max_four min_four Go.Proofs.YtgipbmjkgciccaaW.Hw.string_gtr
set_option linter.unusedVariables false
set_option linter.unusedSimpArgs false
def ref04_May.f (a0_0 : Int) (a0_1 : Int) (a0_2 : ByteArray) : Option (Bool) := if a0_0 ≥ 0 then (if a0_0 < 12 then (if a0_1 ≥ 1 then (if a0_1 ≤ 1099511627776 then (some (decide ((a0_2.size : Int) ≤ 200))) else (some false)) else (some false)) else (some false)) else (some false)
theorem ref04_May.calls (a0_0 : Int) (a0_1 : Int) (a0_2 : ByteArray) (r : Bool) (w : World) (h : ref04_May.f a0_0 a0_1 a0_2 = some r) :
  Calls Try.prog 71 #[.agg #[.int .i64 a0_0, .int .i64 a0_1, .string a0_2]] w fun e w' => e = .returned (.bool r) ∧ Below w.heap.size w w' := by
 have hu58 := Try.underlying58; have HB := Zq_.mk (Below.refl w.heap.size w); have H : (if a0_0 ≥ 0 then (if a0_0 < 12 then (if a0_1 ≥ 1 then (if a0_1 ≤ 1099511627776 then (some (decide ((a0_2.size : Int) ≤ 200))) else (some false)) else (some false)) else (some false)) else (some false)) = some r := h; clear h
 by_cases c2 : a0_0 ≥ 0
 ·rw [if_pos c2] at H; have c2b0 : decide (0 ≤ a0_0) = true := decide_eq_true c2; clear c2
  by_cases c3 : a0_0 < 12
  ·rw [if_pos c3] at H; have c3b0 : decide (a0_0 < 12) = true := decide_eq_true c3; clear c3
   by_cases c4 : a0_1 ≥ 1
   ·rw [if_pos c4] at H; have c4b0 : decide (1 ≤ a0_1) = true := decide_eq_true c4; clear c4
    by_cases c5 : a0_1 ≤ 1099511627776
    ·rw [if_pos c5] at H; have c5b0 : decide (a0_1 ≤ 1099511627776) = true := decide_eq_true c5; clear c5; obtain rfl := Option.some.inj H
     go_enter Try.func71, Try.ntmps71
     go_wp2_with (first | ((with_reducible refine qq_ (N := 1) rfl ?_); (try (refine gate_guard (by rfl) ?_; dsimp only)); refine qo_ ?hg (N := 1) ?hd (cs := #[.int .i64 a0_0, .int .i64 a0_1, .string a0_2]) (t := 58) ?hr ?_; (case hd => rfl); (case hg => rfl); (case hr => first | (go_simp; done) | (go_simp; rfl)); intro gb101 hg w6 hbox hb; have BK101 := Zq_.mk (hbox); have GW101 := gW_ (w := w) hg (hB_ HB); have GE101 := gW_ (w := w) hg (hB_ HB); replace HB := Zq_.mk (ql_ (hB_ HB) hb); clear hb hbox hg; have hcz7_0 := cz_ BK101 0 (.int .i64 a0_0); have hcz7_1 := cz_ BK101 1 (.int .i64 a0_1); have hcz7_2 := cz_ BK101 2 (.string a0_2); have hfz7_0 := qe_ BK101.out 0; have hfz7_1 := qe_ BK101.out 1; have hfz7_2 := qe_ BK101.out 2))
     go_ret
     exact ⟨by first | rfl | (simp [errW_none, errW_some] <;> rfl) | (simp [*, errW_none, errW_some] <;> rfl), by exact hSet_ HB⟩
    ·rw [if_neg c5] at H; have c5b0 : decide (a0_1 ≤ 1099511627776) = false := decide_eq_false c5; clear c5; obtain rfl := Option.some.inj H
     go_enter Try.func71, Try.ntmps71
     go_wp2_with (first | ((with_reducible refine qq_ (N := 1) rfl ?_); (try (refine gate_guard (by rfl) ?_; dsimp only)); refine qo_ ?hg (N := 1) ?hd (cs := #[.int .i64 a0_0, .int .i64 a0_1, .string a0_2]) (t := 58) ?hr ?_; (case hd => rfl); (case hg => rfl); (case hr => first | (go_simp; done) | (go_simp; rfl)); intro gb101 hg w8 hbox hb; have BK101 := Zq_.mk (hbox); have GW101 := gW_ (w := w) hg (hB_ HB); have GE101 := gW_ (w := w) hg (hB_ HB); replace HB := Zq_.mk (ql_ (hB_ HB) hb); clear hb hbox hg; have hcz9_0 := cz_ BK101 0 (.int .i64 a0_0); have hcz9_1 := cz_ BK101 1 (.int .i64 a0_1); have hcz9_2 := cz_ BK101 2 (.string a0_2); have hfz9_0 := qe_ BK101.out 0; have hfz9_1 := qe_ BK101.out 1; have hfz9_2 := qe_ BK101.out 2))
     go_ret
     exact ⟨by first | rfl | (simp [errW_none, errW_some] <;> rfl) | (simp [*, errW_none, errW_some] <;> rfl), by exact hSet_ HB⟩
   ·rw [if_neg c4] at H; have c4b0 : decide (1 ≤ a0_1) = false := decide_eq_false c4; clear c4; obtain rfl := Option.some.inj H
    go_enter Try.func71, Try.ntmps71
    go_wp2_with (first | ((with_reducible refine qq_ (N := 1) rfl ?_); (try (refine gate_guard (by rfl) ?_; dsimp only)); refine qo_ ?hg (N := 1) ?hd (cs := #[.int .i64 a0_0, .int .i64 a0_1, .string a0_2]) (t := 58) ?hr ?_; (case hd => rfl); (case hg => rfl); (case hr => first | (go_simp; done) | (go_simp; rfl)); intro gb101 hg w10 hbox hb; have BK101 := Zq_.mk (hbox); have GW101 := gW_ (w := w) hg (hB_ HB); have GE101 := gW_ (w := w) hg (hB_ HB); replace HB := Zq_.mk (ql_ (hB_ HB) hb); clear hb hbox hg; have hcz11_0 := cz_ BK101 0 (.int .i64 a0_0); have hcz11_1 := cz_ BK101 1 (.int .i64 a0_1); have hcz11_2 := cz_ BK101 2 (.string a0_2); have hfz11_0 := qe_ BK101.out 0; have hfz11_1 := qe_ BK101.out 1; have hfz11_2 := qe_ BK101.out 2))
    go_ret
    exact ⟨by first | rfl | (simp [errW_none, errW_some] <;> rfl) | (simp [*, errW_none, errW_some] <;> rfl), by exact hSet_ HB⟩
  ·rw [if_neg c3] at H; have c3b0 : decide (a0_0 < 12) = false := decide_eq_false c3; clear c3; obtain rfl := Option.some.inj H
   go_enter Try.func71, Try.ntmps71
   go_wp2_with (first | ((with_reducible refine qq_ (N := 1) rfl ?_); (try (refine gate_guard (by rfl) ?_; dsimp only)); refine qo_ ?hg (N := 1) ?hd (cs := #[.int .i64 a0_0, .int .i64 a0_1, .string a0_2]) (t := 58) ?hr ?_; (case hd => rfl); (case hg => rfl); (case hr => first | (go_simp; done) | (go_simp; rfl)); intro gb101 hg w12 hbox hb; have BK101 := Zq_.mk (hbox); have GW101 := gW_ (w := w) hg (hB_ HB); have GE101 := gW_ (w := w) hg (hB_ HB); replace HB := Zq_.mk (ql_ (hB_ HB) hb); clear hb hbox hg; have hcz13_0 := cz_ BK101 0 (.int .i64 a0_0); have hcz13_1 := cz_ BK101 1 (.int .i64 a0_1); have hcz13_2 := cz_ BK101 2 (.string a0_2); have hfz13_0 := qe_ BK101.out 0; have hfz13_1 := qe_ BK101.out 1; have hfz13_2 := qe_ BK101.out 2))
   go_ret
   exact ⟨by first | rfl | (simp [errW_none, errW_some] <;> rfl) | (simp [*, errW_none, errW_some] <;> rfl), by exact hSet_ HB⟩
 ·rw [if_neg c2] at H; have c2b0 : decide (0 ≤ a0_0) = false := decide_eq_false c2; clear c2; obtain rfl := Option.some.inj H
  go_enter Try.func71, Try.ntmps71
  go_wp2_with (first | ((with_reducible refine qq_ (N := 1) rfl ?_); (try (refine gate_guard (by rfl) ?_; dsimp only)); refine qo_ ?hg (N := 1) ?hd (cs := #[.int .i64 a0_0, .int .i64 a0_1, .string a0_2]) (t := 58) ?hr ?_; (case hd => rfl); (case hg => rfl); (case hr => first | (go_simp; done) | (go_simp; rfl)); intro gb101 hg w14 hbox hb; have BK101 := Zq_.mk (hbox); have GW101 := gW_ (w := w) hg (hB_ HB); have GE101 := gW_ (w := w) hg (hB_ HB); replace HB := Zq_.mk (ql_ (hB_ HB) hb); clear hb hbox hg; have hcz15_0 := cz_ BK101 0 (.int .i64 a0_0); have hcz15_1 := cz_ BK101 1 (.int .i64 a0_1); have hcz15_2 := cz_ BK101 2 (.string a0_2); have hfz15_0 := qe_ BK101.out 0; have hfz15_1 := qe_ BK101.out 1; have hfz15_2 := qe_ BK101.out 2))
  go_ret
  exact ⟨by first | rfl | (simp [errW_none, errW_some] <;> rfl) | (simp [*, errW_none, errW_some] <;> rfl), by exact hSet_ HB⟩
def ref04_Right.l0 : Nat → List (S58) → Int → Option (Bool)
 | 0, _, _ => none
 | k + 1, x0, x3 => if x3 < (x0.length : Int) then (if 0 ≤ x3 then ((ref04_May.f ((rd_T58 x0 x3).f0) ((rd_T58 x0 x3).f1) ((rd_T58 x0 x3).f2)).bind fun t102 => (if t102 = true then (if x3 > 0 then (if 0 ≤ (wrap64 (x3 - 1)) then (if (wrap64 (x3 - 1)) < (x0.length : Int) then (if ((rd_T58 x0 (wrap64 (x3 - 1))).f0) ≥ ((rd_T58 x0 x3).f0) then (some false) else (ref04_Right.l0 k x0 (wrap64 (x3 + 1)))) else (none)) else (none)) else (ref04_Right.l0 k x0 (wrap64 (x3 + 1)))) else (some false))) else (none)) else (some true)
def ref04_Right.f (k : Nat) (l0 : List (S58)) : Option (Bool) := ref04_Right.l0 k l0 0
theorem ref04_Right.mono_l : ∀ k, (∀ y0 y1, LeO (ref04_Right.l0 k y0 y1) (ref04_Right.l0 (k + 1) y0 y1))
 | 0 => fun _ _ r h => by simp [ref04_Right.l0] at h
 | k + 1 => by
  have ih0 := ref04_Right.mono_l k
  ·intro y0 y1
   unfold ref04_Right.l0
   repeat' first
   | (with_reducible exact ih0 _ _)
   | (with_reducible exact LeO.refl _)
   | (with_reducible exact LeO.none _)
   | (with_reducible refine LeO.ite ?_ ?_)
   | (with_reducible refine LeO.bind ?_ (fun _ => ?_))
   | exact ih0 _ _
   | exact LeO.none _
   | refine LeO.ite ?_ ?_
   | refine LeO.bind ?_ (fun _ => ?_)
theorem ref04_Right.mono : ∀ a0 k, LeO (ref04_Right.f k a0) (ref04_Right.f (k + 1) a0) := by
 intro a0 k; have ih0 := ref04_Right.mono_l k
 unfold ref04_Right.f
 repeat' first
   | (with_reducible exact ih0 _ _)
   | (with_reducible exact LeO.refl _)
   | (with_reducible exact LeO.none _)
   | (with_reducible refine LeO.ite ?_ ?_)
   | (with_reducible refine LeO.bind ?_ (fun _ => ?_))
   | exact ih0 _ _
   | exact LeO.none _
   | refine LeO.ite ?_ ?_
   | refine LeO.bind ?_ (fun _ => ?_)
def ref04_Right.T4 : Bool × List (List Nat × List Nat) := (true, [([], []), ([], []), ([0, 1], [0, 1]), ([2], [2]), ([3], [3]), ([4], [4]), ([5, 4], [5]), ([6], [6]), ([7, 6], [6, 7]), ([8, 6, 6], [6, 8]), ([9], [9]), ([9], [9]), ([11, 9], [9, 11]), ([10, 12, 9], [9, 10, 12]), ([13, 9], [9, 13]), ([14, 9], [9, 14]), ([9], [9]), ([9], [9]), ([16, 17, 9], [9, 16, 17]), ([18, 9], [9, 18]), ([19, 9], [9, 19]), ([15, 20, 9], [9, 15, 20]), ([9, 21, 6], [6, 9, 21]), ([6, 22], [6, 22])])
def ref04_Right.B4 : List Nat := [0, 0, 3, 7, 15, 31, 63, 127, 255, 511, 1023, 1023, 3071, 8191, 16383, 32767, 1023, 1023, 197631, 459775, 984063, 2097151, 4194303, 8388607]
theorem ref04_Right.tab4 : rtab .any (opsOf Try.f56 4) = ref04_Right.T4 := by kernel_rfl
theorem ref04_Right.bits4 : waitsOk ref04_Right.T4.2 ref04_Right.B4 = true := by kernel_rfl
theorem ref04_Right.calls (k : Nat) (A0 : Option Addr) (c0 : Nat) (l0 : List (S58)) (r : Bool) (w : World) (hr0 : Kd.C k58 w A0 l0.length l0) (hc0 : l0.length ≤ c0) (h : ref04_Right.f k l0 = some r) :
  Calls Try.prog 56 #[.slice A0 l0.length c0] w fun e w' => e = .returned (.bool r) ∧ Below w.heap.size w w' := by
 have hu58 := Try.underlying58; have HR0 := Zq_.mk hr0; have HC0 := Zq_.mk hc0; clear hr0 hc0; have HB := Zq_.mk (Below.refl w.heap.size w); have H : (ref04_Right.l0 k l0 0) = some r := h; clear h; have H' := Zq_.mk H; clear H
 go_enter Try.func56, Try.ntmps56
 go_wp2
 go_loopg [3] k (fun kq v3 w' => ∃ (x3_1 : Int), v3 = .int .i64 x3_1 ∧ Zq_ (ref04_Right.l0 kq l0 x3_1 = some r) ∧ Zq_ (kq ≤ k) ∧ Zq_ (Below w.heap.size w w'))
 case atStart => exact ⟨(0), (by first | rfl | (simp; done) | (simp [*]; done)), H', ⟨Nat.le_refl _⟩, ⟨hB_ HB⟩⟩
 case round =>
  clear H'; obtain ⟨x3_1, rfl, HA, HK1, HB⟩ := hrel
  cases gk with
  | zero => exact absurd HA.out (by simp [ref04_Right.l0])
  | succ k1 =>
   have H := HA.out; clear HA; simp only [ref04_Right.l0] at H
   by_cases c2 : x3_1 < (l0.length : Int)
   ·rw [if_pos c2] at H; have c2b0 : decide (x3_1 < (l0.length : Int)) = true := decide_eq_true c2; clear c2
    by_cases c3 : 0 ≤ x3_1
    ·rw [if_pos c3] at H; have c3b0 : decide (0 ≤ x3_1) = true := decide_eq_true c3; clear c3; replace H := ob_ H; obtain ⟨t102, A40, H⟩ := H; replace H : (if t102 = true then (if x3_1 > 0 then (if 0 ≤ (wrap64 (x3_1 - 1)) then (if (wrap64 (x3_1 - 1)) < (l0.length : Int) then (if ((rd_T58 l0 (wrap64 (x3_1 - 1))).f0) ≥ ((rd_T58 l0 x3_1).f0) then (some false) else (ref04_Right.l0 k1 l0 (wrap64 (x3_1 + 1)))) else (none)) else (none)) else (ref04_Right.l0 k1 l0 (wrap64 (x3_1 + 1)))) else (some false)) = some r := H; have A4 := Zq_.mk A40; clear A40
     by_cases c5 : t102 = true
     ·subst c5
      have H1 : (if x3_1 > 0 then (if 0 ≤ (wrap64 (x3_1 - 1)) then (if (wrap64 (x3_1 - 1)) < (l0.length : Int) then (if ((rd_T58 l0 (wrap64 (x3_1 - 1))).f0) ≥ ((rd_T58 l0 x3_1).f0) then (some false) else (ref04_Right.l0 k1 l0 (wrap64 (x3_1 + 1)))) else (none)) else (none)) else (ref04_Right.l0 k1 l0 (wrap64 (x3_1 + 1)))) = some r := by rw [if_pos rfl] at H; exact H
      clear H; have H := H1; clear H1
      by_cases c6 : x3_1 > 0
      ·rw [if_pos c6] at H; have c6b0 : decide (0 < x3_1) = true := decide_eq_true c6; clear c6; obtain ⟨ji7, hji7⟩ : ∃ j_ : Int, (wrap64 (x3_1 - 1)) = j_ := ⟨_, rfl⟩
       replace H : (if 0 ≤ (ji7) then (if (ji7) < (l0.length : Int) then (if ((rd_T58 l0 (ji7)).f0) ≥ ((rd_T58 l0 x3_1).f0) then (some false) else (ref04_Right.l0 k1 l0 (wrap64 (x3_1 + 1)))) else (none)) else (none)) = some r := by first | (rw [hji7] at H; exact H) | (simp only [hji7] at H ⊢; exact H)
       (try rw [hji7] at A4); have hji7w : (IntKind.i64.wrap (x3_1 - 1)) = ji7 := (i64_w _).trans hji7
       by_cases c8 : 0 ≤ (ji7)
       ·rw [if_pos c8] at H; have c8b0 : decide (0 ≤ (ji7)) = true := decide_eq_true c8; clear c8
        by_cases c9 : (ji7) < (l0.length : Int)
        ·rw [if_pos c9] at H; have c9b0 : decide ((ji7) < (l0.length : Int)) = true := decide_eq_true c9; clear c9
         by_cases c10 : ((rd_T58 l0 (ji7)).f0) ≥ ((rd_T58 l0 x3_1).f0)
         ·rw [if_pos c10] at H; have c10b0 : decide (((rd_T58 l0 x3_1).f0) ≤ ((rd_T58 l0 (ji7)).f0)) = true := decide_eq_true c10; clear c10; obtain rfl := Option.some.inj H; (try go_wp2); replace HB := Zq_.mk (qb_ HB.out); have p101 : 0 ≤ (x3_1 : Int) := dA_; have q101 : x3_1 < (l0.length : Int) := dA_; obtain ⟨ad101, e101, hx101_0, hx101_1, hx101_2⟩ := at_T58 HR0.out x3_1 p101 q101; have hw101_2 := hx101_2; have hw101_1 := hx101_1; have hw101_0 := hx101_0; cases e101; replace hx101_0 := hC_ HB hx101_0; replace hx101_1 := hC_ HB hx101_1; replace hx101_2 := hC_ HB hx101_2; replace p101 := eq_true p101; replace q101 := eq_true q101; have p103 : 0 ≤ ((ji7) : Int) := dA_; have q103 : (ji7) < (l0.length : Int) := dA_; obtain ⟨ad103, e103, hx103_0, hx103_1, hx103_2⟩ := at_T58 HR0.out (ji7) p103 q103; have hw103_2 := hx103_2; have hw103_1 := hx103_1; have hw103_0 := hx103_0; obtain rfl : ad101 = ad103 := (by injection e103); replace hx103_0 := hC_ HB hx103_0; replace hx103_1 := hC_ HB hx103_1; replace hx103_2 := hC_ HB hx103_2; replace p103 := eq_true p103; replace q103 := eq_true q103; have p104 : 0 ≤ (x3_1 : Int) := dA_; have q104 : x3_1 < (l0.length : Int) := dA_; obtain ⟨ad104, e104, hx104_0, hx104_1, hx104_2⟩ := at_T58 HR0.out x3_1 p104 q104; have hw104_2 := hx104_2; have hw104_1 := hx104_1; have hw104_0 := hx104_0; obtain rfl : ad101 = ad104 := (by injection e104); replace hx104_0 := hC_ HB hx104_0; replace hx104_1 := hC_ HB hx104_1; replace hx104_2 := hC_ HB hx104_2; replace p104 := eq_true p104; replace q104 := eq_true q104; refine start_ (n := 24) (S := fun w' => w'.cell? (ad101.add ((x3_1).toNat * 3)) = some (.int .i64 ((rd_T58 l0 x3_1).f0)) ∧ w'.cell? ⟨(ad101.add ((x3_1).toNat * 3)).block, (ad101.add ((x3_1).toNat * 3)).off + 1, none⟩ = some (.int .i64 ((rd_T58 l0 x3_1).f1)) ∧ w'.cell? ⟨(ad101.add ((x3_1).toNat * 3)).block, (ad101.add ((x3_1).toNat * 3)).off + 2, none⟩ = some (.string ((rd_T58 l0 x3_1).f2)) ∧ w'.cell? (ad101.add (((ji7)).toNat * 3)) = some (.int .i64 ((rd_T58 l0 (ji7)).f0)) ∧ w'.cell? ⟨(ad101.add (((ji7)).toNat * 3)).block, (ad101.add (((ji7)).toNat * 3)).off + 1, none⟩ = some (.int .i64 ((rd_T58 l0 (ji7)).f1)) ∧ w'.cell? ⟨(ad101.add (((ji7)).toNat * 3)).block, (ad101.add (((ji7)).toNat * 3)).off + 2, none⟩ = some (.string ((rd_T58 l0 (ji7)).f2)) ∧ w'.cell? (ad101.add ((x3_1).toNat * 3)) = some (.int .i64 ((rd_T58 l0 x3_1).f0)) ∧ w'.cell? ⟨(ad101.add ((x3_1).toNat * 3)).block, (ad101.add ((x3_1).toNat * 3)).off + 1, none⟩ = some (.int .i64 ((rd_T58 l0 x3_1).f1)) ∧ w'.cell? ⟨(ad101.add ((x3_1).toNat * 3)).block, (ad101.add ((x3_1).toNat * 3)).off + 2, none⟩ = some (.string ((rd_T58 l0 x3_1).f2))) (ds := []) #[false,false,false,false,false,false,false,false,false,false,false,false,false,false,false,false,false,false,false,false,false,false,false,false] (by kernel_rfl) rfl rfl ⟨(hC_ HB hw101_0), (hC_ HB hw101_1), (hC_ HB hw101_2), (hC_ HB hw103_0), (hC_ HB hw103_1), (hC_ HB hw103_2), (hC_ HB hw104_0), (hC_ HB hw104_1), (hC_ HB hw104_2)⟩ (fun hHeld => ?_); refine vd_ ref04_Right.tab4 ref04_Right.bits4 (fun HT_ HW_ => ?_); generalize wr.drew = w11 at HB hx101_0 hx101_1 hx101_2 hx103_0 hx103_1 hx103_2 hx104_0 hx104_1 hx104_2 hHeld ⊢; refine pP_ 0 10 24 1 HT_ ?_; refine pP_ 1 11 24 3 HT_ ?_; refine pP_ 2 12 24 7 HT_ ?_; refine tK_ 3 13 24 15 HT_ HW_ hHeld ?_; refine one_ (i := 4) (N := some 14) (bz_ 24 31) rfl rfl (one_of HT_.out (by kernel_rfl)) (by decide) (fun K hK => ?_); refine goes_ Try.func71 (by kernel_rfl) rfl #[.agg #[.int .i64 ((rd_T58 l0 x3_1).f0), .int .i64 ((rd_T58 l0 x3_1).f1), .string ((rd_T58 l0 x3_1).f2)]] (by rfl) rfl rfl (by (try simp only [List.map_toArray, List.map_cons, List.map_nil]); first | done | rfl | (simp only [List.length_drop, List.length_take]; rfl)) ?_
          with_reducible refine (ref04_May.calls ((rd_T58 l0 x3_1).f0) ((rd_T58 l0 x3_1).f1) ((rd_T58 l0 x3_1).f2) true _ A4.out).mono ?_
          rintro e w12 ⟨rfl, hb⟩; refine ⟨_, rfl, ?_⟩; replace HB := Zq_.mk (ql_ (hB_ HB) hb); (try clear hb); refine hK.out _ _ ⟨(hC_ HB hw101_0), (hC_ HB hw101_1), (hC_ HB hw101_2), (hC_ HB hw103_0), (hC_ HB hw103_1), (hC_ HB hw103_2), (hC_ HB hw104_0), (hC_ HB hw104_1), (hC_ HB hw104_2)⟩ (fun hHeld => ?_); clear hK K; refine norm_ (a' := ?_) ?_ ?_; rotate_left
          ·show Act.put _ (some 14) _ = _
           simp only [Act.put, sa_, sb_, sc_, i64_w, i32_w]; rfl
          refine pP_ 5 15 24 63 HT_ ?_; refine pP_ 6 16 24 127 HT_ ?_; refine pP_ 7 17 24 255 HT_ ?_; refine pP_ 8 18 24 511 HT_ ?_; refine pP_ 9 19 24 1023 HT_ ?_; refine pP_ 10 20 24 2047 HT_ ?_; refine pP_ 11 21 24 4095 HT_ ?_; refine pP_ 12 22 24 8191 HT_ ?_; refine pP_ 13 23 24 16383 HT_ ?_; refine pP_ 14 24 24 32767 HT_ ?_; refine pP_ 16 26 24 98303 HT_ ?_; refine pP_ 17 27 24 229375 HT_ ?_; refine pP_ 18 28 24 491519 HT_ ?_; refine pP_ 19 29 24 1015807 HT_ ?_; refine tK_ 15 25 24 1048575 HT_ HW_ hHeld ?_; refine tK_ 20 30 24 2097151 HT_ HW_ hHeld ?_; refine pP_ 21 31 24 4194303 HT_ ?_; refine pP_ 22 32 24 8388607 HT_ ?_; refine pP_ 23 33 24 16777215 HT_ ?_; refine done_ (done_of HT_.out (by kernel_rfl)) ?_; (try go_wp2)
          go_ret
          exact ⟨by first | rfl | (simp [errW_none, errW_some] <;> rfl) | (simp only [← hji7]; first | rfl | (simp [errW_none, errW_some] <;> rfl)) | (simp [*, errW_none, errW_some] <;> rfl), hB_ HB⟩
         ·rw [if_neg c10] at H; have c10b0 : decide (((rd_T58 l0 x3_1).f0) ≤ ((rd_T58 l0 (ji7)).f0)) = false := decide_eq_false c10; clear c10; have H' := Zq_.mk H; clear H; (try go_wp2); replace HB := Zq_.mk (qb_ HB.out); have p101 : 0 ≤ (x3_1 : Int) := dA_; have q101 : x3_1 < (l0.length : Int) := dA_; obtain ⟨ad101, e101, hx101_0, hx101_1, hx101_2⟩ := at_T58 HR0.out x3_1 p101 q101; have hw101_2 := hx101_2; have hw101_1 := hx101_1; have hw101_0 := hx101_0; cases e101; replace hx101_0 := hC_ HB hx101_0; replace hx101_1 := hC_ HB hx101_1; replace hx101_2 := hC_ HB hx101_2; replace p101 := eq_true p101; replace q101 := eq_true q101; have p103 : 0 ≤ ((ji7) : Int) := dA_; have q103 : (ji7) < (l0.length : Int) := dA_; obtain ⟨ad103, e103, hx103_0, hx103_1, hx103_2⟩ := at_T58 HR0.out (ji7) p103 q103; have hw103_2 := hx103_2; have hw103_1 := hx103_1; have hw103_0 := hx103_0; obtain rfl : ad101 = ad103 := (by injection e103); replace hx103_0 := hC_ HB hx103_0; replace hx103_1 := hC_ HB hx103_1; replace hx103_2 := hC_ HB hx103_2; replace p103 := eq_true p103; replace q103 := eq_true q103; have p104 : 0 ≤ (x3_1 : Int) := dA_; have q104 : x3_1 < (l0.length : Int) := dA_; obtain ⟨ad104, e104, hx104_0, hx104_1, hx104_2⟩ := at_T58 HR0.out x3_1 p104 q104; have hw104_2 := hx104_2; have hw104_1 := hx104_1; have hw104_0 := hx104_0; obtain rfl : ad101 = ad104 := (by injection e104); replace hx104_0 := hC_ HB hx104_0; replace hx104_1 := hC_ HB hx104_1; replace hx104_2 := hC_ HB hx104_2; replace p104 := eq_true p104; replace q104 := eq_true q104; refine start_ (n := 24) (S := fun w' => w'.cell? (ad101.add ((x3_1).toNat * 3)) = some (.int .i64 ((rd_T58 l0 x3_1).f0)) ∧ w'.cell? ⟨(ad101.add ((x3_1).toNat * 3)).block, (ad101.add ((x3_1).toNat * 3)).off + 1, none⟩ = some (.int .i64 ((rd_T58 l0 x3_1).f1)) ∧ w'.cell? ⟨(ad101.add ((x3_1).toNat * 3)).block, (ad101.add ((x3_1).toNat * 3)).off + 2, none⟩ = some (.string ((rd_T58 l0 x3_1).f2)) ∧ w'.cell? (ad101.add (((ji7)).toNat * 3)) = some (.int .i64 ((rd_T58 l0 (ji7)).f0)) ∧ w'.cell? ⟨(ad101.add (((ji7)).toNat * 3)).block, (ad101.add (((ji7)).toNat * 3)).off + 1, none⟩ = some (.int .i64 ((rd_T58 l0 (ji7)).f1)) ∧ w'.cell? ⟨(ad101.add (((ji7)).toNat * 3)).block, (ad101.add (((ji7)).toNat * 3)).off + 2, none⟩ = some (.string ((rd_T58 l0 (ji7)).f2)) ∧ w'.cell? (ad101.add ((x3_1).toNat * 3)) = some (.int .i64 ((rd_T58 l0 x3_1).f0)) ∧ w'.cell? ⟨(ad101.add ((x3_1).toNat * 3)).block, (ad101.add ((x3_1).toNat * 3)).off + 1, none⟩ = some (.int .i64 ((rd_T58 l0 x3_1).f1)) ∧ w'.cell? ⟨(ad101.add ((x3_1).toNat * 3)).block, (ad101.add ((x3_1).toNat * 3)).off + 2, none⟩ = some (.string ((rd_T58 l0 x3_1).f2))) (ds := []) #[false,false,false,false,false,false,false,false,false,false,false,false,false,false,false,false,false,false,false,false,false,false,false,false] (by kernel_rfl) rfl rfl ⟨(hC_ HB hw101_0), (hC_ HB hw101_1), (hC_ HB hw101_2), (hC_ HB hw103_0), (hC_ HB hw103_1), (hC_ HB hw103_2), (hC_ HB hw104_0), (hC_ HB hw104_1), (hC_ HB hw104_2)⟩ (fun hHeld => ?_); refine vd_ ref04_Right.tab4 ref04_Right.bits4 (fun HT_ HW_ => ?_); generalize wr.drew = w13 at HB hx101_0 hx101_1 hx101_2 hx103_0 hx103_1 hx103_2 hx104_0 hx104_1 hx104_2 hHeld ⊢; refine pP_ 0 10 24 1 HT_ ?_; refine pP_ 1 11 24 3 HT_ ?_; refine pP_ 2 12 24 7 HT_ ?_; refine tK_ 3 13 24 15 HT_ HW_ hHeld ?_; refine one_ (i := 4) (N := some 14) (bz_ 24 31) rfl rfl (one_of HT_.out (by kernel_rfl)) (by decide) (fun K hK => ?_); refine goes_ Try.func71 (by kernel_rfl) rfl #[.agg #[.int .i64 ((rd_T58 l0 x3_1).f0), .int .i64 ((rd_T58 l0 x3_1).f1), .string ((rd_T58 l0 x3_1).f2)]] (by rfl) rfl rfl (by (try simp only [List.map_toArray, List.map_cons, List.map_nil]); first | done | rfl | (simp only [List.length_drop, List.length_take]; rfl)) ?_
          with_reducible refine (ref04_May.calls ((rd_T58 l0 x3_1).f0) ((rd_T58 l0 x3_1).f1) ((rd_T58 l0 x3_1).f2) true _ A4.out).mono ?_
          rintro e w14 ⟨rfl, hb⟩; refine ⟨_, rfl, ?_⟩; replace HB := Zq_.mk (ql_ (hB_ HB) hb); (try clear hb); refine hK.out _ _ ⟨(hC_ HB hw101_0), (hC_ HB hw101_1), (hC_ HB hw101_2), (hC_ HB hw103_0), (hC_ HB hw103_1), (hC_ HB hw103_2), (hC_ HB hw104_0), (hC_ HB hw104_1), (hC_ HB hw104_2)⟩ (fun hHeld => ?_); clear hK K; refine norm_ (a' := ?_) ?_ ?_; rotate_left
          ·show Act.put _ (some 14) _ = _
           simp only [Act.put, sa_, sb_, sc_, i64_w, i32_w]; rfl
          refine pP_ 5 15 24 63 HT_ ?_; refine pP_ 6 16 24 127 HT_ ?_; refine pP_ 7 17 24 255 HT_ ?_; refine pP_ 8 18 24 511 HT_ ?_; refine pP_ 9 19 24 1023 HT_ ?_; refine pP_ 10 20 24 2047 HT_ ?_; refine pP_ 11 21 24 4095 HT_ ?_; refine pP_ 12 22 24 8191 HT_ ?_; refine pP_ 13 23 24 16383 HT_ ?_; refine pP_ 14 24 24 32767 HT_ ?_; refine pP_ 16 26 24 98303 HT_ ?_; refine pP_ 17 27 24 229375 HT_ ?_; refine pP_ 18 28 24 491519 HT_ ?_; refine pP_ 19 29 24 1015807 HT_ ?_; refine tK_ 15 25 24 1048575 HT_ HW_ hHeld ?_; refine tK_ 20 30 24 2097151 HT_ HW_ hHeld ?_; refine pP_ 21 31 24 4194303 HT_ ?_; refine pP_ 22 32 24 8388607 HT_ ?_; refine pP_ 23 33 24 16777215 HT_ ?_; refine done_ (done_of HT_.out (by kernel_rfl)) ?_; (try go_wp2)
          go_roundg k1
          case measure => have := HK1.out; omega
          case rel => exact ⟨(wrap64 (x3_1 + 1)), (by first | rfl | (simp; done) | (simp [*]; done)), H', ⟨by have := HK1.out; omega⟩, ⟨hB_ HB⟩⟩
        ·rw [if_neg c9] at H; exact absurd H (by simp)
       ·rw [if_neg c8] at H; exact absurd H (by simp)
      ·rw [if_neg c6] at H; have c6b0 : decide (0 < x3_1) = false := decide_eq_false c6; clear c6; have H' := Zq_.mk H; clear H; (try go_wp2); replace HB := Zq_.mk (qb_ HB.out); have p101 : 0 ≤ (x3_1 : Int) := dA_; have q101 : x3_1 < (l0.length : Int) := dA_; obtain ⟨ad101, e101, hx101_0, hx101_1, hx101_2⟩ := at_T58 HR0.out x3_1 p101 q101; have hw101_2 := hx101_2; have hw101_1 := hx101_1; have hw101_0 := hx101_0; cases e101; replace hx101_0 := hC_ HB hx101_0; replace hx101_1 := hC_ HB hx101_1; replace hx101_2 := hC_ HB hx101_2; replace p101 := eq_true p101; replace q101 := eq_true q101; refine start_ (n := 24) (S := fun w' => w'.cell? (ad101.add ((x3_1).toNat * 3)) = some (.int .i64 ((rd_T58 l0 x3_1).f0)) ∧ w'.cell? ⟨(ad101.add ((x3_1).toNat * 3)).block, (ad101.add ((x3_1).toNat * 3)).off + 1, none⟩ = some (.int .i64 ((rd_T58 l0 x3_1).f1)) ∧ w'.cell? ⟨(ad101.add ((x3_1).toNat * 3)).block, (ad101.add ((x3_1).toNat * 3)).off + 2, none⟩ = some (.string ((rd_T58 l0 x3_1).f2))) (ds := []) #[false,false,false,false,false,false,false,false,false,false,false,false,false,false,false,false,false,false,false,false,false,false,false,false] (by kernel_rfl) rfl rfl ⟨(hC_ HB hw101_0), (hC_ HB hw101_1), (hC_ HB hw101_2)⟩ (fun hHeld => ?_); refine vd_ ref04_Right.tab4 ref04_Right.bits4 (fun HT_ HW_ => ?_); generalize wr.drew = w15 at HB hx101_0 hx101_1 hx101_2 hHeld ⊢; refine pP_ 0 10 24 1 HT_ ?_; refine pP_ 1 11 24 3 HT_ ?_; refine pP_ 2 12 24 7 HT_ ?_; refine tK_ 3 13 24 15 HT_ HW_ hHeld ?_; refine one_ (i := 4) (N := some 14) (bz_ 24 31) rfl rfl (one_of HT_.out (by kernel_rfl)) (by decide) (fun K hK => ?_); refine goes_ Try.func71 (by kernel_rfl) rfl #[.agg #[.int .i64 ((rd_T58 l0 x3_1).f0), .int .i64 ((rd_T58 l0 x3_1).f1), .string ((rd_T58 l0 x3_1).f2)]] (by rfl) rfl rfl (by (try simp only [List.map_toArray, List.map_cons, List.map_nil]); first | done | rfl | (simp only [List.length_drop, List.length_take]; rfl)) ?_
       with_reducible refine (ref04_May.calls ((rd_T58 l0 x3_1).f0) ((rd_T58 l0 x3_1).f1) ((rd_T58 l0 x3_1).f2) true _ A4.out).mono ?_
       rintro e w16 ⟨rfl, hb⟩; refine ⟨_, rfl, ?_⟩; replace HB := Zq_.mk (ql_ (hB_ HB) hb); (try clear hb); refine hK.out _ _ ⟨(hC_ HB hw101_0), (hC_ HB hw101_1), (hC_ HB hw101_2)⟩ (fun hHeld => ?_); clear hK K; refine norm_ (a' := ?_) ?_ ?_; rotate_left
       ·show Act.put _ (some 14) _ = _
        simp only [Act.put, sa_, sb_, sc_, i64_w, i32_w]; rfl
       refine pP_ 5 15 24 63 HT_ ?_; refine pP_ 6 16 24 127 HT_ ?_; refine pP_ 7 17 24 255 HT_ ?_; refine pP_ 8 18 24 511 HT_ ?_; refine pP_ 9 19 24 1023 HT_ ?_; refine pU_ 10 20 24 2047 HT_ ?_; refine pU_ 11 21 24 4095 HT_ ?_; refine pU_ 12 22 24 8191 HT_ ?_; refine pU_ 13 23 24 16383 HT_ ?_; refine pU_ 14 24 24 32767 HT_ ?_; refine pU_ 15 25 24 65535 HT_ ?_; refine pU_ 16 26 24 131071 HT_ ?_; refine pU_ 17 27 24 262143 HT_ ?_; refine pU_ 18 28 24 524287 HT_ ?_; refine pU_ 19 29 24 1048575 HT_ ?_; refine pU_ 20 30 24 2097151 HT_ ?_; refine pU_ 21 31 24 4194303 HT_ ?_; refine pP_ 22 32 24 8388607 HT_ ?_; refine pP_ 23 33 24 16777215 HT_ ?_; refine done_ (done_of HT_.out (by kernel_rfl)) ?_; (try go_wp2)
       go_roundg k1
       case measure => have := HK1.out; omega
       case rel => exact ⟨(wrap64 (x3_1 + 1)), (by first | rfl | (simp; done) | (simp [*]; done)), H', ⟨by have := HK1.out; omega⟩, ⟨hB_ HB⟩⟩
     ·replace c5 := Bool.eq_false_iff.mpr c5; subst c5
      have H1 : (some false) = some r := by rw [if_neg (show ¬ (false = true) by decide)] at H; exact H
      clear H; have H := H1; clear H1; obtain rfl := Option.some.inj H; (try go_wp2); replace HB := Zq_.mk (qb_ HB.out); have p101 : 0 ≤ (x3_1 : Int) := dA_; have q101 : x3_1 < (l0.length : Int) := dA_; obtain ⟨ad101, e101, hx101_0, hx101_1, hx101_2⟩ := at_T58 HR0.out x3_1 p101 q101; have hw101_2 := hx101_2; have hw101_1 := hx101_1; have hw101_0 := hx101_0; cases e101; replace hx101_0 := hC_ HB hx101_0; replace hx101_1 := hC_ HB hx101_1; replace hx101_2 := hC_ HB hx101_2; replace p101 := eq_true p101; replace q101 := eq_true q101; refine start_ (n := 24) (S := fun w' => w'.cell? (ad101.add ((x3_1).toNat * 3)) = some (.int .i64 ((rd_T58 l0 x3_1).f0)) ∧ w'.cell? ⟨(ad101.add ((x3_1).toNat * 3)).block, (ad101.add ((x3_1).toNat * 3)).off + 1, none⟩ = some (.int .i64 ((rd_T58 l0 x3_1).f1)) ∧ w'.cell? ⟨(ad101.add ((x3_1).toNat * 3)).block, (ad101.add ((x3_1).toNat * 3)).off + 2, none⟩ = some (.string ((rd_T58 l0 x3_1).f2))) (ds := []) #[false,false,false,false,false,false,false,false,false,false,false,false,false,false,false,false,false,false,false,false,false,false,false,false] (by kernel_rfl) rfl rfl ⟨(hC_ HB hw101_0), (hC_ HB hw101_1), (hC_ HB hw101_2)⟩ (fun hHeld => ?_); refine vd_ ref04_Right.tab4 ref04_Right.bits4 (fun HT_ HW_ => ?_); generalize wr.drew = w17 at HB hx101_0 hx101_1 hx101_2 hHeld ⊢; refine pP_ 0 10 24 1 HT_ ?_; refine pP_ 1 11 24 3 HT_ ?_; refine pP_ 2 12 24 7 HT_ ?_; refine tK_ 3 13 24 15 HT_ HW_ hHeld ?_; refine one_ (i := 4) (N := some 14) (bz_ 24 31) rfl rfl (one_of HT_.out (by kernel_rfl)) (by decide) (fun K hK => ?_); refine goes_ Try.func71 (by kernel_rfl) rfl #[.agg #[.int .i64 ((rd_T58 l0 x3_1).f0), .int .i64 ((rd_T58 l0 x3_1).f1), .string ((rd_T58 l0 x3_1).f2)]] (by rfl) rfl rfl (by (try simp only [List.map_toArray, List.map_cons, List.map_nil]); first | done | rfl | (simp only [List.length_drop, List.length_take]; rfl)) ?_
      with_reducible refine (ref04_May.calls ((rd_T58 l0 x3_1).f0) ((rd_T58 l0 x3_1).f1) ((rd_T58 l0 x3_1).f2) false _ A4.out).mono ?_
      rintro e w18 ⟨rfl, hb⟩; refine ⟨_, rfl, ?_⟩; replace HB := Zq_.mk (ql_ (hB_ HB) hb); (try clear hb); refine hK.out _ _ ⟨(hC_ HB hw101_0), (hC_ HB hw101_1), (hC_ HB hw101_2)⟩ (fun hHeld => ?_); clear hK K; refine norm_ (a' := ?_) ?_ ?_; rotate_left
      ·show Act.put _ (some 14) _ = _
       simp only [Act.put, sa_, sb_, sc_, i64_w, i32_w]; rfl
      refine pP_ 5 15 24 63 HT_ ?_; refine pP_ 6 16 24 127 HT_ ?_; refine pU_ 7 17 24 255 HT_ ?_; refine pU_ 8 18 24 511 HT_ ?_; refine pU_ 9 19 24 1023 HT_ ?_; refine pU_ 10 20 24 2047 HT_ ?_; refine pU_ 11 21 24 4095 HT_ ?_; refine pU_ 12 22 24 8191 HT_ ?_; refine pU_ 13 23 24 16383 HT_ ?_; refine pU_ 14 24 24 32767 HT_ ?_; refine pU_ 15 25 24 65535 HT_ ?_; refine pU_ 16 26 24 131071 HT_ ?_; refine pU_ 17 27 24 262143 HT_ ?_; refine pU_ 18 28 24 524287 HT_ ?_; refine pU_ 19 29 24 1048575 HT_ ?_; refine pU_ 20 30 24 2097151 HT_ ?_; refine pU_ 21 31 24 4194303 HT_ ?_; refine pU_ 22 32 24 8388607 HT_ ?_; refine pP_ 23 33 24 16777215 HT_ ?_; refine done_ (done_of HT_.out (by kernel_rfl)) ?_; (try go_wp2)
      go_ret
      exact ⟨by first | rfl | (simp [errW_none, errW_some] <;> rfl) | (simp [*, errW_none, errW_some] <;> rfl), hB_ HB⟩
    ·rw [if_neg c3] at H; exact absurd H (by simp)
   ·rw [if_neg c2] at H; have c2b0 : decide (x3_1 < (l0.length : Int)) = false := decide_eq_false c2; clear c2; obtain rfl := Option.some.inj H
    go_wp2
    go_ret
    exact ⟨by first | rfl | (simp [errW_none, errW_some] <;> rfl) | (simp [*, errW_none, errW_some] <;> rfl), hB_ HB⟩
def ref05_Right.f (k : Nat) (a0_0 : Int) (a0_1 : Int) (l0_2 : List (S58)) : Option (Bool) := if a0_0 ≥ 1 then (if a0_0 ≤ 1099511627776 then (if a0_1 ≥ 0 then (if a0_1 ≤ 1099511627776 then ((ref04_Right.f k l0_2).bind fun t102 => (some t102)) else (some false)) else (some false)) else (some false)) else (some false)
theorem ref05_Right.mono : ∀ a0 a1 a2 k, LeO (ref05_Right.f k a0 a1 a2) (ref05_Right.f (k + 1) a0 a1 a2) := by
 intro a0 a1 a2 k
 unfold ref05_Right.f
 repeat' first
   | (with_reducible exact ref04_Right.mono _ _)
   | (with_reducible exact LeO.refl _)
   | (with_reducible exact LeO.none _)
   | (with_reducible refine LeO.ite ?_ ?_)
   | (with_reducible refine LeO.bind ?_ (fun _ => ?_))
   | exact ref04_Right.mono _ _
   | exact LeO.none _
   | refine LeO.ite ?_ ?_
   | refine LeO.bind ?_ (fun _ => ?_)
theorem ref05_Right.calls (k : Nat) (a0_0 : Int) (a0_1 : Int) (A0_2 : Option Addr) (c0_2 : Nat) (l0_2 : List (S58)) (r : Bool) (w : World) (hr0_2 : Kd.C k58 w A0_2 l0_2.length l0_2) (hc0_2 : l0_2.length ≤ c0_2) (h : ref05_Right.f k a0_0 a0_1 l0_2 = some r) :
  Calls Try.prog 35 #[.agg #[.int .i64 a0_0, .int .i64 a0_1, .slice A0_2 l0_2.length c0_2]] w fun e w' => e = .returned (.bool r) ∧ Below w.heap.size w w' := by
 have hu35 := Try.underlying35; have HR0_2 := Zq_.mk hr0_2; have HC0_2 := Zq_.mk hc0_2; clear hr0_2 hc0_2; have HB := Zq_.mk (Below.refl w.heap.size w); have H : (if a0_0 ≥ 1 then (if a0_0 ≤ 1099511627776 then (if a0_1 ≥ 0 then (if a0_1 ≤ 1099511627776 then ((ref04_Right.f k l0_2).bind fun t102 => (some t102)) else (some false)) else (some false)) else (some false)) else (some false)) = some r := h; clear h
 by_cases c2 : a0_0 ≥ 1
 ·rw [if_pos c2] at H; have c2b0 : decide (1 ≤ a0_0) = true := decide_eq_true c2; clear c2
  by_cases c3 : a0_0 ≤ 1099511627776
  ·rw [if_pos c3] at H; have c3b0 : decide (a0_0 ≤ 1099511627776) = true := decide_eq_true c3; clear c3
   by_cases c4 : a0_1 ≥ 0
   ·rw [if_pos c4] at H; have c4b0 : decide (0 ≤ a0_1) = true := decide_eq_true c4; clear c4
    by_cases c5 : a0_1 ≤ 1099511627776
    ·rw [if_pos c5] at H; have c5b0 : decide (a0_1 ≤ 1099511627776) = true := decide_eq_true c5; clear c5; replace H := ob_ H; obtain ⟨t102, A60, H⟩ := H; replace H : (some t102) = some r := H; have A6 := Zq_.mk A60; clear A60; obtain rfl := Option.some.inj H
     go_enter Try.func35, Try.ntmps35
     go_wp2_with (first | ((with_reducible refine qq_ (N := 1) rfl ?_); refine qo_ ?hg (N := 1) ?hd (cs := #[.int .i64 a0_0, .int .i64 a0_1, .slice A0_2 l0_2.length c0_2]) (t := 35) ?hr ?_; (case hd => rfl); (case hg => rfl); (case hr => first | (go_simp; done) | (go_simp; rfl)); intro gb101 hg w7 hbox hb; have BK101 := Zq_.mk (hbox); have GW101 := gW_ (w := w) hg (hB_ HB); have GE101 := gW_ (w := w) hg (hB_ HB); replace HB := Zq_.mk (ql_ (hB_ HB) hb); clear hb hbox hg; have hcz8_0 := cz_ BK101 0 (.int .i64 a0_0); have hcz8_1 := cz_ BK101 1 (.int .i64 a0_1); have hcz8_2 := cz_ BK101 2 (.slice A0_2 l0_2.length c0_2); have hfz8_0 := qe_ BK101.out 0; have hfz8_1 := qe_ BK101.out 1; have hfz8_2 := qe_ BK101.out 2) | (go_at_call 56; (with_reducible refine (ref04_Right.calls k _ _ l0_2 t102 _ ?side1 ?side2 A6.out).mono ?_); (case side1 => exact cX_ (Kd.qz_ HR0_2.out HB.out)); (case side2 => exact HC0_2.out); rintro e w9 ⟨rfl, hb⟩; replace BK101 := Zq_.mk (qs_ (g := gb101) (o := .cells #[.int .i64 a0_0, .int .i64 a0_1, .slice A0_2 l0_2.length c0_2] 35 (0, 0)) (by exact bK_ BK101) hb); replace HB := Zq_.mk (ql_ (by exact hSet_ HB) hb); (try clear hb)))
     go_ret
     exact ⟨by first | rfl | (simp [errW_none, errW_some] <;> rfl) | (simp [*, errW_none, errW_some] <;> rfl), by exact hSet_ HB⟩
    ·rw [if_neg c5] at H; have c5b0 : decide (a0_1 ≤ 1099511627776) = false := decide_eq_false c5; clear c5; obtain rfl := Option.some.inj H
     go_enter Try.func35, Try.ntmps35
     go_wp2_with (first | ((with_reducible refine qq_ (N := 1) rfl ?_); refine qo_ ?hg (N := 1) ?hd (cs := #[.int .i64 a0_0, .int .i64 a0_1, .slice A0_2 l0_2.length c0_2]) (t := 35) ?hr ?_; (case hd => rfl); (case hg => rfl); (case hr => first | (go_simp; done) | (go_simp; rfl)); intro gb101 hg w10 hbox hb; have BK101 := Zq_.mk (hbox); have GW101 := gW_ (w := w) hg (hB_ HB); have GE101 := gW_ (w := w) hg (hB_ HB); replace HB := Zq_.mk (ql_ (hB_ HB) hb); clear hb hbox hg; have hcz11_0 := cz_ BK101 0 (.int .i64 a0_0); have hcz11_1 := cz_ BK101 1 (.int .i64 a0_1); have hcz11_2 := cz_ BK101 2 (.slice A0_2 l0_2.length c0_2); have hfz11_0 := qe_ BK101.out 0; have hfz11_1 := qe_ BK101.out 1; have hfz11_2 := qe_ BK101.out 2))
     go_ret
     exact ⟨by first | rfl | (simp [errW_none, errW_some] <;> rfl) | (simp [*, errW_none, errW_some] <;> rfl), by exact hSet_ HB⟩
   ·rw [if_neg c4] at H; have c4b0 : decide (0 ≤ a0_1) = false := decide_eq_false c4; clear c4; obtain rfl := Option.some.inj H
    go_enter Try.func35, Try.ntmps35
    go_wp2_with (first | ((with_reducible refine qq_ (N := 1) rfl ?_); refine qo_ ?hg (N := 1) ?hd (cs := #[.int .i64 a0_0, .int .i64 a0_1, .slice A0_2 l0_2.length c0_2]) (t := 35) ?hr ?_; (case hd => rfl); (case hg => rfl); (case hr => first | (go_simp; done) | (go_simp; rfl)); intro gb101 hg w12 hbox hb; have BK101 := Zq_.mk (hbox); have GW101 := gW_ (w := w) hg (hB_ HB); have GE101 := gW_ (w := w) hg (hB_ HB); replace HB := Zq_.mk (ql_ (hB_ HB) hb); clear hb hbox hg; have hcz13_0 := cz_ BK101 0 (.int .i64 a0_0); have hcz13_1 := cz_ BK101 1 (.int .i64 a0_1); have hcz13_2 := cz_ BK101 2 (.slice A0_2 l0_2.length c0_2); have hfz13_0 := qe_ BK101.out 0; have hfz13_1 := qe_ BK101.out 1; have hfz13_2 := qe_ BK101.out 2))
    go_ret
    exact ⟨by first | rfl | (simp [errW_none, errW_some] <;> rfl) | (simp [*, errW_none, errW_some] <;> rfl), by exact hSet_ HB⟩
  ·rw [if_neg c3] at H; have c3b0 : decide (a0_0 ≤ 1099511627776) = false := decide_eq_false c3; clear c3; obtain rfl := Option.some.inj H
   go_enter Try.func35, Try.ntmps35
   go_wp2_with (first | ((with_reducible refine qq_ (N := 1) rfl ?_); refine qo_ ?hg (N := 1) ?hd (cs := #[.int .i64 a0_0, .int .i64 a0_1, .slice A0_2 l0_2.length c0_2]) (t := 35) ?hr ?_; (case hd => rfl); (case hg => rfl); (case hr => first | (go_simp; done) | (go_simp; rfl)); intro gb101 hg w14 hbox hb; have BK101 := Zq_.mk (hbox); have GW101 := gW_ (w := w) hg (hB_ HB); have GE101 := gW_ (w := w) hg (hB_ HB); replace HB := Zq_.mk (ql_ (hB_ HB) hb); clear hb hbox hg; have hcz15_0 := cz_ BK101 0 (.int .i64 a0_0); have hcz15_1 := cz_ BK101 1 (.int .i64 a0_1); have hcz15_2 := cz_ BK101 2 (.slice A0_2 l0_2.length c0_2); have hfz15_0 := qe_ BK101.out 0; have hfz15_1 := qe_ BK101.out 1; have hfz15_2 := qe_ BK101.out 2))
   go_ret
   exact ⟨by first | rfl | (simp [errW_none, errW_some] <;> rfl) | (simp [*, errW_none, errW_some] <;> rfl), by exact hSet_ HB⟩
 ·rw [if_neg c2] at H; have c2b0 : decide (1 ≤ a0_0) = false := decide_eq_false c2; clear c2; obtain rfl := Option.some.inj H
  go_enter Try.func35, Try.ntmps35
  go_wp2_with (first | ((with_reducible refine qq_ (N := 1) rfl ?_); refine qo_ ?hg (N := 1) ?hd (cs := #[.int .i64 a0_0, .int .i64 a0_1, .slice A0_2 l0_2.length c0_2]) (t := 35) ?hr ?_; (case hd => rfl); (case hg => rfl); (case hr => first | (go_simp; done) | (go_simp; rfl)); intro gb101 hg w16 hbox hb; have BK101 := Zq_.mk (hbox); have GW101 := gW_ (w := w) hg (hB_ HB); have GE101 := gW_ (w := w) hg (hB_ HB); replace HB := Zq_.mk (ql_ (hB_ HB) hb); clear hb hbox hg; have hcz17_0 := cz_ BK101 0 (.int .i64 a0_0); have hcz17_1 := cz_ BK101 1 (.int .i64 a0_1); have hcz17_2 := cz_ BK101 2 (.slice A0_2 l0_2.length c0_2); have hfz17_0 := qe_ BK101.out 0; have hfz17_1 := qe_ BK101.out 1; have hfz17_2 := qe_ BK101.out 2))
  go_ret
  exact ⟨by first | rfl | (simp [errW_none, errW_some] <;> rfl) | (simp [*, errW_none, errW_some] <;> rfl), by exact hSet_ HB⟩
end Go.Proofs.Ytgipbmjkgciccaa.P

/- What this function of the program comes to, and that the machine's call does it. No condition. -/
import Derived.Test.YtgipbmjkgciccaaP0
import Derived.Test.YtgipbmjkgciccaaHw
namespace Go.Proofs.Ytgipbmjkgciccaa.P
set_option maxHeartbeats 8000000
set_option maxRecDepth 100000
open Go.RowKit Go.Proofs.YtgipbmjkgciccaaW.PrintWords Go.Proofs.YtgipbmjkgciccaaW.PrintLast Go.Proofs.YtgipbmjkgciccaaW.PrintMore
attribute [local go_sem] max2_int min2_int max_two min_two max_three min_three max_four min_four Go.Proofs.YtgipbmjkgciccaaW.Hw.string_gtr
set_option linter.unusedVariables false
set_option linter.unusedSimpArgs false
def entry_May.f (a0_0 : Int) (a0_1 : Int) (a0_2 : ByteArray) : Option (Bool) := if a0_0 ≥ 0 then (if a0_0 < 12 then (if a0_1 ≥ 1 then (if a0_1 ≤ 1099511627776 then (some (decide ((a0_2.size : Int) ≤ 200))) else (some false)) else (some false)) else (some false)) else (some false)
theorem entry_May.calls (a0_0 : Int) (a0_1 : Int) (a0_2 : ByteArray) (r : Bool) (w : World) (h : entry_May.f a0_0 a0_1 a0_2 = some r) :
  Calls Try.prog 82 #[.agg #[.int .i64 a0_0, .int .i64 a0_1, .string a0_2]] w fun e w' => e = .returned (.bool r) ∧ Below w.heap.size w w' := by
 have hu58 := Try.underlying58; have HB := Zq_.mk (Below.refl w.heap.size w); have H : (if a0_0 ≥ 0 then (if a0_0 < 12 then (if a0_1 ≥ 1 then (if a0_1 ≤ 1099511627776 then (some (decide ((a0_2.size : Int) ≤ 200))) else (some false)) else (some false)) else (some false)) else (some false)) = some r := h; clear h
 by_cases c2 : a0_0 ≥ 0
 ·rw [if_pos c2] at H; have c2b0 : decide (0 ≤ a0_0) = true := decide_eq_true c2; clear c2
  by_cases c3 : a0_0 < 12
  ·rw [if_pos c3] at H; have c3b0 : decide (a0_0 < 12) = true := decide_eq_true c3; clear c3
   by_cases c4 : a0_1 ≥ 1
   ·rw [if_pos c4] at H; have c4b0 : decide (1 ≤ a0_1) = true := decide_eq_true c4; clear c4
    by_cases c5 : a0_1 ≤ 1099511627776
    ·rw [if_pos c5] at H; have c5b0 : decide (a0_1 ≤ 1099511627776) = true := decide_eq_true c5; clear c5; obtain rfl := Option.some.inj H
     go_enter Try.func82, Try.ntmps82
     go_wp2_with (first | ((with_reducible refine qq_ (N := 1) rfl ?_); (try (refine gate_guard (by rfl) ?_; dsimp only)); refine qo_ ?hg (N := 1) ?hd (cs := #[.int .i64 a0_0, .int .i64 a0_1, .string a0_2]) (t := 58) ?hr ?_; (case hd => rfl); (case hg => rfl); (case hr => first | (go_simp; done) | (go_simp; rfl)); intro gb101 hg w6 hbox hb; have BK101 := Zq_.mk (hbox); have GW101 := gW_ (w := w) hg (hB_ HB); have GE101 := gW_ (w := w) hg (hB_ HB); replace HB := Zq_.mk (ql_ (hB_ HB) hb); clear hb hbox hg; have hcz7_0 := cz_ BK101 0 (.int .i64 a0_0); have hcz7_1 := cz_ BK101 1 (.int .i64 a0_1); have hcz7_2 := cz_ BK101 2 (.string a0_2); have hfz7_0 := qe_ BK101.out 0; have hfz7_1 := qe_ BK101.out 1; have hfz7_2 := qe_ BK101.out 2))
     go_ret
     exact ⟨by first | rfl | (simp [errW_none, errW_some] <;> rfl) | (simp [*, errW_none, errW_some] <;> rfl), by exact hSet_ HB⟩
    ·rw [if_neg c5] at H; have c5b0 : decide (a0_1 ≤ 1099511627776) = false := decide_eq_false c5; clear c5; obtain rfl := Option.some.inj H
     go_enter Try.func82, Try.ntmps82
     go_wp2_with (first | ((with_reducible refine qq_ (N := 1) rfl ?_); (try (refine gate_guard (by rfl) ?_; dsimp only)); refine qo_ ?hg (N := 1) ?hd (cs := #[.int .i64 a0_0, .int .i64 a0_1, .string a0_2]) (t := 58) ?hr ?_; (case hd => rfl); (case hg => rfl); (case hr => first | (go_simp; done) | (go_simp; rfl)); intro gb101 hg w8 hbox hb; have BK101 := Zq_.mk (hbox); have GW101 := gW_ (w := w) hg (hB_ HB); have GE101 := gW_ (w := w) hg (hB_ HB); replace HB := Zq_.mk (ql_ (hB_ HB) hb); clear hb hbox hg; have hcz9_0 := cz_ BK101 0 (.int .i64 a0_0); have hcz9_1 := cz_ BK101 1 (.int .i64 a0_1); have hcz9_2 := cz_ BK101 2 (.string a0_2); have hfz9_0 := qe_ BK101.out 0; have hfz9_1 := qe_ BK101.out 1; have hfz9_2 := qe_ BK101.out 2))
     go_ret
     exact ⟨by first | rfl | (simp [errW_none, errW_some] <;> rfl) | (simp [*, errW_none, errW_some] <;> rfl), by exact hSet_ HB⟩
   ·rw [if_neg c4] at H; have c4b0 : decide (1 ≤ a0_1) = false := decide_eq_false c4; clear c4; obtain rfl := Option.some.inj H
    go_enter Try.func82, Try.ntmps82
    go_wp2_with (first | ((with_reducible refine qq_ (N := 1) rfl ?_); (try (refine gate_guard (by rfl) ?_; dsimp only)); refine qo_ ?hg (N := 1) ?hd (cs := #[.int .i64 a0_0, .int .i64 a0_1, .string a0_2]) (t := 58) ?hr ?_; (case hd => rfl); (case hg => rfl); (case hr => first | (go_simp; done) | (go_simp; rfl)); intro gb101 hg w10 hbox hb; have BK101 := Zq_.mk (hbox); have GW101 := gW_ (w := w) hg (hB_ HB); have GE101 := gW_ (w := w) hg (hB_ HB); replace HB := Zq_.mk (ql_ (hB_ HB) hb); clear hb hbox hg; have hcz11_0 := cz_ BK101 0 (.int .i64 a0_0); have hcz11_1 := cz_ BK101 1 (.int .i64 a0_1); have hcz11_2 := cz_ BK101 2 (.string a0_2); have hfz11_0 := qe_ BK101.out 0; have hfz11_1 := qe_ BK101.out 1; have hfz11_2 := qe_ BK101.out 2))
    go_ret
    exact ⟨by first | rfl | (simp [errW_none, errW_some] <;> rfl) | (simp [*, errW_none, errW_some] <;> rfl), by exact hSet_ HB⟩
  ·rw [if_neg c3] at H; have c3b0 : decide (a0_0 < 12) = false := decide_eq_false c3; clear c3; obtain rfl := Option.some.inj H
   go_enter Try.func82, Try.ntmps82
   go_wp2_with (first | ((with_reducible refine qq_ (N := 1) rfl ?_); (try (refine gate_guard (by rfl) ?_; dsimp only)); refine qo_ ?hg (N := 1) ?hd (cs := #[.int .i64 a0_0, .int .i64 a0_1, .string a0_2]) (t := 58) ?hr ?_; (case hd => rfl); (case hg => rfl); (case hr => first | (go_simp; done) | (go_simp; rfl)); intro gb101 hg w12 hbox hb; have BK101 := Zq_.mk (hbox); have GW101 := gW_ (w := w) hg (hB_ HB); have GE101 := gW_ (w := w) hg (hB_ HB); replace HB := Zq_.mk (ql_ (hB_ HB) hb); clear hb hbox hg; have hcz13_0 := cz_ BK101 0 (.int .i64 a0_0); have hcz13_1 := cz_ BK101 1 (.int .i64 a0_1); have hcz13_2 := cz_ BK101 2 (.string a0_2); have hfz13_0 := qe_ BK101.out 0; have hfz13_1 := qe_ BK101.out 1; have hfz13_2 := qe_ BK101.out 2))
   go_ret
   exact ⟨by first | rfl | (simp [errW_none, errW_some] <;> rfl) | (simp [*, errW_none, errW_some] <;> rfl), by exact hSet_ HB⟩
 ·rw [if_neg c2] at H; have c2b0 : decide (0 ≤ a0_0) = false := decide_eq_false c2; clear c2; obtain rfl := Option.some.inj H
  go_enter Try.func82, Try.ntmps82
  go_wp2_with (first | ((with_reducible refine qq_ (N := 1) rfl ?_); (try (refine gate_guard (by rfl) ?_; dsimp only)); refine qo_ ?hg (N := 1) ?hd (cs := #[.int .i64 a0_0, .int .i64 a0_1, .string a0_2]) (t := 58) ?hr ?_; (case hd => rfl); (case hg => rfl); (case hr => first | (go_simp; done) | (go_simp; rfl)); intro gb101 hg w14 hbox hb; have BK101 := Zq_.mk (hbox); have GW101 := gW_ (w := w) hg (hB_ HB); have GE101 := gW_ (w := w) hg (hB_ HB); replace HB := Zq_.mk (ql_ (hB_ HB) hb); clear hb hbox hg; have hcz15_0 := cz_ BK101 0 (.int .i64 a0_0); have hcz15_1 := cz_ BK101 1 (.int .i64 a0_1); have hcz15_2 := cz_ BK101 2 (.string a0_2); have hfz15_0 := qe_ BK101.out 0; have hfz15_1 := qe_ BK101.out 1; have hfz15_2 := qe_ BK101.out 2))
  go_ret
  exact ⟨by first | rfl | (simp [errW_none, errW_some] <;> rfl) | (simp [*, errW_none, errW_some] <;> rfl), by exact hSet_ HB⟩
def entry_Right.l0 : Nat → Int → List (S58) → Int → Int → Option (Bool)
 | 0, _, _, _, _ => none
 | k + 1, x3, x6, x7, x8 => if x8 < x7 then (if 0 ≤ x8 then (if x8 < (x6.length : Int) then (if ((rd_T58 x6 x8).f0) ≤ x3 then (some false) else ((entry_May.f ((rd_T58 x6 x8).f0) ((rd_T58 x6 x8).f1) ((rd_T58 x6 x8).f2)).bind fun t103 => (if t103 = true then (entry_Right.l0 k ((rd_T58 x6 x8).f0) x6 x7 (wrap64 (x8 + 1))) else (some false)))) else (none)) else (none)) else (some true)
def entry_Right.f (k : Nat) (l0 : List (S58)) : Option (Bool) := entry_Right.l0 k (-1) l0 (l0.length : Int) 0
theorem entry_Right.mono_l : ∀ k, (∀ y0 y1 y2 y3, LeO (entry_Right.l0 k y0 y1 y2 y3) (entry_Right.l0 (k + 1) y0 y1 y2 y3))
 | 0 => fun _ _ _ _ r h => by simp [entry_Right.l0] at h
 | k + 1 => by
  have ih0 := entry_Right.mono_l k
  ·intro y0 y1 y2 y3
   unfold entry_Right.l0
   repeat' first
   | (with_reducible exact ih0 _ _ _ _)
   | (with_reducible exact LeO.refl _)
   | (with_reducible exact LeO.none _)
   | (with_reducible refine LeO.ite ?_ ?_)
   | (with_reducible refine LeO.bind ?_ (fun _ => ?_))
   | exact ih0 _ _ _ _
   | exact LeO.none _
   | refine LeO.ite ?_ ?_
   | refine LeO.bind ?_ (fun _ => ?_)
theorem entry_Right.mono : ∀ a0 k, LeO (entry_Right.f k a0) (entry_Right.f (k + 1) a0) := by
 intro a0 k; have ih0 := entry_Right.mono_l k
 unfold entry_Right.f
 repeat' first
   | (with_reducible exact ih0 _ _ _ _)
   | (with_reducible exact LeO.refl _)
   | (with_reducible exact LeO.none _)
   | (with_reducible refine LeO.ite ?_ ?_)
   | (with_reducible refine LeO.bind ?_ (fun _ => ?_))
   | exact ih0 _ _ _ _
   | exact LeO.none _
   | refine LeO.ite ?_ ?_
   | refine LeO.bind ?_ (fun _ => ?_)
theorem entry_Right.calls (k : Nat) (A0 : Option Addr) (c0 : Nat) (l0 : List (S58)) (r : Bool) (w : World) (hr0 : Kd.C k58 w A0 l0.length l0) (hc0 : l0.length ≤ c0) (h : entry_Right.f k l0 = some r) :
  Calls Try.prog 76 #[.slice A0 l0.length c0] w fun e w' => e = .returned (.bool r) ∧ Below w.heap.size w w' := by
 have hu58 := Try.underlying58; have HR0 := Zq_.mk hr0; have HC0 := Zq_.mk hc0; clear hr0 hc0; have HB := Zq_.mk (Below.refl w.heap.size w); have H : (entry_Right.l0 k (-1) l0 (l0.length : Int) 0) = some r := h; clear h; have H' := Zq_.mk H; clear H
 go_enter Try.func76, Try.ntmps76
 go_wp2
 go_loopg [3, 8] k (fun kq v3 v8 w' => ∃ (x3_1 : Int) (x8_1 : Int), v3 = .int .i64 x3_1 ∧ v8 = .int .i64 x8_1 ∧ Zq_ (entry_Right.l0 kq x3_1 l0 (l0.length : Int) x8_1 = some r) ∧ Zq_ (kq ≤ k) ∧ Zq_ (Below w.heap.size w w'))
 case atStart => exact ⟨((-1)), (0), (by first | rfl | (simp; done) | (simp [*]; done)), (by first | rfl | (simp; done) | (simp [*]; done)), H', ⟨Nat.le_refl _⟩, ⟨hB_ HB⟩⟩
 case round =>
  clear H'; obtain ⟨x3_1, x8_1, rfl, rfl, HA, HK1, HB⟩ := hrel
  cases gk with
  | zero => exact absurd HA.out (by simp [entry_Right.l0])
  | succ k1 =>
   have H := HA.out; clear HA; simp only [entry_Right.l0] at H
   by_cases c2 : x8_1 < (l0.length : Int)
   ·rw [if_pos c2] at H; have c2b0 : decide (x8_1 < (l0.length : Int)) = true := decide_eq_true c2; clear c2
    by_cases c3 : 0 ≤ x8_1
    ·rw [if_pos c3] at H; have c3b0 : decide (0 ≤ x8_1) = true := decide_eq_true c3; clear c3
     by_cases c4 : x8_1 < (l0.length : Int)
     ·rw [if_pos c4] at H; have c4b0 : decide (x8_1 < (l0.length : Int)) = true := decide_eq_true c4; clear c4
      by_cases c5 : ((rd_T58 l0 x8_1).f0) ≤ x3_1
      ·rw [if_pos c5] at H; have c5b0 : decide (((rd_T58 l0 x8_1).f0) ≤ x3_1) = true := decide_eq_true c5; clear c5; obtain rfl := Option.some.inj H; have p101 : 0 ≤ (x8_1 : Int) := dA_; have q101 : x8_1 < (l0.length : Int) := dA_; obtain ⟨ad101, e101, hx101_0, hx101_1, hx101_2⟩ := at_T58 HR0.out x8_1 p101 q101; cases e101; replace hx101_0 := hC_ HB hx101_0; replace hx101_1 := hC_ HB hx101_1; replace hx101_2 := hC_ HB hx101_2; replace p101 := eq_true p101; replace q101 := eq_true q101
       go_wp2_with (first | ((with_reducible refine qq_ (N := 5) rfl ?_); refine qo_ ?hg (N := 5) ?hd (cs := #[.int .i64 0, .int .i64 0, .string (⟨#[]⟩ : ByteArray)]) (t := 58) ?hr ?_; (case hd => rfl); (case hg => rfl); (case hr => first | (go_simp; done) | (go_simp; rfl)); intro gb102 hg w6 hbox hb; have BK102 := Zq_.mk (hbox); have GW102 := gW_ (w := w) hg (hB_ HB); have GE102 := gW_ (w := w) hg (hB_ HB); replace HB := Zq_.mk (ql_ (hB_ HB) hb); clear hb hbox hg; have hcz7_0 := cz_ BK102 0 (.int .i64 0); have hcz7_1 := cz_ BK102 1 (.int .i64 0); have hcz7_2 := cz_ BK102 2 (.string (⟨#[]⟩ : ByteArray)); have hfz7_0 := qe_ BK102.out 0; have hfz7_1 := qe_ BK102.out 1; have hfz7_2 := qe_ BK102.out 2))
       go_ret
       exact ⟨by first | rfl | (simp [errW_none, errW_some] <;> rfl) | (simp [*, errW_none, errW_some] <;> rfl), by exact hSet_ HB⟩
      ·rw [if_neg c5] at H; have c5b0 : decide (((rd_T58 l0 x8_1).f0) ≤ x3_1) = false := decide_eq_false c5; clear c5; replace H := ob_ H; obtain ⟨t103, A80, H⟩ := H; replace H : (if t103 = true then (entry_Right.l0 k1 ((rd_T58 l0 x8_1).f0) l0 (l0.length : Int) (wrap64 (x8_1 + 1))) else (some false)) = some r := H; have A8 := Zq_.mk A80; clear A80
       by_cases c9 : t103 = true
       ·subst c9
        have H1 : (entry_Right.l0 k1 ((rd_T58 l0 x8_1).f0) l0 (l0.length : Int) (wrap64 (x8_1 + 1))) = some r := by rw [if_pos rfl] at H; exact H
        clear H; have H := H1; clear H1; have H' := Zq_.mk H; clear H; have p101 : 0 ≤ (x8_1 : Int) := dA_; have q101 : x8_1 < (l0.length : Int) := dA_; obtain ⟨ad101, e101, hx101_0, hx101_1, hx101_2⟩ := at_T58 HR0.out x8_1 p101 q101; cases e101; replace hx101_0 := hC_ HB hx101_0; replace hx101_1 := hC_ HB hx101_1; replace hx101_2 := hC_ HB hx101_2; replace p101 := eq_true p101; replace q101 := eq_true q101
        go_wp2_with (first | ((with_reducible refine qq_ (N := 5) rfl ?_); refine qo_ ?hg (N := 5) ?hd (cs := #[.int .i64 0, .int .i64 0, .string (⟨#[]⟩ : ByteArray)]) (t := 58) ?hr ?_; (case hd => rfl); (case hg => rfl); (case hr => first | (go_simp; done) | (go_simp; rfl)); intro gb102 hg w10 hbox hb; have BK102 := Zq_.mk (hbox); have GW102 := gW_ (w := w) hg (hB_ HB); have GE102 := gW_ (w := w) hg (hB_ HB); replace HB := Zq_.mk (ql_ (hB_ HB) hb); clear hb hbox hg; have hcz11_0 := cz_ BK102 0 (.int .i64 0); have hcz11_1 := cz_ BK102 1 (.int .i64 0); have hcz11_2 := cz_ BK102 2 (.string (⟨#[]⟩ : ByteArray)); have hfz11_0 := qe_ BK102.out 0; have hfz11_1 := qe_ BK102.out 1; have hfz11_2 := qe_ BK102.out 2) | (go_at_call 82; (with_reducible refine (entry_May.calls ((rd_T58 l0 x8_1).f0) ((rd_T58 l0 x8_1).f1) ((rd_T58 l0 x8_1).f2) true _ A8.out).mono ?_); rintro e w12 ⟨rfl, hb⟩; replace BK102 := Zq_.mk (qs_ (g := gb102) (o := .cells #[.int .i64 ((rd_T58 l0 x8_1).f0), .int .i64 ((rd_T58 l0 x8_1).f1), .string ((rd_T58 l0 x8_1).f2)] 58 (0, 0)) (by refine bP_ (cs := #[.int .i64 ((rd_T58 l0 x8_1).f0), .int .i64 ((rd_T58 l0 x8_1).f1), .string (⟨#[]⟩ : ByteArray)]) 2 ?_; refine bP_ (cs := #[.int .i64 ((rd_T58 l0 x8_1).f0), .int .i64 0, .string (⟨#[]⟩ : ByteArray)]) 1 ?_; refine bP_ (cs := #[.int .i64 0, .int .i64 0, .string (⟨#[]⟩ : ByteArray)]) 0 ?_; (with_reducible repeat (first | refine qg_ ?_ _ | refine qi_ ?_ | refine qf_ ?_ _)); exact BK102.out) hb); replace HB := Zq_.mk (ql_ (by exact hSet_ HB) hb); (try clear hb); have hcz13_0 := cz_ BK102 0 (.int .i64 ((rd_T58 l0 x8_1).f0)); have hcz13_1 := cz_ BK102 1 (.int .i64 ((rd_T58 l0 x8_1).f1)); have hcz13_2 := cz_ BK102 2 (.string ((rd_T58 l0 x8_1).f2)); have hfz13_0 := qe_ BK102.out 0; have hfz13_1 := qe_ BK102.out 1; have hfz13_2 := qe_ BK102.out 2))
        go_roundg k1
        case measure => have := HK1.out; omega
        case rel => exact ⟨((rd_T58 l0 x8_1).f0), (wrap64 (x8_1 + 1)), (by first | rfl | (simp; done) | (simp [*]; done)), (by first | rfl | (simp; done) | (simp [*]; done)), H', ⟨by have := HK1.out; omega⟩, ⟨by exact hSet_ HB⟩⟩
       ·replace c9 := Bool.eq_false_iff.mpr c9; subst c9
        have H1 : (some false) = some r := by rw [if_neg (show ¬ (false = true) by decide)] at H; exact H
        clear H; have H := H1; clear H1; obtain rfl := Option.some.inj H; have p101 : 0 ≤ (x8_1 : Int) := dA_; have q101 : x8_1 < (l0.length : Int) := dA_; obtain ⟨ad101, e101, hx101_0, hx101_1, hx101_2⟩ := at_T58 HR0.out x8_1 p101 q101; cases e101; replace hx101_0 := hC_ HB hx101_0; replace hx101_1 := hC_ HB hx101_1; replace hx101_2 := hC_ HB hx101_2; replace p101 := eq_true p101; replace q101 := eq_true q101
        go_wp2_with (first | ((with_reducible refine qq_ (N := 5) rfl ?_); refine qo_ ?hg (N := 5) ?hd (cs := #[.int .i64 0, .int .i64 0, .string (⟨#[]⟩ : ByteArray)]) (t := 58) ?hr ?_; (case hd => rfl); (case hg => rfl); (case hr => first | (go_simp; done) | (go_simp; rfl)); intro gb102 hg w14 hbox hb; have BK102 := Zq_.mk (hbox); have GW102 := gW_ (w := w) hg (hB_ HB); have GE102 := gW_ (w := w) hg (hB_ HB); replace HB := Zq_.mk (ql_ (hB_ HB) hb); clear hb hbox hg; have hcz15_0 := cz_ BK102 0 (.int .i64 0); have hcz15_1 := cz_ BK102 1 (.int .i64 0); have hcz15_2 := cz_ BK102 2 (.string (⟨#[]⟩ : ByteArray)); have hfz15_0 := qe_ BK102.out 0; have hfz15_1 := qe_ BK102.out 1; have hfz15_2 := qe_ BK102.out 2) | (go_at_call 82; (with_reducible refine (entry_May.calls ((rd_T58 l0 x8_1).f0) ((rd_T58 l0 x8_1).f1) ((rd_T58 l0 x8_1).f2) false _ A8.out).mono ?_); rintro e w16 ⟨rfl, hb⟩; replace BK102 := Zq_.mk (qs_ (g := gb102) (o := .cells #[.int .i64 ((rd_T58 l0 x8_1).f0), .int .i64 ((rd_T58 l0 x8_1).f1), .string ((rd_T58 l0 x8_1).f2)] 58 (0, 0)) (by refine bP_ (cs := #[.int .i64 ((rd_T58 l0 x8_1).f0), .int .i64 ((rd_T58 l0 x8_1).f1), .string (⟨#[]⟩ : ByteArray)]) 2 ?_; refine bP_ (cs := #[.int .i64 ((rd_T58 l0 x8_1).f0), .int .i64 0, .string (⟨#[]⟩ : ByteArray)]) 1 ?_; refine bP_ (cs := #[.int .i64 0, .int .i64 0, .string (⟨#[]⟩ : ByteArray)]) 0 ?_; (with_reducible repeat (first | refine qg_ ?_ _ | refine qi_ ?_ | refine qf_ ?_ _)); exact BK102.out) hb); replace HB := Zq_.mk (ql_ (by exact hSet_ HB) hb); (try clear hb)))
        go_ret
        exact ⟨by first | rfl | (simp [errW_none, errW_some] <;> rfl) | (simp [*, errW_none, errW_some] <;> rfl), by exact hSet_ HB⟩
     ·rw [if_neg c4] at H; exact absurd H (by simp)
    ·rw [if_neg c3] at H; exact absurd H (by simp)
   ·rw [if_neg c2] at H; have c2b0 : decide (x8_1 < (l0.length : Int)) = false := decide_eq_false c2; clear c2; obtain rfl := Option.some.inj H
    go_wp2
    go_ret
    exact ⟨by first | rfl | (simp [errW_none, errW_some] <;> rfl) | (simp [*, errW_none, errW_some] <;> rfl), hB_ HB⟩
def state_Right.f (k : Nat) (a0_0 : Int) (a0_1 : Int) (l0_2 : List (S58)) : Option (Bool) := if a0_0 ≥ 1 then (if a0_0 ≤ 1099511627776 then (if a0_1 ≥ 0 then (if a0_1 ≤ 1099511627776 then ((entry_Right.f k l0_2).bind fun t102 => (some t102)) else (some false)) else (some false)) else (some false)) else (some false)
theorem state_Right.mono : ∀ a0 a1 a2 k, LeO (state_Right.f k a0 a1 a2) (state_Right.f (k + 1) a0 a1 a2) := by
 intro a0 a1 a2 k
 unfold state_Right.f
 repeat' first
   | (with_reducible exact entry_Right.mono _ _)
   | (with_reducible exact LeO.refl _)
   | (with_reducible exact LeO.none _)
   | (with_reducible refine LeO.ite ?_ ?_)
   | (with_reducible refine LeO.bind ?_ (fun _ => ?_))
   | exact entry_Right.mono _ _
   | exact LeO.none _
   | refine LeO.ite ?_ ?_
   | refine LeO.bind ?_ (fun _ => ?_)
theorem state_Right.calls (k : Nat) (a0_0 : Int) (a0_1 : Int) (A0_2 : Option Addr) (c0_2 : Nat) (l0_2 : List (S58)) (r : Bool) (w : World) (hr0_2 : Kd.C k58 w A0_2 l0_2.length l0_2) (hc0_2 : l0_2.length ≤ c0_2) (h : state_Right.f k a0_0 a0_1 l0_2 = some r) :
  Calls Try.prog 63 #[.agg #[.int .i64 a0_0, .int .i64 a0_1, .slice A0_2 l0_2.length c0_2]] w fun e w' => e = .returned (.bool r) ∧ Below w.heap.size w w' := by
 have hu35 := Try.underlying35; have HR0_2 := Zq_.mk hr0_2; have HC0_2 := Zq_.mk hc0_2; clear hr0_2 hc0_2; have HB := Zq_.mk (Below.refl w.heap.size w); have H : (if a0_0 ≥ 1 then (if a0_0 ≤ 1099511627776 then (if a0_1 ≥ 0 then (if a0_1 ≤ 1099511627776 then ((entry_Right.f k l0_2).bind fun t102 => (some t102)) else (some false)) else (some false)) else (some false)) else (some false)) = some r := h; clear h
 by_cases c2 : a0_0 ≥ 1
 ·rw [if_pos c2] at H; have c2b0 : decide (1 ≤ a0_0) = true := decide_eq_true c2; clear c2
  by_cases c3 : a0_0 ≤ 1099511627776
  ·rw [if_pos c3] at H; have c3b0 : decide (a0_0 ≤ 1099511627776) = true := decide_eq_true c3; clear c3
   by_cases c4 : a0_1 ≥ 0
   ·rw [if_pos c4] at H; have c4b0 : decide (0 ≤ a0_1) = true := decide_eq_true c4; clear c4
    by_cases c5 : a0_1 ≤ 1099511627776
    ·rw [if_pos c5] at H; have c5b0 : decide (a0_1 ≤ 1099511627776) = true := decide_eq_true c5; clear c5; replace H := ob_ H; obtain ⟨t102, A60, H⟩ := H; replace H : (some t102) = some r := H; have A6 := Zq_.mk A60; clear A60; obtain rfl := Option.some.inj H
     go_enter Try.func63, Try.ntmps63
     go_wp2_with (first | ((with_reducible refine qq_ (N := 1) rfl ?_); refine qo_ ?hg (N := 1) ?hd (cs := #[.int .i64 a0_0, .int .i64 a0_1, .slice A0_2 l0_2.length c0_2]) (t := 35) ?hr ?_; (case hd => rfl); (case hg => rfl); (case hr => first | (go_simp; done) | (go_simp; rfl)); intro gb101 hg w7 hbox hb; have BK101 := Zq_.mk (hbox); have GW101 := gW_ (w := w) hg (hB_ HB); have GE101 := gW_ (w := w) hg (hB_ HB); replace HB := Zq_.mk (ql_ (hB_ HB) hb); clear hb hbox hg; have hcz8_0 := cz_ BK101 0 (.int .i64 a0_0); have hcz8_1 := cz_ BK101 1 (.int .i64 a0_1); have hcz8_2 := cz_ BK101 2 (.slice A0_2 l0_2.length c0_2); have hfz8_0 := qe_ BK101.out 0; have hfz8_1 := qe_ BK101.out 1; have hfz8_2 := qe_ BK101.out 2) | (go_at_call 76; (with_reducible refine (entry_Right.calls k _ _ l0_2 t102 _ ?side1 ?side2 A6.out).mono ?_); (case side1 => exact cX_ (Kd.qz_ HR0_2.out HB.out)); (case side2 => exact HC0_2.out); rintro e w9 ⟨rfl, hb⟩; replace BK101 := Zq_.mk (qs_ (g := gb101) (o := .cells #[.int .i64 a0_0, .int .i64 a0_1, .slice A0_2 l0_2.length c0_2] 35 (0, 0)) (by exact bK_ BK101) hb); replace HB := Zq_.mk (ql_ (by exact hSet_ HB) hb); (try clear hb)))
     go_ret
     exact ⟨by first | rfl | (simp [errW_none, errW_some] <;> rfl) | (simp [*, errW_none, errW_some] <;> rfl), by exact hSet_ HB⟩
    ·rw [if_neg c5] at H; have c5b0 : decide (a0_1 ≤ 1099511627776) = false := decide_eq_false c5; clear c5; obtain rfl := Option.some.inj H
     go_enter Try.func63, Try.ntmps63
     go_wp2_with (first | ((with_reducible refine qq_ (N := 1) rfl ?_); refine qo_ ?hg (N := 1) ?hd (cs := #[.int .i64 a0_0, .int .i64 a0_1, .slice A0_2 l0_2.length c0_2]) (t := 35) ?hr ?_; (case hd => rfl); (case hg => rfl); (case hr => first | (go_simp; done) | (go_simp; rfl)); intro gb101 hg w10 hbox hb; have BK101 := Zq_.mk (hbox); have GW101 := gW_ (w := w) hg (hB_ HB); have GE101 := gW_ (w := w) hg (hB_ HB); replace HB := Zq_.mk (ql_ (hB_ HB) hb); clear hb hbox hg; have hcz11_0 := cz_ BK101 0 (.int .i64 a0_0); have hcz11_1 := cz_ BK101 1 (.int .i64 a0_1); have hcz11_2 := cz_ BK101 2 (.slice A0_2 l0_2.length c0_2); have hfz11_0 := qe_ BK101.out 0; have hfz11_1 := qe_ BK101.out 1; have hfz11_2 := qe_ BK101.out 2))
     go_ret
     exact ⟨by first | rfl | (simp [errW_none, errW_some] <;> rfl) | (simp [*, errW_none, errW_some] <;> rfl), by exact hSet_ HB⟩
   ·rw [if_neg c4] at H; have c4b0 : decide (0 ≤ a0_1) = false := decide_eq_false c4; clear c4; obtain rfl := Option.some.inj H
    go_enter Try.func63, Try.ntmps63
    go_wp2_with (first | ((with_reducible refine qq_ (N := 1) rfl ?_); refine qo_ ?hg (N := 1) ?hd (cs := #[.int .i64 a0_0, .int .i64 a0_1, .slice A0_2 l0_2.length c0_2]) (t := 35) ?hr ?_; (case hd => rfl); (case hg => rfl); (case hr => first | (go_simp; done) | (go_simp; rfl)); intro gb101 hg w12 hbox hb; have BK101 := Zq_.mk (hbox); have GW101 := gW_ (w := w) hg (hB_ HB); have GE101 := gW_ (w := w) hg (hB_ HB); replace HB := Zq_.mk (ql_ (hB_ HB) hb); clear hb hbox hg; have hcz13_0 := cz_ BK101 0 (.int .i64 a0_0); have hcz13_1 := cz_ BK101 1 (.int .i64 a0_1); have hcz13_2 := cz_ BK101 2 (.slice A0_2 l0_2.length c0_2); have hfz13_0 := qe_ BK101.out 0; have hfz13_1 := qe_ BK101.out 1; have hfz13_2 := qe_ BK101.out 2))
    go_ret
    exact ⟨by first | rfl | (simp [errW_none, errW_some] <;> rfl) | (simp [*, errW_none, errW_some] <;> rfl), by exact hSet_ HB⟩
  ·rw [if_neg c3] at H; have c3b0 : decide (a0_0 ≤ 1099511627776) = false := decide_eq_false c3; clear c3; obtain rfl := Option.some.inj H
   go_enter Try.func63, Try.ntmps63
   go_wp2_with (first | ((with_reducible refine qq_ (N := 1) rfl ?_); refine qo_ ?hg (N := 1) ?hd (cs := #[.int .i64 a0_0, .int .i64 a0_1, .slice A0_2 l0_2.length c0_2]) (t := 35) ?hr ?_; (case hd => rfl); (case hg => rfl); (case hr => first | (go_simp; done) | (go_simp; rfl)); intro gb101 hg w14 hbox hb; have BK101 := Zq_.mk (hbox); have GW101 := gW_ (w := w) hg (hB_ HB); have GE101 := gW_ (w := w) hg (hB_ HB); replace HB := Zq_.mk (ql_ (hB_ HB) hb); clear hb hbox hg; have hcz15_0 := cz_ BK101 0 (.int .i64 a0_0); have hcz15_1 := cz_ BK101 1 (.int .i64 a0_1); have hcz15_2 := cz_ BK101 2 (.slice A0_2 l0_2.length c0_2); have hfz15_0 := qe_ BK101.out 0; have hfz15_1 := qe_ BK101.out 1; have hfz15_2 := qe_ BK101.out 2))
   go_ret
   exact ⟨by first | rfl | (simp [errW_none, errW_some] <;> rfl) | (simp [*, errW_none, errW_some] <;> rfl), by exact hSet_ HB⟩
 ·rw [if_neg c2] at H; have c2b0 : decide (1 ≤ a0_0) = false := decide_eq_false c2; clear c2; obtain rfl := Option.some.inj H
  go_enter Try.func63, Try.ntmps63
  go_wp2_with (first | ((with_reducible refine qq_ (N := 1) rfl ?_); refine qo_ ?hg (N := 1) ?hd (cs := #[.int .i64 a0_0, .int .i64 a0_1, .slice A0_2 l0_2.length c0_2]) (t := 35) ?hr ?_; (case hd => rfl); (case hg => rfl); (case hr => first | (go_simp; done) | (go_simp; rfl)); intro gb101 hg w16 hbox hb; have BK101 := Zq_.mk (hbox); have GW101 := gW_ (w := w) hg (hB_ HB); have GE101 := gW_ (w := w) hg (hB_ HB); replace HB := Zq_.mk (ql_ (hB_ HB) hb); clear hb hbox hg; have hcz17_0 := cz_ BK101 0 (.int .i64 a0_0); have hcz17_1 := cz_ BK101 1 (.int .i64 a0_1); have hcz17_2 := cz_ BK101 2 (.slice A0_2 l0_2.length c0_2); have hfz17_0 := qe_ BK101.out 0; have hfz17_1 := qe_ BK101.out 1; have hfz17_2 := qe_ BK101.out 2))
  go_ret
  exact ⟨by first | rfl | (simp [errW_none, errW_some] <;> rfl) | (simp [*, errW_none, errW_some] <;> rfl), by exact hSet_ HB⟩
end Go.Proofs.Ytgipbmjkgciccaa.P

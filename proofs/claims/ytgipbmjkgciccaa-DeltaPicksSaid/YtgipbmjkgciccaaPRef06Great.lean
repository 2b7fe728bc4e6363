/- What this function of the program comes to, and that the machine's call does it. No condition. -/
import Derived.Test.YtgipbmjkgciccaaP0
import Derived.Test.YtgipbmjkgciccaaHw
namespace Go.Proofs.Ytgipbmjkgciccaa.P
set_option maxHeartbeats 8000000
set_option maxRecDepth 100000
open Go.RowKit Go.Proofs.YtgipbmjkgciccaaW.PrintWords Go.Proofs.YtgipbmjkgciccaaW.PrintLast Go.Proofs.YtgipbmjkgciccaaW.PrintMore
attribute [local go_sem] max2_int min2_int max_two min_two max_three min_three max_four min_four Go.Proofs.YtgipbmjkgciccaaW.Hw.string_gtr
set_option linter.unusedVariables false
set_option linter.unusedSimpArgs false
def ref04_Great.l0 : Nat → List (S58) → Int → Int → Option (Bool)
 | 0, _, _, _ => none
 | k + 1, x0, x3, x4 => if x4 < (x0.length : Int) then (if x3 ≤ 4000 then (if 0 ≤ x4 then (ref04_Great.l0 k x0 (wrap64 (x3 + (((rd_T58 x0 x4).f2).size : Int))) (wrap64 (x4 + 1))) else (none)) else (some (decide (x3 > 4000)))) else (some (decide (x3 > 4000)))
def ref04_Great.f (k : Nat) (l0 : List (S58)) : Option (Bool) := ref04_Great.l0 k l0 (l0.length : Int) 0
theorem ref04_Great.mono_l : ∀ k, (∀ y0 y1 y2, LeO (ref04_Great.l0 k y0 y1 y2) (ref04_Great.l0 (k + 1) y0 y1 y2))
 | 0 => fun _ _ _ r h => by simp [ref04_Great.l0] at h
 | k + 1 => by
  have ih0 := ref04_Great.mono_l k
  ·intro y0 y1 y2
   unfold ref04_Great.l0
   repeat' first
   | (with_reducible exact ih0 _ _ _)
   | (with_reducible exact LeO.refl _)
   | (with_reducible exact LeO.none _)
   | (with_reducible refine LeO.ite ?_ ?_)
   | (with_reducible refine LeO.bind ?_ (fun _ => ?_))
   | exact ih0 _ _ _
   | exact LeO.none _
   | refine LeO.ite ?_ ?_
   | refine LeO.bind ?_ (fun _ => ?_)
theorem ref04_Great.mono : ∀ a0 k, LeO (ref04_Great.f k a0) (ref04_Great.f (k + 1) a0) := by
 intro a0 k; have ih0 := ref04_Great.mono_l k
 unfold ref04_Great.f
 repeat' first
   | (with_reducible exact ih0 _ _ _)
   | (with_reducible exact LeO.refl _)
   | (with_reducible exact LeO.none _)
   | (with_reducible refine LeO.ite ?_ ?_)
   | (with_reducible refine LeO.bind ?_ (fun _ => ?_))
   | exact ih0 _ _ _
   | exact LeO.none _
   | refine LeO.ite ?_ ?_
   | refine LeO.bind ?_ (fun _ => ?_)
theorem ref04_Great.calls (k : Nat) (A0 : Option Addr) (c0 : Nat) (l0 : List (S58)) (r : Bool) (w : World) (hr0 : Kd.C k58 w A0 l0.length l0) (hc0 : l0.length ≤ c0) (h : ref04_Great.f k l0 = some r) :
  Calls Try.prog 55 #[.slice A0 l0.length c0] w fun e w' => e = .returned (.bool r) ∧ Drawn0 w w' := by
 have HR0 := Zq_.mk hr0; have HC0 := Zq_.mk hc0; clear hr0 hc0; have H : (ref04_Great.l0 k l0 (l0.length : Int) 0) = some r := h; clear h; have H' := Zq_.mk H; clear H
 go_enter Try.func55, Try.ntmps55
 go_wp2
 go_loopg [3, 4] k (fun kq v3 v4 w' => ∃ (x3_1 : Int) (x4_1 : Int), v3 = .int .i64 x3_1 ∧ v4 = .int .i64 x4_1 ∧ Zq_ (ref04_Great.l0 kq l0 x3_1 x4_1 = some r) ∧ Zq_ (kq ≤ k) ∧ Drawn0 w w')
 case atStart => exact ⟨((l0.length : Int)), (0), (by first | rfl | (simp; done) | (simp [*]; done)), (by first | rfl | (simp; done) | (simp [*]; done)), H', ⟨Nat.le_refl _⟩, by repeat (first | exact Drawn0.refl _ | apply Drawn0.step)⟩
 case round =>
  clear H'; obtain ⟨x3_1, x4_1, rfl, rfl, HA, HK1, ⟨m1, rfl⟩⟩ := hrel
  cases gk with
  | zero => exact absurd HA.out (by simp [ref04_Great.l0])
  | succ k1 =>
   have H := HA.out; clear HA; simp only [ref04_Great.l0] at H
   by_cases c2 : x4_1 < (l0.length : Int)
   ·rw [if_pos c2] at H; have c2b0 : decide (x4_1 < (l0.length : Int)) = true := decide_eq_true c2; clear c2
    by_cases c3 : x3_1 ≤ 4000
    ·rw [if_pos c3] at H; have c3b0 : decide (x3_1 ≤ 4000) = true := decide_eq_true c3; clear c3
     by_cases c4 : 0 ≤ x4_1
     ·rw [if_pos c4] at H; have c4b0 : decide (0 ≤ x4_1) = true := decide_eq_true c4; clear c4; have H' := Zq_.mk H; clear H; have p101 : 0 ≤ (x4_1 : Int) := dA_; have q101 : x4_1 < (l0.length : Int) := dA_; obtain ⟨ad101, e101, hx101_0, hx101_1, hx101_2⟩ := at_T58 HR0.out x4_1 p101 q101; cases e101; replace p101 := eq_true p101; replace q101 := eq_true q101
      go_wp2
      go_roundg k1
      case measure => have := HK1.out; omega
      case rel => exact ⟨(wrap64 (x3_1 + (((rd_T58 l0 x4_1).f2).size : Int))), (wrap64 (x4_1 + 1)), (by first | rfl | (simp; done) | (simp [*]; done)), (by first | rfl | (simp; done) | (simp [*]; done)), H', ⟨by have := HK1.out; omega⟩, by repeat (first | exact Drawn0.refl _ | apply Drawn0.step)⟩
     ·rw [if_neg c4] at H; exact absurd H (by simp)
    ·rw [if_neg c3] at H; have c3b0 : decide (x3_1 ≤ 4000) = false := decide_eq_false c3; clear c3; obtain rfl := Option.some.inj H
     go_wp2
     go_ret
     exact ⟨by first | rfl | (simp; done) | (simp [*]; done), by repeat (first | exact Drawn0.refl _ | apply Drawn0.step)⟩
   ·rw [if_neg c2] at H; have c2b0 : decide (x4_1 < (l0.length : Int)) = false := decide_eq_false c2; clear c2; obtain rfl := Option.some.inj H
    go_wp2
    go_ret
    exact ⟨by first | rfl | (simp; done) | (simp [*]; done), by repeat (first | exact Drawn0.refl _ | apply Drawn0.step)⟩
def ref05_Great.f (k : Nat) (a0_0 : Int) (a0_1 : Int) (l0_2 : List (S58)) : Option (Bool) := (ref04_Great.f k l0_2).bind fun t102 => (some t102)
theorem ref05_Great.mono : ∀ a0 a1 a2 k, LeO (ref05_Great.f k a0 a1 a2) (ref05_Great.f (k + 1) a0 a1 a2) := by
 intro a0 a1 a2 k
 unfold ref05_Great.f
 repeat' first
   | (with_reducible exact ref04_Great.mono _ _)
   | (with_reducible exact LeO.refl _)
   | (with_reducible exact LeO.none _)
   | (with_reducible refine LeO.ite ?_ ?_)
   | (with_reducible refine LeO.bind ?_ (fun _ => ?_))
   | exact ref04_Great.mono _ _
   | exact LeO.none _
   | refine LeO.ite ?_ ?_
   | refine LeO.bind ?_ (fun _ => ?_)
theorem ref05_Great.calls (k : Nat) (a0_0 : Int) (a0_1 : Int) (A0_2 : Option Addr) (c0_2 : Nat) (l0_2 : List (S58)) (r : Bool) (w : World) (hr0_2 : Kd.C k58 w A0_2 l0_2.length l0_2) (hc0_2 : l0_2.length ≤ c0_2) (h : ref05_Great.f k a0_0 a0_1 l0_2 = some r) :
  Calls Try.prog 34 #[.agg #[.int .i64 a0_0, .int .i64 a0_1, .slice A0_2 l0_2.length c0_2]] w fun e w' => e = .returned (.bool r) ∧ Below w.heap.size w w' := by
 have hu35 := Try.underlying35; have HR0_2 := Zq_.mk hr0_2; have HC0_2 := Zq_.mk hc0_2; clear hr0_2 hc0_2; have HB := Zq_.mk (Below.refl w.heap.size w); have H : ((ref04_Great.f k l0_2).bind fun t102 => (some t102)) = some r := h; clear h; replace H := ob_ H; obtain ⟨t102, A20, H⟩ := H; replace H : (some t102) = some r := H; have A2 := Zq_.mk A20; clear A20; obtain rfl := Option.some.inj H
 go_enter Try.func34, Try.ntmps34
 go_wp2_with (first | ((with_reducible refine qq_ (N := 1) rfl ?_); refine qo_ ?hg (N := 1) ?hd (cs := #[.int .i64 a0_0, .int .i64 a0_1, .slice A0_2 l0_2.length c0_2]) (t := 35) ?hr ?_; (case hd => rfl); (case hg => rfl); (case hr => first | (go_simp; done) | (go_simp; rfl)); intro gb101 hg w3 hbox hb; have BK101 := Zq_.mk (hbox); have GW101 := gW_ (w := w) hg (hB_ HB); have GE101 := gW_ (w := w) hg (hB_ HB); replace HB := Zq_.mk (ql_ (hB_ HB) hb); clear hb hbox hg; have hcz4_0 := cz_ BK101 0 (.int .i64 a0_0); have hcz4_1 := cz_ BK101 1 (.int .i64 a0_1); have hcz4_2 := cz_ BK101 2 (.slice A0_2 l0_2.length c0_2); have hfz4_0 := qe_ BK101.out 0; have hfz4_1 := qe_ BK101.out 1; have hfz4_2 := qe_ BK101.out 2) | ((with_reducible refine va_ (f := 55) rfl ?_); refine goesL_ (some 5) rfl rfl Try.func55 (by kernel_rfl) rfl #[.slice A0_2 l0_2.length c0_2] rfl (by (try simp only [List.map_toArray, List.map_cons, List.map_nil]); first | done | rfl | (simp only [List.length_drop, List.length_take]; rfl)) ?_; (with_reducible refine (ref04_Great.calls k _ _ l0_2 t102 _ ?side1 ?side2 A2.out).mono ?_); (case side1 => exact cX_ (Kd.qz_ HR0_2.out HB.out)); (case side2 => exact HC0_2.out); rintro e w' ⟨rfl, ⟨nd, rfl⟩⟩; refine ⟨_, rfl, ?_⟩))
 go_ret
 exact ⟨by first | rfl | (simp [errW_none, errW_some] <;> rfl) | (simp [*, errW_none, errW_some] <;> rfl), by exact hSet_ HB⟩
mutual
def ref06_Great.l0 : Nat → List (S39) → Int → Option (Bool)
 | 0, _, _ => none
 | k + 1, x0, x3 => if x3 < (x0.length : Int) then (ref06_Great.j1 k x0 x3 (decide (x3 < 41))) else (ref06_Great.j1 k x0 x3 false)
def ref06_Great.j1 : Nat → List (S39) → Int → Bool → Option (Bool)
 | 0, _, _, _ => none
 | k + 1, x0, x3, x11 => if x11 = true then (if 0 ≤ x3 then (if x3 < (x0.length : Int) then ((ref05_Great.f k ((rd_T39 x0 x3).f1.f0) ((rd_T39 x0 x3).f1.f1) ((rd_T39 x0 x3).f1.f2)).bind fun t102 => (if t102 = true then (some true) else (ref06_Great.l0 k x0 (wrap64 (x3 + 1))))) else (none)) else (none)) else (some (decide ((x0.length : Int) > 40)))
end
def ref06_Great.f (k : Nat) (l0 : List (S39)) : Option (Bool) := ref06_Great.l0 k l0 0
theorem ref06_Great.mono_l : ∀ k, (∀ y0 y1, LeO (ref06_Great.l0 k y0 y1) (ref06_Great.l0 (k + 1) y0 y1)) ∧ (∀ y0 y1 y2, LeO (ref06_Great.j1 k y0 y1 y2) (ref06_Great.j1 (k + 1) y0 y1 y2))
 | 0 => ⟨fun _ _ r h => by simp [ref06_Great.l0] at h, fun _ _ _ r h => by simp [ref06_Great.j1] at h⟩
 | k + 1 => by
  obtain ⟨ih0, ih1⟩ := ref06_Great.mono_l k; refine ⟨?_, ?_⟩
  ·intro y0 y1
   unfold ref06_Great.l0
   repeat' first
   | (with_reducible exact ih0 _ _)
   | (with_reducible exact ih1 _ _ _)
   | (with_reducible exact ref05_Great.mono _ _ _ _)
   | (with_reducible exact LeO.refl _)
   | (with_reducible exact LeO.none _)
   | (with_reducible refine LeO.ite ?_ ?_)
   | (with_reducible refine LeO.bind ?_ (fun _ => ?_))
   | exact ih0 _ _
   | exact ih1 _ _ _
   | exact ref05_Great.mono _ _ _ _
   | exact LeO.none _
   | refine LeO.ite ?_ ?_
   | refine LeO.bind ?_ (fun _ => ?_)
  ·intro y0 y1 y2
   unfold ref06_Great.j1
   repeat' first
   | (with_reducible exact ih0 _ _)
   | (with_reducible exact ih1 _ _ _)
   | (with_reducible exact ref05_Great.mono _ _ _ _)
   | (with_reducible exact LeO.refl _)
   | (with_reducible exact LeO.none _)
   | (with_reducible refine LeO.ite ?_ ?_)
   | (with_reducible refine LeO.bind ?_ (fun _ => ?_))
   | exact ih0 _ _
   | exact ih1 _ _ _
   | exact ref05_Great.mono _ _ _ _
   | exact LeO.none _
   | refine LeO.ite ?_ ?_
   | refine LeO.bind ?_ (fun _ => ?_)
theorem ref06_Great.mono : ∀ a0 k, LeO (ref06_Great.f k a0) (ref06_Great.f (k + 1) a0) := by
 intro a0 k; obtain ⟨ih0, ih1⟩ := ref06_Great.mono_l k
 unfold ref06_Great.f
 repeat' first
   | (with_reducible exact ih0 _ _)
   | (with_reducible exact ih1 _ _ _)
   | (with_reducible exact ref05_Great.mono _ _ _ _)
   | (with_reducible exact LeO.refl _)
   | (with_reducible exact LeO.none _)
   | (with_reducible refine LeO.ite ?_ ?_)
   | (with_reducible refine LeO.bind ?_ (fun _ => ?_))
   | exact ih0 _ _
   | exact ih1 _ _ _
   | exact ref05_Great.mono _ _ _ _
   | exact LeO.none _
   | refine LeO.ite ?_ ?_
   | refine LeO.bind ?_ (fun _ => ?_)
theorem ref06_Great.calls (k : Nat) (A0 : Option Addr) (c0 : Nat) (l0 : List (S39)) (r : Bool) (w : World) (hr0 : Kd.C k39 w A0 l0.length l0) (hc0 : l0.length ≤ c0) (h : ref06_Great.f k l0 = some r) :
  Calls Try.prog 8 #[.slice A0 l0.length c0] w fun e w' => e = .returned (.bool r) ∧ Below w.heap.size w w' := by
 have hu35 := Try.underlying35; have HR0 := Zq_.mk hr0; have HC0 := Zq_.mk hc0; clear hr0 hc0; have HB := Zq_.mk (Below.refl w.heap.size w); have H : (ref06_Great.l0 k l0 0) = some r := h; clear h; have H' := Zq_.mk H; clear H
 go_enter Try.func8, Try.ntmps8
 go_wp2
 go_loopg [3] k (fun kq v3 w' => ∃ (x3_1 : Int), v3 = .int .i64 x3_1 ∧ Zq_ (ref06_Great.l0 kq l0 x3_1 = some r) ∧ Zq_ (kq ≤ k) ∧ Zq_ (Below w.heap.size w w'))
 case atStart => exact ⟨(0), (by first | rfl | (simp; done) | (simp [*]; done)), H', ⟨Nat.le_refl _⟩, ⟨hB_ HB⟩⟩
 case round =>
  clear H'; obtain ⟨x3_1, rfl, HA, HK1, HB⟩ := hrel
  cases gk with
  | zero => exact absurd HA.out (by simp [ref06_Great.l0])
  | succ k1 =>
   have H := HA.out; clear HA; simp only [ref06_Great.l0] at H; have HC2 := Zq_.mk H; clear H
   go_upto_region 2 with (fail)
   go_cut [11] (fun v11 wc => ∃ (kq : Nat) (x11_1 : Bool), v11 = .bool x11_1 ∧ Zq_ (ref06_Great.j1 kq l0 x3_1 x11_1 = some r) ∧ Zq_ (kq ≤ k1) ∧ Zq_ (Below w.heap.size w wc))
   case first =>
    have H := HC2.out; clear HC2
    by_cases c3 : x3_1 < (l0.length : Int)
    ·rw [if_pos c3] at H; have c3b0 : decide (x3_1 < (l0.length : Int)) = true := decide_eq_true c3; clear c3; (first | rw [c3b0] | (simp only [i64_w, i32_w]; rw [c3b0]) | skip); have H' := Zq_.mk H; clear H
     go_wp2
     go_meet
     case rel => exact ⟨_, (decide (x3_1 < 41)), (by first | rfl | (simp; done) | (simp [*]; done)), H', ⟨by have := HK1.out; first | omega | exact Nat.le_refl _⟩, ⟨hB_ HB⟩⟩
    ·rw [if_neg c3] at H; have c3b0 : decide (x3_1 < (l0.length : Int)) = false := decide_eq_false c3; clear c3; (first | rw [c3b0] | (simp only [i64_w, i32_w]; rw [c3b0]) | skip); have H' := Zq_.mk H; clear H
     go_wp2
     go_meet
     case rel => exact ⟨_, (false), (by first | rfl | (simp; done) | (simp [*]; done)), H', ⟨by have := HK1.out; first | omega | exact Nat.le_refl _⟩, ⟨hB_ HB⟩⟩
   case rest =>
    clear HC2
    try clear p2
    try clear c3
    try clear c3b0
    obtain ⟨kq, x11_1, rfl, HA, HJ1, HB⟩ := hcut
    cases kq with
    | zero => exact absurd HA.out (by simp [ref06_Great.j1])
    | succ kj1 =>
     have H := HA.out; clear HA; simp only [ref06_Great.j1] at H
     by_cases c4 : x11_1 = true
     ·subst c4
      have H1 : (if 0 ≤ x3_1 then (if x3_1 < (l0.length : Int) then ((ref05_Great.f kj1 ((rd_T39 l0 x3_1).f1.f0) ((rd_T39 l0 x3_1).f1.f1) ((rd_T39 l0 x3_1).f1.f2)).bind fun t102 => (if t102 = true then (some true) else (ref06_Great.l0 kj1 l0 (wrap64 (x3_1 + 1))))) else (none)) else (none)) = some r := by rw [if_pos rfl] at H; exact H
      clear H; have H := H1; clear H1
      by_cases c5 : 0 ≤ x3_1
      ·rw [if_pos c5] at H; have c5b0 : decide (0 ≤ x3_1) = true := decide_eq_true c5; clear c5
       by_cases c6 : x3_1 < (l0.length : Int)
       ·rw [if_pos c6] at H; have c6b0 : decide (x3_1 < (l0.length : Int)) = true := decide_eq_true c6; clear c6; replace H := ob_ H; obtain ⟨t102, A70, H⟩ := H; replace H : (if t102 = true then (some true) else (ref06_Great.l0 kj1 l0 (wrap64 (x3_1 + 1)))) = some r := H; have A7 := Zq_.mk A70; clear A70
        by_cases c8 : t102 = true
        ·subst c8
         have H1 : (some true) = some r := by rw [if_pos rfl] at H; exact H
         clear H; have H := H1; clear H1; obtain rfl := Option.some.inj H; have p101 : 0 ≤ (x3_1 : Int) := dA_; have q101 : x3_1 < (l0.length : Int) := dA_; obtain ⟨ad101, A101_3, c101_3, e101, hx101_0, hx101_1, hx101_2, hx101_3, hl101_3, hi101_3⟩ := at_T39 HR0.out x3_1 p101 q101; cases e101; replace hx101_0 := hC_ HB hx101_0; replace hx101_1 := hC_ HB hx101_1; replace hx101_2 := hC_ HB hx101_2; replace hx101_3 := hC_ HB hx101_3; have HR101_3 := Zq_.mk hi101_3; have HC101_3 := Zq_.mk hl101_3; clear hi101_3 hl101_3; replace p101 := eq_true p101; replace q101 := eq_true q101
         go_wp2_with (first | ((with_reducible refine va_ (f := 34) rfl ?_); refine goesL_ (some 19) rfl rfl Try.func34 (by kernel_rfl) rfl #[.agg #[.int .i64 ((rd_T39 l0 x3_1).f1.f0), .int .i64 ((rd_T39 l0 x3_1).f1.f1), .slice A101_3 ((rd_T39 l0 x3_1).f1.f2).length c101_3]] rfl (by (try simp only [List.map_toArray, List.map_cons, List.map_nil]); first | done | rfl | (simp only [List.length_drop, List.length_take]; rfl)) ?_; (with_reducible refine (ref05_Great.calls kj1 ((rd_T39 l0 x3_1).f1.f0) ((rd_T39 l0 x3_1).f1.f1) _ _ ((rd_T39 l0 x3_1).f1.f2) true _ ?side1 ?side2 A7.out).mono ?_); (case side1 => exact cX_ (Kd.qz_ HR101_3.out HB.out)); (case side2 => exact HC101_3.out); rintro e w9 ⟨rfl, hb⟩; refine ⟨_, rfl, ?_⟩; replace HB := Zq_.mk (ql_ (hB_ HB) hb); (try clear hb)))
         go_ret
         exact ⟨by first | rfl | (simp [errW_none, errW_some] <;> rfl) | (simp [*, errW_none, errW_some] <;> rfl), hB_ HB⟩
        ·replace c8 := Bool.eq_false_iff.mpr c8; subst c8
         have H1 : (ref06_Great.l0 kj1 l0 (wrap64 (x3_1 + 1))) = some r := by rw [if_neg (show ¬ (false = true) by decide)] at H; exact H
         clear H; have H := H1; clear H1; have H' := Zq_.mk H; clear H; have p101 : 0 ≤ (x3_1 : Int) := dA_; have q101 : x3_1 < (l0.length : Int) := dA_; obtain ⟨ad101, A101_3, c101_3, e101, hx101_0, hx101_1, hx101_2, hx101_3, hl101_3, hi101_3⟩ := at_T39 HR0.out x3_1 p101 q101; cases e101; replace hx101_0 := hC_ HB hx101_0; replace hx101_1 := hC_ HB hx101_1; replace hx101_2 := hC_ HB hx101_2; replace hx101_3 := hC_ HB hx101_3; have HR101_3 := Zq_.mk hi101_3; have HC101_3 := Zq_.mk hl101_3; clear hi101_3 hl101_3; replace p101 := eq_true p101; replace q101 := eq_true q101
         go_wp2_with (first | ((with_reducible refine va_ (f := 34) rfl ?_); refine goesL_ (some 19) rfl rfl Try.func34 (by kernel_rfl) rfl #[.agg #[.int .i64 ((rd_T39 l0 x3_1).f1.f0), .int .i64 ((rd_T39 l0 x3_1).f1.f1), .slice A101_3 ((rd_T39 l0 x3_1).f1.f2).length c101_3]] rfl (by (try simp only [List.map_toArray, List.map_cons, List.map_nil]); first | done | rfl | (simp only [List.length_drop, List.length_take]; rfl)) ?_; (with_reducible refine (ref05_Great.calls kj1 ((rd_T39 l0 x3_1).f1.f0) ((rd_T39 l0 x3_1).f1.f1) _ _ ((rd_T39 l0 x3_1).f1.f2) false _ ?side1 ?side2 A7.out).mono ?_); (case side1 => exact cX_ (Kd.qz_ HR101_3.out HB.out)); (case side2 => exact HC101_3.out); rintro e w10 ⟨rfl, hb⟩; refine ⟨_, rfl, ?_⟩; replace HB := Zq_.mk (ql_ (hB_ HB) hb); (try clear hb)))
         go_roundg kj1
         case measure => have := HK1.out; have := HJ1.out; omega
         case rel => exact ⟨(wrap64 (x3_1 + 1)), (by first | rfl | (simp; done) | (simp [*]; done)), H', ⟨by have := HK1.out; have := HJ1.out; omega⟩, ⟨hB_ HB⟩⟩
       ·rw [if_neg c6] at H; exact absurd H (by simp)
      ·rw [if_neg c5] at H; exact absurd H (by simp)
     ·replace c4 := Bool.eq_false_iff.mpr c4; subst c4
      have H1 : (some (decide ((l0.length : Int) > 40))) = some r := by rw [if_neg (show ¬ (false = true) by decide)] at H; exact H
      clear H; have H := H1; clear H1; obtain rfl := Option.some.inj H
      go_wp2
      go_ret
      exact ⟨by first | rfl | (simp [errW_none, errW_some] <;> rfl) | (simp [*, errW_none, errW_some] <;> rfl), hB_ HB⟩
end Go.Proofs.Ytgipbmjkgciccaa.P

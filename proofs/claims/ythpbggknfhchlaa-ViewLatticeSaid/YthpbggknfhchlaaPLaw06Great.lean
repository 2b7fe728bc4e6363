/- What this function of the program comes to, and that the machine's call does it. No condition. -/
import Derived.Test.YthpbggknfhchlaaPRef06Great
namespace Go.Proofs.Ythpbggknfhchlaa.P
set_option maxHeartbeats 8000000
set_option maxRecDepth 100000
open Go.RowKit Go.Proofs.YthpbggknfhchlaaW.PrintWords Go.Proofs.YthpbggknfhchlaaW.PrintLast Go.Proofs.YthpbggknfhchlaaW.PrintMore
attribute [local go_sem] max2_int min2_int max_two min_two ve_ vd_ max_four min_four Go.Proofs.YthpbggknfhchlaaW.Hw.string_gtr
set_option linter.unusedVariables false
set_option linter.unusedSimpArgs false
def law06_great.l0 : Nat → List (List (S41)) → Int → Option (Bool)
 | 0, _, _ => none
 | k + 1, x0, x3 => if x3 < (x0.length : Int) then (if 0 ≤ x3 then ((ref06_Great.f k (rd_L6 x0 x3)).bind fun t102 => (if t102 = true then (some true) else (law06_great.l0 k x0 (wrap64 (x3 + 1))))) else (none)) else (some false)
def law06_great.f (k : Nat) (l0 : List (List (S41))) : Option (Bool) := law06_great.l0 k l0 0
theorem law06_great.mono_l : ∀ k, (∀ y0 y1, LeO (law06_great.l0 k y0 y1) (law06_great.l0 (k + 1) y0 y1))
 | 0 => fun _ _ r h => by simp [law06_great.l0] at h
 | k + 1 => by
  have ih0 := law06_great.mono_l k
  ·intro y0 y1
   unfold law06_great.l0
   repeat' first
   | (with_reducible exact ih0 _ _)
   | (with_reducible exact ref06_Great.mono _ _)
   | (with_reducible exact LeO.refl _)
   | (with_reducible exact LeO.none _)
   | (with_reducible refine LeO.ite ?_ ?_)
   | (with_reducible refine LeO.bind ?_ (fun _ => ?_))
   | exact ih0 _ _
   | exact ref06_Great.mono _ _
   | exact LeO.none _
   | refine LeO.ite ?_ ?_
   | refine LeO.bind ?_ (fun _ => ?_)
theorem law06_great.mono : ∀ a0 k, LeO (law06_great.f k a0) (law06_great.f (k + 1) a0) := by
 intro a0 k; have ih0 := law06_great.mono_l k
 unfold law06_great.f
 repeat' first
   | (with_reducible exact ih0 _ _)
   | (with_reducible exact ref06_Great.mono _ _)
   | (with_reducible exact LeO.refl _)
   | (with_reducible exact LeO.none _)
   | (with_reducible refine LeO.ite ?_ ?_)
   | (with_reducible refine LeO.bind ?_ (fun _ => ?_))
   | exact ih0 _ _
   | exact ref06_Great.mono _ _
   | exact LeO.none _
   | refine LeO.ite ?_ ?_
   | refine LeO.bind ?_ (fun _ => ?_)
theorem law06_great.calls (k : Nat) (A0 : Option Addr) (c0 : Nat) (l0 : List (List (S41))) (r : Bool) (w : World) (hr0 : Kd.C (Kd.slice 41 k41) w A0 l0.length l0) (hc0 : l0.length ≤ c0) (h : law06_great.f k l0 = some r) :
  Calls Try.prog 9 #[.slice A0 l0.length c0] w fun e w' => e = .returned (.bool r) ∧ Below w.heap.size w w' := by
 have HR0 := Zq_.mk hr0; have HC0 := Zq_.mk hc0; clear hr0 hc0; have HB := Zq_.mk (Below.refl w.heap.size w); have H : (law06_great.l0 k l0 0) = some r := h; clear h; have H' := Zq_.mk H; clear H
 go_enter Try.func9, Try.ntmps9
 go_wp2
 go_loopg [3] k (fun kq v3 w' => ∃ (x3_1 : Int), v3 = .int .i64 x3_1 ∧ Zq_ (law06_great.l0 kq l0 x3_1 = some r) ∧ Zq_ (kq ≤ k) ∧ Zq_ (Below w.heap.size w w'))
 case atStart => exact ⟨(0), (by first | rfl | (simp; done) | (simp [*]; done)), H', ⟨Nat.le_refl _⟩, ⟨hB_ HB⟩⟩
 case round =>
  clear H'; obtain ⟨x3_1, rfl, HA, HK1, HB⟩ := hrel
  cases gk with
  | zero => exact absurd HA.out (by simp [law06_great.l0])
  | succ k1 =>
   have H := HA.out; clear HA; simp only [law06_great.l0] at H
   by_cases c2 : x3_1 < (l0.length : Int)
   ·rw [if_pos c2] at H; have c2b0 : decide (x3_1 < (l0.length : Int)) = true := decide_eq_true c2; clear c2
    by_cases c3 : 0 ≤ x3_1
    ·rw [if_pos c3] at H; have c3b0 : decide (0 ≤ x3_1) = true := decide_eq_true c3; clear c3; replace H := ob_ H; obtain ⟨t102, A40, H⟩ := H; replace H : (if t102 = true then (some true) else (law06_great.l0 k1 l0 (wrap64 (x3_1 + 1)))) = some r := H; have A4 := Zq_.mk A40; clear A40
     by_cases c5 : t102 = true
     ·subst c5
      have H1 : (some true) = some r := by rw [if_pos rfl] at H; exact H
      clear H; have H := H1; clear H1; obtain rfl := Option.some.inj H; have p101 : 0 ≤ (x3_1 : Int) := dA_; have q101 : x3_1 < (l0.length : Int) := dA_; obtain ⟨ad101, A101_0, c101_0, e101, hx101_0, hl101_0, hi101_0⟩ := at_L6 HR0.out x3_1 p101 q101; cases e101; replace hx101_0 := hC_ HB hx101_0; have HR101_0 := Zq_.mk hi101_0; have HC101_0 := Zq_.mk hl101_0; clear hi101_0 hl101_0; replace p101 := eq_true p101; replace q101 := eq_true q101
      go_wp2_with (first | ((with_reducible refine qz_ (f := 32) rfl ?_); refine goesL_ (some 14) rfl rfl Try.func32 (by kernel_rfl) rfl #[.slice A101_0 (rd_L6 l0 x3_1).length c101_0] rfl (by (try simp only [List.map_toArray, List.map_cons, List.map_nil]); first | done | rfl | (simp only [List.length_drop, List.length_take]; rfl)) ?_; (with_reducible refine (ref06_Great.calls k1 _ _ (rd_L6 l0 x3_1) true _ ?side1 ?side2 A4.out).mono ?_); (case side1 => exact cX_ (Kd.vb_ HR101_0.out HB.out)); (case side2 => exact HC101_0.out); rintro e w6 ⟨rfl, hb⟩; refine ⟨_, rfl, ?_⟩; replace HB := Zq_.mk (qm_ (hB_ HB) hb); (try clear hb)))
      go_ret
      exact ⟨by first | rfl | (simp [errW_none, errW_some] <;> rfl) | (simp [*, errW_none, errW_some] <;> rfl), hB_ HB⟩
     ·replace c5 := Bool.eq_false_iff.mpr c5; subst c5
      have H1 : (law06_great.l0 k1 l0 (wrap64 (x3_1 + 1))) = some r := by rw [if_neg (show ¬ (false = true) by decide)] at H; exact H
      clear H; have H := H1; clear H1; have H' := Zq_.mk H; clear H; have p101 : 0 ≤ (x3_1 : Int) := dA_; have q101 : x3_1 < (l0.length : Int) := dA_; obtain ⟨ad101, A101_0, c101_0, e101, hx101_0, hl101_0, hi101_0⟩ := at_L6 HR0.out x3_1 p101 q101; cases e101; replace hx101_0 := hC_ HB hx101_0; have HR101_0 := Zq_.mk hi101_0; have HC101_0 := Zq_.mk hl101_0; clear hi101_0 hl101_0; replace p101 := eq_true p101; replace q101 := eq_true q101
      go_wp2_with (first | ((with_reducible refine qz_ (f := 32) rfl ?_); refine goesL_ (some 14) rfl rfl Try.func32 (by kernel_rfl) rfl #[.slice A101_0 (rd_L6 l0 x3_1).length c101_0] rfl (by (try simp only [List.map_toArray, List.map_cons, List.map_nil]); first | done | rfl | (simp only [List.length_drop, List.length_take]; rfl)) ?_; (with_reducible refine (ref06_Great.calls k1 _ _ (rd_L6 l0 x3_1) false _ ?side1 ?side2 A4.out).mono ?_); (case side1 => exact cX_ (Kd.vb_ HR101_0.out HB.out)); (case side2 => exact HC101_0.out); rintro e w7 ⟨rfl, hb⟩; refine ⟨_, rfl, ?_⟩; replace HB := Zq_.mk (qm_ (hB_ HB) hb); (try clear hb)))
      go_roundg k1
      case measure => have := HK1.out; omega
      case rel => exact ⟨(wrap64 (x3_1 + 1)), (by first | rfl | (simp; done) | (simp [*]; done)), H', ⟨by have := HK1.out; omega⟩, ⟨hB_ HB⟩⟩
    ·rw [if_neg c3] at H; exact absurd H (by simp)
   ·rw [if_neg c2] at H; have c2b0 : decide (x3_1 < (l0.length : Int)) = false := decide_eq_false c2; clear c2; obtain rfl := Option.some.inj H
    go_wp2
    go_ret
    exact ⟨by first | rfl | (simp [errW_none, errW_some] <;> rfl) | (simp [*, errW_none, errW_some] <;> rfl), hB_ HB⟩
end Go.Proofs.Ythpbggknfhchlaa.P

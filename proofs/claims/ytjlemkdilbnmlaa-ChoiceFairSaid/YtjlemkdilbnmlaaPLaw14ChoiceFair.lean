/- What printed functions come to, and that the machine's calls do it. No condition. -/
import Derived.Test.YtjlemkdilbnmlaaPChoiceOne
namespace Go.Proofs.Ytjlemkdilbnmlaa.P
set_option maxHeartbeats 8000000
set_option maxRecDepth 100000
open Go.RowKit Go.Proofs.YtjlemkdilbnmlaaW.PrintWords Go.Proofs.YtjlemkdilbnmlaaW.PrintLast Go.Proofs.YtjlemkdilbnmlaaW.PrintMore
attribute [local go_sem] max2_int min2_int max_two min_two max_three min_three max_four min_four Go.Proofs.YtjlemkdilbnmlaaW.Hw.string_gtr
set_option linter.unusedVariables false
set_option linter.unusedSimpArgs false
def law14_ChoiceFair.l0 : Nat → List Int → Int → Int → Option (Bool)
 | 0, _, _, _ => none
 | k + 1, x0, x1, x5 => if x5 < (x0.length : Int) then ((choice_One.f x0 ((wrap64 ((wrap64 ((wrap64 (x1)) * (x0.length : Int))) + x5)) % 4294967296)).bind fun aE => (if aE.2 = true then (if 0 ≤ x5 then (if aE.1 = (rd x0 x5) then (law14_ChoiceFair.l0 k x0 x1 (wrap64 (x5 + 1))) else (some false)) else (none)) else (some false))) else (some true)
def law14_ChoiceFair.f (k : Nat) (l0 : List Int) (a1 : Int) : Option (Bool) := (law14_alive.f k).bind fun aC => (if aC = true then (if (l0.length : Int) > 100 then (some true) else (law14_ChoiceFair.l0 k l0 a1 0)) else (some false))
theorem law14_ChoiceFair.mono_l : ∀ k, (∀ y0 y1 y2, LeO (law14_ChoiceFair.l0 k y0 y1 y2) (law14_ChoiceFair.l0 (k + 1) y0 y1 y2))
 | 0 => fun _ _ _ r h => by simp [law14_ChoiceFair.l0] at h
 | k + 1 => by
  have ih0 := law14_ChoiceFair.mono_l k
  ·intro y0 y1 y2
   unfold law14_ChoiceFair.l0
   with_reducible repeat' first | exact ih0 _ _ _ | exact law14_alive.mono _ | exact LeO.refl _ | exact LeO.none _ | refine LeO.ite ?_ ?_ | refine LeO.bind ?_ (fun _ => ?_)
theorem law14_ChoiceFair.mono : ∀ a0 a1 k, LeO (law14_ChoiceFair.f k a0 a1) (law14_ChoiceFair.f (k + 1) a0 a1) := by
 intro a0 a1 k; have ih0 := law14_ChoiceFair.mono_l k
 unfold law14_ChoiceFair.f
 with_reducible repeat' first | exact ih0 _ _ _ | exact law14_alive.mono _ | exact LeO.refl _ | exact LeO.none _ | refine LeO.ite ?_ ?_ | refine LeO.bind ?_ (fun _ => ?_)
theorem law14_ChoiceFair.calls (k : Nat) (A0 : Option Addr) (c0 : Nat) (l0 : List Int) (a1 : Int) (r : Bool) (w : World) (hr0 : Kd.C (Kd.int .i64) w A0 l0.length l0) (hc0 : l0.length ≤ c0) (h : law14_ChoiceFair.f k l0 a1 = some r) (hrt : r = true) :
  Calls Try.prog 5 #[.slice A0 l0.length c0, .int .u16 a1] w fun e w' => e = .returned (.bool r) ∧ Below w.heap.size w w' := by
 have HRT := Zq_.mk hrt; clear hrt; have HR0 := Zq_.mk hr0; have HC0 := Zq_.mk hc0; clear hr0 hc0; have HB := Zq_.mk (Below.refl w.heap.size w); have H : ((law14_alive.f k).bind fun aC => (if aC = true then (if (l0.length : Int) > 100 then (some true) else (law14_ChoiceFair.l0 k l0 a1 0)) else (some false))) = some r := h; clear h; replace H := ob_ H; obtain ⟨aC, A30, H⟩ := H; (try dsimp only at H); have A3 := Zq_.mk A30; clear A30
 by_cases c4 : aC = true
 ·subst c4
  rw [if_pos rfl] at H
  by_cases c5 : (l0.length : Int) > 100
  ·rw [if_pos c5] at H; have aI : decide (100 < (l0.length : Int)) = true := decide_eq_true c5; have aH : decide (100 < l0.length) = true := decide_eq_true (by omega); clear c5; obtain rfl := Option.some.inj H
   go_enter Try.func5, Try.ntmps5
   go_wp2_with (first | ((with_reducible refine gate_callee (f := 7) rfl ?_); refine goesL_ (some 8) rfl rfl Try.func7 (by kernel_rfl) rfl #[] rfl aR_ ?_; (with_reducible refine (law14_alive.calls k  true _ A3.out).mono ?_); rintro e w6 ⟨rfl, hb⟩; refine ⟨_, rfl, ?_⟩; replace HB := sB_ HB hb; (try clear hb)))
   go_ret
   exact ⟨by exact eW_, hB_ HB⟩
  ·rw [if_neg c5] at H; have aI : decide (100 < (l0.length : Int)) = false := decide_eq_false c5; have aH : decide (100 < l0.length) = false := decide_eq_false (by omega); clear c5; have H' := Zq_.mk H; clear H
   go_enter Try.func5, Try.ntmps5
   go_wp2_with (first | ((with_reducible refine gate_callee (f := 7) rfl ?_); refine goesL_ (some 8) rfl rfl Try.func7 (by kernel_rfl) rfl #[] rfl aR_ ?_; (with_reducible refine (law14_alive.calls k  true _ A3.out).mono ?_); rintro e w7 ⟨rfl, hb⟩; refine ⟨_, rfl, ?_⟩; replace HB := sB_ HB hb; (try clear hb)))
   go_loopg [5] k (fun kq v5 w' => ∃ (aA : Int), v5 = .int .i64 aA ∧ Zq_ (law14_ChoiceFair.l0 kq l0 a1 aA = some r) ∧ Zq_ (kq ≤ k) ∧ Zq_ (Below w.heap.size w w'))
   case atStart => exact ⟨(0), eS_, H', ⟨Nat.le_refl _⟩, ⟨hB_ HB⟩⟩
   case round =>
    clear H'
    try clear p2
    try clear c4
    try clear c5
    try clear aI
    try clear aH
    try clear c7
    obtain ⟨aA, rfl, HA, HK1, HB⟩ := hrel
    cases gk with
    | zero => exact absurd HA.out (by simp [law14_ChoiceFair.l0])
    | succ k1 =>
     have H := HA.out; clear HA; simp only [law14_ChoiceFair.l0] at H
     by_cases c8 : aA < (l0.length : Int)
     ·rw [if_pos c8] at H; have c8b0 : decide (aA < (l0.length : Int)) = true := decide_eq_true c8; clear c8; replace H := ob_ H; obtain ⟨⟨aD, t103⟩, A90, H⟩ := H; (try dsimp only at H); have A9 := Zq_.mk A90; clear A90
      by_cases c10 : t103 = true
      ·subst c10
       rw [if_pos rfl] at H
       by_cases c11 : 0 ≤ aA
       ·rw [if_pos c11] at H; have c11b0 : decide (0 ≤ aA) = true := decide_eq_true c11; clear c11
        by_cases c12 : aD = (rd l0 aA)
        ·rw [if_pos c12] at H; have c12b0 : (aD == (rd l0 aA)) = true := beq_iff_eq.mpr c12; have c12b1 : (aD != (rd l0 aA)) = false := bne_eq_false_iff_eq.mpr c12; clear c12; have H' := Zq_.mk H; clear H
         go_wp2_with (first | ((with_reducible refine gate_callee (f := 9) rfl ?_); refine goesL_ (some 29) rfl rfl Try.func9 (by kernel_rfl) rfl #[.slice A0 l0.length c0, .int .u32 ((wrap64 ((wrap64 ((wrap64 (a1)) * (l0.length : Int))) + aA)) % 4294967296)] rfl aR_ ?_; (with_reducible refine (choice_One.calls _ _ l0 ((wrap64 ((wrap64 ((wrap64 (a1)) * (l0.length : Int))) + aA)) % 4294967296) aD true _ ?side1 ?side2 A9.out).mono ?_); (case side1 => exact cX_ (Kd.C_below HR0.out HB.out)); (case side2 => exact HC0.out); rintro e w' ⟨rfl, ⟨nd, rfl⟩⟩; refine ⟨_, rfl, ?_⟩; have aG : 0 ≤ (aA : Int) := dA_; have aF : aA < (l0.length : Int) := dA_; obtain ⟨ad104, e104, aB⟩ := Kd.at_int HR0.out aA aG aF; cases e104; replace aB := hC_ HB aB; replace aG := eq_true aG; replace aF := eq_true aF))
         go_roundg k1
         case measure => have := HK1.out; omega
         case rel => exact ⟨(wrap64 (aA + 1)), eS_, H', ⟨by have := HK1.out; omega⟩, ⟨hB_ HB⟩⟩
        ·rw [if_neg c12] at H; exact absurd ((Option.some.inj H).trans HRT.out) (by decide)
       ·rw [if_neg c11] at H; exact absurd H (by simp)
      ·rw [if_neg c10] at H; exact absurd ((Option.some.inj H).trans HRT.out) (by decide)
     ·rw [if_neg c8] at H; have c8b0 : decide (aA < (l0.length : Int)) = false := decide_eq_false c8; clear c8; obtain rfl := Option.some.inj H
      go_wp2
      go_ret
      exact ⟨by exact eW_, hB_ HB⟩
 ·rw [if_neg c4] at H; exact absurd ((Option.some.inj H).trans HRT.out) (by decide)
/-- THE ONE PURE STATEMENT of law14_ChoiceFair: yours. -/
def law14_ChoiceFair.Pure : Prop := ∀ (l0 : List Int) (a1 : Int), l0.length ≤ maxLen → l0.length * 8 ≤ 140737488351232 → (∀ x ∈ l0, (Lit.int .i64 x).wf = true) → (Lit.int .u16 a1).wf = true → ∃ k, law14_ChoiceFair.f k l0 a1 = some true
theorem law14_ChoiceFair.walk (P : law14_ChoiceFair.Pure) (a0 : Option Addr) (len0 cap0 : Nat) (z0 : List Int) (a1 : Int) (w : World) (w0 : (a0 = none ∧ len0 = 0 ∧ cap0 = 0 ∧ z0 = []) ∨ ∃ x, a0 = some x ∧ len0 ≤ cap0 ∧ cap0 ≤ maxLen ∧ z0.length = cap0 ∧ (∀ i, i < z0.length → w.cell? (x.add i) = some (.int .i64 (z0.getD i 0))) ∧ ∀ n ∈ z0, (Lit.int .i64 n).wf = true) (y0 : len0 * 8 ≤ 140737488351232) (w1 : (Lit.int .u16 a1).wf = true) :
  Calls Try.prog 5 #[.slice a0 len0 cap0, .int .u16 a1] w fun e w' => e = .returned (.bool true) ∧ Below w.heap.size w w' := by
 obtain ⟨l0, rfl, hr0, hm0, hw0, hc0⟩ := ReadsInt.ofRowC w0; obtain ⟨k, h⟩ := P l0 a1 hm0 y0 hw0 w1; refine (law14_ChoiceFair.calls k _ _ l0 a1 true w (Kd.C_of_reads (d := (0 : Int)) (h1 := fun _ => rfl) hr0) hc0 h rfl).mono ?_; rintro e w' ⟨rfl, hd⟩; exact ⟨rfl, hd⟩
end Go.Proofs.Ytjlemkdilbnmlaa.P

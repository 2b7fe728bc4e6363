/- What printed functions come to, and that the machine's calls do it. No condition. -/
import Derived.Test.YtjlemkdilbnmlaaP0
import Derived.Test.YtjlemkdilbnmlaaHw
import Derived.Test.YtjlemkdilbnmlaaSh14
namespace Go.Proofs.Ytjlemkdilbnmlaa.P
set_option maxHeartbeats 8000000
set_option maxRecDepth 100000
open Go.RowKit Go.Proofs.YtjlemkdilbnmlaaW.PrintWords Go.Proofs.YtjlemkdilbnmlaaW.PrintLast Go.Proofs.YtjlemkdilbnmlaaW.PrintMore
attribute [local go_sem] max2_int min2_int max_two min_two max_three min_three max_four min_four Go.Proofs.YtjlemkdilbnmlaaW.Hw.string_gtr
set_option linter.unusedVariables false
set_option linter.unusedSimpArgs false
def choice_One.f (l0 : List Int) (a1 : Int) : Option (Int × Bool) := if (l0.length : Int) = 0 then (some (0, false)) else (if (IntKind.u64.wrap ((l0.length : Int))) = 0 then (none) else (if 0 ≤ (Int.tmod (IntKind.u64.wrap (a1)) (IntKind.u64.wrap ((l0.length : Int)))) then (if (Int.tmod (IntKind.u64.wrap (a1)) (IntKind.u64.wrap ((l0.length : Int)))) < (l0.length : Int) then (some (rd l0 (Int.tmod (IntKind.u64.wrap (a1)) (IntKind.u64.wrap ((l0.length : Int)))), true)) else (none)) else (none)))
theorem choice_One.calls (A0 : Option Addr) (c0 : Nat) (l0 : List Int) (a1 : Int) (r1 : Int) (r2 : Bool) (w : World) (hr0 : Kd.C (Kd.int .i64) w A0 l0.length l0) (hc0 : l0.length ≤ c0) (h : choice_One.f l0 a1 = some (r1, r2)) :
  Calls Try.prog 9 #[.slice A0 l0.length c0, .int .u32 a1] w fun e w' => e = .returned (.tuple #[.int .i64 r1, .bool r2]) ∧ Drawn0 w w' := by
 have HR0 := Zq_.mk hr0; have HC0 := Zq_.mk hc0; clear hr0 hc0; have H : (if (l0.length : Int) = 0 then (some (0, false)) else (if (IntKind.u64.wrap ((l0.length : Int))) = 0 then (none) else (if 0 ≤ (Int.tmod (IntKind.u64.wrap (a1)) (IntKind.u64.wrap ((l0.length : Int)))) then (if (Int.tmod (IntKind.u64.wrap (a1)) (IntKind.u64.wrap ((l0.length : Int)))) < (l0.length : Int) then (some (rd l0 (Int.tmod (IntKind.u64.wrap (a1)) (IntKind.u64.wrap ((l0.length : Int)))), true)) else (none)) else (none)))) = some (r1, r2) := h; clear h
 by_cases c3 : (l0.length : Int) = 0
 ·rw [if_pos c3] at H; have c3b0 : ((l0.length : Int) == 0) = true := beq_iff_eq.mpr c3; have c3b1 : ((l0.length : Int) != 0) = false := bne_eq_false_iff_eq.mpr c3; clear c3; simp only [Option.some.injEq, Prod.mk.injEq] at H; obtain ⟨rfl, rfl⟩ := H
  go_enter Try.func9, Try.ntmps9
  go_wp2
  go_ret2
  exact ⟨by first | rfl | (simp; done) | (simp [*]; done), by repeat (first | exact Drawn0.refl _ | apply Drawn0.step)⟩
 ·rw [if_neg c3] at H; have c3b0 : ((l0.length : Int) == 0) = false := beq_eq_false_iff_ne.mpr c3; have c3b1 : ((l0.length : Int) != 0) = true := bne_iff_ne.mpr c3
  have c3b2 : ¬ (l0 = []) := fun h_ => c3 (by rw [h_]; rfl)
  by_cases c4 : (IntKind.u64.wrap ((l0.length : Int))) = 0
  ·rw [if_pos c4] at H; exact absurd H (by simp)
  ·rw [if_neg c4] at H; have c4b0 : ((IntKind.u64.wrap ((l0.length : Int))) == 0) = false := beq_eq_false_iff_ne.mpr c4; have c4b1 : ((IntKind.u64.wrap ((l0.length : Int))) != 0) = true := bne_iff_ne.mpr c4; obtain ⟨ji5, aC⟩ : ∃ j_ : Int, (Int.tmod (IntKind.u64.wrap (a1)) (IntKind.u64.wrap ((l0.length : Int)))) = j_ := ⟨_, rfl⟩
   replace H : (if 0 ≤ (ji5) then (if (ji5) < (l0.length : Int) then (some (rd l0 (ji5), true)) else (none)) else (none)) = some (r1, r2) := by first | (rw [aC] at H; exact H) | (simp only [aC] at H ⊢; exact H)
   by_cases c6 : 0 ≤ (ji5)
   ·rw [if_pos c6] at H; have c6b0 : decide (0 ≤ (ji5)) = true := decide_eq_true c6; clear c6
    by_cases c7 : (ji5) < (l0.length : Int)
    ·rw [if_pos c7] at H; have c7b0 : decide ((ji5) < (l0.length : Int)) = true := decide_eq_true c7; clear c7; simp only [Option.some.injEq, Prod.mk.injEq] at H; obtain ⟨rfl, rfl⟩ := H; have aB : 0 ≤ ((ji5) : Int) := dA_; have aA : (ji5) < (l0.length : Int) := dA_; obtain ⟨ad101, e101, hx101_0⟩ := Kd.at_int HR0.out (ji5) aB aA; cases e101; replace aB := eq_true aB; replace aA := eq_true aA
     go_enter Try.func9, Try.ntmps9
     go_wp2
     go_ret2
     exact ⟨by first | rfl | (simp; done) | (simp only [← aC] <;> (first | rfl | simp)) | (simp [*]; done), by repeat (first | exact Drawn0.refl _ | apply Drawn0.step)⟩
    ·rw [if_neg c7] at H; exact absurd H (by simp)
   ·rw [if_neg c6] at H; exact absurd H (by simp)
def law14_great.f (aC : List Int) (aB : List Int) (aA : List Int) : Option (Bool) := some (decide ((wrap64 ((wrap64 ((aC.length : Int) + (aB.length : Int))) + (aA.length : Int))) > 200))
theorem law14_great.calls (aP : Option Addr) (aM : Nat) (aC : List Int) (aO : Option Addr) (aL : Nat) (aB : List Int) (aN : Option Addr) (aK : Nat) (aA : List Int) (r : Bool) (w : World) (aF : Kd.C (Kd.int .i64) w aP aC.length aC) (aI : aC.length ≤ aM) (aE : Kd.C (Kd.int .i64) w aO aB.length aB) (aH : aB.length ≤ aL) (aD : Kd.C (Kd.int .i64) w aN aA.length aA) (aG : aA.length ≤ aK) (h : law14_great.f aC aB aA = some r) :
  Calls Try.prog 8 #[.agg #[.slice aP aC.length aM, .slice aO aB.length aL, .slice aN aA.length aK]] w fun e w' => e = .returned (.bool r) ∧ Below w.heap.size w w' := by
 have hu24 := Try.underlying24; have HR0_0 := Zq_.mk aF; have HC0_0 := Zq_.mk aI; clear aF aI; have HR0_1 := Zq_.mk aE; have HC0_1 := Zq_.mk aH; clear aE aH; have HR0_2 := Zq_.mk aD; have HC0_2 := Zq_.mk aG; clear aD aG; have HB := Zq_.mk (Below.refl w.heap.size w); have H : (some (decide ((wrap64 ((wrap64 ((aC.length : Int) + (aB.length : Int))) + (aA.length : Int))) > 200))) = some r := h; clear h; obtain rfl := Option.some.inj H
 go_enter Try.func8, Try.ntmps8
 go_wp2_with (first | ((with_reducible refine gate_dst (N := 1) rfl ?_); refine bE_ 1 #[.slice aP aC.length aM, .slice aO aB.length aL, .slice aN aA.length aK] 24 ?_; intro gb101 hg w2 hbox hb; have aJ := Zq_.mk (hbox); have GW101 := gW_ (w := w) hg (hB_ HB); have GE101 := gW_ (w := w) hg (hB_ HB); replace HB := sB_ HB hb; clear hb hbox hg; obtain ⟨hcz3_0, hcz3_1, hcz3_2⟩ := c3_ aJ; obtain ⟨hfz3_0, hfz3_1, hfz3_2⟩ := f3_ aJ))
 go_ret
 exact ⟨by exact eW_, by exact hSet_ HB⟩
def ref06_Ints.l0 : Nat → List Int → List Int → Int → Option (Bool)
 | 0, _, _, _ => none
 | k + 1, x0, x1, x5 => if x5 < (x0.length : Int) then (if 0 ≤ x5 then (if x5 < (x1.length : Int) then (if (rd x0 x5) = (rd x1 x5) then (ref06_Ints.l0 k x0 x1 (wrap64 (x5 + 1))) else (some false)) else (none)) else (none)) else (some true)
def ref06_Ints.f (k : Nat) (l0 : List Int) (l1 : List Int) : Option (Bool) := if (l0.length : Int) = (l1.length : Int) then (ref06_Ints.l0 k l0 l1 0) else (some false)
theorem ref06_Ints.mono_l : ∀ k, (∀ y0 y1 y2, LeO (ref06_Ints.l0 k y0 y1 y2) (ref06_Ints.l0 (k + 1) y0 y1 y2))
 | 0 => fun _ _ _ r h => by simp [ref06_Ints.l0] at h
 | k + 1 => by
  have ih0 := ref06_Ints.mono_l k
  ·intro y0 y1 y2
   unfold ref06_Ints.l0
   with_reducible repeat' first | exact ih0 _ _ _ | exact LeO.refl _ | exact LeO.none _ | refine LeO.ite ?_ ?_ | refine LeO.bind ?_ (fun _ => ?_)
theorem ref06_Ints.mono : ∀ a0 a1 k, LeO (ref06_Ints.f k a0 a1) (ref06_Ints.f (k + 1) a0 a1) := by
 intro a0 a1 k; have ih0 := ref06_Ints.mono_l k
 unfold ref06_Ints.f
 with_reducible repeat' first | exact ih0 _ _ _ | exact LeO.refl _ | exact LeO.none _ | refine LeO.ite ?_ ?_ | refine LeO.bind ?_ (fun _ => ?_)
theorem ref06_Ints.calls (k : Nat) (A0 : Option Addr) (c0 : Nat) (l0 : List Int) (A1 : Option Addr) (c1 : Nat) (l1 : List Int) (r : Bool) (w : World) (hr0 : Kd.C (Kd.int .i64) w A0 l0.length l0) (hc0 : l0.length ≤ c0) (hr1 : Kd.C (Kd.int .i64) w A1 l1.length l1) (hc1 : l1.length ≤ c1) (h : ref06_Ints.f k l0 l1 = some r) :
  Calls Try.prog 11 #[.slice A0 l0.length c0, .slice A1 l1.length c1] w fun e w' => e = .returned (.bool r) ∧ Drawn0 w w' := by
 have HR0 := Zq_.mk hr0; have HC0 := Zq_.mk hc0; clear hr0 hc0; have HR1 := Zq_.mk hr1; have HC1 := Zq_.mk hc1; clear hr1 hc1; have H : (if (l0.length : Int) = (l1.length : Int) then (ref06_Ints.l0 k l0 l1 0) else (some false)) = some r := h; clear h
 by_cases c3 : (l0.length : Int) = (l1.length : Int)
 ·rw [if_pos c3] at H; have aL : ((l0.length : Int) == (l1.length : Int)) = true := beq_iff_eq.mpr c3; have aK : ((l0.length : Int) != (l1.length : Int)) = false := bne_eq_false_iff_eq.mpr c3
  have aJ : (l0.length == l1.length) = true := by first | simpa using c3 | (simp at c3 ⊢; omega)
  clear c3; have H' := Zq_.mk H; clear H
  go_enter Try.func11, Try.ntmps11
  go_wp2
  repeat (go_quiet (fail); try go_wp2)
  go_loopg [5] k (fun kq v5 w' => ∃ (aA : Int), v5 = .int .i64 aA ∧ Zq_ (ref06_Ints.l0 kq l0 l1 aA = some r) ∧ Zq_ (kq ≤ k) ∧ Drawn0 w w')
  case atStart => exact ⟨(0), eS_, H', ⟨Nat.le_refl _⟩, by repeat (first | exact Drawn0.refl _ | apply Drawn0.step)⟩
  case round =>
   clear H'
   try clear c1
   try clear p2
   try clear c3
   try clear aL
   try clear aK
   try clear aJ
   obtain ⟨aA, rfl, HA, HK1, ⟨m1, rfl⟩⟩ := hrel
   cases gk with
   | zero => exact absurd HA.out (by simp [ref06_Ints.l0])
   | succ k1 =>
    have H := HA.out; clear HA; simp only [ref06_Ints.l0] at H
    by_cases c4 : aA < (l0.length : Int)
    ·rw [if_pos c4] at H; have c4b0 : decide (aA < (l0.length : Int)) = true := decide_eq_true c4; clear c4
     by_cases c5 : 0 ≤ aA
     ·rw [if_pos c5] at H; have c5b0 : decide (0 ≤ aA) = true := decide_eq_true c5; clear c5
      by_cases c6 : aA < (l1.length : Int)
      ·rw [if_pos c6] at H; have c6b0 : decide (aA < (l1.length : Int)) = true := decide_eq_true c6; clear c6
       by_cases c7 : (rd l0 aA) = (rd l1 aA)
       ·rw [if_pos c7] at H; have c7b0 : ((rd l0 aA) == (rd l1 aA)) = true := beq_iff_eq.mpr c7; have c7b1 : ((rd l0 aA) != (rd l1 aA)) = false := bne_eq_false_iff_eq.mpr c7; clear c7; have H' := Zq_.mk H; clear H; have aE : 0 ≤ (aA : Int) := dA_; have aC : aA < (l0.length : Int) := dA_; obtain ⟨aN, aI, aG⟩ := Kd.at_int HR0.out aA aE aC; cases aI; replace aE := eq_true aE; replace aC := eq_true aC; have aD : 0 ≤ (aA : Int) := dA_; have aB : aA < (l1.length : Int) := dA_; obtain ⟨aM, aH, aF⟩ := Kd.at_int HR1.out aA aD aB; cases aH; replace aD := eq_true aD; replace aB := eq_true aB
        go_wp2
        repeat (go_quiet (fail); try go_wp2)
        go_roundg k1
        case measure => have := HK1.out; omega
        case rel => exact ⟨(wrap64 (aA + 1)), eS_, H', ⟨by have := HK1.out; omega⟩, by repeat (first | exact Drawn0.refl _ | apply Drawn0.step)⟩
       ·rw [if_neg c7] at H; have c7b0 : ((rd l0 aA) == (rd l1 aA)) = false := beq_eq_false_iff_ne.mpr c7; have c7b1 : ((rd l0 aA) != (rd l1 aA)) = true := bne_iff_ne.mpr c7; obtain rfl := Option.some.inj H; have aE : 0 ≤ (aA : Int) := dA_; have aC : aA < (l0.length : Int) := dA_; obtain ⟨aN, aI, aG⟩ := Kd.at_int HR0.out aA aE aC; cases aI; replace aE := eq_true aE; replace aC := eq_true aC; have aD : 0 ≤ (aA : Int) := dA_; have aB : aA < (l1.length : Int) := dA_; obtain ⟨aM, aH, aF⟩ := Kd.at_int HR1.out aA aD aB; cases aH; replace aD := eq_true aD; replace aB := eq_true aB
        go_wp2
        repeat (go_quiet (fail); try go_wp2)
        go_ret
        exact ⟨by first | rfl | (simp; done) | (simp [*]; done), by repeat (first | exact Drawn0.refl _ | apply Drawn0.step)⟩
      ·rw [if_neg c6] at H; exact absurd H (by simp)
     ·rw [if_neg c5] at H; exact absurd H (by simp)
    ·rw [if_neg c4] at H; have c4b0 : decide (aA < (l0.length : Int)) = false := decide_eq_false c4; clear c4; obtain rfl := Option.some.inj H
     go_wp2
     repeat (go_quiet (fail); try go_wp2)
     go_ret
     exact ⟨by first | rfl | (simp; done) | (simp [*]; done), by repeat (first | exact Drawn0.refl _ | apply Drawn0.step)⟩
 ·rw [if_neg c3] at H; have aL : ((l0.length : Int) == (l1.length : Int)) = false := beq_eq_false_iff_ne.mpr c3; have aK : ((l0.length : Int) != (l1.length : Int)) = true := bne_iff_ne.mpr c3
  have aJ : (l0.length == l1.length) = false := by first | simpa using c3 | (simp at c3 ⊢; omega)
  obtain rfl := Option.some.inj H
  go_enter Try.func11, Try.ntmps11
  go_wp2
  repeat (go_quiet (fail); try go_wp2)
  go_ret
  exact ⟨by first | rfl | (simp; done) | (simp [*]; done), by repeat (first | exact Drawn0.refl _ | apply Drawn0.step)⟩
def ref14_Has.l0 : Nat → List Int → Int → Int → Option (Bool)
 | 0, _, _, _ => none
 | k + 1, x0, x1, x5 => if x5 < (x0.length : Int) then (if 0 ≤ x5 then (if (rd x0 x5) = x1 then (some true) else (ref14_Has.l0 k x0 x1 (wrap64 (x5 + 1)))) else (none)) else (some false)
def ref14_Has.f (k : Nat) (l0 : List Int) (a1 : Int) : Option (Bool) := ref14_Has.l0 k l0 a1 0
theorem ref14_Has.mono_l : ∀ k, (∀ y0 y1 y2, LeO (ref14_Has.l0 k y0 y1 y2) (ref14_Has.l0 (k + 1) y0 y1 y2))
 | 0 => fun _ _ _ r h => by simp [ref14_Has.l0] at h
 | k + 1 => by
  have ih0 := ref14_Has.mono_l k
  ·intro y0 y1 y2
   unfold ref14_Has.l0
   with_reducible repeat' first | exact ih0 _ _ _ | exact LeO.refl _ | exact LeO.none _ | refine LeO.ite ?_ ?_ | refine LeO.bind ?_ (fun _ => ?_)
theorem ref14_Has.mono : ∀ a0 a1 k, LeO (ref14_Has.f k a0 a1) (ref14_Has.f (k + 1) a0 a1) := by
 intro a0 a1 k; have ih0 := ref14_Has.mono_l k
 unfold ref14_Has.f
 with_reducible repeat' first | exact ih0 _ _ _ | exact LeO.refl _ | exact LeO.none _ | refine LeO.ite ?_ ?_ | refine LeO.bind ?_ (fun _ => ?_)
theorem ref14_Has.calls (k : Nat) (A0 : Option Addr) (c0 : Nat) (l0 : List Int) (a1 : Int) (r : Bool) (w : World) (hr0 : Kd.C (Kd.int .i64) w A0 l0.length l0) (hc0 : l0.length ≤ c0) (h : ref14_Has.f k l0 a1 = some r) :
  Calls Try.prog 17 #[.slice A0 l0.length c0, .int .i64 a1] w fun e w' => e = .returned (.bool r) ∧ Drawn0 w w' := by
 have HR0 := Zq_.mk hr0; have HC0 := Zq_.mk hc0; clear hr0 hc0; have H : (ref14_Has.l0 k l0 a1 0) = some r := h; clear h; have H' := Zq_.mk H; clear H
 go_enter Try.func17, Try.ntmps17
 go_wp2
 go_loopg [5] k (fun kq v5 w' => ∃ (aA : Int), v5 = .int .i64 aA ∧ Zq_ (ref14_Has.l0 kq l0 a1 aA = some r) ∧ Zq_ (kq ≤ k) ∧ Drawn0 w w')
 case atStart => exact ⟨(0), eS_, H', ⟨Nat.le_refl _⟩, by repeat (first | exact Drawn0.refl _ | apply Drawn0.step)⟩
 case round =>
  clear H'
  try clear c1
  try clear p2
  obtain ⟨aA, rfl, HA, HK1, ⟨m1, rfl⟩⟩ := hrel
  cases gk with
  | zero => exact absurd HA.out (by simp [ref14_Has.l0])
  | succ k1 =>
   have H := HA.out; clear HA; simp only [ref14_Has.l0] at H
   by_cases c3 : aA < (l0.length : Int)
   ·rw [if_pos c3] at H; have c3b0 : decide (aA < (l0.length : Int)) = true := decide_eq_true c3; clear c3
    by_cases c4 : 0 ≤ aA
    ·rw [if_pos c4] at H; have c4b0 : decide (0 ≤ aA) = true := decide_eq_true c4; clear c4
     by_cases c5 : (rd l0 aA) = a1
     ·rw [if_pos c5] at H; have c5b0 : ((rd l0 aA) == a1) = true := beq_iff_eq.mpr c5; have c5b1 : ((rd l0 aA) != a1) = false := bne_eq_false_iff_eq.mpr c5; clear c5; obtain rfl := Option.some.inj H; have aC : 0 ≤ (aA : Int) := dA_; have aB : aA < (l0.length : Int) := dA_; obtain ⟨aF, aE, aD⟩ := Kd.at_int HR0.out aA aC aB; cases aE; replace aC := eq_true aC; replace aB := eq_true aB
      go_wp2
      go_ret
      exact ⟨by first | rfl | (simp; done) | (simp [*]; done), by repeat (first | exact Drawn0.refl _ | apply Drawn0.step)⟩
     ·rw [if_neg c5] at H; have c5b0 : ((rd l0 aA) == a1) = false := beq_eq_false_iff_ne.mpr c5; have c5b1 : ((rd l0 aA) != a1) = true := bne_iff_ne.mpr c5; have H' := Zq_.mk H; clear H; have aC : 0 ≤ (aA : Int) := dA_; have aB : aA < (l0.length : Int) := dA_; obtain ⟨aF, aE, aD⟩ := Kd.at_int HR0.out aA aC aB; cases aE; replace aC := eq_true aC; replace aB := eq_true aB
      go_wp2
      go_roundg k1
      case measure => have := HK1.out; omega
      case rel => exact ⟨(wrap64 (aA + 1)), eS_, H', ⟨by have := HK1.out; omega⟩, by repeat (first | exact Drawn0.refl _ | apply Drawn0.step)⟩
    ·rw [if_neg c4] at H; exact absurd H (by simp)
   ·rw [if_neg c3] at H; have c3b0 : decide (aA < (l0.length : Int)) = false := decide_eq_false c3; clear c3; obtain rfl := Option.some.inj H
    go_wp2
    go_ret
    exact ⟨by first | rfl | (simp; done) | (simp [*]; done), by repeat (first | exact Drawn0.refl _ | apply Drawn0.step)⟩
def ref14_One.f (l0 : List Int) (a1 : Int) : Option (Int × Bool) := if (l0.length : Int) = 0 then (some (0, false)) else (if 0 ≤ (Int.tmod (wrap64 (a1)) (l0.length : Int)) then (if (Int.tmod (wrap64 (a1)) (l0.length : Int)) < (l0.length : Int) then (some (rd l0 (Int.tmod (wrap64 (a1)) (l0.length : Int)), true)) else (none)) else (none))
theorem ref14_One.calls (A0 : Option Addr) (c0 : Nat) (l0 : List Int) (a1 : Int) (r1 : Int) (r2 : Bool) (w : World) (hr0 : Kd.C (Kd.int .i64) w A0 l0.length l0) (hc0 : l0.length ≤ c0) (h : ref14_One.f l0 a1 = some (r1, r2)) :
  Calls Try.prog 10 #[.slice A0 l0.length c0, .int .u32 a1] w fun e w' => e = .returned (.tuple #[.int .i64 r1, .bool r2]) ∧ Drawn0 w w' := by
 have HR0 := Zq_.mk hr0; have HC0 := Zq_.mk hc0; clear hr0 hc0; have H : (if (l0.length : Int) = 0 then (some (0, false)) else (if 0 ≤ (Int.tmod (wrap64 (a1)) (l0.length : Int)) then (if (Int.tmod (wrap64 (a1)) (l0.length : Int)) < (l0.length : Int) then (some (rd l0 (Int.tmod (wrap64 (a1)) (l0.length : Int)), true)) else (none)) else (none))) = some (r1, r2) := h; clear h
 by_cases c3 : (l0.length : Int) = 0
 ·rw [if_pos c3] at H; have c3b0 : ((l0.length : Int) == 0) = true := beq_iff_eq.mpr c3; have c3b1 : ((l0.length : Int) != 0) = false := bne_eq_false_iff_eq.mpr c3; clear c3; simp only [Option.some.injEq, Prod.mk.injEq] at H; obtain ⟨rfl, rfl⟩ := H
  go_enter Try.func10, Try.ntmps10
  go_wp2
  go_ret2
  exact ⟨by first | rfl | (simp; done) | (simp [*]; done), by repeat (first | exact Drawn0.refl _ | apply Drawn0.step)⟩
 ·rw [if_neg c3] at H; have c3b0 : ((l0.length : Int) == 0) = false := beq_eq_false_iff_ne.mpr c3; have c3b1 : ((l0.length : Int) != 0) = true := bne_iff_ne.mpr c3
  have c3b2 : ¬ (l0 = []) := fun h_ => c3 (by rw [h_]; rfl)
  obtain ⟨ji4, aC⟩ : ∃ j_ : Int, (Int.tmod (wrap64 (a1)) (l0.length : Int)) = j_ := ⟨_, rfl⟩
  replace H : (if 0 ≤ (ji4) then (if (ji4) < (l0.length : Int) then (some (rd l0 (ji4), true)) else (none)) else (none)) = some (r1, r2) := by first | (rw [aC] at H; exact H) | (simp only [aC] at H ⊢; exact H)
  by_cases c5 : 0 ≤ (ji4)
  ·rw [if_pos c5] at H; have c5b0 : decide (0 ≤ (ji4)) = true := decide_eq_true c5; clear c5
   by_cases c6 : (ji4) < (l0.length : Int)
   ·rw [if_pos c6] at H; have c6b0 : decide ((ji4) < (l0.length : Int)) = true := decide_eq_true c6; clear c6; simp only [Option.some.injEq, Prod.mk.injEq] at H; obtain ⟨rfl, rfl⟩ := H; have aB : 0 ≤ ((ji4) : Int) := dA_; have aA : (ji4) < (l0.length : Int) := dA_; obtain ⟨ad101, e101, hx101_0⟩ := Kd.at_int HR0.out (ji4) aB aA; cases e101; replace aB := eq_true aB; replace aA := eq_true aA
    go_enter Try.func10, Try.ntmps10
    go_wp2
    go_ret2
    exact ⟨by first | rfl | (simp; done) | (simp only [← aC] <;> (first | rfl | simp)) | (simp [*]; done), by repeat (first | exact Drawn0.refl _ | apply Drawn0.step)⟩
   ·rw [if_neg c6] at H; exact absurd H (by simp)
  ·rw [if_neg c5] at H; exact absurd H (by simp)
def ref14_Without.l0 : Nat → List Int → Int → List Int → Int → Option (List Int)
 | 0, _, _, _, _ => none
 | k + 1, x0, x1, x5, x6 => if x6 < (x0.length : Int) then (if 0 ≤ x6 then (if (rd x0 x6) = x1 then (ref14_Without.l0 k x0 x1 x5 (wrap64 (x6 + 1))) else (if x5.length < 17592186044416 then (ref14_Without.l0 k x0 x1 (x5 ++ [rd x0 x6]) (wrap64 (x6 + 1))) else (none))) else (none)) else (some x5)
def ref14_Without.f (k : Nat) (l0 : List Int) (a1 : Int) : Option (List Int) := ref14_Without.l0 k l0 a1 ([] : List Int) 0
theorem ref14_Without.mono_l : ∀ k, (∀ y0 y1 y2 y3, LeO (ref14_Without.l0 k y0 y1 y2 y3) (ref14_Without.l0 (k + 1) y0 y1 y2 y3))
 | 0 => fun _ _ _ _ r h => by simp [ref14_Without.l0] at h
 | k + 1 => by
  have ih0 := ref14_Without.mono_l k
  ·intro y0 y1 y2 y3
   unfold ref14_Without.l0
   with_reducible repeat' first | exact ih0 _ _ _ _ | exact LeO.refl _ | exact LeO.none _ | refine LeO.ite ?_ ?_ | refine LeO.bind ?_ (fun _ => ?_)
theorem ref14_Without.mono : ∀ a0 a1 k, LeO (ref14_Without.f k a0 a1) (ref14_Without.f (k + 1) a0 a1) := by
 intro a0 a1 k; have ih0 := ref14_Without.mono_l k
 unfold ref14_Without.f
 with_reducible repeat' first | exact ih0 _ _ _ _ | exact LeO.refl _ | exact LeO.none _ | refine LeO.ite ?_ ?_ | refine LeO.bind ?_ (fun _ => ?_)
theorem ref14_Without.calls (k : Nat) (A0 : Option Addr) (c0 : Nat) (l0 : List Int) (a1 : Int) (r : List Int) (w : World) (hr0 : Kd.C (Kd.int .i64) w A0 l0.length l0) (hc0 : l0.length ≤ c0) (h : ref14_Without.f k l0 a1 = some r) :
  Calls Try.prog 15 #[.slice A0 l0.length c0, .int .i64 a1] w fun e w' => ∃ v0_ : Value, e = .returned (v0_) ∧ Kd.R (Kd.int .i64) 3 w' w.heap.size (fun _ => True) v0_ r ∧ Below w.heap.size w w' := by
 have HR0 := Zq_.mk hr0; have HC0 := Zq_.mk hc0; clear hr0 hc0; have HB := Zq_.mk (Below.refl w.heap.size w); have H : (ref14_Without.l0 k l0 a1 ([] : List Int) 0) = some r := h; clear h; have H' := Zq_.mk H; clear H
 go_enter Try.func15, Try.ntmps15
 go_wp2
 go_loopg [5, 6] k (fun kq v5 v6 w' => ∃ (aD : List Int) (aA : Int), v6 = .int .i64 aA ∧ Zq_ (ref14_Without.l0 kq l0 a1 aD aA = some r) ∧ Zq_ (kq ≤ k) ∧ Zq_ (Kd.R (Kd.int .i64) 3 w' w.heap.size (fun _ => True) v5 aD) ∧ Zq_ (Below w.heap.size w w'))
 case atStart => exact ⟨(([] : List Int)), (0), eS_, H', ⟨Nat.le_refl _⟩, ⟨by first | exact Kd.R_nil _ _ _ _ _ | exact Kd.N_nil _ _ _ _ _ | exact Kd.V_nil _ _ _ _ _ | exact Kd.Q_nil _ _ _ _ _ | exact Kd.S_nil _ _ _ _ _⟩, ⟨hB_ HB⟩⟩
 case round =>
  clear H'
  try clear c1
  try clear p2
  obtain ⟨aD, aA, rfl, HA, HK1, aJ, HB⟩ := hrel
  cases gk with
  | zero => exact absurd HA.out (by simp [ref14_Without.l0])
  | succ k1 =>
   have H := HA.out; clear HA; simp only [ref14_Without.l0] at H
   by_cases c3 : aA < (l0.length : Int)
   ·rw [if_pos c3] at H; have c3b0 : decide (aA < (l0.length : Int)) = true := decide_eq_true c3; clear c3
    by_cases c4 : 0 ≤ aA
    ·rw [if_pos c4] at H; have c4b0 : decide (0 ≤ aA) = true := decide_eq_true c4; clear c4
     by_cases c5 : (rd l0 aA) = a1
     ·rw [if_pos c5] at H; have c5b0 : ((rd l0 aA) == a1) = true := beq_iff_eq.mpr c5; have c5b1 : ((rd l0 aA) != a1) = false := bne_eq_false_iff_eq.mpr c5; clear c5; have H' := Zq_.mk H; clear H; have aG : 0 ≤ (aA : Int) := dA_; have aE : aA < (l0.length : Int) := dA_; obtain ⟨aK, aQ, aC⟩ := Kd.at_int HR0.out aA aG aE; cases aQ; replace aC := hC_ HB aC; replace aG := eq_true aG; replace aE := eq_true aE
      go_wp2
      go_roundg k1
      case measure => have := HK1.out; omega
      case rel => exact ⟨(aD), (wrap64 (aA + 1)), eS_, H', ⟨by have := HK1.out; omega⟩, ⟨by (with_reducible repeat (first | apply Kd.qc_ | apply Kd.qb_ | apply Kd.R_drew)); exact aJ.out⟩, ⟨hB_ HB⟩⟩
     ·rw [if_neg c5] at H; have c5b0 : ((rd l0 aA) == a1) = false := beq_eq_false_iff_ne.mpr c5; have c5b1 : ((rd l0 aA) != a1) = true := bne_iff_ne.mpr c5
      by_cases c6 : aD.length < 17592186044416
      ·rw [if_pos c6] at H; have LMc6 := Zq_.mk c6; clear c6; obtain ⟨aR, aI⟩ : ∃ y_ : List Int, y_ = (aD ++ [rd l0 aA]) := ⟨_, rfl⟩
       replace H : (ref14_Without.l0 k1 l0 a1 aR (wrap64 (aA + 1))) = some r := hY_ aI H
       have aU := Zq_.mk aI; clear aI; have H' := Zq_.mk H; clear H; have aG : 0 ≤ (aA : Int) := dA_; have aE : aA < (l0.length : Int) := dA_; obtain ⟨aK, aQ, aC⟩ := Kd.at_int HR0.out aA aG aE; cases aQ; replace aC := hC_ HB aC; replace aG := eq_true aG; replace aE := eq_true aE; have aN : 0 ≤ (aA : Int) := dA_; have aM : aA < (l0.length : Int) := dA_; obtain ⟨aT, e102, aH⟩ := Kd.at_int HR0.out aA aN aM; obtain rfl : aK = aT := (by injection e102); replace aH := hC_ HB aH; replace aN := eq_true aN; replace aM := eq_true aM
       go_wp2_with (first | ((with_reducible refine gate_builtin (b := .append) (xs := #[.tmp 19, .tmp 24]) rfl ?_); at_builtin; refine Kd.R_append (Kd.int .i64) (w0 := w) w.heap.size rfl (.tmp 19) (.tmp 24) 22 3 (.int .i64 0) 8 rfl Try.underlying22 info3 rfl (by decide) (by omega) u5 aD (rd l0 aA) [.int .i64 (rd l0 aA)] (fun _ => True) (fun _ => False) rfl rfl ?aP (fun _ hk => hk.elim) ?aF ?aO ?aB ?aS ?aL ?_; (case aP => exact rfl); (case aB => exact (hB_ HB)); (case aF => exact (fun _ _ => trivial)); (case aO => exact (vX_ aJ)); (case aS => exact (qa_ (hB_ HB))); (case aL => have := LMc6.out; omega); intro v104 w7 ho hb hg hat; rw [← aU.out] at ho; replace HB := Zq_.mk (hb); have aV := Zq_.mk (ho); clear aJ; clear ho hb hg hat))
       go_roundg k1
       case measure => have := HK1.out; omega
       case rel => exact ⟨(aR), (wrap64 (aA + 1)), eS_, H', ⟨by have := HK1.out; omega⟩, ⟨by (with_reducible repeat (first | apply Kd.qc_ | apply Kd.qb_ | apply Kd.R_drew)); exact aV.out⟩, ⟨hB_ HB⟩⟩
      ·rw [if_neg c6] at H; exact absurd H (by simp)
    ·rw [if_neg c4] at H; exact absurd H (by simp)
   ·rw [if_neg c3] at H; have c3b0 : decide (aA < (l0.length : Int)) = false := decide_eq_false c3; clear c3; obtain rfl := Option.some.inj H
    go_wp2
    go_ret
    exact ⟨_, by exact eW_, by (with_reducible repeat (first | apply Kd.qc_ | apply Kd.qb_ | apply Kd.R_drew)); exact aJ.out, hB_ HB⟩
def slices_Clone_int_int.f (l0 : List Int) : Option (List Int) := if l0.length < 17592186044416 then some l0 else none
open Go.Proofs.YtjlemkdilbnmlaaW.Hw in
theorem slices_Clone_int_int.calls (A0 : Option Addr) (c0 : Nat) (l0 : List Int) (r : List Int) (w : World) (hr0 : Kd.C (Kd.int .i64) w A0 l0.length l0) (hc0 : l0.length ≤ c0) (h : slices_Clone_int_int.f l0 = some r) :
  Calls Try.prog 23 #[.slice A0 l0.length c0] w fun e w' => ∃ v0_ : Value, e = .returned v0_ ∧ Kd.R (Kd.int .i64) 3 w' w.heap.size (fun _ => True) v0_ r ∧ Below w.heap.size w w' := by
 unfold slices_Clone_int_int.f at h
 by_cases hl : l0.length < 17592186044416
 case neg => rw [if_neg hl] at h; cases h
 rw [if_pos hl] at h; obtain rfl := Option.some.inj h; clear h; have LM := Zq_.mk hl; clear hl
 have hnil : ∀ (W : World) (a : Option Addr) (n c n' c' : Nat), (binOp .eql 22 (.slice a n c) (.slice none n' c')).run Try.prog W = .ok (.bool a.isNone) W := fun W a n c n' c' => Lib.run_eql_slice_nil W _ _ a n c n' c' Try.underlying22
 have HB := Zq_.mk (Below.refl w.heap.size w)
 cases A0 with
 | none =>
  have e0 : l0 = [] := by
   rcases Nat.eq_zero_or_pos l0.length with e | e
   ·exact List.eq_nil_of_length_eq_zero e
   ·obtain ⟨ad, e1, _⟩ := hr0.2.2 e; cases e1
  subst e0; clear hr0 hc0 LM
  go_enter Try.func23, Try.ntmps23
  go_wp2
  go_ret
  exact ⟨_, rfl, Kd.R_nil _ _ _ _ _, Below.refl _ _⟩
 | some ad =>
  have HR := Zq_.mk hr0; have HC := Zq_.mk hc0; clear hr0 hc0
  go_enter Try.func23, Try.ntmps23
  go_wp2_with (first
   | ((with_reducible refine gate_dst (N := 5) rfl ?_); refine Kd.R_lit (Kd.int .i64) _ 3 ?hg (N := 5) ?hd (xs := ([] : List Int)) (inner := []) (ok := fun _ => True) (okp := fun _ => True) ?hr ?hp (fun _ hk => hk) trivial (Below.refl _ _) (Nat.le_refl _) (by simp) ?_; (case hd => rfl); (case hg => rfl); (case hr => first | (go_simp; done) | (go_simp; rfl)); (case hp => exact (Reps.none _ _)); intro v5 w5 ho hb hg_ hnew_; clear hg_ hnew_; have HO := Zq_.mk (Kd.qn_ ho (qa_ (hB_ HB))); replace HB := sB_ HB hb; clear hb ho)
   | ((with_reducible refine gate_builtin (b := .append) (xs := #[.tmp 5, .tmp 6]) rfl ?_); at_builtin; refine Kd.R_append_rows (Kd.int .i64) (w0 := w) w.heap.size rfl (.tmp 5) (.tmp 6) 22 3 (.int .i64 0) 8 rfl Try.underlying22 info3 rfl (by decide) (by omega) v5 ([] : List Int) l0 _ _ _ (fun _ => True) (fun _ => False) rfl rfl ?aO ?aR (fun _ _ h => h) (fun _ h => h.elim) ?aF ?aB ?aS ?aL ?_; (case aR => exact cX_ (Kd.qe_ HR.out HB.out)); (case aB => exact (hB_ HB)); (case aF => exact (fun _ _ => trivial)); (case aO => exact (vX_ HO)); (case aS => exact (qa_ (hB_ HB))); (case aL => have := LM.out; simp only [List.length_nil]; omega); intro v7 w9 ho hb hg hat; rw [List.nil_append] at ho; replace HB := Zq_.mk hb; replace HO := Zq_.mk ho; clear ho hb hg hat))
  go_ret
  exact ⟨_, rfl, by (with_reducible repeat (first | apply Kd.qc_ | apply Kd.qb_ | apply Kd.R_drew)); exact HO.out, (hB_ HB)⟩
open Go.Proofs.YtjlemkdilbnmlaaW.Hw in
theorem IndexFuncI.calls (p : Int → Bool) (g : Nat) (lb : Array Value) (eg : ∀ args w, (callFunc g args).run Try.prog w = .ok (.enter g args) w) (A0 : Option Addr) (c0 : Nat) (l0 : List Int) (w : World)
  (hp : PredI Try.prog g lb p w) (hr0 : Kd.C (Kd.int .i64) w A0 l0.length l0) :
  Calls Try.prog 29 #[.slice A0 l0.length c0, .func (.func g) #[] lb] w fun e w' => e = .returned (.int .i64 (idxI p l0)) ∧ Below w.heap.size w w' := by
 have HR := Zq_.mk hr0; have HP := Zq_.mk hp; have HM := Zq_.mk (Kd.C_max hr0); clear hr0 hp; have HB := Zq_.mk (Below.refl w.heap.size w)
 go_enter Try.func29, Try.ntmps29
 go_wp2
 go_loopg [5, 8] l0.length (fun gg _ s8 wr => ∃ i : Int, s8 = .int .i64 i ∧ Zq_ (0 ≤ i ∧ i ≤ (l0.length : Int) ∧ l0.length - i.toNat ≤ gg) ∧ Zq_ (Below w.heap.size w wr) ∧ Zq_ (∀ j, j < i.toNat → p (l0.getD j 0) = false))
 case atStart => exact ⟨0, rfl, ⟨by omega⟩, HB, ⟨fun j hj => absurd hj (Nat.not_lt_zero _)⟩⟩
 case round =>
  obtain ⟨i, rfl, HI, BW, A⟩ := hrel
  by_cases hlt : i < (l0.length : Int)
  ·have hltb : decide (i < (l0.length : Int)) = true := decide_eq_true hlt; have p1 := HI.out.1; obtain ⟨ad, e_, hx_0⟩ := Kd.at_int HR.out i p1 hlt; cases e_; replace hx_0 := (BW.out.cell (wb_ w _ hx_0)).trans hx_0; have hcall : Calls Try.prog g (#[.int .i64 (rd l0 i)] ++ lb) wr (fun e w1 => e = .returned (.bool (p (rd l0 i))) ∧ Below wr.heap.size wr w1) := HP.out wr (rd l0 i) BW.out; have HL := Zq_.mk hlt; replace p1 := eq_true p1; replace hlt := eq_true hlt; have hwr := Zq_.mk (show wrap64 (i + 1) = i + 1 by have := HI.out; have := HM.out; have := HL.out; unfold wrap64; omega)
   cases hq : p (rd l0 i) with
   | true =>
    rw [hq] at hcall; have HQ := Zq_.mk hq; clear hq
    go_wp2_with fail
    refine hcall.mono ?_; rintro e w1 ⟨rfl, hb1⟩
    go_wp2_with fail
    go_ret
    refine ⟨?_, (by have hb2 := below_step BW.out hb1; exact hb2)⟩; have h1 := HI.out; have h2 := HL.out; rw [idxI_hit p l0 0 i.toNat (by omega) HQ.out A.out, Int.toNat_of_nonneg h1.1]; rfl
   | false =>
    rw [hq] at hcall; have HQ := Zq_.mk hq; clear hq
    go_wp2_with fail
    refine hcall.mono ?_; rintro e w1 ⟨rfl, hb1⟩
    go_wp2_with fail
    go_roundg (l0.length - (i.toNat + 1))
    case measure => have h1 := HI.out; have h2 := HL.out; omega
    case rel => exact ⟨wrap64 (i + 1), eS_, ⟨by rw [hwr.out]; have h1 := HI.out; have h2 := HL.out; omega⟩, ⟨below_step BW.out hb1⟩, ⟨fun j hj => by
     rw [hwr.out] at hj; have h1 := HI.out
     by_cases e : j = i.toNat
     ·subst e; exact HQ.out
     ·exact A.out j (by omega)⟩⟩
  ·have hltb : decide (i < (l0.length : Int)) = false := decide_eq_false hlt; have HL := Zq_.mk hlt; clear hlt
   go_wp2
   go_ret
   refine ⟨?_, BW.out⟩; have h1 := HI.out; have h2 := HL.out; rw [idxI_miss p l0 0 (fun j hj => A.out j (by omega))]; rfl
def slices_Index_int_int.l0 : Nat → List Int → Int → Int → Int → Option (Int)
 | 0, _, _, _, _ => none
 | k + 1, x0, x1, x7, x8 => if x8 < x7 then (if 0 ≤ x8 then (if x8 < (x0.length : Int) then (if x1 = (rd x0 x8) then (some x8) else (slices_Index_int_int.l0 k x0 x1 x7 (wrap64 (x8 + 1)))) else (none)) else (none)) else (some (-1))
def slices_Index_int_int.f (k : Nat) (l0 : List Int) (a1 : Int) : Option (Int) := slices_Index_int_int.l0 k l0 a1 (l0.length : Int) 0
theorem slices_Index_int_int.mono_l : ∀ k, (∀ y0 y1 y2 y3, LeO (slices_Index_int_int.l0 k y0 y1 y2 y3) (slices_Index_int_int.l0 (k + 1) y0 y1 y2 y3))
 | 0 => fun _ _ _ _ r h => by simp [slices_Index_int_int.l0] at h
 | k + 1 => by
  have ih0 := slices_Index_int_int.mono_l k
  ·intro y0 y1 y2 y3
   unfold slices_Index_int_int.l0
   with_reducible repeat' first | exact ih0 _ _ _ _ | exact LeO.refl _ | exact LeO.none _ | refine LeO.ite ?_ ?_ | refine LeO.bind ?_ (fun _ => ?_)
theorem slices_Index_int_int.mono : ∀ a0 a1 k, LeO (slices_Index_int_int.f k a0 a1) (slices_Index_int_int.f (k + 1) a0 a1) := by
 intro a0 a1 k; have ih0 := slices_Index_int_int.mono_l k
 unfold slices_Index_int_int.f
 with_reducible repeat' first | exact ih0 _ _ _ _ | exact LeO.refl _ | exact LeO.none _ | refine LeO.ite ?_ ?_ | refine LeO.bind ?_ (fun _ => ?_)
theorem slices_Index_int_int.calls (k : Nat) (A0 : Option Addr) (c0 : Nat) (l0 : List Int) (a1 : Int) (r : Int) (w : World) (hr0 : Kd.C (Kd.int .i64) w A0 l0.length l0) (hc0 : l0.length ≤ c0) (h : slices_Index_int_int.f k l0 a1 = some r) :
  Calls Try.prog 30 #[.slice A0 l0.length c0, .int .i64 a1] w fun e w' => e = .returned (.int .i64 r) ∧ Drawn0 w w' := by
 have HR0 := Zq_.mk hr0; have HC0 := Zq_.mk hc0; clear hr0 hc0; have H : (slices_Index_int_int.l0 k l0 a1 (l0.length : Int) 0) = some r := h; clear h; have H' := Zq_.mk H; clear H
 go_enter Try.func30, Try.ntmps30
 go_wp2
 go_loopg [8] k (fun kq v8 w' => ∃ (aA : Int), v8 = .int .i64 aA ∧ Zq_ (slices_Index_int_int.l0 kq l0 a1 (l0.length : Int) aA = some r) ∧ Zq_ (kq ≤ k) ∧ Drawn0 w w')
 case atStart => exact ⟨(0), eS_, H', ⟨Nat.le_refl _⟩, by repeat (first | exact Drawn0.refl _ | apply Drawn0.step)⟩
 case round =>
  clear H'
  try clear p2
  obtain ⟨aA, rfl, HA, HK1, ⟨m1, rfl⟩⟩ := hrel
  cases gk with
  | zero => exact absurd HA.out (by simp [slices_Index_int_int.l0])
  | succ k1 =>
   have H := HA.out; clear HA; simp only [slices_Index_int_int.l0] at H
   by_cases c3 : aA < (l0.length : Int)
   ·rw [if_pos c3] at H; have c3b0 : decide (aA < (l0.length : Int)) = true := decide_eq_true c3; clear c3
    by_cases c4 : 0 ≤ aA
    ·rw [if_pos c4] at H; have c4b0 : decide (0 ≤ aA) = true := decide_eq_true c4; clear c4
     by_cases c5 : aA < (l0.length : Int)
     ·rw [if_pos c5] at H; have c5b0 : decide (aA < (l0.length : Int)) = true := decide_eq_true c5; clear c5
      by_cases c6 : a1 = (rd l0 aA)
      ·rw [if_pos c6] at H; have c6b0 : (a1 == (rd l0 aA)) = true := beq_iff_eq.mpr c6; have c6b1 : (a1 != (rd l0 aA)) = false := bne_eq_false_iff_eq.mpr c6; clear c6; obtain rfl := Option.some.inj H; have aC : 0 ≤ (aA : Int) := dA_; have aB : aA < (l0.length : Int) := dA_; obtain ⟨aF, aE, aD⟩ := Kd.at_int HR0.out aA aC aB; cases aE; replace aC := eq_true aC; replace aB := eq_true aB
       go_wp2
       go_ret
       exact ⟨by first | rfl | (simp; done) | (simp [*]; done), by repeat (first | exact Drawn0.refl _ | apply Drawn0.step)⟩
      ·rw [if_neg c6] at H; have c6b0 : (a1 == (rd l0 aA)) = false := beq_eq_false_iff_ne.mpr c6; have c6b1 : (a1 != (rd l0 aA)) = true := bne_iff_ne.mpr c6; have H' := Zq_.mk H; clear H; have aC : 0 ≤ (aA : Int) := dA_; have aB : aA < (l0.length : Int) := dA_; obtain ⟨aF, aE, aD⟩ := Kd.at_int HR0.out aA aC aB; cases aE; replace aC := eq_true aC; replace aB := eq_true aB
       go_wp2
       go_roundg k1
       case measure => have := HK1.out; omega
       case rel => exact ⟨(wrap64 (aA + 1)), eS_, H', ⟨by have := HK1.out; omega⟩, by repeat (first | exact Drawn0.refl _ | apply Drawn0.step)⟩
     ·rw [if_neg c5] at H; exact absurd H (by simp)
    ·rw [if_neg c4] at H; exact absurd H (by simp)
   ·rw [if_neg c3] at H; have c3b0 : decide (aA < (l0.length : Int)) = false := decide_eq_false c3; clear c3; obtain rfl := Option.some.inj H
    go_wp2
    go_ret
    exact ⟨by first | rfl | (simp; done) | (simp [*]; done), by repeat (first | exact Drawn0.refl _ | apply Drawn0.step)⟩
def choice_Rising.f (l0 : List Int) : Option (List Int) := if l0.length ≤ 1000000 then some (Go.Proofs.Ytjlemkdilbnmlaa.risL l0) else none
theorem choice_Rising.calls (A0 : Option Addr) (c0 : Nat) (l0 : List Int) (r : List Int) (w : World) (hr0 : Kd.C (Kd.int .i64) w A0 l0.length l0) (hc0 : l0.length ≤ c0) (h : choice_Rising.f l0 = some r) :
  Calls Try.prog 18 #[.slice A0 l0.length c0] w fun e w' => ∃ v0_ : Value, e = .returned v0_ ∧ Kd.R (Kd.int .i64) 3 w' w.heap.size (fun _ => True) v0_ r ∧ Below w.heap.size w w' := by
 unfold choice_Rising.f at h
 by_cases hl : l0.length ≤ 1000000
 case neg => rw [if_neg hl] at h; cases h
 rw [if_pos hl] at h; obtain rfl := Option.some.inj h; refine (Go.Proofs.Ytjlemkdilbnmlaa.rising_c w A0 c0 l0 hl (fun hne => ?_)).mono ?_
 ·have hpos : 0 < l0.length := List.length_pos_iff.2 hne; obtain ⟨ad, e, _⟩ := Kd.at_int hr0 0 (by omega) (by omega); refine ⟨ad, e, fun j hj => ?_⟩; obtain ⟨ad2, e2, hx⟩ := Kd.at_int hr0 (j : Int) (by omega) (by omega); obtain rfl : ad = ad2 := Option.some.inj (e.symm.trans e2); exact hx
 ·rintro e w' ⟨v, rfl, h1, h2⟩; exact ⟨v, rfl, Kd.R_of_own h1 (fun _ _ => trivial), h2⟩
def ref14_add.f (k : Nat) (l0 : List Int) (a1 : Int) : Option (List Int) := (ref14_Has.f k l0 a1).bind fun aD => (if aD = true then (some l0) else ((some (([] : List Int) : List Int)).bind fun aC => (if aC.length + l0.length < 17592186044416 then ((some (aC ++ l0 : List Int)).bind fun aA => (if aA.length < 17592186044416 then (some (aA ++ [a1])) else (none))) else (none))))
theorem ref14_add.mono : ∀ a0 a1 k, LeO (ref14_add.f k a0 a1) (ref14_add.f (k + 1) a0 a1) := by
 intro a0 a1 k
 unfold ref14_add.f
 with_reducible repeat' first | exact ref14_Has.mono _ _ _ | exact LeO.refl _ | exact LeO.none _ | refine LeO.ite ?_ ?_ | refine LeO.bind ?_ (fun _ => ?_)
theorem ref14_add.calls (k : Nat) (P0_ : Nat → Prop) (A0 : Option Addr) (c0 : Nat) (l0 : List Int) (a1 : Int) (r : List Int) (w : World) (hs0 : Kd.V (Kd.int .i64) 3 w w.heap.size (fun k_ => P0_ k_) (.slice A0 l0.length c0) l0) (h : ref14_add.f k l0 a1 = some r) :
  Calls Try.prog 21 #[.slice A0 l0.length c0, .int .i64 a1] w fun e w' => ∃ v0_ : Value, e = .returned (v0_) ∧ Kd.V (Kd.int .i64) 3 w' w.heap.size (fun k_ => (P0_ k_ ∨ w.heap.size ≤ k_)) v0_ r ∧ Below w.heap.size w w' := by
 have HO0 := Zq_.mk (show Kd.V (Kd.int .i64) 3 w w.heap.size (fun k_ => (P0_ k_ ∨ w.heap.size ≤ k_)) (.slice A0 l0.length c0) l0 from Kd.V_mono hs0 (fun k_ hk => .inl hk)); have HB := Zq_.mk (Below.refl w.heap.size w); have H : ((ref14_Has.f k l0 a1).bind fun aD => (if aD = true then (some l0) else ((some (([] : List Int) : List Int)).bind fun aC => (if aC.length + l0.length < 17592186044416 then ((some (aC ++ l0 : List Int)).bind fun aA => (if aA.length < 17592186044416 then (some (aA ++ [a1])) else (none))) else (none))))) = some r := h; clear h; replace H := ob_ H; obtain ⟨aD, A30, H⟩ := H; (try dsimp only at H); have A3 := Zq_.mk A30; clear A30
 by_cases c4 : aD = true
 ·subst c4
  rw [if_pos rfl] at H; obtain rfl := Option.some.inj H
  go_enter Try.func21, Try.ntmps21
  go_wp2_with (first | ((with_reducible refine qk_ (f := 17) rfl ?_); refine goesL_ (some 7) rfl rfl Try.func17 (by kernel_rfl) rfl #[.slice A0 l0.length c0, .int .i64 a1] rfl aR_ ?_; (with_reducible refine (ref14_Has.calls k _ _ l0 a1 true _ ?side1 ?side2 A3.out).mono ?_); (case side1 => exact cX_ ((Kd.V_reads' HO0.out).2.2)); (case side2 => exact (Kd.V_reads' HO0.out).2.1); rintro e w' ⟨rfl, ⟨nd, rfl⟩⟩; refine ⟨_, rfl, ?_⟩))
  go_ret
  exact ⟨_, by exact eW_, by refine vM_ ?_; exact HO0.out, hB_ HB⟩
 ·replace c4 := Bool.eq_false_iff.mpr c4; subst c4
  have H1 : ((some (([] : List Int) : List Int)).bind fun aC => (if aC.length + l0.length < 17592186044416 then ((some (aC ++ l0 : List Int)).bind fun aA => (if aA.length < 17592186044416 then (some (aA ++ [a1])) else (none))) else (none))) = some r := by rw [if_neg (show ¬ (false = true) by decide)] at H; exact H
  clear H; have H := H1; clear H1; obtain ⟨aC, aH⟩ : ∃ y_ : List Int, y_ = (([] : List Int)) := ⟨_, rfl⟩
  replace H : (if aC.length + l0.length < 17592186044416 then ((some (aC ++ l0 : List Int)).bind fun aA => (if aA.length < 17592186044416 then (some (aA ++ [a1])) else (none))) else (none)) = some r := hY_ aH H
  have aJ := Zq_.mk aH; clear aH
  by_cases c5 : aC.length + l0.length < 17592186044416
  ·rw [if_pos c5] at H; have LMc5 := Zq_.mk c5; clear c5; obtain ⟨aA, aG⟩ : ∃ y_ : List Int, y_ = (aC ++ l0) := ⟨_, rfl⟩
   replace H : (if aA.length < 17592186044416 then (some (aA ++ [a1])) else (none)) = some r := hY_ aG H
   have aN := Zq_.mk aG; clear aG
   by_cases c6 : aA.length < 17592186044416
   ·rw [if_pos c6] at H; have LMc6 := Zq_.mk c6; clear c6; obtain ⟨y108, aE⟩ : ∃ y_ : List Int, y_ = (aA ++ [a1]) := ⟨_, rfl⟩
    replace H : (some y108) = some r := hY_ aE H
    have aM := Zq_.mk aE; clear aE; obtain rfl := Option.some.inj H
    go_enter Try.func21, Try.ntmps21
    go_wp2_with (first | ((with_reducible refine qk_ (f := 17) rfl ?_); refine goesL_ (some 7) rfl rfl Try.func17 (by kernel_rfl) rfl #[.slice A0 l0.length c0, .int .i64 a1] rfl aR_ ?_; (with_reducible refine (ref14_Has.calls k _ _ l0 a1 false _ ?side1 ?side2 A3.out).mono ?_); (case side1 => exact cX_ ((Kd.V_reads' HO0.out).2.2)); (case side2 => exact (Kd.V_reads' HO0.out).2.1); rintro e w' ⟨rfl, ⟨nd, rfl⟩⟩; refine ⟨_, rfl, ?_⟩) | ((with_reducible refine gate_dst (N := 9) rfl ?_); refine Kd.R_lit (Kd.int .i64) _ 3 ?hg (N := 9) ?hd (xs := ([] : List Int)) (inner := []) (ok := fun _ => True) (okp := fun _ => True) ?hr ?hp (fun _ hk => hk) trivial (Below.refl _ _) (Nat.le_refl _) (by simp) ?_; (case hd => rfl); (case hg => rfl); (case hr => first | (go_simp; done) | (go_simp; rfl)); (case hp => exact (Reps.none _ _)); intro v103 w7 ho8 hb hg_ hnew_; clear hg_ hnew_; (first | rw [← aJ.out] at ho8 | (simp only [Int.reduceToNat] at ho8; rw [← aJ.out] at ho8)); replace HO0 := Zq_.mk (Kd.V_elder' (vX_ HO0) (Kd.R_base ho8) hb); have aI := Zq_.mk (Kd.qn_ (Kd.R_newM (M := fun k_ => (w.heap.size ≤ k_)) ho8 (qa_ (hB_ HB)) (fun k_ h_ => h_)) (qa_ (hB_ HB))); replace HB := sB_ HB hb; clear hb ho8) | ((with_reducible refine gate_builtin (b := .append) (xs := #[.tmp 9, .tmp 10]) rfl ?_); at_builtin; refine Kd.R_append_rows (Kd.int .i64) (w0 := w) w.heap.size rfl (.tmp 9) (.tmp 10) 22 3 (.int .i64 0) 8 rfl Try.underlying22 info3 rfl (by decide) (by omega) v103 aC l0 _ _ _ (fun k_ => (w.heap.size ≤ k_)) (fun _ => False) rfl rfl ?aO ?aR (fun _ _ h => h) (fun _ h => h.elim) ?aF ?aB ?aS ?aL ?_; (case aR => exact cX_ ((Kd.V_reads' HO0.out).2.2)); (case aB => exact (hB_ HB)); (case aF => exact (fun k_ hk => (Nat.le_trans (qa_ (hB_ HB)) hk))); (case aO => exact (by (with_reducible repeat (first | apply Kd.qc_ | apply Kd.qb_ | apply Kd.R_drew)); first | exact Kd.R_mono aI.out (fun _ hk => hk.1) | exact aI.out)); (case aS => exact (qa_ (hB_ HB))); (case aL => have := LMc5.out; omega); intro v106 w9 ho hb hg hat; rw [← aN.out] at ho; replace HO0 := Zq_.mk (Kd.V_afterv (ok := (fun k_ => (P0_ k_ ∨ w.heap.size ≤ k_))) (vX_ HO0) hg hat); replace HB := Zq_.mk (hb); have aK := Zq_.mk (ho); clear aI; clear ho hb hg hat) | ((with_reducible refine gate_builtin (b := .append) (xs := #[.tmp 11, .tmp 13]) rfl ?_); at_builtin; refine Kd.R_append (Kd.int .i64) (w0 := w) w.heap.size rfl (.tmp 11) (.tmp 13) 22 3 (.int .i64 0) 8 rfl Try.underlying22 info3 rfl (by decide) (by omega) v106 aA a1 [.int .i64 a1] (fun k_ => (w.heap.size ≤ k_)) (fun _ => False) rfl rfl ?aP (fun _ hk => hk.elim) ?aF ?aO ?aB ?aS ?aL ?_; (case aP => exact rfl); (case aB => exact (hB_ HB)); (case aF => exact (fun k_ hk => (Nat.le_trans (qa_ (hB_ HB)) hk))); (case aO => exact (vX_ aK)); (case aS => exact (qa_ (hB_ HB))); (case aL => have := LMc6.out; omega); intro v109 w10 ho hb hg hat; rw [← aM.out] at ho; replace HO0 := Zq_.mk (Kd.V_afterv (ok := (fun k_ => (P0_ k_ ∨ w.heap.size ≤ k_))) (vX_ HO0) hg hat); replace HB := Zq_.mk (hb); have aQ := Zq_.mk (ho); clear aK; clear ho hb hg hat))
    go_ret
    exact ⟨_, by exact eW_, Kd.V_mono (Kd.R_V (vX_ aQ)) (fun k_ hk => by first | exact ⟨(.inr (hk.1)), hk.2⟩ | exact (.inr (hk))), hB_ HB⟩
   ·rw [if_neg c6] at H; exact absurd H (by simp)
  ·rw [if_neg c5] at H; exact absurd H (by simp)
def slices_Contains_int_int.f (k : Nat) (l0 : List Int) (a1 : Int) : Option (Bool) := (slices_Index_int_int.f k l0 a1).bind fun aA => (some (decide (aA ≥ 0)))
theorem slices_Contains_int_int.mono : ∀ a0 a1 k, LeO (slices_Contains_int_int.f k a0 a1) (slices_Contains_int_int.f (k + 1) a0 a1) := by
 intro a0 a1 k
 unfold slices_Contains_int_int.f
 with_reducible repeat' first | exact slices_Index_int_int.mono _ _ _ | exact LeO.refl _ | exact LeO.none _ | refine LeO.ite ?_ ?_ | refine LeO.bind ?_ (fun _ => ?_)
theorem slices_Contains_int_int.calls (k : Nat) (A0 : Option Addr) (c0 : Nat) (l0 : List Int) (a1 : Int) (r : Bool) (w : World) (hr0 : Kd.C (Kd.int .i64) w A0 l0.length l0) (hc0 : l0.length ≤ c0) (h : slices_Contains_int_int.f k l0 a1 = some r) :
  Calls Try.prog 25 #[.slice A0 l0.length c0, .int .i64 a1] w fun e w' => e = .returned (.bool r) ∧ Drawn0 w w' := by
 have HR0 := Zq_.mk hr0; have HC0 := Zq_.mk hc0; clear hr0 hc0; have H : ((slices_Index_int_int.f k l0 a1).bind fun aA => (some (decide (aA ≥ 0)))) = some r := h; clear h; replace H := ob_ H; obtain ⟨aA, A30, H⟩ := H; (try dsimp only at H); have A3 := Zq_.mk A30; clear A30; obtain rfl := Option.some.inj H
 go_enter Try.func25, Try.ntmps25
 go_wp2_with (first | ((with_reducible refine qk_ (f := 30) rfl ?_); refine goesL_ (some 7) rfl rfl Try.func30 (by kernel_rfl) rfl #[.slice A0 l0.length c0, .int .i64 a1] rfl aR_ ?_; (with_reducible refine (slices_Index_int_int.calls k _ _ l0 a1 aA _ ?side1 ?side2 A3.out).mono ?_); (case side1 => exact cX_ HR0.out); (case side2 => exact HC0.out); rintro e w' ⟨rfl, ⟨nd, rfl⟩⟩; refine ⟨_, rfl, ?_⟩))
 go_ret
 exact ⟨by first | rfl | (simp; done) | (simp [*]; done), by repeat (first | exact Drawn0.refl _ | apply Drawn0.step)⟩
def choice_Has.f (k : Nat) (l0 : List Int) (a1 : Int) : Option (Bool) := (slices_Contains_int_int.f k l0 a1).bind fun aA => (some aA)
theorem choice_Has.mono : ∀ a0 a1 k, LeO (choice_Has.f k a0 a1) (choice_Has.f (k + 1) a0 a1) := by
 intro a0 a1 k
 unfold choice_Has.f
 with_reducible repeat' first | exact slices_Contains_int_int.mono _ _ _ | exact LeO.refl _ | exact LeO.none _ | refine LeO.ite ?_ ?_ | refine LeO.bind ?_ (fun _ => ?_)
theorem choice_Has.calls (k : Nat) (A0 : Option Addr) (c0 : Nat) (l0 : List Int) (a1 : Int) (r : Bool) (w : World) (hr0 : Kd.C (Kd.int .i64) w A0 l0.length l0) (hc0 : l0.length ≤ c0) (h : choice_Has.f k l0 a1 = some r) :
  Calls Try.prog 16 #[.slice A0 l0.length c0, .int .i64 a1] w fun e w' => e = .returned (.bool r) ∧ Drawn0 w w' := by
 have HR0 := Zq_.mk hr0; have HC0 := Zq_.mk hc0; clear hr0 hc0; have H : ((slices_Contains_int_int.f k l0 a1).bind fun aA => (some aA)) = some r := h; clear h; replace H := ob_ H; obtain ⟨aA, A30, H⟩ := H; (try dsimp only at H); have A3 := Zq_.mk A30; clear A30; obtain rfl := Option.some.inj H
 go_enter Try.func16, Try.ntmps16
 go_wp2_with (first | ((with_reducible refine qk_ (f := 25) rfl ?_); refine goesL_ (some 7) rfl rfl Try.func25 (by kernel_rfl) rfl #[.slice A0 l0.length c0, .int .i64 a1] rfl aR_ ?_; (with_reducible refine (slices_Contains_int_int.calls k _ _ l0 a1 aA _ ?side1 ?side2 A3.out).mono ?_); (case side1 => exact cX_ HR0.out); (case side2 => exact HC0.out); rintro e w' ⟨rfl, ⟨nd, rfl⟩⟩; refine ⟨_, rfl, ?_⟩))
 go_ret
 exact ⟨by first | rfl | (simp; done) | (simp [*]; done), by repeat (first | exact Drawn0.refl _ | apply Drawn0.step)⟩
def choice_Without.f (l0 : List Int) (a1 : Int) : Option (List Int) := if l0.length ≤ 1000000 then some (l0.filter (fun x => !(x == a1))) else none
open Go.Proofs.YtjlemkdilbnmlaaW.Hw in
theorem choice_Without.pred (n : Int) (B : Nat) (w : World) (hc : w.cell? ⟨B, 0, none⟩ = some (.int .i64 n)) : PredI Try.prog 24 #[.pointer (some ⟨B, 0, none⟩)] (fun x => x == n) w := by
 intro W x hb; have hcW := (hb.cell (wb_ w _ hc)).trans hc
 go_enter Try.func24, Try.ntmps24
 go_wp2
 go_ret
 exact ⟨by first | rfl | (simp; done) | (simp [*]; done), by first | exact Below.refl _ _ | exact (Below.refl _ _).drew | exact qj_ (Below.refl _ _)⟩
open Go.Proofs.YtjlemkdilbnmlaaW.Hw in
/-- Over an empty row it comes back as it is. -/
theorem choice_Without.none_ (n : Int) (B : Nat) (A0 : Option Addr) (c0 : Nat) (w : World) (hc : w.cell? ⟨B, 0, none⟩ = some (.int .i64 n)) (hr : Kd.C (Kd.int .i64) w A0 0 []) :
  Calls Try.prog 22 #[.slice A0 0 c0, .func (.func 24) #[] #[.pointer (some ⟨B, 0, none⟩)]] w fun e w' => e = .returned (.slice A0 0 c0) ∧ Below w.heap.size w w' := by
 have hcall := IndexFuncI.calls (fun x => x == n) 24 #[.pointer (some ⟨B, 0, none⟩)] (fun args w => enters Try.prog Try.func24 (by kernel_rfl) (by kernel_rfl) args w) A0 c0 [] w (choice_Without.pred n B w hc) hr; have hix : idxI (fun x : Int => x == n) [] = -1 := rfl; rw [hix] at hcall
 change Calls Try.prog _ #[.slice A0 0 c0, _] w _ at hcall
 clear hix hr hc
 go_enter Try.func22, Try.ntmps22
 go_wp2_with fail
 refine hcall.mono ?_; rintro e w1 ⟨rfl, hb1⟩
 go_wp2_with fail
 go_ret
 exact ⟨rfl, hb1⟩
open Go.Proofs.YtjlemkdilbnmlaaW.Hw in
theorem choice_Without.del (n : Int) (B : Nat) (v : Value) (l : List Int) (w : World) (base : Nat) (hrow : Kd.R (Kd.int .i64) 3 w base (fun _ => True) v l) (hc : w.cell? ⟨B, 0, none⟩ = some (.int .i64 n)) (hBv : some B ≠ v.ownBlock) (hn : l.length ≤ 1000000) :
  Calls Try.prog 22 #[v, .func (.func 24) #[] #[.pointer (some ⟨B, 0, none⟩)]] w fun e w' => ∃ v', e = .returned v' ∧ Kd.R (Kd.int .i64) 3 w' base (fun _ => True) v' (l.filter (fun x => !(x == n))) ∧ w.grownBy w' v.ownBlock := by
 by_cases hl : l = []
 ·subst hl; obtain ⟨A, c, rfl, _, hC⟩ := Kd.R_reads hrow; refine (choice_Without.none_ n B A c w hc hC).mono ?_; rintro e w' ⟨rfl, hb⟩; exact ⟨_, rfl, Kd.R_below hrow hb, grown_of_below hb _⟩
 ·refine (Go.Proofs.Ytjlemkdilbnmlaa.delete_own n B v l w base (Kd.own_of_R hrow) hl (wb_ w _ hc) hBv hc hn).mono ?_; rintro e w' ⟨v', rfl, ho, hg⟩; exact ⟨_, rfl, Kd.R_of_own ho (fun _ _ => trivial), hg⟩
open Go.Proofs.YtjlemkdilbnmlaaW.Hw in
theorem choice_Without.calls (A0 : Option Addr) (c0 : Nat) (l0 : List Int) (a1 : Int) (r : List Int) (w : World) (hr0 : Kd.C (Kd.int .i64) w A0 l0.length l0) (hc0 : l0.length ≤ c0) (h : choice_Without.f l0 a1 = some r) :
  Calls Try.prog 14 #[.slice A0 l0.length c0, .int .i64 a1] w fun e w' => ∃ v0_ : Value, e = .returned v0_ ∧ Kd.R (Kd.int .i64) 3 w' w.heap.size (fun _ => True) v0_ r ∧ Below w.heap.size w w' := by
 unfold choice_Without.f at h
 by_cases hl : l0.length ≤ 1000000
 case neg => rw [if_neg hl] at h; cases h
 rw [if_pos hl] at h; obtain rfl := Option.some.inj h; clear h; have HM := Zq_.mk hl; have HL := Zq_.mk (show slices_Clone_int_int.f l0 = some l0 by unfold slices_Clone_int_int.f; rw [if_pos (by omega)]); have HR := Zq_.mk hr0; have HC := Zq_.mk hc0; clear hr0 hc0 hl; have HB := Zq_.mk (Below.refl w.heap.size w)
 go_enter Try.func14, Try.ntmps14
 go_wp2_with (first | ((with_reducible refine gate_dst (N := 3) rfl ?_); (try (refine gate_guard (by rfl) ?_; dsimp only)); refine bE_ 3 #[.int .i64 a1] 3 ?_; intro aB hg_ w101 hbox_ hb_; have n0_ := Zq_.mk (below_step (hB_ HB) hb_); have GE101 := Zq_.mk ((by rw [hg_]; exact (qa_ (hB_ HB)) : w.heap.size ≤ aB)); have n1_ := Zq_.mk (hbox_); clear HB; have HB := n0_; have aA := n1_; clear n0_ n1_; clear hb_ hbox_ hg_; have aD := cz_ aA 0 (.int .i64 a1); have aC := blk_frozen aA.out 0; have LT101 := Zq_.mk (blk_lt aA.out)) | (go_at_call 23; refine (slices_Clone_int_int.calls A0 c0 l0 l0 _ (Kd.qe_ HR.out (hB_ HB)) HC.out HL.out).mono ?_; rintro e w3 ⟨v5, rfl, ho5, hb3⟩; have NE5 := Zq_.mk (show some aB ≠ v5.ownBlock from fun e_ => by have h1 := Kd.R_base ho5 aB e_.symm; have h2 := LT101.out; omega); have HO5 := Zq_.mk (Kd.qn_ ho5 (qa_ (hB_ HB))); have n0_ := Zq_.mk (below_step (hB_ HB) hb3); have m101_ := Zq_.mk (blk_bel (by exact bK_ aA) hb3); clear HB; have HB := n0_; clear n0_; clear aA; have aA := m101_; clear m101_; clear hb3; clear ho5) | (go_at_call 22; refine (choice_Without.del a1 aB v5 l0 _ w.heap.size (vX_ HO5) ((blk_cell (by exact bK_ aA) 0).trans rfl) NE5.out HM.out).mono ?_; rintro e w4 ⟨v6, rfl, ho6, hg6⟩; have n0_ := Zq_.mk (((hB_ HB) : Below w.heap.size w w3).grown hg6 (qa_ (hB_ HB)) (Kd.R_base HO5.out)); clear HB; have HB := n0_; have HO6 := Zq_.mk ho6; clear n0_ ho6 hg6))
 go_ret
 exact ⟨_, rfl, HO6.out, HB.out⟩
mutual
def ref14_Round.j0 : Nat → List Int → List Int → List Int → List Int → Int → Bool → Int → Int → Int → Option (List Int)
 | 0, _, _, _, _, _, _, _, _, _ => none
 | k + 1, x0, x1, x2, x9, x10, x11, aD, aB, aC => if (x1.length : Int) > 0 then (if (wrap64 ((x0.length : Int) + 1)) = 0 then (none) else (ref14_Round.j1 k x0 x1 x2 x9 x10 x11 (decide ((Int.tmod (wrap64 (aB)) (wrap64 ((x0.length : Int) + 1))) < (x1.length : Int))) aD aB aC)) else (ref14_Round.j1 k x0 x1 x2 x9 x10 x11 false aD aB aC)
def ref14_Round.j1 : Nat → List Int → List Int → List Int → List Int → Int → Bool → Bool → Int → Int → Int → Option (List Int)
 | 0, _, _, _, _, _, _, _, _, _, _ => none
 | k + 1, x0, x1, x2, x9, x10, x11, x41, aD, aB, aC => if x41 = true then ((ref14_One.f x1 aB).bind fun cA => ((ref14_add.f k x9 cA.1).bind fun bP => (ref14_Round.j2 k x0 x2 bP x10 x11 aD aB aC))) else (ref14_Round.j2 k x0 x2 x9 x10 x11 aD aB aC)
def ref14_Round.j2 : Nat → List Int → List Int → List Int → Int → Bool → Int → Int → Int → Option (List Int)
 | 0, _, _, _, _, _, _, _, _ => none
 | k + 1, x0, x2, x9, x10, x11, aD, aB, aC => if (x2.length : Int) > 0 then (if x11 = true then ((ref14_Has.f k x2 x10).bind fun bU => (if bU = true then (ref14_Round.j3 k x2 x9 (decide ((x0.length : Int) < (x2.length : Int))) aD aB aC) else (ref14_Round.j3 k x2 x9 true aD aB aC))) else (ref14_Round.j3 k x2 x9 true aD aB aC)) else (ref14_Round.j3 k x2 x9 false aD aB aC)
def ref14_Round.j3 : Nat → List Int → List Int → Bool → Int → Int → Int → Option (List Int)
 | 0, _, _, _, _, _, _ => none
 | k + 1, x2, x9, x71, aD, aB, aC => if x71 = true then ((ref14_One.f x2 aC).bind fun bZ => ((ref14_add.f k x9 bZ.1).bind fun bS => (some bS))) else (some x9)
end
def ref14_Round.f (k : Nat) (l0 : List Int) (l1 : List Int) (l2 : List Int) (aE : Int) (aF : Int) (aG : Int) : Option (List Int) := (ref14_One.f l0 aE).bind fun aI => (if aI.2 = true then ((ref14_add.f k ([] : List Int) aI.1).bind fun bL => (ref14_Round.j0 k l0 l1 l2 bL aI.1 aI.2 aE aF aG)) else (ref14_Round.j0 k l0 l1 l2 ([] : List Int) aI.1 aI.2 aE aF aG))
theorem ref14_Round.mono_l : ∀ k, (∀ y0 y1 y2 y3 y4 y5 y6 y7 y8, LeO (ref14_Round.j0 k y0 y1 y2 y3 y4 y5 y6 y7 y8) (ref14_Round.j0 (k + 1) y0 y1 y2 y3 y4 y5 y6 y7 y8)) ∧ (∀ y0 y1 y2 y3 y4 y5 y6 y7 y8 y9, LeO (ref14_Round.j1 k y0 y1 y2 y3 y4 y5 y6 y7 y8 y9) (ref14_Round.j1 (k + 1) y0 y1 y2 y3 y4 y5 y6 y7 y8 y9)) ∧ (∀ y0 y1 y2 y3 y4 y5 y6 y7, LeO (ref14_Round.j2 k y0 y1 y2 y3 y4 y5 y6 y7) (ref14_Round.j2 (k + 1) y0 y1 y2 y3 y4 y5 y6 y7)) ∧ (∀ y0 y1 y2 y3 y4 y5, LeO (ref14_Round.j3 k y0 y1 y2 y3 y4 y5) (ref14_Round.j3 (k + 1) y0 y1 y2 y3 y4 y5))
 | 0 => ⟨fun _ _ _ _ _ _ _ _ _ r h => by simp [ref14_Round.j0] at h, fun _ _ _ _ _ _ _ _ _ _ r h => by simp [ref14_Round.j1] at h, fun _ _ _ _ _ _ _ _ r h => by simp [ref14_Round.j2] at h, fun _ _ _ _ _ _ r h => by simp [ref14_Round.j3] at h⟩
 | k + 1 => by
  obtain ⟨ih0, ih1, ih2, ih3⟩ := ref14_Round.mono_l k; refine ⟨?_, ?_, ?_, ?_⟩
  ·intro y0 y1 y2 y3 y4 y5 y6 y7 y8
   unfold ref14_Round.j0
   with_reducible repeat' first | exact ih0 _ _ _ _ _ _ _ _ _ | exact ih1 _ _ _ _ _ _ _ _ _ _ | exact ih2 _ _ _ _ _ _ _ _ | exact ih3 _ _ _ _ _ _ | exact ref14_Has.mono _ _ _ | exact ref14_add.mono _ _ _ | exact LeO.refl _ | exact LeO.none _ | refine LeO.ite ?_ ?_ | refine LeO.bind ?_ (fun _ => ?_)
  ·intro y0 y1 y2 y3 y4 y5 y6 y7 y8 y9
   unfold ref14_Round.j1
   with_reducible repeat' first | exact ih0 _ _ _ _ _ _ _ _ _ | exact ih1 _ _ _ _ _ _ _ _ _ _ | exact ih2 _ _ _ _ _ _ _ _ | exact ih3 _ _ _ _ _ _ | exact ref14_Has.mono _ _ _ | exact ref14_add.mono _ _ _ | exact LeO.refl _ | exact LeO.none _ | refine LeO.ite ?_ ?_ | refine LeO.bind ?_ (fun _ => ?_)
  ·intro y0 y1 y2 y3 y4 y5 y6 y7
   unfold ref14_Round.j2
   with_reducible repeat' first | exact ih0 _ _ _ _ _ _ _ _ _ | exact ih1 _ _ _ _ _ _ _ _ _ _ | exact ih2 _ _ _ _ _ _ _ _ | exact ih3 _ _ _ _ _ _ | exact ref14_Has.mono _ _ _ | exact ref14_add.mono _ _ _ | exact LeO.refl _ | exact LeO.none _ | refine LeO.ite ?_ ?_ | refine LeO.bind ?_ (fun _ => ?_)
  ·intro y0 y1 y2 y3 y4 y5
   unfold ref14_Round.j3
   with_reducible repeat' first | exact ih0 _ _ _ _ _ _ _ _ _ | exact ih1 _ _ _ _ _ _ _ _ _ _ | exact ih2 _ _ _ _ _ _ _ _ | exact ih3 _ _ _ _ _ _ | exact ref14_Has.mono _ _ _ | exact ref14_add.mono _ _ _ | exact LeO.refl _ | exact LeO.none _ | refine LeO.ite ?_ ?_ | refine LeO.bind ?_ (fun _ => ?_)
theorem ref14_Round.mono : ∀ a0 a1 a2 a3 a4 a5 k, LeO (ref14_Round.f k a0 a1 a2 a3 a4 a5) (ref14_Round.f (k + 1) a0 a1 a2 a3 a4 a5) := by
 intro a0 a1 a2 a3 a4 a5 k; obtain ⟨ih0, ih1, ih2, ih3⟩ := ref14_Round.mono_l k
 unfold ref14_Round.f
 with_reducible repeat' first | exact ih0 _ _ _ _ _ _ _ _ _ | exact ih1 _ _ _ _ _ _ _ _ _ _ | exact ih2 _ _ _ _ _ _ _ _ | exact ih3 _ _ _ _ _ _ | exact ref14_Has.mono _ _ _ | exact ref14_add.mono _ _ _ | exact LeO.refl _ | exact LeO.none _ | refine LeO.ite ?_ ?_ | refine LeO.bind ?_ (fun _ => ?_)
theorem ref14_Round.calls (k : Nat) (A0 : Option Addr) (c0 : Nat) (l0 : List Int) (A1 : Option Addr) (c1 : Nat) (l1 : List Int) (A2 : Option Addr) (c2 : Nat) (l2 : List Int) (aE : Int) (aF : Int) (aG : Int) (r : List Int) (w : World) (hr0 : Kd.C (Kd.int .i64) w A0 l0.length l0) (hc0 : l0.length ≤ c0) (hr1 : Kd.C (Kd.int .i64) w A1 l1.length l1) (hc1 : l1.length ≤ c1) (hr2 : Kd.C (Kd.int .i64) w A2 l2.length l2) (hc2 : l2.length ≤ c2) (h : ref14_Round.f k l0 l1 l2 aE aF aG = some r) :
  Calls Try.prog 13 #[.slice A0 l0.length c0, .slice A1 l1.length c1, .slice A2 l2.length c2, .agg #[.int .u32 aE, .int .u32 aF, .int .u32 aG]] w fun e w' => ∃ v0_ : Value, e = .returned (v0_) ∧ Kd.V (Kd.int .i64) 3 w' w.heap.size (fun k_ => (w.heap.size ≤ k_)) v0_ r ∧ Below w.heap.size w w' := by
 have hu26 := Try.underlying26; have HR0 := Zq_.mk hr0; have HC0 := Zq_.mk hc0; clear hr0 hc0; have HR1 := Zq_.mk hr1; have HC1 := Zq_.mk hc1; clear hr1 hc1; have HR2 := Zq_.mk hr2; have HC2 := Zq_.mk hc2; clear hr2 hc2; have HB := Zq_.mk (Below.refl w.heap.size w); have H : ((ref14_One.f l0 aE).bind fun aI => (if aI.2 = true then ((ref14_add.f k ([] : List Int) aI.1).bind fun bL => (ref14_Round.j0 k l0 l1 l2 bL aI.1 aI.2 aE aF aG)) else (ref14_Round.j0 k l0 l1 l2 ([] : List Int) aI.1 aI.2 aE aF aG))) = some r := h; clear h; replace H := ob_ H; obtain ⟨⟨aM, bD⟩, A50, H⟩ := H; (try dsimp only at H); have A5 := Zq_.mk A50; clear A50; have HC6 := Zq_.mk H; clear H
 go_enter Try.func13, Try.ntmps13
 go_upto_if 23 with (first | ((with_reducible refine gate_dst (N := 7) rfl ?_); (try (refine gate_guard (by rfl) ?_; dsimp only)); refine bE_ 7 #[.int .u32 aE, .int .u32 aF, .int .u32 aG] 26 ?_; intro aH hg w7 hbox hb; have aA := Zq_.mk (hbox); have GW101 := gW_ (w := w) hg (hB_ HB); have GE101 := gW_ (w := w) hg (hB_ HB); replace HB := sB_ HB hb; clear hb hbox hg; obtain ⟨aZ, aY, aX⟩ := c3_ aA; obtain ⟨aT, aS, aR⟩ := f3_ aA) | ((with_reducible refine qk_ (f := 10) rfl ?_); refine goesL_ (some 20) rfl rfl Try.func10 (by kernel_rfl) rfl #[.slice A0 l0.length c0, .int .u32 aE] rfl aR_ ?_; (with_reducible refine (ref14_One.calls _ _ l0 aE aM bD _ ?side1 ?side2 A5.out).mono ?_); (case side1 => exact cX_ (Kd.qe_ HR0.out HB.out)); (case side2 => exact HC0.out); rintro e w' ⟨rfl, ⟨nd, rfl⟩⟩; refine ⟨_, rfl, ?_⟩))
 (try simp only [Act.put, sa_, sb_, sc_])
 go_cut [9] (fun v9 wc => ∃ (kq : Nat) (aO : List Int), Zq_ (ref14_Round.j0 kq l0 l1 l2 aO aM bD aE aF aG = some r) ∧ Zq_ (kq ≤ k) ∧ Zq_ (Kd.V (Kd.int .i64) 3 wc w.heap.size (fun k_ => (w.heap.size ≤ k_) ∧ k_ ≠ aH) v9 aO) ∧ Zq_ (wc.heap[aH]? = some (.cells #[.int .u32 aE, .int .u32 aF, .int .u32 aG] 26 (0, 0))) ∧ Zq_ (Below w.heap.size w wc))
 case first =>
  have H := HC6.out; clear HC6
  by_cases c9 : bD = true
  ·subst c9
   rw [if_pos rfl] at H; replace H := ob_ H; obtain ⟨bL, cJ, H⟩ := H; (try dsimp only at H); have A10 := Zq_.mk cJ; clear cJ; have H' := Zq_.mk H; clear H
   go_wp2_with (first | ((with_reducible refine qk_ (f := 21) rfl ?_); refine goesL_ (some 26) rfl rfl Try.func21 (by kernel_rfl) rfl #[.slice none 0 0, .int .i64 aM] rfl aR_ ?_; (refine (ref14_add.calls k (fun k_ => False) _ _ ([] : List Int) aM bL _ ?side1 A10.out).mono ?_); (case side1 => exact Kd.V_nil _ _ _ _ _); rintro e w11 ⟨v105, rfl, ho0, hb⟩; refine ⟨_, rfl, ?_⟩; have cD := Zq_.mk (Kd.V_lower (Kd.V_mono (ok' := fun k_ => (w.heap.size ≤ k_) ∧ k_ ≠ aH) ho0 (fun k_ hk_ => ⟨Or.elim hk_ (fun hs_ => (hs_).elim) (fun hn_ => (Nat.le_trans (qa_ (by exact hSet_ HB)) hn_)), Or.elim hk_ (fun hs_ => (hs_).elim) (fun hn_ => (Kd.freshB (g := aH) (o := .cells #[.int .u32 aE, .int .u32 aF, .int .u32 aG] 26 (0, 0)) (by exact bK_ aA) k_ hn_))⟩)) (qa_ (by exact hSet_ HB))); replace aA := kB_ aA hb; replace HB := sB_ HB hb; (try clear hb); (try clear ho0)))
   go_meet
   case rel => exact ⟨_, (bL), H', ⟨by first | omega | exact Nat.le_refl _⟩, ⟨by refine vM_ ?_; exact cD.out⟩, ⟨by (with_reducible repeat (first | refine ql_ ?_ _ | refine qm_ ?_ | refine blk_alloc ?_ _)); exact aA.out⟩, ⟨by exact hSet_ HB⟩⟩
  ·replace c9 := Bool.eq_false_iff.mpr c9; subst c9
   have H1 : (ref14_Round.j0 k l0 l1 l2 ([] : List Int) aM false aE aF aG) = some r := by rw [if_neg (show ¬ (false = true) by decide)] at H; exact H
   clear H; have H := H1; clear H1; have H' := Zq_.mk H; clear H
   go_wp2
   go_meet
   case rel => exact ⟨_, (([] : List Int)), H', ⟨by first | omega | exact Nat.le_refl _⟩, ⟨Kd.V_nil _ _ _ _ _⟩, ⟨by (with_reducible repeat (first | refine ql_ ?_ _ | refine qm_ ?_ | refine blk_alloc ?_ _)); exact aA.out⟩, ⟨by exact hSet_ HB⟩⟩
 case rest =>
  clear HC6
  try clear c1
  try clear c2
  try clear p2
  try clear c9
  try clear c10
  try clear aZ
  try clear aY
  try clear aX
  try clear aT
  try clear aS
  try clear aR
  obtain ⟨kq, aO, HA, HJ5, aJ, aA, HB⟩ := hcut
  cases kq with
  | zero => exact absurd HA.out (by simp [ref14_Round.j0])
  | succ kj5 =>
   have H := HA.out; clear HA; simp only [ref14_Round.j0] at H; have bY := Zq_.mk H; clear H
   go_upto_region 5 with (fail)
   go_cut [41] (fun v41 wc => ∃ (kq : Nat) (aQ : Bool), v41 = .bool aQ ∧ Zq_ (ref14_Round.j1 kq l0 l1 l2 aO aM bD aQ aE aF aG = some r) ∧ Zq_ (kq ≤ kj5) ∧ Zq_ (Kd.V (Kd.int .i64) 3 wc w.heap.size (fun k_ => (w.heap.size ≤ k_) ∧ k_ ≠ aH) u9 aO) ∧ Zq_ (wc.heap[aH]? = some (.cells #[.int .u32 aE, .int .u32 aF, .int .u32 aG] 26 (0, 0))) ∧ Zq_ (Below w.heap.size w wc))
   case first =>
    have H := bY.out; clear bY
    by_cases c13 : (l1.length : Int) > 0
    ·rw [if_pos c13] at H; have aL : decide (0 < (l1.length : Int)) = true := decide_eq_true c13; have bK : decide (0 < l1.length) = true := decide_eq_true (by omega); clear c13; (first | rw [aL] | (simp only [i64_w, i32_w]; rw [aL]) | skip)
     by_cases c14 : (wrap64 ((l0.length : Int) + 1)) = 0
     ·rw [if_pos c14] at H; exact absurd H (by simp)
     ·rw [if_neg c14] at H; have bO : ((wrap64 ((l0.length : Int) + 1)) == 0) = false := beq_eq_false_iff_ne.mpr c14; have bN : ((wrap64 ((l0.length : Int) + 1)) != 0) = true := bne_iff_ne.mpr c14; have H' := Zq_.mk H; clear H; obtain ⟨bC, bB, bA⟩ := c3_ aA; obtain ⟨aW, aV, aU⟩ := f3_ aA
      go_wp2
      go_meet
      case rel => exact ⟨_, (decide ((Int.tmod (wrap64 (aF)) (wrap64 ((l0.length : Int) + 1))) < (l1.length : Int))), eS_, H', ⟨by have := HJ5.out; first | omega | exact Nat.le_refl _⟩, ⟨by refine vM_ ?_; exact aJ.out⟩, ⟨by (with_reducible repeat (first | refine ql_ ?_ _ | refine qm_ ?_ | refine blk_alloc ?_ _)); exact aA.out⟩, ⟨by exact hSet_ HB⟩⟩
    ·rw [if_neg c13] at H; have aL : decide (0 < (l1.length : Int)) = false := decide_eq_false c13; have bK : decide (0 < l1.length) = false := decide_eq_false (by omega); clear c13; (first | rw [aL] | (simp only [i64_w, i32_w]; rw [aL]) | skip); have H' := Zq_.mk H; clear H
     go_wp2
     go_meet
     case rel => exact ⟨_, (false), eS_, H', ⟨by have := HJ5.out; first | omega | exact Nat.le_refl _⟩, ⟨by refine vM_ ?_; exact aJ.out⟩, ⟨by (with_reducible repeat (first | refine ql_ ?_ _ | refine qm_ ?_ | refine blk_alloc ?_ _)); exact aA.out⟩, ⟨by exact hSet_ HB⟩⟩
   case rest =>
    clear bY
    try clear c1
    try clear c2
    try clear p2
    try clear p6
    try clear c9
    try clear c10
    try clear c13
    try clear aL
    try clear bK
    try clear c14
    try clear bO
    try clear bN
    try clear bC
    try clear bB
    try clear bA
    try clear aZ
    try clear aY
    try clear aX
    try clear aW
    try clear aV
    try clear aU
    try clear aT
    try clear aS
    try clear aR
    try clear p2
    obtain ⟨kq, aQ, rfl, HA, bM, aJ, aA, HB⟩ := hcut
    cases kq with
    | zero => exact absurd HA.out (by simp [ref14_Round.j1])
    | succ kj11 =>
     have H := HA.out; clear HA; simp only [ref14_Round.j1] at H; have bX := Zq_.mk H; clear H
     go_upto_if 41 with (fail)
     go_cut [9] (fun v9 wc => ∃ (kq : Nat) (aK : List Int), Zq_ (ref14_Round.j2 kq l0 l2 aK aM bD aE aF aG = some r) ∧ Zq_ (kq ≤ kj11) ∧ Zq_ (Kd.V (Kd.int .i64) 3 wc w.heap.size (fun k_ => (w.heap.size ≤ k_) ∧ k_ ≠ aH) v9 aK) ∧ Zq_ (wc.heap[aH]? = some (.cells #[.int .u32 aE, .int .u32 aF, .int .u32 aG] 26 (0, 0))) ∧ Zq_ (Below w.heap.size w wc))
     case first =>
      have H := bX.out; clear bX
      by_cases c17 : aQ = true
      ·subst c17
       rw [if_pos rfl] at H; replace H := ob_ H; obtain ⟨⟨bV, t108⟩, cI, H⟩ := H; (try dsimp only at H); have A18 := Zq_.mk cI; clear cI; replace H := ob_ H; obtain ⟨bP, cH, H⟩ := H; (try dsimp only at H); have A19 := Zq_.mk cH; clear cH; have H' := Zq_.mk H; clear H; obtain ⟨bJ, bI, bH⟩ := c3_ aA; obtain ⟨bG, bF, bE⟩ := f3_ aA
       go_wp2_with (first | ((with_reducible refine qk_ (f := 10) rfl ?_); refine goesL_ (some 46) rfl rfl Try.func10 (by kernel_rfl) rfl #[.slice A1 l1.length c1, .int .u32 aF] rfl aR_ ?_; (with_reducible refine (ref14_One.calls _ _ l1 aF bV t108 _ ?side1 ?side2 A18.out).mono ?_); (case side1 => exact cX_ (Kd.qe_ HR1.out HB.out)); (case side2 => exact HC1.out); rintro e w' ⟨rfl, ⟨nd, rfl⟩⟩; refine ⟨_, rfl, ?_⟩; obtain ⟨Ao21, co21, eo21⟩ := Kd.V_slice aJ.out; subst eo21) | ((with_reducible refine qk_ (f := 21) rfl ?_); refine goesL_ (some 51) rfl rfl Try.func21 (by kernel_rfl) rfl #[.slice Ao21 aO.length co21, .int .i64 bV] rfl aR_ ?_; (with_reducible refine (ref14_add.calls kj11 (fun k_ => ((w.heap.size ≤ k_) ∧ k_ ≠ aH)) _ _ aO bV bP _ ?side1 A19.out).mono ?_); (case side1 => exact aJ.out); rintro e w22 ⟨v110, rfl, ho0, hb⟩; refine ⟨_, rfl, ?_⟩; replace aJ := vV_ Kd.V_below aJ hb; have cC := Zq_.mk (Kd.V_lower (Kd.V_mono (ok' := fun k_ => (w.heap.size ≤ k_) ∧ k_ ≠ aH) ho0 (fun k_ hk_ => ⟨Or.elim hk_ (fun hs_ => hs_.1) (fun hn_ => (Nat.le_trans (qa_ (by exact hSet_ HB)) hn_)), Or.elim hk_ (fun hs_ => hs_.2) (fun hn_ => (Kd.freshB (g := aH) (o := .cells #[.int .u32 aE, .int .u32 aF, .int .u32 aG] 26 (0, 0)) (by exact bK_ aA) k_ hn_))⟩)) (qa_ (by exact hSet_ HB))); replace aA := kB_ aA hb; replace HB := sB_ HB hb; (try clear hb); (try clear ho0)))
       go_meet
       case rel => exact ⟨_, (bP), H', ⟨by have := HJ5.out; have := bM.out; first | omega | exact Nat.le_refl _⟩, ⟨by refine vM_ ?_; exact cC.out⟩, ⟨by (with_reducible repeat (first | refine ql_ ?_ _ | refine qm_ ?_ | refine blk_alloc ?_ _)); exact aA.out⟩, ⟨by exact hSet_ HB⟩⟩
      ·replace c17 := Bool.eq_false_iff.mpr c17; subst c17
       have H1 : (ref14_Round.j2 kj11 l0 l2 aO aM bD aE aF aG) = some r := by rw [if_neg (show ¬ (false = true) by decide)] at H; exact H
       clear H; have H := H1; clear H1; have H' := Zq_.mk H; clear H
       go_wp2
       go_meet
       case rel => exact ⟨_, (aO), H', ⟨by have := HJ5.out; have := bM.out; first | omega | exact Nat.le_refl _⟩, ⟨by refine vM_ ?_; exact aJ.out⟩, ⟨by (with_reducible repeat (first | refine ql_ ?_ _ | refine qm_ ?_ | refine blk_alloc ?_ _)); exact aA.out⟩, ⟨by exact hSet_ HB⟩⟩
     case rest =>
      clear bX
      try clear c1
      try clear c2
      try clear p2
      try clear p6
      try clear c9
      try clear c10
      try clear c13
      try clear aL
      try clear bK
      try clear c14
      try clear bO
      try clear bN
      try clear c17
      try clear c21
      try clear bC
      try clear bB
      try clear bA
      try clear bJ
      try clear bI
      try clear bH
      try clear aZ
      try clear aY
      try clear aX
      try clear aW
      try clear aV
      try clear aU
      try clear bG
      try clear bF
      try clear bE
      try clear aT
      try clear aS
      try clear aR
      try clear p2
      try clear p6
      obtain ⟨kq, aK, HA, bQ, aJ, aA, HB⟩ := hcut
      cases kq with
      | zero => exact absurd HA.out (by simp [ref14_Round.j2])
      | succ kj15 =>
       have H := HA.out; clear HA; simp only [ref14_Round.j2] at H; have bW := Zq_.mk H; clear H
       go_upto_region 8 with (fail)
       go_cut [71] (fun v71 wc => ∃ (kq : Nat) (aP : Bool), v71 = .bool aP ∧ Zq_ (ref14_Round.j3 kq l2 aK aP aE aF aG = some r) ∧ Zq_ (kq ≤ kj15) ∧ Zq_ (Kd.V (Kd.int .i64) 3 wc w.heap.size (fun k_ => (w.heap.size ≤ k_) ∧ k_ ≠ aH) u9 aK) ∧ Zq_ (wc.heap[aH]? = some (.cells #[.int .u32 aE, .int .u32 aF, .int .u32 aG] 26 (0, 0))) ∧ Zq_ (Below w.heap.size w wc))
       case first =>
        have H := bW.out; clear bW
        by_cases c24 : (l2.length : Int) > 0
        ·rw [if_pos c24] at H; have aN : decide (0 < (l2.length : Int)) = true := decide_eq_true c24; have bR : decide (0 < l2.length) = true := decide_eq_true (by omega); clear c24; (first | rw [aN] | (simp only [i64_w, i32_w]; rw [aN]) | skip)
         by_cases c25 : bD = true
         ·subst c25
          rw [if_pos rfl] at H; replace H := ob_ H; obtain ⟨bU, cG, H⟩ := H; (try dsimp only at H); have A26 := Zq_.mk cG; clear cG
          by_cases c27 : bU = true
          ·subst c27
           rw [if_pos rfl] at H; have H' := Zq_.mk H; clear H
           go_wp2_with (first | (go_at_call 17; (with_reducible refine (ref14_Has.calls kj15 _ _ l2 aM true _ ?side1 ?side2 A26.out).mono ?_); (case side1 => exact cX_ (Kd.qe_ HR2.out HB.out)); (case side2 => exact HC2.out); rintro e w' ⟨rfl, ⟨nd, rfl⟩⟩))
           go_meet
           case rel => exact ⟨_, (decide ((l0.length : Int) < (l2.length : Int))), eS_, H', ⟨by have := HJ5.out; have := bM.out; have := bQ.out; first | omega | exact Nat.le_refl _⟩, ⟨by refine vM_ ?_; exact aJ.out⟩, ⟨by (with_reducible repeat (first | refine ql_ ?_ _ | refine qm_ ?_ | refine blk_alloc ?_ _)); exact aA.out⟩, ⟨by exact hSet_ HB⟩⟩
          ·replace c27 := Bool.eq_false_iff.mpr c27; subst c27
           have H1 : (ref14_Round.j3 kj15 l2 aK true aE aF aG) = some r := by rw [if_neg (show ¬ (false = true) by decide)] at H; exact H
           clear H; have H := H1; clear H1; have H' := Zq_.mk H; clear H
           go_wp2_with (first | (go_at_call 17; (with_reducible refine (ref14_Has.calls kj15 _ _ l2 aM false _ ?side1 ?side2 A26.out).mono ?_); (case side1 => exact cX_ (Kd.qe_ HR2.out HB.out)); (case side2 => exact HC2.out); rintro e w' ⟨rfl, ⟨nd, rfl⟩⟩))
           go_meet
           case rel => exact ⟨_, (true), eS_, H', ⟨by have := HJ5.out; have := bM.out; have := bQ.out; first | omega | exact Nat.le_refl _⟩, ⟨by refine vM_ ?_; exact aJ.out⟩, ⟨by (with_reducible repeat (first | refine ql_ ?_ _ | refine qm_ ?_ | refine blk_alloc ?_ _)); exact aA.out⟩, ⟨by exact hSet_ HB⟩⟩
         ·replace c25 := Bool.eq_false_iff.mpr c25; subst c25
          have H1 : (ref14_Round.j3 kj15 l2 aK true aE aF aG) = some r := by rw [if_neg (show ¬ (false = true) by decide)] at H; exact H
          clear H; have H := H1; clear H1; have H' := Zq_.mk H; clear H
          go_wp2
          go_meet
          case rel => exact ⟨_, (true), eS_, H', ⟨by have := HJ5.out; have := bM.out; have := bQ.out; first | omega | exact Nat.le_refl _⟩, ⟨by refine vM_ ?_; exact aJ.out⟩, ⟨by (with_reducible repeat (first | refine ql_ ?_ _ | refine qm_ ?_ | refine blk_alloc ?_ _)); exact aA.out⟩, ⟨by exact hSet_ HB⟩⟩
        ·rw [if_neg c24] at H; have aN : decide (0 < (l2.length : Int)) = false := decide_eq_false c24; have bR : decide (0 < l2.length) = false := decide_eq_false (by omega); clear c24; (first | rw [aN] | (simp only [i64_w, i32_w]; rw [aN]) | skip); have H' := Zq_.mk H; clear H
         go_wp2
         go_meet
         case rel => exact ⟨_, (false), eS_, H', ⟨by have := HJ5.out; have := bM.out; have := bQ.out; first | omega | exact Nat.le_refl _⟩, ⟨by refine vM_ ?_; exact aJ.out⟩, ⟨by (with_reducible repeat (first | refine ql_ ?_ _ | refine qm_ ?_ | refine blk_alloc ?_ _)); exact aA.out⟩, ⟨by exact hSet_ HB⟩⟩
       case rest =>
        clear bW
        try clear c1
        try clear c2
        try clear p2
        try clear p6
        try clear c9
        try clear c10
        try clear c13
        try clear aL
        try clear bK
        try clear c14
        try clear bO
        try clear bN
        try clear c17
        try clear c21
        try clear c24
        try clear aN
        try clear bR
        try clear c25
        try clear c27
        try clear bC
        try clear bB
        try clear bA
        try clear bJ
        try clear bI
        try clear bH
        try clear aZ
        try clear aY
        try clear aX
        try clear aW
        try clear aV
        try clear aU
        try clear bG
        try clear bF
        try clear bE
        try clear aT
        try clear aS
        try clear aR
        try clear p2
        try clear p6
        obtain ⟨kq, aP, rfl, HA, HJ22, aJ, aA, HB⟩ := hcut
        cases kq with
        | zero => exact absurd HA.out (by simp [ref14_Round.j3])
        | succ kj22 =>
         have H := HA.out; clear HA; simp only [ref14_Round.j3] at H
         by_cases c28 : aP = true
         ·subst c28
          rw [if_pos rfl] at H; replace H := ob_ H; obtain ⟨⟨bT, t114⟩, cF, H⟩ := H; (try dsimp only at H); have A29 := Zq_.mk cF; clear cF; replace H := ob_ H; obtain ⟨bS, cE, H⟩ := H; (try dsimp only at H); have A30 := Zq_.mk cE; clear cE; obtain rfl := Option.some.inj H; obtain ⟨hcz31_0, hcz31_1, hcz31_2⟩ := c3_ aA; obtain ⟨hfz31_0, hfz31_1, hfz31_2⟩ := f3_ aA
          go_wp2_with (first | ((with_reducible refine qk_ (f := 10) rfl ?_); refine goesL_ (some 76) rfl rfl Try.func10 (by kernel_rfl) rfl #[.slice A2 l2.length c2, .int .u32 aG] rfl aR_ ?_; (with_reducible refine (ref14_One.calls _ _ l2 aG bT t114 _ ?side1 ?side2 A29.out).mono ?_); (case side1 => exact cX_ (Kd.qe_ HR2.out HB.out)); (case side2 => exact HC2.out); rintro e w' ⟨rfl, ⟨nd, rfl⟩⟩; refine ⟨_, rfl, ?_⟩; obtain ⟨Ao32, co32, eo32⟩ := Kd.V_slice aJ.out; subst eo32) | ((with_reducible refine qk_ (f := 21) rfl ?_); refine goesL_ (some 81) rfl rfl Try.func21 (by kernel_rfl) rfl #[.slice Ao32 aK.length co32, .int .i64 bT] rfl aR_ ?_; (with_reducible refine (ref14_add.calls kj22 (fun k_ => ((w.heap.size ≤ k_) ∧ k_ ≠ aH)) _ _ aK bT bS _ ?side1 A30.out).mono ?_); (case side1 => exact aJ.out); rintro e w33 ⟨v116, rfl, ho0, hb⟩; refine ⟨_, rfl, ?_⟩; replace aJ := vV_ Kd.V_below aJ hb; have cB := Zq_.mk (Kd.V_lower (Kd.V_mono (ok' := fun k_ => (w.heap.size ≤ k_) ∧ k_ ≠ aH) ho0 (fun k_ hk_ => ⟨Or.elim hk_ (fun hs_ => hs_.1) (fun hn_ => (Nat.le_trans (qa_ (by exact hSet_ HB)) hn_)), Or.elim hk_ (fun hs_ => hs_.2) (fun hn_ => (Kd.freshB (g := aH) (o := .cells #[.int .u32 aE, .int .u32 aF, .int .u32 aG] 26 (0, 0)) (by exact bK_ aA) k_ hn_))⟩)) (qa_ (by exact hSet_ HB))); replace aA := kB_ aA hb; replace HB := sB_ HB hb; (try clear hb); (try clear ho0)))
          go_ret
          exact ⟨_, by exact eW_, by refine vM_ ?_; exact Kd.V_mono cB.out (fun _ hk => hk.1), by exact hSet_ HB⟩
         ·replace c28 := Bool.eq_false_iff.mpr c28; subst c28
          have H1 : (some aK) = some r := by rw [if_neg (show ¬ (false = true) by decide)] at H; exact H
          clear H; have H := H1; clear H1; obtain rfl := Option.some.inj H
          go_wp2
          go_ret
          exact ⟨_, by exact eW_, by refine vM_ ?_; exact Kd.V_mono aJ.out (fun _ hk => hk.1), by exact hSet_ HB⟩
end Go.Proofs.Ytjlemkdilbnmlaa.P

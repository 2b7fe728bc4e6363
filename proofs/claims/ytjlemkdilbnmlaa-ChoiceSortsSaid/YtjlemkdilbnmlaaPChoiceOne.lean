/- What printed functions come to, and that the machine's calls do it. No condition. -/
import Derived.Test.YtjlemkdilbnmlaaP0
import Derived.Test.YtjlemkdilbnmlaaHw
import Derived.Test.YtjlemkdilbnmlaaSh14
namespace Go.Proofs.Ytjlemkdilbnmlaa.P
set_option maxHeartbeats 16000000
set_option maxRecDepth 100000
open Go.RowKit Go.Proofs.YtjlemkdilbnmlaaW.PrintWords Go.Proofs.YtjlemkdilbnmlaaW.PrintLast Go.Proofs.YtjlemkdilbnmlaaW.PrintMore
attribute [local go_sem] max2_int min2_int max_two min_two max_three min_three max_four min_four Go.Proofs.YtjlemkdilbnmlaaW.Hw.string_gtr
set_option linter.unusedVariables false
set_option linter.unusedSimpArgs false
def choice_One.f (l0 : List Int) (a1 : Int) : Option (Int × Bool) := if (l0.length : Int) = 0 then (some (0, false)) else (if (IntKind.u64.wrap ((l0.length : Int))) = 0 then (none) else (if 0 ≤ (Int.tmod (IntKind.u64.wrap (a1)) (IntKind.u64.wrap ((l0.length : Int)))) then (if (Int.tmod (IntKind.u64.wrap (a1)) (IntKind.u64.wrap ((l0.length : Int)))) < (l0.length : Int) then (some (rd l0 (Int.tmod (IntKind.u64.wrap (a1)) (IntKind.u64.wrap ((l0.length : Int)))), true)) else (none)) else (none)))
theorem choice_One.calls (A0 : Option Addr) (c0 : Nat) (l0 : List Int) (a1 : Int) (r1 : Int) (r2 : Bool) (w : World) (hr0 : Kd.C (Kd.int .i64) w A0 l0.length l0) (hc0 : l0.length ≤ c0) (h : choice_One.f l0 a1 = some (r1, r2)) :
  Calls Try.prog 9 #[.slice A0 l0.length c0, .int .u32 a1] w fun e w' => e = .returned (.tuple #[.int .i64 r1, .bool r2]) ∧ Drawn0 w w' := by
 have HR0 := Zq_.mk hr0; have HC0 := Zq_.mk hc0; clear hr0 hc0; have H : (if (l0.length : Int) = 0 then (some (0, false)) else (if (IntKind.u64.wrap ((l0.length : Int))) = 0 then (none) else (if 0 ≤ (Int.tmod (IntKind.u64.wrap (a1)) (IntKind.u64.wrap ((l0.length : Int)))) then (if (Int.tmod (IntKind.u64.wrap (a1)) (IntKind.u64.wrap ((l0.length : Int)))) < (l0.length : Int) then (some (rd l0 (Int.tmod (IntKind.u64.wrap (a1)) (IntKind.u64.wrap ((l0.length : Int)))), true)) else (none)) else (none)))) = some (r1, r2) := h; clear h
 by_cases c3 : (l0.length : Int) = 0
 ·rw [if_pos c3] at H; have c3b0 : ((l0.length : Int) == 0) = true := beq_iff_eq.mpr c3; have c3b1 : ((l0.length : Int) != 0) = false := bne_eq_false_iff_eq.mpr c3; clear c3; simp only [Option.some.injEq, Prod.mk.injEq] at H; obtain ⟨rfl, rfl⟩ := H
  go_enter Try.func9, Try.ntmps9
  go_wp2
  go_ret2
  exact ⟨by first | rfl | (simp; done) | (simp [*]; done), by repeat (first | exact Drawn0.refl _ | apply Drawn0.step)⟩
 ·rw [if_neg c3] at H; have c3b0 : ((l0.length : Int) == 0) = false := beq_eq_false_iff_ne.mpr c3; have c3b1 : ((l0.length : Int) != 0) = true := bne_iff_ne.mpr c3
  have c3b2 : ¬ (l0 = []) := fun h_ => c3 (by rw [h_]; rfl)
  by_cases c4 : (IntKind.u64.wrap ((l0.length : Int))) = 0
  ·rw [if_pos c4] at H; exact absurd H (by simp)
  ·rw [if_neg c4] at H; have c4b0 : ((IntKind.u64.wrap ((l0.length : Int))) == 0) = false := beq_eq_false_iff_ne.mpr c4; have c4b1 : ((IntKind.u64.wrap ((l0.length : Int))) != 0) = true := bne_iff_ne.mpr c4; obtain ⟨ji5, aC⟩ : ∃ j_ : Int, (Int.tmod (IntKind.u64.wrap (a1)) (IntKind.u64.wrap ((l0.length : Int)))) = j_ := ⟨_, rfl⟩
   replace H : (if 0 ≤ (ji5) then (if (ji5) < (l0.length : Int) then (some (rd l0 (ji5), true)) else (none)) else (none)) = some (r1, r2) := by first | (rw [aC] at H; exact H) | (simp only [aC] at H ⊢; exact H)
   by_cases c6 : 0 ≤ (ji5)
   ·rw [if_pos c6] at H; have c6b0 : decide (0 ≤ (ji5)) = true := decide_eq_true c6; clear c6
    by_cases c7 : (ji5) < (l0.length : Int)
    ·rw [if_pos c7] at H; have c7b0 : decide ((ji5) < (l0.length : Int)) = true := decide_eq_true c7; clear c7; simp only [Option.some.injEq, Prod.mk.injEq] at H; obtain ⟨rfl, rfl⟩ := H; have aB : 0 ≤ ((ji5) : Int) := dA_; have aA : (ji5) < (l0.length : Int) := dA_; obtain ⟨ad101, e101, hx101_0⟩ := Kd.at_int HR0.out (ji5) aB aA; cases e101; replace aB := eq_true aB; replace aA := eq_true aA
     go_enter Try.func9, Try.ntmps9
     go_wp2
     go_ret2
     exact ⟨by first | rfl | (simp; done) | (simp only [← aC] <;> (first | rfl | simp)) | (simp [*]; done), by repeat (first | exact Drawn0.refl _ | apply Drawn0.step)⟩
    ·rw [if_neg c7] at H; exact absurd H (by simp)
   ·rw [if_neg c6] at H; exact absurd H (by simp)
def law14_great.f (aC : List Int) (aB : List Int) (aA : List Int) : Option (Bool) := some (decide ((wrap64 ((wrap64 ((aC.length : Int) + (aB.length : Int))) + (aA.length : Int))) > 200))
theorem law14_great.calls (aP : Option Addr) (aM : Nat) (aC : List Int) (aO : Option Addr) (aL : Nat) (aB : List Int) (aN : Option Addr) (aK : Nat) (aA : List Int) (r : Bool) (w : World) (aF : Kd.C (Kd.int .i64) w aP aC.length aC) (aI : aC.length ≤ aM) (aE : Kd.C (Kd.int .i64) w aO aB.length aB) (aH : aB.length ≤ aL) (aD : Kd.C (Kd.int .i64) w aN aA.length aA) (aG : aA.length ≤ aK) (h : law14_great.f aC aB aA = some r) :
  Calls Try.prog 8 #[.agg #[.slice aP aC.length aM, .slice aO aB.length aL, .slice aN aA.length aK]] w fun e w' => e = .returned (.bool r) ∧ Below w.heap.size w w' := by
 have hu24 := Try.underlying24; have HR0_0 := Zq_.mk aF; have HC0_0 := Zq_.mk aI; clear aF aI; have HR0_1 := Zq_.mk aE; have HC0_1 := Zq_.mk aH; clear aE aH; have HR0_2 := Zq_.mk aD; have HC0_2 := Zq_.mk aG; clear aD aG; have HB := Zq_.mk (Below.refl w.heap.size w); have H : (some (decide ((wrap64 ((wrap64 ((aC.length : Int) + (aB.length : Int))) + (aA.length : Int))) > 200))) = some r := h; clear h; obtain rfl := Option.some.inj H
 go_enter Try.func8, Try.ntmps8
 go_wp2_with (first | ((with_reducible refine gate_dst (N := 1) rfl ?_); refine bE_ 1 #[.slice aP aC.length aM, .slice aO aB.length aL, .slice aN aA.length aK] 24 ?_; intro gb101 hg w2 hbox hb; have aJ := Zq_.mk (hbox); have GW101 := gW_ (w := w) hg (hB_ HB); have GE101 := gW_ (w := w) hg (hB_ HB); replace HB := sB_ HB hb; clear hb hbox hg; obtain ⟨hcz3_0, hcz3_1, hcz3_2⟩ := c3_ aJ; obtain ⟨hfz3_0, hfz3_1, hfz3_2⟩ := f3_ aJ))
 go_ret
 exact ⟨by exact eW_, by exact hSet_ HB⟩
def ref06_Ints.l0 : Nat → List Int → List Int → Int → Option (Bool)
 | 0, _, _, _ => none
 | k + 1, x0, x1, x5 => if x5 < (x0.length : Int) then (if 0 ≤ x5 then (if x5 < (x1.length : Int) then (if (rd x0 x5) = (rd x1 x5) then (ref06_Ints.l0 k x0 x1 (wrap64 (x5 + 1))) else (some false)) else (none)) else (none)) else (some true)
def ref06_Ints.f (k : Nat) (l0 : List Int) (l1 : List Int) : Option (Bool) := if (l0.length : Int) = (l1.length : Int) then (ref06_Ints.l0 k l0 l1 0) else (some false)
theorem ref06_Ints.mono_l : ∀ k, (∀ y0 y1 y2, LeO (ref06_Ints.l0 k y0 y1 y2) (ref06_Ints.l0 (k + 1) y0 y1 y2))
 | 0 => fun _ _ _ r h => by simp [ref06_Ints.l0] at h
 | k + 1 => by
  have ih0 := ref06_Ints.mono_l k
  ·intro y0 y1 y2
   unfold ref06_Ints.l0
   with_reducible repeat' first | exact ih0 _ _ _ | exact LeO.refl _ | exact LeO.none _ | refine LeO.ite ?_ ?_ | refine LeO.bind ?_ (fun _ => ?_)
theorem ref06_Ints.mono : ∀ a0 a1 k, LeO (ref06_Ints.f k a0 a1) (ref06_Ints.f (k + 1) a0 a1) := by
 intro a0 a1 k; have ih0 := ref06_Ints.mono_l k
 unfold ref06_Ints.f
 with_reducible repeat' first | exact ih0 _ _ _ | exact LeO.refl _ | exact LeO.none _ | refine LeO.ite ?_ ?_ | refine LeO.bind ?_ (fun _ => ?_)
theorem ref06_Ints.calls (k : Nat) (A0 : Option Addr) (c0 : Nat) (l0 : List Int) (A1 : Option Addr) (c1 : Nat) (l1 : List Int) (r : Bool) (w : World) (hr0 : Kd.C (Kd.int .i64) w A0 l0.length l0) (hc0 : l0.length ≤ c0) (hr1 : Kd.C (Kd.int .i64) w A1 l1.length l1) (hc1 : l1.length ≤ c1) (h : ref06_Ints.f k l0 l1 = some r) :
  Calls Try.prog 11 #[.slice A0 l0.length c0, .slice A1 l1.length c1] w fun e w' => e = .returned (.bool r) ∧ Drawn0 w w' := by
 have HR0 := Zq_.mk hr0; have HC0 := Zq_.mk hc0; clear hr0 hc0; have HR1 := Zq_.mk hr1; have HC1 := Zq_.mk hc1; clear hr1 hc1; have H : (if (l0.length : Int) = (l1.length : Int) then (ref06_Ints.l0 k l0 l1 0) else (some false)) = some r := h; clear h
 by_cases c3 : (l0.length : Int) = (l1.length : Int)
 ·rw [if_pos c3] at H; have aL : ((l0.length : Int) == (l1.length : Int)) = true := beq_iff_eq.mpr c3; have aK : ((l0.length : Int) != (l1.length : Int)) = false := bne_eq_false_iff_eq.mpr c3
  have aJ : (l0.length == l1.length) = true := by first | simpa using c3 | (simp at c3 ⊢; omega)
  clear c3; have H' := Zq_.mk H; clear H
  go_enter Try.func11, Try.ntmps11
  go_wp2
  repeat (go_quiet (fail); try go_wp2)
  go_loopg [5] k (fun kq v5 w' => ∃ (aA : Int), v5 = .int .i64 aA ∧ Zq_ (ref06_Ints.l0 kq l0 l1 aA = some r) ∧ Zq_ (kq ≤ k) ∧ Drawn0 w w')
  case atStart => exact ⟨(0), eS_, H', ⟨Nat.le_refl _⟩, by repeat (first | exact Drawn0.refl _ | apply Drawn0.step)⟩
  case round =>
   clear H'
   try clear c1
   try clear p2
   try clear c3
   try clear aL
   try clear aK
   try clear aJ
   obtain ⟨aA, rfl, HA, HK1, ⟨m1, rfl⟩⟩ := hrel
   cases gk with
   | zero => exact absurd HA.out (by simp [ref06_Ints.l0])
   | succ k1 =>
    have H := HA.out; clear HA; simp only [ref06_Ints.l0] at H
    by_cases c4 : aA < (l0.length : Int)
    ·rw [if_pos c4] at H; have c4b0 : decide (aA < (l0.length : Int)) = true := decide_eq_true c4; clear c4
     by_cases c5 : 0 ≤ aA
     ·rw [if_pos c5] at H; have c5b0 : decide (0 ≤ aA) = true := decide_eq_true c5; clear c5
      by_cases c6 : aA < (l1.length : Int)
      ·rw [if_pos c6] at H; have c6b0 : decide (aA < (l1.length : Int)) = true := decide_eq_true c6; clear c6
       by_cases c7 : (rd l0 aA) = (rd l1 aA)
       ·rw [if_pos c7] at H; have c7b0 : ((rd l0 aA) == (rd l1 aA)) = true := beq_iff_eq.mpr c7; have c7b1 : ((rd l0 aA) != (rd l1 aA)) = false := bne_eq_false_iff_eq.mpr c7; clear c7; have H' := Zq_.mk H; clear H; have aE : 0 ≤ (aA : Int) := dA_; have aC : aA < (l0.length : Int) := dA_; obtain ⟨aN, aI, aG⟩ := Kd.at_int HR0.out aA aE aC; cases aI; replace aE := eq_true aE; replace aC := eq_true aC; have aD : 0 ≤ (aA : Int) := dA_; have aB : aA < (l1.length : Int) := dA_; obtain ⟨aM, aH, aF⟩ := Kd.at_int HR1.out aA aD aB; cases aH; replace aD := eq_true aD; replace aB := eq_true aB
        go_wp2
        repeat (go_quiet (fail); try go_wp2)
        go_roundg k1
        case measure => have := HK1.out; omega
        case rel => exact ⟨(wrap64 (aA + 1)), eS_, H', ⟨by have := HK1.out; omega⟩, by repeat (first | exact Drawn0.refl _ | apply Drawn0.step)⟩
       ·rw [if_neg c7] at H; have c7b0 : ((rd l0 aA) == (rd l1 aA)) = false := beq_eq_false_iff_ne.mpr c7; have c7b1 : ((rd l0 aA) != (rd l1 aA)) = true := bne_iff_ne.mpr c7; obtain rfl := Option.some.inj H; have aE : 0 ≤ (aA : Int) := dA_; have aC : aA < (l0.length : Int) := dA_; obtain ⟨aN, aI, aG⟩ := Kd.at_int HR0.out aA aE aC; cases aI; replace aE := eq_true aE; replace aC := eq_true aC; have aD : 0 ≤ (aA : Int) := dA_; have aB : aA < (l1.length : Int) := dA_; obtain ⟨aM, aH, aF⟩ := Kd.at_int HR1.out aA aD aB; cases aH; replace aD := eq_true aD; replace aB := eq_true aB
        go_wp2
        repeat (go_quiet (fail); try go_wp2)
        go_ret
        exact ⟨by first | rfl | (simp; done) | (simp [*]; done), by repeat (first | exact Drawn0.refl _ | apply Drawn0.step)⟩
      ·rw [if_neg c6] at H; exact absurd H (by simp)
     ·rw [if_neg c5] at H; exact absurd H (by simp)
    ·rw [if_neg c4] at H; have c4b0 : decide (aA < (l0.length : Int)) = false := decide_eq_false c4; clear c4; obtain rfl := Option.some.inj H
     go_wp2
     repeat (go_quiet (fail); try go_wp2)
     go_ret
     exact ⟨by first | rfl | (simp; done) | (simp [*]; done), by repeat (first | exact Drawn0.refl _ | apply Drawn0.step)⟩
 ·rw [if_neg c3] at H; have aL : ((l0.length : Int) == (l1.length : Int)) = false := beq_eq_false_iff_ne.mpr c3; have aK : ((l0.length : Int) != (l1.length : Int)) = true := bne_iff_ne.mpr c3
  have aJ : (l0.length == l1.length) = false := by first | simpa using c3 | (simp at c3 ⊢; omega)
  obtain rfl := Option.some.inj H
  go_enter Try.func11, Try.ntmps11
  go_wp2
  repeat (go_quiet (fail); try go_wp2)
  go_ret
  exact ⟨by first | rfl | (simp; done) | (simp [*]; done), by repeat (first | exact Drawn0.refl _ | apply Drawn0.step)⟩
def ref14_Has.l0 : Nat → List Int → Int → Int → Option (Bool)
 | 0, _, _, _ => none
 | k + 1, x0, x1, x5 => if x5 < (x0.length : Int) then (if 0 ≤ x5 then (if (rd x0 x5) = x1 then (some true) else (ref14_Has.l0 k x0 x1 (wrap64 (x5 + 1)))) else (none)) else (some false)
def ref14_Has.f (k : Nat) (l0 : List Int) (a1 : Int) : Option (Bool) := ref14_Has.l0 k l0 a1 0
theorem ref14_Has.mono_l : ∀ k, (∀ y0 y1 y2, LeO (ref14_Has.l0 k y0 y1 y2) (ref14_Has.l0 (k + 1) y0 y1 y2))
 | 0 => fun _ _ _ r h => by simp [ref14_Has.l0] at h
 | k + 1 => by
  have ih0 := ref14_Has.mono_l k
  ·intro y0 y1 y2
   unfold ref14_Has.l0
   with_reducible repeat' first | exact ih0 _ _ _ | exact LeO.refl _ | exact LeO.none _ | refine LeO.ite ?_ ?_ | refine LeO.bind ?_ (fun _ => ?_)
theorem ref14_Has.mono : ∀ a0 a1 k, LeO (ref14_Has.f k a0 a1) (ref14_Has.f (k + 1) a0 a1) := by
 intro a0 a1 k; have ih0 := ref14_Has.mono_l k
 unfold ref14_Has.f
 with_reducible repeat' first | exact ih0 _ _ _ | exact LeO.refl _ | exact LeO.none _ | refine LeO.ite ?_ ?_ | refine LeO.bind ?_ (fun _ => ?_)
theorem ref14_Has.calls (k : Nat) (A0 : Option Addr) (c0 : Nat) (l0 : List Int) (a1 : Int) (r : Bool) (w : World) (hr0 : Kd.C (Kd.int .i64) w A0 l0.length l0) (hc0 : l0.length ≤ c0) (h : ref14_Has.f k l0 a1 = some r) :
  Calls Try.prog 17 #[.slice A0 l0.length c0, .int .i64 a1] w fun e w' => e = .returned (.bool r) ∧ Drawn0 w w' := by
 have HR0 := Zq_.mk hr0; have HC0 := Zq_.mk hc0; clear hr0 hc0; have H : (ref14_Has.l0 k l0 a1 0) = some r := h; clear h; have H' := Zq_.mk H; clear H
 go_enter Try.func17, Try.ntmps17
 go_wp2
 go_loopg [5] k (fun kq v5 w' => ∃ (aA : Int), v5 = .int .i64 aA ∧ Zq_ (ref14_Has.l0 kq l0 a1 aA = some r) ∧ Zq_ (kq ≤ k) ∧ Drawn0 w w')
 case atStart => exact ⟨(0), eS_, H', ⟨Nat.le_refl _⟩, by repeat (first | exact Drawn0.refl _ | apply Drawn0.step)⟩
 case round =>
  clear H'
  try clear c1
  try clear p2
  obtain ⟨aA, rfl, HA, HK1, ⟨m1, rfl⟩⟩ := hrel
  cases gk with
  | zero => exact absurd HA.out (by simp [ref14_Has.l0])
  | succ k1 =>
   have H := HA.out; clear HA; simp only [ref14_Has.l0] at H
   by_cases c3 : aA < (l0.length : Int)
   ·rw [if_pos c3] at H; have c3b0 : decide (aA < (l0.length : Int)) = true := decide_eq_true c3; clear c3
    by_cases c4 : 0 ≤ aA
    ·rw [if_pos c4] at H; have c4b0 : decide (0 ≤ aA) = true := decide_eq_true c4; clear c4
     by_cases c5 : (rd l0 aA) = a1
     ·rw [if_pos c5] at H; have c5b0 : ((rd l0 aA) == a1) = true := beq_iff_eq.mpr c5; have c5b1 : ((rd l0 aA) != a1) = false := bne_eq_false_iff_eq.mpr c5; clear c5; obtain rfl := Option.some.inj H; have aC : 0 ≤ (aA : Int) := dA_; have aB : aA < (l0.length : Int) := dA_; obtain ⟨aF, aE, aD⟩ := Kd.at_int HR0.out aA aC aB; cases aE; replace aC := eq_true aC; replace aB := eq_true aB
      go_wp2
      go_ret
      exact ⟨by first | rfl | (simp; done) | (simp [*]; done), by repeat (first | exact Drawn0.refl _ | apply Drawn0.step)⟩
     ·rw [if_neg c5] at H; have c5b0 : ((rd l0 aA) == a1) = false := beq_eq_false_iff_ne.mpr c5; have c5b1 : ((rd l0 aA) != a1) = true := bne_iff_ne.mpr c5; have H' := Zq_.mk H; clear H; have aC : 0 ≤ (aA : Int) := dA_; have aB : aA < (l0.length : Int) := dA_; obtain ⟨aF, aE, aD⟩ := Kd.at_int HR0.out aA aC aB; cases aE; replace aC := eq_true aC; replace aB := eq_true aB
      go_wp2
      go_roundg k1
      case measure => have := HK1.out; omega
      case rel => exact ⟨(wrap64 (aA + 1)), eS_, H', ⟨by have := HK1.out; omega⟩, by repeat (first | exact Drawn0.refl _ | apply Drawn0.step)⟩
    ·rw [if_neg c4] at H; exact absurd H (by simp)
   ·rw [if_neg c3] at H; have c3b0 : decide (aA < (l0.length : Int)) = false := decide_eq_false c3; clear c3; obtain rfl := Option.some.inj H
    go_wp2
    go_ret
    exact ⟨by first | rfl | (simp; done) | (simp [*]; done), by repeat (first | exact Drawn0.refl _ | apply Drawn0.step)⟩
def slices_Clone_int_int.f (l0 : List Int) : Option (List Int) := if l0.length < 17592186044416 then some l0 else none
open Go.Proofs.YtjlemkdilbnmlaaW.Hw in
theorem slices_Clone_int_int.calls (A0 : Option Addr) (c0 : Nat) (l0 : List Int) (r : List Int) (w : World) (hr0 : Kd.C (Kd.int .i64) w A0 l0.length l0) (hc0 : l0.length ≤ c0) (h : slices_Clone_int_int.f l0 = some r) :
  Calls Try.prog 23 #[.slice A0 l0.length c0] w fun e w' => ∃ v0_ : Value, e = .returned v0_ ∧ Kd.R (Kd.int .i64) 3 w' w.heap.size (fun _ => True) v0_ r ∧ Below w.heap.size w w' := by
 unfold slices_Clone_int_int.f at h
 by_cases hl : l0.length < 17592186044416
 case neg => rw [if_neg hl] at h; cases h
 rw [if_pos hl] at h; obtain rfl := Option.some.inj h; clear h; have LM := Zq_.mk hl; clear hl
 have hnil : ∀ (W : World) (a : Option Addr) (n c n' c' : Nat), (binOp .eql 22 (.slice a n c) (.slice none n' c')).run Try.prog W = .ok (.bool a.isNone) W := fun W a n c n' c' => Lib.run_eql_slice_nil W _ _ a n c n' c' Try.underlying22
 have HB := Zq_.mk (Below.refl w.heap.size w)
 cases A0 with
 | none =>
  have e0 : l0 = [] := by
   rcases Nat.eq_zero_or_pos l0.length with e | e
   ·exact List.eq_nil_of_length_eq_zero e
   ·obtain ⟨ad, e1, _⟩ := hr0.2.2 e; cases e1
  subst e0; clear hr0 hc0 LM
  go_enter Try.func23, Try.ntmps23
  go_wp2
  go_ret
  exact ⟨_, rfl, Kd.R_nil _ _ _ _ _, Below.refl _ _⟩
 | some ad =>
  have HR := Zq_.mk hr0; have HC := Zq_.mk hc0; clear hr0 hc0
  go_enter Try.func23, Try.ntmps23
  go_wp2_with (first
   | ((with_reducible refine gate_dst (N := 5) rfl ?_); refine Kd.R_lit (Kd.int .i64) _ 3 ?hg (N := 5) ?hd (xs := ([] : List Int)) (inner := []) (ok := fun _ => True) (okp := fun _ => True) ?hr ?hp (fun _ hk => hk) trivial (Below.refl _ _) (Nat.le_refl _) (by simp) ?_; (case hd => rfl); (case hg => rfl); (case hr => first | (go_simp; done) | (go_simp; rfl)); (case hp => exact (Reps.none _ _)); intro v5 w5 ho hb hg_ hnew_; clear hg_ hnew_; have HO := Zq_.mk (Kd.R_lower ho (qa_ (hB_ HB))); replace HB := sB_ HB hb; clear hb ho)
   | ((with_reducible refine gate_builtin (b := .append) (xs := #[.tmp 5, .tmp 6]) rfl ?_); at_builtin; refine Kd.R_append_rows (Kd.int .i64) (w0 := w) w.heap.size rfl (.tmp 5) (.tmp 6) 22 3 (.int .i64 0) 8 rfl Try.underlying22 info3 rfl (by decide) (by omega) v5 ([] : List Int) l0 _ _ _ (fun _ => True) (fun _ => False) rfl rfl ?aO ?aR (fun _ _ h => h) (fun _ h => h.elim) ?aF ?aB ?aS ?aL ?_; (case aR => exact cX_ (Kd.C_below HR.out HB.out)); (case aB => exact (hB_ HB)); (case aF => exact (fun _ _ => trivial)); (case aO => exact (vX_ HO)); (case aS => exact (qa_ (hB_ HB))); (case aL => have := LM.out; simp only [List.length_nil]; omega); intro v7 w9 ho hb hg hat; rw [List.nil_append] at ho; replace HB := Zq_.mk hb; replace HO := Zq_.mk ho; clear ho hb hg hat))
  go_ret
  exact ⟨_, rfl, by (with_reducible repeat (first | apply Kd.R_alloc | apply Kd.R_drewN | apply Kd.R_drew)); exact HO.out, (hB_ HB)⟩
open Go.Proofs.YtjlemkdilbnmlaaW.Hw in
theorem IndexFuncI.calls (p : Int → Bool) (g : Nat) (lb : Array Value) (eg : ∀ args w, (callFunc g args).run Try.prog w = .ok (.enter g args) w) (A0 : Option Addr) (c0 : Nat) (l0 : List Int) (w : World)
  (hp : PredI Try.prog g lb p w) (hr0 : Kd.C (Kd.int .i64) w A0 l0.length l0) :
  Calls Try.prog 29 #[.slice A0 l0.length c0, .func (.func g) #[] lb] w fun e w' => e = .returned (.int .i64 (idxI p l0)) ∧ Below w.heap.size w w' := by
 have HR := Zq_.mk hr0; have HP := Zq_.mk hp; have HM := Zq_.mk (Kd.C_max hr0); clear hr0 hp; have HB := Zq_.mk (Below.refl w.heap.size w)
 go_enter Try.func29, Try.ntmps29
 go_wp2
 go_loopg [5, 8] l0.length (fun gg _ s8 wr => ∃ i : Int, s8 = .int .i64 i ∧ Zq_ (0 ≤ i ∧ i ≤ (l0.length : Int) ∧ l0.length - i.toNat ≤ gg) ∧ Zq_ (Below w.heap.size w wr) ∧ Zq_ (∀ j, j < i.toNat → p (l0.getD j 0) = false))
 case atStart => exact ⟨0, rfl, ⟨by omega⟩, HB, ⟨fun j hj => absurd hj (Nat.not_lt_zero _)⟩⟩
 case round =>
  obtain ⟨i, rfl, HI, BW, A⟩ := hrel
  by_cases hlt : i < (l0.length : Int)
  ·have hltb : decide (i < (l0.length : Int)) = true := decide_eq_true hlt; have p1 := HI.out.1; obtain ⟨ad, e_, hx_0⟩ := Kd.at_int HR.out i p1 hlt; cases e_; replace hx_0 := (BW.out.cell (wb_ w _ hx_0)).trans hx_0; have hcall : Calls Try.prog g (#[.int .i64 (rd l0 i)] ++ lb) wr (fun e w1 => e = .returned (.bool (p (rd l0 i))) ∧ Below wr.heap.size wr w1) := HP.out wr (rd l0 i) BW.out; have HL := Zq_.mk hlt; replace p1 := eq_true p1; replace hlt := eq_true hlt; have hwr := Zq_.mk (show wrap64 (i + 1) = i + 1 by have := HI.out; have := HM.out; have := HL.out; unfold wrap64; omega)
   cases hq : p (rd l0 i) with
   | true =>
    rw [hq] at hcall; have HQ := Zq_.mk hq; clear hq
    go_wp2_with fail
    refine hcall.mono ?_; rintro e w1 ⟨rfl, hb1⟩
    go_wp2_with fail
    go_ret
    refine ⟨?_, (by have hb2 := below_step BW.out hb1; exact hb2)⟩; have h1 := HI.out; have h2 := HL.out; rw [idxI_hit p l0 0 i.toNat (by omega) HQ.out A.out, Int.toNat_of_nonneg h1.1]; rfl
   | false =>
    rw [hq] at hcall; have HQ := Zq_.mk hq; clear hq
    go_wp2_with fail
    refine hcall.mono ?_; rintro e w1 ⟨rfl, hb1⟩
    go_wp2_with fail
    go_roundg (l0.length - (i.toNat + 1))
    case measure => have h1 := HI.out; have h2 := HL.out; omega
    case rel => exact ⟨wrap64 (i + 1), eS_, ⟨by rw [hwr.out]; have h1 := HI.out; have h2 := HL.out; omega⟩, ⟨below_step BW.out hb1⟩, ⟨fun j hj => by
     rw [hwr.out] at hj; have h1 := HI.out
     by_cases e : j = i.toNat
     ·subst e; exact HQ.out
     ·exact A.out j (by omega)⟩⟩
  ·have hltb : decide (i < (l0.length : Int)) = false := decide_eq_false hlt; have HL := Zq_.mk hlt; clear hlt
   go_wp2
   go_ret
   refine ⟨?_, BW.out⟩; have h1 := HI.out; have h2 := HL.out; rw [idxI_miss p l0 0 (fun j hj => A.out j (by omega))]; rfl
def slices_Index_int_int.l0 : Nat → List Int → Int → Int → Int → Option (Int)
 | 0, _, _, _, _ => none
 | k + 1, x0, x1, x7, x8 => if x8 < x7 then (if 0 ≤ x8 then (if x8 < (x0.length : Int) then (if x1 = (rd x0 x8) then (some x8) else (slices_Index_int_int.l0 k x0 x1 x7 (wrap64 (x8 + 1)))) else (none)) else (none)) else (some (-1))
def slices_Index_int_int.f (k : Nat) (l0 : List Int) (a1 : Int) : Option (Int) := slices_Index_int_int.l0 k l0 a1 (l0.length : Int) 0
theorem slices_Index_int_int.mono_l : ∀ k, (∀ y0 y1 y2 y3, LeO (slices_Index_int_int.l0 k y0 y1 y2 y3) (slices_Index_int_int.l0 (k + 1) y0 y1 y2 y3))
 | 0 => fun _ _ _ _ r h => by simp [slices_Index_int_int.l0] at h
 | k + 1 => by
  have ih0 := slices_Index_int_int.mono_l k
  ·intro y0 y1 y2 y3
   unfold slices_Index_int_int.l0
   with_reducible repeat' first | exact ih0 _ _ _ _ | exact LeO.refl _ | exact LeO.none _ | refine LeO.ite ?_ ?_ | refine LeO.bind ?_ (fun _ => ?_)
theorem slices_Index_int_int.mono : ∀ a0 a1 k, LeO (slices_Index_int_int.f k a0 a1) (slices_Index_int_int.f (k + 1) a0 a1) := by
 intro a0 a1 k; have ih0 := slices_Index_int_int.mono_l k
 unfold slices_Index_int_int.f
 with_reducible repeat' first | exact ih0 _ _ _ _ | exact LeO.refl _ | exact LeO.none _ | refine LeO.ite ?_ ?_ | refine LeO.bind ?_ (fun _ => ?_)
theorem slices_Index_int_int.calls (k : Nat) (A0 : Option Addr) (c0 : Nat) (l0 : List Int) (a1 : Int) (r : Int) (w : World) (hr0 : Kd.C (Kd.int .i64) w A0 l0.length l0) (hc0 : l0.length ≤ c0) (h : slices_Index_int_int.f k l0 a1 = some r) :
  Calls Try.prog 30 #[.slice A0 l0.length c0, .int .i64 a1] w fun e w' => e = .returned (.int .i64 r) ∧ Drawn0 w w' := by
 have HR0 := Zq_.mk hr0; have HC0 := Zq_.mk hc0; clear hr0 hc0; have H : (slices_Index_int_int.l0 k l0 a1 (l0.length : Int) 0) = some r := h; clear h; have H' := Zq_.mk H; clear H
 go_enter Try.func30, Try.ntmps30
 go_wp2
 go_loopg [8] k (fun kq v8 w' => ∃ (aA : Int), v8 = .int .i64 aA ∧ Zq_ (slices_Index_int_int.l0 kq l0 a1 (l0.length : Int) aA = some r) ∧ Zq_ (kq ≤ k) ∧ Drawn0 w w')
 case atStart => exact ⟨(0), eS_, H', ⟨Nat.le_refl _⟩, by repeat (first | exact Drawn0.refl _ | apply Drawn0.step)⟩
 case round =>
  clear H'
  try clear p2
  obtain ⟨aA, rfl, HA, HK1, ⟨m1, rfl⟩⟩ := hrel
  cases gk with
  | zero => exact absurd HA.out (by simp [slices_Index_int_int.l0])
  | succ k1 =>
   have H := HA.out; clear HA; simp only [slices_Index_int_int.l0] at H
   by_cases c3 : aA < (l0.length : Int)
   ·rw [if_pos c3] at H; have c3b0 : decide (aA < (l0.length : Int)) = true := decide_eq_true c3; clear c3
    by_cases c4 : 0 ≤ aA
    ·rw [if_pos c4] at H; have c4b0 : decide (0 ≤ aA) = true := decide_eq_true c4; clear c4
     by_cases c5 : aA < (l0.length : Int)
     ·rw [if_pos c5] at H; have c5b0 : decide (aA < (l0.length : Int)) = true := decide_eq_true c5; clear c5
      by_cases c6 : a1 = (rd l0 aA)
      ·rw [if_pos c6] at H; have c6b0 : (a1 == (rd l0 aA)) = true := beq_iff_eq.mpr c6; have c6b1 : (a1 != (rd l0 aA)) = false := bne_eq_false_iff_eq.mpr c6; clear c6; obtain rfl := Option.some.inj H; have aC : 0 ≤ (aA : Int) := dA_; have aB : aA < (l0.length : Int) := dA_; obtain ⟨aF, aE, aD⟩ := Kd.at_int HR0.out aA aC aB; cases aE; replace aC := eq_true aC; replace aB := eq_true aB
       go_wp2
       go_ret
       exact ⟨by first | rfl | (simp; done) | (simp [*]; done), by repeat (first | exact Drawn0.refl _ | apply Drawn0.step)⟩
      ·rw [if_neg c6] at H; have c6b0 : (a1 == (rd l0 aA)) = false := beq_eq_false_iff_ne.mpr c6; have c6b1 : (a1 != (rd l0 aA)) = true := bne_iff_ne.mpr c6; have H' := Zq_.mk H; clear H; have aC : 0 ≤ (aA : Int) := dA_; have aB : aA < (l0.length : Int) := dA_; obtain ⟨aF, aE, aD⟩ := Kd.at_int HR0.out aA aC aB; cases aE; replace aC := eq_true aC; replace aB := eq_true aB
       go_wp2
       go_roundg k1
       case measure => have := HK1.out; omega
       case rel => exact ⟨(wrap64 (aA + 1)), eS_, H', ⟨by have := HK1.out; omega⟩, by repeat (first | exact Drawn0.refl _ | apply Drawn0.step)⟩
     ·rw [if_neg c5] at H; exact absurd H (by simp)
    ·rw [if_neg c4] at H; exact absurd H (by simp)
   ·rw [if_neg c3] at H; have c3b0 : decide (aA < (l0.length : Int)) = false := decide_eq_false c3; clear c3; obtain rfl := Option.some.inj H
    go_wp2
    go_ret
    exact ⟨by first | rfl | (simp; done) | (simp [*]; done), by repeat (first | exact Drawn0.refl _ | apply Drawn0.step)⟩
def choice_Rising.f (l0 : List Int) : Option (List Int) := if l0.length ≤ 1000000 then some (Go.Proofs.Ytjlemkdilbnmlaa.risL l0) else none
theorem choice_Rising.calls (A0 : Option Addr) (c0 : Nat) (l0 : List Int) (r : List Int) (w : World) (hr0 : Kd.C (Kd.int .i64) w A0 l0.length l0) (hc0 : l0.length ≤ c0) (h : choice_Rising.f l0 = some r) :
  Calls Try.prog 18 #[.slice A0 l0.length c0] w fun e w' => ∃ v0_ : Value, e = .returned v0_ ∧ Kd.R (Kd.int .i64) 3 w' w.heap.size (fun _ => True) v0_ r ∧ Below w.heap.size w w' := by
 unfold choice_Rising.f at h
 by_cases hl : l0.length ≤ 1000000
 case neg => rw [if_neg hl] at h; cases h
 rw [if_pos hl] at h; obtain rfl := Option.some.inj h; refine (Go.Proofs.Ytjlemkdilbnmlaa.rising_c w A0 c0 l0 hl (fun hne => ?_)).mono ?_
 ·have hpos : 0 < l0.length := List.length_pos_iff.2 hne; obtain ⟨ad, e, _⟩ := Kd.at_int hr0 0 (by omega) (by omega); refine ⟨ad, e, fun j hj => ?_⟩; obtain ⟨ad2, e2, hx⟩ := Kd.at_int hr0 (j : Int) (by omega) (by omega); obtain rfl : ad = ad2 := Option.some.inj (e.symm.trans e2); exact hx
 ·rintro e w' ⟨v, rfl, h1, h2⟩; exact ⟨v, rfl, Kd.R_of_own h1 (fun _ _ => trivial), h2⟩
def slices_Contains_int_int.f (k : Nat) (l0 : List Int) (a1 : Int) : Option (Bool) := (slices_Index_int_int.f k l0 a1).bind fun aA => (some (decide (aA ≥ 0)))
theorem slices_Contains_int_int.mono : ∀ a0 a1 k, LeO (slices_Contains_int_int.f k a0 a1) (slices_Contains_int_int.f (k + 1) a0 a1) := by
 intro a0 a1 k
 unfold slices_Contains_int_int.f
 with_reducible repeat' first | exact slices_Index_int_int.mono _ _ _ | exact LeO.refl _ | exact LeO.none _ | refine LeO.ite ?_ ?_ | refine LeO.bind ?_ (fun _ => ?_)
theorem slices_Contains_int_int.calls (k : Nat) (A0 : Option Addr) (c0 : Nat) (l0 : List Int) (a1 : Int) (r : Bool) (w : World) (hr0 : Kd.C (Kd.int .i64) w A0 l0.length l0) (hc0 : l0.length ≤ c0) (h : slices_Contains_int_int.f k l0 a1 = some r) :
  Calls Try.prog 25 #[.slice A0 l0.length c0, .int .i64 a1] w fun e w' => e = .returned (.bool r) ∧ Drawn0 w w' := by
 have HR0 := Zq_.mk hr0; have HC0 := Zq_.mk hc0; clear hr0 hc0; have H : ((slices_Index_int_int.f k l0 a1).bind fun aA => (some (decide (aA ≥ 0)))) = some r := h; clear h; replace H := ob_ H; obtain ⟨aA, A30, H⟩ := H; (try dsimp only at H); have A3 := Zq_.mk A30; clear A30; obtain rfl := Option.some.inj H
 go_enter Try.func25, Try.ntmps25
 go_wp2_with (first | ((with_reducible refine gate_callee (f := 30) rfl ?_); refine goesL_ (some 7) rfl rfl Try.func30 (by kernel_rfl) rfl #[.slice A0 l0.length c0, .int .i64 a1] rfl aR_ ?_; (with_reducible refine (slices_Index_int_int.calls k _ _ l0 a1 aA _ ?side1 ?side2 A3.out).mono ?_); (case side1 => exact cX_ HR0.out); (case side2 => exact HC0.out); rintro e w' ⟨rfl, ⟨nd, rfl⟩⟩; refine ⟨_, rfl, ?_⟩))
 go_ret
 exact ⟨by first | rfl | (simp; done) | (simp [*]; done), by repeat (first | exact Drawn0.refl _ | apply Drawn0.step)⟩
def choice_Has.f (k : Nat) (l0 : List Int) (a1 : Int) : Option (Bool) := (slices_Contains_int_int.f k l0 a1).bind fun aA => (some aA)
theorem choice_Has.mono : ∀ a0 a1 k, LeO (choice_Has.f k a0 a1) (choice_Has.f (k + 1) a0 a1) := by
 intro a0 a1 k
 unfold choice_Has.f
 with_reducible repeat' first | exact slices_Contains_int_int.mono _ _ _ | exact LeO.refl _ | exact LeO.none _ | refine LeO.ite ?_ ?_ | refine LeO.bind ?_ (fun _ => ?_)
theorem choice_Has.calls (k : Nat) (A0 : Option Addr) (c0 : Nat) (l0 : List Int) (a1 : Int) (r : Bool) (w : World) (hr0 : Kd.C (Kd.int .i64) w A0 l0.length l0) (hc0 : l0.length ≤ c0) (h : choice_Has.f k l0 a1 = some r) :
  Calls Try.prog 16 #[.slice A0 l0.length c0, .int .i64 a1] w fun e w' => e = .returned (.bool r) ∧ Drawn0 w w' := by
 have HR0 := Zq_.mk hr0; have HC0 := Zq_.mk hc0; clear hr0 hc0; have H : ((slices_Contains_int_int.f k l0 a1).bind fun aA => (some aA)) = some r := h; clear h; replace H := ob_ H; obtain ⟨aA, A30, H⟩ := H; (try dsimp only at H); have A3 := Zq_.mk A30; clear A30; obtain rfl := Option.some.inj H
 go_enter Try.func16, Try.ntmps16
 go_wp2_with (first | ((with_reducible refine gate_callee (f := 25) rfl ?_); refine goesL_ (some 7) rfl rfl Try.func25 (by kernel_rfl) rfl #[.slice A0 l0.length c0, .int .i64 a1] rfl aR_ ?_; (with_reducible refine (slices_Contains_int_int.calls k _ _ l0 a1 aA _ ?side1 ?side2 A3.out).mono ?_); (case side1 => exact cX_ HR0.out); (case side2 => exact HC0.out); rintro e w' ⟨rfl, ⟨nd, rfl⟩⟩; refine ⟨_, rfl, ?_⟩))
 go_ret
 exact ⟨by first | rfl | (simp; done) | (simp [*]; done), by repeat (first | exact Drawn0.refl _ | apply Drawn0.step)⟩
def choice_Without.f (l0 : List Int) (a1 : Int) : Option (List Int) := if l0.length ≤ 1000000 then some (l0.filter (fun x => !(x == a1))) else none
open Go.Proofs.YtjlemkdilbnmlaaW.Hw in
theorem choice_Without.pred (n : Int) (B : Nat) (w : World) (hc : w.cell? ⟨B, 0, none⟩ = some (.int .i64 n)) : PredI Try.prog 24 #[.pointer (some ⟨B, 0, none⟩)] (fun x => x == n) w := by
 intro W x hb; have hcW := (hb.cell (wb_ w _ hc)).trans hc
 go_enter Try.func24, Try.ntmps24
 go_wp2
 go_ret
 exact ⟨by first | rfl | (simp; done) | (simp [*]; done), by first | exact Below.refl _ _ | exact (Below.refl _ _).drew | exact below_drew1 (Below.refl _ _)⟩
open Go.Proofs.YtjlemkdilbnmlaaW.Hw in
/-- Over an empty row it comes back as it is. -/
theorem choice_Without.none_ (n : Int) (B : Nat) (A0 : Option Addr) (c0 : Nat) (w : World) (hc : w.cell? ⟨B, 0, none⟩ = some (.int .i64 n)) (hr : Kd.C (Kd.int .i64) w A0 0 []) :
  Calls Try.prog 22 #[.slice A0 0 c0, .func (.func 24) #[] #[.pointer (some ⟨B, 0, none⟩)]] w fun e w' => e = .returned (.slice A0 0 c0) ∧ Below w.heap.size w w' := by
 have hcall := IndexFuncI.calls (fun x => x == n) 24 #[.pointer (some ⟨B, 0, none⟩)] (fun args w => enters Try.prog Try.func24 (by kernel_rfl) (by kernel_rfl) args w) A0 c0 [] w (choice_Without.pred n B w hc) hr; have hix : idxI (fun x : Int => x == n) [] = -1 := rfl; rw [hix] at hcall
 change Calls Try.prog _ #[.slice A0 0 c0, _] w _ at hcall
 clear hix hr hc
 go_enter Try.func22, Try.ntmps22
 go_wp2_with fail
 refine hcall.mono ?_; rintro e w1 ⟨rfl, hb1⟩
 go_wp2_with fail
 go_ret
 exact ⟨rfl, hb1⟩
open Go.Proofs.YtjlemkdilbnmlaaW.Hw in
theorem choice_Without.del (n : Int) (B : Nat) (v : Value) (l : List Int) (w : World) (base : Nat) (hrow : Kd.R (Kd.int .i64) 3 w base (fun _ => True) v l) (hc : w.cell? ⟨B, 0, none⟩ = some (.int .i64 n)) (hBv : some B ≠ v.ownBlock) (hn : l.length ≤ 1000000) :
  Calls Try.prog 22 #[v, .func (.func 24) #[] #[.pointer (some ⟨B, 0, none⟩)]] w fun e w' => ∃ v', e = .returned v' ∧ Kd.R (Kd.int .i64) 3 w' base (fun _ => True) v' (l.filter (fun x => !(x == n))) ∧ w.grownBy w' v.ownBlock := by
 by_cases hl : l = []
 ·subst hl; obtain ⟨A, c, rfl, _, hC⟩ := Kd.R_reads hrow; refine (choice_Without.none_ n B A c w hc hC).mono ?_; rintro e w' ⟨rfl, hb⟩; exact ⟨_, rfl, Kd.R_below hrow hb, grown_of_below hb _⟩
 ·refine (Go.Proofs.Ytjlemkdilbnmlaa.delete_own n B v l w base (Kd.own_of_R hrow) hl (wb_ w _ hc) hBv hc hn).mono ?_; rintro e w' ⟨v', rfl, ho, hg⟩; exact ⟨_, rfl, Kd.R_of_own ho (fun _ _ => trivial), hg⟩
open Go.Proofs.YtjlemkdilbnmlaaW.Hw in
theorem choice_Without.calls (A0 : Option Addr) (c0 : Nat) (l0 : List Int) (a1 : Int) (r : List Int) (w : World) (hr0 : Kd.C (Kd.int .i64) w A0 l0.length l0) (hc0 : l0.length ≤ c0) (h : choice_Without.f l0 a1 = some r) :
  Calls Try.prog 14 #[.slice A0 l0.length c0, .int .i64 a1] w fun e w' => ∃ v0_ : Value, e = .returned v0_ ∧ Kd.R (Kd.int .i64) 3 w' w.heap.size (fun _ => True) v0_ r ∧ Below w.heap.size w w' := by
 unfold choice_Without.f at h
 by_cases hl : l0.length ≤ 1000000
 case neg => rw [if_neg hl] at h; cases h
 rw [if_pos hl] at h; obtain rfl := Option.some.inj h; clear h; have HM := Zq_.mk hl; have HL := Zq_.mk (show slices_Clone_int_int.f l0 = some l0 by unfold slices_Clone_int_int.f; rw [if_pos (by omega)]); have HR := Zq_.mk hr0; have HC := Zq_.mk hc0; clear hr0 hc0 hl; have HB := Zq_.mk (Below.refl w.heap.size w)
 go_enter Try.func14, Try.ntmps14
 go_wp2_with (first | ((with_reducible refine gate_dst (N := 3) rfl ?_); (try (refine gate_guard (by rfl) ?_; dsimp only)); refine bE_ 3 #[.int .i64 a1] 3 ?_; intro aB hg_ w101 hbox_ hb_; have n0_ := Zq_.mk (below_step (hB_ HB) hb_); have GE101 := Zq_.mk ((by rw [hg_]; exact (qa_ (hB_ HB)) : w.heap.size ≤ aB)); have n1_ := Zq_.mk (hbox_); clear HB; have HB := n0_; have aA := n1_; clear n0_ n1_; clear hb_ hbox_ hg_; have aD := cz_ aA 0 (.int .i64 a1); have aC := blk_frozen aA.out 0; have LT101 := Zq_.mk (blk_lt aA.out)) | (go_at_call 23; refine (slices_Clone_int_int.calls A0 c0 l0 l0 _ (Kd.C_below HR.out (hB_ HB)) HC.out HL.out).mono ?_; rintro e w3 ⟨v5, rfl, ho5, hb3⟩; have NE5 := Zq_.mk (show some aB ≠ v5.ownBlock from fun e_ => by have h1 := Kd.R_base ho5 aB e_.symm; have h2 := LT101.out; omega); have HO5 := Zq_.mk (Kd.R_lower ho5 (qa_ (hB_ HB))); have n0_ := Zq_.mk (below_step (hB_ HB) hb3); have m101_ := Zq_.mk (blk_bel (by exact bK_ aA) hb3); clear HB; have HB := n0_; clear n0_; clear aA; have aA := m101_; clear m101_; clear hb3; clear ho5) | (go_at_call 22; refine (choice_Without.del a1 aB v5 l0 _ w.heap.size (vX_ HO5) ((blk_cell (by exact bK_ aA) 0).trans rfl) NE5.out HM.out).mono ?_; rintro e w4 ⟨v6, rfl, ho6, hg6⟩; have n0_ := Zq_.mk (((hB_ HB) : Below w.heap.size w w3).grown hg6 (qa_ (hB_ HB)) (Kd.R_base HO5.out)); clear HB; have HB := n0_; have HO6 := Zq_.mk ho6; clear n0_ ho6 hg6))
 go_ret
 exact ⟨_, rfl, HO6.out, HB.out⟩
def choice_Round.ask (k : Nat) (s l : List Int) (d : Int) : Option (List Int) := (choice_One.f l d).bind fun t => if t.2 = true then (choice_Has.f k s t.1).bind fun b => if b = true then some s else if s.length < 1000 then some (s ++ [t.1]) else none else some s
theorem choice_Round.ask_mono (s l : List Int) (d : Int) (k : Nat) : LeO (choice_Round.ask k s l d) (choice_Round.ask (k + 1) s l d) := by
 unfold choice_Round.ask
 exact LeO.bind (LeO.refl _) (fun _ => LeO.ite (LeO.bind (choice_Has.mono _ _ _) (fun _ => LeO.refl _)) (LeO.refl _))
open Go.Proofs.YtjlemkdilbnmlaaW.Hw in
theorem choice_Round.asks (k : Nat) (A0 : Option Addr) (c0 : Nat) (l s s' : List Int) (d : Int) (v : Value) (B base : Nat) (w : World) (hr0 : Kd.C (Kd.int .i64) w A0 l.length l) (hc0 : l.length ≤ c0)
  (hB : w.heap[B]? = some (.cells #[v] 22 (0, 0))) (hbB : base ≤ B) (hv : Kd.R (Kd.int .i64) 3 w base (fun _ => True) v s) (h : choice_Round.ask k s l d = some s') :
  Calls Try.prog 20 #[.slice A0 l.length c0, .int .u32 d, .pointer (some ⟨B, 0, none⟩)] w fun e w' => (∃ u, e = .returned u) ∧ ∃ v' : Value, w'.heap[B]? = some (.cells #[v'] 22 (0, 0)) ∧ Kd.R (Kd.int .i64) 3 w' base (fun _ => True) v' s' ∧ Below base w w' ∧ KeepBut w w' B v.ownBlock := by
 have hbs : base ≤ w.heap.size := Nat.le_trans hbB (Nat.le_of_lt (blk_lt hB))
 unfold choice_Round.ask at h
 obtain ⟨⟨n, ok⟩, h1, h2⟩ := Option.bind_eq_some_iff.1 h; clear h; have H1 := Zq_.mk h1; have HR := Zq_.mk hr0; have HC := Zq_.mk hc0; have BK := Zq_.mk hB; have HV := Zq_.mk hv; have BB := Zq_.mk hbB; have BS := Zq_.mk hbs; obtain ⟨A5, c5, rfl, hc5, hC5⟩ := Kd.R_reads hv; have H5 := Zq_.mk hc5; have HC5 := Zq_.mk hC5; have hcz : w.cell? ⟨B, 0, none⟩ = some (.slice A5 s.length c5) := (blk_cell hB 0).trans rfl; have hfz := blk_frozen hB 0; clear h1 hr0 hc0 hB hv hbB hbs hc5 hC5
 dsimp only at h2
 cases ok with
 | false =>
  rw [if_neg (by decide)] at h2; obtain rfl := Option.some.inj h2
  go_enter Try.func20, Try.ntmps20
  go_wp2_with (go_at_call 9; refine (choice_One.calls A0 c0 l d n false _ HR.out HC.out H1.out).mono ?_; rintro e w' ⟨rfl, ⟨nd, rfl⟩⟩)
  go_end0
  exact ⟨⟨_, rfl⟩, _, blk_drewN BK.out _, Kd.R_drewN HV.out _, pw_below_drewN (Below.refl _ _) _, KeepBut.of_grown (grown_of_below (pw_below_drewN (Below.refl _ _) _) _) _⟩
 | true =>
  rw [if_pos rfl] at h2; obtain ⟨b, h3, h4⟩ := Option.bind_eq_some_iff.1 h2; clear h2; have H3 := Zq_.mk h3; clear h3
  cases b with
  | true =>
   rw [if_pos rfl] at h4; obtain rfl := Option.some.inj h4
   go_enter Try.func20, Try.ntmps20
   go_wp2_with (first | (go_at_call 9; refine (choice_One.calls A0 c0 l d n true _ HR.out HC.out H1.out).mono ?_; rintro e w' ⟨rfl, ⟨nd, rfl⟩⟩) | (go_at_call 16; refine (choice_Has.calls k A5 c5 s n true _ (by repeat (first | exact HC5.out | (with_reducible refine Kd.C_alloc ?_ _) | (with_reducible refine Kd.C_drewN ?_ _) | (with_reducible refine Kd.C_drew ?_))) H5.out H3.out).mono ?_; rintro e w' ⟨rfl, ⟨nd2, rfl⟩⟩))
   go_end0
   exact ⟨⟨_, rfl⟩, _, by (with_reducible repeat (first | refine blk_drewN ?_ _ | refine blk_drew ?_ | refine blk_alloc ?_ _)); exact BK.out, by (with_reducible repeat (first | apply Kd.R_alloc | apply Kd.R_drewN | apply Kd.R_drew)); exact HV.out, by repeat (first | exact Below.refl _ _ | apply pw_below_drewN | apply below_drew1), KeepBut.of_grown (grown_of_below (by repeat (first | exact Below.refl _ _ | apply pw_below_drewN | apply below_drew1)) _) _⟩
  | false =>
   rw [if_neg (by decide)] at h4
   by_cases hl : s.length < 1000
   case neg => rw [if_neg hl] at h4; cases h4
   rw [if_pos hl] at h4; obtain rfl := Option.some.inj h4; have HL := Zq_.mk hl; clear h4 hl
   go_enter Try.func20, Try.ntmps20
   go_wp2_with (first | (go_at_call 9; refine (choice_One.calls A0 c0 l d n true _ HR.out HC.out H1.out).mono ?_; rintro e w' ⟨rfl, ⟨nd, rfl⟩⟩) | (go_at_call 16; refine (choice_Has.calls k A5 c5 s n false _ (by repeat (first | exact HC5.out | (with_reducible refine Kd.C_alloc ?_ _) | (with_reducible refine Kd.C_drewN ?_ _) | (with_reducible refine Kd.C_drew ?_))) H5.out H3.out).mono ?_; rintro e w' ⟨rfl, ⟨nd2, rfl⟩⟩) | ((with_reducible refine gate_builtin (b := .append) (xs := #[.tmp 20, .tmp 22]) rfl ?_); at_builtin; refine Kd.R_append (Kd.int .i64) (w0 := w) base rfl (.tmp 20) (.tmp 22) 22 3 (.int .i64 0) 8 rfl Try.underlying22 info3 rfl (by decide) (by omega) (.slice A5 s.length c5) s n [.int .i64 n] (fun _ => True) (fun _ => False) rfl rfl ?aP (fun _ hk => hk.elim) ?aF ?aO ?aB ?aS ?aL ?_; (case aP => exact rfl); (case aB => exact (by repeat (first | exact Below.refl _ _ | apply pw_below_drewN | apply below_drew1))); (case aF => exact (fun _ _ => trivial)); (case aO => exact (vX_ HV)); (case aS => exact BS.out); (case aL => have := HL.out; omega); intro v104 w7 ho hb hg hat; obtain ⟨A9, c9, rfl⟩ := Kd.R_slice ho; simp only [List.length_append, List.length_cons, List.length_nil, Nat.zero_add] at ho; have BK2 := Zq_.mk (blk_grown (by (with_reducible repeat (first | refine blk_drewN ?_ _ | refine blk_drew ?_ | refine blk_alloc ?_ _)); exact BK.out) hg (Kd.R_ne HV.out BK.out (by decide))); have HG := Zq_.mk hg; have hcz2 : w7.cell? ⟨B, 0, none⟩ = some (.slice A5 s.length c5) := (blk_cell BK2.out 0).trans rfl; have hfz2 := blk_frozen BK2.out 0; have HO := Zq_.mk ho; have HB := Zq_.mk hb; clear ho hb hg hat))
   go_end0
   exact ⟨⟨_, rfl⟩, _, blk_set BK2.out 0 _, Kd.R_set HO.out BK2.out (by decide) 0 _, HB.out.setCell BB.out _, ⟨by have := HG.out.size; simpa [World.setCell] using this, fun i hi hg hr => (Below.heap_setCell w7 ⟨B, 0, none⟩ _ i hg).trans (HG.out.block i hi hr)⟩⟩
def choice_Round.seed (k : Nat) (s0 l2 : List Int) : Option Bool := if (s0.length : Int) > 0 then choice_Has.f k l2 (rd s0 0) else some false
def choice_Round.two (k : Nat) (s0 l0 l1 : List Int) (d1 : Int) : Option (List Int) := if Int.tmod (IntKind.u64.wrap d1) (IntKind.u64.wrap (wrap64 ((l0.length : Int) + 1))) < IntKind.u64.wrap (l1.length : Int) then choice_Round.ask k s0 l1 d1 else some s0
def choice_Round.three (k : Nat) (s1 l0 l2 : List Int) (d2 : Int) (sd : Bool) : Option (List Int) := if sd = true then (if (l0.length : Int) < (l2.length : Int) then choice_Round.ask k s1 l2 d2 else some s1) else choice_Round.ask k s1 l2 d2
def choice_Round.f (k : Nat) (l0 l1 l2 : List Int) (d0 d1 d2 : Int) : Option (List Int) := (choice_Round.ask k [] l0 d0).bind fun s0 => (choice_Round.seed k s0 l2).bind fun sd => if IntKind.u64.wrap (wrap64 ((l0.length : Int) + 1)) = 0 then none else (choice_Round.two k s0 l0 l1 d1).bind fun s1 => choice_Round.three k s1 l0 l2 d2 sd
theorem choice_Round.mono : ∀ a0 a1 a2 a3 a4 a5 k, LeO (choice_Round.f k a0 a1 a2 a3 a4 a5) (choice_Round.f (k + 1) a0 a1 a2 a3 a4 a5) := by
 intro a0 a1 a2 a3 a4 a5 k
 unfold choice_Round.f choice_Round.seed choice_Round.two choice_Round.three
 exact LeO.bind (choice_Round.ask_mono _ _ _ _) (fun _ => LeO.bind (LeO.ite (choice_Has.mono _ _ _) (LeO.refl _)) (fun _ => LeO.ite (LeO.refl _) (LeO.bind (LeO.ite (choice_Round.ask_mono _ _ _ _) (LeO.refl _)) (fun _ => LeO.ite (LeO.ite (choice_Round.ask_mono _ _ _ _) (LeO.refl _)) (choice_Round.ask_mono _ _ _ _)))))
theorem choice_Round.kept {w w' : World} {B g t base : Nat} {v : Value} {s : List Int} {cs : Array Value} (hk : KeepBut w w' B v.ownBlock) (hb : w.heap[g]? = some (.cells cs t (0, 0))) (hne : g ≠ B) (hv : Kd.R (Kd.int .i64) 3 w base (fun _ => True) v s) (ht : 3 ≠ t) : w'.heap[g]? = some (.cells cs t (0, 0)) :=
 (hk.2 g (blk_lt hb) hne (Kd.R_ne hv hb ht)).trans hb
/-- How it lies between two questions: the box of the draws, the box of the row, and the row. -/
def choice_Round.St (w W : World) (gD gB : Nat) (cs : Array Value) (v : Value) (s : List Int) : Prop :=
 W.heap[gD]? = some (.cells cs 26 (0, 0)) ∧ W.heap[gB]? = some (.cells #[v] 22 (0, 0)) ∧ gD ≠ gB ∧ w.heap.size ≤ gB ∧ Kd.R (Kd.int .i64) 3 W w.heap.size (fun _ => True) v s ∧ Below w.heap.size w W
theorem choice_Round.St.drewN {w W : World} {gD gB : Nat} {cs : Array Value} {v : Value} {s : List Int} (h : choice_Round.St w W gD gB cs v s) (m : Nat) : choice_Round.St w (W.drewN m) gD gB cs v s :=
 ⟨blk_drewN h.1 m, blk_drewN h.2.1 m, h.2.2.1, h.2.2.2.1, Kd.R_drewN h.2.2.2.2.1 m, pw_below_drewN h.2.2.2.2.2 m⟩
theorem choice_Round.St.ask {w W : World} {gD gB : Nat} {cs : Array Value} {v : Value} {s s' l : List Int} (h : choice_Round.St w W gD gB cs v s) (k : Nat) (A0 : Option Addr) (c0 : Nat) (d : Int) (hr0 : Kd.C (Kd.int .i64) w A0 l.length l) (hc0 : l.length ≤ c0) (ha : choice_Round.ask k s l d = some s') :
  Calls Try.prog 20 #[.slice A0 l.length c0, .int .u32 d, .pointer (some ⟨gB, 0, none⟩)] W fun e W' => (∃ u, e = .returned u) ∧ ∃ (A5 : Option Addr) (c5 : Nat), s'.length ≤ c5 ∧ Kd.C (Kd.int .i64) W' A5 s'.length s' ∧ choice_Round.St w W' gD gB cs (.slice A5 s'.length c5) s' := by
 obtain ⟨hD, hB, hne, hge, hv, hb⟩ := h; refine (choice_Round.asks k A0 c0 l s s' d v gB w.heap.size W (Kd.C_below hr0 hb) hc0 hB hge hv ha).mono ?_; rintro e W' ⟨hu, v', hB', hv', hb', hk⟩; obtain ⟨A5, c5, rfl, hc5, hC5⟩ := Kd.R_reads hv'; exact ⟨hu, A5, c5, hc5, hC5, choice_Round.kept hk hD hne hv (by decide), hB', hne, hge, hv', hb.trans hb'⟩
open Go.Proofs.YtjlemkdilbnmlaaW.Hw in
theorem choice_Round.calls (k : Nat) (A0 : Option Addr) (c0 : Nat) (l0 : List Int) (A1 : Option Addr) (c1 : Nat) (l1 : List Int) (A2 : Option Addr) (c2 : Nat) (l2 : List Int) (aH : Int) (aE : Int) (aG : Int) (r : List Int) (w : World) (hr0 : Kd.C (Kd.int .i64) w A0 l0.length l0) (hc0 : l0.length ≤ c0) (hr1 : Kd.C (Kd.int .i64) w A1 l1.length l1) (hc1 : l1.length ≤ c1) (hr2 : Kd.C (Kd.int .i64) w A2 l2.length l2) (hc2 : l2.length ≤ c2) (h : choice_Round.f k l0 l1 l2 aH aE aG = some r) :
  Calls Try.prog 12 #[.slice A0 l0.length c0, .slice A1 l1.length c1, .slice A2 l2.length c2, .agg #[.int .u32 aH, .int .u32 aE, .int .u32 aG]] w fun e w' => ∃ v0_ : Value, e = .returned v0_ ∧ Kd.R (Kd.int .i64) 3 w' w.heap.size (fun _ => True) v0_ r ∧ Below w.heap.size w w' := by
 have hu26 := Try.underlying26
 unfold choice_Round.f at h
 obtain ⟨s0, h0, h_⟩ := Option.bind_eq_some_iff.1 h; clear h; obtain ⟨sd, hsd, h⟩ := Option.bind_eq_some_iff.1 h_; clear h_
 by_cases hz : IntKind.u64.wrap (wrap64 ((l0.length : Int) + 1)) = 0
 case pos => rw [if_pos hz] at h; cases h
 rw [if_neg hz] at h; have hzb : (IntKind.u64.wrap (wrap64 ((l0.length : Int) + 1)) == 0) = false := beq_eq_false_iff_ne.mpr hz; have q103 : (IntKind.u64.wrap (wrap64 ((l0.length : Int) + 1)) = 0) = False := eq_false hz; clear hz; obtain ⟨s1, h1, h2⟩ := Option.bind_eq_some_iff.1 h; clear h; have H0 := Zq_.mk h0; have HS := Zq_.mk hsd; have H1 := Zq_.mk h1; have H2 := Zq_.mk h2; have HR0 := Zq_.mk hr0; have HC0 := Zq_.mk hc0; have HR1 := Zq_.mk hr1; have HC1 := Zq_.mk hc1; have HR2 := Zq_.mk hr2; have HC2 := Zq_.mk hc2; clear h0 hsd h1 h2 hr0 hc0 hr1 hc1 hr2 hc2; have HB := Zq_.mk (Below.refl w.heap.size w)
 go_enter Try.func12, Try.ntmps12
 go_wp2_with (first | ((with_reducible refine gate_dst (N := 7) rfl ?_); (try (refine gate_guard (by rfl) ?_; dsimp only)); refine bE_ 7 #[.int .u32 aH, .int .u32 aE, .int .u32 aG] 26 ?_; intro aA hg_ w101 hbox_ hb_; have n0_ := Zq_.mk (below_step (hB_ HB) hb_); have GE101 := Zq_.mk ((by rw [hg_]; exact (qa_ (hB_ HB)) : w.heap.size ≤ aA)); have n1_ := Zq_.mk (hbox_); clear HB; have HB := n0_; have aC := n1_; clear n0_ n1_; clear hb_ hbox_ hg_; obtain ⟨aV, aU, aT⟩ := c3_ aC; obtain ⟨aQ, aN, aM⟩ := f3_ aC) | ((with_reducible refine gate_dst (N := 9) rfl ?_); (try (refine gate_guard (by rfl) ?_; dsimp only)); refine bE_ 9 #[.slice none 0 0] 22 ?_; intro aD hg_ aW hbox_ hb_; have n0_ := Zq_.mk (below_step (hB_ HB) hb_); have aX := Zq_.mk ((by rw [hg_]; exact (qa_ (hB_ HB)) : w.heap.size ≤ aD)); have n1_ := Zq_.mk (hbox_); have aJ : Zq_ (aA ≠ aD) := ⟨fun e_ => by have h1 := blk_lt (by exact bK_ aC); rw [e_, hg_] at h1; exact absurd h1 (Nat.lt_irrefl _)⟩; have m101_ := Zq_.mk (blk_bel (by exact bK_ aC) hb_); clear aC; have aC := m101_; clear m101_; clear HB; have HB := n0_; have aI := n1_; clear n0_ n1_; clear hb_ hbox_ hg_; have aR := cz_ aI 0 (.slice none 0 0); have aK := blk_frozen aI.out 0; have hcw102_101_0 : aW.cell? ⟨aA, 0, none⟩ = some (.int .u32 aH) := (blk_cell aC.out 0).trans rfl; have hcw102_101_1 : aW.cell? ⟨aA, 1, none⟩ = some (.int .u32 aE) := (blk_cell aC.out 1).trans rfl; have hcw102_101_2 : aW.cell? ⟨aA, 2, none⟩ = some (.int .u32 aG) := (blk_cell aC.out 2).trans rfl))
 refine (choice_Round.St.ask (w := w) (gD := aA) ⟨aC.out, aI.out, aJ.out, aX.out, Kd.R_nil _ _ _ _ _, HB.out⟩ k A0 c0 aH HR0.out HC0.out H0.out).mono ?_; clear HB aC aI; rintro e w1 ⟨⟨u1, rfl⟩, A5, c5, hc5, hC5, hS1⟩; have S1 := Zq_.mk hS1; have x0 : w1.cell? ⟨aD, 0, none⟩ = some (.slice A5 s0.length c5) := (blk_cell hS1.2.1 0).trans rfl; have y0 : w1.cell? ⟨aA, 0, none⟩ = some (.int .u32 aH) := (blk_cell hS1.1 0).trans rfl; have y1 : w1.cell? ⟨aA, 1, none⟩ = some (.int .u32 aE) := (blk_cell hS1.1 1).trans rfl; have y2 : w1.cell? ⟨aA, 2, none⟩ = some (.int .u32 aG) := (blk_cell hS1.1 2).trans rfl; have X5 := Zq_.mk hC5; clear hS1 hc5 hC5; clear aV aU aT aQ aN aM aR aK
 go_upto_region 4 with fail
 go_cut [11] (fun v11 wc => v11 = .bool sd ∧ Zq_ (∃ (A5 : Option Addr) (c5 : Nat), choice_Round.St w wc aA aD #[.int .u32 aH, .int .u32 aE, .int .u32 aG] (.slice A5 s0.length c5) s0))
 case first =>
  by_cases hp : (s0.length : Int) > 0
  ·have h3 := HS.out
   unfold choice_Round.seed at h3
   rw [if_pos hp] at h3; have H3 := Zq_.mk h3; have hpb : decide (0 < (s0.length : Int)) = true := decide_eq_true hp; have hpc : decide (0 < s0.length) = true := decide_eq_true (by omega); obtain ⟨ad, e_, hx⟩ := Kd.at_int X5.out 0 (by omega) hp; cases e_
   replace hx : w1.cell? ad = some (.int .i64 (rd s0 0)) := by cases ad; exact hx
   have q101 : ((0 : Int) < (s0.length : Int)) = True := eq_true hp; have q102 : (0 < s0.length) = True := eq_true (by omega); clear h3 hp
   go_wp2_with (go_at_call 16; refine (choice_Has.calls k A2 c2 l2 (rd s0 0) sd _ (Kd.C_below HR2.out S1.out.2.2.2.2.2) HC2.out H3.out).mono ?_; rintro e w' ⟨rfl, ⟨nd, rfl⟩⟩)
   go_meet
   case rel => exact ⟨by simp, ⟨_, _, St.drewN S1.out _⟩⟩
  ·have h3 := HS.out
   unfold choice_Round.seed at h3
   rw [if_neg hp] at h3; obtain rfl := Option.some.inj h3; have hpb : decide (0 < (s0.length : Int)) = false := decide_eq_false hp; have hpc : decide (0 < s0.length) = false := decide_eq_false (by omega); clear h3 hp
   go_wp2
   go_meet
   case rel => exact ⟨by simp, ⟨_, _, S1.out⟩⟩
 case rest =>
  clear x0 y0 y1 y2 S1 X5 HS H0; obtain ⟨rfl, HQ⟩ := hcut; obtain ⟨A6, c6, hS2⟩ := HQ.out; clear HQ; have S2 := Zq_.mk hS2; have y1 : wc.cell? ⟨aA, 1, none⟩ = some (.int .u32 aE) := (blk_cell hS2.1 1).trans rfl; clear hS2
  go_upto_if 39 with fail
  generalize hb : decide (Int.tmod (IntKind.u64.wrap aE) (IntKind.u64.wrap (wrap64 ((l0.length : Int) + 1))) < IntKind.u64.wrap (l1.length : Int)) = bt
  go_cut [11] (fun v11 wc => v11 = .bool sd ∧ Zq_ (∃ (A5 : Option Addr) (c5 : Nat), choice_Round.St w wc aA aD #[.int .u32 aH, .int .u32 aE, .int .u32 aG] (.slice A5 s1.length c5) s1))
  case first =>
   have h3 := H1.out
   unfold choice_Round.two at h3
   by_cases ht : Int.tmod (IntKind.u64.wrap aE) (IntKind.u64.wrap (wrap64 ((l0.length : Int) + 1))) < IntKind.u64.wrap (l1.length : Int)
   ·rw [if_pos ht] at h3; have H3 := Zq_.mk h3; obtain rfl : bt = true := hb.symm.trans (decide_eq_true ht); clear h3 ht hb
    go_wp2_with fail
    refine (St.ask S2.out k A1 c1 aE HR1.out HC1.out H3.out).mono ?_; rintro e w3 ⟨⟨u3, rfl⟩, A7, c7, hc7, hC7, hS3⟩; have S3 := Zq_.mk hS3; clear hc7 hC7 hS3
    go_wp2_with fail
    go_meet
    case rel => exact ⟨by simp, ⟨_, _, S3.out⟩⟩
   ·rw [if_neg ht] at h3; obtain rfl := Option.some.inj h3; obtain rfl : bt = false := hb.symm.trans (decide_eq_false ht); clear h3 ht hb
    go_wp2_with fail
    go_meet
    case rel => exact ⟨by simp, ⟨_, _, S2.out⟩⟩
  case rest =>
   clear y1 S2 H1; obtain ⟨rfl, HQ⟩ := hcut; obtain ⟨A7, c7, hS3⟩ := HQ.out; clear HQ; have S3 := Zq_.mk hS3; have x0 : wc.cell? ⟨aD, 0, none⟩ = some (.slice A7 s1.length c7) := (blk_cell hS3.2.1 0).trans rfl; have y2 : wc.cell? ⟨aA, 2, none⟩ = some (.int .u32 aG) := (blk_cell hS3.1 2).trans rfl; clear hS3; clear hb; have h3 := H2.out
   unfold choice_Round.three at h3
   cases sd with
   | false =>
    rw [if_neg (by decide)] at h3; have H3 := Zq_.mk h3; clear h3
    go_wp2_with fail
    refine (St.ask S3.out k A2 c2 aG HR2.out HC2.out H3.out).mono ?_; rintro e w4 ⟨⟨u4, rfl⟩, A9, c9, hc9, hC9, hS4⟩; have x9 : w4.cell? ⟨aD, 0, none⟩ = some (.slice A9 r.length c9) := (blk_cell hS4.2.1 0).trans rfl; have S4 := Zq_.mk hS4; clear hc9 hC9 hS4
    go_wp2_with fail
    go_ret
    exact ⟨_, rfl, S4.out.2.2.2.2.1, S4.out.2.2.2.2.2⟩
   | true =>
    rw [if_pos rfl] at h3
    by_cases hl : (l0.length : Int) < (l2.length : Int)
    ·rw [if_pos hl] at h3; have H3 := Zq_.mk h3; clear h3; have q1 : decide ((l0.length : Int) < (l2.length : Int)) = true := decide_eq_true hl; have q2 : decide (l0.length < l2.length) = true := decide_eq_true (by omega); clear hl
     go_wp2_with fail
     refine (St.ask S3.out k A2 c2 aG HR2.out HC2.out H3.out).mono ?_; rintro e w4 ⟨⟨u4, rfl⟩, A9, c9, hc9, hC9, hS4⟩; have x9 : w4.cell? ⟨aD, 0, none⟩ = some (.slice A9 r.length c9) := (blk_cell hS4.2.1 0).trans rfl; have S4 := Zq_.mk hS4; clear hc9 hC9 hS4
     go_wp2_with fail
     go_ret
     exact ⟨_, rfl, S4.out.2.2.2.2.1, S4.out.2.2.2.2.2⟩
    ·rw [if_neg hl] at h3; obtain rfl := Option.some.inj h3; clear h3; have q1 : decide ((l0.length : Int) < (l2.length : Int)) = false := decide_eq_false hl; have q2 : decide (l0.length < l2.length) = false := decide_eq_false (by omega); clear hl
     go_wp2_with fail
     go_ret
     exact ⟨_, rfl, S3.out.2.2.2.2.1, S3.out.2.2.2.2.2⟩
def law14_alive.f (k : Nat)  : Option (Bool) := (choice_One.f (([4, 7] : List Int)) 3).bind fun aT => (if aT.1 = 7 then (if aT.2 = true then ((choice_Round.f k (([1, 2] : List Int)) (([5] : List Int)) (([2, 3] : List Int)) 0 3 1).bind fun aP => ((ref06_Ints.f k aP (([1, 5, 3] : List Int))).bind fun aO => (if aO = true then ((choice_Rising.f (([3, 1, 3] : List Int))).bind fun aL => ((ref06_Ints.f k aL (([1, 3] : List Int))).bind fun aK => (if aK = true then ((choice_Without.f (([1, 2, 1] : List Int)) 1).bind fun aH => (if (aH.length : Int) = 1 then ((choice_Has.f k (([4] : List Int)) 4).bind fun aI => (some aI)) else (some false))) else (some false)))) else (some false)))) else (some false)) else (some false))
theorem law14_alive.mono : ∀ k, LeO (law14_alive.f k ) (law14_alive.f (k + 1) ) := by
 intro  k
 unfold law14_alive.f
 with_reducible repeat' first | exact ref06_Ints.mono _ _ _ | exact choice_Has.mono _ _ _ | exact choice_Round.mono _ _ _ _ _ _ _ | exact LeO.refl _ | exact LeO.none _ | refine LeO.ite ?_ ?_ | refine LeO.bind ?_ (fun _ => ?_)
theorem law14_alive.yes (k : Nat) (r : Bool) (h : law14_alive.f k = some r) : r = true := by
 have h60 : law14_alive.f 60 = some true := by
  have hs_ : ([3, 1, 3] : List Int).mergeSort (fun x y => decide (x ≤ y)) = [1, 3, 3] := by simp [List.mergeSort, List.MergeSort.Internal.splitInTwo]
  have h14_ : choice_Rising.f ([3, 1, 3] : List Int) = some [1, 3] := by
   unfold choice_Rising.f Go.Proofs.Ytjlemkdilbnmlaa.risL
   rw [if_pos (by decide), hs_]
   decide +kernel
  unfold law14_alive.f
  simp only [h14_]
  decide +kernel
 rcases Nat.le_total k 60 with hk | hk
 ·have := at_rounds (fun k => law14_alive.mono k) hk h; rw [h60] at this; exact (Option.some.inj this).symm
 ·have := at_rounds (fun k => law14_alive.mono k) hk h60; rw [h] at this; exact Option.some.inj this
theorem law14_alive.calls (k : Nat)  (r : Bool) (w : World) (h : law14_alive.f k  = some r) :
  Calls Try.prog 7 #[] w fun e w' => e = .returned (.bool r) ∧ Below w.heap.size w w' := by
 have HRT := Zq_.mk (law14_alive.yes k r h); have hu26 := Try.underlying26; have HB := Zq_.mk (Below.refl w.heap.size w); have H : ((choice_One.f (([4, 7] : List Int)) 3).bind fun aT => (if aT.1 = 7 then (if aT.2 = true then ((choice_Round.f k (([1, 2] : List Int)) (([5] : List Int)) (([2, 3] : List Int)) 0 3 1).bind fun aP => ((ref06_Ints.f k aP (([1, 5, 3] : List Int))).bind fun aO => (if aO = true then ((choice_Rising.f (([3, 1, 3] : List Int))).bind fun aL => ((ref06_Ints.f k aL (([1, 3] : List Int))).bind fun aK => (if aK = true then ((choice_Without.f (([1, 2, 1] : List Int)) 1).bind fun aH => (if (aH.length : Int) = 1 then ((choice_Has.f k (([4] : List Int)) 4).bind fun aI => (some aI)) else (some false))) else (some false)))) else (some false)))) else (some false)) else (some false))) = some r := h; clear h; obtain ⟨bX, bI⟩ : ∃ y_ : List Int, y_ = (([4, 7] : List Int)) := ⟨_, rfl⟩
 replace H : ((choice_One.f bX 3).bind fun aT => (if aT.1 = 7 then (if aT.2 = true then ((choice_Round.f k (([1, 2] : List Int)) (([5] : List Int)) (([2, 3] : List Int)) 0 3 1).bind fun aP => ((ref06_Ints.f k aP (([1, 5, 3] : List Int))).bind fun aO => (if aO = true then ((choice_Rising.f (([3, 1, 3] : List Int))).bind fun aL => ((ref06_Ints.f k aL (([1, 3] : List Int))).bind fun aK => (if aK = true then ((choice_Without.f (([1, 2, 1] : List Int)) 1).bind fun aH => (if (aH.length : Int) = 1 then ((choice_Has.f k (([4] : List Int)) 4).bind fun aI => (some aI)) else (some false))) else (some false)))) else (some false)))) else (some false)) else (some false))) = some r := hY_ bI H
 have bV := Zq_.mk bI; clear bI; replace H := ob_ H; obtain ⟨⟨bM, t105⟩, A10, H⟩ := H; (try dsimp only at H); have A1 := Zq_.mk A10; clear A10
 by_cases c2 : bM = 7
 ·rw [if_pos c2] at H; have c2b0 : (bM == 7) = true := beq_iff_eq.mpr c2; have c2b1 : (bM != 7) = false := bne_eq_false_iff_eq.mpr c2; clear c2
  by_cases c3 : t105 = true
  ·subst c3
   rw [if_pos rfl] at H; obtain ⟨bL, bH⟩ : ∃ y_ : List Int, y_ = (([1, 2] : List Int)) := ⟨_, rfl⟩
   replace H : ((choice_Round.f k bL (([5] : List Int)) (([2, 3] : List Int)) 0 3 1).bind fun aP => ((ref06_Ints.f k aP (([1, 5, 3] : List Int))).bind fun aO => (if aO = true then ((choice_Rising.f (([3, 1, 3] : List Int))).bind fun aL => ((ref06_Ints.f k aL (([1, 3] : List Int))).bind fun aK => (if aK = true then ((choice_Without.f (([1, 2, 1] : List Int)) 1).bind fun aH => (if (aH.length : Int) = 1 then ((choice_Has.f k (([4] : List Int)) 4).bind fun aI => (some aI)) else (some false))) else (some false)))) else (some false)))) = some r := hY_ bH H
   have bU := Zq_.mk bH; clear bH; obtain ⟨bW, bG⟩ : ∃ y_ : List Int, y_ = (([5] : List Int)) := ⟨_, rfl⟩
   replace H : ((choice_Round.f k bL bW (([2, 3] : List Int)) 0 3 1).bind fun aP => ((ref06_Ints.f k aP (([1, 5, 3] : List Int))).bind fun aO => (if aO = true then ((choice_Rising.f (([3, 1, 3] : List Int))).bind fun aL => ((ref06_Ints.f k aL (([1, 3] : List Int))).bind fun aK => (if aK = true then ((choice_Without.f (([1, 2, 1] : List Int)) 1).bind fun aH => (if (aH.length : Int) = 1 then ((choice_Has.f k (([4] : List Int)) 4).bind fun aI => (some aI)) else (some false))) else (some false)))) else (some false)))) = some r := hY_ bG H
   have bT := Zq_.mk bG; clear bG; obtain ⟨cD, bF⟩ : ∃ y_ : List Int, y_ = (([2, 3] : List Int)) := ⟨_, rfl⟩
   replace H : ((choice_Round.f k bL bW cD 0 3 1).bind fun aP => ((ref06_Ints.f k aP (([1, 5, 3] : List Int))).bind fun aO => (if aO = true then ((choice_Rising.f (([3, 1, 3] : List Int))).bind fun aL => ((ref06_Ints.f k aL (([1, 3] : List Int))).bind fun aK => (if aK = true then ((choice_Without.f (([1, 2, 1] : List Int)) 1).bind fun aH => (if (aH.length : Int) = 1 then ((choice_Has.f k (([4] : List Int)) 4).bind fun aI => (some aI)) else (some false))) else (some false)))) else (some false)))) = some r := hY_ bF H
   have bS := Zq_.mk bF; clear bF; replace H := ob_ H; obtain ⟨aP, A40, H⟩ := H; (try dsimp only at H); have A4 := Zq_.mk A40; clear A40; obtain ⟨cC, bE⟩ : ∃ y_ : List Int, y_ = (([1, 5, 3] : List Int)) := ⟨_, rfl⟩
   replace H : ((ref06_Ints.f k aP cC).bind fun aO => (if aO = true then ((choice_Rising.f (([3, 1, 3] : List Int))).bind fun aL => ((ref06_Ints.f k aL (([1, 3] : List Int))).bind fun aK => (if aK = true then ((choice_Without.f (([1, 2, 1] : List Int)) 1).bind fun aH => (if (aH.length : Int) = 1 then ((choice_Has.f k (([4] : List Int)) 4).bind fun aI => (some aI)) else (some false))) else (some false)))) else (some false))) = some r := hY_ bE H
   have bR := Zq_.mk bE; clear bE; replace H := ob_ H; obtain ⟨aO, A50, H⟩ := H; (try dsimp only at H); have A5 := Zq_.mk A50; clear A50
   by_cases c6 : aO = true
   ·subst c6
    rw [if_pos rfl] at H; obtain ⟨cB, bD⟩ : ∃ y_ : List Int, y_ = (([3, 1, 3] : List Int)) := ⟨_, rfl⟩
    replace H : ((choice_Rising.f cB).bind fun aL => ((ref06_Ints.f k aL (([1, 3] : List Int))).bind fun aK => (if aK = true then ((choice_Without.f (([1, 2, 1] : List Int)) 1).bind fun aH => (if (aH.length : Int) = 1 then ((choice_Has.f k (([4] : List Int)) 4).bind fun aI => (some aI)) else (some false))) else (some false)))) = some r := hY_ bD H
    have bQ := Zq_.mk bD; clear bD; replace H := ob_ H; obtain ⟨aL, A70, H⟩ := H; (try dsimp only at H); have A7 := Zq_.mk A70; clear A70; obtain ⟨cA, bC⟩ : ∃ y_ : List Int, y_ = (([1, 3] : List Int)) := ⟨_, rfl⟩
    replace H : ((ref06_Ints.f k aL cA).bind fun aK => (if aK = true then ((choice_Without.f (([1, 2, 1] : List Int)) 1).bind fun aH => (if (aH.length : Int) = 1 then ((choice_Has.f k (([4] : List Int)) 4).bind fun aI => (some aI)) else (some false))) else (some false))) = some r := hY_ bC H
    have bP := Zq_.mk bC; clear bC; replace H := ob_ H; obtain ⟨aK, A80, H⟩ := H; (try dsimp only at H); have A8 := Zq_.mk A80; clear A80
    by_cases c9 : aK = true
    ·subst c9
     rw [if_pos rfl] at H; obtain ⟨bZ, bB⟩ : ∃ y_ : List Int, y_ = (([1, 2, 1] : List Int)) := ⟨_, rfl⟩
     replace H : ((choice_Without.f bZ 1).bind fun aH => (if (aH.length : Int) = 1 then ((choice_Has.f k (([4] : List Int)) 4).bind fun aI => (some aI)) else (some false))) = some r := hY_ bB H
     have bO := Zq_.mk bB; clear bB; replace H := ob_ H; obtain ⟨aH, cF, H⟩ := H; (try dsimp only at H); have A10 := Zq_.mk cF; clear cF
     by_cases c11 : (aH.length : Int) = 1
     ·rw [if_pos c11] at H; have c11b0 : ((aH.length : Int) == 1) = true := beq_iff_eq.mpr c11; have c11b1 : ((aH.length : Int) != 1) = false := bne_eq_false_iff_eq.mpr c11; clear c11; obtain ⟨bY, bA⟩ : ∃ y_ : List Int, y_ = (([4] : List Int)) := ⟨_, rfl⟩
      replace H : ((choice_Has.f k bY 4).bind fun aI => (some aI)) = some r := hY_ bA H
      have bN := Zq_.mk bA; clear bA; replace H := ob_ H; obtain ⟨aI, cE, H⟩ := H; (try dsimp only at H); have A12 := Zq_.mk cE; clear cE; obtain rfl := Option.some.inj H
      go_enter Try.func7, Try.ntmps7
      go_wp2_with (first | ((with_reducible refine gate_dst (N := 4) rfl ?_); (try (refine gate_guard (by rfl) ?_; dsimp only)); refine Kd.R_lit (Kd.int .i64) _ 3 ?hg (N := 4) ?hd (xs := ([4, 7] : List Int)) (inner := [.int .i64 4, .int .i64 7]) (ok := fun _ => True) (okp := fun _ => True) ?hr ?hp (fun _ hk => hk) trivial (Below.refl _ _) (Nat.le_refl _) (by simp) ?_; (case hd => rfl); (case hg => rfl); (case hr => first | (go_simp; done) | (go_simp; rfl)); (case hp => exact (Reps.one (show Kd.M (Kd.int .i64) _ _ _ 4 [.int .i64 4] from rfl) (Reps.one (show Kd.M (Kd.int .i64) _ _ _ 7 [.int .i64 7] from rfl) (Reps.none _ _)))); intro v102 w13 bJ hb hg_ hnew_; clear hg_ hnew_; (first | rw [← bV.out] at bJ | (simp only [Int.reduceToNat] at bJ; rw [← bV.out] at bJ)); have aA := Zq_.mk (Kd.R_lower bJ (qa_ (hB_ HB))); replace HB := sB_ HB hb; clear hb bJ; obtain ⟨Ao15, co15, eo15⟩ := Kd.R_slice aA.out; subst eo15) | ((with_reducible refine gate_callee (f := 9) rfl ?_); refine goesL_ (some 5) rfl rfl Try.func9 (by kernel_rfl) rfl #[.slice Ao15 bX.length co15, .int .u32 3] rfl aR_ ?_; (with_reducible refine (choice_One.calls _ _ bX 3 bM true _ ?side1 ?side2 A1.out).mono ?_); (case side1 => exact cX_ ((Kd.R_reads' aA.out).2.2)); (case side2 => exact (Kd.R_reads' aA.out).2.1); rintro e w' ⟨rfl, ⟨nd, rfl⟩⟩; refine ⟨_, rfl, ?_⟩) | ((with_reducible refine gate_dst (N := 14) rfl ?_); (try (refine gate_guard (by rfl) ?_; dsimp only)); refine Kd.R_lit (Kd.int .i64) _ 3 ?hg (N := 14) ?hd (xs := ([1, 2] : List Int)) (inner := [.int .i64 1, .int .i64 2]) (ok := fun _ => True) (okp := fun _ => True) ?hr ?hp (fun _ hk => hk) trivial (Below.refl _ _) (Nat.le_refl _) (by simp) ?_; (case hd => rfl); (case hg => rfl); (case hr => first | (go_simp; done) | (go_simp; rfl)); (case hp => exact (Reps.one (show Kd.M (Kd.int .i64) _ _ _ 1 [.int .i64 1] from rfl) (Reps.one (show Kd.M (Kd.int .i64) _ _ _ 2 [.int .i64 2] from rfl) (Reps.none _ _)))); intro v107 w16 aZ hb hg_ hnew_; clear hg_ hnew_; (first | rw [← bU.out] at aZ | (simp only [Int.reduceToNat] at aZ; rw [← bU.out] at aZ)); have aB := Zq_.mk (Kd.R_lower (Kd.R_new' aZ (Kd.R_lt (vX_ aA))) (qa_ (hB_ HB))); replace aA := Zq_.mk (Kd.R_elder' (vX_ aA) (Kd.R_base aZ) hb); replace HB := sB_ HB hb; clear hb aZ) | ((with_reducible refine gate_dst (N := 15) rfl ?_); (try (refine gate_guard (by rfl) ?_; dsimp only)); refine Kd.R_lit (Kd.int .i64) _ 3 ?hg (N := 15) ?hd (xs := ([5] : List Int)) (inner := [.int .i64 5]) (ok := fun _ => True) (okp := fun _ => True) ?hr ?hp (fun _ hk => hk) trivial (Below.refl _ _) (Nat.le_refl _) (by simp) ?_; (case hd => rfl); (case hg => rfl); (case hr => first | (go_simp; done) | (go_simp; rfl)); (case hp => exact (Reps.one (show Kd.M (Kd.int .i64) _ _ _ 5 [.int .i64 5] from rfl) (Reps.none _ _))); intro v110 w18 aX hb hg_ hnew_; clear hg_ hnew_; (first | rw [← bT.out] at aX | (simp only [Int.reduceToNat] at aX; rw [← bT.out] at aX)); have aC := Zq_.mk (Kd.R_lower (Kd.R_new' (Kd.R_new' aX (Kd.R_lt (vX_ aA))) (Kd.R_lt (vX_ aB))) (qa_ (hB_ HB))); replace aA := Zq_.mk (Kd.R_elder' (vX_ aA) (Kd.R_base aX) hb); replace aB := Zq_.mk (Kd.R_elder' (vX_ aB) (Kd.R_base aX) hb); replace HB := sB_ HB hb; clear hb aX) | ((with_reducible refine gate_dst (N := 16) rfl ?_); (try (refine gate_guard (by rfl) ?_; dsimp only)); refine Kd.R_lit (Kd.int .i64) _ 3 ?hg (N := 16) ?hd (xs := ([2, 3] : List Int)) (inner := [.int .i64 2, .int .i64 3]) (ok := fun _ => True) (okp := fun _ => True) ?hr ?hp (fun _ hk => hk) trivial (Below.refl _ _) (Nat.le_refl _) (by simp) ?_; (case hd => rfl); (case hg => rfl); (case hr => first | (go_simp; done) | (go_simp; rfl)); (case hp => exact (Reps.one (show Kd.M (Kd.int .i64) _ _ _ 2 [.int .i64 2] from rfl) (Reps.one (show Kd.M (Kd.int .i64) _ _ _ 3 [.int .i64 3] from rfl) (Reps.none _ _)))); intro v113 w20 aW hb hg_ hnew_; clear hg_ hnew_; (first | rw [← bS.out] at aW | (simp only [Int.reduceToNat] at aW; rw [← bS.out] at aW)); have aD := Zq_.mk (Kd.R_lower (Kd.R_new' (Kd.R_new' (Kd.R_new' aW (Kd.R_lt (vX_ aA))) (Kd.R_lt (vX_ aB))) (Kd.R_lt (vX_ aC))) (qa_ (hB_ HB))); replace aA := Zq_.mk (Kd.R_elder' (vX_ aA) (Kd.R_base aW) hb); replace aB := Zq_.mk (Kd.R_elder' (vX_ aB) (Kd.R_base aW) hb); replace aC := Zq_.mk (Kd.R_elder' (vX_ aC) (Kd.R_base aW) hb); replace HB := sB_ HB hb; clear hb aW; obtain ⟨Ao22, co22, eo22⟩ := Kd.R_slice aB.out; subst eo22; obtain ⟨Ao23, co23, eo23⟩ := Kd.R_slice aC.out; subst eo23; obtain ⟨Ao24, co24, eo24⟩ := Kd.R_slice aD.out; subst eo24) | (go_at_call 12; (with_reducible refine (choice_Round.calls k _ _ bL _ _ bW _ _ cD 0 3 1 aP _ ?side1 ?side2 ?side3 ?side4 ?side5 ?side6 A4.out).mono ?_); (case side1 => exact cX_ ((Kd.R_reads' aB.out).2.2)); (case side2 => exact (Kd.R_reads' aB.out).2.1); (case side3 => exact cX_ ((Kd.R_reads' aC.out).2.2)); (case side4 => exact (Kd.R_reads' aC.out).2.1); (case side5 => exact cX_ ((Kd.R_reads' aD.out).2.2)); (case side6 => exact (Kd.R_reads' aD.out).2.1); rintro e w25 ⟨v116, rfl, ho0, hb⟩; have aE := Zq_.mk (Kd.R_lower (Kd.R_new' (Kd.R_new' (Kd.R_new' (Kd.R_new' ho0 (Kd.R_lt (vX_ aA))) (Kd.R_lt (vX_ aB))) (Kd.R_lt (vX_ aC))) (Kd.R_lt (vX_ aD))) (qa_ (hB_ HB))); replace aA := Zq_.mk (Kd.R_elder' (vX_ aA) (Kd.R_base ho0) hb); replace aB := Zq_.mk (Kd.R_elder' (vX_ aB) (Kd.R_base ho0) hb); replace aC := Zq_.mk (Kd.R_elder' (vX_ aC) (Kd.R_base ho0) hb); replace aD := Zq_.mk (Kd.R_elder' (vX_ aD) (Kd.R_base ho0) hb); replace HB := sB_ HB hb; (try clear hb); (try clear ho0)) | ((with_reducible refine gate_dst (N := 19) rfl ?_); (try (refine gate_guard (by rfl) ?_; dsimp only)); refine Kd.R_lit (Kd.int .i64) _ 3 ?hg (N := 19) ?hd (xs := ([1, 5, 3] : List Int)) (inner := [.int .i64 1, .int .i64 5, .int .i64 3]) (ok := fun _ => True) (okp := fun _ => True) ?hr ?hp (fun _ hk => hk) trivial (Below.refl _ _) (Nat.le_refl _) (by simp) ?_; (case hd => rfl); (case hg => rfl); (case hr => first | (go_simp; done) | (go_simp; rfl)); (case hp => exact (Reps.one (show Kd.M (Kd.int .i64) _ _ _ 1 [.int .i64 1] from rfl) (Reps.one (show Kd.M (Kd.int .i64) _ _ _ 5 [.int .i64 5] from rfl) (Reps.one (show Kd.M (Kd.int .i64) _ _ _ 3 [.int .i64 3] from rfl) (Reps.none _ _))))); intro v119 w26 aV hb hg_ hnew_; clear hg_ hnew_; (first | rw [← bR.out] at aV | (simp only [Int.reduceToNat] at aV; rw [← bR.out] at aV)); have aF := Zq_.mk (Kd.R_lower (Kd.R_new' (Kd.R_new' (Kd.R_new' (Kd.R_new' (Kd.R_new' aV (Kd.R_lt (vX_ aA))) (Kd.R_lt (vX_ aB))) (Kd.R_lt (vX_ aC))) (Kd.R_lt (vX_ aD))) (Kd.R_lt (vX_ aE))) (qa_ (hB_ HB))); replace aA := Zq_.mk (Kd.R_elder' (vX_ aA) (Kd.R_base aV) hb); replace aB := Zq_.mk (Kd.R_elder' (vX_ aB) (Kd.R_base aV) hb); replace aC := Zq_.mk (Kd.R_elder' (vX_ aC) (Kd.R_base aV) hb); replace aD := Zq_.mk (Kd.R_elder' (vX_ aD) (Kd.R_base aV) hb); replace aE := Zq_.mk (Kd.R_elder' (vX_ aE) (Kd.R_base aV) hb); replace HB := sB_ HB hb; clear hb aV; obtain ⟨Ao28, co28, eo28⟩ := Kd.R_slice aE.out; subst eo28; obtain ⟨Ao29, co29, eo29⟩ := Kd.R_slice aF.out; subst eo29) | (go_at_call 11; (with_reducible refine (ref06_Ints.calls k _ _ aP _ _ cC true _ ?side1 ?side2 ?side3 ?side4 A5.out).mono ?_); (case side1 => exact cX_ ((Kd.R_reads' aE.out).2.2)); (case side2 => exact (Kd.R_reads' aE.out).2.1); (case side3 => exact cX_ ((Kd.R_reads' aF.out).2.2)); (case side4 => exact (Kd.R_reads' aF.out).2.1); rintro e w' ⟨rfl, ⟨nd, rfl⟩⟩) | ((with_reducible refine gate_dst (N := 23) rfl ?_); (try (refine gate_guard (by rfl) ?_; dsimp only)); refine Kd.R_lit (Kd.int .i64) _ 3 ?hg (N := 23) ?hd (xs := ([3, 1, 3] : List Int)) (inner := [.int .i64 3, .int .i64 1, .int .i64 3]) (ok := fun _ => True) (okp := fun _ => True) ?hr ?hp (fun _ hk => hk) trivial (Below.refl _ _) (Nat.le_refl _) (by simp) ?_; (case hd => rfl); (case hg => rfl); (case hr => first | (go_simp; done) | (go_simp; rfl)); (case hp => exact (Reps.one (show Kd.M (Kd.int .i64) _ _ _ 3 [.int .i64 3] from rfl) (Reps.one (show Kd.M (Kd.int .i64) _ _ _ 1 [.int .i64 1] from rfl) (Reps.one (show Kd.M (Kd.int .i64) _ _ _ 3 [.int .i64 3] from rfl) (Reps.none _ _))))); intro v123 w30 aU hb hg_ hnew_; clear hg_ hnew_; (first | rw [← bQ.out] at aU | (simp only [Int.reduceToNat] at aU; rw [← bQ.out] at aU)); have aG := Zq_.mk (Kd.R_lower (Kd.R_new' (Kd.R_new' (Kd.R_new' (Kd.R_new' (Kd.R_new' (Kd.R_new' aU (Kd.R_lt (vX_ aA))) (Kd.R_lt (vX_ aB))) (Kd.R_lt (vX_ aC))) (Kd.R_lt (vX_ aD))) (Kd.R_lt (vX_ aE))) (Kd.R_lt (vX_ aF))) (qa_ (hB_ HB))); replace aA := Zq_.mk (Kd.R_elder' (vX_ aA) (Kd.R_base aU) hb); replace aB := Zq_.mk (Kd.R_elder' (vX_ aB) (Kd.R_base aU) hb); replace aC := Zq_.mk (Kd.R_elder' (vX_ aC) (Kd.R_base aU) hb); replace aD := Zq_.mk (Kd.R_elder' (vX_ aD) (Kd.R_base aU) hb); replace aE := Zq_.mk (Kd.R_elder' (vX_ aE) (Kd.R_base aU) hb); replace aF := Zq_.mk (Kd.R_elder' (vX_ aF) (Kd.R_base aU) hb); replace HB := sB_ HB hb; clear hb aU; obtain ⟨Ao32, co32, eo32⟩ := Kd.R_slice aG.out; subst eo32) | (go_at_call 18; (with_reducible refine (choice_Rising.calls _ _ cB aL _ ?side1 ?side2 A7.out).mono ?_); (case side1 => exact cX_ ((Kd.R_reads' aG.out).2.2)); (case side2 => exact (Kd.R_reads' aG.out).2.1); rintro e w33 ⟨v126, rfl, ho0, hb⟩; have aJ := Zq_.mk (Kd.R_lower (Kd.R_new' (Kd.R_new' (Kd.R_new' (Kd.R_new' (Kd.R_new' (Kd.R_new' (Kd.R_new' ho0 (Kd.R_lt (vX_ aA))) (Kd.R_lt (vX_ aB))) (Kd.R_lt (vX_ aC))) (Kd.R_lt (vX_ aD))) (Kd.R_lt (vX_ aE))) (Kd.R_lt (vX_ aF))) (Kd.R_lt (vX_ aG))) (qa_ (hB_ HB))); replace aA := Zq_.mk (Kd.R_elder' (vX_ aA) (Kd.R_base ho0) hb); replace aB := Zq_.mk (Kd.R_elder' (vX_ aB) (Kd.R_base ho0) hb); replace aC := Zq_.mk (Kd.R_elder' (vX_ aC) (Kd.R_base ho0) hb); replace aD := Zq_.mk (Kd.R_elder' (vX_ aD) (Kd.R_base ho0) hb); replace aE := Zq_.mk (Kd.R_elder' (vX_ aE) (Kd.R_base ho0) hb); replace aF := Zq_.mk (Kd.R_elder' (vX_ aF) (Kd.R_base ho0) hb); replace aG := Zq_.mk (Kd.R_elder' (vX_ aG) (Kd.R_base ho0) hb); replace HB := sB_ HB hb; (try clear hb); (try clear ho0)) | ((with_reducible refine gate_dst (N := 25) rfl ?_); (try (refine gate_guard (by rfl) ?_; dsimp only)); refine Kd.R_lit (Kd.int .i64) _ 3 ?hg (N := 25) ?hd (xs := ([1, 3] : List Int)) (inner := [.int .i64 1, .int .i64 3]) (ok := fun _ => True) (okp := fun _ => True) ?hr ?hp (fun _ hk => hk) trivial (Below.refl _ _) (Nat.le_refl _) (by simp) ?_; (case hd => rfl); (case hg => rfl); (case hr => first | (go_simp; done) | (go_simp; rfl)); (case hp => exact (Reps.one (show Kd.M (Kd.int .i64) _ _ _ 1 [.int .i64 1] from rfl) (Reps.one (show Kd.M (Kd.int .i64) _ _ _ 3 [.int .i64 3] from rfl) (Reps.none _ _)))); intro v129 w34 aS hb hg_ hnew_; clear hg_ hnew_; (first | rw [← bP.out] at aS | (simp only [Int.reduceToNat] at aS; rw [← bP.out] at aS)); have aM := Zq_.mk (Kd.R_lower (Kd.R_new' (Kd.R_new' (Kd.R_new' (Kd.R_new' (Kd.R_new' (Kd.R_new' (Kd.R_new' (Kd.R_new' aS (Kd.R_lt (vX_ aA))) (Kd.R_lt (vX_ aB))) (Kd.R_lt (vX_ aC))) (Kd.R_lt (vX_ aD))) (Kd.R_lt (vX_ aE))) (Kd.R_lt (vX_ aF))) (Kd.R_lt (vX_ aG))) (Kd.R_lt (vX_ aJ))) (qa_ (hB_ HB))); replace aA := Zq_.mk (Kd.R_elder' (vX_ aA) (Kd.R_base aS) hb); replace aB := Zq_.mk (Kd.R_elder' (vX_ aB) (Kd.R_base aS) hb); replace aC := Zq_.mk (Kd.R_elder' (vX_ aC) (Kd.R_base aS) hb); replace aD := Zq_.mk (Kd.R_elder' (vX_ aD) (Kd.R_base aS) hb); replace aE := Zq_.mk (Kd.R_elder' (vX_ aE) (Kd.R_base aS) hb); replace aF := Zq_.mk (Kd.R_elder' (vX_ aF) (Kd.R_base aS) hb); replace aG := Zq_.mk (Kd.R_elder' (vX_ aG) (Kd.R_base aS) hb); replace aJ := Zq_.mk (Kd.R_elder' (vX_ aJ) (Kd.R_base aS) hb); replace HB := sB_ HB hb; clear hb aS; obtain ⟨Ao36, co36, eo36⟩ := Kd.R_slice aJ.out; subst eo36; obtain ⟨Ao37, co37, eo37⟩ := Kd.R_slice aM.out; subst eo37) | (go_at_call 11; (with_reducible refine (ref06_Ints.calls k _ _ aL _ _ cA true _ ?side1 ?side2 ?side3 ?side4 A8.out).mono ?_); (case side1 => exact cX_ ((Kd.R_reads' aJ.out).2.2)); (case side2 => exact (Kd.R_reads' aJ.out).2.1); (case side3 => exact cX_ ((Kd.R_reads' aM.out).2.2)); (case side4 => exact (Kd.R_reads' aM.out).2.1); rintro e w' ⟨rfl, ⟨nd, rfl⟩⟩) | ((with_reducible refine gate_dst (N := 29) rfl ?_); (try (refine gate_guard (by rfl) ?_; dsimp only)); refine Kd.R_lit (Kd.int .i64) _ 3 ?hg (N := 29) ?hd (xs := ([1, 2, 1] : List Int)) (inner := [.int .i64 1, .int .i64 2, .int .i64 1]) (ok := fun _ => True) (okp := fun _ => True) ?hr ?hp (fun _ hk => hk) trivial (Below.refl _ _) (Nat.le_refl _) (by simp) ?_; (case hd => rfl); (case hg => rfl); (case hr => first | (go_simp; done) | (go_simp; rfl)); (case hp => exact (Reps.one (show Kd.M (Kd.int .i64) _ _ _ 1 [.int .i64 1] from rfl) (Reps.one (show Kd.M (Kd.int .i64) _ _ _ 2 [.int .i64 2] from rfl) (Reps.one (show Kd.M (Kd.int .i64) _ _ _ 1 [.int .i64 1] from rfl) (Reps.none _ _))))); intro v133 w38 aQ hb hg_ hnew_; clear hg_ hnew_; (first | rw [← bO.out] at aQ | (simp only [Int.reduceToNat] at aQ; rw [← bO.out] at aQ)); have aR := Zq_.mk (Kd.R_lower (Kd.R_new' (Kd.R_new' (Kd.R_new' (Kd.R_new' (Kd.R_new' (Kd.R_new' (Kd.R_new' (Kd.R_new' (Kd.R_new' aQ (Kd.R_lt (vX_ aA))) (Kd.R_lt (vX_ aB))) (Kd.R_lt (vX_ aC))) (Kd.R_lt (vX_ aD))) (Kd.R_lt (vX_ aE))) (Kd.R_lt (vX_ aF))) (Kd.R_lt (vX_ aG))) (Kd.R_lt (vX_ aJ))) (Kd.R_lt (vX_ aM))) (qa_ (hB_ HB))); replace aA := Zq_.mk (Kd.R_elder' (vX_ aA) (Kd.R_base aQ) hb); replace aB := Zq_.mk (Kd.R_elder' (vX_ aB) (Kd.R_base aQ) hb); replace aC := Zq_.mk (Kd.R_elder' (vX_ aC) (Kd.R_base aQ) hb); replace aD := Zq_.mk (Kd.R_elder' (vX_ aD) (Kd.R_base aQ) hb); replace aE := Zq_.mk (Kd.R_elder' (vX_ aE) (Kd.R_base aQ) hb); replace aF := Zq_.mk (Kd.R_elder' (vX_ aF) (Kd.R_base aQ) hb); replace aG := Zq_.mk (Kd.R_elder' (vX_ aG) (Kd.R_base aQ) hb); replace aJ := Zq_.mk (Kd.R_elder' (vX_ aJ) (Kd.R_base aQ) hb); replace aM := Zq_.mk (Kd.R_elder' (vX_ aM) (Kd.R_base aQ) hb); replace HB := sB_ HB hb; clear hb aQ; obtain ⟨Ao40, co40, eo40⟩ := Kd.R_slice aR.out; subst eo40) | (go_at_call 14; (with_reducible refine (choice_Without.calls _ _ bZ 1 aH _ ?side1 ?side2 A10.out).mono ?_); (case side1 => exact cX_ ((Kd.R_reads' aR.out).2.2)); (case side2 => exact (Kd.R_reads' aR.out).2.1); rintro e w41 ⟨v136, rfl, ho0, hb⟩; have aY := Zq_.mk (Kd.R_lower (Kd.R_new' (Kd.R_new' (Kd.R_new' (Kd.R_new' (Kd.R_new' (Kd.R_new' (Kd.R_new' (Kd.R_new' (Kd.R_new' (Kd.R_new' ho0 (Kd.R_lt (vX_ aA))) (Kd.R_lt (vX_ aB))) (Kd.R_lt (vX_ aC))) (Kd.R_lt (vX_ aD))) (Kd.R_lt (vX_ aE))) (Kd.R_lt (vX_ aF))) (Kd.R_lt (vX_ aG))) (Kd.R_lt (vX_ aJ))) (Kd.R_lt (vX_ aM))) (Kd.R_lt (vX_ aR))) (qa_ (hB_ HB))); replace aA := Zq_.mk (Kd.R_elder' (vX_ aA) (Kd.R_base ho0) hb); replace aB := Zq_.mk (Kd.R_elder' (vX_ aB) (Kd.R_base ho0) hb); replace aC := Zq_.mk (Kd.R_elder' (vX_ aC) (Kd.R_base ho0) hb); replace aD := Zq_.mk (Kd.R_elder' (vX_ aD) (Kd.R_base ho0) hb); replace aE := Zq_.mk (Kd.R_elder' (vX_ aE) (Kd.R_base ho0) hb); replace aF := Zq_.mk (Kd.R_elder' (vX_ aF) (Kd.R_base ho0) hb); replace aG := Zq_.mk (Kd.R_elder' (vX_ aG) (Kd.R_base ho0) hb); replace aJ := Zq_.mk (Kd.R_elder' (vX_ aJ) (Kd.R_base ho0) hb); replace aM := Zq_.mk (Kd.R_elder' (vX_ aM) (Kd.R_base ho0) hb); replace aR := Zq_.mk (Kd.R_elder' (vX_ aR) (Kd.R_base ho0) hb); replace HB := sB_ HB hb; (try clear hb); (try clear ho0); obtain ⟨Ao42, co42, eo42⟩ := Kd.R_slice aY.out; subst eo42) | ((with_reducible refine gate_dst (N := 35) rfl ?_); (try (refine gate_guard (by rfl) ?_; dsimp only)); refine Kd.R_lit (Kd.int .i64) _ 3 ?hg (N := 35) ?hd (xs := ([4] : List Int)) (inner := [.int .i64 4]) (ok := fun _ => True) (okp := fun _ => True) ?hr ?hp (fun _ hk => hk) trivial (Below.refl _ _) (Nat.le_refl _) (by simp) ?_; (case hd => rfl); (case hg => rfl); (case hr => first | (go_simp; done) | (go_simp; rfl)); (case hp => exact (Reps.one (show Kd.M (Kd.int .i64) _ _ _ 4 [.int .i64 4] from rfl) (Reps.none _ _))); intro v139 w43 aN hb hg_ hnew_; clear hg_ hnew_; (first | rw [← bN.out] at aN | (simp only [Int.reduceToNat] at aN; rw [← bN.out] at aN)); have bK := Zq_.mk (Kd.R_lower (Kd.R_new' (Kd.R_new' (Kd.R_new' (Kd.R_new' (Kd.R_new' (Kd.R_new' (Kd.R_new' (Kd.R_new' (Kd.R_new' (Kd.R_new' (Kd.R_new' aN (Kd.R_lt (vX_ aA))) (Kd.R_lt (vX_ aB))) (Kd.R_lt (vX_ aC))) (Kd.R_lt (vX_ aD))) (Kd.R_lt (vX_ aE))) (Kd.R_lt (vX_ aF))) (Kd.R_lt (vX_ aG))) (Kd.R_lt (vX_ aJ))) (Kd.R_lt (vX_ aM))) (Kd.R_lt (vX_ aR))) (Kd.R_lt (vX_ aY))) (qa_ (hB_ HB))); replace aA := Zq_.mk (Kd.R_elder' (vX_ aA) (Kd.R_base aN) hb); replace aB := Zq_.mk (Kd.R_elder' (vX_ aB) (Kd.R_base aN) hb); replace aC := Zq_.mk (Kd.R_elder' (vX_ aC) (Kd.R_base aN) hb); replace aD := Zq_.mk (Kd.R_elder' (vX_ aD) (Kd.R_base aN) hb); replace aE := Zq_.mk (Kd.R_elder' (vX_ aE) (Kd.R_base aN) hb); replace aF := Zq_.mk (Kd.R_elder' (vX_ aF) (Kd.R_base aN) hb); replace aG := Zq_.mk (Kd.R_elder' (vX_ aG) (Kd.R_base aN) hb); replace aJ := Zq_.mk (Kd.R_elder' (vX_ aJ) (Kd.R_base aN) hb); replace aM := Zq_.mk (Kd.R_elder' (vX_ aM) (Kd.R_base aN) hb); replace aR := Zq_.mk (Kd.R_elder' (vX_ aR) (Kd.R_base aN) hb); replace aY := Zq_.mk (Kd.R_elder' (vX_ aY) (Kd.R_base aN) hb); replace HB := sB_ HB hb; clear hb aN; obtain ⟨Ao45, co45, eo45⟩ := Kd.R_slice bK.out; subst eo45) | (go_at_call 16; (with_reducible refine (choice_Has.calls k _ _ bY 4 aI _ ?side1 ?side2 A12.out).mono ?_); (case side1 => exact cX_ ((Kd.R_reads' bK.out).2.2)); (case side2 => exact (Kd.R_reads' bK.out).2.1); rintro e w' ⟨rfl, ⟨nd, rfl⟩⟩))
      go_ret
      exact ⟨by exact eW_, hB_ HB⟩
     ·rw [if_neg c11] at H; exact absurd ((Option.some.inj H).trans HRT.out) (by decide)
    ·rw [if_neg c9] at H; exact absurd ((Option.some.inj H).trans HRT.out) (by decide)
   ·rw [if_neg c6] at H; exact absurd ((Option.some.inj H).trans HRT.out) (by decide)
  ·rw [if_neg c3] at H; exact absurd ((Option.some.inj H).trans HRT.out) (by decide)
 ·rw [if_neg c2] at H; exact absurd ((Option.some.inj H).trans HRT.out) (by decide)
end Go.Proofs.Ytjlemkdilbnmlaa.P

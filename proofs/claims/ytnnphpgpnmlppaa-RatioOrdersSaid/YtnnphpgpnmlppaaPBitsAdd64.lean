/- What printed functions come to, and that the machine's calls do it. No condition. -/
import Derived.Test.YtnnphpgpnmlppaaP0
import Derived.Test.YtnnphpgpnmlppaaHw
namespace Go.Proofs.Ytnnphpgpnmlppaa.P
set_option maxHeartbeats 8000000
set_option maxRecDepth 100000
open Go.RowKit Go.Proofs.YtnnphpgpnmlppaaW.PrintWords Go.Proofs.YtnnphpgpnmlppaaW.PrintLast Go.Proofs.YtnnphpgpnmlppaaW.PrintMore
attribute [local go_sem] max2_int min2_int max_two min_two max_three min_three max_four min_four Go.Proofs.YtnnphpgpnmlppaaW.Hw.string_gtr
set_option linter.unusedVariables false
set_option linter.unusedSimpArgs false
def bits_Add64.f (x y c : Int) : Option (Int × Int) := if c = 0 then some (((x.toNat + y.toNat) % 18446744073709551616 : Nat), ((x.toNat + y.toNat) / 18446744073709551616 : Nat)) else none
theorem bits_Add64.run (x y c t1 t2 : Int) (w : World) (h : bits_Add64.f x y c = some (t1, t2)) :
  (callFunc 21 #[.int .u64 x, .int .u64 y, .int .u64 c]).run Try.prog w = .ok (.value (.tuple #[.int .u64 t1, .int .u64 t2])) w := by
 unfold bits_Add64.f at h
 split at h
 ·rename_i hc
  subst hc; cases h; rw [run_callFunc_extern (fn := Try.f21) Try.func21 (by kernel_rfl) (by kernel_rfl) (by kernel_rfl) (e := add64Entry) (by kernel_rfl)]; rfl
 ·cases h
def bits_Len64.f (x : Int) : Option Int := if 0 ≤ x then (if x ≤ 18446744073709551615 then some (Lib.bitLen x.toNat : Int) else none) else none
theorem len_fin (x y : Int) (c p : Nat) (hc : c ≤ 56) (hy0 : 0 ≤ y) (hy1 : y ≤ 255) (e : y.toNat = x.toNat / p) (s : Lib.bitLen x.toNat = c + Lib.bitLen (x.toNat / p)) :
  wrap64 ((c : Int) + wrap64 (Lib.len8 y)) = (Lib.bitLen x.toNat : Int) := by
 have l := Lib.bitLen_le8' y hy0 hy1; rw [Lib.len8_of y hy0 hy1, s, ← e]; generalize Lib.bitLen y.toNat = L at l ⊢; clear s e
 unfold wrap64
 omega
theorem len_fin0 (y : Int) (hy0 : 0 ≤ y) (hy1 : y ≤ 255) : wrap64 (wrap64 (Lib.len8 y)) = (Lib.bitLen y.toNat : Int) := by
 have l := Lib.bitLen_le8' y hy0 hy1; rw [Lib.len8_of y hy0 hy1]; generalize Lib.bitLen y.toNat = L at l ⊢
 unfold wrap64
 omega
theorem len8tab_get (y : Int) (h : y.toNat < Lib.len8tab.size) : (((Lib.len8tab[y.toNat]'h).toNat : Nat) : Int) = Lib.len8 y := by
 simp only [Lib.len8, ByteArray.getElem?_lt' _ _ h, Option.getD_some]
theorem bits_Len64.calls (x r : Int) (w : World) (h : bits_Len64.f x = some r) :
  Calls Try.prog 27 #[.int .u64 x] w fun e w' => e = .returned (.int .i64 r) ∧ Drawn0 w w' := by
 unfold bits_Len64.f at h
 by_cases h0 : 0 ≤ x
 case neg => rw [if_neg h0] at h; cases h
 rw [if_pos h0] at h
 by_cases h1 : x ≤ 18446744073709551615
 case neg => rw [if_neg h1] at h; cases h
 rw [if_pos h1] at h; obtain rfl := Option.some.inj h; clear h
 go_enter Try.func27, Try.ntmps27
 go_wp2
 all_goals first
  | (exfalso; have hs := Lib.len8tab_size; omega)
  | skip
 all_goals (go_ret; refine ⟨congrArg Ending.returned (congrArg (Value.int IntKind.i64) ?_), Drawn0.refl _⟩)
 all_goals simp only [len8tab_get]
 all_goals first
  | exact len_fin x (x / 4294967296 / 65536 / 256) 56 72057594037927936 (by decide) (by omega) (by omega) (by omega) (Lib.bitLen_shift56 x.toNat (by omega) (by omega))
  | exact len_fin x (x / 4294967296 / 65536) 48 281474976710656 (by decide) (by omega) (by omega) (by omega) (Lib.bitLen_shift48 x.toNat (by omega) (by omega))
  | exact len_fin x (x / 4294967296 / 256) 40 1099511627776 (by decide) (by omega) (by omega) (by omega) (Lib.bitLen_shift40 x.toNat (by omega) (by omega))
  | exact len_fin x (x / 4294967296) 32 4294967296 (by decide) (by omega) (by omega) (by omega) (Lib.bitLen_shift32 x.toNat (by omega) (by omega))
  | exact len_fin x (x / 65536 / 256) 24 16777216 (by decide) (by omega) (by omega) (by omega) (Lib.bitLen_shift24 x.toNat (by omega) (by omega))
  | exact len_fin x (x / 65536) 16 65536 (by decide) (by omega) (by omega) (by omega) (Lib.bitLen_shift16 x.toNat (by omega) (by omega))
  | exact len_fin x (x / 256) 8 256 (by decide) (by omega) (by omega) (by omega) (Lib.bitLen_shift8 x.toNat (by omega) (by omega))
  | exact len_fin0 x (by omega) (by omega)
def bits_Mul64.f (a0 : Int) (a1 : Int) : Option (Int × Int) := some (IntKind.u64.wrap ((IntKind.u64.wrap ((IntKind.u64.wrap ((a0 / 4294967296) * (a1 / 4294967296))) + ((IntKind.u64.wrap ((IntKind.u64.wrap ((a0 / 4294967296) * (Go.bits .and .u64 a1 4294967295))) + ((IntKind.u64.wrap ((Go.bits .and .u64 a0 4294967295) * (Go.bits .and .u64 a1 4294967295))) / 4294967296))) / 4294967296))) + ((IntKind.u64.wrap ((Go.bits .and .u64 (IntKind.u64.wrap ((IntKind.u64.wrap ((a0 / 4294967296) * (Go.bits .and .u64 a1 4294967295))) + ((IntKind.u64.wrap ((Go.bits .and .u64 a0 4294967295) * (Go.bits .and .u64 a1 4294967295))) / 4294967296))) 4294967295) + (IntKind.u64.wrap ((Go.bits .and .u64 a0 4294967295) * (a1 / 4294967296))))) / 4294967296)), IntKind.u64.wrap (a0 * a1))
theorem bits_Mul64.calls (a0 : Int) (a1 : Int) (r1 : Int) (r2 : Int) (w : World) (h : bits_Mul64.f a0 a1 = some (r1, r2)) :
  Calls Try.prog 17 #[.int .u64 a0, .int .u64 a1] w fun e w' => e = .returned (.tuple #[.int .u64 r1, .int .u64 r2]) ∧ Drawn0 w w' := by
 have H : (some (IntKind.u64.wrap ((IntKind.u64.wrap ((IntKind.u64.wrap ((a0 / 4294967296) * (a1 / 4294967296))) + ((IntKind.u64.wrap ((IntKind.u64.wrap ((a0 / 4294967296) * (Go.bits .and .u64 a1 4294967295))) + ((IntKind.u64.wrap ((Go.bits .and .u64 a0 4294967295) * (Go.bits .and .u64 a1 4294967295))) / 4294967296))) / 4294967296))) + ((IntKind.u64.wrap ((Go.bits .and .u64 (IntKind.u64.wrap ((IntKind.u64.wrap ((a0 / 4294967296) * (Go.bits .and .u64 a1 4294967295))) + ((IntKind.u64.wrap ((Go.bits .and .u64 a0 4294967295) * (Go.bits .and .u64 a1 4294967295))) / 4294967296))) 4294967295) + (IntKind.u64.wrap ((Go.bits .and .u64 a0 4294967295) * (a1 / 4294967296))))) / 4294967296)), IntKind.u64.wrap (a0 * a1))) = some (r1, r2) := h; clear h; simp only [Option.some.injEq, Prod.mk.injEq] at H; obtain ⟨rfl, rfl⟩ := H
 go_enter Try.func17, Try.ntmps17
 go_wp2
 go_ret2
 exact ⟨by first | rfl | (simp; done) | (simp [*]; done), by repeat (first | exact Drawn0.refl _ | apply Drawn0.step)⟩
def cmp_isNaN_uint64.f (a0 : Int) : Option (Bool) := some (a0 != a0)
theorem cmp_isNaN_uint64.calls (a0 : Int) (r : Bool) (w : World) (h : cmp_isNaN_uint64.f a0 = some r) :
  Calls Try.prog 26 #[.int .u64 a0] w fun e w' => e = .returned (.bool r) ∧ Drawn0 w w' := by
 have H : (some (a0 != a0)) = some r := h; clear h; obtain rfl := Option.some.inj H
 go_enter Try.func26, Try.ntmps26
 go_wp2
 go_ret
 exact ⟨by first | rfl | (simp; done) | (simp [*]; done), by repeat (first | exact Drawn0.refl _ | apply Drawn0.step)⟩
def cmp_Or_int.l0 : Nat → Int → List Int → Int → Int → Option (Int)
 | 0, _, _, _, _ => none
 | k + 1, x3, x6, x7, x8 => if x8 < x7 then (if 0 ≤ x8 then (if x8 < (x6.length : Int) then (if (rd x6 x8) = x3 then (cmp_Or_int.l0 k x3 x6 x7 (wrap64 (x8 + 1))) else (some (rd x6 x8))) else (none)) else (none)) else (some x3)
def cmp_Or_int.f (k : Nat) (l0 : List Int) : Option (Int) := cmp_Or_int.l0 k 0 l0 (l0.length : Int) 0
theorem cmp_Or_int.mono_l : ∀ k, (∀ y0 y1 y2 y3, LeO (cmp_Or_int.l0 k y0 y1 y2 y3) (cmp_Or_int.l0 (k + 1) y0 y1 y2 y3))
 | 0 => fun _ _ _ _ r h => by simp [cmp_Or_int.l0] at h
 | k + 1 => by
  have ih0 := cmp_Or_int.mono_l k
  ·intro y0 y1 y2 y3
   unfold cmp_Or_int.l0
   with_reducible repeat' first | exact ih0 _ _ _ _ | exact LeO.refl _ | exact LeO.none _ | refine LeO.ite ?_ ?_ | refine LeO.bind ?_ (fun _ => ?_)
theorem cmp_Or_int.mono : ∀ a0 k, LeO (cmp_Or_int.f k a0) (cmp_Or_int.f (k + 1) a0) := by
 intro a0 k; have ih0 := cmp_Or_int.mono_l k
 unfold cmp_Or_int.f
 with_reducible repeat' first | exact ih0 _ _ _ _ | exact LeO.refl _ | exact LeO.none _ | refine LeO.ite ?_ ?_ | refine LeO.bind ?_ (fun _ => ?_)
theorem cmp_Or_int.calls (k : Nat) (A0 : Option Addr) (c0 : Nat) (l0 : List Int) (r : Int) (w : World) (hr0 : Kd.C (Kd.int .i64) w A0 l0.length l0) (hc0 : l0.length ≤ c0) (h : cmp_Or_int.f k l0 = some r) :
  Calls Try.prog 23 #[.slice A0 l0.length c0] w fun e w' => e = .returned (.int .i64 r) ∧ Drawn0 w w' := by
 have HR0 := Zq_.mk hr0; have HC0 := Zq_.mk hc0; clear hr0 hc0; have H : (cmp_Or_int.l0 k 0 l0 (l0.length : Int) 0) = some r := h; clear h; have H' := Zq_.mk H; clear H
 go_enter Try.func23, Try.ntmps23
 go_wp2
 go_loopg [8] k (fun kq v8 w' => ∃ (aA : Int), v8 = .int .i64 aA ∧ Zq_ (cmp_Or_int.l0 kq 0 l0 (l0.length : Int) aA = some r) ∧ Zq_ (kq ≤ k) ∧ Drawn0 w w')
 case atStart => exact ⟨(0), eS_, H', ⟨Nat.le_refl _⟩, by repeat (first | exact Drawn0.refl _ | apply Drawn0.step)⟩
 case round =>
  clear H'; obtain ⟨aA, rfl, HA, HK1, ⟨m1, rfl⟩⟩ := hrel
  cases gk with
  | zero => exact absurd HA.out (by simp [cmp_Or_int.l0])
  | succ k1 =>
   have H := HA.out; clear HA; simp only [cmp_Or_int.l0] at H
   by_cases c2 : aA < (l0.length : Int)
   ·rw [if_pos c2] at H; have c2b0 : decide (aA < (l0.length : Int)) = true := decide_eq_true c2; clear c2
    by_cases c3 : 0 ≤ aA
    ·rw [if_pos c3] at H; have c3b0 : decide (0 ≤ aA) = true := decide_eq_true c3; clear c3
     by_cases c4 : aA < (l0.length : Int)
     ·rw [if_pos c4] at H; have c4b0 : decide (aA < (l0.length : Int)) = true := decide_eq_true c4; clear c4
      by_cases c5 : (rd l0 aA) = 0
      ·rw [if_pos c5] at H; have c5b0 : ((rd l0 aA) == 0) = true := beq_iff_eq.mpr c5; have c5b1 : ((rd l0 aA) != 0) = false := bne_eq_false_iff_eq.mpr c5; clear c5; have H' := Zq_.mk H; clear H; have aC : 0 ≤ (aA : Int) := dA_; have aB : aA < (l0.length : Int) := dA_; obtain ⟨aF, aE, aD⟩ := Kd.at_int HR0.out aA aC aB; cases aE; replace aC := eq_true aC; replace aB := eq_true aB
       go_wp2
       go_roundg k1
       case measure => have := HK1.out; omega
       case rel => exact ⟨(wrap64 (aA + 1)), eS_, H', ⟨by have := HK1.out; omega⟩, by repeat (first | exact Drawn0.refl _ | apply Drawn0.step)⟩
      ·rw [if_neg c5] at H; have c5b0 : ((rd l0 aA) == 0) = false := beq_eq_false_iff_ne.mpr c5; have c5b1 : ((rd l0 aA) != 0) = true := bne_iff_ne.mpr c5; obtain rfl := Option.some.inj H; have aC : 0 ≤ (aA : Int) := dA_; have aB : aA < (l0.length : Int) := dA_; obtain ⟨aF, aE, aD⟩ := Kd.at_int HR0.out aA aC aB; cases aE; replace aC := eq_true aC; replace aB := eq_true aB
       go_wp2
       go_ret
       exact ⟨by first | rfl | (simp; done) | (simp [*]; done), by repeat (first | exact Drawn0.refl _ | apply Drawn0.step)⟩
     ·rw [if_neg c4] at H; exact absurd H (by simp)
    ·rw [if_neg c3] at H; exact absurd H (by simp)
   ·rw [if_neg c2] at H; have c2b0 : decide (aA < (l0.length : Int)) = false := decide_eq_false c2; clear c2; obtain rfl := Option.some.inj H
    go_wp2
    go_ret
    exact ⟨by first | rfl | (simp; done) | (simp [*]; done), by repeat (first | exact Drawn0.refl _ | apply Drawn0.step)⟩
def ratio_Clamp.f (a0 : Int) (a1 : Int) (a2 : Int) : Option (Int) := if a0 < a1 then (some a1) else (if a0 > a2 then (some a2) else (some a0))
theorem ratio_Clamp.calls (a0 : Int) (a1 : Int) (a2 : Int) (r : Int) (w : World) (h : ratio_Clamp.f a0 a1 a2 = some r) :
  Calls Try.prog 13 #[.int .i64 a0, .int .i64 a1, .int .i64 a2] w fun e w' => e = .returned (.int .i64 r) ∧ Drawn0 w w' := by
 have H : (if a0 < a1 then (some a1) else (if a0 > a2 then (some a2) else (some a0))) = some r := h; clear h
 by_cases c4 : a0 < a1
 ·rw [if_pos c4] at H; have c4b0 : decide (a0 < a1) = true := decide_eq_true c4; clear c4; obtain rfl := Option.some.inj H
  go_enter Try.func13, Try.ntmps13
  go_wp2
  go_ret
  exact ⟨by first | rfl | (simp; done) | (simp [*]; done), by repeat (first | exact Drawn0.refl _ | apply Drawn0.step)⟩
 ·rw [if_neg c4] at H; have c4b0 : decide (a0 < a1) = false := decide_eq_false c4; clear c4
  by_cases c5 : a0 > a2
  ·rw [if_pos c5] at H; have c5b0 : decide (a2 < a0) = true := decide_eq_true c5; clear c5; obtain rfl := Option.some.inj H
   go_enter Try.func13, Try.ntmps13
   go_wp2
   go_ret
   exact ⟨by first | rfl | (simp; done) | (simp [*]; done), by repeat (first | exact Drawn0.refl _ | apply Drawn0.step)⟩
  ·rw [if_neg c5] at H; have c5b0 : decide (a2 < a0) = false := decide_eq_false c5; clear c5; obtain rfl := Option.some.inj H
   go_enter Try.func13, Try.ntmps13
   go_wp2
   go_ret
   exact ⟨by first | rfl | (simp; done) | (simp [*]; done), by repeat (first | exact Drawn0.refl _ | apply Drawn0.step)⟩
def bits_LeadingZeros64.f (a0 : Int) : Option (Int) := (bits_Len64.f a0).bind fun aA => (some (wrap64 (64 - aA)))
theorem bits_LeadingZeros64.calls (a0 : Int) (r : Int) (w : World) (h : bits_LeadingZeros64.f a0 = some r) :
  Calls Try.prog 25 #[.int .u64 a0] w fun e w' => e = .returned (.int .i64 r) ∧ Drawn0 w w' := by
 have H : ((bits_Len64.f a0).bind fun aA => (some (wrap64 (64 - aA)))) = some r := h; clear h; replace H := ob_ H; obtain ⟨aA, A20, H⟩ := H; (try dsimp only at H); have A2 := Zq_.mk A20; clear A20; obtain rfl := Option.some.inj H
 go_enter Try.func25, Try.ntmps25
 go_wp2_with (first | ((with_reducible refine qb_ (f := 27) rfl ?_); refine goesL_ (some 4) rfl rfl Try.func27 (by kernel_rfl) rfl #[.int .u64 a0] rfl aR_ ?_; (with_reducible refine (bits_Len64.calls a0 aA _ A2.out).mono ?_); rintro e w' ⟨rfl, ⟨nd, rfl⟩⟩; refine ⟨_, rfl, ?_⟩))
 go_ret
 exact ⟨by first | rfl | (simp; done) | (simp [*]; done), by repeat (first | exact Drawn0.refl _ | apply Drawn0.step)⟩
def cmp_Compare_uint64.f (a0 : Int) (a1 : Int) : Option (Int) := (cmp_isNaN_uint64.f a0).bind fun aB => ((cmp_isNaN_uint64.f a1).bind fun aA => (if aB = true then (if aA = true then (some 0) else (some (-1))) else (if aA = true then (some 1) else (if a0 < a1 then (some (-1)) else (if a0 > a1 then (some 1) else (some 0))))))
theorem cmp_Compare_uint64.calls (a0 : Int) (a1 : Int) (r : Int) (w : World) (h : cmp_Compare_uint64.f a0 a1 = some r) :
  Calls Try.prog 24 #[.int .u64 a0, .int .u64 a1] w fun e w' => e = .returned (.int .i64 r) ∧ Drawn0 w w' := by
 have H : ((cmp_isNaN_uint64.f a0).bind fun aB => ((cmp_isNaN_uint64.f a1).bind fun aA => (if aB = true then (if aA = true then (some 0) else (some (-1))) else (if aA = true then (some 1) else (if a0 < a1 then (some (-1)) else (if a0 > a1 then (some 1) else (some 0))))))) = some r := h; clear h; replace H := ob_ H; obtain ⟨aB, A30, H⟩ := H; (try dsimp only at H); have A3 := Zq_.mk A30; clear A30; replace H := ob_ H; obtain ⟨aA, A40, H⟩ := H; (try dsimp only at H); have A4 := Zq_.mk A40; clear A40
 by_cases c5 : aB = true
 ·subst c5
  rw [if_pos rfl] at H
  by_cases c6 : aA = true
  ·subst c6
   rw [if_pos rfl] at H; obtain rfl := Option.some.inj H
   go_enter Try.func24, Try.ntmps24
   go_wp2_with (first | ((with_reducible refine qb_ (f := 26) rfl ?_); refine goesL_ (some 8) rfl rfl Try.func26 (by kernel_rfl) rfl #[.int .u64 a0] rfl aR_ ?_; (with_reducible refine (cmp_isNaN_uint64.calls a0 true _ A3.out).mono ?_); rintro e w' ⟨rfl, ⟨nd, rfl⟩⟩; refine ⟨_, rfl, ?_⟩) | ((with_reducible refine qb_ (f := 26) rfl ?_); refine goesL_ (some 10) rfl rfl Try.func26 (by kernel_rfl) rfl #[.int .u64 a1] rfl aR_ ?_; (with_reducible refine (cmp_isNaN_uint64.calls a1 true _ A4.out).mono ?_); rintro e w' ⟨rfl, ⟨nd, rfl⟩⟩; refine ⟨_, rfl, ?_⟩))
   go_ret
   exact ⟨by first | rfl | (simp; done) | (simp [*]; done), by repeat (first | exact Drawn0.refl _ | apply Drawn0.step)⟩
  ·replace c6 := Bool.eq_false_iff.mpr c6; subst c6
   have H1 : (some (-1)) = some r := by rw [if_neg (show ¬ (false = true) by decide)] at H; exact H
   clear H; have H := H1; clear H1; obtain rfl := Option.some.inj H
   go_enter Try.func24, Try.ntmps24
   go_wp2_with (first | ((with_reducible refine qb_ (f := 26) rfl ?_); refine goesL_ (some 8) rfl rfl Try.func26 (by kernel_rfl) rfl #[.int .u64 a0] rfl aR_ ?_; (with_reducible refine (cmp_isNaN_uint64.calls a0 true _ A3.out).mono ?_); rintro e w' ⟨rfl, ⟨nd, rfl⟩⟩; refine ⟨_, rfl, ?_⟩) | ((with_reducible refine qb_ (f := 26) rfl ?_); refine goesL_ (some 10) rfl rfl Try.func26 (by kernel_rfl) rfl #[.int .u64 a1] rfl aR_ ?_; (with_reducible refine (cmp_isNaN_uint64.calls a1 false _ A4.out).mono ?_); rintro e w' ⟨rfl, ⟨nd, rfl⟩⟩; refine ⟨_, rfl, ?_⟩))
   go_ret
   exact ⟨by first | rfl | (simp; done) | (simp [*]; done), by repeat (first | exact Drawn0.refl _ | apply Drawn0.step)⟩
 ·replace c5 := Bool.eq_false_iff.mpr c5; subst c5
  have H1 : (if aA = true then (some 1) else (if a0 < a1 then (some (-1)) else (if a0 > a1 then (some 1) else (some 0)))) = some r := by rw [if_neg (show ¬ (false = true) by decide)] at H; exact H
  clear H; have H := H1; clear H1
  by_cases c7 : aA = true
  ·subst c7
   rw [if_pos rfl] at H; obtain rfl := Option.some.inj H
   go_enter Try.func24, Try.ntmps24
   go_wp2_with (first | ((with_reducible refine qb_ (f := 26) rfl ?_); refine goesL_ (some 8) rfl rfl Try.func26 (by kernel_rfl) rfl #[.int .u64 a0] rfl aR_ ?_; (with_reducible refine (cmp_isNaN_uint64.calls a0 false _ A3.out).mono ?_); rintro e w' ⟨rfl, ⟨nd, rfl⟩⟩; refine ⟨_, rfl, ?_⟩) | ((with_reducible refine qb_ (f := 26) rfl ?_); refine goesL_ (some 10) rfl rfl Try.func26 (by kernel_rfl) rfl #[.int .u64 a1] rfl aR_ ?_; (with_reducible refine (cmp_isNaN_uint64.calls a1 true _ A4.out).mono ?_); rintro e w' ⟨rfl, ⟨nd, rfl⟩⟩; refine ⟨_, rfl, ?_⟩))
   go_ret
   exact ⟨by first | rfl | (simp; done) | (simp [*]; done), by repeat (first | exact Drawn0.refl _ | apply Drawn0.step)⟩
  ·replace c7 := Bool.eq_false_iff.mpr c7; subst c7
   have H1 : (if a0 < a1 then (some (-1)) else (if a0 > a1 then (some 1) else (some 0))) = some r := by rw [if_neg (show ¬ (false = true) by decide)] at H; exact H
   clear H; have H := H1; clear H1
   by_cases c8 : a0 < a1
   ·rw [if_pos c8] at H; have c8b0 : decide (a0 < a1) = true := decide_eq_true c8; clear c8; obtain rfl := Option.some.inj H
    go_enter Try.func24, Try.ntmps24
    go_wp2_with (first | ((with_reducible refine qb_ (f := 26) rfl ?_); refine goesL_ (some 8) rfl rfl Try.func26 (by kernel_rfl) rfl #[.int .u64 a0] rfl aR_ ?_; (with_reducible refine (cmp_isNaN_uint64.calls a0 false _ A3.out).mono ?_); rintro e w' ⟨rfl, ⟨nd, rfl⟩⟩; refine ⟨_, rfl, ?_⟩) | ((with_reducible refine qb_ (f := 26) rfl ?_); refine goesL_ (some 10) rfl rfl Try.func26 (by kernel_rfl) rfl #[.int .u64 a1] rfl aR_ ?_; (with_reducible refine (cmp_isNaN_uint64.calls a1 false _ A4.out).mono ?_); rintro e w' ⟨rfl, ⟨nd, rfl⟩⟩; refine ⟨_, rfl, ?_⟩))
    go_ret
    exact ⟨by first | rfl | (simp; done) | (simp [*]; done), by repeat (first | exact Drawn0.refl _ | apply Drawn0.step)⟩
   ·rw [if_neg c8] at H; have c8b0 : decide (a0 < a1) = false := decide_eq_false c8; clear c8
    by_cases c9 : a0 > a1
    ·rw [if_pos c9] at H; have c9b0 : decide (a1 < a0) = true := decide_eq_true c9; clear c9; obtain rfl := Option.some.inj H
     go_enter Try.func24, Try.ntmps24
     go_wp2_with (first | ((with_reducible refine qb_ (f := 26) rfl ?_); refine goesL_ (some 8) rfl rfl Try.func26 (by kernel_rfl) rfl #[.int .u64 a0] rfl aR_ ?_; (with_reducible refine (cmp_isNaN_uint64.calls a0 false _ A3.out).mono ?_); rintro e w' ⟨rfl, ⟨nd, rfl⟩⟩; refine ⟨_, rfl, ?_⟩) | ((with_reducible refine qb_ (f := 26) rfl ?_); refine goesL_ (some 10) rfl rfl Try.func26 (by kernel_rfl) rfl #[.int .u64 a1] rfl aR_ ?_; (with_reducible refine (cmp_isNaN_uint64.calls a1 false _ A4.out).mono ?_); rintro e w' ⟨rfl, ⟨nd, rfl⟩⟩; refine ⟨_, rfl, ?_⟩))
     go_ret
     exact ⟨by first | rfl | (simp; done) | (simp [*]; done), by repeat (first | exact Drawn0.refl _ | apply Drawn0.step)⟩
    ·rw [if_neg c9] at H; have c9b0 : decide (a1 < a0) = false := decide_eq_false c9; clear c9; obtain rfl := Option.some.inj H
     go_enter Try.func24, Try.ntmps24
     go_wp2_with (first | ((with_reducible refine qb_ (f := 26) rfl ?_); refine goesL_ (some 8) rfl rfl Try.func26 (by kernel_rfl) rfl #[.int .u64 a0] rfl aR_ ?_; (with_reducible refine (cmp_isNaN_uint64.calls a0 false _ A3.out).mono ?_); rintro e w' ⟨rfl, ⟨nd, rfl⟩⟩; refine ⟨_, rfl, ?_⟩) | ((with_reducible refine qb_ (f := 26) rfl ?_); refine goesL_ (some 10) rfl rfl Try.func26 (by kernel_rfl) rfl #[.int .u64 a1] rfl aR_ ?_; (with_reducible refine (cmp_isNaN_uint64.calls a1 false _ A4.out).mono ?_); rintro e w' ⟨rfl, ⟨nd, rfl⟩⟩; refine ⟨_, rfl, ?_⟩))
     go_ret
     exact ⟨by first | rfl | (simp; done) | (simp [*]; done), by repeat (first | exact Drawn0.refl _ | apply Drawn0.step)⟩
def ratio_Cmp.j0 : Nat → Int → Int → Int → Int → Bool → Option (Int)
 | 0, _, _, _, _, _ => none
 | k + 1, x0, x1, x2, x3, x26 => if x26 = true then (some 0) else ((bits_Mul64.f (IntKind.u64.wrap (x0)) (IntKind.u64.wrap (x3))).bind fun aD => ((bits_Mul64.f (IntKind.u64.wrap (x2)) (IntKind.u64.wrap (x1))).bind fun aC => ((cmp_Compare_uint64.f aD.1 aC.1).bind fun aB => ((cmp_Compare_uint64.f aD.2 aC.2).bind fun aA => ((cmp_Or_int.f k (([aB, aA] : List Int))).bind fun aE => (some aE))))))
def ratio_Cmp.f (k : Nat) (a0 : Int) (a1 : Int) (a2 : Int) (a3 : Int) : Option (Int) := if a0 < 0 then (ratio_Cmp.j0 k a0 a1 a2 a3 true) else (if a2 < 0 then (ratio_Cmp.j0 k a0 a1 a2 a3 true) else (if a1 < 1 then (ratio_Cmp.j0 k a0 a1 a2 a3 true) else (ratio_Cmp.j0 k a0 a1 a2 a3 (decide (a3 < 1)))))
theorem ratio_Cmp.mono_l : ∀ k, (∀ y0 y1 y2 y3 y4, LeO (ratio_Cmp.j0 k y0 y1 y2 y3 y4) (ratio_Cmp.j0 (k + 1) y0 y1 y2 y3 y4))
 | 0 => fun _ _ _ _ _ r h => by simp [ratio_Cmp.j0] at h
 | k + 1 => by
  have ih0 := ratio_Cmp.mono_l k
  ·intro y0 y1 y2 y3 y4
   unfold ratio_Cmp.j0
   with_reducible repeat' first | exact ih0 _ _ _ _ _ | exact cmp_Or_int.mono _ _ | exact LeO.refl _ | exact LeO.none _ | refine LeO.ite ?_ ?_ | refine LeO.bind ?_ (fun _ => ?_)
theorem ratio_Cmp.mono : ∀ a0 a1 a2 a3 k, LeO (ratio_Cmp.f k a0 a1 a2 a3) (ratio_Cmp.f (k + 1) a0 a1 a2 a3) := by
 intro a0 a1 a2 a3 k; have ih0 := ratio_Cmp.mono_l k
 unfold ratio_Cmp.f
 with_reducible repeat' first | exact ih0 _ _ _ _ _ | exact cmp_Or_int.mono _ _ | exact LeO.refl _ | exact LeO.none _ | refine LeO.ite ?_ ?_ | refine LeO.bind ?_ (fun _ => ?_)
theorem ratio_Cmp.calls (k : Nat) (a0 : Int) (a1 : Int) (a2 : Int) (a3 : Int) (r : Int) (w : World) (h : ratio_Cmp.f k a0 a1 a2 a3 = some r) :
  Calls Try.prog 15 #[.int .i64 a0, .int .i64 a1, .int .i64 a2, .int .i64 a3] w fun e w' => e = .returned (.int .i64 r) ∧ Below w.heap.size w w' := by
 have HB := Zq_.mk (Below.refl w.heap.size w); have H : (if a0 < 0 then (ratio_Cmp.j0 k a0 a1 a2 a3 true) else (if a2 < 0 then (ratio_Cmp.j0 k a0 a1 a2 a3 true) else (if a1 < 1 then (ratio_Cmp.j0 k a0 a1 a2 a3 true) else (ratio_Cmp.j0 k a0 a1 a2 a3 (decide (a3 < 1)))))) = some r := h; clear h; have HC5 := Zq_.mk H; clear H
 go_enter Try.func15, Try.ntmps15
 go_upto_region 1 with (fail)
 go_cut [26] (fun v26 wc => ∃ (kq : Nat) (aF : Bool), v26 = .bool aF ∧ Zq_ (ratio_Cmp.j0 kq a0 a1 a2 a3 aF = some r) ∧ Zq_ (kq ≤ k) ∧ Zq_ (Below w.heap.size w wc))
 case first =>
  have H := HC5.out; clear HC5
  by_cases c6 : a0 < 0
  ·rw [if_pos c6] at H; have aG : decide (a0 < 0) = true := decide_eq_true c6; clear c6; (first | rw [aG] | (simp only [i64_w, i32_w]; rw [aG]) | skip); have H' := Zq_.mk H; clear H
   go_wp2
   go_meet
   case rel => exact ⟨_, (true), eS_, H', ⟨by first | omega | exact Nat.le_refl _⟩, ⟨hB_ HB⟩⟩
  ·rw [if_neg c6] at H; have aG : decide (a0 < 0) = false := decide_eq_false c6; clear c6; (first | rw [aG] | (simp only [i64_w, i32_w]; rw [aG]) | skip)
   by_cases c7 : a2 < 0
   ·rw [if_pos c7] at H; have aR : decide (a2 < 0) = true := decide_eq_true c7; clear c7; have H' := Zq_.mk H; clear H
    go_wp2
    go_meet
    case rel => exact ⟨_, (true), eS_, H', ⟨by first | omega | exact Nat.le_refl _⟩, ⟨hB_ HB⟩⟩
   ·rw [if_neg c7] at H; have aR : decide (a2 < 0) = false := decide_eq_false c7; clear c7
    by_cases c8 : a1 < 1
    ·rw [if_pos c8] at H; have aQ : decide (a1 < 1) = true := decide_eq_true c8; clear c8; have H' := Zq_.mk H; clear H
     go_wp2
     go_meet
     case rel => exact ⟨_, (true), eS_, H', ⟨by first | omega | exact Nat.le_refl _⟩, ⟨hB_ HB⟩⟩
    ·rw [if_neg c8] at H; have aQ : decide (a1 < 1) = false := decide_eq_false c8; clear c8; have H' := Zq_.mk H; clear H
     go_wp2
     go_meet
     case rel => exact ⟨_, (decide (a3 < 1)), eS_, H', ⟨by first | omega | exact Nat.le_refl _⟩, ⟨hB_ HB⟩⟩
 case rest =>
  clear HC5
  try clear c1
  try clear p2
  try clear c6
  try clear aG
  try clear c7
  try clear aR
  try clear c8
  try clear aQ
  obtain ⟨kq, aF, rfl, HA, HJ4, HB⟩ := hcut
  cases kq with
  | zero => exact absurd HA.out (by simp [ratio_Cmp.j0])
  | succ kj4 =>
   have H := HA.out; clear HA; simp only [ratio_Cmp.j0] at H
   by_cases c9 : aF = true
   ·subst c9
    rw [if_pos rfl] at H; obtain rfl := Option.some.inj H
    go_wp2
    go_ret
    exact ⟨by exact eW_, hB_ HB⟩
   ·replace c9 := Bool.eq_false_iff.mpr c9; subst c9
    have H1 : ((bits_Mul64.f (IntKind.u64.wrap (a0)) (IntKind.u64.wrap (a3))).bind fun aD => ((bits_Mul64.f (IntKind.u64.wrap (a2)) (IntKind.u64.wrap (a1))).bind fun aC => ((cmp_Compare_uint64.f aD.1 aC.1).bind fun aB => ((cmp_Compare_uint64.f aD.2 aC.2).bind fun aA => ((cmp_Or_int.f kj4 (([aB, aA] : List Int))).bind fun aE => (some aE)))))) = some r := by rw [if_neg (show ¬ (false = true) by decide)] at H; exact H
    clear H; have H := H1; clear H1; replace H := ob_ H; obtain ⟨⟨aP, aO⟩, aW, H⟩ := H; (try dsimp only at H); have A10 := Zq_.mk aW; clear aW; replace H := ob_ H; obtain ⟨⟨aN, aM⟩, aV, H⟩ := H; (try dsimp only at H); have A11 := Zq_.mk aV; clear aV; replace H := ob_ H; obtain ⟨aB, aU, H⟩ := H; (try dsimp only at H); have A12 := Zq_.mk aU; clear aU; replace H := ob_ H; obtain ⟨aA, aT, H⟩ := H; (try dsimp only at H); have A13 := Zq_.mk aT; clear aT; obtain ⟨aL, aH⟩ : ∃ y_ : List Int, y_ = (([aB, aA] : List Int)) := ⟨_, rfl⟩
    replace H : ((cmp_Or_int.f kj4 aL).bind fun aE => (some aE)) = some r := hY_ aH H
    have aK := Zq_.mk aH; clear aH; replace H := ob_ H; obtain ⟨aE, aS, H⟩ := H; (try dsimp only at H); have A14 := Zq_.mk aS; clear aS; obtain rfl := Option.some.inj H
    go_wp2_with (first | ((with_reducible refine qb_ (f := 17) rfl ?_); refine goesL_ (some 32) rfl rfl Try.func17 (by kernel_rfl) rfl #[.int .u64 (IntKind.u64.wrap (a0)), .int .u64 (IntKind.u64.wrap (a3))] rfl aR_ ?_; (with_reducible refine (bits_Mul64.calls (IntKind.u64.wrap (a0)) (IntKind.u64.wrap (a3)) aP aO _ A10.out).mono ?_); rintro e w' ⟨rfl, ⟨nd, rfl⟩⟩; refine ⟨_, rfl, ?_⟩) | ((with_reducible refine qb_ (f := 17) rfl ?_); refine goesL_ (some 40) rfl rfl Try.func17 (by kernel_rfl) rfl #[.int .u64 (IntKind.u64.wrap (a2)), .int .u64 (IntKind.u64.wrap (a1))] rfl aR_ ?_; (with_reducible refine (bits_Mul64.calls (IntKind.u64.wrap (a2)) (IntKind.u64.wrap (a1)) aN aM _ A11.out).mono ?_); rintro e w' ⟨rfl, ⟨nd, rfl⟩⟩; refine ⟨_, rfl, ?_⟩) | ((with_reducible refine qb_ (f := 24) rfl ?_); refine goesL_ (some 45) rfl rfl Try.func24 (by kernel_rfl) rfl #[.int .u64 aP, .int .u64 aN] rfl aR_ ?_; (with_reducible refine (cmp_Compare_uint64.calls aP aN aB _ A12.out).mono ?_); rintro e w' ⟨rfl, ⟨nd, rfl⟩⟩; refine ⟨_, rfl, ?_⟩) | ((with_reducible refine qb_ (f := 24) rfl ?_); refine goesL_ (some 48) rfl rfl Try.func24 (by kernel_rfl) rfl #[.int .u64 aO, .int .u64 aM] rfl aR_ ?_; (with_reducible refine (cmp_Compare_uint64.calls aO aM aA _ A13.out).mono ?_); rintro e w' ⟨rfl, ⟨nd, rfl⟩⟩; refine ⟨_, rfl, ?_⟩) | ((with_reducible refine gate_dst (N := 49) rfl ?_); refine Kd.R_lit (Kd.int .i64) _ 3 ?hg (N := 49) ?hd (xs := ([aB, aA] : List Int)) (inner := [.int .i64 aB, .int .i64 aA]) (ok := fun _ => True) (okp := fun _ => True) ?hr ?hp (fun _ hk => hk) trivial (Below.refl _ _) (Nat.le_refl _) (by simp) ?_; (case hd => rfl); (case hg => rfl); (case hr => first | (go_simp; done) | (go_simp; rfl)); (case hp => exact (Reps.one (show Kd.M (Kd.int .i64) _ _ _ aB [.int .i64 aB] from rfl) (Reps.one (show Kd.M (Kd.int .i64) _ _ _ aA [.int .i64 aA] from rfl) (Reps.none _ _)))); intro v108 w15 aI hb hg_ hnew_; clear hg_ hnew_; (first | rw [← aK.out] at aI | (simp only [Int.reduceToNat] at aI; rw [← aK.out] at aI)); have aJ := Zq_.mk (Kd.R_lower aI (below_size (hB_ HB))); replace HB := sB_ HB hb; clear hb aI; obtain ⟨Ao17, co17, eo17⟩ := Kd.R_slice aJ.out; subst eo17) | ((with_reducible refine qb_ (f := 23) rfl ?_); refine goesL_ (some 50) rfl rfl Try.func23 (by kernel_rfl) rfl #[.slice Ao17 aL.length co17] rfl aR_ ?_; (with_reducible refine (cmp_Or_int.calls kj4 _ _ aL aE _ ?side1 ?side2 A14.out).mono ?_); (case side1 => exact cX_ ((Kd.R_reads' aJ.out).2.2)); (case side2 => exact (Kd.R_reads' aJ.out).2.1); rintro e w' ⟨rfl, ⟨nd, rfl⟩⟩; refine ⟨_, rfl, ?_⟩))
    go_ret
    exact ⟨by exact eW_, hB_ HB⟩
end Go.Proofs.Ytnnphpgpnmlppaa.P

/- The plain law of the reference's products, means and fractions, bit by bit (without quotients and fractions). No program runs here. No condition. -/
import Derived.Test.YtoghjpoblbdnpaaPRef22Without
import Derived.Test.YtoghjpoblbdnpaaPlMean
namespace Go.Proofs.Ytoghjpoblbdnpaa.PlRef09A
open Go.RowKit Go.Proofs.Ytoghjpoblbdnpaa.P Go.Proofs.YtoghjpoblbdnpaaW.PrintWords Go.Proofs.YtoghjpoblbdnpaaW.PrintLast Go.Proofs.YtoghjpoblbdnpaaW.PrintMore Go.Proofs.Ytoghjpoblbdnpaa.Pl09
set_option linter.unusedSimpArgs false
set_option linter.unusedVariables false
def hi (x : Int) : Int := x / 18446744073709551616
def lo (x : Int) : Int := x % 18446744073709551616
theorem add (x y : Int) (hx : 0 ≤ x) (hy : 0 ≤ y) (h : x + y < 340282366920938463463374607431768211456) : ref09_Add.f (hi x) (lo x) (hi y) (lo y) = some (hi (x + y), lo (x + y)) := by
 unfold ref09_Add.f hi lo
 simp only [IntKind.wrap_u64]
 split <;> (congr 2 <;> omega)
theorem below (x y : Int) (hx : 0 ≤ x) (hy : 0 ≤ y) : ref09_Below.f (hi x) (lo x) (hi y) (lo y) = some (decide (x < y)) := by
 unfold ref09_Below.f hi lo
 split
 ·rw [decide_eq_true (show x < y by omega)]
 ·split
  ·congr 1
   rw [decide_eq_decide]
   omega
  ·rw [decide_eq_false (show ¬ x < y by omega)]
theorem mul_l (n : Nat) : ∀ (b sum step : Int), b.toNat ≤ n → 0 ≤ b → b ≤ 9223372036854775807 → 0 ≤ sum → 0 ≤ step → sum + step * b < 170141183460469231731687303715884105728 →
  Ev (fun k => ref09_Mul.l0 k b (hi sum) (lo sum) (hi step) (lo step)) (hi (sum + step * b), lo (sum + step * b)) := by
 induction n with
 | zero =>
  intro b sum step hn hb hb1 h0 h1 h
  have e : b = 0 := by omega
  subst e; refine Ev.step (fun k => by rw [ref09_Mul.l0]) ?_; simp only [show ¬ (0 : Int) > 0 by decide, ↓reduceIte, Int.mul_zero, Int.add_zero]; exact Ev.now _
 | succ n ih =>
  intro b sum step hn hb hb1 h0 h1 h; refine Ev.step (fun k => by rw [ref09_Mul.l0]) ?_
  by_cases hz : b = 0
  ·subst hz; simp only [show ¬ (0 : Int) > 0 by decide, ↓reduceIte, Int.mul_zero, Int.add_zero]; exact Ev.now _
  ·have hp : b > 0 := by omega
   have hsb : step ≤ step * b := by
    have := Int.mul_le_mul_of_nonneg_left (show 1 ≤ b by omega) h1
    omega
   have e1 : Int.tdiv b 2 = b / 2 := Int.tdiv_eq_ediv_of_nonneg hb; have e2 : Int.tmod b 2 = b % 2 := Int.tmod_eq_emod_of_nonneg hb; have e3 : wrap64 (b / 2) = b / 2 := wrap_id _ (by omega) (by omega)
   have e4 : (step + step) * (b / 2) = step * (2 * (b / 2)) := by rw [← Int.mul_assoc, Int.mul_comm step 2]; congr 1; omega
   have hadd := add step step h1 h1 (by omega); simp only [hp, ↓reduceIte, e1, e2, e3, hadd, Option.bind_some]
   by_cases ho : b % 2 = 1
   ·have e5 : step * b = step * (2 * (b / 2)) + step := by
     have : b = 2 * (b / 2) + 1 := by omega
     calc step * b = step * (2 * (b / 2) + 1) := by rw [← this]
      _ = _ := by rw [Int.mul_add, Int.mul_one]
    have hadd2 := add sum step h0 h1 (by omega); simp only [ho, ↓reduceIte, hadd2, Option.bind_some]; have i := ih (b / 2) (sum + step) (step + step) (by omega) (by omega) (by omega) (by omega) (by omega) (by omega)
    have e6 : sum + step + (step + step) * (b / 2) = sum + step * b := by omega
    rw [e6] at i; exact i
   ·have e5 : step * b = step * (2 * (b / 2)) := by
     have : b = 2 * (b / 2) := by omega
     rw [← this]
    simp only [ho, ↓reduceIte]; have i := ih (b / 2) sum (step + step) (by omega) (by omega) (by omega) h0 (by omega) (by omega)
    have e6 : sum + (step + step) * (b / 2) = sum + step * b := by omega
    rw [e6] at i; exact i
theorem mul (a b : Int) (ha : 0 ≤ a) (ha1 : a ≤ 9223372036854775807) (hb : 0 ≤ b) (hb1 : b ≤ 9223372036854775807) : Ev (fun k => ref09_Mul.f k a b) (hi (a * b), lo (a * b)) := by
 have hp := mul_lt ha ha1 hb hb1; have i := mul_l b.toNat b 0 a (Nat.le_refl _) hb hb1 (by decide) ha (by omega)
 have e : IntKind.u64.wrap a = lo a := by rw [IntKind.wrap_u64]; rfl
 have e2 : hi a = 0 := by unfold hi; omega
 rw [Int.zero_add] at i
 unfold ref09_Mul.f
 rw [e]; rw [e2] at i; exact i
theorem shl1 : ∀ b : Fin 63, shl .i64 1 (((b : Nat) : Int)) = ((2 ^ (b : Nat) : Nat) : Int) := by decide +kernel
theorem shl_at (b : Nat) (h : b < 63) : shl .i64 1 (IntKind.u64.wrap (b : Int)) = ((2 ^ b : Nat) : Int) := by
 rw [u_id _ (by omega) (by omega)]; exact shl1 ⟨b, h⟩
theorem pow_le62 (b : Nat) (h : b < 63) : 1 ≤ ((2 ^ b : Nat) : Int) ∧ ((2 ^ b : Nat) : Int) ≤ 4611686018427387904 := by
 have h1 : 1 ≤ 2 ^ b := Nat.one_le_two_pow
 have h2 : 2 ^ b ≤ 4611686018427387904 := by
  have := Nat.pow_le_pow_right (show 0 < 2 by decide) (show b ≤ 62 by omega)
  simpa using this
 exact ⟨Int.ofNat_le.2 h1, Int.ofNat_le.2 h2⟩
theorem cl_mn (x : Int) : mn (mx x 0) 1125899906842624 = cl x := by unfold mn mx cl; split <;> split <;> (try split) <;> omega
theorem mean_l1 (l : List Int) (hl : l.length ≤ 1000) (h1 : 1 ≤ l.length) (p : Int) (hp : 0 ≤ p) (hq : p / (l.length : Int) ≤ 1125899906842624) : ∀ (b : Nat) (n : Int), b ≤ 51 → 0 ≤ n → n ≤ p / (l.length : Int) → p / (l.length : Int) < n + ((2 ^ b : Nat) : Int) →
  Ev (fun k => ref09_Mean.l1 k l n ((b : Int) - 1) (hi p) (lo p)) (p / (l.length : Int))
 | 0, n, hb, h0, h1', h2 => by
  have e : p / (l.length : Int) = n := by simp at h2; omega
  refine Ev.step (fun k => by rw [ref09_Mean.l1]) ?_; simp only [show ¬ (((0 : Nat) : Int) - 1 ≥ 0) by decide, ↓reduceIte]; rw [e]; exact Ev.now _
 | b + 1, n, hb, h0, h1', h2 => by
  have hw := pow_le62 b (by omega); have hs := shl_at b (by omega)
  have e1 : (((b + 1 : Nat) : Int) - 1) = (b : Int) := by omega
  have e2 : wrap64 ((b : Int) - 1) = (b : Int) - 1 := wrap_id _ (by omega) (by omega)
  have h2' : p / (l.length : Int) < n + ((2 ^ b : Nat) : Int) + ((2 ^ b : Nat) : Int) := by rw [Nat.pow_succ] at h2; omega
  clear h2; generalize hw_ : ((2 ^ b : Nat) : Int) = w at *; have e3 : wrap64 (n + w) = n + w := wrap_id _ (by omega) (by omega); refine Ev.step (fun k => by rw [ref09_Mean.l1]) ?_; rw [e1]; simp only [show (b : Int) ≥ 0 by omega, show 0 ≤ IntKind.u64.wrap (b : Int) by rw [IntKind.wrap_u64]; omega, hs, e2, e3, ↓reduceIte]; have hcm := mul (l.length : Int) (n + w) (by omega) (by omega) (by omega) (by omega); have hcm0 : 0 ≤ (l.length : Int) * (n + w) := Int.mul_nonneg (by omega) (by omega); have hbel := below p ((l.length : Int) * (n + w)) hp hcm0; refine Ev.bind hcm ?_; simp only [hbel, Option.bind_some]
  by_cases hlt : p < (l.length : Int) * (n + w)
  ·simp only [hlt, decide_true, ↓reduceIte]; have h3 : p / (l.length : Int) < n + w := Int.ediv_lt_of_lt_mul (by omega) (by rw [Int.mul_comm]; exact hlt); exact mean_l1 l hl h1 p hp hq b n (by omega) h0 h1' (by rw [hw_]; omega)
  ·simp only [hlt, decide_false, Bool.false_eq_true, ↓reduceIte]; have h3 : n + w ≤ p / (l.length : Int) := (Int.le_ediv_iff_mul_le (by omega)).2 (by rw [Int.mul_comm]; omega); exact mean_l1 l hl h1 p hp hq b (n + w) (by omega) (by omega) h3 (by rw [hw_]; omega)
theorem mean_l0 (l : List Int) (hl : l.length ≤ 1000) (h1 : 1 ≤ l.length) : ∀ (suf pre : List Int), pre ++ suf = l →
  Ev (fun k => ref09_Mean.l0 k l (pre.length : Int) (hi (S pre)) (lo (S pre))) (S l / (l.length : Int))
 | [], pre, e => by
  have e' : pre = l := by simpa using e
  subst e'; have hb := S_bd pre; refine Ev.step (fun k => by rw [ref09_Mean.l0]) ?_; simp only [Int.lt_irrefl, show ¬ ((pre.length : Int) = 0) by omega, ↓reduceIte]; have h2 : 0 ≤ S pre / (pre.length : Int) := Int.ediv_nonneg hb.1 (by omega)
  have h3 : S pre / (pre.length : Int) ≤ 1125899906842624 := by
   refine Int.ediv_le_of_le_mul (by omega) ?_; rw [Int.mul_comm]; exact hb.2
  exact mean_l1 pre hl h1 (S pre) hb.1 h3 51 0 (by decide) (by decide) h2 (by simp; omega)
 | x :: suf, pre, e => by
  have hlen : l.length = pre.length + (suf.length + 1) := by rw [← e]; simp
  have hb := S_bd pre; have hc := cl_bd x
  have hrd : rd l (pre.length : Int) = x := by rw [← e]; exact rd_mid pre x suf
  have hs : S (pre ++ [x]) = S pre + cl x := by rw [S_app]; simp [S]
  have e1 : wrap64 ((pre.length : Int) + 1) = ((pre ++ [x]).length : Int) := by rw [wrap_id _ (by omega) (by omega)]; simp
  have hadd := add (S pre) (cl x) hb.1 hc.1 (by omega)
  have eh : hi (cl x) = 0 := by unfold hi; omega
  have el : lo (cl x) = cl x := by unfold lo; omega
  rw [eh, el] at hadd; refine Ev.step (fun k => by rw [ref09_Mean.l0]) ?_; simp only [show (pre.length : Int) < (l.length : Int) by omega, show (0 : Int) ≤ (pre.length : Int) by omega, hrd, cl_mn, hadd, Option.bind_some, e1, ↓reduceIte]; rw [← hs]; exact mean_l0 l hl h1 suf (pre ++ [x]) (by rw [← e]; simp)
theorem mean (l : List Int) (hl : l.length ≤ 1000) (h1 : 1 ≤ l.length) : Ev (fun k => ref09_Mean.f k l) (S l / (l.length : Int)) := by
 unfold ref09_Mean.f
 exact mean_l0 l hl h1 l [] rfl
theorem mean_nil : Ev (fun k => ref09_Mean.f k []) 0 := by
 unfold ref09_Mean.f
 refine Ev.step (fun k => by rw [ref09_Mean.l0]) ?_; simp only [List.length_nil, show ¬ ((0 : Int) < ((0 : Nat) : Int)) by decide, show ((0 : Nat) : Int) = 0 from rfl, ↓reduceIte]; exact Ev.now _
end Go.Proofs.Ytoghjpoblbdnpaa.PlRef09A

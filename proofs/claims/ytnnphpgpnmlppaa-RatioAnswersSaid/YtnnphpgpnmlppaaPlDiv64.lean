/- The division of two words by one, digit by digit: what the printed bits.Div64 answers is the quotient. No program runs here. No condition. -/
import Derived.Test.YtnnphpgpnmlppaaPBitsDiv64
import Derived.Test.YtnnphpgpnmlppaaPBitsLeadingZeros64
import Derived.Test.YtnnphpgpnmlppaaPBitsLen64
import Derived.IntWalk
import Derived.Laws.MathBits
import Derived.Laws.BitsAllLaws
namespace Go.Proofs.Ytnnphpgpnmlppaa.PlDiv64
open Go.RowKit Go.Proofs.Ytnnphpgpnmlppaa.P Go.Proofs.YtnnphpgpnmlppaaW.PrintWords Go.Proofs.YtnnphpgpnmlppaaW.PrintLast Go.Proofs.YtnnphpgpnmlppaaW.PrintMore
set_option linter.unusedSimpArgs false
set_option linter.unusedVariables false
theorem u_id (x : Int) (h0 : 0 ≤ x) (h1 : x ≤ 18446744073709551615) : IntKind.u64.wrap x = x := IntWalk.u64_in x ⟨h0, h1⟩
/-- One digit's guess q with its rest r: what the loop asks of it. -/
structure Guess (y yn1 yn0 u u1 q r : Int) : Prop where
 hy : y = yn1 * 4294967296 + yn0
 y1 : 2147483648 ≤ yn1
 y1' : yn1 ≤ 4294967295
 y0 : 0 ≤ yn0
 y0' : yn0 ≤ 4294967295
 u0 : 0 ≤ u
 ul : u < y
 v0 : 0 ≤ u1
 v1 : u1 ≤ 4294967295
 hq : q * yn1 + r = u
 r0 : 0 ≤ r
 r1 : r ≤ 4294967295
 q0 : 0 ≤ q
 q1 : q ≤ 4294967297
 ge : (u * 4294967296 + u1) / y ≤ q
theorem Guess.expand {y yn1 yn0 u u1 q r : Int} (g : Guess y yn1 yn0 u u1 q r) : q * y = (u - r) * 4294967296 + q * yn0 := by
 have h := g.hq
 rw [g.hy, Int.mul_add, ← Int.mul_assoc]
 have : q * yn1 = u - r := by omega
 rw [this]
theorem Guess.dig {y yn1 yn0 u u1 q r : Int} (g : Guess y yn1 yn0 u u1 q r) : (u * 4294967296 + u1) / y < 4294967296 := by
 have := g.hy; have := g.y1; have := g.y0; have := g.ul; have := g.v1
 exact Int.ediv_lt_of_lt_mul (by omega) (by omega)
theorem Guess.prod {y yn1 yn0 u u1 q r : Int} (g : Guess y yn1 yn0 u u1 q r) : 0 ≤ q * yn0 ∧ q * yn0 ≤ 18446744073709551615 := by
 refine ⟨Int.mul_nonneg g.q0 g.y0, ?_⟩
 have := Int.mul_le_mul g.q1 g.y0' g.y0 (by decide : (0 : Int) ≤ 4294967297)
 omega
theorem Guess.stop {y yn1 yn0 u u1 q r : Int} (g : Guess y yn1 yn0 u u1 q r) (h : q * yn0 ≤ 4294967296 * r + u1) : (u * 4294967296 + u1) / y = q := by
 have e := g.expand
 have hy := g.hy; have := g.y1; have := g.y0
 have : q ≤ (u * 4294967296 + u1) / y := (Int.le_ediv_iff_mul_le (by omega)).2 (by omega)
 have := g.ge
 omega
theorem Guess.more {y yn1 yn0 u u1 q r : Int} (g : Guess y yn1 yn0 u u1 q r) (h : 4294967296 ≤ q ∨ q * yn0 > 4294967296 * r + u1) : (u * 4294967296 + u1) / y ≤ q - 1 := by
 rcases h with h | h
 ·have := g.dig; omega
 ·have e := g.expand
  have hy := g.hy; have := g.y1; have := g.y0
  have : (u * 4294967296 + u1) / y < q := Int.ediv_lt_of_lt_mul (by omega) (by omega)
  omega
theorem Guess.pos {y yn1 yn0 u u1 q r : Int} (g : Guess y yn1 yn0 u u1 q r) (h : 4294967296 ≤ q ∨ q * yn0 > 4294967296 * r + u1) : 1 ≤ q := by
 rcases h with h | h
 ·omega
 ·have := g.q0
  by_cases e : q = 0
  ·subst e
   have := g.r0; have := g.v0
   omega
  ·omega
theorem Guess.next {y yn1 yn0 u u1 q r : Int} (g : Guess y yn1 yn0 u u1 q r) (h : 4294967296 ≤ q ∨ q * yn0 > 4294967296 * r + u1) (hr : r + yn1 ≤ 4294967295) : Guess y yn1 yn0 u u1 (q - 1) (r + yn1) := by
 have hm := g.more h
 have hp := g.pos h
 refine ⟨g.hy, g.y1, g.y1', g.y0, g.y0', g.u0, g.ul, g.v0, g.v1, ?_, ?_, hr, by omega, ?_, hm⟩
 ·rw [Int.sub_mul, Int.one_mul]; have := g.hq; omega
 ·have := g.r0; have := g.y1; omega
 ·have := g.q1; omega
theorem Guess.over {y yn1 yn0 u u1 q r : Int} (g : Guess y yn1 yn0 u u1 q r) (h : 4294967296 ≤ q ∨ q * yn0 > 4294967296 * r + u1) (hr : 4294967296 ≤ r + yn1) : (u * 4294967296 + u1) / y = q - 1 := by
 have hm := g.more h
 have hp := g.pos h
 have e := g.expand
 have hy := g.hy; have := g.y1; have := g.y0
 have e1 : (q - 1) * y = q * y - y := by rw [Int.sub_mul, Int.one_mul]
 have e2 : (q - 1) * yn0 = q * yn0 - yn0 := by rw [Int.sub_mul, Int.one_mul]
 have h3 : (q - 1) * yn0 ≤ 4294967296 * 4294967295 := Int.mul_le_mul (by have := g.q1; omega) g.y0' g.y0 (by decide)
 have hv := g.v0
 have : q - 1 ≤ (u * 4294967296 + u1) / y := (Int.le_ediv_iff_mul_le (by omega)).2 (by omega)
 omega
/-- The first loop finds the digit. -/
theorem loop0 (s un0 : Int) (y yn1 yn0 u u1 : Int) (res : Int × Int) (hk : Ev (fun k => bits_Div64.j2 k y s yn1 yn0 u u1 un0 ((u * 4294967296 + u1) / y)) res) : ∀ (n : Nat) (q r : Int), (q - (u * 4294967296 + u1) / y).toNat ≤ n →
  Guess y yn1 yn0 u u1 q r → Ev (fun k => bits_Div64.l0 k y s yn1 yn0 u u1 un0 q r) res := by
 intro n
 induction n with
 | zero =>
  intro q r hn g
  have hge := g.ge
  have e : (u * 4294967296 + u1) / y = q := by omega
  have hns : ¬ (4294967296 ≤ q ∨ q * yn0 > 4294967296 * r + u1) := fun h => by have := g.more h; omega
  have hp := g.prod
  have hv0 := g.v0; have hv1 := g.v1; have hr0 := g.r0; have hr1 := g.r1
  refine Ev.step (fun k => by rw [bits_Div64.l0]) ?_
  have c1 : ¬ q ≥ 4294967296 := by omega
  have c2 : ¬ q * yn0 > 4294967296 * r + u1 := by omega
  simp only [c1, ↓reduceIte, u_id (q * yn0) hp.1 hp.2, u_id (4294967296 * r) (by omega) (by omega), u_id (4294967296 * r + u1) (by omega) (by omega), c2, decide_false]
  refine Ev.step (fun k => by rw [bits_Div64.j1]) ?_
  simp only [Bool.false_eq_true, ↓reduceIte]
  rw [e] at hk
  exact hk
 | succ n ih =>
  intro q r hn g
  have hp := g.prod
  have hv0 := g.v0; have hv1 := g.v1; have hr0 := g.r0; have hr1 := g.r1; have hq0 := g.q0; have hq1 := g.q1; have hy1 := g.y1; have hy1' := g.y1'
  refine Ev.step (fun k => by rw [bits_Div64.l0]) ?_
  simp only [u_id (q * yn0) hp.1 hp.2, u_id (4294967296 * r) (by omega) (by omega), u_id (4294967296 * r + u1) (by omega) (by omega)]
  by_cases hc : 4294967296 ≤ q ∨ q * yn0 > 4294967296 * r + u1
  ·have hpos := g.pos hc
   have go : Ev (fun k => bits_Div64.j1 k y s yn1 yn0 u u1 un0 q r true) res := by
    refine Ev.step (fun k => by rw [bits_Div64.j1]) ?_
    simp only [↓reduceIte, u_id (r + yn1) (by omega) (by omega), u_id (q - 1) (by omega) (by omega)]
    by_cases ho : r + yn1 ≥ 4294967296
    ·simp only [ho, ↓reduceIte]
     rw [g.over hc ho] at hk
     exact hk
    ·simp only [ho, ↓reduceIte]
     exact ih (q - 1) (r + yn1) (by have := g.more hc; omega) (g.next hc (by omega))
   by_cases c1 : q ≥ 4294967296
   ·simp only [c1, ↓reduceIte]
    exact go
   ·have c2 : q * yn0 > 4294967296 * r + u1 := by omega
    simp only [c1, c2, decide_true, ↓reduceIte]
    exact go
  ·have c1 : ¬ q ≥ 4294967296 := by omega
   have c2 : ¬ q * yn0 > 4294967296 * r + u1 := by omega
   simp only [c1, c2, decide_false, ↓reduceIte]
   refine Ev.step (fun k => by rw [bits_Div64.j1]) ?_
   simp only [Bool.false_eq_true, ↓reduceIte]
   rw [g.stop (by omega)] at hk
   exact hk
def done (y s u v d q : Int) : Int × Int := (IntKind.u64.wrap (IntKind.u64.wrap (d * 4294967296) + q), shr .u64 (IntKind.u64.wrap (IntKind.u64.wrap (IntKind.u64.wrap (u * 4294967296) + v) - IntKind.u64.wrap (q * y))) s)
/-- The second loop finds the digit, and the answer. -/
theorem loop1 (s d : Int) (hs : 0 ≤ s) (y yn1 yn0 u u1 : Int) : ∀ (n : Nat) (q r : Int), (q - (u * 4294967296 + u1) / y).toNat ≤ n →
  Guess y yn1 yn0 u u1 q r → Ev (fun k => bits_Div64.l1 k y s yn1 yn0 u1 d r u q) (done y s u u1 d ((u * 4294967296 + u1) / y)) := by
 intro n
 induction n with
 | zero =>
  intro q r hn g
  have hge := g.ge
  have e : (u * 4294967296 + u1) / y = q := by omega
  have hns : ¬ (4294967296 ≤ q ∨ q * yn0 > 4294967296 * r + u1) := fun h => by have := g.more h; omega
  have hp := g.prod
  have hv0 := g.v0; have hv1 := g.v1; have hr0 := g.r0; have hr1 := g.r1
  refine Ev.step (fun k => by rw [bits_Div64.l1]) ?_
  have c1 : ¬ q ≥ 4294967296 := by omega
  have c2 : ¬ q * yn0 > 4294967296 * r + u1 := by omega
  simp only [c1, ↓reduceIte, u_id (q * yn0) hp.1 hp.2, u_id (4294967296 * r) (by omega) (by omega), u_id (4294967296 * r + u1) (by omega) (by omega), c2, decide_false]
  refine Ev.step (fun k => by rw [bits_Div64.j4]) ?_
  simp only [Bool.false_eq_true, hs, ↓reduceIte]
  rw [e]
  exact Ev.now _
 | succ n ih =>
  intro q r hn g
  have hp := g.prod
  have hv0 := g.v0; have hv1 := g.v1; have hr0 := g.r0; have hr1 := g.r1; have hq0 := g.q0; have hq1 := g.q1; have hy1 := g.y1; have hy1' := g.y1'
  refine Ev.step (fun k => by rw [bits_Div64.l1]) ?_
  simp only [u_id (q * yn0) hp.1 hp.2, u_id (4294967296 * r) (by omega) (by omega), u_id (4294967296 * r + u1) (by omega) (by omega)]
  by_cases hc : 4294967296 ≤ q ∨ q * yn0 > 4294967296 * r + u1
  ·have hpos := g.pos hc
   have go : Ev (fun k => bits_Div64.j4 k y s yn1 yn0 u1 d r u q true) (done y s u u1 d ((u * 4294967296 + u1) / y)) := by
    refine Ev.step (fun k => by rw [bits_Div64.j4]) ?_
    simp only [↓reduceIte, u_id (r + yn1) (by omega) (by omega), u_id (q - 1) (by omega) (by omega), hs]
    by_cases ho : r + yn1 ≥ 4294967296
    ·simp only [ho, ↓reduceIte]
     rw [g.over hc ho]
     exact Ev.now _
    ·simp only [ho, ↓reduceIte]
     exact ih (q - 1) (r + yn1) (by have := g.more hc; omega) (g.next hc (by omega))
   by_cases c1 : q ≥ 4294967296
   ·simp only [c1, ↓reduceIte]
    exact go
   ·have c2 : q * yn0 > 4294967296 * r + u1 := by omega
    simp only [c1, c2, decide_true, ↓reduceIte]
    exact go
  ·have c1 : ¬ q ≥ 4294967296 := by omega
   have c2 : ¬ q * yn0 > 4294967296 * r + u1 := by omega
   simp only [c1, c2, decide_false, ↓reduceIte]
   refine Ev.step (fun k => by rw [bits_Div64.j4]) ?_
   simp only [Bool.false_eq_true, hs, ↓reduceIte]
   rw [g.stop (by omega)]
   exact Ev.now _
/-- The first guess. -/
theorem first (y yn1 yn0 u u1 : Int) (hy : y = yn1 * 4294967296 + yn0) (y1 : 2147483648 ≤ yn1) (y1' : yn1 ≤ 4294967295) (y0 : 0 ≤ yn0) (y0' : yn0 ≤ 4294967295) (u0 : 0 ≤ u) (ul : u < y) (v0 : 0 ≤ u1) (v1 : u1 ≤ 4294967295) :
  Guess y yn1 yn0 u u1 (u / yn1) (u - u / yn1 * yn1) := by
 have e : u / yn1 * yn1 + u % yn1 = u := Int.ediv_mul_add_emod u yn1
 have r0 := Int.emod_nonneg u (show yn1 ≠ 0 by omega)
 have r1 := Int.emod_lt_of_pos u (show 0 < yn1 by omega)
 have q0 : 0 ≤ u / yn1 := Int.ediv_nonneg u0 (by omega)
 have q1 : u / yn1 < 4294967298 := Int.ediv_lt_of_lt_mul (by omega) (by omega)
 refine ⟨hy, y1, y1', y0, y0', u0, ul, v0, v1, by omega, by omega, by omega, q0, by omega, ?_⟩
 have h1 : (u / yn1 + 1) * yn1 = u / yn1 * yn1 + yn1 := by rw [Int.add_mul, Int.one_mul]
 have h2 : (u / yn1 + 1) * y = (u / yn1 + 1) * yn1 * 4294967296 + (u / yn1 + 1) * yn0 := by rw [hy, Int.mul_add, ← Int.mul_assoc]
 have h3 : 0 ≤ (u / yn1 + 1) * yn0 := Int.mul_nonneg (by omega) y0
 have h4 : (u * 4294967296 + u1) / y < u / yn1 + 1 := Int.ediv_lt_of_lt_mul (by omega) (by omega)
 omega
/-- Both digits, of a divisor that is shifted up. -/
theorem two (s y yn1 yn0 u u1 v1 : Int) (hs : 0 ≤ s) (hy : y = yn1 * 4294967296 + yn0) (y1 : 2147483648 ≤ yn1) (y1' : yn1 ≤ 4294967295) (y0 : 0 ≤ yn0) (y0' : yn0 ≤ 4294967295) (u0 : 0 ≤ u) (ul : u < y)
  (a0 : 0 ≤ u1) (a1 : u1 ≤ 4294967295) (b0 : 0 ≤ v1) (b1 : v1 ≤ 4294967295) :
  Ev (fun k => bits_Div64.l0 k y s yn1 yn0 u u1 v1 (u / yn1) (u - u / yn1 * yn1)) (done y s ((u * 4294967296 + u1) % y) v1 ((u * 4294967296 + u1) / y) (((u * 4294967296 + u1) % y * 4294967296 + v1) / y)) := by
 have g := first y yn1 yn0 u u1 hy y1 y1' y0 y0' u0 ul a0 a1
 refine loop0 s v1 y yn1 yn0 u u1 _ ?_ _ _ _ (Nat.le_refl _) g
 have hr0 := Int.emod_nonneg (u * 4294967296 + u1) (show y ≠ 0 by omega)
 have hr1 := Int.emod_lt_of_pos (u * 4294967296 + u1) (show 0 < y by omega)
 have he : (u * 4294967296 + u1) / y * y + (u * 4294967296 + u1) % y = u * 4294967296 + u1 := Int.ediv_mul_add_emod _ y
 have hd := g.dig
 have hd0 : 0 ≤ (u * 4294967296 + u1) / y := Int.ediv_nonneg (by omega) (by omega)
 have g2 := first y yn1 yn0 ((u * 4294967296 + u1) % y) v1 hy y1 y1' y0 y0' hr0 hr1 b0 b1
 generalize hq : (u * 4294967296 + u1) / y = q at *
 generalize hr : (u * 4294967296 + u1) % y = r at *
 have hun : IntKind.u64.wrap (IntKind.u64.wrap (IntKind.u64.wrap (u * 4294967296) + u1) - IntKind.u64.wrap (q * y)) = r := by
  simp only [IntKind.wrap_u64]
  generalize q * y = z at *
  omega
 have e1 : r / yn1 * yn1 + r % yn1 = r := Int.ediv_mul_add_emod r yn1
 have m0 := Int.emod_nonneg r (show yn1 ≠ 0 by omega)
 have n0 : 0 ≤ r / yn1 := Int.ediv_nonneg hr0 (by omega)
 have n1 := g2.q1
 have n2 : 0 ≤ r / yn1 * yn1 := Int.mul_nonneg n0 (by omega)
 refine Ev.step (fun k => by rw [bits_Div64.j2]) ?_
 have hz : ¬ yn1 = 0 := by omega
 have htd : IntKind.u64.wrap (Int.tdiv r yn1) = r / yn1 := IntWalk.u64_quo r yn1 ⟨hr0, by omega, by omega⟩
 simp only [hz, ↓reduceIte, hun, htd, u_id (r / yn1 * yn1) n2 (by omega), u_id (r - r / yn1 * yn1) (by omega) (by omega)]
 exact loop1 s q hs y yn1 yn0 r v1 _ _ _ (Nat.le_refl _) g2
theorem bitLenAux_spec : ∀ (f x : Nat), x < 2 ^ f → x < 2 ^ Lib.bitLenAux f x ∧ (x ≠ 0 → 2 ^ Lib.bitLenAux f x ≤ 2 * x)
 | 0, x, h => by
  have : x = 0 := by simpa using h
  subst this
  simp [Lib.bitLenAux]
 | f + 1, x, h => by
  simp only [Lib.bitLenAux]
  by_cases hx : x = 0
  ·subst hx; simp
  ·rw [if_neg hx]
   obtain ⟨h1, h2⟩ := bitLenAux_spec f (x / 2) (by rw [Nat.pow_succ] at h; omega)
   rw [Nat.add_comm 1, Nat.pow_succ]
   refine ⟨by omega, fun _ => ?_⟩
   by_cases h3 : x / 2 = 0
   ·have : Lib.bitLenAux f (x / 2) = 0 := by
     rw [h3]
     cases f <;> simp [Lib.bitLenAux]
    rw [this]
    omega
   ·have := h2 h3
    omega
/-- A number's places: it is shifted up to the highest place. -/
theorem places (y : Int) (h0 : 1 ≤ y) (h1 : y ≤ 18446744073709551615) : ∃ s : Nat, s ≤ 63 ∧ (Lib.bitLen y.toNat : Int) = 64 - (s : Int) ∧ 9223372036854775808 ≤ y * ((2 ^ s : Nat) : Int) ∧ y * ((2 ^ s : Nat) : Int) < 18446744073709551616 := by
 obtain ⟨Y, rfl⟩ := Int.eq_ofNat_of_zero_le (show 0 ≤ y by omega)
 have hY : Y < 2 ^ 64 := by omega
 obtain ⟨a, b⟩ := bitLenAux_spec 64 Y hY
 have b := b (by omega)
 have hl : Lib.bitLen Y ≤ 64 := Lib.bitLen_le Y 64 (by decide) hY
 have hl1 : 1 ≤ Lib.bitLen Y := by
  rcases Nat.eq_zero_or_pos (Lib.bitLen Y) with e | e
  ·have e' : Lib.bitLenAux 64 Y = 0 := e
   rw [e'] at a
   omega
  ·exact e
 have hb : Lib.bitLenAux 64 Y = Lib.bitLen Y := rfl
 rw [hb] at a b
 refine ⟨64 - Lib.bitLen Y, by omega, by simp only [Int.toNat_natCast]; omega, ?_⟩
 have hp : 2 ^ Lib.bitLen Y * 2 ^ (64 - Lib.bitLen Y) = 18446744073709551616 := by
  rw [← Nat.pow_add, Nat.add_sub_cancel' hl]
 have hw : 0 < 2 ^ (64 - Lib.bitLen Y) := Nat.two_pow_pos _
 have c1 : Y * 2 ^ (64 - Lib.bitLen Y) < 2 ^ Lib.bitLen Y * 2 ^ (64 - Lib.bitLen Y) := Nat.mul_lt_mul_of_pos_right a hw
 have c2 : 2 ^ Lib.bitLen Y * 2 ^ (64 - Lib.bitLen Y) ≤ 2 * Y * 2 ^ (64 - Lib.bitLen Y) := Nat.mul_le_mul_right _ b
 rw [hp] at c1 c2
 rw [Nat.mul_assoc] at c2
 generalize 2 ^ (64 - Lib.bitLen Y) = W at *
 rw [← Int.natCast_mul]
 omega
theorem or_add (a s b : Nat) (hb : b < 2 ^ s) (h : a * 2 ^ s + b < 18446744073709551616) : Go.bits .or .u64 ((a * 2 ^ s : Nat) : Int) (b : Int) = ((a * 2 ^ s + b : Nat) : Int) := by
 rw [u64_or_nat _ _ (by omega) (by omega)]
 have := Nat.shiftLeft_add_eq_or_of_lt hb a
 rw [Nat.shiftLeft_eq] at this
 rw [← this]
/-- The remainder by a product: digit by digit. -/
theorem digits (Y U L : Int) (hY : 0 < Y) (hL : 0 ≤ L) : ((U * 4294967296 + L / 4294967296) / Y) * 4294967296 + ((U * 4294967296 + L / 4294967296) % Y * 4294967296 + L % 4294967296) / Y = (U * 18446744073709551616 + L) / Y
  ∧ ((U * 4294967296 + L / 4294967296) % Y * 4294967296 + L % 4294967296) % Y = (U * 18446744073709551616 + L) % Y := by
 have e1 := Int.ediv_mul_add_emod (U * 4294967296 + L / 4294967296) Y
 have e : U * 18446744073709551616 + L = ((U * 4294967296 + L / 4294967296) % Y * 4294967296 + L % 4294967296) + ((U * 4294967296 + L / 4294967296) / Y * 4294967296) * Y := by
  have : ((U * 4294967296 + L / 4294967296) / Y * 4294967296) * Y = ((U * 4294967296 + L / 4294967296) / Y * Y) * 4294967296 := by rw [Int.mul_right_comm]
  rw [this]
  generalize (U * 4294967296 + L / 4294967296) / Y * Y = a at *
  generalize (U * 4294967296 + L / 4294967296) % Y = b at *
  omega
 rw [e, Int.add_mul_ediv_right _ _ (by omega), Int.add_mul_emod_self_right]
 exact ⟨by omega, rfl⟩
theorem shl_nat (x s : Nat) (h : s ≤ 64) : shl .u64 (x : Int) (s : Int) = ((x * 2 ^ s % 18446744073709551616 : Nat) : Int) := by
 unfold shl
 rw [show min (s : Int).toNat IntKind.u64.bits = s by simp only [Int.toNat_natCast]; exact Nat.min_eq_left h, IntKind.wrap_u64]
 have e : (x : Int) * 2 ^ s = ((x * 2 ^ s : Nat) : Int) := by rw [Int.natCast_mul, Int.natCast_pow]; rfl
 rw [e]
 generalize x * 2 ^ s = z
 omega
theorem shr_nat (x s : Nat) (h : s ≤ 64) : shr .u64 (x : Int) (s : Int) = ((x / 2 ^ s : Nat) : Int) := by
 unfold shr
 rw [show min (s : Int).toNat IntKind.u64.bits = s by simp only [Int.toNat_natCast]; exact Nat.min_eq_left h]
 have e : (2 : Int) ^ s = ((2 ^ s : Nat) : Int) := by rw [Int.natCast_pow]; rfl
 rw [e, Int.natCast_ediv]
set_option maxRecDepth 100000 in
/-- What a number of two words over one word comes to. -/
theorem div64 (h l y : Int) (h0 : 0 ≤ h) (hy : h < y) (l0 : 0 ≤ l) (l1 : l ≤ 18446744073709551615) (y1 : y ≤ 18446744073709551615) :
  Ev (fun k => bits_Div64.f k h l y) ((h * 18446744073709551616 + l) / y, (h * 18446744073709551616 + l) % y) := by
 unfold bits_Div64.f
 simp only [show ¬ y = 0 by omega, show ¬ y ≤ h by omega, ↓reduceIte]
 by_cases hz : h = 0
 ·subst hz
  have e1 : IntKind.u64.wrap (Int.tdiv l y) = l / y := IntWalk.u64_quo l y ⟨l0, by omega, by omega⟩
  have e2 : Int.tmod l y = l % y := Int.tmod_eq_emod_of_nonneg l0
  simp only [↓reduceIte, e1, e2, Int.zero_mul, Int.zero_add]
  exact Ev.now _
 ·obtain ⟨s, hs, hb, p1, p2⟩ := places y (by omega) y1
  have hlz : bits_LeadingZeros64.f y = some (s : Int) := by
   unfold bits_LeadingZeros64.f bits_Len64.f
   rw [if_pos (by omega), if_pos y1, hb]
   simp only [Option.bind_some]
   congr 1
   unfold wrap64
   omega
  have w1 : IntKind.u64.wrap (s : Int) = (s : Int) := u_id _ (by omega) (by omega)
  have w2 : IntKind.u64.wrap (64 - (s : Int)) = ((64 - s : Nat) : Int) := by rw [u_id _ (by omega) (by omega)]; omega
  obtain ⟨H, rfl⟩ := Int.eq_ofNat_of_zero_le h0
  obtain ⟨L, rfl⟩ := Int.eq_ofNat_of_zero_le l0
  obtain ⟨D, rfl⟩ := Int.eq_ofNat_of_zero_le (show 0 ≤ y by omega)
  have hw : 0 < 2 ^ s := Nat.two_pow_pos _
  have hpw : 2 ^ s * 2 ^ (64 - s) = 18446744073709551616 := by
   rw [← Nat.pow_add, show s + (64 - s) = 64 by omega]
  have hw' : 0 < 2 ^ (64 - s) := Nat.two_pow_pos _
  rw [← Int.natCast_mul] at p1 p2
  have q1 : 9223372036854775808 ≤ D * 2 ^ s := by omega
  have q2 : D * 2 ^ s < 18446744073709551616 := by omega
  have hHD : H * 2 ^ s + 2 ^ s ≤ D * 2 ^ s := by
   have := Nat.mul_le_mul_right (2 ^ s) (show H + 1 ≤ D by omega)
   rwa [Nat.add_mul, Nat.one_mul] at this
  have hsh : L / 2 ^ (64 - s) < 2 ^ s := by
   apply (Nat.div_lt_iff_lt_mul hw').2
   omega
  have f1 : shl .u64 (D : Int) (s : Int) = ((D * 2 ^ s : Nat) : Int) := by rw [shl_nat D s (by omega), Nat.mod_eq_of_lt q2]
  have f2 : shl .u64 (H : Int) (s : Int) = ((H * 2 ^ s : Nat) : Int) := by rw [shl_nat H s (by omega), Nat.mod_eq_of_lt (by omega)]
  have f3 : shr .u64 (L : Int) ((64 - s : Nat) : Int) = ((L / 2 ^ (64 - s) : Nat) : Int) := shr_nat L (64 - s) (by omega)
  have f4 := shl_nat L s (by omega)
  have f5 := or_add H s (L / 2 ^ (64 - s)) hsh (by omega)
  have f6 : ∀ z : Nat, z < 18446744073709551616 → Go.bits .and .u64 (z : Int) 4294967295 = (z : Int) % 4294967296 := fun z hz => and_low32 _ (by omega) (by omega)
  have hl : L * 2 ^ s % 18446744073709551616 < 18446744073709551616 := Nat.mod_lt _ (by decide)
  -- the number, shifted up
  have hN : (H * 18446744073709551616 + L) * 2 ^ s = (H * 2 ^ s + L / 2 ^ (64 - s)) * 18446744073709551616 + L * 2 ^ s % 18446744073709551616 := by
   have g1 : L * 2 ^ s / 18446744073709551616 = L / 2 ^ (64 - s) := by
    rw [← hpw, Nat.mul_comm L, Nat.mul_div_mul_left _ _ hw]
   have g2 := Nat.div_add_mod (L * 2 ^ s) 18446744073709551616
   rw [g1] at g2
   have g3 : (H * 18446744073709551616 + L) * 2 ^ s = H * 2 ^ s * 18446744073709551616 + L * 2 ^ s := by rw [Nat.add_mul, Nat.mul_right_comm]
   rw [g3, Nat.add_mul (H * 2 ^ s), Nat.add_assoc, Nat.mul_comm (L / 2 ^ (64 - s)), g2]
  simp only [hz, hlz, Option.bind_some, w1, w2, show (0 : Int) ≤ (s : Int) by omega, show (0 : Int) ≤ ((64 - s : Nat) : Int) by omega, f1, f2, f3, f4, f5, f6 _ q2, f6 _ hl, ↓reduceIte]
  have hU : ((H * 2 ^ s + L / 2 ^ (64 - s) : Nat) : Int) < ((D * 2 ^ s : Nat) : Int) := by omega
  have hU2 : H * 2 ^ s + L / 2 ^ (64 - s) < 18446744073709551616 := by omega
  have hD1 : (1 : Int) ≤ (D : Int) := by omega
  generalize hYe : D * 2 ^ s = Y at *
  generalize hUe : H * 2 ^ s + L / 2 ^ (64 - s) = U at *
  generalize hLe : L * 2 ^ s % 18446744073709551616 = M at *
  have z1 : ¬ ((Y : Int) / 4294967296 = 0) := by omega
  have z2 : IntKind.u64.wrap (Int.tdiv (U : Int) ((Y : Int) / 4294967296)) = (U : Int) / ((Y : Int) / 4294967296) := IntWalk.u64_quo _ _ ⟨by omega, by omega, by omega⟩
  have z3 := Int.ediv_mul_add_emod (U : Int) ((Y : Int) / 4294967296)
  have z4 := Int.emod_nonneg (U : Int) (show (Y : Int) / 4294967296 ≠ 0 by omega)
  have z5 : 0 ≤ (U : Int) / ((Y : Int) / 4294967296) * ((Y : Int) / 4294967296) := Int.mul_nonneg (Int.ediv_nonneg (by omega) (by omega)) (by omega)
  have z6 : IntKind.u64.wrap ((U : Int) / ((Y : Int) / 4294967296) * ((Y : Int) / 4294967296)) = (U : Int) / ((Y : Int) / 4294967296) * ((Y : Int) / 4294967296) := u_id _ z5 (by omega)
  have z7 : IntKind.u64.wrap ((U : Int) - (U : Int) / ((Y : Int) / 4294967296) * ((Y : Int) / 4294967296)) = (U : Int) - (U : Int) / ((Y : Int) / 4294967296) * ((Y : Int) / 4294967296) := u_id _ (by omega) (by omega)
  simp only [z1, z2, z6, z7, ↓reduceIte]
  have key := two (s : Int) (Y : Int) ((Y : Int) / 4294967296) ((Y : Int) % 4294967296) (U : Int) ((M : Int) / 4294967296) ((M : Int) % 4294967296) (by omega) (by omega) (by omega) (by omega) (by omega) (by omega) (by omega) hU (by omega) (by omega) (by omega) (by omega)
  obtain ⟨k1, k2⟩ := digits (Y : Int) (U : Int) (M : Int) (by omega) (by omega)
  -- back to the number itself
  have e1 : (U : Int) * 18446744073709551616 + (M : Int) = ((U * 18446744073709551616 + M : Nat) : Int) := by omega
  have e2 : (H : Int) * 18446744073709551616 + (L : Int) = ((H * 18446744073709551616 + L : Nat) : Int) := by omega
  have r1 : ((U : Int) * 18446744073709551616 + (M : Int)) / (Y : Int) = ((H : Int) * 18446744073709551616 + (L : Int)) / (D : Int) := by
   have : (U * 18446744073709551616 + M) / Y = (H * 18446744073709551616 + L) / D := by
    rw [← hN, ← hYe, Nat.mul_div_mul_right _ _ hw]
   rw [e1, e2, ← Int.natCast_ediv, ← Int.natCast_ediv, this]
  have r2 : ((U : Int) * 18446744073709551616 + (M : Int)) % (Y : Int) = ((H : Int) * 18446744073709551616 + (L : Int)) % (D : Int) * ((2 ^ s : Nat) : Int) := by
   have : (U * 18446744073709551616 + M) % Y = (H * 18446744073709551616 + L) % D * 2 ^ s := by
    rw [← hN, ← hYe, Nat.mul_mod_mul_right]
   rw [e1, e2, ← Int.natCast_emod, ← Int.natCast_emod, ← Int.natCast_mul, this]
  rw [r1] at k1
  rw [r2] at k2
  suffices hfin : done (Y : Int) (s : Int) ((U * 4294967296 + (M : Int) / 4294967296) % (Y : Int)) ((M : Int) % 4294967296) ((U * 4294967296 + (M : Int) / 4294967296) / (Y : Int)) (((U * 4294967296 + (M : Int) / 4294967296) % (Y : Int) * 4294967296 + (M : Int) % 4294967296) / (Y : Int)) = (((H : Int) * 18446744073709551616 + (L : Int)) / (D : Int), ((H : Int) * 18446744073709551616 + (L : Int)) % (D : Int)) by
   rw [hfin] at key
   exact key
  unfold done
  have a1 := Int.ediv_mul_add_emod ((U : Int) * 4294967296 + (M : Int) / 4294967296) (Y : Int)
  have a2 := Int.emod_nonneg ((U : Int) * 4294967296 + (M : Int) / 4294967296) (show (Y : Int) ≠ 0 by omega)
  have a3 := Int.emod_lt_of_pos ((U : Int) * 4294967296 + (M : Int) / 4294967296) (show (0 : Int) < Y by omega)
  have a4 : ((U : Int) * 4294967296 + (M : Int) / 4294967296) / (Y : Int) < 4294967296 := Int.ediv_lt_of_lt_mul (by omega) (by omega)
  have a5 : 0 ≤ ((U : Int) * 4294967296 + (M : Int) / 4294967296) / (Y : Int) := Int.ediv_nonneg (by omega) (by omega)
  generalize hq1 : ((U : Int) * 4294967296 + (M : Int) / 4294967296) / (Y : Int) = Q1 at *
  generalize hr1 : ((U : Int) * 4294967296 + (M : Int) / 4294967296) % (Y : Int) = R1 at *
  have b1 := Int.ediv_mul_add_emod (R1 * 4294967296 + (M : Int) % 4294967296) (Y : Int)
  have b2 := Int.emod_nonneg (R1 * 4294967296 + (M : Int) % 4294967296) (show (Y : Int) ≠ 0 by omega)
  have b3 := Int.emod_lt_of_pos (R1 * 4294967296 + (M : Int) % 4294967296) (show (0 : Int) < Y by omega)
  have b4 : (R1 * 4294967296 + (M : Int) % 4294967296) / (Y : Int) < 4294967296 := Int.ediv_lt_of_lt_mul (by omega) (by omega)
  have b5 : 0 ≤ (R1 * 4294967296 + (M : Int) % 4294967296) / (Y : Int) := Int.ediv_nonneg (by omega) (by omega)
  generalize hq0 : (R1 * 4294967296 + (M : Int) % 4294967296) / (Y : Int) = Q0 at *
  generalize hr0 : (R1 * 4294967296 + (M : Int) % 4294967296) % (Y : Int) = R0 at *
  have c1 : IntKind.u64.wrap (Q1 * 4294967296) = Q1 * 4294967296 := u_id _ (by omega) (by omega)
  have c2 : IntKind.u64.wrap (Q1 * 4294967296 + Q0) = Q1 * 4294967296 + Q0 := u_id _ (by omega) (by omega)
  have c3 : IntKind.u64.wrap (IntKind.u64.wrap (IntKind.u64.wrap (R1 * 4294967296) + (M : Int) % 4294967296) - IntKind.u64.wrap (Q0 * (Y : Int))) = R0 := by
   simp only [IntKind.wrap_u64]
   generalize Q0 * (Y : Int) = z at *
   omega
  rw [c1, c2, c3, k1, k2]
  have e4 : (((H : Int) * 18446744073709551616 + (L : Int)) % (D : Int)) = ((((H * 18446744073709551616 + L) % D : Nat)) : Int) := by rw [e2, ← Int.natCast_emod]
  rw [e4, ← Int.natCast_mul, shr_nat _ s (by omega), Nat.mul_div_cancel _ hw]
end Go.Proofs.Ytnnphpgpnmlppaa.PlDiv64

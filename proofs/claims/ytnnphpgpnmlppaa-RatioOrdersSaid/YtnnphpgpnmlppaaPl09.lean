/- The plain law of products, means and fractions: what the printed functions of this seat compute, as whole numbers. No program runs here. No condition. -/
import Derived.Test.YtnnphpgpnmlppaaPRatioMulDiv
import Derived.Test.YtnnphpgpnmlppaaPlMean
import Derived.Test.YtnnphpgpnmlppaaPBitsAdd64
import Derived.Laws.MathBits
import Derived.IntWalk
namespace Go.Proofs.Ytnnphpgpnmlppaa.Pl09
open Go.RowKit Go.Proofs.Ytnnphpgpnmlppaa.P Go.Proofs.YtnnphpgpnmlppaaW.PrintWords Go.Proofs.YtnnphpgpnmlppaaW.PrintLast Go.Proofs.YtnnphpgpnmlppaaW.PrintMore
set_option linter.unusedSimpArgs false
set_option linter.unusedVariables false
theorem mul64 (x y : Int) (hx0 : 0 ≤ x) (hx : x < 18446744073709551616) (hy0 : 0 ≤ y) (hy : y < 18446744073709551616) :
  bits_Mul64.f x y = some (x * y / 18446744073709551616, x * y % 18446744073709551616) := by
 unfold bits_Mul64.f
 rw [and_low32 x hx0 hx, and_low32 y hy0 hy]; simp only [IntKind.wrap_u64]; rw [and_low32 _ (Int.emod_nonneg _ (by decide)) (Int.emod_lt_of_pos _ (by decide))]; rw [mul64_arith x y hx0 hx hy0 hy]
/-- What MulDiv answers where the product is below 2^64. -/
theorem muldiv (k : Nat) (a b c : Int) (ha0 : 0 ≤ a) (ha : a ≤ 9223372036854775807) (hb0 : 0 ≤ b) (hb : b ≤ 9223372036854775807) (hc0 : 1 ≤ c) (hc : c ≤ 9223372036854775807)
  (hp : a * b ≤ 18446744073709551615) : ratio_MulDiv.f (k + 1) a b c = some (if a * b / c > 4611686018427387904 then (0, 8) else (a * b / c, 0)) := by
 have hp0 : 0 ≤ a * b := Int.mul_nonneg ha0 hb0; have hq0 : 0 ≤ a * b / c := Int.ediv_nonneg hp0 (by omega)
 have hhi : a * b / 18446744073709551616 = 0 := by omega
 have hlo : a * b % 18446744073709551616 = a * b := by omega
 unfold ratio_MulDiv.f
 rw [if_neg (by omega), if_neg (by omega), decide_eq_false (by omega)]; rw [ratio_MulDiv.j0, if_neg (show ¬ (false = true) by simp), u_id a ha0 (by omega), u_id b hb0 (by omega), u_id c (by omega) (by omega), mul64 a b ha0 (by omega) hb0 (by omega)]; simp only [Option.bind_some, hhi, hlo]; rw [if_neg (by omega), div64_0 k (a * b) c hp0 hp hc0]; simp only [Option.bind_some]
 split
 ·rfl
 ·rw [wrap_id _ (by omega) (by omega)]
theorem compare (x y : Int) : cmp_Compare_uint64.f x y = some (if x < y then -1 else if x > y then 1 else 0) := by
 simp only [cmp_Compare_uint64.f, cmp_isNaN_uint64.f, Option.bind_some, bne_self_eq_false, Bool.false_eq_true, ↓reduceIte]
 split
 ·rfl
 ·split <;> rfl
theorem or2 (k : Nat) (s t : Int) : cmp_Or_int.f (k + 3) [s, t] = some (if s = 0 then t else s) := by
 simp only [cmp_Or_int.f, cmp_Or_int.l0, List.length_cons, List.length_nil]
 by_cases hs : s = 0
 ·by_cases ht : t = 0
  ·simp [hs, ht, rd, wrap64]
  ·simp [hs, ht, rd, wrap64]
 ·simp [hs, rd, wrap64]
def cmpN (x y : Int) : Int := if x < y then -1 else if x > y then 1 else 0
/-- Which fraction is greater. -/
theorem cmp (k : Nat) (a b c d : Int) (ha0 : 0 ≤ a) (ha : a ≤ 9223372036854775807) (hb0 : 1 ≤ b) (hb : b ≤ 9223372036854775807) (hc0 : 0 ≤ c) (hc : c ≤ 9223372036854775807)
  (hd0 : 1 ≤ d) (hd : d ≤ 9223372036854775807) : ratio_Cmp.f (k + 4) a b c d = some (cmpN (a * d) (c * b)) := by
 unfold ratio_Cmp.f
 rw [if_neg (by omega), if_neg (by omega), if_neg (by omega), decide_eq_false (by omega)]; rw [ratio_Cmp.j0, if_neg (show ¬ (false = true) by simp), u_id a ha0 (by omega), u_id d (by omega) (by omega), u_id c hc0 (by omega), u_id b (by omega) (by omega), mul64 a d ha0 (by omega) (by omega) (by omega), mul64 c b hc0 (by omega) (by omega) (by omega)]; simp only [Option.bind_some, compare, or2]; generalize a * d = x; generalize c * b = y
 congr 1
 unfold cmpN
 split <;> split <;> (try split) <;> (try split) <;> omega
end Go.Proofs.Ytnnphpgpnmlppaa.Pl09

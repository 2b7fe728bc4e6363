/- The plain law of products, means and fractions: what the printed functions of this seat compute, as whole numbers. No program runs here. No condition. -/
import Derived.Test.YtoghjpoblbdnpaaPRef09MulDiv
import Derived.Test.YtoghjpoblbdnpaaPlMean
import Derived.Laws.MathBits
import Derived.IntWalk
namespace Go.Proofs.Ytoghjpoblbdnpaa.Pl09
open Go.RowKit Go.Proofs.Ytoghjpoblbdnpaa.P Go.Proofs.YtoghjpoblbdnpaaW.PrintWords Go.Proofs.YtoghjpoblbdnpaaW.PrintLast Go.Proofs.YtoghjpoblbdnpaaW.PrintMore
set_option linter.unusedSimpArgs false
set_option linter.unusedVariables false
theorem mul64 (x y : Int) (hx0 : 0 ≤ x) (hx : x < 18446744073709551616) (hy0 : 0 ≤ y) (hy : y < 18446744073709551616) :
  bits_Mul64.f x y = some (x * y / 18446744073709551616, x * y % 18446744073709551616) := by
 unfold bits_Mul64.f
 rw [and_low32 x hx0 hx, and_low32 y hy0 hy]; simp only [IntKind.wrap_u64]; rw [and_low32 _ (Int.emod_nonneg _ (by decide)) (Int.emod_lt_of_pos _ (by decide))]; rw [mul64_arith x y hx0 hx hy0 hy]
/-- What MulDiv answers where the product is below 2^64. -/
theorem muldiv (k : Nat) (a b c : Int) (ha0 : 0 ≤ a) (ha : a ≤ 9223372036854775807) (hb0 : 0 ≤ b) (hb : b ≤ 9223372036854775807) (hc0 : 1 ≤ c) (hc : c ≤ 9223372036854775807)
  (hp : a * b ≤ 18446744073709551615) : ratio_MulDiv.f (k + 1) a b c = some (if a * b / c > 4611686018427387904 then (0, 8) else (a * b / c, 0)) := by
 have hp0 : 0 ≤ a * b := Int.mul_nonneg ha0 hb0; have hq0 : 0 ≤ a * b / c := Int.ediv_nonneg hp0 (by omega)
 have hhi : a * b / 18446744073709551616 = 0 := by omega
 have hlo : a * b % 18446744073709551616 = a * b := by omega
 unfold ratio_MulDiv.f
 rw [if_neg (by omega), if_neg (by omega), decide_eq_false (by omega)]; rw [ratio_MulDiv.j0, if_neg (show ¬ (false = true) by simp), u_id a ha0 (by omega), u_id b hb0 (by omega), u_id c (by omega) (by omega), mul64 a b ha0 (by omega) hb0 (by omega)]; simp only [Option.bind_some, hhi, hlo]; rw [if_neg (by omega), div64_0 k (a * b) c hp0 hp hc0]; simp only [Option.bind_some]
 split
 ·rfl
 ·rw [wrap_id _ (by omega) (by omega)]
end Go.Proofs.Ytoghjpoblbdnpaa.Pl09

/- The plain law of a mean: what the printed function comes to, as whole numbers. No program runs here. No condition. -/
import Derived.Test.YtoghjpoblbdnpaaPRef09MulDiv
import Derived.IntWalk
namespace Go.Proofs.Ytoghjpoblbdnpaa.Pl09
open Go.RowKit Go.Proofs.Ytoghjpoblbdnpaa.P Go.Proofs.YtoghjpoblbdnpaaW.PrintWords Go.Proofs.YtoghjpoblbdnpaaW.PrintLast Go.Proofs.YtoghjpoblbdnpaaW.PrintMore
set_option linter.unusedSimpArgs false
set_option linter.unusedVariables false
theorem wrap_id (x : Int) (h0 : -9223372036854775808 ≤ x) (h1 : x ≤ 9223372036854775807) : wrap64 x = x := by unfold wrap64; omega
theorem u_id (x : Int) (h0 : 0 ≤ x) (h1 : x ≤ 18446744073709551615) : IntKind.u64.wrap x = x := IntWalk.u64_in x ⟨h0, h1⟩
/-- A product of two numbers below their bounds. -/
theorem mul_lt {a b A B : Int} (ha0 : 0 ≤ a) (ha : a ≤ A) (hb0 : 0 ≤ b) (hb : b ≤ B) : 0 ≤ a * b ∧ a * b ≤ A * B :=
 ⟨Int.mul_nonneg ha0 hb0, Int.mul_le_mul ha hb hb0 (Int.le_trans ha0 ha)⟩
theorem div64_0 (k : Nat) (lo y : Int) (h0 : 0 ≤ lo) (h1 : lo ≤ 18446744073709551615) (hy : 1 ≤ y) : bits_Div64.f k 0 lo y = some (lo / y, lo % y) := by
 unfold bits_Div64.f
 rw [if_neg (by omega), if_neg (by omega), if_pos rfl, IntWalk.u64_quo lo y ⟨h0, h1, hy⟩, Int.tmod_eq_emod_of_nonneg h0]
/-- A number as a mean counts it. -/
def cl (x : Int) : Int := if x < 0 then 0 else if x > 1125899906842624 then 1125899906842624 else x
theorem cl_bd (x : Int) : 0 ≤ cl x ∧ cl x ≤ 1125899906842624 := by unfold cl; split <;> (try split) <;> omega
theorem clamp (x : Int) : ratio_Clamp.f x 0 1125899906842624 = some (cl x) := by unfold ratio_Clamp.f cl; split <;> (try split) <;> rfl
/-- The sum of numbers as a mean counts them. -/
def S : List Int → Int
 | [] => 0
 | x :: l => cl x + S l
theorem S_app (l m : List Int) : S (l ++ m) = S l + S m := by
 induction l with
 | nil => simp [S]
 | cons x l ih => simp only [List.cons_append, S, ih]; omega
theorem S_bd (l : List Int) : 0 ≤ S l ∧ S l ≤ (l.length : Int) * 1125899906842624 := by
 induction l with
 | nil => simp [S]
 | cons x l ih => have := cl_bd x; simp only [S, List.length_cons]; omega
theorem add64 (x y : Int) (hx0 : 0 ≤ x) (hy0 : 0 ≤ y) (h : x + y ≤ 18446744073709551615) : bits_Add64.f x y 0 = some (x + y, 0) := by
 unfold bits_Add64.f
 rw [if_pos rfl]
 congr 2 <;> omega
theorem rd_mid (pre : List Int) (x : Int) (suf : List Int) : rd (pre ++ x :: suf) (pre.length : Int) = x := by simp [rd, List.getD_eq_getElem?_getD]
theorem mean_l (l : List Int) (hl : l.length ≤ 1000) (h1 : 1 ≤ l.length) : ∀ (suf pre : List Int), pre ++ suf = l →
  Ev (fun k => ratio_Mean.l0 k l 0 (S pre) l (l.length : Int) (pre.length : Int)) (S l / (l.length : Int))
 | [], pre, e => by
  have e' : pre = l := by simpa using e
  subst e'; have hb := S_bd pre; refine Ev.step (fun k => by rw [ratio_Mean.l0]) ?_; simp only [Int.lt_irrefl, ↓reduceIte]; rw [u_id _ (by omega) (by omega)]; simp only [div64_0 _ (S pre) (pre.length : Int) hb.1 (by omega) (by omega), Option.bind_some]; have h2 : 0 ≤ S pre / (pre.length : Int) := Int.ediv_nonneg hb.1 (by omega)
  have h3 : S pre / (pre.length : Int) ≤ 1125899906842624 := by
   refine Int.ediv_le_of_le_mul (by omega) ?_; rw [Int.mul_comm]; exact hb.2
  rw [wrap_id _ (by omega) (by omega)]; exact Ev.now _
 | x :: suf, pre, e => by
  have hlen : l.length = pre.length + (suf.length + 1) := by rw [← e]; simp
  have hb := S_bd pre; have hc := cl_bd x; refine Ev.step (fun k => by rw [ratio_Mean.l0]) ?_
  have c1 : (pre.length : Int) < (l.length : Int) := by omega
  have c0 : (0 : Int) ≤ (pre.length : Int) := by omega
  have hrd : rd l (pre.length : Int) = x := by rw [← e]; exact rd_mid pre x suf
  have hadd := add64 (S pre) (cl x) hb.1 hc.1 (by omega)
  have hs : S (pre ++ [x]) = S pre + cl x := by rw [S_app]; simp [S]
  simp only [c1, c0, hrd, clamp, Option.bind_some, u_id (cl x) hc.1 (by omega), hadd, ↓reduceIte]; have ih := mean_l l hl h1 suf (pre ++ [x]) (by rw [← e]; simp); rw [hs] at ih
  have e0 : IntKind.u64.wrap (0 + 0) = 0 := by decide
  have e1 : wrap64 ((pre.length : Int) + 1) = ((pre ++ [x]).length : Int) := by rw [wrap_id _ (by omega) (by omega)]; simp
  simp only [e0, e1]; exact ih
/-- A mean: the sum over how many. -/
theorem mean (l : List Int) (hl : l.length ≤ 1000) (h1 : 1 ≤ l.length) : Ev (fun k => ratio_Mean.f k l) (S l / (l.length : Int)) := by
 unfold ratio_Mean.f
 have c0 : ¬ ((l.length : Int) = 0) := by omega
 simp only [c0, ↓reduceIte]; exact mean_l l hl h1 l [] rfl
theorem mean_nil : Ev (fun k => ratio_Mean.f k []) 0 := by
 unfold ratio_Mean.f
 exact Ev.now _
end Go.Proofs.Ytoghjpoblbdnpaa.Pl09

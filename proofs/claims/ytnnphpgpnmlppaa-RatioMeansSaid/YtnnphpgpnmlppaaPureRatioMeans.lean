/- RatioMeans' plain law: a mean lies between the least and the greatest number, as they count: for all lists of numbers. No condition. -/
import Derived.Test.YtnnphpgpnmlppaaPLaw09RatioMeans
import Derived.Test.YtnnphpgpnmlppaaPl09
namespace Go.Proofs.Ytnnphpgpnmlppaa.Pure
open Go.RowKit Go.Proofs.Ytnnphpgpnmlppaa.P Go.Proofs.YtnnphpgpnmlppaaW.PrintWords Go.Proofs.YtnnphpgpnmlppaaW.PrintLast Go.Proofs.YtnnphpgpnmlppaaW.PrintMore Go.Proofs.Ytnnphpgpnmlppaa.Pl09
set_option linter.unusedSimpArgs false
set_option linter.unusedVariables false
theorem alive09 : Ev (fun k => law09_alive.f k) true := Ev.of (fun k => law09_alive.mono k) (k := 60) (by decide +kernel)
theorem cl_mn (x : Int) : mn (mx x 0) 1125899906842624 = cl x := by unfold mn mx cl; split <;> split <;> (try split) <;> omega
theorem means_l (l : List Int) (hl : l.length ≤ 1000) (h1 : 1 ≤ l.length) : ∀ (suf pre : List Int) (lo hi : Int), pre ++ suf = l → lo ≤ 1125899906842624 → 0 ≤ hi →
  lo * (pre.length : Int) ≤ S pre → S pre ≤ hi * (pre.length : Int) → Ev (fun k => law09_RatioMeans.l0 k l lo hi (pre.length : Int)) true
 | [], pre, lo, hi, e, hlo, hhi, b1, b2 => by
  have e' : pre = l := by simpa using e
  subst e'
  refine Ev.step (fun k => by rw [law09_RatioMeans.l0]) ?_
  simp only [Int.lt_irrefl, ↓reduceIte]
  refine Ev.bind (mean pre hl h1) ?_
  have g1 : lo ≤ S pre / (pre.length : Int) := (Int.le_ediv_iff_mul_le (by omega)).2 b1
  have g2 : S pre / (pre.length : Int) ≤ hi := Int.ediv_le_of_le_mul (by omega) b2
  simp only [g1, g2, ge_iff_le, ↓reduceIte, ratio_Clamp.f, show ¬ (S pre / (pre.length : Int) < lo) by omega, show ¬ (S pre / (pre.length : Int) > hi) by omega, Option.bind_some, beq_self_eq_true]
  exact Ev.now _
 | x :: suf, pre, lo, hi, e, hlo, hhi, b1, b2 => by
  have hlen : l.length = pre.length + (suf.length + 1) := by rw [← e]; simp
  have hc := cl_bd x
  have c1 : (pre.length : Int) < (l.length : Int) := by omega
  have c0 : (0 : Int) ≤ (pre.length : Int) := by omega
  have hrd : rd l (pre.length : Int) = x := by rw [← e]; exact rd_mid pre x suf
  have e1 : wrap64 ((pre.length : Int) + 1) = ((pre ++ [x]).length : Int) := by rw [wrap_id _ (by omega) (by omega)]; simp
  refine Ev.step (fun k => by rw [law09_RatioMeans.l0]) ?_
  simp only [c1, c0, hrd, cl_mn, e1, ↓reduceIte]
  have hs : S (pre ++ [x]) = S pre + cl x := by rw [S_app]; simp [S]
  have hn : ((pre ++ [x]).length : Int) = (pre.length : Int) + 1 := by simp
  have l1 : mn lo (cl x) ≤ lo ∧ mn lo (cl x) ≤ cl x := by unfold mn; split <;> omega
  have h1' : hi ≤ mx hi (cl x) ∧ cl x ≤ mx hi (cl x) := by unfold mx; split <;> omega
  have k1 := Int.mul_le_mul_of_nonneg_right l1.1 c0
  have k2 := Int.mul_le_mul_of_nonneg_right h1'.1 c0
  refine means_l l hl h1 suf (pre ++ [x]) _ _ (by rw [← e]; simp) (by omega) (by omega) ?_ ?_
  ·rw [hs, hn, Int.mul_add, Int.mul_one]; omega
  ·rw [hs, hn, Int.mul_add, Int.mul_one]; omega
theorem RatioMeans : law09_RatioMeans.Pure := by
 intro l hmax hby hwf
 refine Ev.rounds (r := true) ?_
 unfold law09_RatioMeans.f
 refine Ev.bind alive09 ?_
 simp only [↓reduceIte]
 by_cases hz : l = []
 ·subst hz
  simp only [List.length_nil, ↓reduceIte, show ((0 : Nat) : Int) = 0 from rfl]
  refine Ev.step (fun k => by rw [law09_RatioMeans.j0]) ?_
  simp only [List.length_nil, ↓reduceIte, show ((0 : Nat) : Int) = 0 from rfl, show ¬ ((0 : Int) > 1000) by decide]
  exact Ev.bind mean_nil (Ev.now _)
 ·have hl : 1 ≤ l.length := by have := List.length_pos_iff.2 hz; omega
  have hl0 : ¬ ((l.length : Int) = 0) := by omega
  simp only [hl0, ↓reduceIte]
  by_cases hb : (l.length : Int) > 1000
  ·simp only [hb, decide_true]
   refine Ev.step (fun k => by rw [law09_RatioMeans.j0]) ?_
   simp only [hb, ↓reduceIte]
   exact Ev.now _
  ·simp only [hb, decide_false]
   refine Ev.step (fun k => by rw [law09_RatioMeans.j0]) ?_
   simp only [Bool.false_eq_true, ↓reduceIte]
   exact means_l l (by omega) hl l [] 1125899906842624 0 rfl (by decide) (by decide) (by simp [S]) (by simp [S])
end Go.Proofs.Ytnnphpgpnmlppaa.Pure

/- RatioAnswers' plain law: products over divisors, means, clamps and fractions are the document's: for all numbers. No condition. -/
import Derived.Test.YtnnphpgpnmlppaaPLaw09RatioAnswers
import Derived.Test.YtnnphpgpnmlppaaOps
import Derived.Test.YtnnphpgpnmlppaaPl09
import Derived.Test.YtnnphpgpnmlppaaPlRef09
import Derived.Test.YtnnphpgpnmlppaaPlDiv64
namespace Go.Proofs.Ytnnphpgpnmlppaa.Pl
open Go.RowKit Go.Proofs.Ytnnphpgpnmlppaa.P Go.Proofs.YtnnphpgpnmlppaaW.PrintWords Go.Proofs.YtnnphpgpnmlppaaW.PrintLast Go.Proofs.YtnnphpgpnmlppaaW.PrintMore Go.Proofs.Ytnnphpgpnmlppaa.Pl09
set_option linter.unusedSimpArgs false
set_option linter.unusedVariables false
theorem alive09 : Ev (fun k => law09_alive.f k) true := Ev.of (fun k => law09_alive.mono k) (k := 60) (by decide +kernel)
theorem i64_bd {a : Int} (h : (Lit.int .i64 a).wf = true) : -9223372036854775808 ≤ a ∧ a ≤ 9223372036854775807 := by
 simp [Lit.wf, IntKind.min, IntKind.max, IntKind.bits, IntKind.signed] at h
 omega
/-- What MulDiv answers, whatever the product. -/
theorem muldivG (a b c : Int) (ha0 : 0 ≤ a) (ha : a ≤ 9223372036854775807) (hb0 : 0 ≤ b) (hb : b ≤ 9223372036854775807) (hc0 : 1 ≤ c) (hc : c ≤ 9223372036854775807) :
  Ev (fun k => ratio_MulDiv.f k a b c) (if a * b / c > 4611686018427387904 then (0, 8) else (a * b / c, 0)) := by
 have hp := mul_lt ha0 ha hb0 hb
 have hq0 : 0 ≤ a * b / c := Int.ediv_nonneg hp.1 (by omega)
 unfold ratio_MulDiv.f
 simp only [show ¬ a < 0 by omega, show ¬ b < 0 by omega, show ¬ c < 1 by omega, decide_false, ↓reduceIte]
 refine Ev.step (fun k => by rw [ratio_MulDiv.j0]) ?_
 simp only [Bool.false_eq_true, ↓reduceIte, u_id a ha0 (by omega), u_id b hb0 (by omega), u_id c (by omega) (by omega), mul64 a b ha0 (by omega) hb0 (by omega), Option.bind_some]
 generalize hP : a * b = P at *
 by_cases hg : P / 18446744073709551616 ≥ c
 ·have h1 : 4611686018427387905 * c ≤ P := by omega
  have h2 : 4611686018427387905 ≤ P / c := (Int.le_ediv_iff_mul_le (by omega)).2 h1
  simp only [hg, show P / c > 4611686018427387904 by omega, ↓reduceIte]
  exact Ev.now _
 ·have hd := PlDiv64.div64 (P / 18446744073709551616) (P % 18446744073709551616) c (by omega) (by omega) (by omega) (by omega) (by omega)
  rw [show P / 18446744073709551616 * 18446744073709551616 + P % 18446744073709551616 = P by omega] at hd
  simp only [hg, ↓reduceIte]
  refine Ev.bind hd ?_
  by_cases h2 : P / c > 4611686018427387904
  ·simp only [h2, ↓reduceIte]
   exact Ev.now _
  ·simp only [h2, ↓reduceIte, wrap_id (P / c) (by omega) (by omega)]
   exact Ev.now _
theorem muldiv_same (a b c : Int) (ha : -9223372036854775808 ≤ a ∧ a ≤ 9223372036854775807) (hb : -9223372036854775808 ≤ b ∧ b ≤ 9223372036854775807) (hc : -9223372036854775808 ≤ c ∧ c ≤ 9223372036854775807) :
  ∃ r, Ev (fun k => ratio_MulDiv.f k a b c) r ∧ Ev (fun k => ref09_MulDiv.f k a b c) r := by
 by_cases h : 0 ≤ a ∧ 0 ≤ b ∧ 1 ≤ c
 ·exact ⟨_, muldivG a b c h.1 ha.2 h.2.1 hb.2 h.2.2 hc.2, PlRef09.muldiv a b c h.1 ha.2 h.2.1 hb.2 h.2.2 hc.2⟩
 ·refine ⟨(0, 1), ?_, ?_⟩
  ·unfold ratio_MulDiv.f
   by_cases h1 : a < 0
   ·simp only [h1, ↓reduceIte]
    refine Ev.step (fun k => by rw [ratio_MulDiv.j0]) ?_
    simp only [↓reduceIte]
    exact Ev.now _
   ·by_cases h2 : b < 0
    ·simp only [h1, h2, ↓reduceIte]
     refine Ev.step (fun k => by rw [ratio_MulDiv.j0]) ?_
     simp only [↓reduceIte]
     exact Ev.now _
    ·simp only [h1, h2, show c < 1 by omega, decide_true, ↓reduceIte]
     refine Ev.step (fun k => by rw [ratio_MulDiv.j0]) ?_
     simp only [↓reduceIte]
     exact Ev.now _
  ·unfold ref09_MulDiv.f
   by_cases h1 : a < 0
   ·simp only [h1, ↓reduceIte]
    refine Ev.step (fun k => by rw [ref09_MulDiv.j0]) ?_
    simp only [↓reduceIte]
    exact Ev.now _
   ·by_cases h2 : b < 0
    ·simp only [h1, h2, ↓reduceIte]
     refine Ev.step (fun k => by rw [ref09_MulDiv.j0]) ?_
     simp only [↓reduceIte]
     exact Ev.now _
    ·simp only [h1, h2, show c < 1 by omega, decide_true, ↓reduceIte]
     refine Ev.step (fun k => by rw [ref09_MulDiv.j0]) ?_
     simp only [↓reduceIte]
     exact Ev.now _
theorem cmp_same (a b c d : Int) (ha : -9223372036854775808 ≤ a ∧ a ≤ 9223372036854775807) (hb : -9223372036854775808 ≤ b ∧ b ≤ 9223372036854775807) (hc : -9223372036854775808 ≤ c ∧ c ≤ 9223372036854775807) (hd : -9223372036854775808 ≤ d ∧ d ≤ 9223372036854775807) :
  ∃ r, Ev (fun k => ratio_Cmp.f k a b c d) r ∧ Ev (fun k => ref09_Cmp.f k a b c d) r := by
 by_cases h : 0 ≤ a ∧ 0 ≤ c ∧ 1 ≤ b ∧ 1 ≤ d
 ·refine ⟨cmpN (a * d) (c * b), ⟨4, fun k hk => ?_⟩, PlRef09.cmp a b c d h.1 ha.2 h.2.2.1 hb.2 h.2.1 hc.2 h.2.2.2 hd.2⟩
  obtain ⟨j, rfl⟩ : ∃ j, k = j + 4 := ⟨k - 4, by omega⟩
  exact cmp j a b c d h.1 ha.2 h.2.2.1 hb.2 h.2.1 hc.2 h.2.2.2 hd.2
 ·refine ⟨0, ?_, ?_⟩
  ·unfold ratio_Cmp.f
   by_cases h1 : a < 0
   ·simp only [h1, ↓reduceIte]
    refine Ev.step (fun k => by rw [ratio_Cmp.j0]) ?_
    simp only [↓reduceIte]
    exact Ev.now _
   ·by_cases h2 : c < 0
    ·simp only [h1, h2, ↓reduceIte]
     refine Ev.step (fun k => by rw [ratio_Cmp.j0]) ?_
     simp only [↓reduceIte]
     exact Ev.now _
    ·by_cases h3 : b < 1
     ·simp only [h1, h2, h3, ↓reduceIte]
      refine Ev.step (fun k => by rw [ratio_Cmp.j0]) ?_
      simp only [↓reduceIte]
      exact Ev.now _
     ·simp only [h1, h2, h3, show d < 1 by omega, decide_true, ↓reduceIte]
      refine Ev.step (fun k => by rw [ratio_Cmp.j0]) ?_
      simp only [↓reduceIte]
      exact Ev.now _
  ·unfold ref09_Cmp.f
   by_cases h1 : a < 0
   ·simp only [h1, ↓reduceIte]
    refine Ev.step (fun k => by rw [ref09_Cmp.j0]) ?_
    simp only [↓reduceIte]
    exact Ev.now _
   ·by_cases h2 : c < 0
    ·simp only [h1, h2, ↓reduceIte]
     refine Ev.step (fun k => by rw [ref09_Cmp.j0]) ?_
     simp only [↓reduceIte]
     exact Ev.now _
    ·by_cases h3 : b < 1
     ·simp only [h1, h2, h3, ↓reduceIte]
      refine Ev.step (fun k => by rw [ref09_Cmp.j0]) ?_
      simp only [↓reduceIte]
      exact Ev.now _
     ·simp only [h1, h2, h3, show d < 1 by omega, decide_true, ↓reduceIte]
      refine Ev.step (fun k => by rw [ref09_Cmp.j0]) ?_
      simp only [↓reduceIte]
      exact Ev.now _
theorem clamp_same (n low high : Int) : ∃ r, ratio_Clamp.f n low high = some r ∧ ref09_Clamp.f n low high = some r := by
 unfold ratio_Clamp.f ref09_Clamp.f
 split
 ·exact ⟨_, rfl, rfl⟩
 ·split
  ·exact ⟨_, rfl, rfl⟩
  ·exact ⟨_, rfl, rfl⟩
theorem RatioAnswers : ∀ (x0 : S22) (x1 : List Int) (x2 : S24), G22 x0 → (x1.length ≤ maxLen ∧ x1.length * 8 ≤ 140737488351232 ∧ ∀ x_ ∈ x1, (Lit.int .i64 x_).wf = true) → G24 x2 → ∃ k, law09_RatioAnswers.f k x0.f0 x0.f1 x0.f2 x1 x2.f0 x2.f1 x2.f2 x2.f3 = some true := by
 intro x0 l x2 ⟨g0, g1, g2⟩ gl ⟨e0, e1, e2, e3⟩
 refine Ev.rounds (r := true) ?_
 unfold law09_RatioAnswers.f
 refine Ev.bind alive09 ?_
 simp only [↓reduceIte]
 by_cases hl : (l.length : Int) > 1000
 ·simp only [hl, ↓reduceIte]
  exact Ev.now _
 ·simp only [hl, ↓reduceIte]
  obtain ⟨r1, m1, m2⟩ := muldiv_same _ _ _ (i64_bd g0) (i64_bd g1) (i64_bd g2)
  obtain ⟨r2, c1, c2⟩ := cmp_same _ _ _ _ (i64_bd e0) (i64_bd e1) (i64_bd e2) (i64_bd e3)
  obtain ⟨r3, d1, d2⟩ := clamp_same x0.f0 x0.f1 x0.f2
  have hm : ∃ r, Ev (fun k => ratio_Mean.f k l) r ∧ Ev (fun k => ref09_Mean.f k l) r := by
   by_cases h1 : 1 ≤ l.length
   ·exact ⟨_, mean l (by omega) h1, PlRef09.mean l (by omega) h1⟩
   ·have : l = [] := List.eq_nil_of_length_eq_zero (by omega)
    subst this
    exact ⟨0, mean_nil, PlRef09.mean_nil⟩
  obtain ⟨r4, a1, a2⟩ := hm
  refine Ev.bind m1 (Ev.bind m2 ?_)
  simp only [↓reduceIte]
  refine Ev.bind a1 (Ev.bind a2 ?_)
  simp only [d1, d2, Option.bind_some, ↓reduceIte]
  refine Ev.bind c1 (Ev.bind c2 ?_)
  simp only [beq_self_eq_true]
  exact Ev.now _
end Go.Proofs.Ytnnphpgpnmlppaa.Pl

/- RatioRounds' plain law: what is answered times the divisor isn't above the product, and the next one is: for all three numbers. No condition. -/
import Derived.Test.YtnnphpgpnmlppaaPLaw09RatioRounds
import Derived.Test.YtnnphpgpnmlppaaPl09
namespace Go.Proofs.Ytnnphpgpnmlppaa.Pure
open Go.RowKit Go.Proofs.Ytnnphpgpnmlppaa.P Go.Proofs.YtnnphpgpnmlppaaW.PrintWords Go.Proofs.YtnnphpgpnmlppaaW.PrintLast Go.Proofs.YtnnphpgpnmlppaaW.PrintMore Go.Proofs.Ytnnphpgpnmlppaa.Pl09
set_option linter.unusedSimpArgs false
set_option linter.unusedVariables false
theorem alive09 : Ev (fun k => law09_alive.f k) true := Ev.of (fun k => law09_alive.mono k) (k := 60) (by decide +kernel)
theorem u32_bd {a : Int} (h : (Lit.int .u32 a).wf = true) : 0 ≤ a ∧ a ≤ 4294967295 := by
 simp [Lit.wf, IntKind.min, IntKind.max, IntKind.bits, IntKind.signed] at h
 omega
theorem RatioRounds : law09_RatioRounds.Pure := by
 intro a b c wa wb wc
 obtain ⟨ha0, ha⟩ := u32_bd wa
 obtain ⟨hb0, hb⟩ := u32_bd wb
 obtain ⟨hc0, hc⟩ := u32_bd wc
 refine Ev.rounds (r := true) ?_
 unfold law09_RatioRounds.f
 refine Ev.bind alive09 ?_
 simp only [↓reduceIte]
 by_cases hz : c = 0
 ·simp only [hz, ↓reduceIte]
  exact Ev.now _
 ·have hp := mul_lt ha0 ha hb0 hb
  have hc1 : 1 ≤ c := by omega
  simp only [hz, ↓reduceIte, wrap_id a (by omega) (by omega), wrap_id b (by omega) (by omega), wrap_id c (by omega) (by omega), u_id a ha0 (by omega), u_id b hb0 (by omega), u_id c hc0 (by omega), u_id (a * b) hp.1 (by omega)]
  have hq0 : 0 ≤ a * b / c := Int.ediv_nonneg hp.1 (by omega)
  refine Ev.bind (a := if a * b / c > 4611686018427387904 then (0, 8) else (a * b / c, 0)) ⟨1, fun k hk => ?_⟩ ?_
  ·obtain ⟨j, rfl⟩ : ∃ j, k = j + 1 := ⟨k - 1, by omega⟩
   exact muldiv j a b c ha0 (by omega) hb0 (by omega) hc1 (by omega) (by omega)
  ·by_cases hg : a * b / c > 4611686018427387904
   ·have e : IntKind.u64.wrap ((a * b).tdiv c) = a * b / c := IntWalk.u64_quo (a * b) c ⟨hp.1, by omega, hc1⟩
    simp only [hg, ↓reduceIte, e, show ¬ ((8 : Int) = 0) by decide]
    exact Ev.now _
   ·have e1 : a * b / c * c ≤ a * b := Int.ediv_mul_le _ (by omega)
    have e2 : a * b - a * b / c * c < c := by
     have h1 := Int.emod_lt_of_pos (a * b) (show 0 < c by omega)
     have h2 := Int.emod_add_mul_ediv (a * b) c
     have h3 : c * (a * b / c) = a * b / c * c := Int.mul_comm _ _
     omega
    have e0 : 0 ≤ a * b / c * c := Int.mul_nonneg hq0 (by omega)
    simp only [hg, ↓reduceIte]
    generalize a * b / c = q at *
    simp only [u_id q hq0 (by omega), u_id (q * c) e0 (by omega), u_id (a * b - q * c) (by omega) (by omega), e1, e2, ↓reduceIte, wrap_id (q + 1) (by omega) (by omega)]
    refine Ev.bind (a := -1) ⟨4, fun k hk => ?_⟩ ?_
    ·obtain ⟨j, rfl⟩ : ∃ j, k = j + 4 := ⟨k - 4, by omega⟩
     show ratio_Cmp.f (j + 4) _ _ _ _ = _
     rw [cmp j q 1 (q + 1) 1 hq0 (by omega) (by decide) (by decide) (by omega) (by omega) (by decide) (by decide)]
     congr 1
     unfold cmpN
     rw [if_pos (by omega)]
    ·simp only [↓reduceIte]
     refine Ev.bind (a := 0) ⟨4, fun k hk => ?_⟩ ?_
     ·obtain ⟨j, rfl⟩ : ∃ j, k = j + 4 := ⟨k - 4, by omega⟩
      show ratio_Cmp.f (j + 4) _ _ _ _ = _
      rw [cmp j a c a c ha0 (by omega) hc1 (by omega) ha0 (by omega) hc1 (by omega)]
      congr 1
      unfold cmpN
      rw [if_neg (by omega), if_neg (by omega)]
     ·exact Ev.now _
end Go.Proofs.Ytnnphpgpnmlppaa.Pure

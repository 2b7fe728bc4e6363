/- PhiBounds' plain law: a bound is the least silence that is enough, and never falls with the threshold, or the mean: for all numbers. No condition. -/
import Derived.Test.YtjallhlamaggbaaPLaw11PhiBounds
import Derived.Test.YtjallhlamaggbaaPl11
import Derived.Test.YtjallhlamaggbaaOps
namespace Go.Proofs.Ytjallhlamaggbaa.Pl
open Go.RowKit Go.Proofs.Ytjallhlamaggbaa.P Go.Proofs.YtjallhlamaggbaaW.PrintWords Go.Proofs.YtjallhlamaggbaaW.PrintLast Go.Proofs.YtjallhlamaggbaaW.PrintMore Go.Proofs.Ytjallhlamaggbaa.Pl09 Go.Proofs.Ytjallhlamaggbaa.Pl11
set_option linter.unusedSimpArgs false
set_option linter.unusedVariables false
theorem alive11 : Ev (fun k => law11_alive.f k) true := Ev.of (fun k => law11_alive.mono k) (k := 60) (by decide +kernel)
theorem bd_is (th m : Int) : (th + 1) * m ≤ 434 * bd th m ∧ 434 * (bd th m - 1) < (th + 1) * m := by
 unfold bd
 generalize (th + 1) * m = P
 omega
theorem bd_mono {P Q : Int} (h : P ≤ Q) : (P + 433) / 434 ≤ (Q + 433) / 434 := by omega
theorem PhiBounds : ∀ (x0 : S44) (x1 : Int), G44 x0 → (Lit.int .u16 x1).wf = true → ∃ k, law11_PhiBounds.f k x0.f0 x0.f1 x0.f2 x1 = some true := by
 intro x0 x1 ⟨g0, g1, g2⟩ w1
 have b0 := u16_bd g0; have b1 := u16_bd g1; have b2 := u16_bd g2; have bm := u16_bd w1
 refine Ev.rounds (r := true) ?_
 unfold law11_PhiBounds.f
 refine Ev.bind alive11 ?_
 have hlo : 0 ≤ mn x0.f0 x0.f1 ∧ mn x0.f0 x0.f1 ≤ 65535 := by unfold mn; split <;> omega
 have hhi : mn x0.f0 x0.f1 ≤ mx x0.f0 x0.f1 ∧ mx x0.f0 x0.f1 ≤ 65535 := by unfold mn mx; split <;> split <;> omega
 generalize mn x0.f0 x0.f1 = lo at *
 generalize mx x0.f0 x0.f1 = hi at *
 generalize x0.f2 = z at *
 simp only [↓reduceIte, wrap_id lo (by omega) (by omega), wrap_id hi (by omega) (by omega), wrap_id x1 (by omega) (by omega), wrap_id (1 + x1) (by omega) (by omega), wrap_id z (by omega) (by omega), wrap_id (1 + x1 + z) (by omega) (by omega), wrap_id (-1 - lo) (by omega) (by omega), wrap_id (-x1) (by omega) (by omega), wrap_id (lo + 1) (by omega) (by omega)]
 obtain ⟨m, hm⟩ : ∃ m, m = 1 + x1 := ⟨_, rfl⟩
 rw [← hm]
 refine Ev.bind (bound lo m (by omega) (by omega) (by omega) (by omega)) ?_
 refine Ev.bind (bound hi m (by omega) (by omega) (by omega) (by omega)) ?_
 refine Ev.bind (bound lo (m + z) (by omega) (by omega) (by omega) (by omega)) ?_
 obtain ⟨p1, p2⟩ := P_bd (th := lo) (m := m) (by omega) (by omega) (by omega) (by omega)
 obtain ⟨i1, i2⟩ := bd_is lo m
 have c1 : bd lo m ≤ bd hi m := bd_mono (Int.mul_le_mul_of_nonneg_right (by omega) (by omega))
 have c2 : bd lo m ≤ bd lo (m + z) := bd_mono (Int.mul_le_mul_of_nonneg_left (by omega) (by omega))
 generalize bd hi m = B at *
 generalize bd lo (m + z) = C at *
 generalize bd lo m = A at *
 generalize (lo + 1) * m = P at *
 simp only [c1, c2, wrap_id P (by omega) (by omega), wrap_id (434 * A) (by omega) (by omega), wrap_id (A - 1) (by omega) (by omega), wrap_id (434 * (A - 1)) (by omega) (by omega), show 434 * A ≥ P from i1, i2, ↓reduceIte]
 refine Ev.bind (bound_low (-1 - lo) m (by omega)) ?_
 simp only [↓reduceIte]
 refine Ev.bind (bound_low2 lo (-x1) (by omega) (by omega) (by omega)) ?_
 exact Ev.now _
end Go.Proofs.Ytjallhlamaggbaa.Pl

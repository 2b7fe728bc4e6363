/- PhiRises' plain law: the level never falls as the silence lasts, and is within one thousandth of the fraction: for all windows. No condition. -/
import Derived.Test.YtjallhlamaggbaaPLaw11PhiRises
import Derived.Test.YtjallhlamaggbaaPl11
import Derived.Test.YtjallhlamaggbaaOps
namespace Go.Proofs.Ytjallhlamaggbaa.Pl
open Go.RowKit Go.Proofs.Ytjallhlamaggbaa.P Go.Proofs.YtjallhlamaggbaaW.PrintWords Go.Proofs.YtjallhlamaggbaaW.PrintLast Go.Proofs.YtjallhlamaggbaaW.PrintMore Go.Proofs.Ytjallhlamaggbaa.Pl09 Go.Proofs.Ytjallhlamaggbaa.Pl11
set_option linter.unusedSimpArgs false
set_option linter.unusedVariables false
theorem alive11 : Ev (fun k => law11_alive.f k) true := Ev.of (fun k => law11_alive.mono k) (k := 60) (by decide +kernel)
theorem PhiRises : ∀ (x0 : S24) (x1 : S26) (x2 : Int), G24 x0 → G26 x1 → (Lit.int .u16 x2).wf = true → ∃ k, law11_PhiRises.f k x0.f0 x0.f1 x1.f0 x1.f1 x2 = some true := by
 intro x0 x1 x2 ⟨g0, g1⟩ ⟨e0, e1⟩ w2
 have b0 := u32_bd e0; have b1 := u32_bd e1; have b2 := u16_bd w2
 generalize hL : x0.f0 = last at *
 generalize hG : x0.f1 = l at *
 refine Ev.rounds (r := true) ?_
 unfold law11_PhiRises.f
 refine Ev.bind alive11 ?_
 simp only [↓reduceIte]
 have out : Ev (fun k => law11_PhiRises.j0 k x2 true last l x1.f0 x1.f1) true := by
  refine Ev.step (fun k => by rw [law11_PhiRises.j0]) ?_
  simp only [↓reduceIte]
  exact Ev.now _
 by_cases hl : (l.length : Int) > 16
 ·simp only [hl, ↓reduceIte]
  exact out
 ·simp only [hl, ↓reduceIte]
  obtain ⟨r, h1, h2⟩ := ref_right last l (by omega)
  refine Ev.bind h1 ?_
  cases r with
  | false =>
   simp only [Bool.false_eq_true, ↓reduceIte]
   exact out
  | true =>
   have hg := h2.1 rfl
   simp only [↓reduceIte]
   by_cases hn : last < 0
   ·simp only [hn, ↓reduceIte]
    exact out
   ·by_cases hb : last > 549755813888
    ·simp only [hn, hb, decide_true, ↓reduceIte]
     exact out
    ·simp only [hn, hb, decide_false, ↓reduceIte]
     have hlo : 0 ≤ mn x1.f0 x1.f1 ∧ mn x1.f0 x1.f1 ≤ 4294967295 := by unfold mn; split <;> omega
     have hhi : mn x1.f0 x1.f1 ≤ mx x1.f0 x1.f1 ∧ mx x1.f0 x1.f1 ≤ 4294967295 := by unfold mn mx; split <;> split <;> omega
     refine Ev.step (fun k => by rw [law11_PhiRises.j0]) ?_
     generalize mn x1.f0 x1.f1 = lo at *
     generalize mx x1.f0 x1.f1 = hi at *
     simp only [Bool.false_eq_true, ↓reduceIte, wrap_id lo (by omega) (by omega), wrap_id hi (by omega) (by omega), wrap_id x2 (by omega) (by omega), wrap_id (last + lo) (by omega) (by omega), wrap_id (last + hi) (by omega) (by omega)]
     refine Ev.bind (level hg (by omega) (last + lo) x2 (by omega) (by omega) (by omega)) ?_
     refine Ev.bind (level hg (by omega) (last + hi) x2 (by omega) (by omega) (by omega)) ?_
     obtain ⟨m1, m2, _⟩ := wm_bd hg x2 (by omega)
     have hmean := ref_mean hg x2
     generalize wm l x2 = m at *
     have e1 : last + lo - last = lo := by omega
     have e2 : last + hi - last = hi := by omega
     have hle : lo * 434 / m ≤ hi * 434 / m := Int.ediv_le_ediv (by omega) (by omega)
     simp only [e1, e2, ↓reduceIte, show ¬ lo * 434 / m > hi * 434 / m by omega, decide_false]
     refine Ev.step (fun k => by rw [law11_PhiRises.j1]) ?_
     have a0 : 0 ≤ lo * 434 / m := Int.ediv_nonneg (by omega) (by omega)
     have a1 : lo * 434 / m ≤ lo * 434 := Int.ediv_le_self _ (by omega)
     have a2 : lo * 434 / m * m ≤ lo * 434 := Int.ediv_mul_le _ (by omega)
     have a3 : lo * 434 < (lo * 434 / m + 1) * m := Int.lt_ediv_add_one_mul_self _ (by omega)
     have m3 : m ≤ 9223372036854775807 := m2
     simp only [Bool.false_eq_true, ↓reduceIte, wrap_id x2 (by omega) (by omega), e1, wrap_id lo (by omega) (by omega), wrap_id (434 * lo) (by omega) (by omega), wrap_id (lo * 434 / m + 1) (by omega) (by omega)]
     refine Ev.bind hmean ?_
     refine Ev.bind (PlRef09A.cmp (lo * 434 / m) 1 (434 * lo) m (by omega) (by omega) (by decide) (by decide) (by omega) (by omega) m1 m3) ?_
     have c1 : (if lo * 434 / m * m < 434 * lo * 1 then (-1 : Int) else if lo * 434 / m * m > 434 * lo * 1 then 1 else 0) ≤ 0 := by
      generalize lo * 434 / m * m = q at *
      split
      ·decide
      ·split <;> omega
     simp only [c1, ↓reduceIte]
     refine Ev.bind (PlRef09A.cmp (lo * 434 / m + 1) 1 (434 * lo) m (by omega) (by omega) (by decide) (by decide) (by omega) (by omega) m1 m3) ?_
     have c2 : decide ((if (lo * 434 / m + 1) * m < 434 * lo * 1 then (-1 : Int) else if (lo * 434 / m + 1) * m > 434 * lo * 1 then 1 else 0) > 0) = true := by
      generalize (lo * 434 / m + 1) * m = q at *
      rw [if_neg (by omega), if_pos (by omega)]
      decide
     simp only [c2]
     exact Ev.now _
end Go.Proofs.Ytjallhlamaggbaa.Pl

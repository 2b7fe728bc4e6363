/- PhiNews' plain law: behind an arrival the level is nothing, and nobody is suspect: for all windows. No condition. -/
import Derived.Test.YtjallhlamaggbaaPLaw11PhiNews
import Derived.Test.YtjallhlamaggbaaPl11
import Derived.Test.YtjallhlamaggbaaOps
namespace Go.Proofs.Ytjallhlamaggbaa.Pl
open Go.RowKit Go.Proofs.Ytjallhlamaggbaa.P Go.Proofs.YtjallhlamaggbaaW.PrintWords Go.Proofs.YtjallhlamaggbaaW.PrintLast Go.Proofs.YtjallhlamaggbaaW.PrintMore Go.Proofs.Ytjallhlamaggbaa.Pl09 Go.Proofs.Ytjallhlamaggbaa.Pl11
set_option linter.unusedSimpArgs false
set_option linter.unusedVariables false
theorem alive11 : Ev (fun k => law11_alive.f k) true := Ev.of (fun k => law11_alive.mono k) (k := 60) (by decide +kernel)
theorem PhiNews : ∀ (x0 : S24) (x1 : S46) (x2 : Int), G24 x0 → G46 x1 → (Lit.int .u16 x2).wf = true → ∃ k, law11_PhiNews.f k x0.f0 x0.f1 x1.f0 x1.f1 x2 = some true := by
 intro x0 x1 x2 ⟨g0, g1⟩ ⟨e0, e1⟩ w2
 have b0 := u16_bd e0; have b1 := u16_bd e1; have b2 := u16_bd w2
 have hlen : x0.f1.length < 4611686018427387904 := by have := g1.2.1; omega
 generalize hL : x0.f0 = last at *
 generalize hG : x0.f1 = l at *
 refine Ev.rounds (r := true) ?_
 unfold law11_PhiNews.f
 refine Ev.bind alive11 ?_
 simp only [↓reduceIte]
 have out : Ev (fun k => law11_PhiNews.j0 k x2 true last l x1.f0 x1.f1) true := by
  refine Ev.step (fun k => by rw [law11_PhiNews.j0]) ?_
  simp only [↓reduceIte]
  exact Ev.now _
 obtain ⟨r, h1, h2⟩ := ref_right last l hlen
 refine Ev.bind h1 ?_
 cases r with
 | false =>
  simp only [Bool.false_eq_true, ↓reduceIte]
  exact out
 | true =>
  have hg := h2.1 rfl
  simp only [↓reduceIte]
  by_cases hb : last > 549755813888
  ·simp only [hb, decide_true, ↓reduceIte]
   exact out
  ·simp only [hb, decide_false, ↓reduceIte]
   refine Ev.step (fun k => by rw [law11_PhiNews.j0]) ?_
   have hmx : 0 ≤ mx last 0 ∧ last ≤ mx last 0 ∧ mx last 0 ≤ 549755813888 := by unfold mx; split <;> omega
   simp only [Bool.false_eq_true, ↓reduceIte, wrap_id x1.f0 (by omega) (by omega), wrap_id x1.f1 (by omega) (by omega), wrap_id x2 (by omega) (by omega), wrap_id (mx last 0 + x1.f0) (by omega) (by omega)]
   generalize hnow : mx last 0 + x1.f0 = now at *
   have ha := arr_good hg now 50 (by omega) (by omega) (by omega)
   refine Ev.bind (arrive hg now 50 (by omega) (by omega) (by omega)) ?_
   simp only []
   obtain ⟨m1, _, m2⟩ := wm_bd ha x1.f1 (by omega)
   obtain ⟨p1, p2⟩ := P_bd (th := x2) (m := wm (arr last l now 50) x1.f1) (by omega) (by omega) m1 (m2 (by omega))
   have hbd : 1 ≤ bd x2 (wm (arr last l now 50) x1.f1) := by unfold bd; omega
   refine Ev.bind (level ha (by omega) now x1.f1 (by omega) (by omega) (by omega)) ?_
   refine Ev.bind (first ha (by omega) x1.f1 x2 (by omega) (by omega) (by omega)) ?_
   have z0 : (now - now) * 434 / wm (arr last l now 50) x1.f1 = 0 := by rw [Int.sub_self, Int.zero_mul, Int.zero_ediv]
   simp only [z0, ↓reduceIte]
   refine Ev.bind (suspect_lt ha (by omega) now x1.f1 x2 (by omega) (by omega) (by omega) (by rw [Int.sub_self]; omega)) ?_
   simp only [Bool.false_eq_true, ↓reduceIte]
   generalize bd x2 (wm (arr last l now 50) x1.f1) = B at *
   by_cases hf : B > 1099511627776 - now
   ·simp only [hf, ↓reduceIte, show ¬ ((8 : Int) = 0) by decide]
    exact Ev.now _
   ·simp only [hf, ↓reduceIte, show now + B > now by omega]
    exact Ev.now _
end Go.Proofs.Ytjallhlamaggbaa.Pl

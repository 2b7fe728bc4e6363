/- PhiFirst's plain law: first is just when it becomes suspect, and it stays so: for all windows. No condition. -/
import Derived.Test.YtjallhlamaggbaaPLaw11PhiFirst
import Derived.Test.YtjallhlamaggbaaPl11
import Derived.Test.YtjallhlamaggbaaOps
namespace Go.Proofs.Ytjallhlamaggbaa.Pl
open Go.RowKit Go.Proofs.Ytjallhlamaggbaa.P Go.Proofs.YtjallhlamaggbaaW.PrintWords Go.Proofs.YtjallhlamaggbaaW.PrintLast Go.Proofs.YtjallhlamaggbaaW.PrintMore Go.Proofs.Ytjallhlamaggbaa.Pl09 Go.Proofs.Ytjallhlamaggbaa.Pl11
set_option linter.unusedSimpArgs false
set_option linter.unusedVariables false
theorem alive11 : Ev (fun k => law11_alive.f k) true := Ev.of (fun k => law11_alive.mono k) (k := 60) (by decide +kernel)
theorem bd_is (th m : Int) : (th + 1) * m ≤ 434 * bd th m ∧ 434 * (bd th m - 1) < (th + 1) * m := by
 unfold bd
 generalize (th + 1) * m = P
 omega
theorem PhiFirst : ∀ (x0 : S24) (x1 : Int) (x2 : Int), G24 x0 → (Lit.int .u16 x1).wf = true → (Lit.int .u16 x2).wf = true → ∃ k, law11_PhiFirst.f k x0.f0 x0.f1 x1 x2 = some true := by
 intro x0 x1 x2 ⟨g0, g1⟩ w1 w2
 have b1 := u16_bd w1; have b2 := u16_bd w2
 generalize hL : x0.f0 = last at *
 generalize hG : x0.f1 = l at *
 refine Ev.rounds (r := true) ?_
 unfold law11_PhiFirst.f
 refine Ev.bind alive11 ?_
 simp only [↓reduceIte]
 have out : Ev (fun k => law11_PhiFirst.j0 k x1 x2 true last l) true := by
  refine Ev.step (fun k => by rw [law11_PhiFirst.j0]) ?_
  simp only [↓reduceIte]
  exact Ev.now _
 by_cases hl : (l.length : Int) > 16
 ·simp only [hl, ↓reduceIte]
  exact out
 ·simp only [hl, ↓reduceIte]
  obtain ⟨r, h1, h2⟩ := ref_right last l (by omega)
  refine Ev.bind h1 ?_
  cases r with
  | false =>
   simp only [Bool.false_eq_true, ↓reduceIte]
   exact out
  | true =>
   have hg := h2.1 rfl
   simp only [↓reduceIte]
   by_cases hn : last < 0
   ·simp only [hn, decide_true, ↓reduceIte]
    exact out
   ·simp only [hn, decide_false, ↓reduceIte]
    refine Ev.step (fun k => by rw [law11_PhiFirst.j0]) ?_
    simp only [Bool.false_eq_true, ↓reduceIte, wrap_id x1 (by omega) (by omega), wrap_id x2 (by omega) (by omega)]
    obtain ⟨m1, _, m2⟩ := wm_bd hg x1 (by omega)
    obtain ⟨p1, p2⟩ := P_bd (th := x2) (m := wm l x1) (by omega) (by omega) m1 (m2 (by omega))
    obtain ⟨i1, i2⟩ := bd_is x2 (wm l x1)
    have hlast := hg.2.1
    have hbd : 1 ≤ bd x2 (wm l x1) := by unfold bd; omega
    refine Ev.bind (first hg (by omega) x1 x2 (by omega) (by omega) (by omega)) ?_
    by_cases hf : bd x2 (wm l x1) > 1099511627776 - last
    ·simp only [hf, ↓reduceIte, show ¬ ((8 : Int) = 0) by decide]
     exact Ev.now _
    ·simp only [hf, ↓reduceIte]
     generalize hB : bd x2 (wm l x1) = B at *
     have s1 := suspect_ge hg (by omega) (last + B) x1 x2 (by omega) (by omega) (by omega) (by rw [show last + B - last = B by omega]; exact i1)
     have s2 := suspect_lt hg (by omega) (last + B - 1) x1 x2 (by omega) (by omega) (by omega) (by rw [show last + B - 1 - last = B - 1 by omega]; exact i2)
     refine Ev.bind s1 ?_
     simp only [↓reduceIte, wrap_id (last + B - 1) (by omega) (by omega)]
     refine Ev.bind s2 ?_
     simp only [Bool.false_eq_true, show last + B > last by omega, ↓reduceIte]
     by_cases he : last + B = 1099511627776
     ·simp only [he, ↓reduceIte]
      exact Ev.now _
     ·simp only [he, ↓reduceIte, wrap_id (last + B + 1) (by omega) (by omega)]
      refine Ev.bind (suspect_ge hg (by omega) (last + B + 1) x1 x2 (by omega) (by omega) (by omega) (by rw [show last + B + 1 - last = B + 1 by omega]; omega)) ?_
      exact Ev.now _
end Go.Proofs.Ytjallhlamaggbaa.Pl

/- WindowArrives' plain law: anything that comes to any window does what the document says, or is refused: for all windows. No condition. -/
import Derived.Test.YtkojggbogdjmcaaPLaw10WindowArrives
import Derived.Test.YtkojggbogdjmcaaOps
import Derived.Test.YtkojggbogdjmcaaPlRef10
namespace Go.Proofs.Ytkojggbogdjmcaa.Pl
open Go.RowKit Go.Proofs.Ytkojggbogdjmcaa.P Go.Proofs.YtkojggbogdjmcaaW.PrintWords Go.Proofs.YtkojggbogdjmcaaW.PrintLast Go.Proofs.YtkojggbogdjmcaaW.PrintMore Go.Proofs.Ytkojggbogdjmcaa.Pl09 Go.Proofs.Ytkojggbogdjmcaa.Pl10
set_option linter.unusedSimpArgs false
set_option linter.unusedVariables false
theorem alive10 : Ev (fun k => law10_alive.f k) true := Ev.of (fun k => law10_alive.mono k) (k := 60) (by decide +kernel)
theorem arrive_same (last now most : Int) (l : List Int) (hl : l.length ≤ 200) : ∃ p q e, Ev (fun k => window_Arrive.f k last l now most) (p, q, e) ∧ Ev (fun k => ref10_Arrive.f k last l now most) (p, q, e) ∧ q.length ≤ 201 := by
 by_cases hg : GoodW last l ∧ 0 ≤ now ∧ last ≤ now ∧ now ≤ 1099511627776
 ·obtain ⟨g, n0, n1, n2⟩ := hg
  have a1 := arrive g now most n0 n1 n2
  have a2 := ref_arrive g now most n0 n1 n2
  rw [← arr_is g] at a2
  refine ⟨_, _, _, ?_, a2, ?_⟩
  ·exact a1
  ·have := arr_len (last := last) (now := now) (most := most) (l := l) g.2.2.1
   rw [this]
   split <;> omega
 ·refine ⟨last, l, 1, ?_, ?_, by omega⟩
  ·unfold window_Arrive.f
   have out : Ev (fun k => window_Arrive.j0 k now most true last l) (last, l, 1) := by
    refine Ev.step (fun k => by rw [window_Arrive.j0]) ?_
    simp only [↓reduceIte]
    exact Ev.now _
   by_cases h1 : now < mx 0 last
   ·simp only [h1, ↓reduceIte]
    exact out
   ·by_cases h2 : now > 1099511627776
    ·simp only [h1, h2, ↓reduceIte]
     exact out
    ·obtain ⟨r, hr, hr2⟩ := win_right last l
     simp only [h1, h2, hr, Option.bind_some, ↓reduceIte]
     have : r = false := by
      cases r with
      | false => rfl
      | true =>
       refine absurd ⟨hr2.1 rfl, ?_⟩ hg
       unfold mx at h1
       split at h1 <;> omega
     rw [this]
     exact out
  ·unfold ref10_Arrive.f
   have out : Ev (fun k => ref10_Arrive.j0 k now most true last l) (last, l, 1) := by
    refine Ev.step (fun k => by rw [ref10_Arrive.j0]) ?_
    simp only [↓reduceIte]
    exact Ev.now _
   obtain ⟨r, hr, hr2⟩ := ref_right last l (by omega)
   refine Ev.bind hr ?_
   cases r with
   | false =>
    simp only [Bool.false_eq_true, ↓reduceIte]
    exact out
   | true =>
    have g := hr2.1 rfl
    simp only [↓reduceIte]
    by_cases h1 : now < 0
    ·simp only [h1, ↓reduceIte]
     exact out
    ·by_cases h2 : now < last
     ·simp only [h1, h2, ↓reduceIte]
      exact out
     ·have h3 : now > 1099511627776 := by
       rcases Int.lt_or_le 1099511627776 now with h | h
       ·exact h
       ·exact absurd ⟨g, by omega, by omega, h⟩ hg
      simp only [h1, h2, h3, decide_true, ↓reduceIte]
      exact out
theorem WindowArrives : ∀ (x0 : S27) (x1 : S27) (x2 : S39), G27 x0 → G27 x1 → G39 x2 → ∃ k, law10_WindowArrives.f k x0.f0 x0.f1 x1.f0 x1.f1 x2.f0 x2.f1 x2.f2 = some true := by
 intro x0 x1 x2 g0 g1 g2
 generalize x0.f0 = last
 generalize x0.f1 = l
 generalize x1.f0 = last1
 generalize x1.f1 = l1
 refine Ev.rounds (r := true) ?_
 unfold law10_WindowArrives.f
 refine Ev.bind alive10 ?_
 simp only [↓reduceIte]
 have out : Ev (fun k => law10_WindowArrives.j0 k true last l last1 l1 x2.f0 x2.f1 x2.f2) true := by
  refine Ev.step (fun k => by rw [law10_WindowArrives.j0]) ?_
  simp only [↓reduceIte]
  exact Ev.now _
 by_cases h1 : (l.length : Int) > 200
 ·simp only [h1, ↓reduceIte]
  exact out
 ·by_cases h2 : (l1.length : Int) > 200
  ·simp only [h1, h2, decide_true, ↓reduceIte]
   exact out
  ·simp only [h1, h2, decide_false, ↓reduceIte]
   refine Ev.step (fun k => by rw [law10_WindowArrives.j0]) ?_
   simp only [Bool.false_eq_true, Option.bind_some, List.length_nil, List.nil_append, show 0 + l.length < 17592186044416 by omega, ↓reduceIte]
   obtain ⟨p, q, e, a1, a2, hq⟩ := arrive_same last x2.f0 x2.f1 l (by omega)
   refine Ev.bind a1 (Ev.bind a2 ?_)
   refine Ev.bind (ref_same p p q q (by omega)) ?_
   simp only [and_self, decide_true, ↓reduceIte]
   obtain ⟨m, m1, m2⟩ := mean_same last x2.f2 l (by omega)
   refine Ev.bind m1 (Ev.bind m2 ?_)
   obtain ⟨r, r1, r2⟩ := win_right last l
   obtain ⟨s, s1, s2⟩ := ref_right last l (by omega)
   have hrs : (r == s) = true := by
    rw [beq_iff_eq]
    cases r <;> cases s <;> simp_all
   simp only [r1, Option.bind_some, ↓reduceIte]
   refine Ev.bind s1 ?_
   simp only [hrs, ↓reduceIte]
   refine Ev.bind (win_same last last1 l l1 (by omega)) ?_
   refine Ev.bind (ref_same last last1 l l1 (by omega)) ?_
   simp only [beq_self_eq_true, ↓reduceIte]
   refine Ev.bind (ref_same last last l l (by omega)) ?_
   simp only [and_self, decide_true, ↓reduceIte, window_New.f, ref10_New.f, Option.bind_some]
   refine Ev.bind (ref_same (-1) (-1) [] [] (by simp)) ?_
   simp only [and_self, decide_true]
   exact Ev.now _
end Go.Proofs.Ytkojggbogdjmcaa.Pl

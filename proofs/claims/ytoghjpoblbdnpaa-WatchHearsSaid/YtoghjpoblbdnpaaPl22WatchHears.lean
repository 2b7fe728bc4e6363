/- Any beat is heard by any list as the document says, or not: the law's plain function answers true. No program runs here. No condition. -/
import Derived.Test.YtoghjpoblbdnpaaPlXR
import Derived.Test.YtoghjpoblbdnpaaPLaw22WatchHears
import Derived.Test.YtoghjpoblbdnpaaOps
namespace Go.Proofs.Ytoghjpoblbdnpaa.Pl
open Go.RowKit Go.Proofs.Ytoghjpoblbdnpaa.P Go.Proofs.YtoghjpoblbdnpaaW.PrintWords Go.Proofs.YtoghjpoblbdnpaaW.PrintLast Go.Proofs.YtoghjpoblbdnpaaW.PrintMore Go.Proofs.Ytoghjpoblbdnpaa.Pl09 Go.Proofs.Ytoghjpoblbdnpaa.Pl10
set_option linter.unusedSimpArgs false
set_option linter.unusedVariables false
theorem alive22 : Ev (fun k => law22_alive.f k) true := Ev.of (fun k => law22_alive.mono k) (k := 60) (by decide +kernel)
theorem hears_j1 (l : List X) (h : l.length < 4611686018427387904) (d0 d1 d2 now most : Int) : Ev (fun k => law22_WatchHears.j1 k l false d0 d1 d2 now most) true := by
 refine Ev.step (fun k => by rw [law22_WatchHears.j1]) ?_; simp only [Bool.false_eq_true, ↓reduceIte]; obtain ⟨o, eo, qo⟩ := out22 l now h; refine Ev.bind eo ?_
 cases o with
 | true =>
  simp only [↓reduceIte]; exact Ev.now _
 | false =>
  obtain ⟨hs, hg, h0, h2⟩ := qo rfl; obtain ⟨r, hgr, e1, e2⟩ := heard_both hs hg d0 d1 d2 now most h0 h2; simp only [Bool.false_eq_true, ↓reduceIte]; refine Ev.bind (copy22 l (Nat.le_trans hs.1 (by decide)) (fun y hy => Nat.le_trans (hs.2 y hy) (by decide))) (Ev.bind e1 (Ev.bind e2 (Ev.bind (same_yes hgr) ?_))); simp only [↓reduceIte, beq_self_eq_true]; refine Ev.bind (same_yes hg) ?_; simp only [↓reduceIte]; obtain ⟨t, et, qt⟩ := right22 r.1 (good_gaps hgr); rw [qt.2 hgr] at et; exact Ev.bind et (Ev.now _)
theorem hears_j0 (l m : List X) (b : Bool) (hb : b = false → SmallL l) (h : l.length < 4611686018427387904) (d0 d1 d2 now most : Int) : Ev (fun k => law22_WatchHears.j0 k l m b d0 d1 d2 now most) true := by
 refine Ev.step (fun k => by rw [law22_WatchHears.j0]) ?_
 cases b with
 | true =>
  simp only [↓reduceIte]; exact Ev.now _
 | false =>
  have hs := hb rfl; obtain ⟨t, et, qt⟩ := wright l h; obtain ⟨u, eu, qu⟩ := right22 l (fun x hx => Nat.lt_of_le_of_lt (hs.2 x hx) (by decide))
  have htu : t = u := by
   rw [Bool.eq_iff_iff, qt, qu]
  subst htu; have es := same22 l m h (fun x hx => Nat.lt_of_le_of_lt (hs.2 x hx) (by decide)); simp only [Bool.false_eq_true, ↓reduceIte]; refine Ev.bind et (Ev.bind eu ?_); simp only [bne_self_eq_false, Bool.false_eq_true, ↓reduceIte, wsame22, Option.bind_some]; refine Ev.bind es ?_; simp only [bne_self_eq_false, Bool.false_eq_true, ↓reduceIte, decide_true, Bool.not_true]; exact hears_j1 l h d0 d1 d2 now most
theorem WatchHears : ∀ (x0 : List S36) (x1 : List S36) (x2 : S53), (x0.length ≤ maxLen ∧ x0.length * 72 ≤ 140737488351232 ∧ ∀ x_ ∈ x0, G36 x_) → (x1.length ≤ maxLen ∧ x1.length * 72 ≤ 140737488351232 ∧ ∀ x_ ∈ x1, G36 x_) → G53 x2 → ∃ k, law22_WatchHears.f k x0 x1 x2.f0 x2.f1 x2.f2 x2.f3 x2.f4 = some true := by
 intro l m d hl hm _
 have h1 : l.length < 4611686018427387904 := by have := hl.2.1; omega
 have h2 : m.length < 4611686018427387904 := by have := hm.2.1; omega
 refine Ev.rounds (?_ : Ev (fun k => law22_WatchHears.f k l m d.f0 d.f1 d.f2 d.f3 d.f4) true)
 unfold law22_WatchHears.f
 refine Ev.bind alive22 ?_; simp only [↓reduceIte]; obtain ⟨g, eg, qg⟩ := great l h1; refine Ev.bind eg ?_
 cases g with
 | true =>
  simp only [↓reduceIte]; exact hears_j0 l m true (fun h => by cases h) h1 _ _ _ _ _
 | false =>
  simp only [Bool.false_eq_true, ↓reduceIte]; obtain ⟨g2, eg2, _⟩ := great m h2; exact Ev.bind eg2 (hears_j0 l m g2 (fun _ => qg rfl) h1 _ _ _ _ _)
end Go.Proofs.Ytoghjpoblbdnpaa.Pl

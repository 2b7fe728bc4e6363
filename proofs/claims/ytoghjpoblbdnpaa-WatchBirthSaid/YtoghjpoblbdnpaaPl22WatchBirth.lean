/- A greater life is news, whatever its beat, and its window begins anew; a lower one never is: the law's plain function answers true. No program runs here. No condition. -/
import Derived.Test.YtoghjpoblbdnpaaPlXH
import Derived.Test.YtoghjpoblbdnpaaPLaw22WatchBirth
import Derived.Test.YtoghjpoblbdnpaaOps
namespace Go.Proofs.Ytoghjpoblbdnpaa.Pl
open Go.RowKit Go.Proofs.Ytoghjpoblbdnpaa.P Go.Proofs.YtoghjpoblbdnpaaW.PrintWords Go.Proofs.YtoghjpoblbdnpaaW.PrintLast Go.Proofs.YtoghjpoblbdnpaaW.PrintMore Go.Proofs.Ytoghjpoblbdnpaa.Pl09 Go.Proofs.Ytoghjpoblbdnpaa.Pl10
set_option linter.unusedSimpArgs false
set_option linter.unusedVariables false
theorem alive22 : Ev (fun k => law22_alive.f k) true := Ev.of (fun k => law22_alive.mono k) (k := 60) (by decide +kernel)
theorem u16_22 {a : Int} (h : (Lit.int .u16 a).wf = true) : 0 ≤ a ∧ a ≤ 65535 := by
 simp [Lit.wf, IntKind.min, IntKind.max, IntKind.bits, IntKind.signed] at h
 omega
theorem at22 (l : List X) (p : Nat) (h : p < l.length) : ∃ lo x hi, l = lo ++ x :: hi ∧ lo.length = p :=
 ⟨l.take p, l[p], l.drop (p + 1), by rw [List.getElem_cons_drop, List.take_append_drop], by rw [List.length_take]; omega⟩
theorem WatchBirth : ∀ (x0 : List S36) (x1 : Int) (x2 : S24), (x0.length ≤ maxLen ∧ x0.length * 72 ≤ 140737488351232 ∧ ∀ x_ ∈ x0, G36 x_) → (Lit.int .u16 x1).wf = true → G24 x2 → ∃ k, law22_WatchBirth.f k x0 x1 x2.f0 x2.f1 = some true := by
 intro l b two hl hb ht; have hb := u16_22 hb; have ht0 := u16_22 ht.1; have ht1 := u16_22 ht.2; refine Ev.rounds (?_ : Ev (fun k => law22_WatchBirth.f k l b two.f0 two.f1) true)
 unfold law22_WatchBirth.f
 refine Ev.bind alive22 ?_; obtain ⟨now, hnow⟩ : ∃ n_, n_ = 1073741824 + two.f0 := ⟨_, rfl⟩
 have hw : wrap64 (1073741824 + wrap64 two.f0) = now := by rw [wrap_id two.f0 (by omega) (by omega), wrap_id _ (by omega) (by omega), hnow]
 simp only [↓reduceIte, hw]; obtain ⟨o, eo, qo⟩ := out22 l now (by have := hl.2.1; omega); refine Ev.bind eo ?_
 cases o with
 | true =>
  simp only [↓reduceIte]; refine Ev.step (fun k => by rw [law22_WatchBirth.j0]) ?_; simp only [↓reduceIte]; exact Ev.now _
 | false =>
  obtain ⟨hs, hg, h0, h1⟩ := qo rfl; simp only [Bool.false_eq_true, ↓reduceIte]; refine Ev.step (fun k => by rw [law22_WatchBirth.j0]) ?_
  by_cases hz : l.length = 0
  ·have c : ((l.length : Int) == 0) = true := by rw [beq_iff_eq]; omega
   simp only [c, ↓reduceIte]; exact Ev.now _
  have c : ((l.length : Int) == 0) = false := by rw [beq_eq_false_iff_ne]; omega
  have c0 : ¬ (l.length : Int) = 0 := by omega
  obtain ⟨p, hp, hpi⟩ : ∃ p : Nat, p < l.length ∧ Int.tmod (wrap64 two.f1) (l.length : Int) = (p : Int) := by
   rw [wrap_id two.f1 (by omega) (by omega), Int.tmod_eq_emod_of_nonneg ht1.1]; have e1 := Int.emod_nonneg two.f1 (show (l.length : Int) ≠ 0 by omega); have e2 := Int.emod_lt_of_pos two.f1 (show (0 : Int) < (l.length : Int) by omega); exact ⟨(two.f1 % (l.length : Int)).toNat, by omega, by omega⟩
  have c1 : (0 : Int) ≤ (p : Int) := by omega
  have c2 : (p : Int) < (l.length : Int) := by omega
  have hwb : wrap64 b = b := wrap_id b (by omega) (by omega); simp only [c, c0, hpi, c1, c2, Bool.false_eq_true, ↓reduceIte]; obtain ⟨lo, x, hi, rfl, rfl⟩ := at22 l p hp; simp only [x_mid]; have hx := hg.2 x (by simp)
  by_cases hv : x.f1 = 1099511627776
  ·simp only [hv, ↓reduceIte]; refine Ev.step (fun k => by rw [law22_WatchBirth.j1]) ?_; simp only [↓reduceIte]; exact Ev.now _
  simp only [hv, ↓reduceIte]; refine Ev.step (fun k => by rw [law22_WatchBirth.j1]) ?_
  by_cases hn : x.f3.f0 > now
  ·simp only [hn, decide_true, ↓reduceIte]; exact Ev.now _
  obtain ⟨g0, g1, g2, g3, _⟩ := hx; have hd1 : GoodD x.f0 (x.f1 + 1) b := ⟨⟨g0, g1⟩, ⟨by omega, by omega⟩, by omega, by omega⟩; have hd2 : GoodD x.f0 x.f1 1099511627776 := ⟨⟨g0, g1⟩, ⟨by omega, by omega⟩, by omega, by omega⟩; have hw1 : wrap64 (x.f1 + 1) = x.f1 + 1 := wrap_id _ (by omega) (by omega); have hw2 : wrap64 (now + 1) = now + 1 := wrap_id _ (by omega) (by omega); simp only [hn, decide_false, Bool.false_eq_true, ↓reduceIte, hw1, hw2, hwb]; have e1 := heard_birth hs hg hd1 now 50 (by omega) h0 h1
  have hga : GoodL (lo ++ born x.f0 (x.f1 + 1) b now [] :: hi) := by
   have hp := List.pairwise_append.1 hg.1; exact good_mid (good_out hg) (good_born hd1 ⟨by omega, h1, by simp, by simp⟩ h0) (fun y hy => hp.2.2 y hy x (by simp)) (fun y hy => (List.pairwise_cons.1 hp.2.1).1 y hy)
  have e2 := heard_old (x := born x.f0 (x.f1 + 1) b now []) (d1 := x.f1) (d2 := 1099511627776) (good_small hga) hga hd2 (now + 1) 50 (.inl (by show x.f1 + 1 > x.f1; omega)); have es := same_yes hga; refine Ev.bind e1 ?_; simp only [↓reduceIte]; refine Ev.bind e2 ?_
  have c3 : ((lo ++ born x.f0 (x.f1 + 1) b now [] :: hi).length : Int) = ((lo ++ x :: hi).length : Int) := by simp
  have c4 : ((lo.length : Nat) : Int) < ((lo ++ born x.f0 (x.f1 + 1) b now [] :: hi).length : Int) := x_lt _ _ _; simp only [Bool.false_eq_true, ↓reduceIte, c3]; refine Ev.bind es ?_; simp only [c0, hpi, c1, c4, c2, ↓reduceIte, x_mid]; simp only [born, ↓reduceIte]; exact Ev.now _
end Go.Proofs.Ytoghjpoblbdnpaa.Pl

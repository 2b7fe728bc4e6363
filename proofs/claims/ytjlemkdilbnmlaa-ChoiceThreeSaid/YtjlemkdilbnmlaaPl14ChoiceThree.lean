/- ChoiceThree's plain law: at most three, nobody twice, all of the lists, and somebody, if anybody is alive, or there are seeds: for all lists. No condition. -/
import Derived.Test.YtjlemkdilbnmlaaPLaw14ChoiceThree
import Derived.Test.YtjlemkdilbnmlaaOps
import Derived.Test.YtjlemkdilbnmlaaPlRo
namespace Go.Proofs.Ytjlemkdilbnmlaa.Pl
open Go.RowKit Go.Proofs.Ytjlemkdilbnmlaa.P Go.Proofs.YtjlemkdilbnmlaaW.PrintWords Go.Proofs.YtjlemkdilbnmlaaW.PrintLast Go.Proofs.YtjlemkdilbnmlaaW.PrintMore Go.Proofs.YtjlemkdilbnmlaaW.Hw
set_option linter.unusedSimpArgs false
set_option linter.unusedVariables false
theorem three_l (a d s r : List Int) (ha : a.length ≤ 1000000) (hd : d.length ≤ 1000000) (hs : s.length ≤ 1000000) (h3 : r.length ≤ 3) (hn : r.Nodup) (hm : ∀ x ∈ r, x ∈ a ∨ x ∈ d ∨ x ∈ s) (he : 0 < r.length ∨ a.length + s.length = 0) :
  ∀ (suf pre : List Int), pre ++ suf = r → Ev (fun k => law14_ChoiceThree.l0 k r (pre.length : Int) a d s) true
 | [], pre, e => by
  have e' : pre = r := by simpa using e
  subst e'; refine Ev.step (fun k => by rw [law14_ChoiceThree.l0]) ?_
  have h1 : (pre.length : Int) ≤ 3 := by omega
  simp only [Int.lt_irrefl, h1, ↓reduceIte]
  by_cases hp : (pre.length : Int) > 0
  ·simp only [hp, ↓reduceIte]; exact Ev.now _
  ·simp only [hp, ↓reduceIte]
   have h0 : (a.length : Int) + (s.length : Int) = 0 := by omega
   rw [h0]; exact Ev.cast (Ev.now _) (by rw [wrap_id 0 (by omega) (by omega)]; rfl)
 | x :: suf, pre, e => by
  have h1 : ((pre.length : Nat) : Int) < (r.length : Int) := by rw [← e]; exact mid_lt pre x suf
  have h1' : ((pre.length : Nat) : Int) ≤ (r.length : Int) := by omega
  have h2 : rd r ((pre.length : Nat) : Int) = x := by rw [← e]; exact rdI pre x suf
  have h4 : wrap64 (((pre.length : Nat) : Int) + 1) = (((pre ++ [x]).length : Nat) : Int) := mid_next pre x suf (by rw [e]; omega)
  have h5 : r.take (((pre.length : Nat) : Int)).toNat = pre := by rw [← e]; simp
  have h6 : decide (x ∈ pre) = false := by
   refine decide_eq_false (fun hx => ?_); rw [← e, List.nodup_append] at hn; exact hn.2.2 x hx x (by simp) rfl
  have h7 := hm x (by rw [← e]; simp)
  have hpl : pre.length ≤ 1000000 := by omega
  have next := three_l a d s r ha hd hs h3 hn hm he suf (pre ++ [x]) (by simp [← e]); refine Ev.step (fun k => by rw [law14_ChoiceThree.l0]) ?_; simp only [h1, h1', nat_ge pre, h2, h4, h5, ↓reduceIte]; refine Ev.bind (ev_rHas a x ha) ?_
  by_cases m1 : x ∈ a
  ·simp only [m1, decide_true, ↓reduceIte]; refine Ev.bind (ev_rHas pre x hpl) ?_; simp only [h6, Bool.false_eq_true, ↓reduceIte]; exact next
  ·simp only [m1, decide_false, Bool.false_eq_true, ↓reduceIte]; refine Ev.bind (ev_rHas d x hd) ?_
   by_cases m2 : x ∈ d
   ·simp only [m2, decide_true, ↓reduceIte]; refine Ev.bind (ev_rHas pre x hpl) ?_; simp only [h6, Bool.false_eq_true, ↓reduceIte]; exact next
   ·simp only [m2, decide_false, Bool.false_eq_true, ↓reduceIte]; refine Ev.bind (ev_rHas s x hs) ?_; have m3 : x ∈ s := (h7.resolve_left m1).resolve_left m2; simp only [m3, decide_true, ↓reduceIte]; refine Ev.bind (ev_rHas pre x hpl) ?_; simp only [h6, Bool.false_eq_true, ↓reduceIte]; exact next
theorem ChoiceThree : ∀ (x0 : S24) (x1 : S26), G24 x0 → G26 x1 → ∃ k, law14_ChoiceThree.f k x0.f0 x0.f1 x0.f2 x1.f0 x1.f1 x1.f2 = some true := by
 intro x p g0 g1; refine Ev.rounds (r := true) ?_
 unfold law14_ChoiceThree.f
 refine Ev.bind alive14 ?_; obtain ⟨q0, q1, q2⟩ := g0; obtain ⟨b0, b1, b2⟩ := g1; simp only [ev_Great x.f0 x.f1 x.f2 (by omega) (by omega) (by omega), Option.bind_some, ↓reduceIte]
 by_cases hg : x.f0.length + x.f1.length + x.f2.length > 200
 ·simp only [hg, decide_true, ↓reduceIte]; exact Ev.now _
 ·simp only [hg, decide_false, Bool.false_eq_true, ↓reduceIte]; refine Ev.bind (ev_Round x.f0 x.f1 x.f2 p.f0 p.f1 p.f2 (by omega) (by omega) (by omega) (u32_bd b0) (u32_bd b1) (u32_bd b2)) ?_; exact three_l x.f0 x.f1 x.f2 _ (by omega) (by omega) (by omega) (round_len _ _ _ _ _ _) (round_nodup _ _ _ _ _ _) (fun y hy => round_mem hy) (round_some _ _ _ _ _ _) (roundP x.f0 x.f1 x.f2 p.f0 p.f1 p.f2) [] rfl
end Go.Proofs.Ytjlemkdilbnmlaa.Pl

/- WindowForgets' plain law: behind as many arrivals as are kept, what was there ahead of them is forgotten: for all windows that may be. No condition. -/
import Derived.Test.YtkojggbogdjmcaaPLaw10WindowForgets
import Derived.Test.YtkojggbogdjmcaaOps
import Derived.Test.YtkojggbogdjmcaaPlRef10
namespace Go.Proofs.Ytkojggbogdjmcaa.Pl
open Go.RowKit Go.Proofs.Ytkojggbogdjmcaa.P Go.Proofs.YtkojggbogdjmcaaW.PrintWords Go.Proofs.YtkojggbogdjmcaaW.PrintLast Go.Proofs.YtkojggbogdjmcaaW.PrintMore Go.Proofs.Ytkojggbogdjmcaa.Pl09 Go.Proofs.Ytkojggbogdjmcaa.Pl10
set_option linter.unusedSimpArgs false
set_option linter.unusedVariables false
theorem alive10f : Ev (fun k => law10_alive.f k) true := Ev.of (fun k => law10_alive.mono k) (k := 60) (by decide +kernel)
theorem u8f {a : Int} (h : (Lit.int .u8 a).wf = true) : 0 ≤ a ∧ a ≤ 255 := by
 simp [Lit.wf, IntKind.min, IntKind.max, IntKind.bits, IntKind.signed] at h
 omega
/-- What came last stays last. -/
theorem arr_suffix {c l : List Int} {last now most : Int} (h : c <:+ l) (hc : c.length < 16) (hl : l.length ≤ 16) (hn : last ≠ -1) : c ++ [gp (now - last) most] <:+ arr last l now most := by
 obtain ⟨p, rfl⟩ := h
 unfold arr
 rw [if_neg hn, List.append_assoc, List.drop_append_of_le_length (by simp only [List.length_append] at *; omega)]; exact ⟨_, rfl⟩
theorem ev_mean2 (la lb : Int) (l : List Int) (h0 : 0 < l.length) (hl : l.length ≤ 16) : ∃ r, Ev (fun k => window_Mean.f k la l 1) r ∧ Ev (fun k => window_Mean.f k lb l 99) r := by
 obtain ⟨r, h1, _⟩ := mean_same la 1 l (by omega); refine ⟨r, h1, Ev.congr (fun k => ?_) h1⟩
 unfold window_Mean.f
 have hp : (l.length : Int) > 0 := by omega
 rw [if_pos hp, if_pos hp]
theorem forget_l (k0 : Nat) : ∀ (ss : List Int) (now : Int) (ga gb c : List Int), (∀ s ∈ ss, 0 ≤ s ∧ s ≤ 255) → ss.length + c.length = 16 → GoodW now ga → GoodW now gb → 0 ≤ now → now ≤ 549755813888 + 255 * (c.length : Int) → c <:+ ga → c <:+ gb →
  Ev (fun k => law10_WindowForgets.lp k ss now now ga now gb) true
 | [], now, ga, gb, c, _, hc, hga, hgb, _, _, sa, sb => by
  have hc16 : c.length = 16 := by simpa using hc
  obtain rfl : c = ga := sa.eq_of_length (by have := sa.length_le; have := hga.2.2.1; omega); obtain rfl : c = gb := sb.eq_of_length (by have := sb.length_le; have := hgb.2.2.1; omega); obtain ⟨m, h1, h2⟩ := ev_mean2 now now c (by omega) (by omega)
  unfold law10_WindowForgets.lp
  refine Ev.bind (ref_same now now c c (by omega)) ?_; simp only [and_self, decide_true, ↓reduceIte]; refine Ev.bind h1 (Ev.bind h2 ?_); simp only [beq_self_eq_true]; exact Ev.now _
 | s :: ss, now, ga, gb, c, hs, hc, hga, hgb, h0, h1, sa, sb => by
  obtain ⟨s0, s1⟩ := hs s (by simp)
  have hcl : c.length ≤ 15 := by simp only [List.length_cons] at hc; omega
  have hnx : law10_WindowForgets.nx now s = now + s := by
   unfold law10_WindowForgets.nx
   rw [wrap_id s (by omega) (by omega), wrap_id _ (by omega) (by omega)]
  have ea := arrive hga (now + s) 100 (by omega) (by omega) (by omega); have eb := arrive hgb (now + s) 100 (by omega) (by omega) (by omega); have na := arr_good (most := 100) hga (show 0 ≤ now + s by omega) (by omega) (by omega); have nb := arr_good (most := 100) hgb (show 0 ≤ now + s by omega) (by omega) (by omega)
  unfold law10_WindowForgets.lp
  rw [hnx]; refine Ev.bind ea (Ev.bind eb ?_); simp only [↓reduceIte]
  exact forget_l k0 ss (now + s) _ _ (c ++ [gp (now + s - now) 100]) (fun x hx => hs x (by simp [hx])) (by simp only [List.length_append, List.length_cons, List.length_nil] at *; omega) na nb (by omega) (by simp only [List.length_append, List.length_cons, List.length_nil] at *; omega)
   (arr_suffix sa (by omega) hga.2.2.1 (by omega)) (arr_suffix sb (by omega) hgb.2.2.1 (by omega))
theorem WindowForgets : ∀ (x0 : S27) (x1 : S35), G27 x0 → G35 x1 → ∃ k, law10_WindowForgets.f k x0.f0 x0.f1 x1.f0 x1.f1 x1.f2 x1.f3 x1.f4 x1.f5 x1.f6 x1.f7 x1.f8 x1.f9 x1.f10 x1.f11 x1.f12 x1.f13 x1.f14 x1.f15 = some true := by
 intro w p g0 g1; obtain ⟨b0, b1, b2, b3, b4, b5, b6, b7, b8, b9, b10, b11, b12, b13, b14, b15⟩ := g1
 have hs : ∀ s ∈ [p.f0, p.f1, p.f2, p.f3, p.f4, p.f5, p.f6, p.f7, p.f8, p.f9, p.f10, p.f11, p.f12, p.f13, p.f14, p.f15], 0 ≤ s ∧ s ≤ 255 := by
  intro s hm; simp only [List.mem_cons, List.not_mem_nil, or_false] at hm
  rcases hm with rfl | rfl | rfl | rfl | rfl | rfl | rfl | rfl | rfl | rfl | rfl | rfl | rfl | rfl | rfl | rfl
  ·exact u8f b0
  ·exact u8f b1
  ·exact u8f b2
  ·exact u8f b3
  ·exact u8f b4
  ·exact u8f b5
  ·exact u8f b6
  ·exact u8f b7
  ·exact u8f b8
  ·exact u8f b9
  ·exact u8f b10
  ·exact u8f b11
  ·exact u8f b12
  ·exact u8f b13
  ·exact u8f b14
  ·exact u8f b15
 refine Ev.rounds (r := true) ?_
 unfold law10_WindowForgets.f
 have hlen : [p.f0, p.f1, p.f2, p.f3, p.f4, p.f5, p.f6, p.f7, p.f8, p.f9, p.f10, p.f11, p.f12, p.f13, p.f14, p.f15].length = 16 := rfl; generalize [p.f0, p.f1, p.f2, p.f3, p.f4, p.f5, p.f6, p.f7, p.f8, p.f9, p.f10, p.f11, p.f12, p.f13, p.f14, p.f15] = ss at hs hlen ⊢; refine Ev.bind alive10f ?_; simp only [↓reduceIte]; obtain ⟨g, eg, qg⟩ := ref_right w.f0 w.f1 (by have := g0.2.2.1; omega); refine Ev.bind eg ?_
 cases g with
 | false => simp only [Bool.false_eq_true, ↓reduceIte]; exact Ev.now _
 | true =>
  have hgd := qg.1 rfl; simp only [↓reduceIte]
  by_cases h5 : w.f0 > 549755813888
  ·simp only [h5, ↓reduceIte]; exact Ev.now _
  ·simp only [h5, ↓reduceIte]
   have hn0 : 0 ≤ mx w.f0 0 ∧ mx w.f0 0 ≤ 549755813888 := by unfold mx; split <;> omega
   have hnew : GoodW (-1) ([] : List Int) := ⟨by omega, by omega, by simp, by simp⟩; refine Ev.bind (ref_arrive hnew (mx w.f0 0) 5 hn0.1 (by omega) (by omega)) ?_
   have hr : rarr (-1) [] (mx w.f0 0) 5 = [] := by unfold rarr; rw [if_neg (by omega)]
   simp only [hr]
   by_cases hneg : w.f0 < 0
   ·have hm : mx w.f0 0 = 0 := by unfold mx; rw [if_pos hneg]
    have hz : GoodW 0 ([] : List Int) := ⟨by omega, by omega, by simp, by simp⟩; simp only [hneg, ↓reduceIte, hm]; exact forget_l 0 ss 0 [] [] [] hs (by simpa using hlen) hz hz (by omega) (by simp) (List.suffix_refl _) (List.suffix_refl _)
   ·have hm : mx w.f0 0 = w.f0 := by unfold mx; rw [if_neg hneg]
    have hz : GoodW w.f0 ([] : List Int) := ⟨hgd.1, hgd.2.1, by simp, by simp⟩; simp only [hneg, ↓reduceIte, hm]; exact forget_l 0 ss w.f0 w.f1 [] [] hs (by simpa using hlen) hgd hz (by omega) (by simp only [List.length_nil]; omega) (List.nil_suffix) (List.suffix_refl _)
end Go.Proofs.Ytkojggbogdjmcaa.Pl

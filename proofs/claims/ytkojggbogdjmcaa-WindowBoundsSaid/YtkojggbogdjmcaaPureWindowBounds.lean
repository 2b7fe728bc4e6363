/- WindowBounds' plain law: whatever comes, gaps are at most 16, none greater than was let, nor is the mean. No condition. -/
import Derived.Test.YtkojggbogdjmcaaPLaw10WindowBounds
import Derived.Test.YtkojggbogdjmcaaPl10
namespace Go.Proofs.Ytkojggbogdjmcaa.Pure
open Go.RowKit Go.Proofs.Ytkojggbogdjmcaa.P Go.Proofs.YtkojggbogdjmcaaW.PrintWords Go.Proofs.YtkojggbogdjmcaaW.PrintLast Go.Proofs.YtkojggbogdjmcaaW.PrintMore Go.Proofs.Ytkojggbogdjmcaa.Pl09 Go.Proofs.Ytkojggbogdjmcaa.Pl10
set_option linter.unusedSimpArgs false
set_option linter.unusedVariables false
theorem alive10 : Ev (fun k => law10_alive.f k) true := Ev.of (fun k => law10_alive.mono k) (k := 60) (by decide +kernel)
/-- The rounds over the gaps. -/
theorem bounds_l1 (L : List Int) (a1 now hi last i : Int) (gaps : List Int) (hlen : gaps.length ≤ 16) (hg : ∀ x ∈ gaps, 1 ≤ x ∧ x ≤ hi)
  (hm : ∃ m, Ev (fun k => window_Mean.f k last gaps (wrap64 a1)) m ∧ 1 ≤ m ∧ m ≤ hi)
  (hnext : Ev (fun k => law10_WindowBounds.l0 k L a1 now hi (wrap64 (i + 1)) last gaps) true) : ∀ (suf pre : List Int), pre ++ suf = gaps →
  Ev (fun k => law10_WindowBounds.l1 k L a1 now hi i (pre.length : Int) last gaps) true
 | [], pre, e => by
  have e' : pre = gaps := by simpa using e
  subst e'
  obtain ⟨m, hm, m1, m2⟩ := hm
  refine Ev.step (fun k => by rw [law10_WindowBounds.l1]) ?_
  simp only [Int.lt_irrefl, ↓reduceIte]
  refine Ev.bind hm ?_
  simp only [show ¬ m < 1 by omega, show ¬ m > hi by omega, ↓reduceIte]
  exact hnext
 | x :: suf, pre, e => by
  have hl : gaps.length = pre.length + (suf.length + 1) := by rw [← e]; simp
  have hx := hg x (by rw [← e]; simp)
  have hrd : rd gaps (pre.length : Int) = x := by rw [← e]; exact rd_mid pre x suf
  have e1 : wrap64 ((pre.length : Int) + 1) = ((pre ++ [x]).length : Int) := by rw [wrap_id _ (by omega) (by omega)]; simp
  refine Ev.step (fun k => by rw [law10_WindowBounds.l1]) ?_
  simp only [show (pre.length : Int) < (gaps.length : Int) by omega, show (0 : Int) ≤ (pre.length : Int) by omega, hrd, e1, show ¬ x < 1 by omega, show ¬ x > hi by omega, ↓reduceIte]
  exact bounds_l1 L a1 now hi last i gaps hlen hg hm hnext suf (pre ++ [x]) (by rw [← e]; simp)
/-- The rounds over the arrivals. -/
theorem bounds_l0 (L : List Int) (hL : L.length ≤ 200) (hwf : ∀ x ∈ L, 0 ≤ x ∧ x ≤ 65535) (a1 : Int) (h0 : 0 ≤ a1) (h1 : a1 ≤ 65535) : ∀ (suf pre : List Int) (now last : Int) (gaps : List Int), pre ++ suf = L →
  0 ≤ now → now ≤ 65535 * (pre.length : Int) → (pre = [] → last = -1) → (pre ≠ [] → last = now) → gaps.length = min (pre.length - 1) 16 → (∀ x ∈ gaps, 1 ≤ x ∧ x ≤ mx 1 a1) →
  Ev (fun k => law10_WindowBounds.l0 k L a1 now (mx 1 a1) (pre.length : Int) last gaps) true
 | [], pre, now, last, gaps, e, n0, n1, l0, l1, gl, gb => by
  have e' : pre = L := by simpa using e
  subst e'
  refine Ev.step (fun k => by rw [law10_WindowBounds.l0]) ?_
  simp only [Int.lt_irrefl, ↓reduceIte]
  exact Ev.now _
 | s :: suf, pre, now, last, gaps, e, n0, n1, l0, l1, gl, gb => by
  have hl : L.length = pre.length + (suf.length + 1) := by rw [← e]; simp
  have hs := hwf s (by rw [← e]; simp)
  have hrd : rd L (pre.length : Int) = s := by rw [← e]; exact rd_mid pre s suf
  have hmx : 1 ≤ mx 1 a1 ∧ mx 1 a1 ≤ 65535 := by unfold mx; split <;> omega
  have hlast : last = -1 ∨ last = now := by
   by_cases hp : pre = []
   ·exact .inl (l0 hp)
   ·exact .inr (l1 hp)
  have good : GoodW last gaps := ⟨by omega, by omega, by omega, fun x hx => by have := gb x hx; omega⟩
  have harr := arrive good (now + s) a1 (by omega) (by omega) (by omega)
  have good2 := arr_good (most := a1) good (show 0 ≤ now + s by omega) (by omega) (by omega)
  have hgb : ∀ x ∈ arr last gaps (now + s) a1, 1 ≤ x ∧ x ≤ mx 1 a1 := by
   intro x hx
   rcases arr_mem hx with hx | hx
   ·exact gb x hx
   ·subst hx; exact gp_bd _ _
  have hlen : (arr last gaps (now + s) a1).length = min pre.length 16 := by
   rw [arr_len good.2.2.1]
   by_cases hp : pre = []
   ·have := l0 hp
    subst hp
    rw [if_pos this, gl]; rfl
   ·have h3 := l1 hp
    have h4 : 0 < pre.length := List.length_pos_iff.2 hp
    rw [if_neg (by omega), gl]
    omega
  have hw : wrap64 s = s := wrap_id _ (by omega) (by omega)
  have hw1 : wrap64 a1 = a1 := wrap_id _ (by omega) (by omega)
  have hw2 : wrap64 (now + s) = now + s := wrap_id _ (by omega) (by omega)
  have e1 : wrap64 ((pre.length : Int) + 1) = ((pre ++ [s]).length : Int) := by rw [wrap_id _ (by omega) (by omega)]; simp
  refine Ev.step (fun k => by rw [law10_WindowBounds.l0]) ?_
  simp only [show (pre.length : Int) < (L.length : Int) by omega, show (0 : Int) ≤ (pre.length : Int) by omega, hrd, hw, hw1, hw2, ↓reduceIte]
  refine Ev.bind harr ?_
  have hne : ((((arr last gaps (now + s) a1).length : Nat) : Int) != mn (pre.length : Int) 16) = false := by
   rw [hlen, bne_eq_false_iff_eq]
   unfold mn
   split <;> omega
  simp only [right good2, Option.bind_some, hne, ↓reduceIte]
  refine Ev.step (fun k => by rw [law10_WindowBounds.j1]) ?_
  simp only [Bool.false_eq_true, ↓reduceIte]
  have hnext := bounds_l0 L hL hwf a1 h0 h1 suf (pre ++ [s]) (now + s) (now + s) (arr last gaps (now + s) a1) (by rw [← e]; simp) (by omega) (by simp; omega) (fun h => absurd h (by simp)) (fun _ => rfl) (by rw [hlen]; simp) hgb
  refine bounds_l1 L a1 (now + s) (mx 1 a1) (now + s) (pre.length : Int) (arr last gaps (now + s) a1) good2.2.2.1 hgb ?_ (by rw [e1]; exact hnext) (arr last gaps (now + s) a1) [] rfl
  rw [hw1]
  by_cases hz : (arr last gaps (now + s) a1).length = 0
  ·have hnil := List.eq_nil_of_length_eq_zero hz
   rw [hnil]
   exact ⟨_, wmean0 _ _, hmx.1, Int.le_refl _⟩
  ·obtain ⟨m, hm, m1, m2⟩ := wmean (now + s) a1 1 (mx 1 a1) (by decide) (by omega) hgb good2.2.2.1 (by omega)
   refine ⟨_, hm, ?_, ?_⟩ <;> (unfold mx at *; split <;> omega)
theorem WindowBounds : law10_WindowBounds.Pure := by
 intro L a1 hmax hby hwf wa
 obtain ⟨h0, h1⟩ := u16_bd wa
 refine Ev.rounds (r := true) ?_
 unfold law10_WindowBounds.f
 refine Ev.bind alive10 ?_
 simp only [↓reduceIte]
 by_cases hb : (L.length : Int) > 200
 ·simp only [hb, ↓reduceIte]
  exact Ev.now _
 ·have hw1 : wrap64 a1 = a1 := wrap_id _ (by omega) (by omega)
  simp only [hb, ↓reduceIte, window_New.f, Option.bind_some, hw1]
  exact bounds_l0 L (by omega) (fun x hx => u16_bd (hwf x hx)) a1 h0 h1 L [] 0 (-1) [] rfl (by decide) (by simp) (fun _ => rfl) (fun h => absurd rfl h) rfl (fun x hx => by cases hx)
end Go.Proofs.Ytkojggbogdjmcaa.Pure

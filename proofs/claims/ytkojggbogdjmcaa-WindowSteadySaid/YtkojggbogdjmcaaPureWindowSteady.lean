/- WindowSteady's plain law: where all comes at the same distance, that is the mean, at most as much as is let. No condition. -/
import Derived.Test.YtkojggbogdjmcaaPLaw10WindowSteady
import Derived.Test.YtkojggbogdjmcaaPl10
namespace Go.Proofs.Ytkojggbogdjmcaa.Pure
open Go.RowKit Go.Proofs.Ytkojggbogdjmcaa.P Go.Proofs.YtkojggbogdjmcaaW.PrintWords Go.Proofs.YtkojggbogdjmcaaW.PrintLast Go.Proofs.YtkojggbogdjmcaaW.PrintMore Go.Proofs.Ytkojggbogdjmcaa.Pl09 Go.Proofs.Ytkojggbogdjmcaa.Pl10
set_option linter.unusedSimpArgs false
set_option linter.unusedVariables false
theorem alive10 : Ev (fun k => law10_alive.f k) true := Ev.of (fun k => law10_alive.mono k) (k := 60) (by decide +kernel)
theorem gp_mn (s most : Int) : gp s most = mx 1 (mn s most) := by unfold gp mx mn; (repeat' split) <;> omega
theorem steady_l0 (N : Nat) (hN2 : 2 ≤ N) (hN : N ≤ 61) (s most : Int) (hs0 : 0 ≤ s) (hs : s ≤ 255) (hm0 : 0 ≤ most) (hm : most ≤ 255) : ∀ (m i : Nat) (last : Int) (gaps : List Int), i + m = N →
  (i = 0 → last = -1) → (1 ≤ i → last = ((i - 1 : Nat) : Int) * s) → gaps = List.replicate (min (i - 1) 16) (gp s most) →
  Ev (fun k => law10_WindowSteady.l0 k s most (N : Int) (i : Int) last gaps) true
 | 0, i, last, gaps, e, l0, l1, hg => by
  have e' : i = N := by omega
  subst e'
  refine Ev.step (fun k => by rw [law10_WindowSteady.l0]) ?_
  simp only [Int.lt_irrefl, ↓reduceIte]
  have hb := gp_bd s most
  have hb2 := gp_le s most 255 hs (by decide)
  have hlen : gaps.length = min (i - 1) 16 := by rw [hg]; simp
  have hall : ∀ x ∈ gaps, gp s most ≤ x ∧ x ≤ gp s most := by
   intro x hx
   rw [hg] at hx
   have := List.eq_of_mem_replicate hx
   omega
  obtain ⟨mm, hmn, m1, m2⟩ := wmean last 999 (gp s most) (gp s most) (by omega) (by omega) hall (by omega) (by omega)
  refine Ev.bind hmn ?_
  have em : mm = gp s most := by omega
  have ex : mx 1 mm = mx 1 (mn (wrap64 s) (wrap64 most)) := by
   rw [wrap_id s (by omega) (by omega), wrap_id most (by omega) (by omega), em, gp_mn]
   unfold mx mn
   (repeat' split) <;> omega
  simp only [ex, ↓reduceIte]
  have el : ((gaps.length : Int) == mn (wrap64 ((i : Int) - 1)) 16) = true := by
   rw [hlen, wrap_id _ (by omega) (by omega), beq_iff_eq]
   unfold mn
   split <;> omega
  simp only [el]
  exact Ev.now _
 | m + 1, i, last, gaps, e, l0, l1, hg => by
  have hp : 0 ≤ (i : Int) * s ∧ (i : Int) * s ≤ 61 * 255 := mul_lt (by omega) (by omega) hs0 hs
  have hb := gp_bd s most
  have hb2 := gp_le s most 255 hs (by decide)
  have hd : 1 ≤ i → (i : Int) * s = last + s := by
   intro h
   rw [l1 h, show (i : Int) = ((i - 1 : Nat) : Int) + 1 by omega, Int.add_mul, Int.one_mul]
  have hlast : -1 ≤ last ∧ last ≤ (i : Int) * s := by
   by_cases h : i = 0
   ·have := l0 h; omega
   ·have := hd (by omega)
    have h3 := l1 (by omega)
    have h4 : 0 ≤ ((i - 1 : Nat) : Int) * s := Int.mul_nonneg (by omega) hs0
    omega
  have good : GoodW last gaps := ⟨by omega, by omega, by rw [hg]; simp; omega, fun x hx => by
   rw [hg] at hx
   have := List.eq_of_mem_replicate hx
   omega⟩
  have harr := arrive good ((i : Int) * s) most (by omega) (by omega) (by omega)
  have hnew : arr last gaps ((i : Int) * s) most = List.replicate (min i 16) (gp s most) := by
   by_cases h : i = 0
   ·have h2 := l0 h
    subst h
    simp only [arr, h2, ↓reduceIte, hg]
   ·have h2 := hd (by omega)
    have h3 : 0 ≤ ((i - 1 : Nat) : Int) * s := Int.mul_nonneg (by omega) hs0
    have h4 := l1 (by omega)
    have h5 : (i : Int) * s - last = s := by omega
    simp only [arr, show ¬ last = -1 by omega, ↓reduceIte, h5]
    rw [hg, ← List.replicate_succ', List.length_replicate, List.drop_replicate]
    congr 1
    omega
  refine Ev.step (fun k => by rw [law10_WindowSteady.l0]) ?_
  have e1 : wrap64 ((i : Int) + 1) = ((i + 1 : Nat) : Int) := by rw [wrap_id _ (by omega) (by omega)]; omega
  simp only [show (i : Int) < (N : Int) by omega, ↓reduceIte, wrap_id s (by omega) (by omega), wrap_id most (by omega) (by omega), wrap_id ((i : Int) * s) (by omega) (by omega), e1]
  refine Ev.bind harr ?_
  simp only [↓reduceIte]
  exact steady_l0 N hN2 hN s most hs0 hs hm0 hm m (i + 1) _ _ (by omega) (fun h => absurd h (by omega)) (fun _ => by simp) (by rw [hnew]; rfl)
theorem WindowSteady : law10_WindowSteady.Pure := by
 intro a0 s most w0 w1 w2
 obtain ⟨a00, a01⟩ := u8_bd w0
 obtain ⟨s0, s1⟩ := u8_bd w1
 obtain ⟨m0, m1⟩ := u8_bd w2
 refine Ev.rounds (r := true) ?_
 unfold law10_WindowSteady.f
 refine Ev.bind alive10 ?_
 have hN : wrap64 (2 + Int.tmod (wrap64 a0) 60) = ((2 + a0.toNat % 60 : Nat) : Int) := by
  rw [wrap_id a0 (by omega) (by omega), Int.tmod_eq_emod_of_nonneg a00, wrap_id _ (by omega) (by omega)]
  omega
 simp only [↓reduceIte, window_New.f, Option.bind_some, hN]
 exact steady_l0 (2 + a0.toNat % 60) (by omega) (by omega) s most s0 s1 m0 m1 (2 + a0.toNat % 60) 0 (-1) [] (by omega) (fun _ => rfl) (fun h => absurd h (by omega)) rfl
end Go.Proofs.Ytkojggbogdjmcaa.Pure

/- PhiCalm's plain law: where the greatest gap is short enough against the mean, a silence as long isn't suspect: for all gaps. No condition. -/
import Derived.Test.YtjallhlamaggbaaPLaw11PhiCalm
import Derived.Test.YtjallhlamaggbaaPl11
namespace Go.Proofs.Ytjallhlamaggbaa.Pure
open Go.RowKit Go.Proofs.Ytjallhlamaggbaa.P Go.Proofs.YtjallhlamaggbaaW.PrintWords Go.Proofs.YtjallhlamaggbaaW.PrintLast Go.Proofs.YtjallhlamaggbaaW.PrintMore Go.Proofs.Ytjallhlamaggbaa.Pl09 Go.Proofs.Ytjallhlamaggbaa.Pl11
set_option linter.unusedSimpArgs false
set_option linter.unusedVariables false
theorem alive11 : Ev (fun k => law11_alive.f k) true := Ev.of (fun k => law11_alive.mono k) (k := 60) (by decide +kernel)
theorem bd_gt {th m x : Int} (h : 434 * x < (th + 1) * m) : x < bd th m := by
 unfold bd
 generalize (th + 1) * m = P at *
 omega
theorem mx1 (x : Int) (h0 : 0 ≤ x) (h1 : x ≤ 255) : 1 ≤ mx 1 x ∧ mx 1 x ≤ 255 := by unfold mx; split <;> omega
theorem mxm (most x : Int) (h0 : 1 ≤ most) (h1 : most ≤ 255) (h2 : x ≤ 255) : 1 ≤ mx most x ∧ mx most x ≤ 255 := by unfold mx; split <;> omega
theorem calm_l (l0 : List Int) (a1 : Int) (hl : l0.length ≤ 200) (hl16 : 16 ≤ l0.length) (hw : ∀ x ∈ l0, 0 ≤ x ∧ x ≤ 255) (b1 : 0 ≤ a1 ∧ a1 ≤ 65535) : ∀ (suf pre : List Int), pre ++ suf = l0 → ∀ (now most last : Int) (l : List Int),
  GoodW last l → 0 ≤ now → now ≤ 255 * (pre.length : Int) → 1 ≤ most → most ≤ 255 → last ≤ now → (pre ≠ [] → last = now) → Ev (fun k => law11_PhiCalm.l0 k l0 a1 now most (pre.length : Int) last l) true
 | [], pre, e, now, most, last, l, hg, n0, n1, m0, m1, _, hlast => by
  have e' : pre = l0 := by simpa using e
  subst e'
  obtain rfl := hlast (fun h => by rw [h] at hl16; simp at hl16)
  refine Ev.step (fun k => by rw [law11_PhiCalm.l0]) ?_
  simp only [Int.lt_irrefl, ↓reduceIte]
  refine Ev.bind (ref_mean hg 1) ?_
  obtain ⟨w1, _, w2⟩ := wm_bd hg 1 (by decide)
  obtain ⟨p1, p2⟩ := P_bd (th := a1) (m := wm l 1) (by omega) (by omega) w1 (w2 (by decide))
  simp only [wrap_id a1 (by omega) (by omega), wrap_id (434 * most) (by omega) (by omega), wrap_id (a1 + 1) (by omega) (by omega), wrap_id ((a1 + 1) * wm l 1) (by omega) (by omega)]
  by_cases hc : 434 * most ≥ (a1 + 1) * wm l 1
  ·simp only [hc, ↓reduceIte]
   exact Ev.now _
  ·simp only [hc, ↓reduceIte, wrap_id (last + most) (by omega) (by omega)]
   refine Ev.bind (suspect_lt hg (by omega) (last + most) 1 a1 (by omega) (by omega) (by decide) (by rw [show last + most - last = most by omega]; omega)) ?_
   simp only [Bool.false_eq_true, ↓reduceIte]
   refine Ev.bind (bound a1 (wm l 1) (by omega) (by omega) w1 (w2 (by decide))) ?_
   have := bd_gt (x := most) (show 434 * most < (a1 + 1) * wm l 1 by omega)
   simp only [show bd a1 (wm l 1) > most from this, decide_true]
   exact Ev.now _
 | x :: suf, pre, e, now, most, last, l, hg, n0, n1, m0, m1, hle, hlast => by
  have hlen : l0.length = pre.length + (suf.length + 1) := by rw [← e]; simp
  have hrd : rd l0 (pre.length : Int) = x := by rw [← e]; exact rd_mid pre x suf
  have hx := hw x (by rw [← e]; simp)
  have e1 : wrap64 ((pre.length : Int) + 1) = ((pre ++ [x]).length : Int) := by rw [wrap_id _ (by omega) (by omega)]; simp
  obtain ⟨q0, q1⟩ := mx1 x hx.1 hx.2
  obtain ⟨r0, r1⟩ := mxm most x m0 m1 hx.2
  refine Ev.step (fun k => by rw [law11_PhiCalm.l0]) ?_
  simp only [show (pre.length : Int) < (l0.length : Int) by omega, show (0 : Int) ≤ (pre.length : Int) by omega, hrd, wrap_id x (by omega) (by omega), wrap_id (now + mx 1 x) (by omega) (by omega), e1, ↓reduceIte]
  refine Ev.bind (arrive hg (now + mx 1 x) 1000 (by omega) (by omega) (by omega)) ?_
  have hlen2 : ((pre ++ [x]).length : Int) = (pre.length : Int) + 1 := by simp
  exact calm_l l0 a1 hl hl16 hw b1 suf (pre ++ [x]) (by rw [← e]; simp) (now + mx 1 x) (mx most x) (now + mx 1 x) _ (arr_good hg _ 1000 (by omega) (by omega) (by omega)) (by omega) (by omega) r0 r1 (by omega) (fun _ => rfl)
theorem PhiCalm : law11_PhiCalm.Pure := by
 intro l0 a1 hm hm2 hw w1
 have b1 := u16_bd w1
 refine Ev.rounds (r := true) ?_
 unfold law11_PhiCalm.f
 refine Ev.bind alive11 ?_
 simp only [↓reduceIte]
 have out : Ev (fun k => law11_PhiCalm.j0 k l0 a1 true) true := by
  refine Ev.step (fun k => by rw [law11_PhiCalm.j0]) ?_
  simp only [↓reduceIte]
  exact Ev.now _
 by_cases h16 : (l0.length : Int) < 16
 ·simp only [h16, ↓reduceIte]
  exact out
 ·by_cases h200 : (l0.length : Int) > 200
  ·simp only [h16, h200, decide_true, ↓reduceIte]
   exact out
  ·simp only [h16, h200, decide_false, ↓reduceIte]
   refine Ev.step (fun k => by rw [law11_PhiCalm.j0]) ?_
   simp only [Bool.false_eq_true, ref10_New.f, Option.bind_some, ↓reduceIte]
   exact calm_l l0 a1 (by omega) (by omega) (fun x hx => u8_bd (hw x hx)) b1 l0 [] rfl 0 1 (-1) [] ⟨by decide, by decide, by simp, by simp⟩ (by decide) (by simp) (by decide) (by decide) (by decide) (fun h => absurd rfl h)
end Go.Proofs.Ytjallhlamaggbaa.Pure

/- Plain words of the level of suspicion: the program's and the reference's are the same. No program runs here. No condition. -/
import Derived.Test.YtoghjpoblbdnpaaPWatchWithout
import Derived.Test.YtoghjpoblbdnpaaPlRef10
import Derived.Test.YtoghjpoblbdnpaaPlMD
import Derived.Test.YtoghjpoblbdnpaaPlRef09M
namespace Go.Proofs.Ytoghjpoblbdnpaa.Pl
open Go.RowKit Go.Proofs.Ytoghjpoblbdnpaa.P Go.Proofs.YtoghjpoblbdnpaaW.PrintWords Go.Proofs.YtoghjpoblbdnpaaW.PrintLast Go.Proofs.YtoghjpoblbdnpaaW.PrintMore Go.Proofs.Ytoghjpoblbdnpaa.Pl09 Go.Proofs.Ytoghjpoblbdnpaa.Pl10
set_option linter.unusedSimpArgs false
set_option linter.unusedVariables false
def wm (l : List Int) (boot : Int) : Int := if l.length = 0 then mx 1 boot else mx 1 (S l / (l.length : Int))
theorem S_bet (l : List Int) (a b : Int) (ha : 0 ≤ a) (hb : b ≤ 1125899906842624) (h : ∀ x ∈ l, a ≤ x ∧ x ≤ b) : a * (l.length : Int) ≤ S l ∧ S l ≤ b * (l.length : Int) := by
 induction l with
 | nil => simp [S]
 | cons x l ih =>
  have hx := h x (by simp); have i := ih (fun y hy => h y (by simp [hy]))
  have hc : cl x = x := by unfold cl; rw [if_neg (by omega), if_neg (by omega)]
  simp only [S, hc, List.length_cons]; rw [show ((l.length + 1 : Nat) : Int) = (l.length : Int) + 1 by omega, Int.mul_add, Int.mul_add, Int.mul_one, Int.mul_one]
  omega
theorem wm_bd {last : Int} {l : List Int} (h : GoodW last l) (boot : Int) (hb : boot ≤ 9223372036854775807) : 1 ≤ wm l boot ∧ wm l boot ≤ 9223372036854775807 ∧ (boot ≤ 1099511627776 → wm l boot ≤ 1099511627776) := by
 unfold wm
 split
 ·unfold mx; split <;> omega
 ·have h2 : S l / (l.length : Int) ≤ 1099511627776 := Int.ediv_le_of_le_mul (by omega) (S_bet l 1 1099511627776 (by decide) (by decide) h.2.2.2).2
  unfold mx
  split <;> omega
theorem wmean {last : Int} {l : List Int} (h : GoodW last l) (boot : Int) : Ev (fun k => window_Mean.f k last l boot) (wm l boot) := by
 unfold window_Mean.f wm
 by_cases h0 : l.length = 0
 ·simp only [show ¬ (l.length : Int) > 0 by omega, h0, ↓reduceIte]; exact Ev.now _
 ·simp only [show (l.length : Int) > 0 by omega, h0, ↓reduceIte]; exact Ev.bind (mean l (by have := h.2.2.1; omega) (by omega)) (Ev.now _)
theorem ref_mean {last : Int} {l : List Int} (h : GoodW last l) (boot : Int) : Ev (fun k => ref10_Mean.f k last l boot) (wm l boot) := by
 unfold ref10_Mean.f wm
 by_cases h0 : l.length = 0
 ·simp only [show (l.length : Int) = 0 by omega, h0, ↓reduceIte]; exact Ev.now _
 ·simp only [show ¬ (l.length : Int) = 0 by omega, h0, ↓reduceIte]; exact Ev.bind (PlRef09.mean l (by have := h.2.2.1; omega) (by omega)) (Ev.now _)
theorem level {last : Int} {l : List Int} (h : GoodW last l) (h0 : 0 ≤ last) (now boot : Int) (hn : last ≤ now) (hn1 : now ≤ 1099511627776) (hb : boot ≤ 9223372036854775807) :
  Ev (fun k => phi_Level.f k last l now boot) ((now - last) * 434 / wm l boot, 0) := by
 obtain ⟨m1, m2, _⟩ := wm_bd h boot hb
 unfold phi_Level.f
 have e1 : ¬ now < mx 0 last := by unfold mx; split <;> omega
 have e2 : ¬ now > 1099511627776 := by omega
 simp only [e1, e2, right h, Option.bind_some, Bool.not_true, ↓reduceIte]; refine Ev.step (fun k => by rw [phi_Level.j0]) ?_; simp only [Bool.false_eq_true, show ¬ last < 0 by omega, wrap_id (now - last) (by omega) (by omega), ↓reduceIte]; refine Ev.bind (wmean h boot) ?_; have hq : (now - last) * 434 / wm l boot ≤ (now - last) * 434 := Int.ediv_le_self _ (by omega)
 have hmd : Ev (fun k => ratio_MulDiv.f k (now - last) 434 (wm l boot)) ((now - last) * 434 / wm l boot, 0) := by
  refine ⟨1, fun k hk => ?_⟩; obtain ⟨j, rfl⟩ : ∃ j, k = j + 1 := ⟨k - 1, by omega⟩
  show ratio_MulDiv.f (j + 1) _ _ _ = _
  rw [muldiv j (now - last) 434 (wm l boot) (by omega) (by omega) (by decide) (by decide) m1 m2 (by omega), if_neg (by omega)]
 refine Ev.bind hmd ?_; simp only [show ¬ ((0 : Int) = 8) by decide, ↓reduceIte]; exact Ev.now _
/-- The level of a window that may be, and whether there is one. -/
def lv (last : Int) (l : List Int) (now boot : Int) : Int × Int := if now < last then (0, 1) else ((now - last) * 434 / wm l boot, 0)
theorem level_any {last : Int} {l : List Int} (h : GoodW last l) (h0 : 0 ≤ last) (now boot : Int) (hn1 : now ≤ 1099511627776) (hb : boot ≤ 9223372036854775807) : Ev (fun k => phi_Level.f k last l now boot) (lv last l now boot) := by
 unfold lv
 by_cases hn : now < last
 ·rw [if_pos hn]
  unfold phi_Level.f
  have e1 : now < mx 0 last := by unfold mx; split <;> omega
  simp only [e1, ↓reduceIte]; refine Ev.step (fun k => by rw [phi_Level.j0]) ?_; simp only [↓reduceIte]; exact Ev.now _
 ·rw [if_neg hn]; exact level h h0 now boot (by omega) hn1 hb
theorem ref_level_any {last : Int} {l : List Int} (h : GoodW last l) (h0 : 0 ≤ last) (now boot : Int) (hn0 : 0 ≤ now) (hn1 : now ≤ 1099511627776) (hb : boot ≤ 9223372036854775807) : Ev (fun k => ref11_Level.f k last l now boot) (lv last l now boot) := by
 obtain ⟨m1, m2, _⟩ := wm_bd h boot hb
 unfold lv ref11_Level.f
 refine Ev.bind (ref_right_good h) ?_
 have e0 : ¬ now < 0 := by omega
 by_cases hn : now < last
 ·simp only [e0, hn, ↓reduceIte]; refine Ev.step (fun k => by rw [ref11_Level.j0]) ?_; simp only [↓reduceIte]; exact Ev.now _
 ·have e2 : ¬ now > 1099511627776 := by omega
  simp only [e0, hn, e2, decide_false, ↓reduceIte]; refine Ev.step (fun k => by rw [ref11_Level.j0]) ?_; simp only [Bool.false_eq_true, show ¬ last < 0 by omega, wrap_id (now - last) (by omega) (by omega), ↓reduceIte]; refine Ev.bind (ref_mean h boot) ?_; have hq : (now - last) * 434 / wm l boot ≤ (now - last) * 434 := Int.ediv_le_self _ (by omega); have hmd := PlRef09.muldiv (now - last) 434 (wm l boot) (by omega) (by omega) (by decide) (by decide) m1 m2; rw [if_neg (by omega)] at hmd; refine Ev.bind hmd ?_; simp only [show ¬ ((0 : Int) = 8) by decide, ↓reduceIte]; exact Ev.now _
theorem suspect_any {last : Int} {l : List Int} (h : GoodW last l) (h0 : 0 ≤ last) (now boot th : Int) (hn1 : now ≤ 1099511627776) (hb : boot ≤ 9223372036854775807) :
  Ev (fun k => phi_Suspect.f k last l now boot th) (decide ((lv last l now boot).2 = 0 ∧ (lv last l now boot).1 > th)) := by
 unfold phi_Suspect.f
 refine Ev.bind (level_any h h0 now boot hn1 hb) ?_
 by_cases hz : (lv last l now boot).2 = 0
 ·simp only [hz, ↓reduceIte, true_and]; exact Ev.now _
 ·simp only [hz, ↓reduceIte, false_and, decide_false]; exact Ev.now _
end Go.Proofs.Ytoghjpoblbdnpaa.Pl

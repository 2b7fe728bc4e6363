/- The plain law of windows: what an arrival does. No program runs here. No condition. -/
import Derived.Test.YtoghjpoblbdnpaaPWatchWithout
import Derived.Test.YtoghjpoblbdnpaaPlMean
namespace Go.Proofs.Ytoghjpoblbdnpaa.Pl10
open Go.RowKit Go.Proofs.Ytoghjpoblbdnpaa.P Go.Proofs.YtoghjpoblbdnpaaW.PrintWords Go.Proofs.YtoghjpoblbdnpaaW.PrintLast Go.Proofs.YtoghjpoblbdnpaaW.PrintMore Go.Proofs.Ytoghjpoblbdnpaa.Pl09
set_option linter.unusedSimpArgs false
set_option linter.unusedVariables false
/-- A window that may be. -/
def GoodW (last : Int) (l : List Int) : Prop := -1 ≤ last ∧ last ≤ 1099511627776 ∧ l.length ≤ 16 ∧ ∀ x ∈ l, 1 ≤ x ∧ x ≤ 1099511627776
theorem right {last : Int} {l : List Int} (h : GoodW last l) : window_Right.f last l = some true := by
 obtain ⟨h1, h2, h3, h4⟩ := h
 have ha : l.any window_Right.odd = false := by
  rw [List.any_eq_false]; intro x hx; have := h4 x hx
  simp [window_Right.odd]
  omega
 unfold window_Right.f
 rw [ha, decide_eq_true (by omega), decide_eq_true (by omega), decide_eq_true (by omega)]; rfl
/-- A gap, as it is kept. -/
def gp (d most : Int) : Int := if d < 1 then 1 else if d > mx 1 most then mx 1 most else d
theorem gp_bd (d most : Int) : 1 ≤ gp d most ∧ gp d most ≤ mx 1 most := by unfold gp mx; split <;> (try split) <;> (try split) <;> omega
theorem gp_le (d most B : Int) (h : d ≤ B) (h1 : 1 ≤ B) : gp d most ≤ B := by unfold gp mx; split <;> (try split) <;> (try split) <;> omega
/-- What an arrival leaves. -/
def arr (last : Int) (l : List Int) (now most : Int) : List Int := if last = -1 then l else (l ++ [gp (now - last) most]).drop (l.length + 1 - 16)
theorem mx0 (n : Nat) (h : (n : Int) ≤ 17) : (mx 0 (wrap64 ((n : Int) - 16))) = ((n - 16 : Nat) : Int) := by
 rw [wrap_id _ (by omega) (by omega)]; unfold mx; split <;> omega
theorem arrive {last : Int} {l : List Int} (h : GoodW last l) (now most : Int) (h0 : 0 ≤ now) (h1 : last ≤ now) (h2 : now ≤ 1099511627776) :
  Ev (fun k => window_Arrive.f k last l now most) (now, arr last l now most, 0) := by
 have hg := h; obtain ⟨g1, g2, g3, g4⟩ := h
 unfold window_Arrive.f
 have c1 : ¬ now < mx 0 last := by unfold mx; split <;> omega
 have c2 : ¬ now > 1099511627776 := by omega
 simp only [c1, c2, ↓reduceIte, right hg, Option.bind_some, Bool.not_true]; refine Ev.step (fun k => by rw [window_Arrive.j0]) ?_
 have d1 : l.length < 17592186044416 := by omega
 simp only [Bool.false_eq_true, ↓reduceIte, slices_Clone_int_int.f, d1, Option.bind_some]
 by_cases e : last = -1
 ·subst e; have m := mx0 l.length (by omega)
  have z : l.length - 16 = 0 := by omega
  rw [z] at m
  have k1 : (0 : Int) ≤ ((0 : Nat) : Int) := by omega
  have k2 : ((0 : Nat) : Int) ≤ (l.length : Int) := by omega
  simp only [m, k1, k2, ↓reduceIte, arr, Int.toNat_natCast, List.drop_zero]; exact Ev.now _
 ·have hc : ratio_Clamp.f (wrap64 (now - last)) 1 (mx 1 most) = some (gp (now - last) most) := by
   rw [wrap_id _ (by omega) (by omega)]
   unfold ratio_Clamp.f gp
   split <;> (try split) <;> rfl
  have hl : (l ++ [gp (now - last) most]).length = l.length + 1 := by simp
  have m := mx0 (l.length + 1) (by omega)
  have k1 : (0 : Int) ≤ ((l.length + 1 - 16 : Nat) : Int) := by omega
  have k2 : ((l.length + 1 - 16 : Nat) : Int) ≤ ((l.length + 1 : Nat) : Int) := by omega
  simp only [e, ↓reduceIte, hc, Option.bind_some, hl, m, k1, k2, arr, Int.toNat_natCast]; exact Ev.now _
theorem arr_mem {last now most : Int} {l : List Int} {x : Int} (h : x ∈ arr last l now most) : x ∈ l ∨ x = gp (now - last) most := by
 unfold arr at h
 split at h
 ·exact .inl h
 ·have := List.mem_of_mem_drop h
  simpa using this
theorem arr_len {last now most : Int} {l : List Int} (h : l.length ≤ 16) : (arr last l now most).length = if last = -1 then l.length else min (l.length + 1) 16 := by
 unfold arr
 split
 ·rfl
 ·simp; omega
theorem arr_good {last now most : Int} {l : List Int} (h : GoodW last l) (h0 : 0 ≤ now) (h1 : last ≤ now) (h2 : now ≤ 1099511627776) : GoodW now (arr last l now most) := by
 obtain ⟨g1, g2, g3, g4⟩ := h; refine ⟨by omega, h2, ?_, ?_⟩
 ·rw [arr_len g3]; split <;> omega
 ·intro x hx
  by_cases e : last = -1
  ·subst e; simp only [arr, ↓reduceIte] at hx; exact g4 x hx
  ·rcases arr_mem hx with hx | hx
   ·exact g4 x hx
   ·subst hx; have := gp_bd (now - last) most; have := gp_le (now - last) most 1099511627776 (by omega) (by omega)
    omega
/-- A sum of numbers between two bounds. -/
theorem S_bet (l : List Int) (a b : Int) (ha : 0 ≤ a) (hb : b ≤ 1125899906842624) (h : ∀ x ∈ l, a ≤ x ∧ x ≤ b) : a * (l.length : Int) ≤ S l ∧ S l ≤ b * (l.length : Int) := by
 induction l with
 | nil => simp [S]
 | cons x l ih =>
  have hx := h x (by simp); have i := ih (fun y hy => h y (by simp [hy]))
  have hc : cl x = x := by unfold cl; rw [if_neg (by omega), if_neg (by omega)]
  simp only [S, hc, List.length_cons]; rw [show ((l.length + 1 : Nat) : Int) = (l.length : Int) + 1 by omega, Int.mul_add, Int.mul_add, Int.mul_one, Int.mul_one]
  omega
theorem wmean {l : List Int} (last boot : Int) (a b : Int) (ha : 0 ≤ a) (hb : b ≤ 1125899906842624) (h : ∀ x ∈ l, a ≤ x ∧ x ≤ b) (hl : l.length ≤ 16) (h1 : 1 ≤ l.length) :
  ∃ m, Ev (fun k => window_Mean.f k last l boot) (mx 1 m) ∧ a ≤ m ∧ m ≤ b := by
 refine ⟨S l / (l.length : Int), ?_, ?_, ?_⟩
 ·unfold window_Mean.f
  have c : (l.length : Int) > 0 := by omega
  simp only [c, ↓reduceIte]; exact Ev.bind (mean l (by omega) h1) (Ev.now _)
 ·exact (Int.le_ediv_iff_mul_le (by omega)).2 (S_bet l a b ha hb h).1
 ·exact Int.ediv_le_of_le_mul (by omega) (S_bet l a b ha hb h).2
theorem wmean0 (last boot : Int) : Ev (fun k => window_Mean.f k last [] boot) (mx 1 boot) := by
 unfold window_Mean.f
 exact Ev.now _
theorem u16_bd {a : Int} (h : (Lit.int .u16 a).wf = true) : 0 ≤ a ∧ a ≤ 65535 := by
 simp [Lit.wf, IntKind.min, IntKind.max, IntKind.bits, IntKind.signed] at h
 omega
theorem u8_bd {a : Int} (h : (Lit.int .u8 a).wf = true) : 0 ≤ a ∧ a ≤ 255 := by
 simp [Lit.wf, IntKind.min, IntKind.max, IntKind.bits, IntKind.signed] at h
 omega
end Go.Proofs.Ytoghjpoblbdnpaa.Pl10

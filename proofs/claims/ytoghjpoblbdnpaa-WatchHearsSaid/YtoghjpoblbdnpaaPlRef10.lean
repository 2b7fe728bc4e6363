/- The plain law of the reference's windows. No program runs here. No condition. -/
import Derived.Test.YtoghjpoblbdnpaaPRef10Arrive
import Derived.Test.YtoghjpoblbdnpaaPRef09MulDiv
import Derived.Test.YtoghjpoblbdnpaaPl10
import Derived.Test.YtoghjpoblbdnpaaPlRef09N
import Derived.Test.YtoghjpoblbdnpaaPRef22Copy
import Derived.Test.YtoghjpoblbdnpaaPRef22Without
namespace Go.Proofs.Ytoghjpoblbdnpaa.Pl10
open Go.RowKit Go.Proofs.Ytoghjpoblbdnpaa.P Go.Proofs.YtoghjpoblbdnpaaW.PrintWords Go.Proofs.YtoghjpoblbdnpaaW.PrintLast Go.Proofs.YtoghjpoblbdnpaaW.PrintMore Go.Proofs.Ytoghjpoblbdnpaa.Pl09
set_option linter.unusedSimpArgs false
set_option linter.unusedVariables false
theorem ref_right_l (last : Int) (l : List Int) (hl : l.length < 4611686018427387904) : ∀ (suf pre : List Int), pre ++ suf = l → pre.length ≤ 17 →
  ∃ r, Ev (fun k => ref10_Right.l0 k (pre.length : Int) last l) r ∧ (r = true ↔ (-1 ≤ last ∧ last ≤ 1099511627776 ∧ l.length ≤ 16 ∧ ∀ x ∈ suf, 1 ≤ x ∧ x ≤ 1099511627776)) := by
 have fin : ∀ (j : Int), ∃ r, Ev (fun k => ref10_Right.j1 k j false last l) r ∧ (r = true ↔ (-1 ≤ last ∧ last ≤ 1099511627776 ∧ l.length ≤ 16)) := by
  intro j
  by_cases h1 : last ≥ -1
  ·by_cases h2 : last ≤ 1099511627776
   ·refine ⟨decide ((l.length : Int) ≤ 16), Ev.step (fun k => by rw [ref10_Right.j1]) ?_, ?_⟩
    ·simp only [Bool.false_eq_true, h1, h2, ↓reduceIte]; exact Ev.now _
    ·rw [decide_eq_true_iff]
     omega
   ·refine ⟨false, Ev.step (fun k => by rw [ref10_Right.j1]) ?_, ?_⟩
    ·simp only [Bool.false_eq_true, h1, h2, ↓reduceIte]; exact Ev.now _
    ·simp only [Bool.false_eq_true, false_iff]
     omega
  ·refine ⟨false, Ev.step (fun k => by rw [ref10_Right.j1]) ?_, ?_⟩
   ·simp only [Bool.false_eq_true, h1, ↓reduceIte]; exact Ev.now _
   ·simp only [Bool.false_eq_true, false_iff]
    omega
 intro suf
 induction suf with
 | nil =>
  intro pre e hp
  have e' : pre = l := by simpa using e
  subst e'; obtain ⟨r, h1, h2⟩ := fin (pre.length : Int); refine ⟨r, Ev.step (fun k => by rw [ref10_Right.l0]) ?_, ?_⟩
  ·simp only [Int.lt_irrefl, ↓reduceIte]; exact h1
  ·rw [h2]
   simp
 | cons x suf ih =>
  intro pre e hp
  have hlen : l.length = pre.length + (suf.length + 1) := by rw [← e]; simp
  have hrd : rd l (pre.length : Int) = x := by rw [← e]; exact rd_mid pre x suf
  by_cases h17 : pre.length < 17
  ·have e1 : wrap64 ((pre.length : Int) + 1) = ((pre ++ [x]).length : Int) := by rw [wrap_id _ (by omega) (by omega)]; simp
   by_cases hx : 1 ≤ x ∧ x ≤ 1099511627776
   ·obtain ⟨r, h1, h2⟩ := ih (pre ++ [x]) (by rw [← e]; simp) (by simp; omega); refine ⟨r, Ev.step (fun k => by rw [ref10_Right.l0]) ?_, ?_⟩
    ·simp only [show (pre.length : Int) < (l.length : Int) by omega, show (pre.length : Int) < 17 by omega, decide_true, ↓reduceIte]; refine Ev.step (fun k => by rw [ref10_Right.j1]) ?_; simp only [show (0 : Int) ≤ (pre.length : Int) by omega, show (pre.length : Int) < (l.length : Int) by omega, hrd, show ¬ x < 1 by omega, show ¬ x > 1099511627776 by omega, e1, ↓reduceIte]; exact h1
    ·rw [h2]
     constructor
     ·rintro ⟨a, b, c, d⟩; refine ⟨a, b, c, fun y hy => ?_⟩
      rcases List.mem_cons.1 hy with rfl | hy
      ·exact hx
      ·exact d y hy
     ·rintro ⟨a, b, c, d⟩; exact ⟨a, b, c, fun y hy => d y (by simp [hy])⟩
   ·refine ⟨false, Ev.step (fun k => by rw [ref10_Right.l0]) ?_, ?_⟩
    ·simp only [show (pre.length : Int) < (l.length : Int) by omega, show (pre.length : Int) < 17 by omega, decide_true, ↓reduceIte]; refine Ev.step (fun k => by rw [ref10_Right.j1]) ?_
     by_cases hx1 : x < 1
     ·simp only [show (0 : Int) ≤ (pre.length : Int) by omega, show (pre.length : Int) < (l.length : Int) by omega, hrd, hx1, ↓reduceIte]; exact Ev.now _
     ·simp only [show (0 : Int) ≤ (pre.length : Int) by omega, show (pre.length : Int) < (l.length : Int) by omega, hrd, hx1, show x > 1099511627776 by omega, ↓reduceIte]; exact Ev.now _
    ·simp only [Bool.false_eq_true, false_iff]; rintro ⟨a, b, c, d⟩; exact hx (d x (by simp))
  ·obtain ⟨r, h1, h2⟩ := fin (pre.length : Int); refine ⟨r, Ev.step (fun k => by rw [ref10_Right.l0]) ?_, ?_⟩
   ·simp only [show (pre.length : Int) < (l.length : Int) by omega, show ¬ (pre.length : Int) < 17 by omega, decide_false, ↓reduceIte]; exact h1
   ·rw [h2]
    constructor
    ·rintro ⟨a, b, c⟩
     omega
    ·rintro ⟨a, b, c, d⟩
     omega
theorem ref_right (last : Int) (l : List Int) (hl : l.length < 4611686018427387904) : ∃ r, Ev (fun k => ref10_Right.f k last l) r ∧ (r = true ↔ GoodW last l) := by
 unfold ref10_Right.f
 exact ref_right_l last l hl l [] rfl (by simp)
theorem ref_right_good {last : Int} {l : List Int} (h : GoodW last l) : Ev (fun k => ref10_Right.f k last l) true := by
 obtain ⟨r, h1, h2⟩ := ref_right last l (by have := h.2.2.1; omega); rw [h2.2 h] at h1; exact h1
def rarr (last : Int) (l : List Int) (now most : Int) : List Int := if last ≥ 0 then (if l.length = 16 then (l ++ [mx 1 (mn (now - last) most)]).drop 1 else l ++ [mx 1 (mn (now - last) most)]) else l
theorem ref_arrive {last : Int} {l : List Int} (h : GoodW last l) (now most : Int) (hn0 : 0 ≤ now) (hn : last ≤ now) (hn1 : now ≤ 1099511627776) :
  Ev (fun k => ref10_Arrive.f k last l now most) (now, rarr last l now most, 0) := by
 obtain ⟨h1, h2, h3, h4⟩ := h
 unfold ref10_Arrive.f
 refine Ev.bind (ref_right_good ⟨h1, h2, h3, h4⟩) ?_; simp only [show ¬ now < 0 by omega, show ¬ now < last by omega, show ¬ now > 1099511627776 by omega, decide_false, ↓reduceIte]; refine Ev.step (fun k => by rw [ref10_Arrive.j0]) ?_; simp only [Bool.false_eq_true, Option.bind_some, List.length_nil, List.nil_append, show 0 + l.length < 17592186044416 by omega, show l.length < 17592186044416 by omega, ↓reduceIte]
 unfold rarr
 by_cases hp : last ≥ 0
 ·simp only [hp, wrap_id (now - last) (by omega) (by omega), List.length_append, List.length_singleton, ↓reduceIte]
  by_cases h16 : l.length = 16
  ·simp only [h16, show (((16 + 1 : Nat) : Int) > 16) by decide, show (1 : Int) ≤ ((16 + 1 : Nat) : Int) by decide, show (1 : Int).toNat = 1 from rfl, ↓reduceIte]; exact Ev.now _
  ·simp only [h16, show ¬ (((l.length + 1 : Nat) : Int) > 16) by omega, ↓reduceIte]; exact Ev.now _
 ·simp only [hp, show ¬ ((l.length : Int) > 16) by omega, ↓reduceIte]; exact Ev.now _
theorem win_right (last : Int) (l : List Int) : ∃ r, window_Right.f last l = some r ∧ (r = true ↔ GoodW last l) := by
 refine ⟨_, rfl, ?_⟩; simp only [Bool.and_eq_true, decide_eq_true_eq, Bool.not_eq_true', List.any_eq_false]
 unfold GoodW
 constructor
 ·rintro ⟨⟨⟨a, b⟩, c⟩, d⟩; refine ⟨by omega, b, by omega, fun x hx => ?_⟩; have := d x hx; simp only [window_Right.odd, Bool.or_eq_true, decide_eq_true_eq] at this
  omega
 ·rintro ⟨a, b, c, d⟩; refine ⟨⟨⟨by omega, b⟩, by omega⟩, fun x hx => ?_⟩; have := d x hx; simp only [window_Right.odd, Bool.or_eq_true, decide_eq_true_eq]
  omega
theorem gp_is (d most : Int) : gp d most = mx 1 (mn d most) := by
 unfold gp mx mn
 repeat' split
 all_goals omega
theorem arr_is {last : Int} {l : List Int} (h : GoodW last l) (now most : Int) : arr last l now most = rarr last l now most := by
 obtain ⟨h1, _, h3, _⟩ := h
 unfold arr rarr
 by_cases e : last = -1
 ·rw [if_pos e, if_neg (by omega)]
 ·rw [if_neg e, if_pos (by omega), gp_is]
  by_cases h16 : l.length = 16
  ·rw [if_pos h16, h16]
  ·rw [if_neg h16, show l.length + 1 - 16 = 0 by omega, List.drop_zero]
/-- The same numbers. -/
theorem ints_l (sa : List Int) : ∀ (sb pa pb : List Int), pa.length = pb.length → sa.length = sb.length → (pa ++ sa).length < 4611686018427387904 →
  Ev (fun k => ref06_Ints.l0 k (pa ++ sa) (pb ++ sb) (pa.length : Int)) (decide (sa = sb)) := by
 induction sa with
 | nil =>
  intro sb pa pb hp hs hl; have : sb = [] := List.eq_nil_of_length_eq_zero (by simpa using hs.symm); subst this; refine Ev.step (fun k => by rw [ref06_Ints.l0]) ?_; simp only [List.append_nil, Int.lt_irrefl, ↓reduceIte, decide_true]; exact Ev.now _
 | cons x sa ih =>
  intro sb pa pb hp hs hl
  match sb, hs with
  | y :: sb, hs =>
   have hs' : sa.length = sb.length := by simpa using hs
   have r1 : rd (pa ++ x :: sa) (pa.length : Int) = x := rd_mid pa x sa
   have r2 : rd (pb ++ y :: sb) (pa.length : Int) = y := by rw [hp]; exact rd_mid pb y sb
   have l1 : (pa.length : Int) < ((pa ++ x :: sa).length : Int) := by simp <;> omega
   have l2 : (pa.length : Int) < ((pb ++ y :: sb).length : Int) := by rw [hp]; simp <;> omega
   have e1 : wrap64 ((pa.length : Int) + 1) = ((pa ++ [x]).length : Int) := by
    rw [wrap_id _ (by omega) (by simp at hl; omega)]; simp
   refine Ev.step (fun k => by rw [ref06_Ints.l0]) ?_; simp only [l1, l2, show (0 : Int) ≤ (pa.length : Int) by omega, r1, r2, e1, ↓reduceIte]
   by_cases hxy : x = y
   ·subst hxy; have i := ih sb (pa ++ [x]) (pb ++ [x]) (by simp [hp]) hs' (by simpa using hl); simp only [List.append_assoc, List.singleton_append] at i; simp only [↓reduceIte, List.cons.injEq, true_and]; exact i
   ·simp only [hxy, ↓reduceIte, List.cons.injEq, false_and, decide_false]; exact Ev.now _
theorem ints (a b : List Int) (h : a.length < 4611686018427387904) : Ev (fun k => ref06_Ints.f k a b) (decide (a = b)) := by
 unfold ref06_Ints.f
 by_cases hl : (a.length : Int) = (b.length : Int)
 ·simp only [hl, ↓reduceIte]; exact ints_l a b [] [] rfl (by omega) (by simpa using h)
 ·have : a ≠ b := fun e => hl (by rw [e])
  simp only [hl, this, ↓reduceIte, decide_false]; exact Ev.now _
theorem equal_l (sa : List Int) : ∀ (sb pa pb : List Int), pa.length = pb.length → sa.length = sb.length → (pa ++ sa).length < 4611686018427387904 →
  Ev (fun k => slices_Equal_int_int.l0 k (pa ++ sa) (pb ++ sb) ((pa ++ sa).length : Int) (pa.length : Int)) (decide (sa = sb)) := by
 induction sa with
 | nil =>
  intro sb pa pb hp hs hl; have : sb = [] := List.eq_nil_of_length_eq_zero (by simpa using hs.symm); subst this; refine Ev.step (fun k => by rw [slices_Equal_int_int.l0]) ?_; simp only [List.append_nil, Int.lt_irrefl, ↓reduceIte, decide_true]; exact Ev.now _
 | cons x sa ih =>
  intro sb pa pb hp hs hl
  match sb, hs with
  | y :: sb, hs =>
   have hs' : sa.length = sb.length := by simpa using hs
   have r1 : rd (pa ++ x :: sa) (pa.length : Int) = x := rd_mid pa x sa
   have r2 : rd (pb ++ y :: sb) (pa.length : Int) = y := by rw [hp]; exact rd_mid pb y sb
   have l1 : (pa.length : Int) < ((pa ++ x :: sa).length : Int) := by simp <;> omega
   have l2 : (pa.length : Int) < ((pb ++ y :: sb).length : Int) := by rw [hp]; simp <;> omega
   have e1 : wrap64 ((pa.length : Int) + 1) = ((pa ++ [x]).length : Int) := by
    rw [wrap_id _ (by omega) (by simp at hl; omega)]; simp
   refine Ev.step (fun k => by rw [slices_Equal_int_int.l0]) ?_; simp only [l1, l2, show (0 : Int) ≤ (pa.length : Int) by omega, r1, r2, e1, ↓reduceIte]
   by_cases hxy : x = y
   ·subst hxy; have i := ih sb (pa ++ [x]) (pb ++ [x]) (by simp [hp]) hs' (by simpa using hl); simp only [List.append_assoc, List.singleton_append] at i; simp only [↓reduceIte, List.cons.injEq, true_and]; exact i
   ·simp only [hxy, ↓reduceIte, List.cons.injEq, false_and, decide_false]; exact Ev.now _
theorem equal (a b : List Int) (h : a.length < 4611686018427387904) : Ev (fun k => slices_Equal_int_int.f k a b) (decide (a = b)) := by
 unfold slices_Equal_int_int.f
 by_cases hl : (a.length : Int) = (b.length : Int)
 ·simp only [hl, ↓reduceIte]; have := equal_l a b [] [] rfl (by omega) (by simpa using h); simp only [List.nil_append, hl] at this; exact this
 ·have : a ≠ b := fun e => hl (by rw [e])
  simp only [hl, this, ↓reduceIte, decide_false]; exact Ev.now _
theorem ref_same (p q : Int) (a b : List Int) (h : a.length < 4611686018427387904) : Ev (fun k => ref10_Same.f k p a q b) (decide (p = q ∧ a = b)) := by
 unfold ref10_Same.f
 by_cases e : p = q
 ·simp only [e, true_and, ↓reduceIte]; exact Ev.bind (ints a b h) (Ev.now _)
 ·simp only [e, false_and, ↓reduceIte, decide_false]; exact Ev.now _
theorem win_same (p q : Int) (a b : List Int) (h : a.length < 4611686018427387904) : Ev (fun k => window_Same.f k p a q b) (decide (p = q ∧ a = b)) := by
 unfold window_Same.f
 by_cases e : p = q
 ·simp only [e, true_and, ↓reduceIte]; exact Ev.bind (equal a b h) (Ev.now _)
 ·simp only [e, false_and, ↓reduceIte, decide_false]; exact Ev.now _
theorem mean_same (last boot : Int) (l : List Int) (h : l.length ≤ 1000) : ∃ r, Ev (fun k => window_Mean.f k last l boot) r ∧ Ev (fun k => ref10_Mean.f k last l boot) r := by
 unfold window_Mean.f ref10_Mean.f
 by_cases h0 : l.length = 0
 ·simp only [show ¬ (l.length : Int) > 0 by omega, show (l.length : Int) = 0 by omega, ↓reduceIte]; exact ⟨_, Ev.now _, Ev.now _⟩
 ·simp only [show (l.length : Int) > 0 by omega, show ¬ (l.length : Int) = 0 by omega, ↓reduceIte]; exact ⟨_, Ev.bind (mean l h (by omega)) (Ev.now _), Ev.bind (PlRef09A.mean l h (by omega)) (Ev.now _)⟩
end Go.Proofs.Ytoghjpoblbdnpaa.Pl10

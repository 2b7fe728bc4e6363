/- Plain words of lists of watches: small, right, the same, copies, places. No program runs here. No condition. -/
import Derived.Test.YtoghjpoblbdnpaaPlRef10
import Derived.Test.YtoghjpoblbdnpaaPRef22Same
import Derived.Test.YtoghjpoblbdnpaaPRef22Copy
import Derived.Test.YtoghjpoblbdnpaaPRef22Without
import Derived.Test.YtoghjpoblbdnpaaPRef09MulDiv
import Derived.Test.YtoghjpoblbdnpaaPWatchSame
namespace Go.Proofs.Ytoghjpoblbdnpaa.Pl
open Go.RowKit Go.Proofs.Ytoghjpoblbdnpaa.P Go.Proofs.YtoghjpoblbdnpaaW.PrintWords Go.Proofs.YtoghjpoblbdnpaaW.PrintLast Go.Proofs.YtoghjpoblbdnpaaW.PrintMore Go.Proofs.Ytoghjpoblbdnpaa.Pl09 Go.Proofs.Ytoghjpoblbdnpaa.Pl10
set_option linter.unusedSimpArgs false
set_option linter.unusedVariables false
theorem Ev.cast {α : Type} {g : Nat → Option α} {r r' : α} (h : Ev g r) (e : r = r') : Ev g r' := e ▸ h
abbrev X := S36
theorem x_wrap (n : Nat) (h : n < 9223372036854775807) : wrap64 ((n : Int) + 1) = ((n + 1 : Nat) : Int) := by unfold wrap64; omega
theorem x_at (l : List X) (i : Nat) : rd_T36 l (i : Int) = l.getD i z36 := by unfold rd_T36; rw [Int.toNat_natCast]
theorem x_mid (pre : List X) (x : X) (suf : List X) : rd_T36 (pre ++ x :: suf) ((pre.length : Nat) : Int) = x := by rw [x_at]; simp [List.getD_eq_getElem?_getD]
theorem x_lt (pre : List X) (x : X) (suf : List X) : ((pre.length : Nat) : Int) < ((pre ++ x :: suf).length : Int) := by simp <;> omega
theorem x_end (pre : List X) : ¬ ((pre.length : Nat) : Int) < ((pre ++ ([] : List X)).length : Int) := by simp
theorem x_ge (pre : List X) : (0 : Int) ≤ ((pre.length : Nat) : Int) := Int.natCast_nonneg _
theorem x_next (pre : List X) (x : X) (suf : List X) (h : (pre ++ x :: suf).length < 9223372036854775807) : wrap64 (((pre.length : Nat) : Int) + 1) = (((pre ++ [x]).length : Nat) : Int) := by
 rw [x_wrap _ (by simp at h; omega), List.length_append]; rfl
theorem x_mem {l : List X} {i : Nat} (h : i < l.length) : l.getD i z36 ∈ l := by
 rw [List.getD_eq_getElem?_getD, List.getElem?_eq_getElem h]; exact List.getElem_mem h
theorem x_get {l : List X} {i : Nat} (h : i < l.length) : l.getD i z36 = l[i] := by
 rw [List.getD_eq_getElem?_getD, List.getElem?_eq_getElem h]; rfl
/-- A watch that may be. -/
def GoodX (x : X) : Prop := 0 ≤ x.f0 ∧ x.f0 < 8 ∧ 1 ≤ x.f1 ∧ x.f1 ≤ 1099511627776 ∧ 0 ≤ x.f2 ∧ x.f2 ≤ 1099511627776 ∧ GoodW x.f3.f0 x.f3.f1 ∧ 0 ≤ x.f3.f0 ∧ 0 ≤ x.f5 ∧ x.f5 ≤ 1099511627776 ∧ (x.f4 = true → x.f5 = 0)
/-- A list that may be. -/
def GoodL (l : List X) : Prop := l.Pairwise (fun a b => a.f0 < b.f0) ∧ ∀ x ∈ l, GoodX x
/-- A list as small as is looked at. -/
def SmallL (l : List X) : Prop := l.length ≤ 40 ∧ ∀ x ∈ l, x.f3.f1.length ≤ 100
theorem great_l (suf : List X) : ∀ (pre : List X), (pre ++ suf).length < 4611686018427387904 → pre.length ≤ 41 →
  ∃ r, Ev (fun k => ref22_Great.l0 k (pre ++ suf) (pre.length : Int)) r ∧ (r = false → (pre ++ suf).length ≤ 40 ∧ ∀ x ∈ suf, x.f3.f1.length ≤ 100) := by
 induction suf with
 | nil =>
  intro pre h h1; refine ⟨decide (((pre ++ ([] : List X)).length : Int) > 40), Ev.step (fun k => by rw [ref22_Great.l0]) ?_, fun hr => ⟨by have := of_decide_eq_false hr; omega, by simp⟩⟩; simp only [x_end, ↓reduceIte]; refine Ev.step (fun k => by rw [ref22_Great.j1]) ?_; simp only [Bool.false_eq_true, ↓reduceIte]; exact Ev.now _
 | cons x suf ih =>
  intro pre h h1
  by_cases hp : pre.length < 41
  ·by_cases hg : (x.f3.f1.length : Int) > 100
   ·refine ⟨true, Ev.step (fun k => by rw [ref22_Great.l0]) ?_, fun hr => by cases hr⟩
    have c : ((pre.length : Nat) : Int) < 41 := by omega
    simp only [x_lt, ↓reduceIte, c, decide_true]; refine Ev.step (fun k => by rw [ref22_Great.j1]) ?_; simp only [x_lt, x_ge, ↓reduceIte, x_mid, hg]; exact Ev.now _
   ·obtain ⟨r, hr, hq⟩ := ih (pre ++ [x]) (by rw [← List.append_cons]; exact h) (by simp; omega); rw [← List.append_cons pre x suf] at hr hq; refine ⟨r, Ev.step (fun k => by rw [ref22_Great.l0]) ?_, fun h0 => ⟨(hq h0).1, fun y hy => ?_⟩⟩
    ·have c : ((pre.length : Nat) : Int) < 41 := by omega
     simp only [x_lt, ↓reduceIte, c, decide_true]; refine Ev.step (fun k => by rw [ref22_Great.j1]) ?_; simp only [x_lt, x_ge, ↓reduceIte, x_mid, hg, x_next pre x suf (by omega)]; exact hr
    ·rcases List.mem_cons.1 hy with rfl | hy
     ·omega
     ·exact (hq h0).2 y hy
  ·refine ⟨true, Ev.step (fun k => by rw [ref22_Great.l0]) ?_, fun hr => by cases hr⟩
   have c : ¬ ((pre.length : Nat) : Int) < 41 := by omega
   simp only [x_lt, ↓reduceIte, c, decide_false]; refine Ev.step (fun k => by rw [ref22_Great.j1]) ?_
   have c2 : ((pre ++ x :: suf).length : Int) > 40 := by simp only [List.length_append, List.length_cons]; omega
   simp only [Bool.false_eq_true, ↓reduceIte, c2, decide_true]; exact Ev.now _
theorem great (l : List X) (h : l.length < 4611686018427387904) : ∃ r, Ev (fun k => ref22_Great.f k l) r ∧ (r = false → SmallL l) := by
 obtain ⟨r, hr, hq⟩ := great_l l [] h (by simp); exact ⟨r, hr, hq⟩
theorem bad22 (x : X) (pb : Bool) (hl : x.f3.f1.length < 4611686018427387904) : ∃ b, Ev (fun k => ref22_Right.bad k x pb) b ∧ (b = false ↔ pb = false ∧ GoodX x) := by
 obtain ⟨t, et, qt⟩ := ref_right x.f3.f0 x.f3.f1 hl
 unfold ref22_Right.bad GoodX
 by_cases c0 : x.f0 < 0
 ·refine ⟨true, by simp only [c0, ↓reduceIte]; exact Ev.now _, ?_⟩; simp only [Bool.true_eq_false, false_iff]; omega
 by_cases c1 : 8 ≤ x.f0
 ·refine ⟨true, by simp only [c0, c1, ↓reduceIte]; exact Ev.now _, ?_⟩; simp only [Bool.true_eq_false, false_iff]; omega
 cases pb with
 | true => exact ⟨true, by simp only [c0, c1, ↓reduceIte]; exact Ev.now _, by simp⟩
 | false =>
  by_cases c3 : x.f1 < 1
  ·refine ⟨true, by simp only [c0, c1, c3, Bool.false_eq_true, ↓reduceIte]; exact Ev.now _, ?_⟩; simp only [Bool.true_eq_false, false_iff]; omega
  by_cases c4 : 1099511627776 < x.f1
  ·refine ⟨true, by simp only [c0, c1, c3, c4, Bool.false_eq_true, ↓reduceIte]; exact Ev.now _, ?_⟩; simp only [Bool.true_eq_false, false_iff]; omega
  by_cases c5 : x.f2 < 0
  ·refine ⟨true, by simp only [c0, c1, c3, c4, c5, Bool.false_eq_true, ↓reduceIte]; exact Ev.now _, ?_⟩; simp only [Bool.true_eq_false, false_iff]; omega
  by_cases c6 : 1099511627776 < x.f2
  ·refine ⟨true, by simp only [c0, c1, c3, c4, c5, c6, Bool.false_eq_true, ↓reduceIte]; exact Ev.now _, ?_⟩; simp only [Bool.true_eq_false, false_iff]; omega
  simp only [c0, c1, c3, c4, c5, c6, Bool.false_eq_true, ↓reduceIte]
  cases t with
  | false =>
   refine ⟨true, Ev.bind et (by simp only [Bool.false_eq_true, ↓reduceIte]; exact Ev.now _), ?_⟩
   have hn : ¬ GoodW x.f3.f0 x.f3.f1 := fun hg => by have := qt.2 hg; cases this
   simp only [Bool.true_eq_false, false_iff]
   exact fun hq => hn hq.2.2.2.2.2.2.2.1
  | true =>
   have hgw := qt.1 rfl
   by_cases d0 : x.f3.f0 < 0
   ·refine ⟨true, Ev.bind et (by simp only [d0, ↓reduceIte]; exact Ev.now _), ?_⟩; simp only [Bool.true_eq_false, false_iff]; omega
   by_cases d1 : x.f5 < 0
   ·refine ⟨true, Ev.bind et (by simp only [d0, d1, ↓reduceIte]; exact Ev.now _), ?_⟩; simp only [Bool.true_eq_false, false_iff]; omega
   by_cases d2 : 1099511627776 < x.f5
   ·refine ⟨true, Ev.bind et (by simp only [d0, d1, d2, ↓reduceIte]; exact Ev.now _), ?_⟩; simp only [Bool.true_eq_false, false_iff]; omega
   cases hal : x.f4 with
   | false =>
    refine ⟨false, Ev.bind et (by simp only [d0, d1, d2, Bool.false_eq_true, ↓reduceIte]; exact Ev.now _), ?_⟩; simp only [true_iff, Bool.false_eq_true, false_implies, and_true, true_and]; exact ⟨by omega, by omega, by omega, by omega, by omega, by omega, hgw, by omega, by omega, by omega⟩
   | true =>
    by_cases d3 : x.f5 = 0
    ·refine ⟨false, Ev.bind et (by simp only [d0, d1, d2, d3, ↓reduceIte]; exact Ev.now _), ?_⟩; simp only [true_iff, true_and]; exact ⟨by omega, by omega, by omega, by omega, by omega, by omega, hgw, by omega, by omega, by omega, fun _ => d3⟩
    ·refine ⟨true, Ev.bind et (by simp only [d0, d1, d2, d3, ↓reduceIte]; exact Ev.now _), ?_⟩; simp only [Bool.true_eq_false, false_iff]
     exact fun hq => d3 (hq.2.2.2.2.2.2.2.2.2.2.2 (by simp))
/-- Place j of a list is right. -/
def RightAt (l : List X) (j : Nat) : Prop := GoodX (l.getD j z36) ∧ (0 < j → (l.getD (j - 1) z36).f0 < (l.getD j z36).f0)
theorem goodL_iff (l : List X) : GoodL l ↔ ∀ j, j < l.length → RightAt l j := by
 constructor
 ·rintro ⟨hp, hg⟩ j hj; refine ⟨hg _ (x_mem hj), fun h0 => ?_⟩; rw [x_get hj, x_get (by omega)]; exact List.pairwise_iff_getElem.1 hp (j - 1) j (by omega) hj (by omega)
 ·intro h; refine ⟨List.pairwise_iff_getElem.2 (fun i j hi hj hij => ?_), fun x hx => ?_⟩
  ·have key : ∀ (d : Nat), i + d + 1 < l.length → (l.getD i z36).f0 < (l.getD (i + d + 1) z36).f0 := by
    intro d
    induction d with
    | zero => intro hd; have := (h (i + 1) hd).2 (by omega); simpa using this
    | succ d ih =>
     intro hd; have h1 := ih (by omega); have h2 := (h (i + (d + 1) + 1) hd).2 (by omega); rw [show i + (d + 1) + 1 - 1 = i + d + 1 from by omega] at h2
     omega
   have := key (j - i - 1) (by omega); rw [show i + (j - i - 1) + 1 = j from by omega, x_get hi, x_get hj] at this; exact this
  ·obtain ⟨j, hj, rfl⟩ := List.mem_iff_getElem.1 hx; have := (h j hj).1
   rwa [x_get hj] at this
theorem right22_go (l : List X) (hl : ∀ x ∈ l, x.f3.f1.length < 4611686018427387904) : ∀ (n i : Nat), n + i = l.length →
  ∃ r, Ev (fun k => ref22_Right.go k l n i) r ∧ (r = true ↔ ∀ j, i ≤ j → j < l.length → RightAt l j) := by
 intro n
 induction n with
 | zero => intro i h; exact ⟨true, Ev.now _, by simp only [true_iff]; intro j h1 h2; omega⟩
 | succ n ih =>
  intro i h
  have hi : i < l.length := by omega
  obtain ⟨b, eb, qb⟩ := bad22 (l.getD i z36) (decide (0 < i) && decide ((l.getD i z36).f0 ≤ (l.getD (i - 1) z36).f0)) (hl _ (x_mem hi))
  have hat : b = false ↔ RightAt l i := by
   rw [qb]
   unfold RightAt
   rw [Bool.and_eq_false_iff, decide_eq_false_iff_not, decide_eq_false_iff_not]
   constructor
   ·rintro ⟨h1, h2⟩; exact ⟨h2, fun h0 => by rcases h1 with h1 | h1 <;> omega⟩
   ·rintro ⟨h1, h2⟩; refine ⟨?_, h1⟩
    by_cases h0 : 0 < i
    ·have := h2 h0; right; omega
    ·left; exact h0
  cases b with
  | true =>
   refine ⟨false, Ev.bind eb (by simp only [↓reduceIte]; exact Ev.now _), ?_⟩; simp only [Bool.false_eq_true, false_iff]; intro hq; have := hat.2 (hq i (Nat.le_refl _) hi); cases this
  | false =>
   obtain ⟨r, er, qr⟩ := ih (i + 1) (by omega); refine ⟨r, Ev.bind eb (by simp only [Bool.false_eq_true, ↓reduceIte]; exact er), qr.trans ⟨fun hq j h1 h2 => ?_, fun hq j h1 h2 => hq j (by omega) h2⟩⟩
   rcases Nat.lt_or_ge i j with hij | hij
   ·exact hq j (by omega) h2
   ·obtain rfl : i = j := by omega
    exact hat.1 rfl
theorem right22 (l : List X) (hl : ∀ x ∈ l, x.f3.f1.length < 4611686018427387904) : ∃ r, Ev (fun k => ref22_Right.f k l) r ∧ (r = true ↔ GoodL l) := by
 obtain ⟨r, er, qr⟩ := right22_go l hl l.length 0 rfl; exact ⟨r, er, qr.trans ((goodL_iff l).symm.trans ⟨fun h => h, fun h => h⟩ |> fun e => ⟨fun hq => e.1 (fun j hj => hq j (Nat.zero_le _) hj), fun hq j _ hj => e.2 hq j hj⟩)⟩
/-- Who is not asked about. -/
theorem out22 (l : List X) (now : Int) (h : l.length < 4611686018427387904) : ∃ r, Ev (fun k => law22_out.f k l now) r ∧ (r = false → SmallL l ∧ GoodL l ∧ 0 ≤ now ∧ now ≤ 1099511627776) := by
 obtain ⟨g, eg, qg⟩ := great l h
 unfold law22_out.f
 cases g with
 | true => exact ⟨true, Ev.bind eg (by simp only [↓reduceIte]; exact Ev.now _), fun h => by cases h⟩
 | false =>
  have hs := qg rfl; obtain ⟨r, er, qr⟩ := right22 l (fun x hx => by have := hs.2 x hx; omega)
  cases r with
  | false => exact ⟨true, Ev.bind eg (by simp only [Bool.false_eq_true, ↓reduceIte]; exact Ev.bind er (by simp only [Bool.false_eq_true, ↓reduceIte]; exact Ev.now _)), fun h => by cases h⟩
  | true =>
   have hgd := qr.1 rfl
   by_cases hn : now < 0
   ·exact ⟨true, Ev.bind eg (by simp only [Bool.false_eq_true, ↓reduceIte]; exact Ev.bind er (by simp only [hn, ↓reduceIte]; exact Ev.now _)), fun h => by cases h⟩
   ·exact ⟨decide (now > 1099511627776), Ev.bind eg (by simp only [Bool.false_eq_true, ↓reduceIte]; exact Ev.bind er (by simp only [hn, ↓reduceIte]; exact Ev.now _)), fun h => ⟨hs, hgd, by omega, by have := of_decide_eq_false h; omega⟩⟩
theorem may22 (x : X) : ∃ b, watch_may.f x.f0 x.f1 x.f2 x.f3.f0 x.f3.f1 x.f4 x.f5 = some b ∧ (b = true ↔ GoodX x) := by
 have hw : ∀ a lo hi : Int, watch_within.f a lo hi = some (decide (lo ≤ a ∧ a ≤ hi)) := by
  intro a lo hi
  unfold watch_within.f
  by_cases h : a ≥ lo
  ·rw [if_pos h]; congr 1; exact decide_eq_decide.2 ⟨fun h2 => ⟨h, h2⟩, fun h2 => h2.2⟩
  ·rw [if_neg h]; congr 1; exact (decide_eq_false (fun h2 => h h2.1)).symm
 obtain ⟨t, et, qt⟩ := win_right x.f3.f0 x.f3.f1
 unfold watch_may.f
 simp only [hw, Option.bind_some, et, decide_eq_true_eq]
 unfold GoodX
 by_cases c0 : 0 ≤ x.f0 ∧ x.f0 ≤ 7
 case neg => exact ⟨false, by rw [if_neg c0], by simp only [Bool.false_eq_true, false_iff]; omega⟩
 by_cases c1 : 1 ≤ x.f1 ∧ x.f1 ≤ 1099511627776
 case neg => exact ⟨false, by rw [if_pos c0, if_neg c1], by simp only [Bool.false_eq_true, false_iff]; omega⟩
 by_cases c2 : 0 ≤ x.f2 ∧ x.f2 ≤ 1099511627776
 case neg => exact ⟨false, by rw [if_pos c0, if_pos c1, if_neg c2], by simp only [Bool.false_eq_true, false_iff]; omega⟩
 by_cases c3 : x.f3.f0 ≥ 0
 case neg => exact ⟨false, by rw [if_pos c0, if_pos c1, if_pos c2, if_neg c3], by simp only [Bool.false_eq_true, false_iff]; omega⟩
 rw [if_pos c0, if_pos c1, if_pos c2, if_pos c3]
 cases t with
 | false =>
  refine ⟨false, by simp, ?_⟩
  have hn : ¬ GoodW x.f3.f0 x.f3.f1 := fun hg => by have := qt.2 hg; cases this
  simp only [Bool.false_eq_true, false_iff]
  exact fun hq => hn hq.2.2.2.2.2.2.1
 | true =>
  have hgw := qt.1 rfl; rw [if_pos rfl]
  by_cases c4 : 0 ≤ x.f5 ∧ x.f5 ≤ 1099511627776
  case neg => exact ⟨false, by rw [if_neg c4], by simp only [Bool.false_eq_true, false_iff]; omega⟩
  rw [if_pos c4]
  cases hal : x.f4 with
  | false =>
   refine ⟨true, by simp, ?_⟩; simp only [true_iff, Bool.false_eq_true, false_implies, and_true]; exact ⟨by omega, by omega, by omega, by omega, by omega, by omega, hgw, by omega, by omega, by omega⟩
  | true =>
   refine ⟨x.f5 == 0, by simp, ?_⟩; rw [beq_iff_eq]; exact ⟨fun h5 => ⟨by omega, by omega, by omega, by omega, by omega, by omega, hgw, by omega, by omega, by omega, fun _ => h5⟩, fun hq => hq.2.2.2.2.2.2.2.2.2.2 rfl⟩
theorem wright_go (l : List X) (hl : l.length < 4611686018427387904) : ∀ (n i : Nat), n + i = l.length →
  ∃ r, Ev (fun k => watch_Right.l0 k l l (l.length : Int) (i : Int)) r ∧ (r = true ↔ ∀ j, i ≤ j → j < l.length → RightAt l j) := by
 intro n
 induction n with
 | zero =>
  intro i h; refine ⟨true, Ev.step (fun k => by rw [watch_Right.l0]) ?_, by simp only [true_iff]; intro j h1 h2; omega⟩
  have c : ¬ (i : Int) < (l.length : Int) := by omega
  simp only [c, ↓reduceIte]; exact Ev.now _
 | succ n ih =>
  intro i h
  have hi : i < l.length := by omega
  have c : (i : Int) < (l.length : Int) := by omega
  have c0 : (0 : Int) ≤ (i : Int) := by omega
  obtain ⟨b, eb, qb⟩ := may22 (l.getD i z36)
  cases b with
  | false =>
   refine ⟨false, Ev.step (fun k => by rw [watch_Right.l0]) ?_, ?_⟩
   ·simp only [c, c0, ↓reduceIte, x_at, eb, Option.bind_some, Bool.false_eq_true]; exact Ev.now _
   ·simp only [Bool.false_eq_true, false_iff]; intro hq; have := qb.2 (hq i (Nat.le_refl _) hi).1; cases this
  | true =>
   have hgx := qb.1 rfl; obtain ⟨r, er, qr⟩ := ih (i + 1) (by omega)
   have up : RightAt l i → ((∀ j, i + 1 ≤ j → j < l.length → RightAt l j) ↔ ∀ j, i ≤ j → j < l.length → RightAt l j) := fun hat => ⟨fun hq j h1 h2 => by
    rcases Nat.lt_or_ge i j with hij | hij
    ·exact hq j (by omega) h2
    ·obtain rfl : i = j := by omega
     exact hat, fun hq j h1 h2 => hq j (by omega) h2⟩
   by_cases h0 : (i : Int) > 0
   ·have hw : wrap64 ((i : Int) - 1) = ((i - 1 : Nat) : Int) := by unfold wrap64; omega
    have c1 : (0 : Int) ≤ ((i - 1 : Nat) : Int) := by omega
    have c2 : ((i - 1 : Nat) : Int) < (l.length : Int) := by omega
    by_cases hp : (l.getD (i - 1) z36).f0 ≥ (l.getD i z36).f0
    ·refine ⟨false, Ev.step (fun k => by rw [watch_Right.l0]) ?_, ?_⟩
     ·simp only [c, c0, ↓reduceIte, x_at, eb, Option.bind_some, h0, hw, c1, c2, hp]; exact Ev.now _
     ·simp only [Bool.false_eq_true, false_iff]; intro hq; have := (hq i (Nat.le_refl _) hi).2 (by omega)
      omega
    ·refine ⟨r, Ev.step (fun k => by rw [watch_Right.l0]) ?_, qr.trans (up ⟨hgx, fun _ => by omega⟩)⟩; simp only [c, c0, ↓reduceIte, x_at, eb, Option.bind_some, h0, hw, c1, c2, hp, x_wrap i (by omega)]; exact er
   ·refine ⟨r, Ev.step (fun k => by rw [watch_Right.l0]) ?_, qr.trans (up ⟨hgx, fun h1 => by omega⟩)⟩; simp only [c, c0, ↓reduceIte, x_at, eb, Option.bind_some, h0, x_wrap i (by omega)]; exact er
theorem wright (l : List X) (hl : l.length < 4611686018427387904) : ∃ r, Ev (fun k => watch_Right.f k l) r ∧ (r = true ↔ GoodL l) := by
 obtain ⟨r, er, qr⟩ := wright_go l hl l.length 0 rfl; exact ⟨r, er, ⟨fun h => (goodL_iff l).2 (fun j hj => qr.1 h j (Nat.zero_le _) hj), fun h => qr.2 (fun j _ hj => (goodL_iff l).1 h j hj)⟩⟩
theorem wright_good {l : List X} (hl : l.length < 4611686018427387904) (h : GoodL l) : Ev (fun k => watch_Right.f k l) true := by
 obtain ⟨r, er, qr⟩ := wright l hl
 rwa [qr.2 h] at er
theorem x_ext (x y : X) : x = y ↔ x.f0 = y.f0 ∧ x.f1 = y.f1 ∧ x.f2 = y.f2 ∧ (x.f3.f0 = y.f3.f0 ∧ x.f3.f1 = y.f3.f1) ∧ x.f4 = y.f4 ∧ x.f5 = y.f5 := by
 constructor
 ·rintro rfl; exact ⟨rfl, rfl, rfl, ⟨rfl, rfl⟩, rfl, rfl⟩
 ·obtain ⟨a0, a1, a2, ⟨a3, a4⟩, a5, a6⟩ := x; obtain ⟨b0, b1, b2, ⟨b3, b4⟩, b5, b6⟩ := y; rintro ⟨rfl, rfl, rfl, ⟨rfl, rfl⟩, rfl, rfl⟩; rfl
instance x_dec : DecidableEq X := fun x y => decidable_of_iff _ (x_ext x y).symm
theorem l_ext {a b : List X} (h : a.length = b.length) : a = b ↔ ∀ j, j < a.length → a.getD j z36 = b.getD j z36 := by
 constructor
 ·rintro rfl j _; rfl
 ·intro hq; refine List.ext_getElem h (fun j h1 h2 => ?_); have := hq j h1
  rwa [x_get h1, x_get h2] at this
theorem same22_go (a b : List X) (h : a.length = b.length) (hl : a.length < 4611686018427387904) (ha : ∀ x ∈ a, x.f3.f1.length < 4611686018427387904) : ∀ (n i : Nat), n + i = a.length →
  ∃ r, Ev (fun k => ref22_Same.l0 k a b (i : Int)) r ∧ (r = true ↔ ∀ j, i ≤ j → j < a.length → a.getD j z36 = b.getD j z36) := by
 intro n
 induction n with
 | zero =>
  intro i hn; refine ⟨true, Ev.step (fun k => by rw [ref22_Same.l0]) ?_, by simp only [true_iff]; intro j h1 h2; omega⟩
  have c : ¬ (i : Int) < (a.length : Int) := by omega
  simp only [c, ↓reduceIte]; exact Ev.now _
 | succ n ih =>
  intro i hn
  have hi : i < a.length := by omega
  have c : (i : Int) < (a.length : Int) := by omega
  have c0 : (0 : Int) ≤ (i : Int) := by omega
  have c1 : (i : Int) < (b.length : Int) := by omega
  have no : a.getD i z36 ≠ b.getD i z36 → (false = true ↔ ∀ j, i ≤ j → j < a.length → a.getD j z36 = b.getD j z36) := fun hne => ⟨fun h => (by cases h), fun hq => absurd (hq i (Nat.le_refl _) hi) hne⟩
  have yes : a.getD i z36 = b.getD i z36 → ((∀ j, i + 1 ≤ j → j < a.length → a.getD j z36 = b.getD j z36) ↔ ∀ j, i ≤ j → j < a.length → a.getD j z36 = b.getD j z36) := fun he => ⟨fun hq j h1 h2 => by
   rcases Nat.lt_or_ge i j with hij | hij
   ·exact hq j (by omega) h2
   ·obtain rfl : i = j := by omega
    exact he, fun hq j h1 h2 => hq j (by omega) h2⟩
  have hs := ref_same (a.getD i z36).f3.f0 (b.getD i z36).f3.f0 (a.getD i z36).f3.f1 (b.getD i z36).f3.f1 (ha _ (x_mem hi)); obtain ⟨r, hr, qr⟩ := ih (i + 1) (by omega); have hx := x_ext (a.getD i z36) (b.getD i z36)
  have st : ∀ (r' : Bool) (G : Nat → Option Bool), (∀ k, ref22_Same.l0 (k + 1) a b (i : Int) = G k) → Ev G r' → Ev (fun k => ref22_Same.l0 k a b (i : Int)) r' := fun r' G hG hE => Ev.step hG hE
  have G := fun k => (show ref22_Same.l0 (k + 1) a b (i : Int) = _ from by rw [ref22_Same.l0])
  simp only [c, c0, c1, ↓reduceIte, x_at, x_wrap i (by omega)] at G; generalize hxe : a.getD i z36 = x at hs hx no yes G; generalize hye : b.getD i z36 = y at hs hx no yes G
  by_cases d0 : x.f0 = y.f0
  case neg => exact ⟨false, st _ _ G (by simp only [d0, ↓reduceIte]; exact Ev.now _), no (fun he => d0 (hx.1 he).1)⟩
  by_cases d1 : x.f1 = y.f1
  case neg => exact ⟨false, st _ _ G (by simp only [d0, d1, ↓reduceIte]; exact Ev.now _), no (fun he => d1 (hx.1 he).2.1)⟩
  by_cases d2 : x.f2 = y.f2
  case neg => exact ⟨false, st _ _ G (by simp only [d0, d1, d2, ↓reduceIte]; exact Ev.now _), no (fun he => d2 (hx.1 he).2.2.1)⟩
  by_cases d4 : x.f4 = y.f4
  case neg =>
   have d4b : (x.f4 != y.f4) = true := bne_iff_ne.mpr d4; exact ⟨false, st _ _ G (by simp only [d0, d1, d2, d4b, ↓reduceIte]; exact Ev.now _), no (fun he => d4 (hx.1 he).2.2.2.2.1)⟩
  have d4b : (x.f4 != y.f4) = false := bne_eq_false_iff_eq.mpr d4
  by_cases d5 : x.f5 = y.f5
  case neg => exact ⟨false, st _ _ G (by simp only [d0, d1, d2, d4b, d5, Bool.false_eq_true, ↓reduceIte]; exact Ev.now _), no (fun he => d5 (hx.1 he).2.2.2.2.2)⟩
  by_cases d3 : x.f3.f0 = y.f3.f0 ∧ x.f3.f1 = y.f3.f1
  ·rw [decide_eq_true d3] at hs; exact ⟨r, st _ _ G (by simp only [d0, d1, d2, d4b, d5, Bool.false_eq_true, ↓reduceIte]; exact Ev.bind hs (by simp only [↓reduceIte]; exact hr)), qr.trans (yes (hx.2 ⟨d0, d1, d2, d3, d4, d5⟩))⟩
  ·rw [decide_eq_false d3] at hs; exact ⟨false, st _ _ G (by simp only [d0, d1, d2, d4b, d5, Bool.false_eq_true, ↓reduceIte]; exact Ev.bind hs (by simp only [Bool.false_eq_true, ↓reduceIte]; exact Ev.now _)), no (fun he => d3 (hx.1 he).2.2.2.1)⟩
theorem same22 (a b : List X) (hl : a.length < 4611686018427387904) (ha : ∀ x ∈ a, x.f3.f1.length < 4611686018427387904) : Ev (fun k => ref22_Same.f k a b) (decide (a = b)) := by
 unfold ref22_Same.f
 by_cases h : a.length = b.length
 ·have c : (a.length : Int) = (b.length : Int) := by omega
  simp only [c, ↓reduceIte]; obtain ⟨r, er, qr⟩ := same22_go a b h hl ha a.length 0 rfl
  have e : decide (a = b) = r := by
   rw [Bool.eq_iff_iff, decide_eq_true_eq, qr]; exact ⟨fun hq j _ hj => (l_ext h).1 hq j hj, fun hq => (l_ext h).2 (fun j hj => hq j (Nat.zero_le _) hj)⟩
  rw [e]; exact er
 ·have c : ¬ (a.length : Int) = (b.length : Int) := by omega
  simp only [c, ↓reduceIte]; rw [decide_eq_false (fun he => h (by rw [he]))]; exact Ev.now _
theorem wsame22 (a b : List X) : watch_Same.f a b = some (decide (a = b)) := by
 have hq : ∀ x y : X, watch_Same.q x y = decide (x = y) := by
  intro x y
  unfold watch_Same.q
  rw [Bool.eq_iff_iff]; simp only [Bool.and_eq_true, beq_iff_eq, decide_eq_true_eq]; exact (x_ext x y).symm
 unfold watch_Same.f eqfX
 congr 1
 by_cases h : a.length = b.length
 ·rw [decide_eq_true h, Bool.true_and, Bool.eq_iff_iff, List.all_eq_true, decide_eq_true_eq, l_ext h]
  constructor
  ·intro hh j hj; have := hh j (List.mem_range.2 hj); rw [hq] at this; exact of_decide_eq_true this
  ·intro hh j hj; rw [hq]; exact decide_eq_true (hh j (List.mem_range.1 hj))
 ·rw [decide_eq_false h, Bool.false_and, decide_eq_false (fun he => h (by rw [he]))]
theorem own22 {l : List X} (h : SmallL l) : watch_own.f l = some l := by
 unfold watch_own.f
 rw [if_pos (by have := h.1; omega), if_pos]; rw [List.all_eq_true]; intro x hx; have := h.2 x hx; exact decide_eq_true (by omega)
theorem copy22_l (suf : List X) : ∀ (pre : List X), (pre ++ suf).length ≤ 1000 → (∀ x ∈ suf, x.f3.f1.length ≤ 1000) →
  Ev (fun k => ref22_Copy.l0 k (pre ++ suf) pre (pre.length : Int)) (pre ++ suf) := by
 induction suf with
 | nil =>
  intro pre h h1; refine Ev.step (fun k => by rw [ref22_Copy.l0]) ?_; simp only [x_end, ↓reduceIte]; rw [List.append_nil]; exact Ev.now _
 | cons x suf ih =>
  intro pre h h1; refine Ev.step (fun k => by rw [ref22_Copy.l0]) ?_
  have c1 : x.f3.f1.length < 17592186044416 := by have := h1 x (by simp); omega
  have c2 : pre.length < 1954687338268 := by simp only [List.length_append, List.length_cons] at h; omega
  simp only [x_lt, x_ge, ↓reduceIte, x_mid, Option.bind_some, List.length_nil, Nat.zero_add, c1, c2, List.nil_append, x_next pre x suf (by omega)]; have := ih (pre ++ [x]) (by rw [← List.append_cons]; exact h) (fun y hy => h1 y (by simp [hy])); rw [← List.append_cons pre x suf] at this; exact this
theorem copy22 (l : List X) (h : l.length ≤ 1000) (h1 : ∀ x ∈ l, x.f3.f1.length ≤ 1000) : Ev (fun k => ref22_Copy.f k l) l := copy22_l l [] h h1
theorem good_bd {l : List X} (h : GoodL l) : ∀ y ∈ l, 0 ≤ y.f0 ∧ y.f0 < 8 := fun y hy => ⟨(h.2 y hy).1, (h.2 y hy).2.1⟩
theorem len22 (n : Nat) : ∀ (l : List X) (m : Nat), l.Pairwise (fun a b => a.f0 < b.f0) → (∀ x ∈ l, (m : Int) ≤ x.f0 ∧ x.f0 < (m : Int) + n) → l.length ≤ n := by
 induction n with
 | zero =>
  intro l m _ h
  match l with
  | [] => exact Nat.le_refl _
  | x :: l => have := h x (by simp); omega
 | succ n ih =>
  intro l m hr h
  match l with
  | [] => simp
  | x :: l =>
   have hr2 := List.pairwise_cons.1 hr
   have h1 := ih l (m + 1) hr2.2 (fun y hy => by
    have h2 := h y (by simp [hy]); have h3 := hr2.1 y hy; have h4 := h x (by simp); omega)
   simp; omega
theorem good_len {l : List X} (h : GoodL l) : l.length ≤ 8 := len22 8 l 0 h.1 (fun x hx => by have := good_bd h x hx; omega)
theorem good_small {l : List X} (h : GoodL l) : SmallL l := ⟨by have := good_len h; omega, fun x hx => by have := (h.2 x hx).2.2.2.2.2.2.1.2.2.1; omega⟩
theorem good_gaps {l : List X} (h : GoodL l) : ∀ x ∈ l, x.f3.f1.length < 4611686018427387904 := fun x hx => by have := (h.2 x hx).2.2.2.2.2.2.1.2.2.1; omega
theorem same_yes {a : List X} (h : GoodL a) : Ev (fun k => ref22_Same.f k a a) true := Ev.cast (same22 a a (by have := good_len h; omega) (good_gaps h)) (decide_eq_true rfl)
end Go.Proofs.Ytoghjpoblbdnpaa.Pl

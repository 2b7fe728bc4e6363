/- What 'is it greater than is looked at' and 'may it be' come to: of tables, states, views and digests. No condition. -/
import Derived.Test.YtcmligagkaimeaaPlR
import Derived.Test.YtcmligagkaimeaaPRef04Great
import Derived.Test.YtcmligagkaimeaaPRef05Great
import Derived.Test.YtcmligagkaimeaaPRef06Great
import Derived.Test.YtcmligagkaimeaaPRef04May
import Derived.Test.YtcmligagkaimeaaPRef04Right
import Derived.Test.YtcmligagkaimeaaPRef05Right
import Derived.Test.YtcmligagkaimeaaPRef06Right
import Derived.Test.YtcmligagkaimeaaPRef07Right
import Derived.Test.YtcmligagkaimeaaPDigestRight
namespace Go.Proofs.Ytcmligagkaimeaa.Pl
open Go.RowKit Go.Proofs.Ytcmligagkaimeaa.P Go.Proofs.YtcmligagkaimeaaW.PrintWords Go.Proofs.YtcmligagkaimeaaW.PrintLast Go.Proofs.YtcmligagkaimeaaW.PrintMore
set_option linter.unusedSimpArgs false
set_option linter.unusedVariables false
theorem wrap01 : wrap64 (0 + 1) = 1 := wrap_id 1 (by omega) (by omega)
theorem all_cons {α : Type} {Q : α → Prop} {x : α} {l : List α} (hx : Q x) (hl : ∀ z, z ∈ l → Q z) : ∀ z, z ∈ x :: l → Q z := fun z hz => by
 rcases List.mem_cons.1 hz with rfl | hz
 ·exact hx
 ·exact hl z hz
/-! ### great -/
theorem ev_ref04_Great_l0 (suf : List E) : ∀ (pre : List E) (n : Int), (pre ++ suf).length < 4611686018427387904 → 0 ≤ n → n ≤ 4611686018427387904 → (∀ x ∈ suf, x.f2.size ≤ 140737488351232) →
  ∃ r, Ev (fun k => ref04_Great.l0 k (pre ++ suf) n (pre.length : Int)) r ∧ (r = false → n ≤ 4000) := by
 induction suf with
 | nil =>
  intro pre n h h0 h1 h2
  refine ⟨decide (n > 4000), Ev.step (fun k => by rw [ref04_Great.l0]) ?_, by simp⟩
  simp only [end_ge, ↓reduceIte]
  exact Ev.now _
 | cons x suf ih =>
  intro pre n h h0 h1 h2
  by_cases hn : n ≤ 4000
  ·have hx := h2 x (by simp)
   obtain ⟨r, hr, hi⟩ := ih (pre ++ [x]) (n + (x.f2.size : Int)) (by rw [← List.append_cons]; exact h) (by omega) (by omega) (fun y hy => h2 y (by simp [hy]))
   refine ⟨r, Ev.step (fun k => by rw [ref04_Great.l0]) ?_, fun _ => hn⟩
   simp only [mid_lt, nat_ge, ↓reduceIte, rdE, mid_next pre x suf (by omega), hn, wrap_id (n + (x.f2.size : Int)) (by omega) (by omega)]
   rw [← List.append_cons pre x suf] at hr
   exact hr
  ·refine ⟨decide (n > 4000), Ev.step (fun k => by rw [ref04_Great.l0]) ?_, by simp⟩
   simp only [mid_lt, ↓reduceIte, hn]
   exact Ev.now _
theorem ev_ref04_Great (l : List E) (h : l.length < 4611686018427387904) (hs : ∀ x ∈ l, x.f2.size ≤ 140737488351232) : ∃ r, Ev (fun k => ref04_Great.f k l) r ∧ (r = false → l.length ≤ 4000) := by
 obtain ⟨r, hr, hi⟩ := ev_ref04_Great_l0 l [] (l.length : Int) h (by omega) (by omega) hs
 exact ⟨r, hr, fun e => by have := hi e; omega⟩
theorem ev_ref05_Great (s : St) (h : s.f2.length < 4611686018427387904) (hs : ∀ x ∈ s.f2, x.f2.size ≤ 140737488351232) : ∃ r, Ev (fun k => ref05_Great.f k s.f0 s.f1 s.f2) r ∧ (r = false → s.f2.length ≤ 4000) := by
 obtain ⟨r, hr, hi⟩ := ev_ref04_Great s.f2 h hs
 exact ⟨r, Ev.bind hr (Ev.now _), hi⟩
theorem ev_ref06_Great_l0 (suf : List Nm) : ∀ (pre : List Nm), (pre ++ suf).length < 4611686018427387904 → (∀ x ∈ suf, x.f1.f2.length < 4611686018427387904 ∧ ∀ y ∈ x.f1.f2, y.f2.size ≤ 140737488351232) →
  ∃ r, Ev (fun k => ref06_Great.l0 k (pre ++ suf) (pre.length : Int)) r ∧ (r = false → (pre ++ suf).length ≤ 40 ∧ ∀ x ∈ suf, x.f1.f2.length ≤ 4000) := by
 induction suf with
 | nil =>
  intro pre h h2
  refine ⟨decide (((pre ++ ([] : List Nm)).length : Int) > 40), Ev.step (fun k => by rw [ref06_Great.l0]) ?_, fun e => ⟨by have := of_decide_eq_false e; omega, fun x hx => by simp at hx⟩⟩
  simp only [end_ge, ↓reduceIte]
  refine Ev.step (fun k => by rw [ref06_Great.j1]) ?_
  simp only [Bool.false_eq_true, ↓reduceIte]
  exact Ev.now _
 | cons x suf ih =>
  intro pre h h2
  have hx := h2 x (by simp)
  by_cases hn : ((pre.length : Nat) : Int) < 41
  ·obtain ⟨g, hg, hgi⟩ := ev_ref05_Great x.f1 hx.1 hx.2
   cases g with
   | true =>
    refine ⟨true, Ev.step (fun k => by rw [ref06_Great.l0]) ?_, by simp⟩
    simp only [mid_lt, ↓reduceIte, hn, decide_true]
    refine Ev.step (fun k => by rw [ref06_Great.j1]) ?_
    simp only [mid_lt, nat_ge, ↓reduceIte, rdN]
    refine Ev.bind hg ?_
    simp only [↓reduceIte]
    exact Ev.now _
   | false =>
    obtain ⟨r, hr, hi⟩ := ih (pre ++ [x]) (by rw [← List.append_cons]; exact h) (fun y hy => h2 y (by simp [hy]))
    rw [← List.append_cons pre x suf] at hr hi
    refine ⟨r, Ev.step (fun k => by rw [ref06_Great.l0]) ?_, fun e => ⟨(hi e).1, fun y hy => ?_⟩⟩
    ·simp only [mid_lt, ↓reduceIte, hn, decide_true]
     refine Ev.step (fun k => by rw [ref06_Great.j1]) ?_
     simp only [mid_lt, nat_ge, ↓reduceIte, rdN]
     refine Ev.bind hg ?_
     simp only [Bool.false_eq_true, ↓reduceIte, mid_next pre x suf (by omega)]
     exact hr
    ·rcases List.mem_cons.1 hy with rfl | hy
     ·exact hgi rfl
     ·exact (hi e).2 y hy
  ·refine ⟨decide (((pre ++ x :: suf).length : Int) > 40), Ev.step (fun k => by rw [ref06_Great.l0]) ?_, fun e => ?_⟩
   ·simp only [mid_lt, ↓reduceIte, hn, decide_false]
    refine Ev.step (fun k => by rw [ref06_Great.j1]) ?_
    simp only [Bool.false_eq_true, ↓reduceIte]
    exact Ev.now _
   ·have := of_decide_eq_false e
    have h3 : (pre ++ x :: suf).length = pre.length + 1 + suf.length := by simp <;> omega
    omega
theorem ev_ref06_Great (v : List Nm) (h : v.length < 4611686018427387904) (h2 : ∀ x ∈ v, x.f1.f2.length < 4611686018427387904 ∧ ∀ y ∈ x.f1.f2, y.f2.size ≤ 140737488351232) :
  ∃ r, Ev (fun k => ref06_Great.f k v) r ∧ (r = false → SmallV v) := ev_ref06_Great_l0 v [] h h2
/-! ### may it be? -/
section
variable {α : Type} {key : α → Int}
theorem ris_cons2 {y x : α} {l : List α} : Ris key (y :: x :: l) ↔ key y < key x ∧ Ris key (x :: l) := by
 rw [ris_cons]
 constructor
 ·rintro ⟨h1, h2⟩; exact ⟨h1 x (by simp), h2⟩
 ·rintro ⟨h1, h2⟩
  refine ⟨fun z hz => ?_, h2⟩
  rcases List.mem_cons.1 hz with rfl | hz
  ·exact h1
  ·have := ris_head h2 z hz; omega
theorem ris_one (x : α) : Ris key [x] := List.pairwise_singleton _ x
end
theorem may04_is (x : E) : ∃ r, ref04_May.f x.f0 x.f1 x.f2 = some r ∧ (r = true ↔ MayE x) := by
 unfold ref04_May.f MayE
 by_cases h1 : x.f0 ≥ 0
 ·by_cases h2 : x.f0 < 12
  ·by_cases h3 : x.f1 ≥ 1
   ·by_cases h4 : x.f1 ≤ 1099511627776
    ·refine ⟨_, by simp only [h1, h2, h3, h4, ↓reduceIte]; rfl, ?_⟩
     simp; omega
    ·exact ⟨false, by simp only [h1, h2, h3, h4, ↓reduceIte], by simp; omega⟩
   ·exact ⟨false, by simp only [h1, h2, h3, ↓reduceIte], by simp; omega⟩
  ·exact ⟨false, by simp only [h1, h2, ↓reduceIte], by simp; omega⟩
 ·exact ⟨false, by simp only [h1, ↓reduceIte], by simp; omega⟩
theorem pos_mid {α : Type} (p : List α) (y : α) : (((p ++ [y]).length : Nat) : Int) > 0 := by simp <;> omega
theorem prev_ge {α : Type} (p : List α) (y x : α) (s : List α) : ((p.length : Nat) : Int) < (((p ++ [y]) ++ x :: s).length : Int) := by simp <;> omega
theorem rdE1 (p : List E) (y x : E) (s : List E) : rd_T55 ((p ++ [y]) ++ x :: s) ((p.length : Nat) : Int) = y := by rw [← List.append_cons]; exact rdE p y (x :: s)
theorem rdN1 (p : List Nm) (y x : Nm) (s : List Nm) : rd_T35 ((p ++ [y]) ++ x :: s) ((p.length : Nat) : Int) = y := by rw [← List.append_cons]; exact rdN p y (x :: s)
theorem rdD1 (p : List Dg) (y x : Dg) (s : List Dg) : rd_T30 ((p ++ [y]) ++ x :: s) ((p.length : Nat) : Int) = y := by rw [← List.append_cons]; exact rdD p y (x :: s)
theorem ev_ref04_Right_l0 (suf : List E) : ∀ (p : List E) (y : E), ((p ++ [y]) ++ suf).length < 4611686018427387904 →
  ∃ r, Ev (fun k => ref04_Right.l0 k ((p ++ [y]) ++ suf) ((p ++ [y]).length : Int)) r ∧ (r = true ↔ Ris kE (y :: suf) ∧ ∀ x ∈ suf, MayE x) := by
 induction suf with
 | nil =>
  intro p y h
  refine ⟨true, Ev.step (fun k => by rw [ref04_Right.l0]) ?_, by simp [ris_one]⟩
  simp only [end_ge, ↓reduceIte]
  exact Ev.now _
 | cons x suf ih =>
  intro p y h
  obtain ⟨m, hm, hmi⟩ := may04_is x
  cases m with
  | false =>
   refine ⟨false, Ev.step (fun k => by rw [ref04_Right.l0]) ?_, ?_⟩
   ·simp only [mid_lt, nat_ge, ↓reduceIte, rdE, hm, Option.bind_some, Bool.false_eq_true]
    exact Ev.now _
   ·simp only [Bool.false_eq_true, false_iff]
    rintro ⟨_, h2⟩
    exact absurd (hmi.2 (h2 x (by simp))) (by simp)
  | true =>
   by_cases hk : y.f0 ≥ x.f0
   ·refine ⟨false, Ev.step (fun k => by rw [ref04_Right.l0]) ?_, ?_⟩
    ·simp only [mid_lt, nat_ge, ↓reduceIte, rdE, hm, Option.bind_some, pos_mid, mid_prev p y x suf (by omega), prev_ge, rdE1, hk]
     exact Ev.now _
    ·simp only [Bool.false_eq_true, false_iff, ris_cons2]
     rintro ⟨⟨h1, _⟩, _⟩
     unfold kE at h1; omega
   ·obtain ⟨r, hr, hi⟩ := ih (p ++ [y]) x (by rw [← List.append_cons]; exact h)
    refine ⟨r, Ev.step (fun k => by rw [ref04_Right.l0]) ?_, ?_⟩
    ·simp only [mid_lt, nat_ge, ↓reduceIte, rdE, hm, Option.bind_some, pos_mid, mid_prev p y x suf (by omega), prev_ge, rdE1, hk, mid_next (p ++ [y]) x suf (by omega)]
     rw [← List.append_cons (p ++ [y]) x suf] at hr
     exact hr
    ·rw [hi, ris_cons2]
     have := hmi.1 rfl
     constructor
     ·rintro ⟨h1, h2⟩
      exact ⟨⟨by unfold kE; omega, h1⟩, all_cons (this) (fun z hz => h2 z hz)⟩
     ·rintro ⟨⟨_, h1⟩, h2⟩
      exact ⟨h1, fun z hz => h2 z (by simp [hz])⟩
theorem ev_ref04_Right (l : List E) (h : l.length < 4611686018427387904) : ∃ r, Ev (fun k => ref04_Right.f k l) r ∧ (r = true ↔ RightE l) := by
 cases l with
 | nil =>
  refine ⟨true, Ev.step (g := fun k => ref04_Right.l0 k [] 0) (fun k => by rw [ref04_Right.l0]) ?_, by simp [RightE, ris_nil]⟩
  simp only [List.length_nil, Int.natCast_zero, Int.lt_irrefl, ↓reduceIte]
  exact Ev.now _
 | cons x l =>
  obtain ⟨m, hm, hmi⟩ := may04_is x
  have e0 : (0 : Int) < ((x :: l).length : Int) := len_pos x l
  cases m with
  | false =>
   refine ⟨false, Ev.step (g := fun k => ref04_Right.l0 k (x :: l) 0) (fun k => by rw [ref04_Right.l0]) ?_, ?_⟩
   ·simp only [e0, Int.le_refl, ↓reduceIte, rdE0, hm, Option.bind_some, Bool.false_eq_true]
    exact Ev.now _
   ·simp only [Bool.false_eq_true, false_iff]
    rintro ⟨_, h2⟩
    exact absurd (hmi.2 (h2 x (by simp))) (by simp)
  | true =>
   obtain ⟨r, hr, hi⟩ := ev_ref04_Right_l0 l [] x h
   refine ⟨r, Ev.step (g := fun k => ref04_Right.l0 k (x :: l) 0) (fun k => by rw [ref04_Right.l0]) ?_, ?_⟩
   ·simp only [e0, Int.le_refl, ↓reduceIte, rdE0, hm, Option.bind_some, gt_iff_lt, Int.lt_irrefl, wrap01]
    exact hr
   ·rw [hi]
    constructor
    ·rintro ⟨h1, h2⟩
     exact ⟨h1, all_cons (hmi.1 rfl) (fun z hz => h2 z hz)⟩
    ·rintro ⟨h1, h2⟩
     exact ⟨h1, fun z hz => h2 z (by simp [hz])⟩
theorem ev_ref05_Right (s : St) (h : s.f2.length < 4611686018427387904) : ∃ r, Ev (fun k => ref05_Right.f k s.f0 s.f1 s.f2) r ∧ (r = true ↔ RightS s) := by
 unfold ref05_Right.f RightS
 by_cases h1 : s.f0 ≥ 1
 ·by_cases h2 : s.f0 ≤ 1099511627776
  ·by_cases h3 : s.f1 ≥ 0
   ·by_cases h4 : s.f1 ≤ 1099511627776
    ·obtain ⟨r, hr, hi⟩ := ev_ref04_Right s.f2 h
     refine ⟨r, ?_, by rw [hi]; constructor <;> intro hh <;> (try exact ⟨h1, h2, h3, h4, hh⟩); exact hh.2.2.2.2⟩
     simp only [h1, h2, h3, h4, ↓reduceIte]
     exact Ev.bind hr (Ev.now _)
    ·exact ⟨false, by simp only [h1, h2, h3, h4, ↓reduceIte]; exact Ev.now _, by simp; omega⟩
   ·exact ⟨false, by simp only [h1, h2, h3, ↓reduceIte]; exact Ev.now _, by simp; omega⟩
  ·exact ⟨false, by simp only [h1, h2, ↓reduceIte]; exact Ev.now _, by simp; omega⟩
 ·exact ⟨false, by simp only [h1, ↓reduceIte]; exact Ev.now _, by simp; omega⟩
def OkN (x : Nm) : Prop := 0 ≤ x.f0 ∧ x.f0 < 8 ∧ RightS x.f1
theorem ev_ref06_Right_l0 (suf : List Nm) : ∀ (p : List Nm) (y : Nm), ((p ++ [y]) ++ suf).length < 4611686018427387904 → (∀ x ∈ suf, x.f1.f2.length < 4611686018427387904) →
  ∃ r, Ev (fun k => ref06_Right.l0 k ((p ++ [y]) ++ suf) ((p ++ [y]).length : Int)) r ∧ (r = true ↔ Ris kN (y :: suf) ∧ ∀ x ∈ suf, OkN x) := by
 induction suf with
 | nil =>
  intro p y h hs
  refine ⟨true, Ev.step (fun k => by rw [ref06_Right.l0]) ?_, by simp [ris_one]⟩
  simp only [end_ge, ↓reduceIte]
  exact Ev.now _
 | cons x suf ih =>
  intro p y h hs
  have no : ¬ OkN x ∨ y.f0 ≥ x.f0 → (false = true ↔ Ris kN (y :: x :: suf) ∧ ∀ z ∈ x :: suf, OkN z) := by
   intro hh
   simp only [Bool.false_eq_true, false_iff, ris_cons2]
   rintro ⟨⟨h1, _⟩, h2⟩
   rcases hh with hh | hh
   ·exact hh (h2 x (by simp))
   ·unfold kN at h1; omega
  by_cases h1 : x.f0 < 0
  ·refine ⟨false, Ev.step (fun k => by rw [ref06_Right.l0]) ?_, no (.inl (by unfold OkN; omega))⟩
   simp only [mid_lt, nat_ge, ↓reduceIte, rdN, h1]
   exact Ev.now _
  ·by_cases h2 : x.f0 ≥ 8
   ·refine ⟨false, Ev.step (fun k => by rw [ref06_Right.l0]) ?_, no (.inl (by unfold OkN; omega))⟩
    simp only [mid_lt, nat_ge, ↓reduceIte, rdN, h1, h2]
    exact Ev.now _
   ·by_cases hk : y.f0 ≥ x.f0
    ·refine ⟨false, Ev.step (fun k => by rw [ref06_Right.l0]) ?_, no (.inr hk)⟩
     simp only [mid_lt, nat_ge, ↓reduceIte, rdN, h1, h2, pos_mid, mid_prev p y x suf (by omega), prev_ge, rdN1, hk]
     exact Ev.now _
    ·obtain ⟨m, hm, hmi⟩ := ev_ref05_Right x.f1 (hs x (by simp))
     cases m with
     | false =>
      refine ⟨false, Ev.step (fun k => by rw [ref06_Right.l0]) ?_, no (.inl (fun hh => absurd (hmi.2 hh.2.2) (by simp)))⟩
      simp only [mid_lt, nat_ge, ↓reduceIte, rdN, h1, h2, pos_mid, mid_prev p y x suf (by omega), prev_ge, rdN1, hk]
      refine Ev.bind hm ?_
      simp only [Bool.false_eq_true, ↓reduceIte]
      exact Ev.now _
     | true =>
      obtain ⟨r, hr, hi⟩ := ih (p ++ [y]) x (by rw [← List.append_cons]; exact h) (fun z hz => hs z (by simp [hz]))
      refine ⟨r, Ev.step (fun k => by rw [ref06_Right.l0]) ?_, ?_⟩
      ·simp only [mid_lt, nat_ge, ↓reduceIte, rdN, h1, h2, pos_mid, mid_prev p y x suf (by omega), prev_ge, rdN1, hk]
       refine Ev.bind hm ?_
       simp only [↓reduceIte, mid_next (p ++ [y]) x suf (by omega)]
       rw [← List.append_cons (p ++ [y]) x suf] at hr
       exact hr
      ·rw [hi, ris_cons2]
       have := hmi.1 rfl
       constructor
       ·rintro ⟨h3, h4⟩
        exact ⟨⟨by unfold kN; omega, h3⟩, all_cons (⟨by omega, by omega, this⟩) (fun z hz => h4 z hz)⟩
       ·rintro ⟨⟨_, h3⟩, h4⟩
        exact ⟨h3, fun z hz => h4 z (by simp [hz])⟩
theorem ev_ref06_Right (l : List Nm) (h : l.length < 4611686018427387904) (hs : ∀ x ∈ l, x.f1.f2.length < 4611686018427387904) : ∃ r, Ev (fun k => ref06_Right.f k l) r ∧ (r = true ↔ RightV l) := by
 cases l with
 | nil =>
  refine ⟨true, Ev.step (g := fun k => ref06_Right.l0 k [] 0) (fun k => by rw [ref06_Right.l0]) ?_, by simp [RightV, ris_nil]⟩
  simp only [List.length_nil, Int.natCast_zero, Int.lt_irrefl, ↓reduceIte]
  exact Ev.now _
 | cons x l =>
  have e0 : (0 : Int) < ((x :: l).length : Int) := len_pos x l
  have no : ¬ OkN x → (false = true ↔ RightV (x :: l)) := by
   intro hh
   simp only [Bool.false_eq_true, false_iff]
   exact fun h2 => hh (h2.2 x (by simp))
  by_cases h1 : x.f0 < 0
  ·refine ⟨false, Ev.step (g := fun k => ref06_Right.l0 k (x :: l) 0) (fun k => by rw [ref06_Right.l0]) ?_, no (by unfold OkN; omega)⟩
   simp only [e0, Int.le_refl, ↓reduceIte, rdN0, h1]
   exact Ev.now _
  ·by_cases h2 : x.f0 ≥ 8
   ·refine ⟨false, Ev.step (g := fun k => ref06_Right.l0 k (x :: l) 0) (fun k => by rw [ref06_Right.l0]) ?_, no (by unfold OkN; omega)⟩
    simp only [e0, Int.le_refl, ↓reduceIte, rdN0, h1, h2]
    exact Ev.now _
   ·obtain ⟨m, hm, hmi⟩ := ev_ref05_Right x.f1 (hs x (by simp))
    cases m with
    | false =>
     refine ⟨false, Ev.step (g := fun k => ref06_Right.l0 k (x :: l) 0) (fun k => by rw [ref06_Right.l0]) ?_, no (fun hh => absurd (hmi.2 hh.2.2) (by simp))⟩
     simp only [e0, Int.le_refl, ↓reduceIte, rdN0, h1, h2, gt_iff_lt, Int.lt_irrefl]
     refine Ev.bind hm ?_
     simp only [Bool.false_eq_true, ↓reduceIte]
     exact Ev.now _
    | true =>
     obtain ⟨r, hr, hi⟩ := ev_ref06_Right_l0 l [] x h (fun z hz => hs z (by simp [hz]))
     refine ⟨r, Ev.step (g := fun k => ref06_Right.l0 k (x :: l) 0) (fun k => by rw [ref06_Right.l0]) ?_, ?_⟩
     ·simp only [e0, Int.le_refl, ↓reduceIte, rdN0, h1, h2, gt_iff_lt, Int.lt_irrefl]
      refine Ev.bind hm ?_
      simp only [↓reduceIte, wrap01]
      exact hr
     ·rw [hi]
      constructor
      ·rintro ⟨h3, h4⟩
       exact ⟨h3, all_cons (⟨by omega, by omega, hmi.1 rfl⟩) (fun z hz => h4 z hz)⟩
      ·rintro ⟨h3, h4⟩
       exact ⟨h3, fun z hz => h4 z (by simp [hz])⟩
theorem ev_ref07_Right_l0 (suf : List Dg) : ∀ (p : List Dg) (y : Dg), ((p ++ [y]) ++ suf).length < 4611686018427387904 →
  ∃ r, Ev (fun k => ref07_Right.l0 k ((p ++ [y]) ++ suf) ((p ++ [y]).length : Int)) r ∧ (r = true ↔ Ris kD (y :: suf) ∧ ∀ x ∈ suf, OkD x) := by
 induction suf with
 | nil =>
  intro p y h
  refine ⟨true, Ev.step (fun k => by rw [ref07_Right.l0]) ?_, by simp [ris_one]⟩
  simp only [end_ge, ↓reduceIte]
  exact Ev.now _
 | cons x suf ih =>
  intro p y h
  have no : ¬ OkD x ∨ y.f0 ≥ x.f0 → (false = true ↔ Ris kD (y :: x :: suf) ∧ ∀ z ∈ x :: suf, OkD z) := by
   intro hh
   simp only [Bool.false_eq_true, false_iff, ris_cons2]
   rintro ⟨⟨h1, _⟩, h2⟩
   rcases hh with hh | hh
   ·exact hh (h2 x (by simp))
   ·unfold kD at h1; omega
  by_cases h1 : x.f0 < 0
  ·refine ⟨false, Ev.step (fun k => by rw [ref07_Right.l0]) ?_, no (.inl (by unfold OkD; omega))⟩
   simp only [mid_lt, nat_ge, ↓reduceIte, rdD, h1]
   exact Ev.now _
  ·by_cases h2 : x.f0 ≥ 8
   ·refine ⟨false, Ev.step (fun k => by rw [ref07_Right.l0]) ?_, no (.inl (by unfold OkD; omega))⟩
    simp only [mid_lt, nat_ge, ↓reduceIte, rdD, h1, h2]
    exact Ev.now _
   ·by_cases hk : y.f0 ≥ x.f0
    ·refine ⟨false, Ev.step (fun k => by rw [ref07_Right.l0]) ?_, no (.inr hk)⟩
     simp only [mid_lt, nat_ge, ↓reduceIte, rdD, h1, h2, pos_mid, mid_prev p y x suf (by omega), prev_ge, rdD1, hk]
     exact Ev.now _
    ·by_cases hok : OkD x
     ·obtain ⟨r, hr, hi⟩ := ih (p ++ [y]) x (by rw [← List.append_cons]; exact h)
      refine ⟨r, Ev.step (fun k => by rw [ref07_Right.l0]) ?_, ?_⟩
      ·obtain ⟨o1, o2, o3, o4, o5, o6⟩ := hok
       simp only [mid_lt, nat_ge, ↓reduceIte, rdD, h1, h2, pos_mid, mid_prev p y x suf (by omega), prev_ge, rdD1, hk, mid_next (p ++ [y]) x suf (by omega), show ¬ x.f1 < 1 by omega, show ¬ x.f1 > 1099511627776 by omega, show ¬ x.f2 < 0 by omega, show ¬ x.f2 > 1099511627776 by omega]
       rw [← List.append_cons (p ++ [y]) x suf] at hr
       exact hr
      ·rw [hi, ris_cons2]
       constructor
       ·rintro ⟨h3, h4⟩
        exact ⟨⟨by unfold kD; omega, h3⟩, all_cons (hok) (fun z hz => h4 z hz)⟩
       ·rintro ⟨⟨_, h3⟩, h4⟩
        exact ⟨h3, fun z hz => h4 z (by simp [hz])⟩
     ·refine ⟨false, Ev.step (fun k => by rw [ref07_Right.l0]) ?_, no (.inl hok)⟩
      simp only [mid_lt, nat_ge, ↓reduceIte, rdD, h1, h2, pos_mid, mid_prev p y x suf (by omega), prev_ge, rdD1, hk]
      have : x.f1 < 1 ∨ x.f1 > 1099511627776 ∨ x.f2 < 0 ∨ x.f2 > 1099511627776 := by unfold OkD at hok; omega
      by_cases q1 : x.f1 < 1
      ·simp only [q1, ↓reduceIte]; exact Ev.now _
      ·by_cases q2 : x.f1 > 1099511627776
       ·simp only [q1, q2, ↓reduceIte]; exact Ev.now _
       ·by_cases q3 : x.f2 < 0
        ·simp only [q1, q2, q3, ↓reduceIte]; exact Ev.now _
        ·have q4 : x.f2 > 1099511627776 := by omega
         simp only [q1, q2, q3, q4, ↓reduceIte]; exact Ev.now _
theorem ev_ref07_Right (l : List Dg) (h : l.length < 4611686018427387904) : ∃ r, Ev (fun k => ref07_Right.f k l) r ∧ (r = true ↔ RightD l) := by
 cases l with
 | nil =>
  refine ⟨true, Ev.step (g := fun k => ref07_Right.l0 k [] 0) (fun k => by rw [ref07_Right.l0]) ?_, by simp [RightD, ris_nil]⟩
  simp only [List.length_nil, Int.natCast_zero, Int.lt_irrefl, ↓reduceIte]
  exact Ev.now _
 | cons x l =>
  have e0 : (0 : Int) < ((x :: l).length : Int) := len_pos x l
  by_cases hok : OkD x
  ·obtain ⟨r, hr, hi⟩ := ev_ref07_Right_l0 l [] x h
   refine ⟨r, Ev.step (g := fun k => ref07_Right.l0 k (x :: l) 0) (fun k => by rw [ref07_Right.l0]) ?_, ?_⟩
   ·obtain ⟨o1, o2, o3, o4, o5, o6⟩ := hok
    simp only [e0, Int.le_refl, ↓reduceIte, rdD0, gt_iff_lt, Int.lt_irrefl, wrap01, show ¬ x.f0 < 0 by omega, show ¬ x.f0 ≥ 8 by omega, show ¬ x.f1 < 1 by omega, show ¬ 1099511627776 < x.f1 by omega, show ¬ x.f2 < 0 by omega, show ¬ 1099511627776 < x.f2 by omega]
    exact hr
   ·rw [hi]
    constructor
    ·rintro ⟨h3, h4⟩
     exact ⟨h3, all_cons (hok) (fun z hz => h4 z hz)⟩
    ·rintro ⟨h3, h4⟩
     exact ⟨h3, fun z hz => h4 z (by simp [hz])⟩
  ·refine ⟨false, Ev.step (g := fun k => ref07_Right.l0 k (x :: l) 0) (fun k => by rw [ref07_Right.l0]) ?_, ?_⟩
   ·simp only [e0, Int.le_refl, ↓reduceIte, rdD0, gt_iff_lt, Int.lt_irrefl]
    by_cases q5 : x.f0 < 0
    ·simp only [q5, ↓reduceIte]; exact Ev.now _
    ·by_cases q6 : x.f0 ≥ 8
     ·simp only [q5, q6, ↓reduceIte]; exact Ev.now _
     ·by_cases q1 : x.f1 < 1
      ·simp only [q5, q6, q1, ↓reduceIte]; exact Ev.now _
      ·by_cases q2 : 1099511627776 < x.f1
       ·simp only [q5, q6, q1, q2, ↓reduceIte]; exact Ev.now _
       ·by_cases q3 : x.f2 < 0
        ·simp only [q5, q6, q1, q2, q3, ↓reduceIte]; exact Ev.now _
        ·have q4 : 1099511627776 < x.f2 := by unfold OkD at hok; omega
         simp only [q5, q6, q1, q2, q3, q4, ↓reduceIte]; exact Ev.now _
   ·simp only [Bool.false_eq_true, false_iff]
    exact fun h2 => hok (h2.2 x (by simp))
theorem ev_digest_Right_l0 (suf : List Dg) : ∀ (pre : List Dg) (last : Int), (pre ++ suf).length < 4611686018427387904 → -1 ≤ last →
  ∃ r, Ev (fun k => digest_Right.l0 k last (pre ++ suf) ((pre ++ suf).length : Int) (pre.length : Int)) r ∧ (r = true ↔ Ris kD suf ∧ (∀ x ∈ suf, last < x.f0) ∧ ∀ x ∈ suf, OkD x) := by
 induction suf with
 | nil =>
  intro pre last h hl
  refine ⟨true, Ev.step (fun k => by rw [digest_Right.l0]) ?_, by simp [ris_nil]⟩
  simp only [end_ge, ↓reduceIte]
  exact Ev.now _
 | cons x suf ih =>
  intro pre last h hl
  have no : ¬ OkD x ∨ x.f0 ≤ last → (false = true ↔ Ris kD (x :: suf) ∧ (∀ z ∈ x :: suf, last < z.f0) ∧ ∀ z ∈ x :: suf, OkD z) := by
   intro hh
   simp only [Bool.false_eq_true, false_iff]
   rintro ⟨_, h1, h2⟩
   rcases hh with hh | hh
   ·exact hh (h2 x (by simp))
   ·have := h1 x (by simp); omega
  by_cases hk : x.f0 ≤ last
  ·refine ⟨false, Ev.step (fun k => by rw [digest_Right.l0]) ?_, no (.inr hk)⟩
   simp only [mid_lt, nat_ge, ↓reduceIte, rdD, hk]
   exact Ev.now _
  ·by_cases hok : OkD x
   ·obtain ⟨r, hr, hi⟩ := ih (pre ++ [x]) x.f0 (by rw [← List.append_cons]; exact h) (by omega)
    refine ⟨r, Ev.step (fun k => by rw [digest_Right.l0]) ?_, ?_⟩
    ·obtain ⟨o1, o2, o3, o4, o5, o6⟩ := hok
     simp only [mid_lt, nat_ge, ↓reduceIte, rdD, hk, mid_next pre x suf (by omega), show ¬ x.f0 ≥ 8 by omega, show ¬ x.f1 < 1 by omega, show ¬ x.f1 > 1099511627776 by omega, show ¬ x.f2 < 0 by omega, show ¬ x.f2 > 1099511627776 by omega]
     rw [← List.append_cons pre x suf] at hr
     exact hr
    ·rw [hi, ris_cons]
     constructor
     ·rintro ⟨h3, h4, h5⟩
      refine ⟨⟨h4, h3⟩, fun z hz => ?_, fun z hz => ?_⟩
      ·rcases List.mem_cons.1 hz with rfl | hz
       ·omega
       ·have := h4 z hz; omega
      ·rcases List.mem_cons.1 hz with rfl | hz
       ·exact hok
       ·exact h5 z hz
     ·rintro ⟨⟨h3, h4⟩, _, h5⟩
      exact ⟨h4, h3, fun z hz => h5 z (by simp [hz])⟩
   ·refine ⟨false, Ev.step (fun k => by rw [digest_Right.l0]) ?_, no (.inl hok)⟩
    simp only [mid_lt, nat_ge, ↓reduceIte, rdD, hk]
    by_cases q6 : x.f0 ≥ 8
    ·simp only [q6, ↓reduceIte]; exact Ev.now _
    ·by_cases q1 : x.f1 < 1
     ·simp only [q6, q1, ↓reduceIte]; exact Ev.now _
     ·by_cases q2 : x.f1 > 1099511627776
      ·simp only [q6, q1, q2, ↓reduceIte]; exact Ev.now _
      ·by_cases q3 : x.f2 < 0
       ·simp only [q6, q1, q2, q3, ↓reduceIte]; exact Ev.now _
       ·have q4 : x.f2 > 1099511627776 := by unfold OkD at hok; omega
        simp only [q6, q1, q2, q3, q4, ↓reduceIte]; exact Ev.now _
theorem ev_digest_Right (l : List Dg) (h : l.length < 4611686018427387904) : ∃ r, Ev (fun k => digest_Right.f k l) r ∧ (r = true ↔ RightD l) := by
 obtain ⟨r, hr, hi⟩ := ev_digest_Right_l0 l [] (-1) h (by omega)
 refine ⟨r, hr, ?_⟩
 rw [hi]
 constructor
 ·rintro ⟨h1, _, h3⟩; exact ⟨h1, h3⟩
 ·rintro ⟨h1, h3⟩; exact ⟨h1, fun x hx => by have := (h3 x hx).1; omega, h3⟩
end Go.Proofs.Ytcmligagkaimeaa.Pl

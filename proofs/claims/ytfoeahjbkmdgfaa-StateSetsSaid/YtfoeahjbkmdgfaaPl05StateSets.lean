/- StateSets' plain law: any state beats, and has any key set, as the document says: for all states. No condition. -/
import Derived.Test.YtfoeahjbkmdgfaaHw
import Derived.Test.YtfoeahjbkmdgfaaOps
import Derived.Test.YtfoeahjbkmdgfaaP0
import Derived.Test.YtfoeahjbkmdgfaaPApiEntry45
import Derived.Test.YtfoeahjbkmdgfaaPApiEntry48
import Derived.Test.YtfoeahjbkmdgfaaPEntryMay
import Derived.Test.YtfoeahjbkmdgfaaPEntryPut
import Derived.Test.YtfoeahjbkmdgfaaPEntryRight
import Derived.Test.YtfoeahjbkmdgfaaPEntryTop
import Derived.Test.YtfoeahjbkmdgfaaPLaw05Alive
import Derived.Test.YtfoeahjbkmdgfaaPLaw05Great
import Derived.Test.YtfoeahjbkmdgfaaPLaw05StateSets
import Derived.Test.YtfoeahjbkmdgfaaPRef04Great
import Derived.Test.YtfoeahjbkmdgfaaPRef04May
import Derived.Test.YtfoeahjbkmdgfaaPRef04Put
import Derived.Test.YtfoeahjbkmdgfaaPRef04Right
import Derived.Test.YtfoeahjbkmdgfaaPRef04Same
import Derived.Test.YtfoeahjbkmdgfaaPRef04Top
import Derived.Test.YtfoeahjbkmdgfaaPRef05Beat
import Derived.Test.YtfoeahjbkmdgfaaPRef05Copy
import Derived.Test.YtfoeahjbkmdgfaaPRef05Great
import Derived.Test.YtfoeahjbkmdgfaaPRef05Right
import Derived.Test.YtfoeahjbkmdgfaaPRef05Same
import Derived.Test.YtfoeahjbkmdgfaaPRef05Set
import Derived.Test.YtfoeahjbkmdgfaaPRef05Top
import Derived.Test.YtfoeahjbkmdgfaaPStateBeat
import Derived.Test.YtfoeahjbkmdgfaaPStateCopy
import Derived.Test.YtfoeahjbkmdgfaaPStateNext
import Derived.Test.YtfoeahjbkmdgfaaPStateRight
import Derived.Test.YtfoeahjbkmdgfaaPStateSet
import Derived.Test.YtfoeahjbkmdgfaaPStateTop
namespace Go.Proofs.Ytfoeahjbkmdgfaa.Pl
open Go.RowKit Go.Proofs.Ytfoeahjbkmdgfaa.P Go.Proofs.YtfoeahjbkmdgfaaW.PrintWords Go.Proofs.YtfoeahjbkmdgfaaW.PrintLast Go.Proofs.YtfoeahjbkmdgfaaW.PrintMore
set_option linter.unusedSimpArgs false
set_option linter.unusedVariables false
abbrev E := S40
theorem wrap_id (x : Int) (h0 : -9223372036854775808 ≤ x) (h1 : x ≤ 9223372036854775807) : wrap64 x = x := by unfold wrap64; omega
theorem wrap_nat (n : Nat) (h : n < 9223372036854775807) : wrap64 ((n : Int) + 1) = ((n + 1 : Nat) : Int) := by unfold wrap64; omega
theorem getD_mid {α : Type} (z : α) (pre : List α) (x : α) (suf : List α) : (pre ++ x :: suf).getD ((pre.length : Nat) : Int).toNat z = x := by
 simp [List.getD_eq_getElem?_getD]
theorem rdE (pre : List E) (x : E) (suf : List E) : rd_T40 (pre ++ x :: suf) ((pre.length : Nat) : Int) = x := getD_mid _ pre x suf
theorem rdE0 (x : E) (suf : List E) : rd_T40 (x :: suf) 0 = x := rfl
theorem mid_lt {α : Type} (pre : List α) (x : α) (suf : List α) : ((pre.length : Nat) : Int) < ((pre ++ x :: suf).length : Int) := by simp <;> omega
theorem end_ge {α : Type} (pre : List α) : ¬ ((pre.length : Nat) : Int) < ((pre ++ ([] : List α)).length : Int) := by simp
theorem nat_ge {α : Type} (pre : List α) : (0 : Int) ≤ ((pre.length : Nat) : Int) := Int.natCast_nonneg _
theorem mid_next {α : Type} (pre : List α) (x : α) (suf : List α) (h : (pre ++ x :: suf).length < 9223372036854775807) : wrap64 (((pre.length : Nat) : Int) + 1) = (((pre ++ [x]).length : Nat) : Int) := by
 rw [wrap_nat _ (by simp at h; omega), List.length_append]; rfl
theorem mid_prev {α : Type} (pre : List α) (y x : α) (suf : List α) (h : ((pre ++ [y]) ++ x :: suf).length < 9223372036854775807) : wrap64 ((((pre ++ [y]).length : Nat) : Int) - 1) = ((pre.length : Nat) : Int) := by
 rw [wrap_id _ (by omega) (by have := h; simp only [List.length_append, List.length_cons, List.length_nil] at *; omega), List.length_append, List.length_singleton]; omega
theorem Ev.cast {α : Type} {g : Nat → Option α} {r r' : α} (h : Ev g r) (e : r = r') : Ev g r' := e ▸ h
section
variable {α : Type} (key : α → Int)
def Ris (l : List α) : Prop := l.Pairwise (fun a b => key a < key b)
variable {key}
theorem ris_nil : Ris key [] := List.Pairwise.nil
theorem ris_cons {x : α} {l : List α} : Ris key (x :: l) ↔ (∀ y ∈ l, key x < key y) ∧ Ris key l := List.pairwise_cons
theorem ris_tail {x : α} {l : List α} (h : Ris key (x :: l)) : Ris key l := (ris_cons.1 h).2
theorem ris_head {x : α} {l : List α} (h : Ris key (x :: l)) : ∀ y ∈ l, key x < key y := (ris_cons.1 h).1
/-- A rising list whose keys are from 0 to below n has at most n elements. -/
theorem ris_length (n : Nat) : ∀ (l : List α) (m : Nat), Ris key l → (∀ x ∈ l, (m : Int) ≤ key x ∧ key x < (m : Int) + n) → l.length ≤ n := by
 induction n with
 | zero =>
  intro l m _ h
  match l with
  | [] => exact Nat.le_refl _
  | x :: l => have := h x (by simp); omega
 | succ n ih =>
  intro l m hr h
  match l with
  | [] => simp
  | x :: l =>
   have h1 := ih l (m + 1) (ris_tail hr) (fun y hy => by
    have h2 := h y (by simp [hy]); have h3 := ris_head hr y hy; have h4 := h x (by simp); omega)
   simp; omega
end
def MayE (x : E) : Prop := 0 ≤ x.f0 ∧ x.f0 < 12 ∧ 1 ≤ x.f1 ∧ x.f1 ≤ 1099511627776 ∧ x.f2.size ≤ 200
def kE (x : E) : Int := x.f0
def RightE (l : List E) : Prop := Ris kE l ∧ ∀ x ∈ l, MayE x
def TopE (l : List E) : Int := l.foldl (fun t x => mx t x.f1) 0
theorem mx_le {a b c : Int} (h1 : a ≤ c) (h2 : b ≤ c) : mx a b ≤ c := by unfold mx; split <;> omega
theorem le_mx_l (a b : Int) : a ≤ mx a b := by unfold mx; split <;> omega
theorem le_mx_r (a b : Int) : b ≤ mx a b := by unfold mx; split <;> omega
theorem mx_or (a b : Int) : mx a b = a ∨ mx a b = b := by unfold mx; split <;> simp
theorem topF (l : List E) : ∀ t : Int, t ≤ l.foldl (fun t x => mx t x.f1) t ∧ (∀ x ∈ l, x.f1 ≤ l.foldl (fun t x => mx t x.f1) t) ∧ (l.foldl (fun t x => mx t x.f1) t = t ∨ ∃ x ∈ l, l.foldl (fun t x => mx t x.f1) t = x.f1) := by
 induction l with
 | nil => intro t; simp
 | cons x l ih =>
  intro t
  obtain ⟨h1, h2, h3⟩ := ih (mx t x.f1)
  simp only [List.foldl_cons]
  refine ⟨Int.le_trans (le_mx_l _ _) h1, fun y hy => ?_, ?_⟩
  ·rcases List.mem_cons.1 hy with rfl | hy
   ·exact Int.le_trans (le_mx_r _ _) h1
   ·exact h2 y hy
  ·rcases h3 with h3 | ⟨y, hy, h3⟩
   ·rcases mx_or t x.f1 with h4 | h4
    ·exact .inl (h3.trans h4)
    ·exact .inr ⟨x, by simp, h3.trans h4⟩
   ·exact .inr ⟨y, by simp [hy], h3⟩
theorem topE_nonneg (l : List E) : 0 ≤ TopE l := (topF l 0).1
theorem topE_is (l : List E) : TopE l = 0 ∨ ∃ x ∈ l, TopE l = x.f1 := (topF l 0).2.2
theorem topE_le {l : List E} {n : Int} (h0 : 0 ≤ n) (h : ∀ x ∈ l, x.f1 ≤ n) : TopE l ≤ n := by
 rcases topE_is l with e | ⟨x, hx, e⟩
 ·omega
 ·rw [e]; exact h x hx
open Go.RowKit Go.Proofs.Ytfoeahjbkmdgfaa.P Go.Proofs.YtfoeahjbkmdgfaaW.PrintWords Go.Proofs.YtfoeahjbkmdgfaaW.PrintLast Go.Proofs.YtfoeahjbkmdgfaaW.PrintMore Go.Proofs.YtfoeahjbkmdgfaaW.Hw
theorem ev_entry_Top_l0 (suf : List E) : ∀ (pre : List E) (t : Int), (pre ++ suf).length < 4611686018427387904 →
  Ev (fun k => entry_Top.l0 k t (pre ++ suf) ((pre ++ suf).length : Int) (pre.length : Int)) (suf.foldl (fun t x => mx t x.f1) t) := by
 induction suf with
 | nil =>
  intro pre t h
  refine Ev.step (fun k => by rw [entry_Top.l0]) ?_
  simp only [end_ge, ↓reduceIte]
  exact Ev.now _
 | cons x suf ih =>
  intro pre t h
  refine Ev.step (fun k => by rw [entry_Top.l0]) ?_
  simp only [mid_lt, nat_ge, ↓reduceIte, rdE, mid_next pre x suf (by omega)]
  have := ih (pre ++ [x]) (mx t x.f1) (by rw [← List.append_cons]; exact h)
  rw [← List.append_cons pre x suf] at this
  exact this
theorem ev_entry_Top (l : List E) (h : l.length < 4611686018427387904) : Ev (fun k => entry_Top.f k l) (TopE l) := ev_entry_Top_l0 l [] 0 h
theorem wrap01 : wrap64 (0 + 1) = 1 := wrap_id 1 (by omega) (by omega)
theorem all_cons {α : Type} {Q : α → Prop} {x : α} {l : List α} (hx : Q x) (hl : ∀ z, z ∈ l → Q z) : ∀ z, z ∈ x :: l → Q z := fun z hz => by
 rcases List.mem_cons.1 hz with rfl | hz
 ·exact hx
 ·exact hl z hz
theorem ev_ref04_Great_l0 (suf : List E) : ∀ (pre : List E) (n : Int), (pre ++ suf).length < 4611686018427387904 → 0 ≤ n → n ≤ 4611686018427387904 → (∀ x ∈ suf, x.f2.size ≤ 140737488351232) →
  ∃ r, Ev (fun k => ref04_Great.l0 k (pre ++ suf) n (pre.length : Int)) r ∧ (r = false → n ≤ 4000) := by
 induction suf with
 | nil =>
  intro pre n h h0 h1 h2
  refine ⟨decide (n > 4000), Ev.step (fun k => by rw [ref04_Great.l0]) ?_, by simp⟩
  simp only [end_ge, ↓reduceIte]
  exact Ev.now _
 | cons x suf ih =>
  intro pre n h h0 h1 h2
  by_cases hn : n ≤ 4000
  ·have hx := h2 x (by simp)
   obtain ⟨r, hr, hi⟩ := ih (pre ++ [x]) (n + (x.f2.size : Int)) (by rw [← List.append_cons]; exact h) (by omega) (by omega) (fun y hy => h2 y (by simp [hy]))
   refine ⟨r, Ev.step (fun k => by rw [ref04_Great.l0]) ?_, fun _ => hn⟩
   simp only [mid_lt, nat_ge, ↓reduceIte, rdE, mid_next pre x suf (by omega), hn, wrap_id (n + (x.f2.size : Int)) (by omega) (by omega)]
   rw [← List.append_cons pre x suf] at hr
   exact hr
  ·refine ⟨decide (n > 4000), Ev.step (fun k => by rw [ref04_Great.l0]) ?_, by simp⟩
   simp only [mid_lt, ↓reduceIte, hn]
   exact Ev.now _
theorem ev_ref04_Great (l : List E) (h : l.length < 4611686018427387904) (hs : ∀ x ∈ l, x.f2.size ≤ 140737488351232) : ∃ r, Ev (fun k => ref04_Great.f k l) r ∧ (r = false → l.length ≤ 4000) := by
 obtain ⟨r, hr, hi⟩ := ev_ref04_Great_l0 l [] (l.length : Int) h (by omega) (by omega) hs
 exact ⟨r, hr, fun e => by have := hi e; omega⟩
section
variable {α : Type} {key : α → Int}
theorem ris_cons2 {y x : α} {l : List α} : Ris key (y :: x :: l) ↔ key y < key x ∧ Ris key (x :: l) := by
 rw [ris_cons]
 constructor
 ·rintro ⟨h1, h2⟩; exact ⟨h1 x (by simp), h2⟩
 ·rintro ⟨h1, h2⟩
  refine ⟨fun z hz => ?_, h2⟩
  rcases List.mem_cons.1 hz with rfl | hz
  ·exact h1
  ·have := ris_head h2 z hz; omega
theorem ris_one (x : α) : Ris key [x] := List.pairwise_singleton _ x
end
theorem len_pos {α : Type} (x : α) (l : List α) : (0 : Int) < ((x :: l).length : Int) := by simp <;> omega
theorem may04_is (x : E) : ∃ r, ref04_May.f x.f0 x.f1 x.f2 = some r ∧ (r = true ↔ MayE x) := by
 unfold ref04_May.f MayE
 by_cases h1 : x.f0 ≥ 0
 ·by_cases h2 : x.f0 < 12
  ·by_cases h3 : x.f1 ≥ 1
   ·by_cases h4 : x.f1 ≤ 1099511627776
    ·refine ⟨_, by simp only [h1, h2, h3, h4, ↓reduceIte]; rfl, ?_⟩
     simp; omega
    ·exact ⟨false, by simp only [h1, h2, h3, h4, ↓reduceIte], by simp; omega⟩
   ·exact ⟨false, by simp only [h1, h2, h3, ↓reduceIte], by simp; omega⟩
  ·exact ⟨false, by simp only [h1, h2, ↓reduceIte], by simp; omega⟩
 ·exact ⟨false, by simp only [h1, ↓reduceIte], by simp; omega⟩
theorem pos_mid {α : Type} (p : List α) (y : α) : (((p ++ [y]).length : Nat) : Int) > 0 := by simp <;> omega
theorem prev_ge {α : Type} (p : List α) (y x : α) (s : List α) : ((p.length : Nat) : Int) < (((p ++ [y]) ++ x :: s).length : Int) := by simp <;> omega
theorem rdE1 (p : List E) (y x : E) (s : List E) : rd_T40 ((p ++ [y]) ++ x :: s) ((p.length : Nat) : Int) = y := by rw [← List.append_cons]; exact rdE p y (x :: s)
theorem ev_ref04_Right_l0 (suf : List E) : ∀ (p : List E) (y : E), ((p ++ [y]) ++ suf).length < 4611686018427387904 →
  ∃ r, Ev (fun k => ref04_Right.l0 k ((p ++ [y]) ++ suf) ((p ++ [y]).length : Int)) r ∧ (r = true ↔ Ris kE (y :: suf) ∧ ∀ x ∈ suf, MayE x) := by
 induction suf with
 | nil =>
  intro p y h
  refine ⟨true, Ev.step (fun k => by rw [ref04_Right.l0]) ?_, by simp [ris_one]⟩
  simp only [end_ge, ↓reduceIte]
  exact Ev.now _
 | cons x suf ih =>
  intro p y h
  obtain ⟨m, hm, hmi⟩ := may04_is x
  cases m with
  | false =>
   refine ⟨false, Ev.step (fun k => by rw [ref04_Right.l0]) ?_, ?_⟩
   ·simp only [mid_lt, nat_ge, ↓reduceIte, rdE, hm, Option.bind_some, Bool.false_eq_true]
    exact Ev.now _
   ·simp only [Bool.false_eq_true, false_iff]
    rintro ⟨_, h2⟩
    exact absurd (hmi.2 (h2 x (by simp))) (by simp)
  | true =>
   by_cases hk : y.f0 ≥ x.f0
   ·refine ⟨false, Ev.step (fun k => by rw [ref04_Right.l0]) ?_, ?_⟩
    ·simp only [mid_lt, nat_ge, ↓reduceIte, rdE, hm, Option.bind_some, pos_mid, mid_prev p y x suf (by omega), prev_ge, rdE1, hk]
     exact Ev.now _
    ·simp only [Bool.false_eq_true, false_iff, ris_cons2]
     rintro ⟨⟨h1, _⟩, _⟩
     unfold kE at h1; omega
   ·obtain ⟨r, hr, hi⟩ := ih (p ++ [y]) x (by rw [← List.append_cons]; exact h)
    refine ⟨r, Ev.step (fun k => by rw [ref04_Right.l0]) ?_, ?_⟩
    ·simp only [mid_lt, nat_ge, ↓reduceIte, rdE, hm, Option.bind_some, pos_mid, mid_prev p y x suf (by omega), prev_ge, rdE1, hk, mid_next (p ++ [y]) x suf (by omega)]
     rw [← List.append_cons (p ++ [y]) x suf] at hr
     exact hr
    ·rw [hi, ris_cons2]
     have := hmi.1 rfl
     constructor
     ·rintro ⟨h1, h2⟩
      exact ⟨⟨by unfold kE; omega, h1⟩, all_cons (this) (fun z hz => h2 z hz)⟩
     ·rintro ⟨⟨_, h1⟩, h2⟩
      exact ⟨h1, fun z hz => h2 z (by simp [hz])⟩
theorem ev_ref04_Right (l : List E) (h : l.length < 4611686018427387904) : ∃ r, Ev (fun k => ref04_Right.f k l) r ∧ (r = true ↔ RightE l) := by
 cases l with
 | nil =>
  refine ⟨true, Ev.step (g := fun k => ref04_Right.l0 k [] 0) (fun k => by rw [ref04_Right.l0]) ?_, by simp [RightE, ris_nil]⟩
  simp only [List.length_nil, Int.natCast_zero, Int.lt_irrefl, ↓reduceIte]
  exact Ev.now _
 | cons x l =>
  obtain ⟨m, hm, hmi⟩ := may04_is x
  have e0 : (0 : Int) < ((x :: l).length : Int) := len_pos x l
  cases m with
  | false =>
   refine ⟨false, Ev.step (g := fun k => ref04_Right.l0 k (x :: l) 0) (fun k => by rw [ref04_Right.l0]) ?_, ?_⟩
   ·simp only [e0, Int.le_refl, ↓reduceIte, rdE0, hm, Option.bind_some, Bool.false_eq_true]
    exact Ev.now _
   ·simp only [Bool.false_eq_true, false_iff]
    rintro ⟨_, h2⟩
    exact absurd (hmi.2 (h2 x (by simp))) (by simp)
  | true =>
   obtain ⟨r, hr, hi⟩ := ev_ref04_Right_l0 l [] x h
   refine ⟨r, Ev.step (g := fun k => ref04_Right.l0 k (x :: l) 0) (fun k => by rw [ref04_Right.l0]) ?_, ?_⟩
   ·simp only [e0, Int.le_refl, ↓reduceIte, rdE0, hm, Option.bind_some, gt_iff_lt, Int.lt_irrefl, wrap01]
    exact hr
   ·rw [hi]
    constructor
    ·rintro ⟨h1, h2⟩
     exact ⟨h1, all_cons (hmi.1 rfl) (fun z hz => h2 z hz)⟩
    ·rintro ⟨h1, h2⟩
     exact ⟨h1, fun z hz => h2 z (by simp [hz])⟩
theorem may_is (x : E) : ∃ r, entry_May.f x.f0 x.f1 x.f2 = some r ∧ (r = true ↔ MayE x) := may04_is x
theorem ev_entry_Right_l0 (suf : List E) : ∀ (pre : List E) (last : Int), (pre ++ suf).length < 4611686018427387904 →
  ∃ r, Ev (fun k => entry_Right.l0 k last (pre ++ suf) ((pre ++ suf).length : Int) (pre.length : Int)) r ∧ (r = true ↔ (∀ x ∈ suf, last < x.f0 ∧ MayE x) ∧ Ris kE suf) := by
 induction suf with
 | nil =>
  intro pre last h
  refine ⟨true, Ev.step (fun k => by rw [entry_Right.l0]) ?_, by simp [Ris]⟩
  simp only [end_ge, ↓reduceIte]
  exact Ev.now _
 | cons x suf ih =>
  intro pre last h
  by_cases hle : x.f0 ≤ last
  ·refine ⟨false, Ev.step (fun k => by rw [entry_Right.l0]) ?_, ?_⟩
   ·simp only [mid_lt, nat_ge, ↓reduceIte, rdE, hle]
    exact Ev.now _
   ·simp only [Bool.false_eq_true, false_iff]
    rintro ⟨h1, _⟩
    have := (h1 x (by simp)).1
    omega
  ·obtain ⟨m, hm, hm2⟩ := may_is x
   cases m with
   | false =>
    refine ⟨false, Ev.step (fun k => by rw [entry_Right.l0]) ?_, ?_⟩
    ·simp only [mid_lt, nat_ge, ↓reduceIte, rdE, hle, hm, Option.bind_some, Bool.false_eq_true]
     exact Ev.now _
    ·simp only [Bool.false_eq_true, false_iff]
     rintro ⟨h1, _⟩
     have := hm2.2 (h1 x (by simp)).2
     simp at this
   | true =>
    obtain ⟨r, h1, h2⟩ := ih (pre ++ [x]) x.f0 (by rw [← List.append_cons]; exact h)
    refine ⟨r, Ev.step (fun k => by rw [entry_Right.l0]) ?_, ?_⟩
    ·simp only [mid_lt, nat_ge, ↓reduceIte, rdE, hle, hm, Option.bind_some, mid_next pre x suf (by omega)]
     rw [← List.append_cons pre x suf] at h1
     exact h1
    ·rw [h2]
     constructor
     ·rintro ⟨a, b⟩
      refine ⟨fun y hy => ?_, ris_cons.2 ⟨fun y hy => (a y hy).1, b⟩⟩
      rcases List.mem_cons.1 hy with rfl | hy
      ·exact ⟨by omega, hm2.1 rfl⟩
      ·exact ⟨by have := (a y hy).1; omega, (a y hy).2⟩
     ·rintro ⟨a, b⟩
      exact ⟨fun y hy => ⟨ris_head b y hy, (a y (by simp [hy])).2⟩, ris_tail b⟩
theorem ev_entry_Right (l : List E) (h : l.length < 4611686018427387904) : ∃ r, Ev (fun k => entry_Right.f k l) r ∧ (r = true ↔ RightE l) := by
 obtain ⟨r, h1, h2⟩ := ev_entry_Right_l0 l [] (-1) h
 refine ⟨r, h1, ?_⟩
 rw [h2]
 constructor
 ·rintro ⟨a, b⟩
  exact ⟨b, fun x hx => (a x hx).2⟩
 ·rintro ⟨b, a⟩
  exact ⟨fun x hx => ⟨by have := (a x hx).1; omega, a x hx⟩, b⟩
theorem ne_is (x y : E) : (!(x.f0 == y.f0) || (!(x.f1 == y.f1) || (!(x.f2.toList == y.f2.toList)))) = true ↔ x ≠ y := by
 obtain ⟨a0, a1, a2⟩ := x
 obtain ⟨b0, b1, b2⟩ := y
 simp only [Bool.or_eq_true, Bool.not_eq_true', beq_eq_false_iff_ne]
 constructor
 ·rintro h e
  cases e
  simp at h
 ·intro h
  by_cases h0 : a0 = b0
  ·by_cases h1 : a1 = b1
   ·right; right
    intro e
    exact h (by rw [h0, h1, ba_ext e])
   ·exact .inr (.inl h1)
  ·exact .inl h0
theorem ev_ref04_Same_l0 (sa : List E) : ∀ (sb pa pb : List E), pa.length = pb.length → sa.length = sb.length → (pa ++ sa).length < 4611686018427387904 →
  ∃ r, Ev (fun k => ref04_Same.l0 k (pa ++ sa) (pb ++ sb) (pa.length : Int)) r ∧ (r = true ↔ sa = sb) := by
 induction sa with
 | nil =>
  intro sb pa pb hp hs h
  have : sb = [] := List.eq_nil_of_length_eq_zero (by simpa using hs.symm)
  subst this
  refine ⟨true, Ev.step (fun k => by rw [ref04_Same.l0]) ?_, by simp⟩
  simp only [end_ge, ↓reduceIte]
  exact Ev.now _
 | cons x sa ih =>
  intro sb pa pb hp hs h
  match sb, hs with
  | y :: sb, hs =>
   have r2 : rd_T40 (pb ++ y :: sb) (pa.length : Int) = y := by rw [hp]; exact rdE pb y sb
   have l2 : (pa.length : Int) < ((pb ++ y :: sb).length : Int) := by rw [hp]; exact mid_lt pb y sb
   by_cases hxy : x = y
   ·subst hxy
    obtain ⟨r, h1, h2⟩ := ih sb (pa ++ [x]) (pb ++ [x]) (by simp [hp]) (by simpa using hs) (by rw [← List.append_cons]; exact h)
    refine ⟨r, Ev.step (fun k => by rw [ref04_Same.l0]) ?_, ?_⟩
    ·have hn : ¬ ((!(x.f0 == x.f0) || (!(x.f1 == x.f1) || (!(x.f2.toList == x.f2.toList)))) = true) := fun e => (ne_is x x).1 e rfl
     simp only [mid_lt, l2, nat_ge, ↓reduceIte, rdE, r2, hn, mid_next pa x sa (by omega)]
     rw [← List.append_cons pa x sa, ← List.append_cons pb x sb] at h1
     exact h1
    ·rw [h2]; simp
   ·refine ⟨false, Ev.step (fun k => by rw [ref04_Same.l0]) ?_, ?_⟩
    ·have hn := (ne_is x y).2 hxy
     simp only [mid_lt, l2, nat_ge, ↓reduceIte, rdE, r2, hn]
     exact Ev.now _
    ·simp [hxy]
theorem ev_ref04_Same (a b : List E) (h : a.length < 4611686018427387904) : ∃ r, Ev (fun k => ref04_Same.f k a b) r ∧ (r = true ↔ a = b) := by
 unfold ref04_Same.f
 by_cases hl : (a.length : Int) = (b.length : Int)
 ·obtain ⟨r, h1, h2⟩ := ev_ref04_Same_l0 a b [] [] rfl (by omega) (by simpa using h)
  refine ⟨r, ?_, h2⟩
  simp only [hl, ↓reduceIte]
  exact h1
 ·refine ⟨false, ?_, ?_⟩
  ·simp only [hl, ↓reduceIte]
   exact Ev.now _
  ·simp only [Bool.false_eq_true, false_iff]
   intro e
   exact hl (by rw [e])
/-- Is y above x? -/
def Gt (y x : E) : Prop := y.f1 > x.f1 ∨ (y.f1 = x.f1 ∧ Op.bytesLess x.f2.toList y.f2.toList = true)
instance (y x : E) : Decidable (Gt y x) := by unfold Gt; infer_instance
def hi (x y : E) : E := if Gt y x then y else x
theorem right_len {a : List E} (h : RightE a) : a.length ≤ 12 := ris_length 12 a 0 h.1 (fun x hx => by have := h.2 x hx; unfold MayE at this; unfold kE; omega)
section
variable {α : Type} (key : α → Int)
/-- An element in its place of a rising list. -/
def putL (l : List α) (x : α) : List α := l.filter (fun y => decide (key y < key x)) ++ [x] ++ l.filter (fun y => decide (key x < key y))
theorem split_at {l : List α} (p : α → Bool) (z : α) {i : Nat} (hi : i ≤ l.length) (h1 : ∀ j, j < i → p (l.getD j z) = true) (h2 : ∀ j, i ≤ j → j < l.length → p (l.getD j z) = false) : l.filter p = l.take i ∧ l.filter (fun y => !p y) = l.drop i := by
 have e1 : ∀ y ∈ l.take i, p y = true := fun y hy => by
  obtain ⟨j, hj, rfl⟩ := List.getElem_of_mem hy
  rw [List.length_take] at hj
  have := h1 j (by omega)
  rw [List.getD_eq_getElem?_getD, List.getElem?_eq_getElem (by omega)] at this
  rw [List.getElem_take]
  exact this
 have e2 : ∀ y ∈ l.drop i, p y = false := fun y hy => by
  obtain ⟨j, hj, rfl⟩ := List.getElem_of_mem hy
  rw [List.length_drop] at hj
  have := h2 (i + j) (by omega) (by omega)
  rw [List.getD_eq_getElem?_getD, List.getElem?_eq_getElem (by omega)] at this
  rw [List.getElem_drop]
  exact this
 constructor
 ·conv => lhs; rw [← List.take_append_drop i l, List.filter_append]
  rw [List.filter_eq_self.2 e1, List.filter_eq_nil_iff.2 (fun y hy => by simp [e2 y hy]), List.append_nil]
 ·conv => lhs; rw [← List.take_append_drop i l, List.filter_append]
  rw [List.filter_eq_nil_iff.2 (fun y hy => by simp [e1 y hy]), List.filter_eq_self.2 (fun y hy => by simp [e2 y hy]), List.nil_append]
theorem put_at {l : List α} (x z : α) (hr : Ris key l) {i : Nat} (hi : i ≤ l.length) (h1 : ∀ j, j < i → key (l.getD j z) < key x) (h2 : ∀ j, i ≤ j → j < l.length → ¬ key (l.getD j z) < key x) :
  (i < l.length → key (l.getD i z) = key x → l.set i x = putL key l x) ∧ ((i < l.length → key (l.getD i z) ≠ key x) → l.take i ++ [x] ++ l.drop i = putL key l x) := by
 obtain ⟨a, b⟩ := split_at (fun y => decide (key y < key x)) z hi (fun j hj => decide_eq_true (h1 j hj)) (fun j hj hn => decide_eq_false (h2 j hj hn))
 unfold putL
 rw [a]
 constructor
 ·intro hl he
  rw [List.getD_eq_getElem?_getD, List.getElem?_eq_getElem hl] at he
  have he : key l[i] = key x := he
  rw [List.set_eq_take_append_cons_drop, if_pos hl, List.append_assoc, List.singleton_append]
  congr 2
  have hsplit : l = l.take (i + 1) ++ l.drop (i + 1) := (List.take_append_drop _ _).symm
  have hp := hr
  unfold Ris at hp
  rw [hsplit, List.take_succ_eq_append_getElem hl, List.pairwise_append] at hp
  obtain ⟨_, hd, hx⟩ := hp
  conv => rhs; rw [hsplit, List.take_succ_eq_append_getElem hl, List.filter_append, List.filter_append]
  rw [List.filter_eq_nil_iff.2 (fun y hy => ?_), List.filter_eq_nil_iff.2 (fun y hy => ?_), List.filter_eq_self.2 (fun y hy => ?_)]
  ·rfl
  ·have := hx l[i] (List.mem_append_right _ (List.mem_singleton_self _)) y hy
   exact decide_eq_true (by omega)
  ·simp only [List.mem_singleton] at hy
   subst hy
   simp [he]
  ·have hm : y ∈ l.filter (fun y => decide (key y < key x)) := by rw [a]; exact hy
   have := (List.mem_filter.1 hm).2
   simp only [decide_eq_true_eq] at this ⊢
   omega
 ·intro hne
  congr 1
  rw [← b]
  refine List.filter_congr (fun y hy => ?_)
  have : key y ≠ key x := by
   intro he
   obtain ⟨j, hj, rfl⟩ := List.getElem_of_mem hy
   have hij : i ≤ j := by
    rcases Nat.lt_or_ge j i with h | h
    ·have := h1 j h
     rw [List.getD_eq_getElem?_getD, List.getElem?_eq_getElem hj] at this
     have this : key l[j] < key x := this
     omega
    ·exact h
   have hil : i < l.length := by omega
   have h3 := hne hil
   have h4 := h2 i (Nat.le_refl _) hil
   rw [List.getD_eq_getElem?_getD, List.getElem?_eq_getElem hil] at h3 h4
   have h3 : key l[i] ≠ key x := h3
   have h4 : ¬ key l[i] < key x := h4
   rcases Nat.eq_or_lt_of_le hij with h | h
   ·subst h; exact h3 he
   ·have := (List.pairwise_iff_getElem.1 hr) i j hil hj h
    omega
  have hd : (key y < key x) ∨ (key x < key y) := by omega
  rcases hd with h | h
  ·simp [h]; omega
  ·simp [h]; omega
theorem ris_put {l : List α} (x : α) (hr : Ris key l) : Ris key (putL key l x) := by
 unfold putL Ris
 refine List.pairwise_append.2 ⟨List.pairwise_append.2 ⟨List.Pairwise.filter _ hr, List.pairwise_singleton _ _, fun a ha b hb => ?_⟩, List.Pairwise.filter _ hr, fun a ha b hb => ?_⟩
 ·simp only [List.mem_filter, List.mem_singleton, decide_eq_true_eq] at ha hb
  subst hb
  exact ha.2
 ·simp only [List.mem_append, List.mem_filter, List.mem_singleton, decide_eq_true_eq] at ha hb
  rcases ha with ha | ha
  ·omega
  ·subst ha; exact hb.2
theorem mem_put {l : List α} {x y : α} (h : y ∈ putL key l x) : y = x ∨ y ∈ l := by
 unfold putL at h
 simp only [List.mem_append, List.mem_filter, List.mem_singleton] at h
 rcases h with (h | h) | h
 ·exact Or.inr h.1
 ·exact Or.inl h
 ·exact Or.inr h.1
end
theorem halve_is (less : Nat → Bool) (n : Nat) (hm : ∀ i j, i ≤ j → j < n → less j = true → less i = true) : ∀ (f lo hi : Nat), hi - lo ≤ f → lo ≤ hi → hi ≤ n → (∀ j, j < lo → less j = true) → (∀ j, hi ≤ j → j < n → less j = false) →
  halveE less f lo hi ≤ n ∧ (∀ j, j < halveE less f lo hi → less j = true) ∧ (∀ j, halveE less f lo hi ≤ j → j < n → less j = false) := by
 intro f
 induction f with
 | zero =>
  intro lo hi h1 h2 h3 h4 h5
  have : lo = hi := by omega
  subst this
  exact ⟨h3, h4, h5⟩
 | succ f ih =>
  intro lo hi h1 h2 h3 h4 h5
  unfold halveE
  split
  ·split
   ·rename_i hl
    refine ih _ _ (by omega) (by omega) h3 (fun j hj => ?_) h5
    exact hm j _ (by omega) (by omega) hl
   ·rename_i hl
    refine ih _ _ (by omega) (by omega) (by omega) h4 (fun j hj hjn => ?_)
    cases hb : less j with
    | false => rfl
    | true => exact absurd (hm _ j hj hjn hb) hl
  ·have : lo = hi := by omega
   subst this
   exact ⟨h3, h4, h5⟩
def putE (l : List E) (x : E) : List E := putL kE l x
theorem key_wrap {y x : E} (hy : MayE y) (hx : MayE x) : wrap64 (y.f0 - x.f0) = y.f0 - x.f0 := by
 unfold MayE at hy hx
 exact wrap_id _ (by omega) (by omega)
theorem right_put {l : List E} {x : E} (hl : RightE l) (hx : MayE x) : RightE (putE l x) := ⟨ris_put kE x hl.1, fun y hy => by
 rcases mem_put kE hy with rfl | h
 ·exact hx
 ·exact hl.2 y h⟩
theorem getD_mem {α : Type} (l : List α) (z : α) {j : Nat} (h : j < l.length) : l.getD j z ∈ l := by
 rw [List.getD_eq_getElem?_getD, List.getElem?_eq_getElem h]
 exact List.getElem_mem h
theorem put_is {l : List E} {x : E} (hl : RightE l) (hx : MayE x) (hn : l.length < 1099511627776) : entry_Put.f l x.f0 x.f1 x.f2 = some (putE l x) := by
 have hw : ∀ j, j < l.length → wrap64 ((l.getD j z40).f0 - x.f0) = (l.getD j z40).f0 - x.f0 := fun j hj => key_wrap (hl.2 _ (getD_mem l _ hj)) hx
 have hmono : ∀ i j, i ≤ j → j < l.length → decide (wrap64 ((l.getD j z40).f0 - x.f0) < 0) = true → decide (wrap64 ((l.getD i z40).f0 - x.f0) < 0) = true := by
  intro i j hij hj h
  rw [decide_eq_true_eq, hw j hj] at h
  rw [decide_eq_true_eq, hw i (by omega)]
  rcases Nat.eq_or_lt_of_le hij with e | e
  ·subst e; exact h
  ·have := (List.pairwise_iff_getElem.1 hl.1) i j (by omega) hj e
   rw [List.getD_eq_getElem?_getD, List.getElem?_eq_getElem hj] at h
   rw [List.getD_eq_getElem?_getD, List.getElem?_eq_getElem (show i < l.length by omega)]
   have h : l[j].f0 - x.f0 < 0 := h
   show l[i].f0 - x.f0 < 0
   unfold kE at this
   omega
 obtain ⟨hle, h1, h2⟩ := halve_is (fun j => decide (wrap64 ((l.getD j z40).f0 - x.f0) < 0)) l.length hmono l.length 0 l.length (by omega) (by omega) (Nat.le_refl _) (fun j hj => absurd hj (by omega)) (fun j hj hj2 => absurd hj2 (by omega))
 unfold entry_Put.f entry_Put.hit entry_Put.pl
 rw [if_pos hn]
 generalize halveE (fun j => decide (wrap64 ((l.getD j z40).f0 - x.f0) < 0)) l.length 0 l.length = i at hle h1 h2
 obtain ⟨ha, hb⟩ := put_at kE x z40 hl.1 hle (fun j hj => by
  have := h1 j hj
  rw [decide_eq_true_eq, hw j (by omega)] at this
  unfold kE; omega) (fun j hj hjn => by
  have := h2 j hj hjn
  rw [decide_eq_false_iff_not, hw j hjn] at this
  unfold kE; omega)
 congr 1
 by_cases hil : i < l.length
 ·by_cases he : (l.getD i z40).f0 = x.f0
  ·rw [if_pos (by rw [decide_eq_true hil, hw i hil, Bool.true_and]; exact decide_eq_true (by omega))]
   exact ha hil he
  ·rw [if_neg (by rw [decide_eq_true hil, hw i hil, Bool.true_and, decide_eq_true_eq]; omega)]
   exact hb (fun _ => he)
 ·rw [if_neg (by rw [decide_eq_false hil, Bool.false_and]; decide)]
  exact hb (fun h => absurd h hil)
theorem put_true_l0 (x : E) (suf : List E) : ∀ (pre acc : List E), (pre ++ suf).length < 1099511627776 → acc.length ≤ pre.length + 1 →
  Ev (fun k => ref04_Put.l0 k (pre ++ suf) acc true (pre.length : Int) x.f0 x.f1 x.f2) (acc ++ suf.filter (fun y => !decide (y.f0 = x.f0))) := by
 induction suf with
 | nil =>
  intro pre acc h ha
  refine Ev.step (fun k => by rw [ref04_Put.l0]) ?_
  simp only [end_ge, ↓reduceIte]
  rw [List.filter_nil, List.append_nil]
  exact Ev.now _
 | cons y suf ih =>
  intro pre acc h ha
  have hl : pre.length + (suf.length + 1) < 1099511627776 := by simpa using h
  refine Ev.step (fun k => by rw [ref04_Put.l0]) ?_
  simp only [mid_lt, ↓reduceIte]
  refine Ev.step (fun k => by rw [ref04_Put.j1]) ?_
  simp only [mid_lt, nat_ge, rdE, ↓reduceIte, Bool.false_eq_true]
  by_cases hk : y.f0 = x.f0
  ·have hd : ¬ (!decide (y.f0 = x.f0)) = true := by simp [hk]
   simp only [hk, ↓reduceIte, mid_next pre y suf (by omega)]
   rw [List.filter_cons, if_neg hd]
   have i := ih (pre ++ [y]) acc (by rw [← List.append_cons]; exact h) (by simp; omega)
   rw [← List.append_cons pre y suf] at i
   exact i
  ·have hd : (!decide (y.f0 = x.f0)) = true := by simp [hk]
   simp only [hk, ↓reduceIte, show acc.length < 4398046511104 by omega, mid_next pre y suf (by omega)]
   rw [List.filter_cons, if_pos hd]
   have i := ih (pre ++ [y]) (acc ++ [y]) (by rw [← List.append_cons]; exact h) (by simp; omega)
   rw [← List.append_cons pre y suf, List.append_assoc, List.singleton_append] at i
   exact i
theorem put_false_l0 (x : E) (suf : List E) : ∀ (pre acc : List E), (pre ++ suf).length < 1099511627776 → acc.length ≤ pre.length → Ris kE suf →
  Ev (fun k => ref04_Put.l0 k (pre ++ suf) acc false (pre.length : Int) x.f0 x.f1 x.f2) (acc ++ putE suf x) := by
 induction suf with
 | nil =>
  intro pre acc h ha hr
  have hl : pre.length < 1099511627776 := by simpa using h
  refine Ev.step (fun k => by rw [ref04_Put.l0]) ?_
  simp only [end_ge, ↓reduceIte, Bool.false_eq_true, show acc.length < 4398046511104 by omega]
  exact Ev.now _
 | cons y suf ih =>
  intro pre acc h ha hr
  have hl : pre.length + (suf.length + 1) < 1099511627776 := by simpa using h
  have hys := ris_head hr
  have hrs := ris_tail hr
  refine Ev.step (fun k => by rw [ref04_Put.l0]) ?_
  simp only [mid_lt, nat_ge, rdE, ↓reduceIte, Bool.false_eq_true]
  refine Ev.step (fun k => by rw [ref04_Put.j1]) ?_
  by_cases hge : y.f0 ≥ x.f0
  ·have hf1 : (y :: suf).filter (fun y => decide (kE y < kE x)) = [] := List.filter_eq_nil_iff.2 (fun z hz => by
    rw [decide_eq_true_eq]
    rcases List.mem_cons.1 hz with rfl | hz
    ·unfold kE; omega
    ·have := hys z hz
     unfold kE at *; omega)
   have hf2 : suf.filter (fun y => decide (kE x < kE y)) = suf.filter (fun y => !decide (y.f0 = x.f0)) := List.filter_congr (fun z hz => by
    have := hys z hz
    unfold kE at this ⊢
    have h1 : x.f0 < z.f0 := by omega
    have h2 : ¬ z.f0 = x.f0 := by omega
    simp [h1, h2])
   simp only [decide_eq_true hge, show acc.length < 4398046511104 by omega, mid_lt, nat_ge, rdE, ↓reduceIte, Option.bind_some]
   unfold putE putL
   rw [hf1, List.filter_cons, List.nil_append]
   by_cases he : y.f0 = x.f0
   ·rw [if_neg (by show ¬ decide (kE x < kE y) = true; rw [decide_eq_true_eq]; unfold kE; omega), hf2]
    simp only [he, ↓reduceIte, mid_next pre y suf (by omega)]
    have i := put_true_l0 x suf (pre ++ [y]) (acc ++ [x]) (by rw [← List.append_cons]; exact h) (by simp; omega)
    rw [← List.append_cons pre y suf, List.append_assoc] at i
    exact i
   ·rw [if_pos (by show decide (kE x < kE y) = true; rw [decide_eq_true_eq]; unfold kE; omega), hf2]
    have hla : (acc ++ [x]).length < 4398046511104 := by rw [List.length_append, List.length_singleton]; omega
    have hla' : (acc ++ [(⟨x.f0, x.f1, x.f2⟩ : E)]).length < 4398046511104 := hla
    simp only [he, ↓reduceIte, mid_next pre y suf (by omega), hla']
    have i := put_true_l0 x suf (pre ++ [y]) (acc ++ [x] ++ [y]) (by rw [← List.append_cons]; exact h) (by simp; omega)
    rw [← List.append_cons pre y suf] at i
    exact Ev.cast i (by simp)
  ·have he : ¬ y.f0 = x.f0 := by omega
   simp only [decide_eq_false hge, Bool.false_eq_true, he, show acc.length < 4398046511104 by omega, mid_lt, nat_ge, rdE, ↓reduceIte, mid_next pre y suf (by omega)]
   have i := ih (pre ++ [y]) (acc ++ [y]) (by rw [← List.append_cons]; exact h) (by simp; omega) hrs
   rw [← List.append_cons pre y suf, List.append_assoc] at i
   have e : putE (y :: suf) x = y :: putE suf x := by
    unfold putE putL
    rw [List.filter_cons, if_pos (by show decide (kE y < kE x) = true; rw [decide_eq_true_eq]; unfold kE; omega), List.filter_cons, if_neg (by show ¬ decide (kE x < kE y) = true; rw [decide_eq_true_eq]; unfold kE; omega)]
    rfl
   rw [e]
   exact i
theorem ev_ref04_Put (l : List E) (x : E) (hr : Ris kE l) (hn : l.length < 1099511627776) : Ev (fun k => ref04_Put.f k l x.f0 x.f1 x.f2) (putE l x) := put_false_l0 x l [] [] hn (Nat.le_refl _) hr
theorem ev_ref04_Top_l0 (suf : List E) : ∀ (pre : List E) (t : Int), (pre ++ suf).length < 4611686018427387904 →
  Ev (fun k => ref04_Top.l0 k (pre ++ suf) t (pre.length : Int)) (suf.foldl (fun t x => mx t x.f1) t) := by
 induction suf with
 | nil =>
  intro pre t h
  refine Ev.step (fun k => by rw [ref04_Top.l0]) ?_
  simp only [end_ge, ↓reduceIte]
  exact Ev.now _
 | cons x suf ih =>
  intro pre t h
  refine Ev.step (fun k => by rw [ref04_Top.l0]) ?_
  simp only [mid_lt, nat_ge, ↓reduceIte, rdE, mid_next pre x suf (by omega)]
  have := ih (pre ++ [x]) (mx t x.f1) (by rw [← List.append_cons]; exact h)
  rw [← List.append_cons pre x suf] at this
  exact this
theorem ev_ref04_Top (l : List E) (h : l.length < 4611686018427387904) : Ev (fun k => ref04_Top.f k l) (TopE l) := ev_ref04_Top_l0 l [] 0 h
abbrev St := S24
theorem rdS (pre : List St) (x : St) (suf : List St) : rd_T24 (pre ++ x :: suf) ((pre.length : Nat) : Int) = x := getD_mid _ pre x suf
theorem inS {s : St} (h : G24 s) : s.f2.length < 4611686018427387904 ∧ ∀ x ∈ s.f2, x.f2.size ≤ 140737488351232 := ⟨by have := h.2.2.2.1; omega, fun x hx => (h.2.2.2.2 x hx).2.2⟩
def RightS (s : St) : Prop := 1 ≤ s.f0 ∧ s.f0 ≤ 1099511627776 ∧ 0 ≤ s.f1 ∧ s.f1 ≤ 1099511627776 ∧ RightE s.f2
def TopS (s : St) : Int := mx s.f1 (TopE s.f2)
theorem st_ext {a b : St} (h0 : a.f0 = b.f0) (h1 : a.f1 = b.f1) (h2 : a.f2 = b.f2) : a = b := by
 cases a; cases b; simp only at h0 h1 h2; subst h0; subst h1; subst h2; rfl
theorem ev_state_Right (s : St) (h : s.f2.length < 4611686018427387904) : ∃ r, Ev (fun k => state_Right.f k s.f0 s.f1 s.f2) r ∧ (r = true ↔ RightS s) := by
 unfold state_Right.f
 by_cases h1 : s.f0 ≥ 1
 ·by_cases h2 : s.f0 ≤ 1099511627776
  ·by_cases h3 : s.f1 ≥ 0
   ·by_cases h4 : s.f1 ≤ 1099511627776
    ·obtain ⟨r, e, q⟩ := ev_entry_Right s.f2 h
     simp only [h1, h2, h3, h4, ↓reduceIte]
     refine ⟨r, Ev.bind e (Ev.now _), ?_⟩
     rw [q]
     exact ⟨fun x => And.intro h1 (And.intro h2 (And.intro h3 (And.intro h4 x))), fun x => x.2.2.2.2⟩
    ·simp only [h1, h2, h3, h4, ↓reduceIte]
     exact ⟨false, Ev.now _, ⟨fun x => absurd x (by decide), fun x => absurd x.2.2.2.1 h4⟩⟩
   ·simp only [h1, h2, h3, ↓reduceIte]
    exact ⟨false, Ev.now _, ⟨fun x => absurd x (by decide), fun x => absurd x.2.2.1 h3⟩⟩
  ·simp only [h1, h2, ↓reduceIte]
   exact ⟨false, Ev.now _, ⟨fun x => absurd x (by decide), fun x => absurd x.2.1 h2⟩⟩
 ·simp only [h1, ↓reduceIte]
  exact ⟨false, Ev.now _, ⟨fun x => absurd x (by decide), fun x => absurd x.1 h1⟩⟩
theorem ev_ref05_Right (s : St) (h : s.f2.length < 4611686018427387904) : ∃ r, Ev (fun k => ref05_Right.f k s.f0 s.f1 s.f2) r ∧ (r = true ↔ RightS s) := by
 unfold ref05_Right.f
 by_cases h1 : s.f0 ≥ 1
 ·by_cases h2 : s.f0 ≤ 1099511627776
  ·by_cases h3 : s.f1 ≥ 0
   ·by_cases h4 : s.f1 ≤ 1099511627776
    ·obtain ⟨r, e, q⟩ := ev_ref04_Right s.f2 h
     simp only [h1, h2, h3, h4, ↓reduceIte]
     refine ⟨r, Ev.bind e (Ev.now _), ?_⟩
     rw [q]
     exact ⟨fun x => And.intro h1 (And.intro h2 (And.intro h3 (And.intro h4 x))), fun x => x.2.2.2.2⟩
    ·simp only [h1, h2, h3, h4, ↓reduceIte]
     exact ⟨false, Ev.now _, ⟨fun x => absurd x (by decide), fun x => absurd x.2.2.2.1 h4⟩⟩
   ·simp only [h1, h2, h3, ↓reduceIte]
    exact ⟨false, Ev.now _, ⟨fun x => absurd x (by decide), fun x => absurd x.2.2.1 h3⟩⟩
  ·simp only [h1, h2, ↓reduceIte]
   exact ⟨false, Ev.now _, ⟨fun x => absurd x (by decide), fun x => absurd x.2.1 h2⟩⟩
 ·simp only [h1, ↓reduceIte]
  exact ⟨false, Ev.now _, ⟨fun x => absurd x (by decide), fun x => absurd x.1 h1⟩⟩
theorem ev_state_Top (s : St) (h : s.f2.length < 4611686018427387904) : Ev (fun k => state_Top.f k s.f0 s.f1 s.f2) (TopS s) := by
 unfold state_Top.f
 exact Ev.bind (ev_entry_Top s.f2 h) (Ev.now _)
theorem ev_ref05_Top (s : St) (h : s.f2.length < 4611686018427387904) : Ev (fun k => ref05_Top.f k s.f0 s.f1 s.f2) (TopS s) := by
 unfold ref05_Top.f
 exact Ev.bind (ev_ref04_Top s.f2 h) (Ev.now _)
theorem copy_is (s : St) (h : s.f2.length < 1099511627776) : state_Copy.f s.f0 s.f1 s.f2 = some (s.f0, s.f1, s.f2) := by
 unfold state_Copy.f api_Entry_45.f
 rw [if_pos (by omega)]
 rfl
theorem ref_copy_is (s : St) (h : s.f2.length < 1099511627776) : ref05_Copy.f s.f0 s.f1 s.f2 = some (s.f0, s.f1, s.f2) := by
 unfold ref05_Copy.f
 show (if ([] : List E).length + s.f2.length < 4398046511104 then some (s.f0, s.f1, [] ++ s.f2) else none) = _
 rw [if_pos (by rw [List.length_nil]; omega), List.nil_append]
theorem ev_ref05_Same (a b : St) (h : a.f2.length < 4611686018427387904) : ∃ r, Ev (fun k => ref05_Same.f k a.f0 a.f1 a.f2 b.f0 b.f1 b.f2) r ∧ (r = true ↔ a = b) := by
 unfold ref05_Same.f
 by_cases h1 : a.f0 = b.f0
 ·by_cases h2 : a.f1 = b.f1
  ·obtain ⟨r, e, q⟩ := ev_ref04_Same a.f2 b.f2 h
   simp only [h1, h2, ↓reduceIte]
   refine ⟨r, Ev.bind e (Ev.now _), ?_⟩
   rw [q]
   exact ⟨fun x => st_ext h1 h2 x, fun x => by rw [x]⟩
  ·simp only [h1, h2, ↓reduceIte]
   exact ⟨false, Ev.now _, ⟨fun x => absurd x (by decide), fun x => absurd (by rw [x]) h2⟩⟩
 ·simp only [h1, ↓reduceIte]
  exact ⟨false, Ev.now _, ⟨fun x => absurd x (by decide), fun x => absurd (by rw [x]) h1⟩⟩
theorem ev_ref05_same_true (a : St) (h : a.f2.length < 4611686018427387904) : Ev (fun k => ref05_Same.f k a.f0 a.f1 a.f2 a.f0 a.f1 a.f2) true := by
 obtain ⟨r, e, q⟩ := ev_ref05_Same a a h
 rw [q.2 rfl] at e
 exact e
theorem ev_ref05_Great (s : St) (h : s.f2.length < 4611686018427387904) (hs : ∀ x ∈ s.f2, x.f2.size ≤ 140737488351232) : ∃ r, Ev (fun k => ref05_Great.f k s.f0 s.f1 s.f2) r ∧ (r = false → s.f2.length ≤ 4000) := by
 obtain ⟨r, e, q⟩ := ev_ref04_Great s.f2 h hs
 exact ⟨r, Ev.bind e (Ev.now _), q⟩
theorem great_l0 (suf : List St) : ∀ pre : List St, (pre ++ suf).length < 1000 → (∀ s ∈ suf, s.f2.length < 4611686018427387904 ∧ ∀ x ∈ s.f2, x.f2.size ≤ 140737488351232) →
  ∃ r, Ev (fun k => law05_great.l0 k (pre ++ suf) (pre.length : Int)) r ∧ (r = false → ∀ s ∈ suf, s.f2.length ≤ 4000) := by
 induction suf with
 | nil =>
  intro pre h hs
  refine ⟨false, Ev.step (fun k => by rw [law05_great.l0]) ?_, fun _ s hs => by simp at hs⟩
  simp only [end_ge, ↓reduceIte]
  exact Ev.now _
 | cons s suf ih =>
  intro pre h hs
  obtain ⟨g, e, q⟩ := ev_ref05_Great s (hs s List.mem_cons_self).1 (hs s List.mem_cons_self).2
  cases g with
  | true =>
   refine ⟨true, Ev.step (fun k => by rw [law05_great.l0]) ?_, fun x => absurd x (by decide)⟩
   simp only [mid_lt, nat_ge, rdS, ↓reduceIte]
   refine Ev.bind e ?_
   simp only [↓reduceIte]
   exact Ev.now _
  | false =>
   obtain ⟨r, e2, q2⟩ := ih (pre ++ [s]) (by rw [← List.append_cons]; exact h) (fun x hx => hs x (List.mem_cons_of_mem _ hx))
   refine ⟨r, Ev.step (fun k => by rw [law05_great.l0]) ?_, fun x y hy => ?_⟩
   ·simp only [mid_lt, nat_ge, rdS, ↓reduceIte, mid_next pre s suf (by omega)]
    refine Ev.bind e ?_
    simp only [Bool.false_eq_true, ↓reduceIte]
    rw [← List.append_cons pre s suf] at e2
    exact e2
   ·rcases List.mem_cons.1 hy with rfl | hy
    ·exact q rfl
    ·exact q2 x y hy
theorem ev_great (l : List St) (hn : l.length < 1000) (hl : ∀ s ∈ l, G24 s) : ∃ r, Ev (fun k => law05_great.f k l) r ∧ (r = false → ∀ s ∈ l, s.f2.length ≤ 4000) := great_l0 l [] hn (fun s hs => inS (hl s hs))
theorem topS_nonneg (s : St) : 0 ≤ TopS s := Int.le_trans (topE_nonneg s.f2) (le_mx_r _ _)
theorem topS_le {s : St} (h : RightS s) : TopS s ≤ 1099511627776 := mx_le h.2.2.2.1 (topE_le (by omega) (fun x hx => by have := h.2.2.2.2.2 x hx; unfold MayE at this; omega))
theorem ev_next (s : St) (h : s.f2.length < 4611686018427387904) (ht : TopS s ≤ 1099511627776) : Ev (fun k => state_next.f k s.f0 s.f1 s.f2) (if TopS s = 1099511627776 then (0, 11) else (TopS s + 1, 0)) := by
 unfold state_next.f
 refine Ev.bind (ev_state_Top s h) ?_
 have h0 := topS_nonneg s
 have hw : wrap64 (TopS s + 1) = TopS s + 1 := wrap_id _ (by omega) (by omega)
 rw [hw]
 by_cases hm : TopS s = 1099511627776
 ·rw [if_pos hm, if_pos (by omega)]
  exact Ev.now _
 ·rw [if_neg hm, if_neg (by omega)]
  exact Ev.now _
open Classical in
/-- A key's value, set. -/
noncomputable def setR (s : St) (key : Int) (val : ByteArray) : Int × Int × List E × Int :=
 if MayE ⟨key, 1, val⟩ ∧ RightS s then (if TopS s = 1099511627776 then (s.f0, s.f1, s.f2, 11) else (s.f0, s.f1, putE s.f2 ⟨key, TopS s + 1, val⟩, 0)) else (s.f0, s.f1, s.f2, 1)
theorem may_ver {key v : Int} {val : ByteArray} (h : MayE ⟨key, 1, val⟩) (h1 : 1 ≤ v) (h2 : v ≤ 1099511627776) : MayE ⟨key, v, val⟩ := by
 unfold MayE at h ⊢
 exact ⟨h.1, h.2.1, h1, h2, h.2.2.2.2⟩
theorem ev_Set (s : St) (key : Int) (val : ByteArray) (h : s.f2.length < 1099511627776) : Ev (fun k => state_Set.f k s.f0 s.f1 s.f2 key val) (setR s key val) := by
 unfold state_Set.f
 obtain ⟨m, em, qm⟩ := may_is ⟨key, 1, val⟩
 have em : entry_May.f key 1 val = some m := em
 rw [em]
 have out : ¬ (MayE ⟨key, 1, val⟩ ∧ RightS s) → Ev (fun k => state_Set.j0 k true s.f0 s.f1 s.f2 key 1 val) (setR s key val) := by
  intro hn
  refine Ev.step (fun k => by rw [state_Set.j0]) ?_
  simp only [↓reduceIte]
  unfold setR
  rw [if_neg hn]
  exact Ev.now _
 cases m with
 | false =>
  simp only [Option.bind_some, Bool.false_eq_true, ↓reduceIte]
  exact out (fun h => absurd (qm.2 h.1) (by decide))
 | true =>
  simp only [Option.bind_some, ↓reduceIte]
  obtain ⟨r, er, qr⟩ := ev_state_Right s (by omega)
  refine Ev.bind er ?_
  cases r with
  | false => simp only [Bool.not_false]; exact out (fun h => absurd (qr.2 h.2) (by decide))
  | true =>
   have hm := qm.1 rfl
   have hs := qr.1 rfl
   have ht := topS_le hs
   have h0 := topS_nonneg s
   simp only [Bool.not_true]
   refine Ev.step (fun k => by rw [state_Set.j0]) ?_
   simp only [Bool.false_eq_true, ↓reduceIte]
   refine Ev.bind (ev_next s (by omega) ht) ?_
   unfold setR
   rw [if_pos (show MayE ⟨key, 1, val⟩ ∧ RightS s from ⟨hm, hs⟩)]
   by_cases hx : TopS s = 1099511627776
   ·simp only [hx, ↓reduceIte, show ¬ ((11 : Int) = 0) by decide]
    exact Ev.now _
   ·have hp := put_is (x := ⟨key, TopS s + 1, val⟩) hs.2.2.2.2 (may_ver hm (by omega) (by omega)) h
    have hp : entry_Put.f s.f2 key (TopS s + 1) val = some (putE s.f2 ⟨key, TopS s + 1, val⟩) := hp
    simp only [hx, ↓reduceIte, hp, Option.bind_some]
    exact Ev.now _
theorem ev_ref_Set (s : St) (key : Int) (val : ByteArray) (h : s.f2.length < 1099511627776) : Ev (fun k => ref05_Set.f k s.f0 s.f1 s.f2 key val) (setR s key val) := by
 unfold ref05_Set.f
 have out : ¬ (MayE ⟨key, 1, val⟩ ∧ RightS s) → Ev (fun k => ref05_Set.j0 k true s.f0 s.f1 s.f2 key 1 val) (setR s key val) := by
  intro hn
  refine Ev.step (fun k => by rw [ref05_Set.j0]) ?_
  simp only [↓reduceIte]
  unfold setR
  rw [if_neg hn]
  exact Ev.now _
 obtain ⟨r, er, qr⟩ := ev_ref05_Right s (by omega)
 refine Ev.bind er ?_
 cases r with
 | false => simp only [Bool.false_eq_true, ↓reduceIte]; exact out (fun h => absurd (qr.2 h.2) (by decide))
 | true =>
  obtain ⟨m, em, qm⟩ := may04_is ⟨key, 1, val⟩
  have em : ref04_May.f key 1 val = some m := em
  simp only [↓reduceIte, em, Option.bind_some]
  cases m with
  | false => simp only [Bool.not_false]; exact out (fun h => absurd (qm.2 h.1) (by decide))
  | true =>
   have hm := qm.1 rfl
   have hs := qr.1 rfl
   have ht := topS_le hs
   have h0 := topS_nonneg s
   simp only [Bool.not_true]
   refine Ev.step (fun k => by rw [ref05_Set.j0]) ?_
   simp only [Bool.false_eq_true, ↓reduceIte]
   refine Ev.bind (ev_ref05_Top s (by omega)) ?_
   unfold setR
   rw [if_pos (show MayE ⟨key, 1, val⟩ ∧ RightS s from ⟨hm, hs⟩)]
   by_cases hx : TopS s = 1099511627776
   ·simp only [hx, ↓reduceIte]
    exact Ev.now _
   ·have hw : wrap64 (TopS s + 1) = TopS s + 1 := wrap_id _ (by omega) (by omega)
    simp only [hx, ↓reduceIte]
    refine Ev.bind (ev_ref05_Top s (by omega)) ?_
    rw [hw]
    exact Ev.bind (ev_ref04_Put s.f2 ⟨key, TopS s + 1, val⟩ hs.2.2.2.2.1 h) (Ev.now _)
open Classical in
noncomputable def beatR (s : St) : Int × Int × List E × Int :=
 if RightS s then (if TopS s = 1099511627776 then (s.f0, s.f1, s.f2, 11) else (s.f0, TopS s + 1, s.f2, 0)) else (s.f0, s.f1, s.f2, 1)
theorem ev_Beat (s : St) (h : s.f2.length < 1099511627776) : Ev (fun k => state_Beat.f k s.f0 s.f1 s.f2) (beatR s) := by
 unfold state_Beat.f
 obtain ⟨r, er, qr⟩ := ev_state_Right s (by omega)
 refine Ev.bind er ?_
 unfold beatR
 cases r with
 | false =>
  rw [if_neg (fun h => absurd (qr.2 h) (by decide))]
  simp only [Bool.false_eq_true, ↓reduceIte]
  exact Ev.now _
 | true =>
  have hs := qr.1 rfl
  rw [if_pos hs]
  simp only [↓reduceIte]
  refine Ev.bind (ev_next s (by omega) (topS_le hs)) ?_
  by_cases hx : TopS s = 1099511627776
  ·simp only [hx, ↓reduceIte, show ¬ ((11 : Int) = 0) by decide]
   exact Ev.now _
  ·simp only [hx, ↓reduceIte, copy_is s h, Option.bind_some]
   exact Ev.now _
theorem ev_ref_Beat (s : St) (h : s.f2.length < 1099511627776) : Ev (fun k => ref05_Beat.f k s.f0 s.f1 s.f2) (beatR s) := by
 unfold ref05_Beat.f
 obtain ⟨r, er, qr⟩ := ev_ref05_Right s (by omega)
 refine Ev.bind er ?_
 unfold beatR
 cases r with
 | false =>
  rw [if_neg (fun h => absurd (qr.2 h) (by decide))]
  simp only [Bool.false_eq_true, ↓reduceIte]
  exact Ev.now _
 | true =>
  have hs := qr.1 rfl
  have ht := topS_le hs
  have h0 := topS_nonneg s
  rw [if_pos hs]
  simp only [↓reduceIte]
  refine Ev.bind (ev_ref05_Top s (by omega)) ?_
  by_cases hx : TopS s = 1099511627776
  ·simp only [hx, ↓reduceIte]
   exact Ev.now _
  ·have hw : wrap64 (TopS s + 1) = TopS s + 1 := wrap_id _ (by omega) (by omega)
   simp only [hx, ↓reduceIte, ref_copy_is s h, Option.bind_some]
   refine Ev.bind (ev_ref05_Top s (by omega)) ?_
   rw [hw]
   exact Ev.now _
theorem alive05 : Ev (fun k => law05_alive.f k) true := Ev.of (fun k => law05_alive.mono k) (k := 60) (by decide +kernel)
theorem setR_len {s : St} (key : Int) (val : ByteArray) (h : s.f2.length ≤ 4000) : (setR s key val).2.2.1.length < 4611686018427387904 := by
 unfold setR
 split
 ·rename_i hc
  split
  ·show s.f2.length < _; omega
  ·rename_i hx
   have h0 := topS_nonneg s
   have ht := topS_le hc.2
   have := right_len (right_put hc.2.2.2.2.2 (may_ver hc.1 (v := TopS s + 1) (by omega) (by omega)))
   show (putE s.f2 _).length < _
   omega
 ·show s.f2.length < _; omega
theorem beatR_len {s : St} (h : s.f2.length ≤ 4000) : (beatR s).2.2.1.length < 4611686018427387904 := by
 unfold beatR
 split
 ·split
  ·show s.f2.length < _; omega
  ·show s.f2.length < _; omega
 ·show s.f2.length < _; omega
theorem same_of (R : Int × Int × List E × Int) (h : R.2.2.1.length < 4611686018427387904) : Ev (fun k => ref05_Same.f k R.1 R.2.1 R.2.2.1 R.1 R.2.1 R.2.2.1) true := ev_ref05_same_true ⟨R.1, R.2.1, R.2.2.1⟩ h
theorem sets_fin (s : St) (key : Int) (val : ByteArray) (h : s.f2.length ≤ 4000) : Ev (fun k => law05_StateSets.j0 k key val false s.f0 s.f1 s.f2) true := by
 refine Ev.step (fun k => by rw [law05_StateSets.j0]) ?_
 simp only [Bool.false_eq_true, ↓reduceIte, ref_copy_is s (by omega), Option.bind_some]
 refine Ev.bind (ev_Set s key val (by omega)) (Ev.bind (ev_ref_Set s key val (by omega)) (Ev.bind (ev_Beat s (by omega)) (Ev.bind (ev_ref_Beat s (by omega)) ?_)))
 refine Ev.bind (same_of _ (setR_len key val h)) ?_
 simp only [↓reduceIte]
 refine Ev.bind (same_of _ (beatR_len h)) ?_
 simp only [↓reduceIte]
 exact Ev.bind (ev_ref05_same_true s (by omega)) (Ev.now _)
theorem StateSets : ∀ (x0 : S24) (x1 : Int) (x2 : ByteArray), G24 x0 → (Lit.int .i64 x1).wf = true → x2.size ≤ 140737488351232 → ∃ k, law05_StateSets.f k x0.f0 x0.f1 x0.f2 x1 x2 = some true := by
 intro s key val ga _ _
 refine Ev.rounds (r := true) ?_
 unfold law05_StateSets.f
 refine Ev.bind alive05 ?_
 simp only [↓reduceIte]
 have out : Ev (fun k => law05_StateSets.j0 k key val true s.f0 s.f1 s.f2) true := by
  refine Ev.step (fun k => by rw [law05_StateSets.j0]) ?_
  simp only [↓reduceIte]
  exact Ev.now _
 obtain ⟨g, eg, qg⟩ := ev_great [s] (by simp) (fun s hs => by
  rcases List.mem_cons.1 hs with rfl | hs
  ·exact ga
  ·simp at hs)
 refine Ev.bind eg ?_
 cases g with
 | true => simp only [↓reduceIte]; exact out
 | false =>
 simp only [Bool.false_eq_true, ↓reduceIte]
 by_cases hv : (val.size : Int) > 1000
 ·simp only [decide_eq_true hv]; exact out
 ·simp only [decide_eq_false hv]; exact sets_fin s key val (qg rfl s (by simp))
end Go.Proofs.Ytfoeahjbkmdgfaa.Pl

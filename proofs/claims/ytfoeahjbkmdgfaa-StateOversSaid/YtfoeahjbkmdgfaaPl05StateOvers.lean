/- StateOvers' plain law: of two states each of which is over the other one both are the same: for all states. No condition. -/
import Derived.Test.YtfoeahjbkmdgfaaHw
import Derived.Test.YtfoeahjbkmdgfaaOps
import Derived.Test.YtfoeahjbkmdgfaaP0
import Derived.Test.YtfoeahjbkmdgfaaPApiEntry45
import Derived.Test.YtfoeahjbkmdgfaaPEntryGet
import Derived.Test.YtfoeahjbkmdgfaaPEntryHigher
import Derived.Test.YtfoeahjbkmdgfaaPEntryJoin
import Derived.Test.YtfoeahjbkmdgfaaPEntryOver
import Derived.Test.YtfoeahjbkmdgfaaPEntryPlace
import Derived.Test.YtfoeahjbkmdgfaaPEntryTop
import Derived.Test.YtfoeahjbkmdgfaaPLaw05Alive
import Derived.Test.YtfoeahjbkmdgfaaPLaw05Great
import Derived.Test.YtfoeahjbkmdgfaaPLaw05StateOvers
import Derived.Test.YtfoeahjbkmdgfaaPRef04Great
import Derived.Test.YtfoeahjbkmdgfaaPRef04May
import Derived.Test.YtfoeahjbkmdgfaaPRef04Right
import Derived.Test.YtfoeahjbkmdgfaaPRef04Same
import Derived.Test.YtfoeahjbkmdgfaaPRef05Great
import Derived.Test.YtfoeahjbkmdgfaaPRef05Right
import Derived.Test.YtfoeahjbkmdgfaaPRef05Same
import Derived.Test.YtfoeahjbkmdgfaaPStateCopy
import Derived.Test.YtfoeahjbkmdgfaaPStateJoin
import Derived.Test.YtfoeahjbkmdgfaaPStateOver
import Derived.Test.YtfoeahjbkmdgfaaPStateTop
namespace Go.Proofs.Ytfoeahjbkmdgfaa.Pl
open Go.RowKit Go.Proofs.Ytfoeahjbkmdgfaa.P Go.Proofs.YtfoeahjbkmdgfaaW.PrintWords Go.Proofs.YtfoeahjbkmdgfaaW.PrintLast Go.Proofs.YtfoeahjbkmdgfaaW.PrintMore
set_option linter.unusedSimpArgs false
set_option linter.unusedVariables false
abbrev E := S40
theorem wrap_id (x : Int) (h0 : -9223372036854775808 ≤ x) (h1 : x ≤ 9223372036854775807) : wrap64 x = x := by unfold wrap64; omega
theorem wrap_nat (n : Nat) (h : n < 9223372036854775807) : wrap64 ((n : Int) + 1) = ((n + 1 : Nat) : Int) := by unfold wrap64; omega
theorem getD_mid {α : Type} (z : α) (pre : List α) (x : α) (suf : List α) : (pre ++ x :: suf).getD ((pre.length : Nat) : Int).toNat z = x := by
 simp [List.getD_eq_getElem?_getD]
theorem rdE (pre : List E) (x : E) (suf : List E) : rd_T40 (pre ++ x :: suf) ((pre.length : Nat) : Int) = x := getD_mid _ pre x suf
theorem rdE0 (x : E) (suf : List E) : rd_T40 (x :: suf) 0 = x := rfl
theorem mid_lt {α : Type} (pre : List α) (x : α) (suf : List α) : ((pre.length : Nat) : Int) < ((pre ++ x :: suf).length : Int) := by simp <;> omega
theorem end_ge {α : Type} (pre : List α) : ¬ ((pre.length : Nat) : Int) < ((pre ++ ([] : List α)).length : Int) := by simp
theorem nat_ge {α : Type} (pre : List α) : (0 : Int) ≤ ((pre.length : Nat) : Int) := Int.natCast_nonneg _
theorem mid_next {α : Type} (pre : List α) (x : α) (suf : List α) (h : (pre ++ x :: suf).length < 9223372036854775807) : wrap64 (((pre.length : Nat) : Int) + 1) = (((pre ++ [x]).length : Nat) : Int) := by
 rw [wrap_nat _ (by simp at h; omega), List.length_append]; rfl
theorem mid_prev {α : Type} (pre : List α) (y x : α) (suf : List α) (h : ((pre ++ [y]) ++ x :: suf).length < 9223372036854775807) : wrap64 ((((pre ++ [y]).length : Nat) : Int) - 1) = ((pre.length : Nat) : Int) := by
 rw [wrap_id _ (by omega) (by have := h; simp only [List.length_append, List.length_cons, List.length_nil] at *; omega), List.length_append, List.length_singleton]; omega
theorem Ev.cast {α : Type} {g : Nat → Option α} {r r' : α} (h : Ev g r) (e : r = r') : Ev g r' := e ▸ h
section
variable {α : Type} (key : α → Int)
def Ris (l : List α) : Prop := l.Pairwise (fun a b => key a < key b)
def look (l : List α) (k : Int) : Option α := l.find? (fun x => key x == k)
variable {key}
theorem ris_nil : Ris key [] := List.Pairwise.nil
theorem ris_cons {x : α} {l : List α} : Ris key (x :: l) ↔ (∀ y ∈ l, key x < key y) ∧ Ris key l := List.pairwise_cons
theorem ris_tail {x : α} {l : List α} (h : Ris key (x :: l)) : Ris key l := (ris_cons.1 h).2
theorem ris_head {x : α} {l : List α} (h : Ris key (x :: l)) : ∀ y ∈ l, key x < key y := (ris_cons.1 h).1
theorem look_nil (k : Int) : look key ([] : List α) k = none := rfl
theorem look_cons (x : α) (l : List α) (k : Int) : look key (x :: l) k = if key x = k then some x else look key l k := by
 unfold look
 by_cases h : key x = k
 ·simp [h]
 ·simp [h]
theorem look_mem {l : List α} {k : Int} {x : α} (h : look key l k = some x) : x ∈ l ∧ key x = k := by
 unfold look at h
 exact ⟨List.mem_of_find?_eq_some h, by simpa using List.find?_some h⟩
theorem look_none {l : List α} {k : Int} : look key l k = none ↔ ∀ x ∈ l, key x ≠ k := by
 unfold look
 simp
theorem look_lt {l : List α} {k : Int} (h : ∀ y ∈ l, k < key y) : look key l k = none := look_none.2 (fun x hx => by have := h x hx; omega)
theorem look_of_mem {l : List α} {x : α} (hr : Ris key l) (hx : x ∈ l) : look key l (key x) = some x := by
 induction l with
 | nil => simp at hx
 | cons y l ih =>
  rw [look_cons]
  rcases List.mem_cons.1 hx with rfl | hx
  ·simp
  ·have := ris_head hr x hx
   rw [if_neg (by omega)]
   exact ih (ris_tail hr) hx
/-- Two rising lists in which the same is found are the same. -/
theorem ris_ext : ∀ {a b : List α}, Ris key a → Ris key b → (∀ k, look key a k = look key b k) → a = b
 | [], [], _, _, _ => rfl
 | [], y :: b, _, _, h => by
  have := h (key y)
  rw [look_cons, if_pos rfl] at this
  simp [look_nil] at this
 | x :: a, [], _, _, h => by
  have := h (key x)
  rw [look_cons, if_pos rfl] at this
  simp [look_nil] at this
 | x :: a, y :: b, ha, hb, h => by
  have hxy : key x = key y := by
   rcases Int.lt_trichotomy (key x) (key y) with hlt | he | hgt
   ·have h1 := h (key x)
    rw [look_cons, if_pos rfl, look_cons, if_neg (by omega), look_lt (fun z hz => by have := ris_head hb z hz; omega)] at h1
    simp at h1
   ·exact he
   ·have h1 := h (key y)
    rw [look_cons, if_neg (by omega), look_lt (fun z hz => by have := ris_head ha z hz; omega), look_cons, if_pos rfl] at h1
    simp at h1
  have hx : x = y := by
   have h1 := h (key x)
   rw [look_cons, if_pos rfl, look_cons, if_pos hxy.symm] at h1
   exact Option.some.inj h1
  subst hx
  rw [ris_ext (ris_tail ha) (ris_tail hb) (fun k => by
   by_cases hk : key x = k
   ·rw [look_lt (fun z hz => by have := ris_head ha z hz; omega), look_lt (fun z hz => by have := ris_head hb z hz; omega)]
   ·have h1 := h k
    rw [look_cons, if_neg hk, look_cons, if_neg hk] at h1
    exact h1)]
/-- A rising list whose keys are from 0 to below n has at most n elements. -/
theorem ris_length (n : Nat) : ∀ (l : List α) (m : Nat), Ris key l → (∀ x ∈ l, (m : Int) ≤ key x ∧ key x < (m : Int) + n) → l.length ≤ n := by
 induction n with
 | zero =>
  intro l m _ h
  match l with
  | [] => exact Nat.le_refl _
  | x :: l => have := h x (by simp); omega
 | succ n ih =>
  intro l m hr h
  match l with
  | [] => simp
  | x :: l =>
   have h1 := ih l (m + 1) (ris_tail hr) (fun y hy => by
    have h2 := h y (by simp [hy]); have h3 := ris_head hr y hy; have h4 := h x (by simp); omega)
   simp; omega
end
theorem bool_iff {a b : Bool} {p : Prop} (ha : a = true ↔ p) (hb : b = true ↔ p) : a = b := by
 cases a <;> cases b <;> simp_all
def MayE (x : E) : Prop := 0 ≤ x.f0 ∧ x.f0 < 12 ∧ 1 ≤ x.f1 ∧ x.f1 ≤ 1099511627776 ∧ x.f2.size ≤ 200
def kE (x : E) : Int := x.f0
def RightE (l : List E) : Prop := Ris kE l ∧ ∀ x ∈ l, MayE x
def TopE (l : List E) : Int := l.foldl (fun t x => mx t x.f1) 0
theorem mx_eq (a b : Int) : mx a b = max a b := by unfold mx; rw [Int.max_def]; split <;> split <;> omega
theorem mx_le {a b c : Int} (h1 : a ≤ c) (h2 : b ≤ c) : mx a b ≤ c := by unfold mx; split <;> omega
theorem le_mx_l (a b : Int) : a ≤ mx a b := by unfold mx; split <;> omega
theorem le_mx_r (a b : Int) : b ≤ mx a b := by unfold mx; split <;> omega
theorem mx_or (a b : Int) : mx a b = a ∨ mx a b = b := by unfold mx; split <;> simp
theorem topF (l : List E) : ∀ t : Int, t ≤ l.foldl (fun t x => mx t x.f1) t ∧ (∀ x ∈ l, x.f1 ≤ l.foldl (fun t x => mx t x.f1) t) ∧ (l.foldl (fun t x => mx t x.f1) t = t ∨ ∃ x ∈ l, l.foldl (fun t x => mx t x.f1) t = x.f1) := by
 induction l with
 | nil => intro t; simp
 | cons x l ih =>
  intro t
  obtain ⟨h1, h2, h3⟩ := ih (mx t x.f1)
  simp only [List.foldl_cons]
  refine ⟨Int.le_trans (le_mx_l _ _) h1, fun y hy => ?_, ?_⟩
  ·rcases List.mem_cons.1 hy with rfl | hy
   ·exact Int.le_trans (le_mx_r _ _) h1
   ·exact h2 y hy
  ·rcases h3 with h3 | ⟨y, hy, h3⟩
   ·rcases mx_or t x.f1 with h4 | h4
    ·exact .inl (h3.trans h4)
    ·exact .inr ⟨x, by simp, h3.trans h4⟩
   ·exact .inr ⟨y, by simp [hy], h3⟩
theorem topE_nonneg (l : List E) : 0 ≤ TopE l := (topF l 0).1
theorem topE_ge (l : List E) : ∀ x ∈ l, x.f1 ≤ TopE l := (topF l 0).2.1
theorem topE_is (l : List E) : TopE l = 0 ∨ ∃ x ∈ l, TopE l = x.f1 := (topF l 0).2.2
theorem topE_le {l : List E} {n : Int} (h0 : 0 ≤ n) (h : ∀ x ∈ l, x.f1 ≤ n) : TopE l ≤ n := by
 rcases topE_is l with e | ⟨x, hx, e⟩
 ·omega
 ·rw [e]; exact h x hx
open Go.RowKit Go.Proofs.Ytfoeahjbkmdgfaa.P Go.Proofs.YtfoeahjbkmdgfaaW.PrintWords Go.Proofs.YtfoeahjbkmdgfaaW.PrintLast Go.Proofs.YtfoeahjbkmdgfaaW.PrintMore Go.Proofs.YtfoeahjbkmdgfaaW.Hw
theorem ev_entry_Top_l0 (suf : List E) : ∀ (pre : List E) (t : Int), (pre ++ suf).length < 4611686018427387904 →
  Ev (fun k => entry_Top.l0 k t (pre ++ suf) ((pre ++ suf).length : Int) (pre.length : Int)) (suf.foldl (fun t x => mx t x.f1) t) := by
 induction suf with
 | nil =>
  intro pre t h
  refine Ev.step (fun k => by rw [entry_Top.l0]) ?_
  simp only [end_ge, ↓reduceIte]
  exact Ev.now _
 | cons x suf ih =>
  intro pre t h
  refine Ev.step (fun k => by rw [entry_Top.l0]) ?_
  simp only [mid_lt, nat_ge, ↓reduceIte, rdE, mid_next pre x suf (by omega)]
  have := ih (pre ++ [x]) (mx t x.f1) (by rw [← List.append_cons]; exact h)
  rw [← List.append_cons pre x suf] at this
  exact this
theorem ev_entry_Top (l : List E) (h : l.length < 4611686018427387904) : Ev (fun k => entry_Top.f k l) (TopE l) := ev_entry_Top_l0 l [] 0 h
theorem wrap01 : wrap64 (0 + 1) = 1 := wrap_id 1 (by omega) (by omega)
theorem all_cons {α : Type} {Q : α → Prop} {x : α} {l : List α} (hx : Q x) (hl : ∀ z, z ∈ l → Q z) : ∀ z, z ∈ x :: l → Q z := fun z hz => by
 rcases List.mem_cons.1 hz with rfl | hz
 ·exact hx
 ·exact hl z hz
theorem ev_ref04_Great_l0 (suf : List E) : ∀ (pre : List E) (n : Int), (pre ++ suf).length < 4611686018427387904 → 0 ≤ n → n ≤ 4611686018427387904 → (∀ x ∈ suf, x.f2.size ≤ 140737488351232) →
  ∃ r, Ev (fun k => ref04_Great.l0 k (pre ++ suf) n (pre.length : Int)) r ∧ (r = false → n ≤ 4000) := by
 induction suf with
 | nil =>
  intro pre n h h0 h1 h2
  refine ⟨decide (n > 4000), Ev.step (fun k => by rw [ref04_Great.l0]) ?_, by simp⟩
  simp only [end_ge, ↓reduceIte]
  exact Ev.now _
 | cons x suf ih =>
  intro pre n h h0 h1 h2
  by_cases hn : n ≤ 4000
  ·have hx := h2 x (by simp)
   obtain ⟨r, hr, hi⟩ := ih (pre ++ [x]) (n + (x.f2.size : Int)) (by rw [← List.append_cons]; exact h) (by omega) (by omega) (fun y hy => h2 y (by simp [hy]))
   refine ⟨r, Ev.step (fun k => by rw [ref04_Great.l0]) ?_, fun _ => hn⟩
   simp only [mid_lt, nat_ge, ↓reduceIte, rdE, mid_next pre x suf (by omega), hn, wrap_id (n + (x.f2.size : Int)) (by omega) (by omega)]
   rw [← List.append_cons pre x suf] at hr
   exact hr
  ·refine ⟨decide (n > 4000), Ev.step (fun k => by rw [ref04_Great.l0]) ?_, by simp⟩
   simp only [mid_lt, ↓reduceIte, hn]
   exact Ev.now _
theorem ev_ref04_Great (l : List E) (h : l.length < 4611686018427387904) (hs : ∀ x ∈ l, x.f2.size ≤ 140737488351232) : ∃ r, Ev (fun k => ref04_Great.f k l) r ∧ (r = false → l.length ≤ 4000) := by
 obtain ⟨r, hr, hi⟩ := ev_ref04_Great_l0 l [] (l.length : Int) h (by omega) (by omega) hs
 exact ⟨r, hr, fun e => by have := hi e; omega⟩
section
variable {α : Type} {key : α → Int}
theorem ris_cons2 {y x : α} {l : List α} : Ris key (y :: x :: l) ↔ key y < key x ∧ Ris key (x :: l) := by
 rw [ris_cons]
 constructor
 ·rintro ⟨h1, h2⟩; exact ⟨h1 x (by simp), h2⟩
 ·rintro ⟨h1, h2⟩
  refine ⟨fun z hz => ?_, h2⟩
  rcases List.mem_cons.1 hz with rfl | hz
  ·exact h1
  ·have := ris_head h2 z hz; omega
theorem ris_one (x : α) : Ris key [x] := List.pairwise_singleton _ x
end
theorem len_pos {α : Type} (x : α) (l : List α) : (0 : Int) < ((x :: l).length : Int) := by simp <;> omega
theorem len_one {α : Type} (x : α) (l : List α) : (1 : Int) ≤ ((x :: l).length : Int) := by rw [List.length_cons]; omega
theorem len_ne {α : Type} (x : α) (l : List α) : ¬ (((x :: l).length : Int) = 0) := by simp <;> omega
theorem len_gt {α : Type} (x : α) (l : List α) : ((x :: l).length : Int) > 0 := by simp <;> omega
theorem nil_gt {α : Type} : ¬ (((([] : List α).length : Nat) : Int) > 0) := by simp
theorem nil_eq {α : Type} : (((([] : List α).length : Nat) : Int) = 0) := rfl
theorem may04_is (x : E) : ∃ r, ref04_May.f x.f0 x.f1 x.f2 = some r ∧ (r = true ↔ MayE x) := by
 unfold ref04_May.f MayE
 by_cases h1 : x.f0 ≥ 0
 ·by_cases h2 : x.f0 < 12
  ·by_cases h3 : x.f1 ≥ 1
   ·by_cases h4 : x.f1 ≤ 1099511627776
    ·refine ⟨_, by simp only [h1, h2, h3, h4, ↓reduceIte]; rfl, ?_⟩
     simp; omega
    ·exact ⟨false, by simp only [h1, h2, h3, h4, ↓reduceIte], by simp; omega⟩
   ·exact ⟨false, by simp only [h1, h2, h3, ↓reduceIte], by simp; omega⟩
  ·exact ⟨false, by simp only [h1, h2, ↓reduceIte], by simp; omega⟩
 ·exact ⟨false, by simp only [h1, ↓reduceIte], by simp; omega⟩
theorem pos_mid {α : Type} (p : List α) (y : α) : (((p ++ [y]).length : Nat) : Int) > 0 := by simp <;> omega
theorem prev_ge {α : Type} (p : List α) (y x : α) (s : List α) : ((p.length : Nat) : Int) < (((p ++ [y]) ++ x :: s).length : Int) := by simp <;> omega
theorem rdE1 (p : List E) (y x : E) (s : List E) : rd_T40 ((p ++ [y]) ++ x :: s) ((p.length : Nat) : Int) = y := by rw [← List.append_cons]; exact rdE p y (x :: s)
theorem ev_ref04_Right_l0 (suf : List E) : ∀ (p : List E) (y : E), ((p ++ [y]) ++ suf).length < 4611686018427387904 →
  ∃ r, Ev (fun k => ref04_Right.l0 k ((p ++ [y]) ++ suf) ((p ++ [y]).length : Int)) r ∧ (r = true ↔ Ris kE (y :: suf) ∧ ∀ x ∈ suf, MayE x) := by
 induction suf with
 | nil =>
  intro p y h
  refine ⟨true, Ev.step (fun k => by rw [ref04_Right.l0]) ?_, by simp [ris_one]⟩
  simp only [end_ge, ↓reduceIte]
  exact Ev.now _
 | cons x suf ih =>
  intro p y h
  obtain ⟨m, hm, hmi⟩ := may04_is x
  cases m with
  | false =>
   refine ⟨false, Ev.step (fun k => by rw [ref04_Right.l0]) ?_, ?_⟩
   ·simp only [mid_lt, nat_ge, ↓reduceIte, rdE, hm, Option.bind_some, Bool.false_eq_true]
    exact Ev.now _
   ·simp only [Bool.false_eq_true, false_iff]
    rintro ⟨_, h2⟩
    exact absurd (hmi.2 (h2 x (by simp))) (by simp)
  | true =>
   by_cases hk : y.f0 ≥ x.f0
   ·refine ⟨false, Ev.step (fun k => by rw [ref04_Right.l0]) ?_, ?_⟩
    ·simp only [mid_lt, nat_ge, ↓reduceIte, rdE, hm, Option.bind_some, pos_mid, mid_prev p y x suf (by omega), prev_ge, rdE1, hk]
     exact Ev.now _
    ·simp only [Bool.false_eq_true, false_iff, ris_cons2]
     rintro ⟨⟨h1, _⟩, _⟩
     unfold kE at h1; omega
   ·obtain ⟨r, hr, hi⟩ := ih (p ++ [y]) x (by rw [← List.append_cons]; exact h)
    refine ⟨r, Ev.step (fun k => by rw [ref04_Right.l0]) ?_, ?_⟩
    ·simp only [mid_lt, nat_ge, ↓reduceIte, rdE, hm, Option.bind_some, pos_mid, mid_prev p y x suf (by omega), prev_ge, rdE1, hk, mid_next (p ++ [y]) x suf (by omega)]
     rw [← List.append_cons (p ++ [y]) x suf] at hr
     exact hr
    ·rw [hi, ris_cons2]
     have := hmi.1 rfl
     constructor
     ·rintro ⟨h1, h2⟩
      exact ⟨⟨by unfold kE; omega, h1⟩, all_cons (this) (fun z hz => h2 z hz)⟩
     ·rintro ⟨⟨_, h1⟩, h2⟩
      exact ⟨h1, fun z hz => h2 z (by simp [hz])⟩
theorem ev_ref04_Right (l : List E) (h : l.length < 4611686018427387904) : ∃ r, Ev (fun k => ref04_Right.f k l) r ∧ (r = true ↔ RightE l) := by
 cases l with
 | nil =>
  refine ⟨true, Ev.step (g := fun k => ref04_Right.l0 k [] 0) (fun k => by rw [ref04_Right.l0]) ?_, by simp [RightE, ris_nil]⟩
  simp only [List.length_nil, Int.natCast_zero, Int.lt_irrefl, ↓reduceIte]
  exact Ev.now _
 | cons x l =>
  obtain ⟨m, hm, hmi⟩ := may04_is x
  have e0 : (0 : Int) < ((x :: l).length : Int) := len_pos x l
  cases m with
  | false =>
   refine ⟨false, Ev.step (g := fun k => ref04_Right.l0 k (x :: l) 0) (fun k => by rw [ref04_Right.l0]) ?_, ?_⟩
   ·simp only [e0, Int.le_refl, ↓reduceIte, rdE0, hm, Option.bind_some, Bool.false_eq_true]
    exact Ev.now _
   ·simp only [Bool.false_eq_true, false_iff]
    rintro ⟨_, h2⟩
    exact absurd (hmi.2 (h2 x (by simp))) (by simp)
  | true =>
   obtain ⟨r, hr, hi⟩ := ev_ref04_Right_l0 l [] x h
   refine ⟨r, Ev.step (g := fun k => ref04_Right.l0 k (x :: l) 0) (fun k => by rw [ref04_Right.l0]) ?_, ?_⟩
   ·simp only [e0, Int.le_refl, ↓reduceIte, rdE0, hm, Option.bind_some, gt_iff_lt, Int.lt_irrefl, wrap01]
    exact hr
   ·rw [hi]
    constructor
    ·rintro ⟨h1, h2⟩
     exact ⟨h1, all_cons (hmi.1 rfl) (fun z hz => h2 z hz)⟩
    ·rintro ⟨h1, h2⟩
     exact ⟨h1, fun z hz => h2 z (by simp [hz])⟩
theorem ne_is (x y : E) : (!(x.f0 == y.f0) || (!(x.f1 == y.f1) || (!(x.f2.toList == y.f2.toList)))) = true ↔ x ≠ y := by
 obtain ⟨a0, a1, a2⟩ := x
 obtain ⟨b0, b1, b2⟩ := y
 simp only [Bool.or_eq_true, Bool.not_eq_true', beq_eq_false_iff_ne]
 constructor
 ·rintro h e
  cases e
  simp at h
 ·intro h
  by_cases h0 : a0 = b0
  ·by_cases h1 : a1 = b1
   ·right; right
    intro e
    exact h (by rw [h0, h1, ba_ext e])
   ·exact .inr (.inl h1)
  ·exact .inl h0
theorem ev_ref04_Same_l0 (sa : List E) : ∀ (sb pa pb : List E), pa.length = pb.length → sa.length = sb.length → (pa ++ sa).length < 4611686018427387904 →
  ∃ r, Ev (fun k => ref04_Same.l0 k (pa ++ sa) (pb ++ sb) (pa.length : Int)) r ∧ (r = true ↔ sa = sb) := by
 induction sa with
 | nil =>
  intro sb pa pb hp hs h
  have : sb = [] := List.eq_nil_of_length_eq_zero (by simpa using hs.symm)
  subst this
  refine ⟨true, Ev.step (fun k => by rw [ref04_Same.l0]) ?_, by simp⟩
  simp only [end_ge, ↓reduceIte]
  exact Ev.now _
 | cons x sa ih =>
  intro sb pa pb hp hs h
  match sb, hs with
  | y :: sb, hs =>
   have r2 : rd_T40 (pb ++ y :: sb) (pa.length : Int) = y := by rw [hp]; exact rdE pb y sb
   have l2 : (pa.length : Int) < ((pb ++ y :: sb).length : Int) := by rw [hp]; exact mid_lt pb y sb
   by_cases hxy : x = y
   ·subst hxy
    obtain ⟨r, h1, h2⟩ := ih sb (pa ++ [x]) (pb ++ [x]) (by simp [hp]) (by simpa using hs) (by rw [← List.append_cons]; exact h)
    refine ⟨r, Ev.step (fun k => by rw [ref04_Same.l0]) ?_, ?_⟩
    ·have hn : ¬ ((!(x.f0 == x.f0) || (!(x.f1 == x.f1) || (!(x.f2.toList == x.f2.toList)))) = true) := fun e => (ne_is x x).1 e rfl
     simp only [mid_lt, l2, nat_ge, ↓reduceIte, rdE, r2, hn, mid_next pa x sa (by omega)]
     rw [← List.append_cons pa x sa, ← List.append_cons pb x sb] at h1
     exact h1
    ·rw [h2]; simp
   ·refine ⟨false, Ev.step (fun k => by rw [ref04_Same.l0]) ?_, ?_⟩
    ·have hn := (ne_is x y).2 hxy
     simp only [mid_lt, l2, nat_ge, ↓reduceIte, rdE, r2, hn]
     exact Ev.now _
    ·simp [hxy]
theorem ev_ref04_Same (a b : List E) (h : a.length < 4611686018427387904) : ∃ r, Ev (fun k => ref04_Same.f k a b) r ∧ (r = true ↔ a = b) := by
 unfold ref04_Same.f
 by_cases hl : (a.length : Int) = (b.length : Int)
 ·obtain ⟨r, h1, h2⟩ := ev_ref04_Same_l0 a b [] [] rfl (by omega) (by simpa using h)
  refine ⟨r, ?_, h2⟩
  simp only [hl, ↓reduceIte]
  exact h1
 ·refine ⟨false, ?_, ?_⟩
  ·simp only [hl, ↓reduceIte]
   exact Ev.now _
  ·simp only [Bool.false_eq_true, false_iff]
   intro e
   exact hl (by rw [e])
/-- Is y above x? -/
def Gt (y x : E) : Prop := y.f1 > x.f1 ∨ (y.f1 = x.f1 ∧ Op.bytesLess x.f2.toList y.f2.toList = true)
instance (y x : E) : Decidable (Gt y x) := by unfold Gt; infer_instance
def hi (x y : E) : E := if Gt y x then y else x
theorem gt_irrefl (x : E) : ¬ Gt x x := by
 rintro (h | ⟨_, h⟩)
 ·omega
 ·rw [bl_irrefl] at h; cases h
theorem gt_trans {x y z : E} (h : Gt x y) (k : Gt y z) : Gt x z := by
 rcases h with h | ⟨h1, h2⟩
 ·rcases k with k | ⟨k1, k2⟩
  ·exact .inl (by omega)
  ·exact .inl (by omega)
 ·rcases k with k | ⟨k1, k2⟩
  ·exact .inl (by omega)
  ·exact .inr ⟨by omega, bl_trans _ _ _ k2 h2⟩
theorem gt_total (x y : E) : Gt x y ∨ Gt y x ∨ (x.f1 = y.f1 ∧ x.f2 = y.f2) := by
 rcases Int.lt_trichotomy x.f1 y.f1 with h | h | h
 ·exact .inr (.inl (.inl h))
 ·rcases bl_total x.f2.toList y.f2.toList with k | k | k
  ·exact .inr (.inl (.inr ⟨h.symm, k⟩))
  ·exact .inr (.inr ⟨h, ba_ext k⟩)
  ·exact .inl (.inr ⟨h, k⟩)
 ·exact .inl (.inl h)
theorem hi_key (x y : E) (h : x.f0 = y.f0) : (hi x y).f0 = x.f0 := by unfold hi; split <;> simp [h]
theorem hi_or (x y : E) : hi x y = x ∨ hi x y = y := by unfold hi; split <;> simp
theorem e_ext {x y : E} (h0 : x.f0 = y.f0) (h1 : x.f1 = y.f1) (h2 : x.f2 = y.f2) : x = y := by
 obtain ⟨a, b, c⟩ := x
 obtain ⟨d, e, f⟩ := y
 simp only at h0 h1 h2
 rw [h0, h1, h2]
theorem hi_le_l (x y : E) : ¬ Gt x (hi x y) := by
 unfold hi
 split
 ·rename_i h
  intro h2
  exact gt_irrefl x (gt_trans h2 h)
 ·exact gt_irrefl x
theorem hi_le_r (x y : E) : ¬ Gt y (hi x y) := by
 unfold hi
 split
 ·exact gt_irrefl y
 ·assumption
theorem higher_is (x y : E) : entry_higher.f x.f0 x.f1 x.f2 y.f0 y.f1 y.f2 = some ((hi x y).f0, (hi x y).f1, (hi x y).f2) := by
 unfold entry_higher.f hi Gt
 by_cases h1 : y.f1 > x.f1
 ·simp [h1]
 ·by_cases h2 : y.f1 = x.f1
  ·by_cases h3 : Op.bytesLess x.f2.toList y.f2.toList = true
   ·simp [h2, h3]
   ·simp [h2, h3]
  ·simp [h1, h2]
theorem find_idx {α : Type} (p : α → Bool) : ∀ l : List α, l.find? p = l[l.findIdx p]?
 | [] => rfl
 | x :: l => by
  rw [List.find?_cons, List.findIdx_cons]
  cases hp : p x with
  | true => simp
  | false => simp [find_idx p l]
def got (o : Option E) : Int × Int × ByteArray × Bool := match o with
 | some x => (x.f0, x.f1, x.f2, true)
 | none => (0, 0, ⟨#[]⟩, false)
theorem get_is (l : List E) (k : Int) : entry_Get.f l k = some (got (look kE l k)) := by
 have hl : look kE l k = l[l.findIdx (fun x : S40 => x.f0 == k)]? := find_idx _ l
 unfold entry_Get.f entry_place.f idxI
 simp only [Option.bind_some]
 by_cases h : l.findIdx (fun x : S40 => x.f0 == k) < l.length
 ·rw [if_pos h, if_neg (by omega), if_pos (by omega), if_pos (by omega), hl, List.getElem?_eq_getElem h]
  have : rd_T40 l ((l.findIdx (fun x : S40 => x.f0 == k) : Nat) : Int) = l[l.findIdx (fun x : S40 => x.f0 == k)] := by
   simp [rd_T40, List.getD_eq_getElem?_getD, h]
  rw [this]
  rfl
 ·rw [if_neg h, if_pos (by omega), hl, List.getElem?_eq_none (by omega)]
  rfl
theorem news_is (a : List E) (y : E) : entry_Over.news a y = false ↔ ∃ x, look kE a y.f0 = some x ∧ ¬ Gt y x := by
 unfold entry_Over.news
 rw [get_is]
 cases h : look kE a y.f0 with
 | none => simp [got]
 | some x =>
  simp only [got, higher_is]
  have e := ne_is (hi x y) x
  simp only [Option.some.injEq, exists_eq_left']
  by_cases hg : Gt y x
  ·have hn : hi x y ≠ x := by
    unfold hi
    rw [if_pos hg]
    rintro rfl
    exact gt_irrefl _ hg
   rw [e.2 hn]
   simp [hg]
  ·have hn : hi x y = x := by unfold hi; rw [if_neg hg]
   rw [hn]
   simp [hg]
def OverE (a b : List E) : Prop := ∀ y ∈ b, ∃ x, look kE a y.f0 = some x ∧ ¬ Gt y x
theorem over_is (a b : List E) : ∃ r, entry_Over.f a b = some r ∧ (r = true ↔ OverE a b) := by
 refine ⟨_, rfl, ?_⟩
 rw [Bool.not_eq_true', List.any_eq_false]
 unfold OverE
 constructor
 ·intro h y hy
  exact (news_is a y).1 (by simpa using h y hy)
 ·intro h y hy
  rw [(news_is a y).2 (h y hy)]
  decide
def joinE : List E → List E → List E
 | [], b => b
 | x :: a, [] => x :: a
 | x :: a, y :: b => if x.f0 < y.f0 then x :: joinE a (y :: b) else if y.f0 < x.f0 then y :: joinE (x :: a) b else hi x y :: joinE a b
termination_by a b => a.length + b.length
theorem joinE_nil (b : List E) : joinE [] b = b := by rw [joinE]
theorem joinE_nil_r (a : List E) : joinE a [] = a := by cases a <;> rw [joinE]
theorem joinE_cons (x : E) (a : List E) (y : E) (b : List E) : joinE (x :: a) (y :: b) = if x.f0 < y.f0 then x :: joinE a (y :: b) else if y.f0 < x.f0 then y :: joinE (x :: a) b else hi x y :: joinE a b := by rw [joinE]
theorem ev_Join_l0 : ∀ (n : Nat) (a b acc : List E), a.length + b.length ≤ n → acc.length + (a.length + b.length) < 4398046511104 → Ev (fun k => entry_Join.l0 k a b acc) (acc ++ joinE a b) := by
 intro n
 induction n with
 | zero =>
  intro a b acc hn h
  have ha : a = [] := List.eq_nil_of_length_eq_zero (by omega)
  have hb : b = [] := List.eq_nil_of_length_eq_zero (by omega)
  subst ha; subst hb
  refine Ev.step (fun k => by rw [entry_Join.l0]) ?_
  simp only [nil_gt, ↓reduceIte, decide_false]
  refine Ev.step (fun k => by rw [entry_Join.j1]) ?_
  simp only [Bool.false_eq_true, ↓reduceIte, joinE_nil, List.append_nil]
  exact Ev.now _
 | succ n ih =>
  intro a b acc hn h
  match a, b with
  | [], [] =>
   refine Ev.step (fun k => by rw [entry_Join.l0]) ?_
   simp only [nil_gt, ↓reduceIte, decide_false]
   refine Ev.step (fun k => by rw [entry_Join.j1]) ?_
   simp only [Bool.false_eq_true, ↓reduceIte, joinE_nil, List.append_nil]
   exact Ev.now _
  | [], y :: b =>
   have i := ih [] b (acc ++ [y]) (by simp at hn ⊢; omega) (by simp at h ⊢; omega)
   rw [joinE_nil, List.append_assoc, List.singleton_append] at i
   refine Ev.step (fun k => by rw [entry_Join.l0]) ?_
   simp only [nil_gt, len_gt, ↓reduceIte, decide_true]
   refine Ev.step (fun k => by rw [entry_Join.j1]) ?_
   simp only [↓reduceIte, len_ne, nil_gt]
   refine Ev.step (fun k => by rw [entry_Join.j2]) ?_
   simp only [Bool.false_eq_true, ↓reduceIte, nil_eq, len_pos, len_one, rdE0, show acc.length < 4398046511104 by omega, joinE_nil]
   exact i
  | x :: a, [] =>
   have i := ih a [] (acc ++ [x]) (by simp at hn ⊢; omega) (by simp at h ⊢; omega)
   rw [joinE_nil_r, List.append_assoc, List.singleton_append] at i
   refine Ev.step (fun k => by rw [entry_Join.l0]) ?_
   simp only [len_gt, ↓reduceIte]
   refine Ev.step (fun k => by rw [entry_Join.j1]) ?_
   simp only [↓reduceIte, nil_eq]
   refine Ev.step (fun k => by rw [entry_Join.j2]) ?_
   simp only [↓reduceIte, len_pos, len_one, rdE0, show acc.length < 4398046511104 by omega, joinE_nil_r]
   exact i
  | x :: a, y :: b =>
   have hal : acc.length < 4398046511104 := by omega
   refine Ev.step (fun k => by rw [entry_Join.l0]) ?_
   simp only [len_gt, ↓reduceIte]
   refine Ev.step (fun k => by rw [entry_Join.j1]) ?_
   simp only [↓reduceIte, len_ne, len_gt, len_pos, rdE0]
   rw [joinE_cons]
   by_cases h1 : x.f0 < y.f0
   ·have i := ih a (y :: b) (acc ++ [x]) (by simp at hn ⊢; omega) (by simp at h ⊢; omega)
    rw [List.append_assoc, List.singleton_append] at i
    simp only [h1, decide_true, ↓reduceIte]
    refine Ev.step (fun k => by rw [entry_Join.j2]) ?_
    simp only [↓reduceIte, len_pos, len_one, rdE0, hal]
    exact i
   ·simp only [h1, decide_false, ↓reduceIte]
    refine Ev.step (fun k => by rw [entry_Join.j2]) ?_
    simp only [Bool.false_eq_true, ↓reduceIte, len_ne, len_pos, len_one, rdE0, hal]
    by_cases h2 : y.f0 < x.f0
    ·have i := ih (x :: a) b (acc ++ [y]) (by simp at hn ⊢; omega) (by simp at h ⊢; omega)
     rw [List.append_assoc, List.singleton_append] at i
     simp only [h2, ↓reduceIte]
     exact i
    ·have i := ih a b (acc ++ [hi x y]) (by simp at hn ⊢; omega) (by simp at h ⊢; omega)
     rw [List.append_assoc, List.singleton_append] at i
     simp only [h2, ↓reduceIte, higher_is, Option.bind_some]
     exact i
theorem ev_Join (a b : List E) (h : a.length + b.length < 1099511627776) : Ev (fun k => entry_Join.f k a b) (joinE a b) := by
 unfold entry_Join.f
 have e : wrap64 ((a.length : Int) + (b.length : Int)) = ((a.length + b.length : Nat) : Int) := by rw [wrap_id _ (by omega) (by omega)]; omega
 simp only [e, Int.toNat_natCast, show (0 : Int) ≤ ((a.length + b.length : Nat) : Int) by omega, show a.length + b.length ≤ 8796093022208 by omega, ↓reduceIte]
 have := ev_Join_l0 _ a b [] (Nat.le_refl _) (by simp; omega)
 exact this
theorem mem_join : ∀ (n : Nat) (a b : List E), a.length + b.length ≤ n → ∀ z ∈ joinE a b, z ∈ a ∨ z ∈ b := by
 intro n
 induction n with
 | zero =>
  intro a b hn z hz
  have ha : a = [] := List.eq_nil_of_length_eq_zero (by omega)
  subst ha
  rw [joinE_nil] at hz
  exact .inr hz
 | succ n ih =>
  intro a b hn z hz
  match a, b with
  | [], b => rw [joinE_nil] at hz; exact .inr hz
  | x :: a, [] => rw [joinE_nil_r] at hz; exact .inl hz
  | x :: a, y :: b =>
   rw [joinE_cons] at hz
   split at hz
   ·rcases List.mem_cons.1 hz with rfl | hz
    ·exact .inl (by simp)
    ·rcases ih a (y :: b) (by simp at hn ⊢; omega) z hz with h | h
     ·exact .inl (by simp [h])
     ·exact .inr h
   ·split at hz
    ·rcases List.mem_cons.1 hz with rfl | hz
     ·exact .inr (by simp)
     ·rcases ih (x :: a) b (by simp at hn ⊢; omega) z hz with h | h
      ·exact .inl h
      ·exact .inr (by simp [h])
    ·rcases List.mem_cons.1 hz with rfl | hz
     ·rcases hi_or x y with e | e
      ·exact .inl (by rw [e]; simp)
      ·exact .inr (by rw [e]; simp)
     ·rcases ih a b (by simp at hn ⊢; omega) z hz with h | h
      ·exact .inl (by simp [h])
      ·exact .inr (by simp [h])
theorem ris_join : ∀ (n : Nat) (a b : List E), a.length + b.length ≤ n → Ris kE a → Ris kE b → Ris kE (joinE a b) := by
 intro n
 induction n with
 | zero =>
  intro a b hn ha hb
  have h : a = [] := List.eq_nil_of_length_eq_zero (by omega)
  subst h
  rw [joinE_nil]; exact hb
 | succ n ih =>
  intro a b hn ha hb
  match a, b with
  | [], b => rw [joinE_nil]; exact hb
  | x :: a, [] => rw [joinE_nil_r]; exact ha
  | x :: a, y :: b =>
   rw [joinE_cons]
   have hx := ris_head ha
   have hy := ris_head hb
   split
   ·rename_i h
    refine ris_cons.2 ⟨fun z hz => ?_, ih a (y :: b) (by simp at hn ⊢; omega) (ris_tail ha) hb⟩
    rcases mem_join _ _ _ (Nat.le_refl _) z hz with hz | hz
    ·exact hx z hz
    ·rcases List.mem_cons.1 hz with rfl | hz
     ·exact h
     ·have := hy z hz; unfold kE at *; omega
   ·split
    ·rename_i h
     refine ris_cons.2 ⟨fun z hz => ?_, ih (x :: a) b (by simp at hn ⊢; omega) ha (ris_tail hb)⟩
     rcases mem_join _ _ _ (Nat.le_refl _) z hz with hz | hz
     ·rcases List.mem_cons.1 hz with rfl | hz
      ·exact h
      ·have := hx z hz; unfold kE at *; omega
     ·exact hy z hz
    ·rename_i h1 h2
     have hk := hi_key x y (by omega)
     refine ris_cons.2 ⟨fun z hz => ?_, ih a b (by simp at hn ⊢; omega) (ris_tail ha) (ris_tail hb)⟩
     show (hi x y).f0 < z.f0
     rcases mem_join _ _ _ (Nat.le_refl _) z hz with hz | hz
     ·have := hx z hz; unfold kE at this; omega
     ·have := hy z hz; unfold kE at this; omega
def sup : Option E → Option E → Option E
 | none, o => o
 | o, none => o
 | some x, some y => some (hi x y)
theorem sup_none (o : Option E) : sup o none = o := by cases o <;> rfl
theorem none_sup (o : Option E) : sup none o = o := by cases o <;> rfl
theorem look_join (k : Int) : ∀ (n : Nat) (a b : List E), a.length + b.length ≤ n → Ris kE a → Ris kE b → look kE (joinE a b) k = sup (look kE a k) (look kE b k) := by
 intro n
 induction n with
 | zero =>
  intro a b hn ha hb
  have h : a = [] := List.eq_nil_of_length_eq_zero (by omega)
  subst h
  rw [joinE_nil, look_nil, none_sup]
 | succ n ih =>
  intro a b hn ha hb
  match a, b with
  | [], b => rw [joinE_nil, look_nil, none_sup]
  | x :: a, [] => rw [joinE_nil_r, look_nil, sup_none]
  | x :: a, y :: b =>
   rw [joinE_cons]
   have hx := ris_head ha
   have hy := ris_head hb
   split
   ·rename_i h
    rw [look_cons, ih a (y :: b) (by simp at hn ⊢; omega) (ris_tail ha) hb, look_cons x a]
    by_cases hk : kE x = k
    ·rw [if_pos hk, if_pos hk, look_lt (fun z hz => ?_), sup_none]
     rcases List.mem_cons.1 hz with rfl | hz
     ·unfold kE at *; omega
     ·have := hy z hz; unfold kE at *; omega
    ·rw [if_neg hk, if_neg hk]
   ·split
    ·rename_i h
     rw [look_cons, ih (x :: a) b (by simp at hn ⊢; omega) ha (ris_tail hb), look_cons y b]
     by_cases hk : kE y = k
     ·rw [if_pos hk, if_pos hk, look_lt (l := x :: a) (fun z hz => ?_), none_sup]
      rcases List.mem_cons.1 hz with rfl | hz
      ·unfold kE at *; omega
      ·have := hx z hz; unfold kE at *; omega
     ·rw [if_neg hk, if_neg hk]
    ·rename_i h1 h2
     have hk2 := hi_key x y (by omega)
     rw [look_cons, ih a b (by simp at hn ⊢; omega) (ris_tail ha) (ris_tail hb), look_cons x a, look_cons y b]
     have e1 : kE (hi x y) = kE x := hk2
     have e2 : kE y = kE x := by unfold kE; omega
     rw [e1, e2]
     by_cases hk : kE x = k
     ·rw [if_pos hk, if_pos hk, if_pos hk]; rfl
     ·rw [if_neg hk, if_neg hk, if_neg hk]
theorem look_key {l : List E} {k : Int} {x : E} (h : look kE l k = some x) : x.f0 = k := (look_mem h).2
theorem look_joinE {a b : List E} (ha : Ris kE a) (hb : Ris kE b) (k : Int) : look kE (joinE a b) k = sup (look kE a k) (look kE b k) := look_join k _ a b (Nat.le_refl _) ha hb
theorem ris_joinE {a b : List E} (ha : Ris kE a) (hb : Ris kE b) : Ris kE (joinE a b) := ris_join _ a b (Nat.le_refl _) ha hb
theorem right_join {a b : List E} (ha : RightE a) (hb : RightE b) : RightE (joinE a b) := by
 refine ⟨ris_joinE ha.1 hb.1, fun z hz => ?_⟩
 rcases mem_join _ _ _ (Nat.le_refl _) z hz with h | h
 ·exact ha.2 z h
 ·exact hb.2 z h
theorem right_len {a : List E} (h : RightE a) : a.length ≤ 12 := ris_length 12 a 0 h.1 (fun x hx => by have := h.2 x hx; unfold MayE at this; unfold kE; omega)
/-- One entry, or none, isn't above another one. -/
def Ole (p q : Option E) : Prop := ∀ y, p = some y → ∃ x, q = some x ∧ ¬ Gt y x
theorem over_iff {a b : List E} (hb : Ris kE b) : OverE a b ↔ ∀ k, Ole (look kE b k) (look kE a k) := by
 constructor
 ·intro h k y hy
  obtain ⟨hm, hk⟩ := look_mem hy
  have := h y hm
  rw [show y.f0 = k from hk] at this
  exact this
 ·intro h y hy
  exact h y.f0 y (look_of_mem hb hy)
theorem ole_l (p q : Option E) : Ole p (sup p q) := by
 rintro y rfl
 cases q with
 | none => exact ⟨y, rfl, gt_irrefl y⟩
 | some x => exact ⟨_, rfl, hi_le_l y x⟩
theorem ole_r (p q : Option E) : Ole q (sup p q) := by
 rintro y rfl
 cases p with
 | none => exact ⟨y, rfl, gt_irrefl y⟩
 | some x => exact ⟨_, rfl, hi_le_r x y⟩
theorem ole_refl (p : Option E) : Ole p p := fun y hy => ⟨y, hy, gt_irrefl y⟩
theorem ole_antisymm {l m : List E} {k : Int} (h : Ole (look kE l k) (look kE m k)) (h2 : Ole (look kE m k) (look kE l k)) : look kE l k = look kE m k := by
 cases hl : look kE l k with
 | none =>
  cases hm : look kE m k with
  | none => rfl
  | some y =>
   obtain ⟨x, hx, _⟩ := h2 y hm
   rw [hl] at hx; cases hx
 | some x =>
  obtain ⟨y, hy, hg⟩ := h x hl
  obtain ⟨x', hx', hg'⟩ := h2 y hy
  rw [hl] at hx'
  cases hx'
  rw [hy]
  congr 1
  rcases gt_total x y with a | a | ⟨a, b⟩
  ·exact absurd a hg
  ·exact absurd a hg'
  ·exact e_ext (by rw [look_key hl, look_key hy]) a b
theorem top_join {a b : List E} (ha : Ris kE a) (hb : Ris kE b) : TopE (joinE a b) = mx (TopE a) (TopE b) := by
 apply Int.le_antisymm
 ·refine topE_le (Int.le_trans (topE_nonneg a) (le_mx_l _ _)) (fun z hz => ?_)
  rcases mem_join _ _ _ (Nat.le_refl _) z hz with h | h
  ·exact Int.le_trans (topE_ge a z h) (le_mx_l _ _)
  ·exact Int.le_trans (topE_ge b z h) (le_mx_r _ _)
 ·have key : ∀ (l : List E), Ris kE l → (∀ k, Ole (look kE l k) (look kE (joinE a b) k)) → TopE l ≤ TopE (joinE a b) := by
   intro l hl h
   refine topE_le (topE_nonneg _) (fun z hz => ?_)
   obtain ⟨x, hx, hg⟩ := h z.f0 z (look_of_mem hl hz)
   have h1 := topE_ge _ x (look_mem hx).1
   have h2 : ¬ z.f1 > x.f1 := fun h => hg (.inl h)
   omega
  have h1 := key a ha (fun k => by rw [look_joinE ha hb]; exact ole_l _ _)
  have h2 := key b hb (fun k => by rw [look_joinE ha hb]; exact ole_r _ _)
  exact mx_le h1 h2
abbrev St := S24
theorem rdS (pre : List St) (x : St) (suf : List St) : rd_T24 (pre ++ x :: suf) ((pre.length : Nat) : Int) = x := getD_mid _ pre x suf
theorem inS {s : St} (h : G24 s) : s.f2.length < 4611686018427387904 ∧ ∀ x ∈ s.f2, x.f2.size ≤ 140737488351232 := ⟨by have := h.2.2.2.1; omega, fun x hx => (h.2.2.2.2 x hx).2.2⟩
def RightS (s : St) : Prop := 1 ≤ s.f0 ∧ s.f0 ≤ 1099511627776 ∧ 0 ≤ s.f1 ∧ s.f1 ≤ 1099511627776 ∧ RightE s.f2
def TopS (s : St) : Int := mx s.f1 (TopE s.f2)
theorem st_ext {a b : St} (h0 : a.f0 = b.f0) (h1 : a.f1 = b.f1) (h2 : a.f2 = b.f2) : a = b := by
 cases a; cases b; simp only at h0 h1 h2; subst h0; subst h1; subst h2; rfl
theorem ev_ref05_Right (s : St) (h : s.f2.length < 4611686018427387904) : ∃ r, Ev (fun k => ref05_Right.f k s.f0 s.f1 s.f2) r ∧ (r = true ↔ RightS s) := by
 unfold ref05_Right.f
 by_cases h1 : s.f0 ≥ 1
 ·by_cases h2 : s.f0 ≤ 1099511627776
  ·by_cases h3 : s.f1 ≥ 0
   ·by_cases h4 : s.f1 ≤ 1099511627776
    ·obtain ⟨r, e, q⟩ := ev_ref04_Right s.f2 h
     simp only [h1, h2, h3, h4, ↓reduceIte]
     refine ⟨r, Ev.bind e (Ev.now _), ?_⟩
     rw [q]
     exact ⟨fun x => And.intro h1 (And.intro h2 (And.intro h3 (And.intro h4 x))), fun x => x.2.2.2.2⟩
    ·simp only [h1, h2, h3, h4, ↓reduceIte]
     exact ⟨false, Ev.now _, ⟨fun x => absurd x (by decide), fun x => absurd x.2.2.2.1 h4⟩⟩
   ·simp only [h1, h2, h3, ↓reduceIte]
    exact ⟨false, Ev.now _, ⟨fun x => absurd x (by decide), fun x => absurd x.2.2.1 h3⟩⟩
  ·simp only [h1, h2, ↓reduceIte]
   exact ⟨false, Ev.now _, ⟨fun x => absurd x (by decide), fun x => absurd x.2.1 h2⟩⟩
 ·simp only [h1, ↓reduceIte]
  exact ⟨false, Ev.now _, ⟨fun x => absurd x (by decide), fun x => absurd x.1 h1⟩⟩
theorem ev_state_Top (s : St) (h : s.f2.length < 4611686018427387904) : Ev (fun k => state_Top.f k s.f0 s.f1 s.f2) (TopS s) := by
 unfold state_Top.f
 exact Ev.bind (ev_entry_Top s.f2 h) (Ev.now _)
theorem copy_is (s : St) (h : s.f2.length < 1099511627776) : state_Copy.f s.f0 s.f1 s.f2 = some (s.f0, s.f1, s.f2) := by
 unfold state_Copy.f api_Entry_45.f
 rw [if_pos (by omega)]
 rfl
theorem ev_ref05_Same (a b : St) (h : a.f2.length < 4611686018427387904) : ∃ r, Ev (fun k => ref05_Same.f k a.f0 a.f1 a.f2 b.f0 b.f1 b.f2) r ∧ (r = true ↔ a = b) := by
 unfold ref05_Same.f
 by_cases h1 : a.f0 = b.f0
 ·by_cases h2 : a.f1 = b.f1
  ·obtain ⟨r, e, q⟩ := ev_ref04_Same a.f2 b.f2 h
   simp only [h1, h2, ↓reduceIte]
   refine ⟨r, Ev.bind e (Ev.now _), ?_⟩
   rw [q]
   exact ⟨fun x => st_ext h1 h2 x, fun x => by rw [x]⟩
  ·simp only [h1, h2, ↓reduceIte]
   exact ⟨false, Ev.now _, ⟨fun x => absurd x (by decide), fun x => absurd (by rw [x]) h2⟩⟩
 ·simp only [h1, ↓reduceIte]
  exact ⟨false, Ev.now _, ⟨fun x => absurd x (by decide), fun x => absurd (by rw [x]) h1⟩⟩
theorem ev_ref05_Great (s : St) (h : s.f2.length < 4611686018427387904) (hs : ∀ x ∈ s.f2, x.f2.size ≤ 140737488351232) : ∃ r, Ev (fun k => ref05_Great.f k s.f0 s.f1 s.f2) r ∧ (r = false → s.f2.length ≤ 4000) := by
 obtain ⟨r, e, q⟩ := ev_ref04_Great s.f2 h hs
 exact ⟨r, Ev.bind e (Ev.now _), q⟩
theorem great_l0 (suf : List St) : ∀ pre : List St, (pre ++ suf).length < 1000 → (∀ s ∈ suf, s.f2.length < 4611686018427387904 ∧ ∀ x ∈ s.f2, x.f2.size ≤ 140737488351232) →
  ∃ r, Ev (fun k => law05_great.l0 k (pre ++ suf) (pre.length : Int)) r ∧ (r = false → ∀ s ∈ suf, s.f2.length ≤ 4000) := by
 induction suf with
 | nil =>
  intro pre h hs
  refine ⟨false, Ev.step (fun k => by rw [law05_great.l0]) ?_, fun _ s hs => by simp at hs⟩
  simp only [end_ge, ↓reduceIte]
  exact Ev.now _
 | cons s suf ih =>
  intro pre h hs
  obtain ⟨g, e, q⟩ := ev_ref05_Great s (hs s List.mem_cons_self).1 (hs s List.mem_cons_self).2
  cases g with
  | true =>
   refine ⟨true, Ev.step (fun k => by rw [law05_great.l0]) ?_, fun x => absurd x (by decide)⟩
   simp only [mid_lt, nat_ge, rdS, ↓reduceIte]
   refine Ev.bind e ?_
   simp only [↓reduceIte]
   exact Ev.now _
  | false =>
   obtain ⟨r, e2, q2⟩ := ih (pre ++ [s]) (by rw [← List.append_cons]; exact h) (fun x hx => hs x (List.mem_cons_of_mem _ hx))
   refine ⟨r, Ev.step (fun k => by rw [law05_great.l0]) ?_, fun x y hy => ?_⟩
   ·simp only [mid_lt, nat_ge, rdS, ↓reduceIte, mid_next pre s suf (by omega)]
    refine Ev.bind e ?_
    simp only [Bool.false_eq_true, ↓reduceIte]
    rw [← List.append_cons pre s suf] at e2
    exact e2
   ·rcases List.mem_cons.1 hy with rfl | hy
    ·exact q rfl
    ·exact q2 x y hy
theorem ev_great (l : List St) (hn : l.length < 1000) (hl : ∀ s ∈ l, G24 s) : ∃ r, Ev (fun k => law05_great.f k l) r ∧ (r = false → ∀ s ∈ l, s.f2.length ≤ 4000) := great_l0 l [] hn (fun s hs => inS (hl s hs))
def OverS (a b : St) : Prop := if a.f0 = b.f0 then a.f1 ≥ b.f1 ∧ OverE a.f2 b.f2 else a.f0 > b.f0
theorem over_s (a b : St) : ∃ r, state_Over.f a.f0 a.f1 a.f2 b.f0 b.f1 b.f2 = some r ∧ (r = true ↔ OverS a b) := by
 unfold state_Over.f OverS
 by_cases h1 : a.f0 = b.f0
 ·rw [if_pos h1]
  by_cases h2 : a.f1 ≥ b.f1
  ·rw [if_pos h2, if_pos h1]
   obtain ⟨r, e, q⟩ := over_is a.f2 b.f2
   rw [e]
   exact ⟨r, rfl, by rw [q]; exact ⟨fun x => ⟨h2, x⟩, fun x => x.2⟩⟩
  ·rw [if_neg h2, if_pos h1]
   exact ⟨false, rfl, ⟨fun x => absurd x (by decide), fun x => absurd x.1 h2⟩⟩
 ·rw [if_neg h1, if_neg h1]
  exact ⟨_, rfl, decide_eq_true_iff⟩
theorem over_s_true {a b : St} (h : OverS a b) : state_Over.f a.f0 a.f1 a.f2 b.f0 b.f1 b.f2 = some true := by
 obtain ⟨r, e, q⟩ := over_s a b
 rw [q.2 h] at e
 exact e
theorem over_s_false {a b : St} (h : ¬ OverS a b) : state_Over.f a.f0 a.f1 a.f2 b.f0 b.f1 b.f2 = some false := by
 obtain ⟨r, e, q⟩ := over_s a b
 cases r with
 | false => exact e
 | true => exact absurd (q.1 rfl) h
def joinS (a b : St) : St := if a.f0 > b.f0 then a else if a.f0 < b.f0 then b else ⟨a.f0, mx a.f1 b.f1, joinE a.f2 b.f2⟩
theorem ev_state_Join (a b : St) (ha : a.f2.length < 100000000000) (hb : b.f2.length < 100000000000) : Ev (fun k => state_Join.f k a.f0 a.f1 a.f2 b.f0 b.f1 b.f2) ((joinS a b).f0, (joinS a b).f1, (joinS a b).f2) := by
 unfold state_Join.f joinS
 by_cases h1 : a.f0 > b.f0
 ·simp only [h1, ↓reduceIte, copy_is a (by omega), Option.bind_some]
  exact Ev.now _
 ·by_cases h2 : a.f0 < b.f0
  ·simp only [h1, h2, ↓reduceIte, copy_is b (by omega), Option.bind_some]
   exact Ev.now _
  ·simp only [h1, h2, ↓reduceIte]
   exact Ev.bind (ev_Join a.f2 b.f2 (by omega)) (Ev.now _)
theorem alive05 : Ev (fun k => law05_alive.f k) true := Ev.of (fun k => law05_alive.mono k) (k := 60) (by decide +kernel)
theorem over_antiE {a b : List E} (ha : Ris kE a) (hb : Ris kE b) (h1 : OverE a b) (h2 : OverE b a) : a = b :=
 ris_ext (key := kE) ha hb (fun k => ole_antisymm ((over_iff ha).1 h2 k) ((over_iff hb).1 h1 k))
theorem over_selfE {a : List E} (ha : Ris kE a) : OverE a a := (over_iff ha).2 (fun k => ole_refl _)
theorem over_selfS {a : St} (ha : RightS a) : OverS a a := by
 unfold OverS
 rw [if_pos rfl]
 exact ⟨Int.le_refl _, over_selfE ha.2.2.2.2.1⟩
theorem over_antiS {a b : St} (ha : RightS a) (hb : RightS b) : (OverS a b ∧ OverS b a) ↔ a = b := by
 constructor
 ·intro ⟨h1, h2⟩
  unfold OverS at h1 h2
  by_cases h : a.f0 = b.f0
  ·rw [if_pos h] at h1
   rw [if_pos h.symm] at h2
   exact st_ext h (by omega) (over_antiE ha.2.2.2.2.1 hb.2.2.2.2.1 h1.2 h2.2)
  ·rw [if_neg h] at h1
   rw [if_neg (fun e => h e.symm)] at h2
   omega
 ·intro e
  subst e
  exact ⟨over_selfS ha, over_selfS ha⟩
theorem right_joinS {a b : St} (ha : RightS a) (hb : RightS b) : RightS (joinS a b) := by
 unfold joinS
 split
 ·exact ha
 ·split
  ·exact hb
  ·exact ⟨ha.1, ha.2.1, Int.le_trans ha.2.2.1 (le_mx_l _ _), mx_le ha.2.2.2.1 hb.2.2.2.1, right_join ha.2.2.2.2 hb.2.2.2.2⟩
theorem top_joinS {a b : St} (ha : RightS a) (hb : RightS b) : TopS (joinS a b) ≥ mn (TopS a) (TopS b) := by
 have hm : mn (TopS a) (TopS b) ≤ TopS a ∧ mn (TopS a) (TopS b) ≤ TopS b := by unfold mn; split <;> omega
 unfold joinS
 split
 ·exact hm.1
 ·split
  ·exact hm.2
  ·refine Int.le_trans hm.1 ?_
   show mx a.f1 (TopE a.f2) ≤ mx (mx a.f1 b.f1) (TopE (joinE a.f2 b.f2))
   rw [top_join ha.2.2.2.2.1 hb.2.2.2.2.1]
   simp only [mx_eq]
   omega
theorem lenS {s : St} (h : RightS s) : s.f2.length ≤ 12 := right_len h.2.2.2.2
theorem overs_j1 {a b : St} (ha : RightS a) (hb : RightS b) (x : Bool) (hx : x = true ↔ a = b) : Ev (fun k => law05_StateOvers.j1 k x a.f0 a.f1 a.f2 b.f0 b.f1 b.f2) true := by
 have la := lenS ha
 have lb := lenS hb
 have lj := lenS (right_joinS ha hb)
 have ht := top_joinS ha hb
 refine Ev.step (fun k => by rw [law05_StateOvers.j1]) ?_
 obtain ⟨r, er, qr⟩ := ev_ref05_Same a b (by omega)
 have hxr : (x == r) = true := by rw [beq_iff_eq]; exact bool_iff hx qr
 refine Ev.bind er ?_
 simp only [hxr, ↓reduceIte]
 by_cases hle : a.f0 ≤ b.f0
 ·simp only [hle, ↓reduceIte]
  refine Ev.bind (ev_state_Join a b (by omega) (by omega)) ?_
  refine Ev.bind (ev_state_Top (joinS a b) (by omega)) ?_
  refine Ev.bind (ev_state_Top a (by omega)) (Ev.bind (ev_state_Top b (by omega)) ?_)
  exact Ev.cast (Ev.now _) (decide_eq_true ht)
 ·have h1 : OverS a b := by unfold OverS; rw [if_neg (by omega)]; omega
  have h2 : ¬ OverS b a := by unfold OverS; rw [if_neg (by omega)]; omega
  simp only [hle, ↓reduceIte, over_s_true h1, over_s_false h2, Option.bind_some, Bool.false_eq_true]
  refine Ev.bind (ev_state_Join a b (by omega) (by omega)) ?_
  refine Ev.bind (ev_state_Top (joinS a b) (by omega)) ?_
  refine Ev.bind (ev_state_Top a (by omega)) (Ev.bind (ev_state_Top b (by omega)) ?_)
  exact Ev.cast (Ev.now _) (decide_eq_true ht)
theorem overs_fin {a b : St} (ha : RightS a) (hb : RightS b) : Ev (fun k => law05_StateOvers.j0 k false a.f0 a.f1 a.f2 b.f0 b.f1 b.f2) true := by
 refine Ev.step (fun k => by rw [law05_StateOvers.j0]) ?_
 simp only [Bool.false_eq_true, ↓reduceIte]
 by_cases h1 : OverS a b
 ·obtain ⟨r, er, qr⟩ := over_s b a
  simp only [over_s_true h1, er, Option.bind_some, ↓reduceIte]
  refine overs_j1 ha hb r ?_
  rw [qr, ← over_antiS ha hb]
  exact ⟨fun h => ⟨h1, h⟩, fun h => h.2⟩
 ·simp only [over_s_false h1, Option.bind_some, Bool.false_eq_true, ↓reduceIte]
  refine overs_j1 ha hb false ?_
  rw [← over_antiS ha hb]
  exact ⟨fun h => absurd h (by decide), fun h => absurd h.1 h1⟩
theorem StateOvers : ∀ (x0 : S24) (x1 : S24), G24 x0 → G24 x1 → ∃ k, law05_StateOvers.f k x0.f0 x0.f1 x0.f2 x1.f0 x1.f1 x1.f2 = some true := by
 intro a b ga gb
 refine Ev.rounds (r := true) ?_
 unfold law05_StateOvers.f
 refine Ev.bind alive05 ?_
 simp only [↓reduceIte]
 have out : Ev (fun k => law05_StateOvers.j0 k true a.f0 a.f1 a.f2 b.f0 b.f1 b.f2) true := by
  refine Ev.step (fun k => by rw [law05_StateOvers.j0]) ?_
  simp only [↓reduceIte]
  exact Ev.now _
 obtain ⟨g, eg, qg⟩ := ev_great [a, b] (by simp) (fun s hs => by
  rcases List.mem_cons.1 hs with rfl | hs
  ·exact ga
  ·rcases List.mem_cons.1 hs with rfl | hs
   ·exact gb
   ·simp at hs)
 refine Ev.bind eg ?_
 cases g with
 | true => simp only [↓reduceIte]; exact out
 | false =>
 simp only [Bool.false_eq_true, ↓reduceIte]
 have la := qg rfl a (by simp)
 have lb := qg rfl b (by simp)
 obtain ⟨r1, e1, q1⟩ := ev_ref05_Right a (by omega)
 refine Ev.bind e1 ?_
 cases r1 with
 | false => simp only [Bool.false_eq_true, ↓reduceIte]; exact out
 | true =>
 simp only [↓reduceIte]
 obtain ⟨r2, e2, q2⟩ := ev_ref05_Right b (by omega)
 refine Ev.bind e2 ?_
 cases r2 with
 | false => simp only [Bool.not_false]; exact out
 | true => simp only [Bool.not_true]; exact overs_fin (q1.1 rfl) (q2.1 rfl)
end Go.Proofs.Ytfoeahjbkmdgfaa.Pl

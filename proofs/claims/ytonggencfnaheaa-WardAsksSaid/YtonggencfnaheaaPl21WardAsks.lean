/- WardAsks' plain law: any list of wards is asked, and put into, as the document says, or refused: for all lists. No condition. -/
import Derived.Test.YtonggencfnaheaaHw
import Derived.Test.YtonggencfnaheaaOps
import Derived.Test.YtonggencfnaheaaP0
import Derived.Test.YtonggencfnaheaaPApiWard25
import Derived.Test.YtonggencfnaheaaPApiWard30
import Derived.Test.YtonggencfnaheaaPLaw21Alive
import Derived.Test.YtonggencfnaheaaPLaw21WardAsks
import Derived.Test.YtonggencfnaheaaPRef21Kept
import Derived.Test.YtonggencfnaheaaPRef21Past
import Derived.Test.YtonggencfnaheaaPRef21Put
import Derived.Test.YtonggencfnaheaaPRef21Right
import Derived.Test.YtonggencfnaheaaPRef21Same
import Derived.Test.YtonggencfnaheaaPWardKept
import Derived.Test.YtonggencfnaheaaPWardMay
import Derived.Test.YtonggencfnaheaaPWardPast
import Derived.Test.YtonggencfnaheaaPWardPut
import Derived.Test.YtonggencfnaheaaPWardRight
import Derived.Test.YtonggencfnaheaaPWardSame
namespace Go.Proofs.Ytonggencfnaheaa.Pl
open Go.RowKit Go.Proofs.Ytonggencfnaheaa.P Go.Proofs.YtonggencfnaheaaW.PrintWords Go.Proofs.YtonggencfnaheaaW.PrintLast Go.Proofs.YtonggencfnaheaaW.PrintMore Go.Proofs.YtonggencfnaheaaW.Hw
set_option linter.unusedSimpArgs false
set_option linter.unusedVariables false
abbrev E := S44
theorem wrap_id (x : Int) (h0 : -9223372036854775808 ≤ x) (h1 : x ≤ 9223372036854775807) : wrap64 x = x := by unfold wrap64; omega
theorem wrap_nat (n : Nat) (h : n < 9223372036854775807) : wrap64 ((n : Int) + 1) = ((n + 1 : Nat) : Int) := by unfold wrap64; omega
theorem getD_mid {α : Type} (z : α) (pre : List α) (x : α) (suf : List α) : (pre ++ x :: suf).getD ((pre.length : Nat) : Int).toNat z = x := by
 simp [List.getD_eq_getElem?_getD]
theorem rdE (pre : List E) (x : E) (suf : List E) : rd_T44 (pre ++ x :: suf) ((pre.length : Nat) : Int) = x := getD_mid _ pre x suf
theorem rdE0 (x : E) (suf : List E) : rd_T44 (x :: suf) 0 = x := rfl
theorem mid_lt {α : Type} (pre : List α) (x : α) (suf : List α) : ((pre.length : Nat) : Int) < ((pre ++ x :: suf).length : Int) := by simp <;> omega
theorem end_ge {α : Type} (pre : List α) : ¬ ((pre.length : Nat) : Int) < ((pre ++ ([] : List α)).length : Int) := by simp
theorem nat_ge {α : Type} (pre : List α) : (0 : Int) ≤ ((pre.length : Nat) : Int) := Int.natCast_nonneg _
theorem mid_next {α : Type} (pre : List α) (x : α) (suf : List α) (h : (pre ++ x :: suf).length < 9223372036854775807) : wrap64 (((pre.length : Nat) : Int) + 1) = (((pre ++ [x]).length : Nat) : Int) := by
 rw [wrap_nat _ (by simp at h; omega), List.length_append]; rfl
theorem mid_prev {α : Type} (pre : List α) (y x : α) (suf : List α) (h : ((pre ++ [y]) ++ x :: suf).length < 9223372036854775807) : wrap64 ((((pre ++ [y]).length : Nat) : Int) - 1) = ((pre.length : Nat) : Int) := by
 rw [wrap_id _ (by omega) (by have := h; simp only [List.length_append, List.length_cons, List.length_nil] at *; omega), List.length_append, List.length_singleton]; omega
theorem Ev.nowk {α : Type} (r : α) : Ev (fun _ : Nat => some r) r := Ev.now r
theorem Ev.cast {α : Type} {g : Nat → Option α} {r r' : α} (h : Ev g r) (e : r = r') : Ev g r' := e ▸ h
section
variable {α : Type} (key : α → Int)
def Ris (l : List α) : Prop := l.Pairwise (fun a b => key a < key b)
def look (l : List α) (k : Int) : Option α := l.find? (fun x => key x == k)
variable {key}
theorem ris_nil : Ris key [] := List.Pairwise.nil
theorem ris_cons {x : α} {l : List α} : Ris key (x :: l) ↔ (∀ y ∈ l, key x < key y) ∧ Ris key l := List.pairwise_cons
theorem ris_tail {x : α} {l : List α} (h : Ris key (x :: l)) : Ris key l := (ris_cons.1 h).2
theorem ris_head {x : α} {l : List α} (h : Ris key (x :: l)) : ∀ y ∈ l, key x < key y := (ris_cons.1 h).1
theorem look_cons (x : α) (l : List α) (k : Int) : look key (x :: l) k = if key x = k then some x else look key l k := by
 unfold look
 by_cases h : key x = k
 ·simp [h]
 ·simp [h]
theorem look_mem {l : List α} {k : Int} {x : α} (h : look key l k = some x) : x ∈ l ∧ key x = k := by
 unfold look at h
 exact ⟨List.mem_of_find?_eq_some h, by simpa using List.find?_some h⟩
theorem look_none {l : List α} {k : Int} : look key l k = none ↔ ∀ x ∈ l, key x ≠ k := by
 unfold look
 simp
theorem look_lt {l : List α} {k : Int} (h : ∀ y ∈ l, k < key y) : look key l k = none := look_none.2 (fun x hx => by have := h x hx; omega)
theorem look_of_mem {l : List α} {x : α} (hr : Ris key l) (hx : x ∈ l) : look key l (key x) = some x := by
 induction l with
 | nil => simp at hx
 | cons y l ih =>
  rw [look_cons]
  rcases List.mem_cons.1 hx with rfl | hx
  ·simp
  ·have := ris_head hr x hx
   rw [if_neg (by omega)]
   exact ih (ris_tail hr) hx
/-- A rising list whose keys are from 0 to below n has at most n elements. -/
theorem ris_length (n : Nat) : ∀ (l : List α) (m : Nat), Ris key l → (∀ x ∈ l, (m : Int) ≤ key x ∧ key x < (m : Int) + n) → l.length ≤ n := by
 induction n with
 | zero =>
  intro l m _ h
  match l with
  | [] => exact Nat.le_refl _
  | x :: l => have := h x (by simp); omega
 | succ n ih =>
  intro l m hr h
  match l with
  | [] => simp
  | x :: l =>
   have h1 := ih l (m + 1) (ris_tail hr) (fun y hy => by
    have h2 := h y (by simp [hy]); have h3 := ris_head hr y hy; have h4 := h x (by simp); omega)
   simp; omega
end
theorem bool_iff {a b : Bool} {p : Prop} (ha : a = true ↔ p) (hb : b = true ↔ p) : a = b := by
 cases a <;> cases b <;> simp_all
theorem mx_eq (a b : Int) : mx a b = max a b := by unfold mx; rw [Int.max_def]; split <;> split <;> omega
section
variable {α : Type} {key : α → Int}
theorem ris_cons2 {y x : α} {l : List α} : Ris key (y :: x :: l) ↔ key y < key x ∧ Ris key (x :: l) := by
 rw [ris_cons]
 constructor
 ·rintro ⟨h1, h2⟩; exact ⟨h1 x (by simp), h2⟩
 ·rintro ⟨h1, h2⟩
  refine ⟨fun z hz => ?_, h2⟩
  rcases List.mem_cons.1 hz with rfl | hz
  ·exact h1
  ·have := ris_head h2 z hz; omega
theorem ris_one (x : α) : Ris key [x] := List.pairwise_singleton _ x
end
theorem wrap01 : wrap64 (0 + 1) = 1 := wrap_id 1 (by omega) (by omega)
theorem all_cons {α : Type} {Q : α → Prop} {x : α} {l : List α} (hx : Q x) (hl : ∀ z, z ∈ l → Q z) : ∀ z, z ∈ x :: l → Q z := fun z hz => by
 rcases List.mem_cons.1 hz with rfl | hz
 ·exact hx
 ·exact hl z hz
theorem len_pos {α : Type} (x : α) (l : List α) : (0 : Int) < ((x :: l).length : Int) := by simp <;> omega
theorem pos_mid {α : Type} (p : List α) (y : α) : (((p ++ [y]).length : Nat) : Int) > 0 := by simp <;> omega
theorem prev_ge {α : Type} (p : List α) (y x : α) (s : List α) : ((p.length : Nat) : Int) < (((p ++ [y]) ++ x :: s).length : Int) := by simp <;> omega
section
variable {α : Type} (key : α → Int)
/-- An element in its place of a rising list. -/
def putL (l : List α) (x : α) : List α := l.filter (fun y => decide (key y < key x)) ++ [x] ++ l.filter (fun y => decide (key x < key y))
theorem split_at {l : List α} (p : α → Bool) (z : α) {i : Nat} (hi : i ≤ l.length) (h1 : ∀ j, j < i → p (l.getD j z) = true) (h2 : ∀ j, i ≤ j → j < l.length → p (l.getD j z) = false) : l.filter p = l.take i ∧ l.filter (fun y => !p y) = l.drop i := by
 have e1 : ∀ y ∈ l.take i, p y = true := fun y hy => by
  obtain ⟨j, hj, rfl⟩ := List.getElem_of_mem hy
  rw [List.length_take] at hj
  have := h1 j (by omega)
  rw [List.getD_eq_getElem?_getD, List.getElem?_eq_getElem (by omega)] at this
  rw [List.getElem_take]
  exact this
 have e2 : ∀ y ∈ l.drop i, p y = false := fun y hy => by
  obtain ⟨j, hj, rfl⟩ := List.getElem_of_mem hy
  rw [List.length_drop] at hj
  have := h2 (i + j) (by omega) (by omega)
  rw [List.getD_eq_getElem?_getD, List.getElem?_eq_getElem (by omega)] at this
  rw [List.getElem_drop]
  exact this
 constructor
 ·conv => lhs; rw [← List.take_append_drop i l, List.filter_append]
  rw [List.filter_eq_self.2 e1, List.filter_eq_nil_iff.2 (fun y hy => by simp [e2 y hy]), List.append_nil]
 ·conv => lhs; rw [← List.take_append_drop i l, List.filter_append]
  rw [List.filter_eq_nil_iff.2 (fun y hy => by simp [e1 y hy]), List.filter_eq_self.2 (fun y hy => by simp [e2 y hy]), List.nil_append]
theorem put_at {l : List α} (x z : α) (hr : Ris key l) {i : Nat} (hi : i ≤ l.length) (h1 : ∀ j, j < i → key (l.getD j z) < key x) (h2 : ∀ j, i ≤ j → j < l.length → ¬ key (l.getD j z) < key x) :
  (i < l.length → key (l.getD i z) = key x → l.set i x = putL key l x) ∧ ((i < l.length → key (l.getD i z) ≠ key x) → l.take i ++ [x] ++ l.drop i = putL key l x) := by
 obtain ⟨a, b⟩ := split_at (fun y => decide (key y < key x)) z hi (fun j hj => decide_eq_true (h1 j hj)) (fun j hj hn => decide_eq_false (h2 j hj hn))
 unfold putL
 rw [a]
 constructor
 ·intro hl he
  rw [List.getD_eq_getElem?_getD, List.getElem?_eq_getElem hl] at he
  have he : key l[i] = key x := he
  rw [List.set_eq_take_append_cons_drop, if_pos hl, List.append_assoc, List.singleton_append]
  congr 2
  have hsplit : l = l.take (i + 1) ++ l.drop (i + 1) := (List.take_append_drop _ _).symm
  have hp := hr
  unfold Ris at hp
  rw [hsplit, List.take_succ_eq_append_getElem hl, List.pairwise_append] at hp
  obtain ⟨_, hd, hx⟩ := hp
  conv => rhs; rw [hsplit, List.take_succ_eq_append_getElem hl, List.filter_append, List.filter_append]
  rw [List.filter_eq_nil_iff.2 (fun y hy => ?_), List.filter_eq_nil_iff.2 (fun y hy => ?_), List.filter_eq_self.2 (fun y hy => ?_)]
  ·rfl
  ·have := hx l[i] (List.mem_append_right _ (List.mem_singleton_self _)) y hy
   exact decide_eq_true (by omega)
  ·simp only [List.mem_singleton] at hy
   subst hy
   simp [he]
  ·have hm : y ∈ l.filter (fun y => decide (key y < key x)) := by rw [a]; exact hy
   have := (List.mem_filter.1 hm).2
   simp only [decide_eq_true_eq] at this ⊢
   omega
 ·intro hne
  congr 1
  rw [← b]
  refine List.filter_congr (fun y hy => ?_)
  have : key y ≠ key x := by
   intro he
   obtain ⟨j, hj, rfl⟩ := List.getElem_of_mem hy
   have hij : i ≤ j := by
    rcases Nat.lt_or_ge j i with h | h
    ·have := h1 j h
     rw [List.getD_eq_getElem?_getD, List.getElem?_eq_getElem hj] at this
     have this : key l[j] < key x := this
     omega
    ·exact h
   have hil : i < l.length := by omega
   have h3 := hne hil
   have h4 := h2 i (Nat.le_refl _) hil
   rw [List.getD_eq_getElem?_getD, List.getElem?_eq_getElem hil] at h3 h4
   have h3 : key l[i] ≠ key x := h3
   have h4 : ¬ key l[i] < key x := h4
   rcases Nat.eq_or_lt_of_le hij with h | h
   ·subst h; exact h3 he
   ·have := (List.pairwise_iff_getElem.1 hr) i j hil hj h
    omega
  have hd : (key y < key x) ∨ (key x < key y) := by omega
  rcases hd with h | h
  ·simp [h]; omega
  ·simp [h]; omega
theorem ris_put {l : List α} (x : α) (hr : Ris key l) : Ris key (putL key l x) := by
 unfold putL Ris
 refine List.pairwise_append.2 ⟨List.pairwise_append.2 ⟨List.Pairwise.filter _ hr, List.pairwise_singleton _ _, fun a ha b hb => ?_⟩, List.Pairwise.filter _ hr, fun a ha b hb => ?_⟩
 ·simp only [List.mem_filter, List.mem_singleton, decide_eq_true_eq] at ha hb
  subst hb
  exact ha.2
 ·simp only [List.mem_append, List.mem_filter, List.mem_singleton, decide_eq_true_eq] at ha hb
  rcases ha with ha | ha
  ·omega
  ·subst ha; exact hb.2
theorem mem_put {l : List α} {x y : α} (h : y ∈ putL key l x) : y = x ∨ y ∈ l := by
 unfold putL at h
 simp only [List.mem_append, List.mem_filter, List.mem_singleton] at h
 rcases h with (h | h) | h
 ·exact Or.inr h.1
 ·exact Or.inl h
 ·exact Or.inr h.1
end
theorem halve_is (less : Nat → Bool) (n : Nat) (hm : ∀ i j, i ≤ j → j < n → less j = true → less i = true) : ∀ (f lo hi : Nat), hi - lo ≤ f → lo ≤ hi → hi ≤ n → (∀ j, j < lo → less j = true) → (∀ j, hi ≤ j → j < n → less j = false) →
  halveW less f lo hi ≤ n ∧ (∀ j, j < halveW less f lo hi → less j = true) ∧ (∀ j, halveW less f lo hi ≤ j → j < n → less j = false) := by
 intro f
 induction f with
 | zero =>
  intro lo hi h1 h2 h3 h4 h5
  have : lo = hi := by omega
  subst this
  exact ⟨h3, h4, h5⟩
 | succ f ih =>
  intro lo hi h1 h2 h3 h4 h5
  unfold halveW
  split
  ·split
   ·rename_i hl
    refine ih _ _ (by omega) (by omega) h3 (fun j hj => ?_) h5
    exact hm j _ (by omega) (by omega) hl
   ·rename_i hl
    refine ih _ _ (by omega) (by omega) (by omega) h4 (fun j hj hjn => ?_)
    cases hb : less j with
    | false => rfl
    | true => exact absurd (hm _ j hj hjn hb) hl
  ·have : lo = hi := by omega
   subst this
   exact ⟨h3, h4, h5⟩
theorem getD_mem {α : Type} (l : List α) (z : α) {j : Nat} (h : j < l.length) : l.getD j z ∈ l := by
 rw [List.getD_eq_getElem?_getD, List.getElem?_eq_getElem h]
 exact List.getElem_mem h
theorem rdE1 (p : List E) (y x : E) (s : List E) : rd_T44 ((p ++ [y]) ++ x :: s) ((p.length : Nat) : Int) = y := by rw [← List.append_cons]; exact rdE p y (x :: s)
def kE (x : E) : Int := x.f0
def MayW (x : E) : Prop := 0 ≤ x.f0 ∧ x.f0 < 8 ∧ 0 ≤ x.f1 ∧ x.f1 ≤ 1099511627776
def RightW (l : List E) : Prop := Ris kE l ∧ ∀ x ∈ l, MayW x
theorem e_ext {x y : E} (h0 : x.f0 = y.f0) (h1 : x.f1 = y.f1) : x = y := by cases x; cases y; simp only at h0 h1; subst h0; subst h1; rfl
theorem right_len {a : List E} (h : RightW a) : a.length ≤ 8 := ris_length 8 a 0 h.1 (fun x hx => by have := h.2 x hx; unfold MayW at this; unfold kE; omega)
theorem may_is (x : E) : ∃ r, ward_may.f x.f0 x.f1 = some r ∧ (r = true ↔ MayW x) := by
 unfold ward_may.f MayW
 by_cases h1 : x.f0 ≥ 0
 ·by_cases h2 : x.f0 < 8
  ·by_cases h3 : x.f1 ≥ 0
   ·refine ⟨_, by simp only [h1, h2, h3, ↓reduceIte]; rfl, ?_⟩
    simp; omega
   ·exact ⟨false, by simp only [h1, h2, h3, ↓reduceIte], by simp; omega⟩
  ·exact ⟨false, by simp only [h1, h2, ↓reduceIte], by simp; omega⟩
 ·exact ⟨false, by simp only [h1, ↓reduceIte], by simp; omega⟩
theorem ev_ward_Right_l0 (suf : List E) : ∀ (p : List E) (y : E), ((p ++ [y]) ++ suf).length < 4611686018427387904 →
  ∃ r, Ev (fun k => ward_Right.l0 k ((p ++ [y]) ++ suf) ((p ++ [y]) ++ suf) (((p ++ [y]) ++ suf).length : Int) ((p ++ [y]).length : Int)) r ∧ (r = true ↔ Ris kE (y :: suf) ∧ ∀ x ∈ suf, MayW x) := by
 induction suf with
 | nil =>
  intro p y h
  refine ⟨true, Ev.step (fun k => by rw [ward_Right.l0]) ?_, by simp [ris_one]⟩
  simp only [end_ge, ↓reduceIte]
  exact Ev.now _
 | cons x suf ih =>
  intro p y h
  obtain ⟨m, hm, hmi⟩ := may_is x
  cases m with
  | false =>
   refine ⟨false, Ev.step (fun k => by rw [ward_Right.l0]) ?_, ?_⟩
   ·simp only [mid_lt, nat_ge, ↓reduceIte, rdE, hm, Option.bind_some, Bool.false_eq_true]
    exact Ev.now _
   ·simp only [Bool.false_eq_true, false_iff]
    rintro ⟨_, h2⟩
    exact absurd (hmi.2 (h2 x (by simp))) (by simp)
  | true =>
   by_cases hk : y.f0 ≥ x.f0
   ·refine ⟨false, Ev.step (fun k => by rw [ward_Right.l0]) ?_, ?_⟩
    ·simp only [mid_lt, nat_ge, ↓reduceIte, rdE, hm, Option.bind_some, pos_mid, mid_prev p y x suf (by omega), prev_ge, rdE1, hk]
     exact Ev.now _
    ·simp only [Bool.false_eq_true, false_iff, ris_cons2]
     rintro ⟨⟨h1, _⟩, _⟩
     unfold kE at h1; omega
   ·obtain ⟨r, hr, hi⟩ := ih (p ++ [y]) x (by rw [← List.append_cons]; exact h)
    refine ⟨r, Ev.step (fun k => by rw [ward_Right.l0]) ?_, ?_⟩
    ·simp only [mid_lt, nat_ge, ↓reduceIte, rdE, hm, Option.bind_some, pos_mid, mid_prev p y x suf (by omega), prev_ge, rdE1, hk, mid_next (p ++ [y]) x suf (by omega)]
     rw [← List.append_cons (p ++ [y]) x suf] at hr
     exact hr
    ·rw [hi, ris_cons2]
     have := hmi.1 rfl
     constructor
     ·rintro ⟨h1, h2⟩
      exact ⟨⟨by unfold kE; omega, h1⟩, all_cons (this) (fun z hz => h2 z hz)⟩
     ·rintro ⟨⟨_, h1⟩, h2⟩
      exact ⟨h1, fun z hz => h2 z (by simp [hz])⟩
theorem ev_ward_Right (l : List E) (h : l.length < 4611686018427387904) : ∃ r, Ev (fun k => ward_Right.f k l) r ∧ (r = true ↔ RightW l) := by
 cases l with
 | nil =>
  refine ⟨true, Ev.step (g := fun k => ward_Right.l0 k [] [] 0 0) (fun k => by rw [ward_Right.l0]) ?_, by simp [RightW, ris_nil]⟩
  simp only [Int.lt_irrefl, ↓reduceIte]
  exact Ev.now _
 | cons x l =>
  obtain ⟨m, hm, hmi⟩ := may_is x
  have e0 : (0 : Int) < ((x :: l).length : Int) := len_pos x l
  cases m with
  | false =>
   refine ⟨false, Ev.step (g := fun k => ward_Right.l0 k (x :: l) (x :: l) ((x :: l).length : Int) 0) (fun k => by rw [ward_Right.l0]) ?_, ?_⟩
   ·simp only [e0, Int.le_refl, ↓reduceIte, rdE0, hm, Option.bind_some, Bool.false_eq_true]
    exact Ev.now _
   ·simp only [Bool.false_eq_true, false_iff]
    rintro ⟨_, h2⟩
    exact absurd (hmi.2 (h2 x (by simp))) (by simp)
  | true =>
   obtain ⟨r, hr, hi⟩ := ev_ward_Right_l0 l [] x h
   refine ⟨r, Ev.step (g := fun k => ward_Right.l0 k (x :: l) (x :: l) ((x :: l).length : Int) 0) (fun k => by rw [ward_Right.l0]) ?_, ?_⟩
   ·simp only [e0, Int.le_refl, ↓reduceIte, rdE0, hm, Option.bind_some, gt_iff_lt, Int.lt_irrefl, wrap01]
    exact hr
   ·rw [hi]
    constructor
    ·rintro ⟨h1, h2⟩
     exact ⟨h1, all_cons (hmi.1 rfl) (fun z hz => h2 z hz)⟩
    ·rintro ⟨h1, h2⟩
     exact ⟨h1, fun z hz => h2 z (by simp [hz])⟩
/-- Of one ward, in the document's order. -/
theorem ev_ref21_Right_l0 (suf : List E) : ∀ (p : List E) (y : E), ((p ++ [y]) ++ suf).length < 4611686018427387904 →
  ∃ r, Ev (fun k => ref21_Right.l0 k ((p ++ [y]) ++ suf) ((p ++ [y]).length : Int)) r ∧ (r = true ↔ Ris kE (y :: suf) ∧ ∀ x ∈ suf, MayW x) := by
 induction suf with
 | nil =>
  intro p y h
  refine ⟨true, Ev.step (fun k => by rw [ref21_Right.l0]) ?_, by simp [ris_one]⟩
  simp only [end_ge, ↓reduceIte]
  exact Ev.now _
 | cons x suf ih =>
  intro p y h
  obtain ⟨r, hr, hi⟩ := ih (p ++ [y]) x (by rw [← List.append_cons]; exact h)
  rw [← List.append_cons (p ++ [y]) x suf] at hr
  have no : ∀ q : Prop, (q → False) → (false = true ↔ q) := fun q hq => ⟨fun e => absurd e (by decide), fun e => (hq e).elim⟩
  by_cases h1 : x.f0 < 0
  ·refine ⟨false, Ev.step (fun k => by rw [ref21_Right.l0]) ?_, no _ (fun hq => by have := hq.2 x (by simp); unfold MayW at this; omega)⟩
   simp only [mid_lt, nat_ge, ↓reduceIte, rdE, h1]
   exact Ev.now _
  by_cases h2 : x.f0 ≥ 8
  ·refine ⟨false, Ev.step (fun k => by rw [ref21_Right.l0]) ?_, no _ (fun hq => by have := hq.2 x (by simp); unfold MayW at this; omega)⟩
   simp only [mid_lt, nat_ge, ↓reduceIte, rdE, h1, h2]
   exact Ev.now _
  by_cases hk : y.f0 ≥ x.f0
  ·refine ⟨false, Ev.step (fun k => by rw [ref21_Right.l0]) ?_, no _ (fun hq => by have := (ris_cons2.1 hq.1).1; unfold kE at this; omega)⟩
   simp only [mid_lt, nat_ge, ↓reduceIte, rdE, h1, h2, pos_mid, mid_prev p y x suf (by omega), prev_ge, rdE1, hk]
   exact Ev.now _
  by_cases h3 : x.f1 < 0
  ·refine ⟨false, Ev.step (fun k => by rw [ref21_Right.l0]) ?_, no _ (fun hq => by have := hq.2 x (by simp); unfold MayW at this; omega)⟩
   simp only [mid_lt, nat_ge, ↓reduceIte, rdE, h1, h2, pos_mid, mid_prev p y x suf (by omega), prev_ge, rdE1, hk, h3]
   exact Ev.now _
  by_cases h4 : x.f1 > 1099511627776
  ·refine ⟨false, Ev.step (fun k => by rw [ref21_Right.l0]) ?_, no _ (fun hq => by have := hq.2 x (by simp); unfold MayW at this; omega)⟩
   simp only [mid_lt, nat_ge, ↓reduceIte, rdE, h1, h2, pos_mid, mid_prev p y x suf (by omega), prev_ge, rdE1, hk, h3, h4]
   exact Ev.now _
  refine ⟨r, Ev.step (fun k => by rw [ref21_Right.l0]) ?_, ?_⟩
  ·simp only [mid_lt, nat_ge, ↓reduceIte, rdE, h1, h2, pos_mid, mid_prev p y x suf (by omega), prev_ge, rdE1, hk, h3, h4, mid_next (p ++ [y]) x suf (by omega)]
   exact hr
  ·rw [hi, ris_cons2]
   constructor
   ·rintro ⟨g1, g2⟩
    exact ⟨⟨by unfold kE; omega, g1⟩, all_cons (by unfold MayW; omega) (fun z hz => g2 z hz)⟩
   ·rintro ⟨⟨_, g1⟩, g2⟩
    exact ⟨g1, fun z hz => g2 z (by simp [hz])⟩
theorem ev_ref21_Right (l : List E) (h : l.length < 4611686018427387904) : ∃ r, Ev (fun k => ref21_Right.f k l) r ∧ (r = true ↔ RightW l) := by
 cases l with
 | nil =>
  refine ⟨true, Ev.step (g := fun k => ref21_Right.l0 k [] 0) (fun k => by rw [ref21_Right.l0]) ?_, by simp [RightW, ris_nil]⟩
  simp only [List.length_nil, Int.natCast_zero, Int.lt_irrefl, ↓reduceIte]
  exact Ev.now _
 | cons x l =>
  have e0 : (0 : Int) < ((x :: l).length : Int) := len_pos x l
  have no : ∀ q : Prop, (q → False) → (false = true ↔ q) := fun q hq => ⟨fun e => absurd e (by decide), fun e => (hq e).elim⟩
  by_cases h1 : x.f0 < 0
  ·refine ⟨false, Ev.step (g := fun k => ref21_Right.l0 k (x :: l) 0) (fun k => by rw [ref21_Right.l0]) ?_, no _ (fun hq => by have := hq.2 x (by simp); unfold MayW at this; omega)⟩
   simp only [e0, Int.le_refl, ↓reduceIte, rdE0, h1]
   exact Ev.now _
  by_cases h2 : x.f0 ≥ 8
  ·refine ⟨false, Ev.step (g := fun k => ref21_Right.l0 k (x :: l) 0) (fun k => by rw [ref21_Right.l0]) ?_, no _ (fun hq => by have := hq.2 x (by simp); unfold MayW at this; omega)⟩
   simp only [e0, Int.le_refl, ↓reduceIte, rdE0, h1, h2]
   exact Ev.now _
  by_cases h3 : x.f1 < 0
  ·refine ⟨false, Ev.step (g := fun k => ref21_Right.l0 k (x :: l) 0) (fun k => by rw [ref21_Right.l0]) ?_, no _ (fun hq => by have := hq.2 x (by simp); unfold MayW at this; omega)⟩
   simp only [e0, Int.le_refl, ↓reduceIte, rdE0, h1, h2, gt_iff_lt, Int.lt_irrefl, h3]
   exact Ev.now _
  by_cases h4 : x.f1 > 1099511627776
  ·refine ⟨false, Ev.step (g := fun k => ref21_Right.l0 k (x :: l) 0) (fun k => by rw [ref21_Right.l0]) ?_, no _ (fun hq => by have := hq.2 x (by simp); unfold MayW at this; omega)⟩
   have h4' : 1099511627776 < x.f1 := h4
   simp only [e0, Int.le_refl, ↓reduceIte, rdE0, h1, h2, gt_iff_lt, Int.lt_irrefl, h3, h4']
   exact Ev.now _
  obtain ⟨r, hr, hi⟩ := ev_ref21_Right_l0 l [] x h
  refine ⟨r, Ev.step (g := fun k => ref21_Right.l0 k (x :: l) 0) (fun k => by rw [ref21_Right.l0]) ?_, ?_⟩
  ·have h4' : ¬ 1099511627776 < x.f1 := h4
   simp only [e0, Int.le_refl, ↓reduceIte, rdE0, h1, h2, gt_iff_lt, Int.lt_irrefl, h3, h4', wrap01]
   exact hr
  ·rw [hi]
   constructor
   ·rintro ⟨g1, g2⟩
    exact ⟨g1, all_cons (by unfold MayW; omega) (fun z hz => g2 z hz)⟩
   ·rintro ⟨g1, g2⟩
    exact ⟨g1, fun z hz => g2 z (by simp [hz])⟩
theorem ne_is (x y : E) : (!(x.f0 == y.f0) || (!(x.f1 == y.f1))) = true ↔ x ≠ y := by
 constructor
 ·intro h e
  subst e
  simp at h
 ·intro h
  by_cases h0 : x.f0 = y.f0
  ·by_cases h1 : x.f1 = y.f1
   ·exact absurd (e_ext h0 h1) h
   ·simp [h1]
  ·simp [h0]
theorem ev_ref21_Same_l0 (sa : List E) : ∀ (sb pa pb : List E), pa.length = pb.length → sa.length = sb.length → (pa ++ sa).length < 4611686018427387904 →
  ∃ r, Ev (fun k => ref21_Same.l0 k (pa ++ sa) (pb ++ sb) (pa.length : Int)) r ∧ (r = true ↔ sa = sb) := by
 induction sa with
 | nil =>
  intro sb pa pb hp hs h
  have : sb = [] := List.eq_nil_of_length_eq_zero (by simpa using hs.symm)
  subst this
  refine ⟨true, Ev.step (fun k => by rw [ref21_Same.l0]) ?_, by simp⟩
  simp only [end_ge, ↓reduceIte]
  exact Ev.now _
 | cons x sa ih =>
  intro sb pa pb hp hs h
  match sb, hs with
  | y :: sb, hs =>
   have r2 : rd_T44 (pb ++ y :: sb) (pa.length : Int) = y := by rw [hp]; exact rdE pb y sb
   have l2 : (pa.length : Int) < ((pb ++ y :: sb).length : Int) := by rw [hp]; exact mid_lt pb y sb
   by_cases hxy : x = y
   ·subst hxy
    obtain ⟨r, h1, h2⟩ := ih sb (pa ++ [x]) (pb ++ [x]) (by simp [hp]) (by simpa using hs) (by rw [← List.append_cons]; exact h)
    refine ⟨r, Ev.step (fun k => by rw [ref21_Same.l0]) ?_, ?_⟩
    ·have hn : ¬ ((!(x.f0 == x.f0) || (!(x.f1 == x.f1))) = true) := fun e => (ne_is x x).1 e rfl
     simp only [mid_lt, l2, nat_ge, ↓reduceIte, rdE, r2, hn, mid_next pa x sa (by omega)]
     rw [← List.append_cons pa x sa, ← List.append_cons pb x sb] at h1
     exact h1
    ·rw [h2]; simp
   ·refine ⟨false, Ev.step (fun k => by rw [ref21_Same.l0]) ?_, ?_⟩
    ·have hn := (ne_is x y).2 hxy
     simp only [mid_lt, l2, nat_ge, ↓reduceIte, rdE, r2, hn]
     exact Ev.now _
    ·simp [hxy]
theorem ev_ref21_Same (a b : List E) (h : a.length < 4611686018427387904) : ∃ r, Ev (fun k => ref21_Same.f k a b) r ∧ (r = true ↔ a = b) := by
 unfold ref21_Same.f
 by_cases hl : (a.length : Int) = (b.length : Int)
 ·obtain ⟨r, h1, h2⟩ := ev_ref21_Same_l0 a b [] [] rfl (by omega) h
  refine ⟨r, ?_, h2⟩
  simp only [hl, ↓reduceIte]
  exact h1
 ·refine ⟨false, ?_, ⟨fun e => absurd e (by decide), fun e => absurd (by rw [e]) hl⟩⟩
  simp only [hl, ↓reduceIte]
  exact Ev.now _
theorem ev_same_true {a b : List E} (h : a.length < 4611686018427387904) (e : a = b) : Ev (fun k => ref21_Same.f k a b) true := by
 obtain ⟨r, h1, h2⟩ := ev_ref21_Same a b h
 rw [h2.2 e] at h1
 exact h1
def kept (l : List E) (n now : Int) : Bool := l.any (fun x => x.f0 == n && decide (x.f1 > now))
theorem kept_is (l : List E) (n now : Int) : ward_Kept.f l n now = some (kept l n now) := rfl
/-- Until when, put beside what there is. -/
def till (l : List E) (n u : Int) : Int := match look kE l n with | some y => mx y.f1 u | none => u
def putW (l : List E) (n u : Int) : List E := putL kE l ⟨n, till l n u⟩
theorem may_till {l : List E} (hl : RightW l) {n u : Int} (hx : MayW ⟨n, u⟩) : MayW ⟨n, till l n u⟩ := by
 unfold MayW at hx ⊢
 unfold till
 refine ⟨hx.1, hx.2.1, ?_⟩
 cases h : look kE l n with
 | none => exact hx.2.2
 | some y =>
  have hy := hl.2 y (look_mem h).1
  unfold MayW at hy
  show 0 ≤ mx y.f1 u ∧ mx y.f1 u ≤ 1099511627776
  rw [mx_eq]
  have h3 : 0 ≤ u ∧ u ≤ 1099511627776 := hx.2.2
  omega
theorem right_put {l : List E} (hl : RightW l) {n u : Int} (hx : MayW ⟨n, u⟩) : RightW (putW l n u) := ⟨ris_put kE _ hl.1, fun y hy => by
 rcases mem_put kE hy with rfl | h
 ·exact may_till hl hx
 ·exact hl.2 y h⟩
theorem res_is {l : List E} (hl : RightW l) {n u : Int} (hx : MayW ⟨n, u⟩) : ward_Put.res l n u = putW l n u := by
 have hn : l.length < 1099511627776 := by have := right_len hl; omega
 have hwr : ∀ y : E, MayW y → wrap64 (y.f0 - n) = y.f0 - n := fun y hy => by
  unfold MayW at hy hx
  have h1 : 0 ≤ n ∧ n < 8 := ⟨hx.1, hx.2.1⟩
  exact wrap_id _ (by omega) (by omega)
 have hw : ∀ j, j < l.length → wrap64 ((l.getD j z44).f0 - n) = (l.getD j z44).f0 - n := fun j hj => hwr _ (hl.2 _ (getD_mem l _ hj))
 have hmono : ∀ i j, i ≤ j → j < l.length → decide (wrap64 ((l.getD j z44).f0 - n) < 0) = true → decide (wrap64 ((l.getD i z44).f0 - n) < 0) = true := by
  intro i j hij hj h
  rw [decide_eq_true_eq, hw j hj] at h
  rw [decide_eq_true_eq, hw i (by omega)]
  rcases Nat.eq_or_lt_of_le hij with e | e
  ·subst e; exact h
  ·have := (List.pairwise_iff_getElem.1 hl.1) i j (by omega) hj e
   rw [List.getD_eq_getElem?_getD, List.getElem?_eq_getElem hj] at h
   rw [List.getD_eq_getElem?_getD, List.getElem?_eq_getElem (show i < l.length by omega)]
   have h : l[j].f0 - n < 0 := h
   show l[i].f0 - n < 0
   unfold kE at this
   omega
 obtain ⟨hle, h1, h2⟩ := halve_is (fun j => decide (wrap64 ((l.getD j z44).f0 - n) < 0)) l.length hmono l.length 0 l.length (by omega) (by omega) (Nat.le_refl _) (fun j hj => absurd hj (by omega)) (fun j hj hj2 => absurd hj2 (by omega))
 unfold ward_Put.res ward_Put.hit ward_Put.pl
 generalize halveW (fun j => decide (wrap64 ((l.getD j z44).f0 - n) < 0)) l.length 0 l.length = i at hle h1 h2
 have g1 : ∀ j, j < i → kE (l.getD j z44) < n := fun j hj => by
  have := h1 j hj
  rw [decide_eq_true_eq, hw j (by omega)] at this
  unfold kE; omega
 have g2 : ∀ j, i ≤ j → j < l.length → ¬ kE (l.getD j z44) < n := fun j hj hjn => by
  have := h2 j hj hjn
  rw [decide_eq_false_iff_not, hw j hjn] at this
  unfold kE; omega
 by_cases hil : i < l.length
 ·by_cases he : (l.getD i z44).f0 = n
  ·rw [if_pos (by rw [decide_eq_true hil, hw i hil, Bool.true_and]; exact decide_eq_true (by omega))]
   have hlk : look kE l n = some (l.getD i z44) := by
    have := look_of_mem (key := kE) hl.1 (getD_mem l z44 hil)
    unfold kE at this
    rw [he] at this
    exact this
   have ht : till l n u = mx (l.getD i z44).f1 u := by unfold till; rw [hlk]
   obtain ⟨ha, _⟩ := put_at kE (⟨n, till l n u⟩ : E) z44 hl.1 hle g1 g2
   have := ha hil he
   rw [he, ← ht]
   exact this
  ·rw [if_neg (by rw [decide_eq_true hil, hw i hil, Bool.true_and, decide_eq_true_eq]; omega)]
   have hlk : look kE l n = none := look_none.2 (fun x hx e => by
    obtain ⟨j, hj, rfl⟩ := List.getElem_of_mem hx
    have hgj : l.getD j z44 = l[j] := by rw [List.getD_eq_getElem?_getD, List.getElem?_eq_getElem hj]; rfl
    rcases Nat.lt_or_ge j i with h | h
    ·have := g1 j h
     rw [hgj] at this
     omega
    ·have hgi : l.getD i z44 = l[i] := by rw [List.getD_eq_getElem?_getD, List.getElem?_eq_getElem hil]; rfl
     have h3 := g2 i (Nat.le_refl _) hil
     rw [hgi] at h3 he
     rcases Nat.eq_or_lt_of_le h with e2 | e2
     ·subst e2; exact he e
     ·have := (List.pairwise_iff_getElem.1 hl.1) i j hil hj e2
      unfold kE at *
      omega)
   have ht : till l n u = u := by unfold till; rw [hlk]
   obtain ⟨_, hb⟩ := put_at kE (⟨n, u⟩ : E) z44 hl.1 hle g1 g2
   unfold putW
   rw [ht]
   exact hb (fun _ => he)
 ·rw [if_neg (by rw [decide_eq_false hil, Bool.false_and]; decide)]
  have hlk : look kE l n = none := look_none.2 (fun x hx e => by
   obtain ⟨j, hj, rfl⟩ := List.getElem_of_mem hx
   have hgj : l.getD j z44 = l[j] := by rw [List.getD_eq_getElem?_getD, List.getElem?_eq_getElem hj]; rfl
   have := g1 j (by omega)
   rw [hgj] at this
   omega)
  have ht : till l n u = u := by unfold till; rw [hlk]
  obtain ⟨_, hb⟩ := put_at kE (⟨n, u⟩ : E) z44 hl.1 hle g1 g2
  unfold putW
  rw [ht]
  exact hb (fun h => absurd h hil)
open Classical in
noncomputable def putR (l : List E) (n u : Int) : List E × Int := if MayW ⟨n, u⟩ ∧ RightW l then (putW l n u, 0) else (l, 1)
theorem ev_Put (l : List E) (n u : Int) (h : l.length < 1099511627776) : Ev (fun k => ward_Put.f k l n u) (putR l n u) := by
 unfold ward_Put.f putR
 obtain ⟨m, em, qm⟩ := may_is ⟨n, u⟩
 have em : ward_may.f n u = some m := em
 rw [em]
 cases m with
 | false =>
  rw [if_neg (show ¬ (MayW ⟨n, u⟩ ∧ RightW l) from fun hq => absurd (qm.2 hq.1) (by decide))]
  simp only [Option.bind_some, Bool.false_eq_true, ↓reduceIte]
  exact Ev.now _
 | true =>
  simp only [Option.bind_some, ↓reduceIte]
  obtain ⟨r, er, qr⟩ := ev_ward_Right l (by omega)
  refine Ev.bind er ?_
  cases r with
  | false =>
   rw [if_neg (show ¬ (MayW ⟨n, u⟩ ∧ RightW l) from fun hq => absurd (qr.2 hq.2) (by decide))]
   simp only [Bool.false_eq_true, ↓reduceIte]
   exact Ev.now _
  | true =>
   rw [if_pos (show MayW ⟨n, u⟩ ∧ RightW l from ⟨qm.1 rfl, qr.1 rfl⟩)]
   simp only [↓reduceIte, h, res_is (qr.1 rfl) (qm.1 rfl)]
   exact Ev.now _
theorem alive21 : Ev (fun k => law21_alive.f k) true := Ev.of (fun k => law21_alive.mono k) (k := 60) (by decide +kernel)
theorem ev_ref21_Kept_l0 (n now : Int) (suf : List E) : ∀ (pre : List E), (pre ++ suf).length < 4611686018427387904 →
  Ev (fun k => ref21_Kept.l0 k (pre ++ suf) n now (pre.length : Int)) (kept suf n now) := by
 induction suf with
 | nil =>
  intro pre h
  refine Ev.step (fun k => by rw [ref21_Kept.l0]) ?_
  simp only [end_ge, ↓reduceIte]
  exact Ev.now _
 | cons x suf ih =>
  intro pre h
  have i := ih (pre ++ [x]) (by rw [← List.append_cons]; exact h)
  rw [← List.append_cons pre x suf] at i
  refine Ev.step (fun k => by rw [ref21_Kept.l0]) ?_
  simp only [mid_lt, nat_ge, rdE, ↓reduceIte, mid_next pre x suf (by omega)]
  unfold kept at i ⊢
  rw [List.any_cons]
  by_cases hk : x.f0 = n
  ·rw [beq_iff_eq.2 hk, Bool.true_and]
   by_cases hg : x.f1 > now
   ·rw [decide_eq_true hg, Bool.true_or]
    simp only [hk, hg, ↓reduceIte]
    exact Ev.now _
   ·rw [decide_eq_false hg, Bool.false_or]
    simp only [hk, hg, ↓reduceIte]
    exact i
  ·rw [beq_false_of_ne hk, Bool.false_and, Bool.false_or]
   simp only [hk, ↓reduceIte]
   exact i
theorem ev_ref21_Kept (l : List E) (n now : Int) (h : l.length < 4611686018427387904) : Ev (fun k => ref21_Kept.f k l n now) (kept l n now) := ev_ref21_Kept_l0 n now l [] h
theorem past_is (l : List E) (v : Int) (h : l.length < 1099511627776) : ward_Past.f l v = some (l.filter (fun x => !decide (x.f1 ≤ v))) := by
 unfold ward_Past.f
 rw [if_pos (by omega)]
theorem ev_ref21_Past_l0 (v : Int) (suf : List E) : ∀ (pre acc : List E), (pre ++ suf).length < 1099511627776 → acc.length ≤ pre.length →
  Ev (fun k => ref21_Past.l0 k (pre ++ suf) v acc (pre.length : Int)) (acc ++ suf.filter (fun x => !decide (x.f1 ≤ v))) := by
 induction suf with
 | nil =>
  intro pre acc h ha
  refine Ev.step (fun k => by rw [ref21_Past.l0]) ?_
  simp only [end_ge, ↓reduceIte]
  rw [List.filter_nil, List.append_nil]
  exact Ev.now _
 | cons x suf ih =>
  intro pre acc h ha
  have hl : pre.length + (suf.length + 1) < 1099511627776 := by simpa using h
  refine Ev.step (fun k => by rw [ref21_Past.l0]) ?_
  simp only [mid_lt, nat_ge, ↓reduceIte, rdE]
  by_cases hk : x.f1 > v
  ·have hd : (!decide (x.f1 ≤ v)) = true := by simp; omega
   simp only [hk, ↓reduceIte, show acc.length < 8796093022208 by omega, mid_next pre x suf (by omega)]
   rw [List.filter_cons, if_pos hd]
   have i := ih (pre ++ [x]) (acc ++ [x]) (by rw [← List.append_cons]; exact h) (by simp; omega)
   rw [← List.append_cons pre x suf, List.append_assoc, List.singleton_append] at i
   exact i
  ·have hd : ¬ (!decide (x.f1 ≤ v)) = true := by simp; omega
   simp only [hk, ↓reduceIte, mid_next pre x suf (by omega)]
   rw [List.filter_cons, if_neg hd]
   have i := ih (pre ++ [x]) acc (by rw [← List.append_cons]; exact h) (by simp; omega)
   rw [← List.append_cons pre x suf] at i
   exact i
theorem ev_ref21_Past (l : List E) (v : Int) (h : l.length < 1099511627776) : Ev (fun k => ref21_Past.f k l v) (l.filter (fun x => !decide (x.f1 ≤ v))) := ev_ref21_Past_l0 v l [] [] h (by simp)
theorem ev_equal_l0 (sa : List E) : ∀ (sb pa pb : List E), pa.length = pb.length → sa.length = sb.length → (pa ++ sa).length < 4611686018427387904 →
  ∃ r, Ev (fun k => api_Ward_30.l0 k (pa ++ sa) (pb ++ sb) ((pa ++ sa).length : Int) (pa.length : Int)) r ∧ (r = true ↔ sa = sb) := by
 induction sa with
 | nil =>
  intro sb pa pb hp hs h
  have : sb = [] := List.eq_nil_of_length_eq_zero (by simpa using hs.symm)
  subst this
  refine ⟨true, Ev.step (fun k => by rw [api_Ward_30.l0]) ?_, by simp⟩
  simp only [end_ge, ↓reduceIte]
  exact Ev.now _
 | cons x sa ih =>
  intro sb pa pb hp hs h
  match sb, hs with
  | y :: sb, hs =>
   have r2 : rd_T44 (pb ++ y :: sb) (pa.length : Int) = y := by rw [hp]; exact rdE pb y sb
   have l2 : (pa.length : Int) < ((pb ++ y :: sb).length : Int) := by rw [hp]; exact mid_lt pb y sb
   by_cases hxy : x = y
   ·subst hxy
    obtain ⟨r, h1, h2⟩ := ih sb (pa ++ [x]) (pb ++ [x]) (by simp [hp]) (by simpa using hs) (by rw [← List.append_cons]; exact h)
    refine ⟨r, Ev.step (fun k => by rw [api_Ward_30.l0]) ?_, ?_⟩
    ·have hn : ¬ ((!(x.f0 == x.f0) || (!(x.f1 == x.f1))) = true) := fun e => (ne_is x x).1 e rfl
     simp only [mid_lt, l2, nat_ge, ↓reduceIte, rdE, r2, hn, mid_next pa x sa (by omega)]
     rw [← List.append_cons pa x sa, ← List.append_cons pb x sb] at h1
     exact h1
    ·rw [h2]; simp
   ·refine ⟨false, Ev.step (fun k => by rw [api_Ward_30.l0]) ?_, ?_⟩
    ·have hn := (ne_is x y).2 hxy
     simp only [mid_lt, l2, nat_ge, ↓reduceIte, rdE, r2, hn]
     exact Ev.now _
    ·simp [hxy]
theorem ev_ward_Same (a b : List E) (h : a.length < 4611686018427387904) : ∃ r, Ev (fun k => ward_Same.f k a b) r ∧ (r = true ↔ a = b) := by
 unfold ward_Same.f api_Ward_30.f
 by_cases hl : (a.length : Int) = (b.length : Int)
 ·obtain ⟨r, h1, h2⟩ := ev_equal_l0 a b [] [] rfl (by omega) h
  refine ⟨r, ?_, h2⟩
  simp only [hl, ↓reduceIte]
  rw [← hl]
  exact Ev.bind h1 (Ev.now _)
 ·refine ⟨false, ?_, ⟨fun e => absurd e (by decide), fun e => absurd (by rw [e]) hl⟩⟩
  simp only [hl, ↓reduceIte]
  exact Ev.bind (Ev.nowk false) (Ev.now _)
theorem put_true_l0 (n u : Int) (suf : List E) : ∀ (pre acc : List E), (pre ++ suf).length < 1099511627776 → acc.length ≤ pre.length + 1 → (∀ y ∈ suf, n < y.f0) →
  Ev (fun k => ref21_Put.l0 k (pre ++ suf) n u acc true (pre.length : Int)) (acc ++ suf, 0) := by
 induction suf with
 | nil =>
  intro pre acc h ha hs
  refine Ev.step (fun k => by rw [ref21_Put.l0]) ?_
  simp only [end_ge, ↓reduceIte]
  rw [List.append_nil]
  exact Ev.now _
 | cons y suf ih =>
  intro pre acc h ha hs
  have hl : pre.length + (suf.length + 1) < 1099511627776 := by simpa using h
  have hk : ¬ y.f0 = n := by have := hs y (by simp); omega
  have i := ih (pre ++ [y]) (acc ++ [y]) (by rw [← List.append_cons]; exact h) (by simp; omega) (fun z hz => hs z (List.mem_cons_of_mem _ hz))
  rw [← List.append_cons pre y suf, List.append_assoc, List.singleton_append] at i
  refine Ev.step (fun k => by rw [ref21_Put.l0]) ?_
  simp only [mid_lt, nat_ge, rdE, ↓reduceIte, hk]
  refine Ev.step (fun k => by rw [ref21_Put.j2]) ?_
  simp only [↓reduceIte]
  refine Ev.step (fun k => by rw [ref21_Put.j3]) ?_
  simp only [mid_lt, nat_ge, rdE, ↓reduceIte, Bool.false_eq_true, hk, show acc.length < 8796093022208 by omega, mid_next pre y suf (by omega)]
  exact i
theorem putW_lt {y : E} {suf : List E} (n u : Int) (hk : y.f0 < n) : putW (y :: suf) n u = y :: putW suf n u := by
 have ht : till (y :: suf) n u = till suf n u := by unfold till; rw [look_cons, if_neg (show ¬ kE y = n by unfold kE; omega)]
 unfold putW putL
 rw [ht, List.filter_cons, if_pos (by show decide (kE y < n) = true; exact decide_eq_true (by unfold kE; omega)), List.filter_cons, if_neg (by show ¬ decide (n < kE y) = true; rw [decide_eq_true_eq]; unfold kE; omega)]
 rfl
theorem putW_ge {y : E} {suf : List E} (n u : Int) (hk : n ≤ y.f0) (hs : ∀ z ∈ suf, y.f0 < z.f0) : putW (y :: suf) n u = if y.f0 = n then ⟨n, mx y.f1 u⟩ :: suf else ⟨n, u⟩ :: y :: suf := by
 have hf1 : (y :: suf).filter (fun z => decide (kE z < n)) = [] := List.filter_eq_nil_iff.2 (fun z hz => by
  rw [decide_eq_true_eq]
  rcases List.mem_cons.1 hz with rfl | hz
  ·unfold kE; omega
  ·have := hs z hz
   unfold kE; omega)
 have hf2 : suf.filter (fun z => decide (n < kE z)) = suf := List.filter_eq_self.2 (fun z hz => by
  have := hs z hz
  exact decide_eq_true (by unfold kE; omega))
 unfold putW putL
 show (y :: suf).filter (fun z => decide (kE z < n)) ++ [_] ++ (y :: suf).filter (fun z => decide (n < kE z)) = _
 rw [hf1, List.filter_cons, hf2, List.nil_append]
 by_cases he : y.f0 = n
 ·rw [if_pos he, if_neg (by rw [decide_eq_true_eq]; unfold kE; omega)]
  have ht : till (y :: suf) n u = mx y.f1 u := by unfold till; rw [look_cons, if_pos (show kE y = n from he)]
  rw [ht]; rfl
 ·rw [if_neg he, if_pos (decide_eq_true (by unfold kE; omega))]
  have ht : till (y :: suf) n u = u := by
   unfold till
   rw [look_cons, if_neg (show ¬ kE y = n from he), look_lt (fun z hz => by have := hs z hz; unfold kE; omega)]
  rw [ht]; rfl
theorem mx_comm (u v : Int) : mx u v = mx v u := by simp only [mx_eq]; omega
theorem put_false_l0 (n u : Int) (suf : List E) : ∀ (pre acc : List E), (pre ++ suf).length < 1099511627776 → acc.length ≤ pre.length → Ris kE suf →
  Ev (fun k => ref21_Put.l0 k (pre ++ suf) n u acc false (pre.length : Int)) (acc ++ putW suf n u, 0) := by
 induction suf with
 | nil =>
  intro pre acc h ha hr
  have hl : pre.length < 1099511627776 := by simpa using h
  refine Ev.step (fun k => by rw [ref21_Put.l0]) ?_
  simp only [end_ge, ↓reduceIte, Bool.false_eq_true, show acc.length < 8796093022208 by omega]
  exact Ev.now _
 | cons y suf ih =>
  intro pre acc h ha hr
  have hl : pre.length + (suf.length + 1) < 1099511627776 := by simpa using h
  have hys : ∀ z ∈ suf, y.f0 < z.f0 := ris_head hr
  have hrs := ris_tail hr
  have hnx := mid_next pre y suf (by omega)
  have hac : acc.length < 8796093022208 := by omega
  refine Ev.step (fun k => by rw [ref21_Put.l0]) ?_
  by_cases hge : y.f0 ≥ n
  ·rw [putW_ge n u hge hys]
   by_cases he : y.f0 = n
   ·rw [if_pos he]
    simp only [mid_lt, nat_ge, rdE, ↓reduceIte, Bool.false_eq_true, he]
    refine Ev.step (fun k => by rw [ref21_Put.j2]) ?_
    have hge' : n ≥ n := Int.le_refl _
    simp only [mid_lt, nat_ge, rdE, ↓reduceIte, Bool.false_eq_true, he, hge', decide_true]
    refine Ev.step (fun k => by rw [ref21_Put.j3]) ?_
    simp only [mid_lt, nat_ge, rdE, ↓reduceIte, he, hac, Option.bind_some, hnx]
    have i := put_true_l0 n (mx u y.f1) suf (pre ++ [y]) (acc ++ [⟨n, mx u y.f1⟩]) (by rw [← List.append_cons]; exact h) (by simp; omega) (fun z hz => by have := hys z hz; omega)
    rw [← List.append_cons pre y suf, List.append_assoc, List.singleton_append, mx_comm u y.f1] at i
    rw [mx_comm u y.f1]
    exact i
   ·rw [if_neg he]
    simp only [mid_lt, nat_ge, rdE, ↓reduceIte, Bool.false_eq_true, he]
    refine Ev.step (fun k => by rw [ref21_Put.j2]) ?_
    simp only [mid_lt, nat_ge, rdE, ↓reduceIte, Bool.false_eq_true, hge, decide_true]
    refine Ev.step (fun k => by rw [ref21_Put.j3]) ?_
    have hla : (acc ++ [(⟨n, u⟩ : E)]).length < 8796093022208 := by rw [List.length_append, List.length_singleton]; omega
    simp only [mid_lt, nat_ge, rdE, ↓reduceIte, he, hac, Option.bind_some, hnx, hla]
    have i := put_true_l0 n u suf (pre ++ [y]) (acc ++ [⟨n, u⟩] ++ [y]) (by rw [← List.append_cons]; exact h) (by simp; omega) (fun z hz => by have := hys z hz; omega)
    rw [← List.append_cons pre y suf] at i
    exact Ev.cast i (by simp)
  ·have he : ¬ y.f0 = n := by omega
   rw [putW_lt n u (by omega)]
   simp only [mid_lt, nat_ge, rdE, ↓reduceIte, Bool.false_eq_true, he]
   refine Ev.step (fun k => by rw [ref21_Put.j2]) ?_
   simp only [mid_lt, nat_ge, rdE, ↓reduceIte, Bool.false_eq_true, hge, decide_false]
   refine Ev.step (fun k => by rw [ref21_Put.j3]) ?_
   simp only [mid_lt, nat_ge, rdE, ↓reduceIte, Bool.false_eq_true, he, hac, hnx]
   have i := ih (pre ++ [y]) (acc ++ [y]) (by rw [← List.append_cons]; exact h) (by simp; omega) hrs
   rw [← List.append_cons pre y suf, List.append_assoc] at i
   exact i
theorem ev_ref_Put (l : List E) (n u : Int) (h : l.length < 1099511627776) : Ev (fun k => ref21_Put.f k l n u) (putR l n u) := by
 unfold ref21_Put.f
 have out : ¬ (MayW ⟨n, u⟩ ∧ RightW l) → Ev (fun k => ref21_Put.j0 k l n u true) (putR l n u) := by
  intro hn
  refine Ev.step (fun k => by rw [ref21_Put.j0]) ?_
  simp only [↓reduceIte]
  unfold putR
  rw [if_neg hn]
  exact Ev.now _
 obtain ⟨r, er, qr⟩ := ev_ref21_Right l (by omega)
 refine Ev.bind er ?_
 cases r with
 | false => simp only [Bool.false_eq_true, ↓reduceIte]; exact out (fun hq => absurd (qr.2 hq.2) (by decide))
 | true =>
  have hl := qr.1 rfl
  simp only [↓reduceIte]
  by_cases h1 : n < 0
  ·simp only [h1, ↓reduceIte]; exact out (fun hq => by have h2 : 0 ≤ n := hq.1.1; omega)
  by_cases h2 : n ≥ 8
  ·simp only [h1, h2, ↓reduceIte]; exact out (fun hq => by have h3 : n < 8 := hq.1.2.1; omega)
  by_cases h3 : u < 0
  ·simp only [h1, h2, h3, ↓reduceIte]; exact out (fun hq => by have h4 : 0 ≤ u := hq.1.2.2.1; omega)
  by_cases h4 : u > 1099511627776
  ·simp only [h1, h2, h3, h4, ↓reduceIte, decide_true]; exact out (fun hq => by have h5 : u ≤ 1099511627776 := hq.1.2.2.2; omega)
  ·simp only [h1, h2, h3, h4, ↓reduceIte, decide_false]
   refine Ev.step (fun k => by rw [ref21_Put.j0]) ?_
   simp only [Bool.false_eq_true, ↓reduceIte]
   unfold putR
   have hx : MayW ⟨n, u⟩ := ⟨by show 0 ≤ n; omega, by show n < 8; omega, by show 0 ≤ u; omega, by show u ≤ 1099511627776; omega⟩
   rw [if_pos (show MayW ⟨n, u⟩ ∧ RightW l from ⟨hx, hl⟩)]
   exact put_false_l0 n u l [] [] h (Nat.le_refl _) hl.1
theorem putR_len {l : List E} (n u : Int) (h : l.length ≤ 100) : (putR l n u).1.length < 4611686018427387904 := by
 unfold putR
 split
 ·rename_i hq
  have := right_len (right_put hq.2 hq.1)
  show (putW l n u).length < _
  omega
 ·show l.length < _; omega
theorem asks_fin (l m : List E) (n u v : Int) (hl : l.length ≤ 100) : Ev (fun k => law21_WardAsks.j0 k l m false n u v) true := by
 have h0 : ([] : List E).length + l.length < 8796093022208 := by rw [List.length_nil]; omega
 have hf : (l.filter (fun x => !decide (x.f1 ≤ v))).length ≤ l.length := List.length_filter_le _ _
 refine Ev.step (fun k => by rw [law21_WardAsks.j0]) ?_
 simp only [Bool.false_eq_true, ↓reduceIte]
 refine Ev.bind (Ev.nowk _) ?_
 simp only [h0, ↓reduceIte]
 refine Ev.bind (Ev.nowk _) ?_
 simp only [List.nil_append]
 refine Ev.bind (ev_Put l n u (by omega)) (Ev.bind (ev_ref_Put l n u (by omega)) ?_)
 refine Ev.bind (ev_same_true (putR_len n u hl) rfl) ?_
 simp only [↓reduceIte, kept_is, Option.bind_some]
 refine Ev.bind (ev_ref21_Kept l n v (by omega)) ?_
 simp only [beq_self_eq_true, ↓reduceIte, past_is l v (by omega), Option.bind_some]
 refine Ev.bind (ev_ref21_Past l v (by omega)) ?_
 refine Ev.bind (ev_same_true (by omega) rfl) ?_
 simp only [↓reduceIte]
 obtain ⟨r1, e1, q1⟩ := ev_ward_Right l (by omega)
 obtain ⟨r2, e2, q2⟩ := ev_ref21_Right l (by omega)
 have h12 : (r1 == r2) = true := by rw [beq_iff_eq]; exact bool_iff q1 q2
 refine Ev.bind e1 (Ev.bind e2 ?_)
 simp only [h12, ↓reduceIte]
 obtain ⟨r3, e3, q3⟩ := ev_ward_Same l m (by omega)
 obtain ⟨r4, e4, q4⟩ := ev_ref21_Same l m (by omega)
 have h34 : (r3 == r4) = true := by rw [beq_iff_eq]; exact bool_iff q3 q4
 refine Ev.bind e3 (Ev.bind e4 ?_)
 simp only [h34, ↓reduceIte]
 exact Ev.bind (ev_same_true (by omega) rfl) (Ev.now _)
theorem WardAsks : ∀ (x0 : List S44) (x1 : List S44) (x2 : S40), (x0.length ≤ maxLen ∧ x0.length * 16 ≤ 140737488351232 ∧ ∀ x_ ∈ x0, G44 x_) → (x1.length ≤ maxLen ∧ x1.length * 16 ≤ 140737488351232 ∧ ∀ x_ ∈ x1, G44 x_) → G40 x2 → ∃ k, law21_WardAsks.f k x0 x1 x2.f0 x2.f1 x2.f2 = some true := by
 intro l m t il im _
 refine Ev.rounds (r := true) ?_
 unfold law21_WardAsks.f
 refine Ev.bind alive21 ?_
 simp only [↓reduceIte]
 have out : Ev (fun k => law21_WardAsks.j0 k l m true t.f0 t.f1 t.f2) true := by
  refine Ev.step (fun k => by rw [law21_WardAsks.j0]) ?_
  simp only [↓reduceIte]
  exact Ev.now _
 by_cases hg : (l.length : Int) > 100
 ·simp only [hg, ↓reduceIte]; exact out
 ·simp only [hg, ↓reduceIte]
  by_cases hn : (m.length : Int) > 100
  ·simp only [hn, decide_true]; exact out
  ·simp only [hn, decide_false]; exact asks_fin l m _ _ _ (by omega)
end Go.Proofs.Ytonggencfnaheaa.Pl

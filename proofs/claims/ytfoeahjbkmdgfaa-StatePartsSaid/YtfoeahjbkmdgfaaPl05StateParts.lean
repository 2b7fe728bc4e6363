/- StateParts' plain law: what is above a version, joined with what there was as far as it, is all: for all states. No condition. -/
import Derived.Test.YtfoeahjbkmdgfaaHw
import Derived.Test.YtfoeahjbkmdgfaaOps
import Derived.Test.YtfoeahjbkmdgfaaP0
import Derived.Test.YtfoeahjbkmdgfaaPApiEntry45
import Derived.Test.YtfoeahjbkmdgfaaPEntryAbove
import Derived.Test.YtfoeahjbkmdgfaaPEntryGet
import Derived.Test.YtfoeahjbkmdgfaaPEntryHigher
import Derived.Test.YtfoeahjbkmdgfaaPEntryJoin
import Derived.Test.YtfoeahjbkmdgfaaPEntryOver
import Derived.Test.YtfoeahjbkmdgfaaPEntryPlace
import Derived.Test.YtfoeahjbkmdgfaaPLaw05Alive
import Derived.Test.YtfoeahjbkmdgfaaPLaw05Great
import Derived.Test.YtfoeahjbkmdgfaaPLaw05StateParts
import Derived.Test.YtfoeahjbkmdgfaaPRef04Great
import Derived.Test.YtfoeahjbkmdgfaaPRef04May
import Derived.Test.YtfoeahjbkmdgfaaPRef04Right
import Derived.Test.YtfoeahjbkmdgfaaPRef04Same
import Derived.Test.YtfoeahjbkmdgfaaPRef05Great
import Derived.Test.YtfoeahjbkmdgfaaPRef05Right
import Derived.Test.YtfoeahjbkmdgfaaPRef05Same
import Derived.Test.YtfoeahjbkmdgfaaPStateAbove
import Derived.Test.YtfoeahjbkmdgfaaPStateCopy
import Derived.Test.YtfoeahjbkmdgfaaPStateJoin
import Derived.Test.YtfoeahjbkmdgfaaPStateOver
namespace Go.Proofs.Ytfoeahjbkmdgfaa.Pl
open Go.RowKit Go.Proofs.Ytfoeahjbkmdgfaa.P Go.Proofs.YtfoeahjbkmdgfaaW.PrintWords Go.Proofs.YtfoeahjbkmdgfaaW.PrintLast Go.Proofs.YtfoeahjbkmdgfaaW.PrintMore
set_option linter.unusedSimpArgs false
set_option linter.unusedVariables false
abbrev E := S40
theorem wrap_id (x : Int) (h0 : -9223372036854775808 ≤ x) (h1 : x ≤ 9223372036854775807) : wrap64 x = x := by unfold wrap64; omega
theorem wrap_nat (n : Nat) (h : n < 9223372036854775807) : wrap64 ((n : Int) + 1) = ((n + 1 : Nat) : Int) := by unfold wrap64; omega
theorem getD_mid {α : Type} (z : α) (pre : List α) (x : α) (suf : List α) : (pre ++ x :: suf).getD ((pre.length : Nat) : Int).toNat z = x := by
 simp [List.getD_eq_getElem?_getD]
theorem rdE (pre : List E) (x : E) (suf : List E) : rd_T40 (pre ++ x :: suf) ((pre.length : Nat) : Int) = x := getD_mid _ pre x suf
theorem rdE0 (x : E) (suf : List E) : rd_T40 (x :: suf) 0 = x := rfl
theorem mid_lt {α : Type} (pre : List α) (x : α) (suf : List α) : ((pre.length : Nat) : Int) < ((pre ++ x :: suf).length : Int) := by simp <;> omega
theorem end_ge {α : Type} (pre : List α) : ¬ ((pre.length : Nat) : Int) < ((pre ++ ([] : List α)).length : Int) := by simp
theorem nat_ge {α : Type} (pre : List α) : (0 : Int) ≤ ((pre.length : Nat) : Int) := Int.natCast_nonneg _
theorem mid_next {α : Type} (pre : List α) (x : α) (suf : List α) (h : (pre ++ x :: suf).length < 9223372036854775807) : wrap64 (((pre.length : Nat) : Int) + 1) = (((pre ++ [x]).length : Nat) : Int) := by
 rw [wrap_nat _ (by simp at h; omega), List.length_append]; rfl
theorem mid_prev {α : Type} (pre : List α) (y x : α) (suf : List α) (h : ((pre ++ [y]) ++ x :: suf).length < 9223372036854775807) : wrap64 ((((pre ++ [y]).length : Nat) : Int) - 1) = ((pre.length : Nat) : Int) := by
 rw [wrap_id _ (by omega) (by have := h; simp only [List.length_append, List.length_cons, List.length_nil] at *; omega), List.length_append, List.length_singleton]; omega
section
variable {α : Type} (key : α → Int)
def Ris (l : List α) : Prop := l.Pairwise (fun a b => key a < key b)
def look (l : List α) (k : Int) : Option α := l.find? (fun x => key x == k)
variable {key}
theorem ris_nil : Ris key [] := List.Pairwise.nil
theorem ris_cons {x : α} {l : List α} : Ris key (x :: l) ↔ (∀ y ∈ l, key x < key y) ∧ Ris key l := List.pairwise_cons
theorem ris_tail {x : α} {l : List α} (h : Ris key (x :: l)) : Ris key l := (ris_cons.1 h).2
theorem ris_head {x : α} {l : List α} (h : Ris key (x :: l)) : ∀ y ∈ l, key x < key y := (ris_cons.1 h).1
theorem ris_filter {l : List α} (p : α → Bool) (h : Ris key l) : Ris key (l.filter p) := List.Pairwise.filter p h
theorem look_nil (k : Int) : look key ([] : List α) k = none := rfl
theorem look_cons (x : α) (l : List α) (k : Int) : look key (x :: l) k = if key x = k then some x else look key l k := by
 unfold look
 by_cases h : key x = k
 ·simp [h]
 ·simp [h]
theorem look_none {l : List α} {k : Int} : look key l k = none ↔ ∀ x ∈ l, key x ≠ k := by
 unfold look
 simp
theorem look_lt {l : List α} {k : Int} (h : ∀ y ∈ l, k < key y) : look key l k = none := look_none.2 (fun x hx => by have := h x hx; omega)
theorem look_of_mem {l : List α} {x : α} (hr : Ris key l) (hx : x ∈ l) : look key l (key x) = some x := by
 induction l with
 | nil => simp at hx
 | cons y l ih =>
  rw [look_cons]
  rcases List.mem_cons.1 hx with rfl | hx
  ·simp
  ·have := ris_head hr x hx
   rw [if_neg (by omega)]
   exact ih (ris_tail hr) hx
/-- Two rising lists in which the same is found are the same. -/
theorem ris_ext : ∀ {a b : List α}, Ris key a → Ris key b → (∀ k, look key a k = look key b k) → a = b
 | [], [], _, _, _ => rfl
 | [], y :: b, _, _, h => by
  have := h (key y)
  rw [look_cons, if_pos rfl] at this
  simp [look_nil] at this
 | x :: a, [], _, _, h => by
  have := h (key x)
  rw [look_cons, if_pos rfl] at this
  simp [look_nil] at this
 | x :: a, y :: b, ha, hb, h => by
  have hxy : key x = key y := by
   rcases Int.lt_trichotomy (key x) (key y) with hlt | he | hgt
   ·have h1 := h (key x)
    rw [look_cons, if_pos rfl, look_cons, if_neg (by omega), look_lt (fun z hz => by have := ris_head hb z hz; omega)] at h1
    simp at h1
   ·exact he
   ·have h1 := h (key y)
    rw [look_cons, if_neg (by omega), look_lt (fun z hz => by have := ris_head ha z hz; omega), look_cons, if_pos rfl] at h1
    simp at h1
  have hx : x = y := by
   have h1 := h (key x)
   rw [look_cons, if_pos rfl, look_cons, if_pos hxy.symm] at h1
   exact Option.some.inj h1
  subst hx
  rw [ris_ext (ris_tail ha) (ris_tail hb) (fun k => by
   by_cases hk : key x = k
   ·rw [look_lt (fun z hz => by have := ris_head ha z hz; omega), look_lt (fun z hz => by have := ris_head hb z hz; omega)]
   ·have h1 := h k
    rw [look_cons, if_neg hk, look_cons, if_neg hk] at h1
    exact h1)]
/-- A rising list whose keys are from 0 to below n has at most n elements. -/
theorem ris_length (n : Nat) : ∀ (l : List α) (m : Nat), Ris key l → (∀ x ∈ l, (m : Int) ≤ key x ∧ key x < (m : Int) + n) → l.length ≤ n := by
 induction n with
 | zero =>
  intro l m _ h
  match l with
  | [] => exact Nat.le_refl _
  | x :: l => have := h x (by simp); omega
 | succ n ih =>
  intro l m hr h
  match l with
  | [] => simp
  | x :: l =>
   have h1 := ih l (m + 1) (ris_tail hr) (fun y hy => by
    have h2 := h y (by simp [hy]); have h3 := ris_head hr y hy; have h4 := h x (by simp); omega)
   simp; omega
end
def MayE (x : E) : Prop := 0 ≤ x.f0 ∧ x.f0 < 12 ∧ 1 ≤ x.f1 ∧ x.f1 ≤ 1099511627776 ∧ x.f2.size ≤ 200
def kE (x : E) : Int := x.f0
def RightE (l : List E) : Prop := Ris kE l ∧ ∀ x ∈ l, MayE x
theorem mx_eq (a b : Int) : mx a b = max a b := by unfold mx; rw [Int.max_def]; split <;> split <;> omega
open Go.RowKit Go.Proofs.Ytfoeahjbkmdgfaa.P Go.Proofs.YtfoeahjbkmdgfaaW.PrintWords Go.Proofs.YtfoeahjbkmdgfaaW.PrintLast Go.Proofs.YtfoeahjbkmdgfaaW.PrintMore Go.Proofs.YtfoeahjbkmdgfaaW.Hw
theorem wrap01 : wrap64 (0 + 1) = 1 := wrap_id 1 (by omega) (by omega)
theorem all_cons {α : Type} {Q : α → Prop} {x : α} {l : List α} (hx : Q x) (hl : ∀ z, z ∈ l → Q z) : ∀ z, z ∈ x :: l → Q z := fun z hz => by
 rcases List.mem_cons.1 hz with rfl | hz
 ·exact hx
 ·exact hl z hz
theorem ev_ref04_Great_l0 (suf : List E) : ∀ (pre : List E) (n : Int), (pre ++ suf).length < 4611686018427387904 → 0 ≤ n → n ≤ 4611686018427387904 → (∀ x ∈ suf, x.f2.size ≤ 140737488351232) →
  ∃ r, Ev (fun k => ref04_Great.l0 k (pre ++ suf) n (pre.length : Int)) r ∧ (r = false → n ≤ 4000) := by
 induction suf with
 | nil =>
  intro pre n h h0 h1 h2
  refine ⟨decide (n > 4000), Ev.step (fun k => by rw [ref04_Great.l0]) ?_, by simp⟩
  simp only [end_ge, ↓reduceIte]
  exact Ev.now _
 | cons x suf ih =>
  intro pre n h h0 h1 h2
  by_cases hn : n ≤ 4000
  ·have hx := h2 x (by simp)
   obtain ⟨r, hr, hi⟩ := ih (pre ++ [x]) (n + (x.f2.size : Int)) (by rw [← List.append_cons]; exact h) (by omega) (by omega) (fun y hy => h2 y (by simp [hy]))
   refine ⟨r, Ev.step (fun k => by rw [ref04_Great.l0]) ?_, fun _ => hn⟩
   simp only [mid_lt, nat_ge, ↓reduceIte, rdE, mid_next pre x suf (by omega), hn, wrap_id (n + (x.f2.size : Int)) (by omega) (by omega)]
   rw [← List.append_cons pre x suf] at hr
   exact hr
  ·refine ⟨decide (n > 4000), Ev.step (fun k => by rw [ref04_Great.l0]) ?_, by simp⟩
   simp only [mid_lt, ↓reduceIte, hn]
   exact Ev.now _
theorem ev_ref04_Great (l : List E) (h : l.length < 4611686018427387904) (hs : ∀ x ∈ l, x.f2.size ≤ 140737488351232) : ∃ r, Ev (fun k => ref04_Great.f k l) r ∧ (r = false → l.length ≤ 4000) := by
 obtain ⟨r, hr, hi⟩ := ev_ref04_Great_l0 l [] (l.length : Int) h (by omega) (by omega) hs
 exact ⟨r, hr, fun e => by have := hi e; omega⟩
section
variable {α : Type} {key : α → Int}
theorem ris_cons2 {y x : α} {l : List α} : Ris key (y :: x :: l) ↔ key y < key x ∧ Ris key (x :: l) := by
 rw [ris_cons]
 constructor
 ·rintro ⟨h1, h2⟩; exact ⟨h1 x (by simp), h2⟩
 ·rintro ⟨h1, h2⟩
  refine ⟨fun z hz => ?_, h2⟩
  rcases List.mem_cons.1 hz with rfl | hz
  ·exact h1
  ·have := ris_head h2 z hz; omega
theorem ris_one (x : α) : Ris key [x] := List.pairwise_singleton _ x
end
theorem len_pos {α : Type} (x : α) (l : List α) : (0 : Int) < ((x :: l).length : Int) := by simp <;> omega
theorem len_one {α : Type} (x : α) (l : List α) : (1 : Int) ≤ ((x :: l).length : Int) := by rw [List.length_cons]; omega
theorem len_ne {α : Type} (x : α) (l : List α) : ¬ (((x :: l).length : Int) = 0) := by simp <;> omega
theorem len_gt {α : Type} (x : α) (l : List α) : ((x :: l).length : Int) > 0 := by simp <;> omega
theorem nil_gt {α : Type} : ¬ (((([] : List α).length : Nat) : Int) > 0) := by simp
theorem nil_eq {α : Type} : (((([] : List α).length : Nat) : Int) = 0) := rfl
theorem may04_is (x : E) : ∃ r, ref04_May.f x.f0 x.f1 x.f2 = some r ∧ (r = true ↔ MayE x) := by
 unfold ref04_May.f MayE
 by_cases h1 : x.f0 ≥ 0
 ·by_cases h2 : x.f0 < 12
  ·by_cases h3 : x.f1 ≥ 1
   ·by_cases h4 : x.f1 ≤ 1099511627776
    ·refine ⟨_, by simp only [h1, h2, h3, h4, ↓reduceIte]; rfl, ?_⟩
     simp; omega
    ·exact ⟨false, by simp only [h1, h2, h3, h4, ↓reduceIte], by simp; omega⟩
   ·exact ⟨false, by simp only [h1, h2, h3, ↓reduceIte], by simp; omega⟩
  ·exact ⟨false, by simp only [h1, h2, ↓reduceIte], by simp; omega⟩
 ·exact ⟨false, by simp only [h1, ↓reduceIte], by simp; omega⟩
theorem pos_mid {α : Type} (p : List α) (y : α) : (((p ++ [y]).length : Nat) : Int) > 0 := by simp <;> omega
theorem prev_ge {α : Type} (p : List α) (y x : α) (s : List α) : ((p.length : Nat) : Int) < (((p ++ [y]) ++ x :: s).length : Int) := by simp <;> omega
theorem rdE1 (p : List E) (y x : E) (s : List E) : rd_T40 ((p ++ [y]) ++ x :: s) ((p.length : Nat) : Int) = y := by rw [← List.append_cons]; exact rdE p y (x :: s)
theorem ev_ref04_Right_l0 (suf : List E) : ∀ (p : List E) (y : E), ((p ++ [y]) ++ suf).length < 4611686018427387904 →
  ∃ r, Ev (fun k => ref04_Right.l0 k ((p ++ [y]) ++ suf) ((p ++ [y]).length : Int)) r ∧ (r = true ↔ Ris kE (y :: suf) ∧ ∀ x ∈ suf, MayE x) := by
 induction suf with
 | nil =>
  intro p y h
  refine ⟨true, Ev.step (fun k => by rw [ref04_Right.l0]) ?_, by simp [ris_one]⟩
  simp only [end_ge, ↓reduceIte]
  exact Ev.now _
 | cons x suf ih =>
  intro p y h
  obtain ⟨m, hm, hmi⟩ := may04_is x
  cases m with
  | false =>
   refine ⟨false, Ev.step (fun k => by rw [ref04_Right.l0]) ?_, ?_⟩
   ·simp only [mid_lt, nat_ge, ↓reduceIte, rdE, hm, Option.bind_some, Bool.false_eq_true]
    exact Ev.now _
   ·simp only [Bool.false_eq_true, false_iff]
    rintro ⟨_, h2⟩
    exact absurd (hmi.2 (h2 x (by simp))) (by simp)
  | true =>
   by_cases hk : y.f0 ≥ x.f0
   ·refine ⟨false, Ev.step (fun k => by rw [ref04_Right.l0]) ?_, ?_⟩
    ·simp only [mid_lt, nat_ge, ↓reduceIte, rdE, hm, Option.bind_some, pos_mid, mid_prev p y x suf (by omega), prev_ge, rdE1, hk]
     exact Ev.now _
    ·simp only [Bool.false_eq_true, false_iff, ris_cons2]
     rintro ⟨⟨h1, _⟩, _⟩
     unfold kE at h1; omega
   ·obtain ⟨r, hr, hi⟩ := ih (p ++ [y]) x (by rw [← List.append_cons]; exact h)
    refine ⟨r, Ev.step (fun k => by rw [ref04_Right.l0]) ?_, ?_⟩
    ·simp only [mid_lt, nat_ge, ↓reduceIte, rdE, hm, Option.bind_some, pos_mid, mid_prev p y x suf (by omega), prev_ge, rdE1, hk, mid_next (p ++ [y]) x suf (by omega)]
     rw [← List.append_cons (p ++ [y]) x suf] at hr
     exact hr
    ·rw [hi, ris_cons2]
     have := hmi.1 rfl
     constructor
     ·rintro ⟨h1, h2⟩
      exact ⟨⟨by unfold kE; omega, h1⟩, all_cons (this) (fun z hz => h2 z hz)⟩
     ·rintro ⟨⟨_, h1⟩, h2⟩
      exact ⟨h1, fun z hz => h2 z (by simp [hz])⟩
theorem ev_ref04_Right (l : List E) (h : l.length < 4611686018427387904) : ∃ r, Ev (fun k => ref04_Right.f k l) r ∧ (r = true ↔ RightE l) := by
 cases l with
 | nil =>
  refine ⟨true, Ev.step (g := fun k => ref04_Right.l0 k [] 0) (fun k => by rw [ref04_Right.l0]) ?_, by simp [RightE, ris_nil]⟩
  simp only [List.length_nil, Int.natCast_zero, Int.lt_irrefl, ↓reduceIte]
  exact Ev.now _
 | cons x l =>
  obtain ⟨m, hm, hmi⟩ := may04_is x
  have e0 : (0 : Int) < ((x :: l).length : Int) := len_pos x l
  cases m with
  | false =>
   refine ⟨false, Ev.step (g := fun k => ref04_Right.l0 k (x :: l) 0) (fun k => by rw [ref04_Right.l0]) ?_, ?_⟩
   ·simp only [e0, Int.le_refl, ↓reduceIte, rdE0, hm, Option.bind_some, Bool.false_eq_true]
    exact Ev.now _
   ·simp only [Bool.false_eq_true, false_iff]
    rintro ⟨_, h2⟩
    exact absurd (hmi.2 (h2 x (by simp))) (by simp)
  | true =>
   obtain ⟨r, hr, hi⟩ := ev_ref04_Right_l0 l [] x h
   refine ⟨r, Ev.step (g := fun k => ref04_Right.l0 k (x :: l) 0) (fun k => by rw [ref04_Right.l0]) ?_, ?_⟩
   ·simp only [e0, Int.le_refl, ↓reduceIte, rdE0, hm, Option.bind_some, gt_iff_lt, Int.lt_irrefl, wrap01]
    exact hr
   ·rw [hi]
    constructor
    ·rintro ⟨h1, h2⟩
     exact ⟨h1, all_cons (hmi.1 rfl) (fun z hz => h2 z hz)⟩
    ·rintro ⟨h1, h2⟩
     exact ⟨h1, fun z hz => h2 z (by simp [hz])⟩
theorem ne_is (x y : E) : (!(x.f0 == y.f0) || (!(x.f1 == y.f1) || (!(x.f2.toList == y.f2.toList)))) = true ↔ x ≠ y := by
 obtain ⟨a0, a1, a2⟩ := x
 obtain ⟨b0, b1, b2⟩ := y
 simp only [Bool.or_eq_true, Bool.not_eq_true', beq_eq_false_iff_ne]
 constructor
 ·rintro h e
  cases e
  simp at h
 ·intro h
  by_cases h0 : a0 = b0
  ·by_cases h1 : a1 = b1
   ·right; right
    intro e
    exact h (by rw [h0, h1, ba_ext e])
   ·exact .inr (.inl h1)
  ·exact .inl h0
theorem ev_ref04_Same_l0 (sa : List E) : ∀ (sb pa pb : List E), pa.length = pb.length → sa.length = sb.length → (pa ++ sa).length < 4611686018427387904 →
  ∃ r, Ev (fun k => ref04_Same.l0 k (pa ++ sa) (pb ++ sb) (pa.length : Int)) r ∧ (r = true ↔ sa = sb) := by
 induction sa with
 | nil =>
  intro sb pa pb hp hs h
  have : sb = [] := List.eq_nil_of_length_eq_zero (by simpa using hs.symm)
  subst this
  refine ⟨true, Ev.step (fun k => by rw [ref04_Same.l0]) ?_, by simp⟩
  simp only [end_ge, ↓reduceIte]
  exact Ev.now _
 | cons x sa ih =>
  intro sb pa pb hp hs h
  match sb, hs with
  | y :: sb, hs =>
   have r2 : rd_T40 (pb ++ y :: sb) (pa.length : Int) = y := by rw [hp]; exact rdE pb y sb
   have l2 : (pa.length : Int) < ((pb ++ y :: sb).length : Int) := by rw [hp]; exact mid_lt pb y sb
   by_cases hxy : x = y
   ·subst hxy
    obtain ⟨r, h1, h2⟩ := ih sb (pa ++ [x]) (pb ++ [x]) (by simp [hp]) (by simpa using hs) (by rw [← List.append_cons]; exact h)
    refine ⟨r, Ev.step (fun k => by rw [ref04_Same.l0]) ?_, ?_⟩
    ·have hn : ¬ ((!(x.f0 == x.f0) || (!(x.f1 == x.f1) || (!(x.f2.toList == x.f2.toList)))) = true) := fun e => (ne_is x x).1 e rfl
     simp only [mid_lt, l2, nat_ge, ↓reduceIte, rdE, r2, hn, mid_next pa x sa (by omega)]
     rw [← List.append_cons pa x sa, ← List.append_cons pb x sb] at h1
     exact h1
    ·rw [h2]; simp
   ·refine ⟨false, Ev.step (fun k => by rw [ref04_Same.l0]) ?_, ?_⟩
    ·have hn := (ne_is x y).2 hxy
     simp only [mid_lt, l2, nat_ge, ↓reduceIte, rdE, r2, hn]
     exact Ev.now _
    ·simp [hxy]
theorem ev_ref04_Same (a b : List E) (h : a.length < 4611686018427387904) : ∃ r, Ev (fun k => ref04_Same.f k a b) r ∧ (r = true ↔ a = b) := by
 unfold ref04_Same.f
 by_cases hl : (a.length : Int) = (b.length : Int)
 ·obtain ⟨r, h1, h2⟩ := ev_ref04_Same_l0 a b [] [] rfl (by omega) (by simpa using h)
  refine ⟨r, ?_, h2⟩
  simp only [hl, ↓reduceIte]
  exact h1
 ·refine ⟨false, ?_, ?_⟩
  ·simp only [hl, ↓reduceIte]
   exact Ev.now _
  ·simp only [Bool.false_eq_true, false_iff]
   intro e
   exact hl (by rw [e])
/-- Is y above x? -/
def Gt (y x : E) : Prop := y.f1 > x.f1 ∨ (y.f1 = x.f1 ∧ Op.bytesLess x.f2.toList y.f2.toList = true)
instance (y x : E) : Decidable (Gt y x) := by unfold Gt; infer_instance
def hi (x y : E) : E := if Gt y x then y else x
theorem gt_irrefl (x : E) : ¬ Gt x x := by
 rintro (h | ⟨_, h⟩)
 ·omega
 ·rw [bl_irrefl] at h; cases h
theorem hi_key (x y : E) (h : x.f0 = y.f0) : (hi x y).f0 = x.f0 := by unfold hi; split <;> simp [h]
theorem hi_or (x y : E) : hi x y = x ∨ hi x y = y := by unfold hi; split <;> simp
theorem higher_is (x y : E) : entry_higher.f x.f0 x.f1 x.f2 y.f0 y.f1 y.f2 = some ((hi x y).f0, (hi x y).f1, (hi x y).f2) := by
 unfold entry_higher.f hi Gt
 by_cases h1 : y.f1 > x.f1
 ·simp [h1]
 ·by_cases h2 : y.f1 = x.f1
  ·by_cases h3 : Op.bytesLess x.f2.toList y.f2.toList = true
   ·simp [h2, h3]
   ·simp [h2, h3]
  ·simp [h1, h2]
theorem find_idx {α : Type} (p : α → Bool) : ∀ l : List α, l.find? p = l[l.findIdx p]?
 | [] => rfl
 | x :: l => by
  rw [List.find?_cons, List.findIdx_cons]
  cases hp : p x with
  | true => simp
  | false => simp [find_idx p l]
def got (o : Option E) : Int × Int × ByteArray × Bool := match o with
 | some x => (x.f0, x.f1, x.f2, true)
 | none => (0, 0, ⟨#[]⟩, false)
theorem get_is (l : List E) (k : Int) : entry_Get.f l k = some (got (look kE l k)) := by
 have hl : look kE l k = l[l.findIdx (fun x : S40 => x.f0 == k)]? := find_idx _ l
 unfold entry_Get.f entry_place.f idxI
 simp only [Option.bind_some]
 by_cases h : l.findIdx (fun x : S40 => x.f0 == k) < l.length
 ·rw [if_pos h, if_neg (by omega), if_pos (by omega), if_pos (by omega), hl, List.getElem?_eq_getElem h]
  have : rd_T40 l ((l.findIdx (fun x : S40 => x.f0 == k) : Nat) : Int) = l[l.findIdx (fun x : S40 => x.f0 == k)] := by
   simp [rd_T40, List.getD_eq_getElem?_getD, h]
  rw [this]
  rfl
 ·rw [if_neg h, if_pos (by omega), hl, List.getElem?_eq_none (by omega)]
  rfl
theorem news_is (a : List E) (y : E) : entry_Over.news a y = false ↔ ∃ x, look kE a y.f0 = some x ∧ ¬ Gt y x := by
 unfold entry_Over.news
 rw [get_is]
 cases h : look kE a y.f0 with
 | none => simp [got]
 | some x =>
  simp only [got, higher_is]
  have e := ne_is (hi x y) x
  simp only [Option.some.injEq, exists_eq_left']
  by_cases hg : Gt y x
  ·have hn : hi x y ≠ x := by
    unfold hi
    rw [if_pos hg]
    rintro rfl
    exact gt_irrefl _ hg
   rw [e.2 hn]
   simp [hg]
  ·have hn : hi x y = x := by unfold hi; rw [if_neg hg]
   rw [hn]
   simp [hg]
def OverE (a b : List E) : Prop := ∀ y ∈ b, ∃ x, look kE a y.f0 = some x ∧ ¬ Gt y x
theorem over_is (a b : List E) : ∃ r, entry_Over.f a b = some r ∧ (r = true ↔ OverE a b) := by
 refine ⟨_, rfl, ?_⟩
 rw [Bool.not_eq_true', List.any_eq_false]
 unfold OverE
 constructor
 ·intro h y hy
  exact (news_is a y).1 (by simpa using h y hy)
 ·intro h y hy
  rw [(news_is a y).2 (h y hy)]
  decide
def joinE : List E → List E → List E
 | [], b => b
 | x :: a, [] => x :: a
 | x :: a, y :: b => if x.f0 < y.f0 then x :: joinE a (y :: b) else if y.f0 < x.f0 then y :: joinE (x :: a) b else hi x y :: joinE a b
termination_by a b => a.length + b.length
theorem joinE_nil (b : List E) : joinE [] b = b := by rw [joinE]
theorem joinE_nil_r (a : List E) : joinE a [] = a := by cases a <;> rw [joinE]
theorem joinE_cons (x : E) (a : List E) (y : E) (b : List E) : joinE (x :: a) (y :: b) = if x.f0 < y.f0 then x :: joinE a (y :: b) else if y.f0 < x.f0 then y :: joinE (x :: a) b else hi x y :: joinE a b := by rw [joinE]
theorem ev_Join_l0 : ∀ (n : Nat) (a b acc : List E), a.length + b.length ≤ n → acc.length + (a.length + b.length) < 4398046511104 → Ev (fun k => entry_Join.l0 k a b acc) (acc ++ joinE a b) := by
 intro n
 induction n with
 | zero =>
  intro a b acc hn h
  have ha : a = [] := List.eq_nil_of_length_eq_zero (by omega)
  have hb : b = [] := List.eq_nil_of_length_eq_zero (by omega)
  subst ha; subst hb
  refine Ev.step (fun k => by rw [entry_Join.l0]) ?_
  simp only [nil_gt, ↓reduceIte, decide_false]
  refine Ev.step (fun k => by rw [entry_Join.j1]) ?_
  simp only [Bool.false_eq_true, ↓reduceIte, joinE_nil, List.append_nil]
  exact Ev.now _
 | succ n ih =>
  intro a b acc hn h
  match a, b with
  | [], [] =>
   refine Ev.step (fun k => by rw [entry_Join.l0]) ?_
   simp only [nil_gt, ↓reduceIte, decide_false]
   refine Ev.step (fun k => by rw [entry_Join.j1]) ?_
   simp only [Bool.false_eq_true, ↓reduceIte, joinE_nil, List.append_nil]
   exact Ev.now _
  | [], y :: b =>
   have i := ih [] b (acc ++ [y]) (by simp at hn ⊢; omega) (by simp at h ⊢; omega)
   rw [joinE_nil, List.append_assoc, List.singleton_append] at i
   refine Ev.step (fun k => by rw [entry_Join.l0]) ?_
   simp only [nil_gt, len_gt, ↓reduceIte, decide_true]
   refine Ev.step (fun k => by rw [entry_Join.j1]) ?_
   simp only [↓reduceIte, len_ne, nil_gt]
   refine Ev.step (fun k => by rw [entry_Join.j2]) ?_
   simp only [Bool.false_eq_true, ↓reduceIte, nil_eq, len_pos, len_one, rdE0, show acc.length < 4398046511104 by omega, joinE_nil]
   exact i
  | x :: a, [] =>
   have i := ih a [] (acc ++ [x]) (by simp at hn ⊢; omega) (by simp at h ⊢; omega)
   rw [joinE_nil_r, List.append_assoc, List.singleton_append] at i
   refine Ev.step (fun k => by rw [entry_Join.l0]) ?_
   simp only [len_gt, ↓reduceIte]
   refine Ev.step (fun k => by rw [entry_Join.j1]) ?_
   simp only [↓reduceIte, nil_eq]
   refine Ev.step (fun k => by rw [entry_Join.j2]) ?_
   simp only [↓reduceIte, len_pos, len_one, rdE0, show acc.length < 4398046511104 by omega, joinE_nil_r]
   exact i
  | x :: a, y :: b =>
   have hal : acc.length < 4398046511104 := by omega
   refine Ev.step (fun k => by rw [entry_Join.l0]) ?_
   simp only [len_gt, ↓reduceIte]
   refine Ev.step (fun k => by rw [entry_Join.j1]) ?_
   simp only [↓reduceIte, len_ne, len_gt, len_pos, rdE0]
   rw [joinE_cons]
   by_cases h1 : x.f0 < y.f0
   ·have i := ih a (y :: b) (acc ++ [x]) (by simp at hn ⊢; omega) (by simp at h ⊢; omega)
    rw [List.append_assoc, List.singleton_append] at i
    simp only [h1, decide_true, ↓reduceIte]
    refine Ev.step (fun k => by rw [entry_Join.j2]) ?_
    simp only [↓reduceIte, len_pos, len_one, rdE0, hal]
    exact i
   ·simp only [h1, decide_false, ↓reduceIte]
    refine Ev.step (fun k => by rw [entry_Join.j2]) ?_
    simp only [Bool.false_eq_true, ↓reduceIte, len_ne, len_pos, len_one, rdE0, hal]
    by_cases h2 : y.f0 < x.f0
    ·have i := ih (x :: a) b (acc ++ [y]) (by simp at hn ⊢; omega) (by simp at h ⊢; omega)
     rw [List.append_assoc, List.singleton_append] at i
     simp only [h2, ↓reduceIte]
     exact i
    ·have i := ih a b (acc ++ [hi x y]) (by simp at hn ⊢; omega) (by simp at h ⊢; omega)
     rw [List.append_assoc, List.singleton_append] at i
     simp only [h2, ↓reduceIte, higher_is, Option.bind_some]
     exact i
theorem ev_Join (a b : List E) (h : a.length + b.length < 1099511627776) : Ev (fun k => entry_Join.f k a b) (joinE a b) := by
 unfold entry_Join.f
 have e : wrap64 ((a.length : Int) + (b.length : Int)) = ((a.length + b.length : Nat) : Int) := by rw [wrap_id _ (by omega) (by omega)]; omega
 simp only [e, Int.toNat_natCast, show (0 : Int) ≤ ((a.length + b.length : Nat) : Int) by omega, show a.length + b.length ≤ 8796093022208 by omega, ↓reduceIte]
 have := ev_Join_l0 _ a b [] (Nat.le_refl _) (by simp; omega)
 exact this
theorem mem_join : ∀ (n : Nat) (a b : List E), a.length + b.length ≤ n → ∀ z ∈ joinE a b, z ∈ a ∨ z ∈ b := by
 intro n
 induction n with
 | zero =>
  intro a b hn z hz
  have ha : a = [] := List.eq_nil_of_length_eq_zero (by omega)
  subst ha
  rw [joinE_nil] at hz
  exact .inr hz
 | succ n ih =>
  intro a b hn z hz
  match a, b with
  | [], b => rw [joinE_nil] at hz; exact .inr hz
  | x :: a, [] => rw [joinE_nil_r] at hz; exact .inl hz
  | x :: a, y :: b =>
   rw [joinE_cons] at hz
   split at hz
   ·rcases List.mem_cons.1 hz with rfl | hz
    ·exact .inl (by simp)
    ·rcases ih a (y :: b) (by simp at hn ⊢; omega) z hz with h | h
     ·exact .inl (by simp [h])
     ·exact .inr h
   ·split at hz
    ·rcases List.mem_cons.1 hz with rfl | hz
     ·exact .inr (by simp)
     ·rcases ih (x :: a) b (by simp at hn ⊢; omega) z hz with h | h
      ·exact .inl h
      ·exact .inr (by simp [h])
    ·rcases List.mem_cons.1 hz with rfl | hz
     ·rcases hi_or x y with e | e
      ·exact .inl (by rw [e]; simp)
      ·exact .inr (by rw [e]; simp)
     ·rcases ih a b (by simp at hn ⊢; omega) z hz with h | h
      ·exact .inl (by simp [h])
      ·exact .inr (by simp [h])
theorem ris_join : ∀ (n : Nat) (a b : List E), a.length + b.length ≤ n → Ris kE a → Ris kE b → Ris kE (joinE a b) := by
 intro n
 induction n with
 | zero =>
  intro a b hn ha hb
  have h : a = [] := List.eq_nil_of_length_eq_zero (by omega)
  subst h
  rw [joinE_nil]; exact hb
 | succ n ih =>
  intro a b hn ha hb
  match a, b with
  | [], b => rw [joinE_nil]; exact hb
  | x :: a, [] => rw [joinE_nil_r]; exact ha
  | x :: a, y :: b =>
   rw [joinE_cons]
   have hx := ris_head ha
   have hy := ris_head hb
   split
   ·rename_i h
    refine ris_cons.2 ⟨fun z hz => ?_, ih a (y :: b) (by simp at hn ⊢; omega) (ris_tail ha) hb⟩
    rcases mem_join _ _ _ (Nat.le_refl _) z hz with hz | hz
    ·exact hx z hz
    ·rcases List.mem_cons.1 hz with rfl | hz
     ·exact h
     ·have := hy z hz; unfold kE at *; omega
   ·split
    ·rename_i h
     refine ris_cons.2 ⟨fun z hz => ?_, ih (x :: a) b (by simp at hn ⊢; omega) ha (ris_tail hb)⟩
     rcases mem_join _ _ _ (Nat.le_refl _) z hz with hz | hz
     ·rcases List.mem_cons.1 hz with rfl | hz
      ·exact h
      ·have := hx z hz; unfold kE at *; omega
     ·exact hy z hz
    ·rename_i h1 h2
     have hk := hi_key x y (by omega)
     refine ris_cons.2 ⟨fun z hz => ?_, ih a b (by simp at hn ⊢; omega) (ris_tail ha) (ris_tail hb)⟩
     show (hi x y).f0 < z.f0
     rcases mem_join _ _ _ (Nat.le_refl _) z hz with hz | hz
     ·have := hx z hz; unfold kE at this; omega
     ·have := hy z hz; unfold kE at this; omega
def sup : Option E → Option E → Option E
 | none, o => o
 | o, none => o
 | some x, some y => some (hi x y)
theorem sup_none (o : Option E) : sup o none = o := by cases o <;> rfl
theorem none_sup (o : Option E) : sup none o = o := by cases o <;> rfl
theorem look_join (k : Int) : ∀ (n : Nat) (a b : List E), a.length + b.length ≤ n → Ris kE a → Ris kE b → look kE (joinE a b) k = sup (look kE a k) (look kE b k) := by
 intro n
 induction n with
 | zero =>
  intro a b hn ha hb
  have h : a = [] := List.eq_nil_of_length_eq_zero (by omega)
  subst h
  rw [joinE_nil, look_nil, none_sup]
 | succ n ih =>
  intro a b hn ha hb
  match a, b with
  | [], b => rw [joinE_nil, look_nil, none_sup]
  | x :: a, [] => rw [joinE_nil_r, look_nil, sup_none]
  | x :: a, y :: b =>
   rw [joinE_cons]
   have hx := ris_head ha
   have hy := ris_head hb
   split
   ·rename_i h
    rw [look_cons, ih a (y :: b) (by simp at hn ⊢; omega) (ris_tail ha) hb, look_cons x a]
    by_cases hk : kE x = k
    ·rw [if_pos hk, if_pos hk, look_lt (fun z hz => ?_), sup_none]
     rcases List.mem_cons.1 hz with rfl | hz
     ·unfold kE at *; omega
     ·have := hy z hz; unfold kE at *; omega
    ·rw [if_neg hk, if_neg hk]
   ·split
    ·rename_i h
     rw [look_cons, ih (x :: a) b (by simp at hn ⊢; omega) ha (ris_tail hb), look_cons y b]
     by_cases hk : kE y = k
     ·rw [if_pos hk, if_pos hk, look_lt (l := x :: a) (fun z hz => ?_), none_sup]
      rcases List.mem_cons.1 hz with rfl | hz
      ·unfold kE at *; omega
      ·have := hx z hz; unfold kE at *; omega
     ·rw [if_neg hk, if_neg hk]
    ·rename_i h1 h2
     have hk2 := hi_key x y (by omega)
     rw [look_cons, ih a b (by simp at hn ⊢; omega) (ris_tail ha) (ris_tail hb), look_cons x a, look_cons y b]
     have e1 : kE (hi x y) = kE x := hk2
     have e2 : kE y = kE x := by unfold kE; omega
     rw [e1, e2]
     by_cases hk : kE x = k
     ·rw [if_pos hk, if_pos hk, if_pos hk]; rfl
     ·rw [if_neg hk, if_neg hk, if_neg hk]
theorem look_joinE {a b : List E} (ha : Ris kE a) (hb : Ris kE b) (k : Int) : look kE (joinE a b) k = sup (look kE a k) (look kE b k) := look_join k _ a b (Nat.le_refl _) ha hb
theorem ris_joinE {a b : List E} (ha : Ris kE a) (hb : Ris kE b) : Ris kE (joinE a b) := ris_join _ a b (Nat.le_refl _) ha hb
theorem right_len {a : List E} (h : RightE a) : a.length ≤ 12 := ris_length 12 a 0 h.1 (fun x hx => by have := h.2 x hx; unfold MayE at this; unfold kE; omega)
theorem above_is (l : List E) (v : Int) (h : l.length < 1099511627776) : entry_Above.f l v = some (l.filter (fun x => !decide (x.f1 ≤ v))) := by
 unfold entry_Above.f
 rw [if_pos (by omega)]
abbrev St := S24
theorem rdS (pre : List St) (x : St) (suf : List St) : rd_T24 (pre ++ x :: suf) ((pre.length : Nat) : Int) = x := getD_mid _ pre x suf
theorem inS {s : St} (h : G24 s) : s.f2.length < 4611686018427387904 ∧ ∀ x ∈ s.f2, x.f2.size ≤ 140737488351232 := ⟨by have := h.2.2.2.1; omega, fun x hx => (h.2.2.2.2 x hx).2.2⟩
def RightS (s : St) : Prop := 1 ≤ s.f0 ∧ s.f0 ≤ 1099511627776 ∧ 0 ≤ s.f1 ∧ s.f1 ≤ 1099511627776 ∧ RightE s.f2
theorem st_ext {a b : St} (h0 : a.f0 = b.f0) (h1 : a.f1 = b.f1) (h2 : a.f2 = b.f2) : a = b := by
 cases a; cases b; simp only at h0 h1 h2; subst h0; subst h1; subst h2; rfl
theorem ev_ref05_Right (s : St) (h : s.f2.length < 4611686018427387904) : ∃ r, Ev (fun k => ref05_Right.f k s.f0 s.f1 s.f2) r ∧ (r = true ↔ RightS s) := by
 unfold ref05_Right.f
 by_cases h1 : s.f0 ≥ 1
 ·by_cases h2 : s.f0 ≤ 1099511627776
  ·by_cases h3 : s.f1 ≥ 0
   ·by_cases h4 : s.f1 ≤ 1099511627776
    ·obtain ⟨r, e, q⟩ := ev_ref04_Right s.f2 h
     simp only [h1, h2, h3, h4, ↓reduceIte]
     refine ⟨r, Ev.bind e (Ev.now _), ?_⟩
     rw [q]
     exact ⟨fun x => And.intro h1 (And.intro h2 (And.intro h3 (And.intro h4 x))), fun x => x.2.2.2.2⟩
    ·simp only [h1, h2, h3, h4, ↓reduceIte]
     exact ⟨false, Ev.now _, ⟨fun x => absurd x (by decide), fun x => absurd x.2.2.2.1 h4⟩⟩
   ·simp only [h1, h2, h3, ↓reduceIte]
    exact ⟨false, Ev.now _, ⟨fun x => absurd x (by decide), fun x => absurd x.2.2.1 h3⟩⟩
  ·simp only [h1, h2, ↓reduceIte]
   exact ⟨false, Ev.now _, ⟨fun x => absurd x (by decide), fun x => absurd x.2.1 h2⟩⟩
 ·simp only [h1, ↓reduceIte]
  exact ⟨false, Ev.now _, ⟨fun x => absurd x (by decide), fun x => absurd x.1 h1⟩⟩
theorem copy_is (s : St) (h : s.f2.length < 1099511627776) : state_Copy.f s.f0 s.f1 s.f2 = some (s.f0, s.f1, s.f2) := by
 unfold state_Copy.f api_Entry_45.f
 rw [if_pos (by omega)]
 rfl
theorem ev_ref05_Same (a b : St) (h : a.f2.length < 4611686018427387904) : ∃ r, Ev (fun k => ref05_Same.f k a.f0 a.f1 a.f2 b.f0 b.f1 b.f2) r ∧ (r = true ↔ a = b) := by
 unfold ref05_Same.f
 by_cases h1 : a.f0 = b.f0
 ·by_cases h2 : a.f1 = b.f1
  ·obtain ⟨r, e, q⟩ := ev_ref04_Same a.f2 b.f2 h
   simp only [h1, h2, ↓reduceIte]
   refine ⟨r, Ev.bind e (Ev.now _), ?_⟩
   rw [q]
   exact ⟨fun x => st_ext h1 h2 x, fun x => by rw [x]⟩
  ·simp only [h1, h2, ↓reduceIte]
   exact ⟨false, Ev.now _, ⟨fun x => absurd x (by decide), fun x => absurd (by rw [x]) h2⟩⟩
 ·simp only [h1, ↓reduceIte]
  exact ⟨false, Ev.now _, ⟨fun x => absurd x (by decide), fun x => absurd (by rw [x]) h1⟩⟩
theorem ev_ref05_same_true (a : St) (h : a.f2.length < 4611686018427387904) : Ev (fun k => ref05_Same.f k a.f0 a.f1 a.f2 a.f0 a.f1 a.f2) true := by
 obtain ⟨r, e, q⟩ := ev_ref05_Same a a h
 rw [q.2 rfl] at e
 exact e
theorem ev_ref05_Great (s : St) (h : s.f2.length < 4611686018427387904) (hs : ∀ x ∈ s.f2, x.f2.size ≤ 140737488351232) : ∃ r, Ev (fun k => ref05_Great.f k s.f0 s.f1 s.f2) r ∧ (r = false → s.f2.length ≤ 4000) := by
 obtain ⟨r, e, q⟩ := ev_ref04_Great s.f2 h hs
 exact ⟨r, Ev.bind e (Ev.now _), q⟩
theorem great_l0 (suf : List St) : ∀ pre : List St, (pre ++ suf).length < 1000 → (∀ s ∈ suf, s.f2.length < 4611686018427387904 ∧ ∀ x ∈ s.f2, x.f2.size ≤ 140737488351232) →
  ∃ r, Ev (fun k => law05_great.l0 k (pre ++ suf) (pre.length : Int)) r ∧ (r = false → ∀ s ∈ suf, s.f2.length ≤ 4000) := by
 induction suf with
 | nil =>
  intro pre h hs
  refine ⟨false, Ev.step (fun k => by rw [law05_great.l0]) ?_, fun _ s hs => by simp at hs⟩
  simp only [end_ge, ↓reduceIte]
  exact Ev.now _
 | cons s suf ih =>
  intro pre h hs
  obtain ⟨g, e, q⟩ := ev_ref05_Great s (hs s List.mem_cons_self).1 (hs s List.mem_cons_self).2
  cases g with
  | true =>
   refine ⟨true, Ev.step (fun k => by rw [law05_great.l0]) ?_, fun x => absurd x (by decide)⟩
   simp only [mid_lt, nat_ge, rdS, ↓reduceIte]
   refine Ev.bind e ?_
   simp only [↓reduceIte]
   exact Ev.now _
  | false =>
   obtain ⟨r, e2, q2⟩ := ih (pre ++ [s]) (by rw [← List.append_cons]; exact h) (fun x hx => hs x (List.mem_cons_of_mem _ hx))
   refine ⟨r, Ev.step (fun k => by rw [law05_great.l0]) ?_, fun x y hy => ?_⟩
   ·simp only [mid_lt, nat_ge, rdS, ↓reduceIte, mid_next pre s suf (by omega)]
    refine Ev.bind e ?_
    simp only [Bool.false_eq_true, ↓reduceIte]
    rw [← List.append_cons pre s suf] at e2
    exact e2
   ·rcases List.mem_cons.1 hy with rfl | hy
    ·exact q rfl
    ·exact q2 x y hy
theorem ev_great (l : List St) (hn : l.length < 1000) (hl : ∀ s ∈ l, G24 s) : ∃ r, Ev (fun k => law05_great.f k l) r ∧ (r = false → ∀ s ∈ l, s.f2.length ≤ 4000) := great_l0 l [] hn (fun s hs => inS (hl s hs))
def OverS (a b : St) : Prop := if a.f0 = b.f0 then a.f1 ≥ b.f1 ∧ OverE a.f2 b.f2 else a.f0 > b.f0
theorem over_s (a b : St) : ∃ r, state_Over.f a.f0 a.f1 a.f2 b.f0 b.f1 b.f2 = some r ∧ (r = true ↔ OverS a b) := by
 unfold state_Over.f OverS
 by_cases h1 : a.f0 = b.f0
 ·rw [if_pos h1]
  by_cases h2 : a.f1 ≥ b.f1
  ·rw [if_pos h2, if_pos h1]
   obtain ⟨r, e, q⟩ := over_is a.f2 b.f2
   rw [e]
   exact ⟨r, rfl, by rw [q]; exact ⟨fun x => ⟨h2, x⟩, fun x => x.2⟩⟩
  ·rw [if_neg h2, if_pos h1]
   exact ⟨false, rfl, ⟨fun x => absurd x (by decide), fun x => absurd x.1 h2⟩⟩
 ·rw [if_neg h1, if_neg h1]
  exact ⟨_, rfl, decide_eq_true_iff⟩
theorem over_s_true {a b : St} (h : OverS a b) : state_Over.f a.f0 a.f1 a.f2 b.f0 b.f1 b.f2 = some true := by
 obtain ⟨r, e, q⟩ := over_s a b
 rw [q.2 h] at e
 exact e
def joinS (a b : St) : St := if a.f0 > b.f0 then a else if a.f0 < b.f0 then b else ⟨a.f0, mx a.f1 b.f1, joinE a.f2 b.f2⟩
theorem ev_state_Join (a b : St) (ha : a.f2.length < 100000000000) (hb : b.f2.length < 100000000000) : Ev (fun k => state_Join.f k a.f0 a.f1 a.f2 b.f0 b.f1 b.f2) ((joinS a b).f0, (joinS a b).f1, (joinS a b).f2) := by
 unfold state_Join.f joinS
 by_cases h1 : a.f0 > b.f0
 ·simp only [h1, ↓reduceIte, copy_is a (by omega), Option.bind_some]
  exact Ev.now _
 ·by_cases h2 : a.f0 < b.f0
  ·simp only [h1, h2, ↓reduceIte, copy_is b (by omega), Option.bind_some]
   exact Ev.now _
  ·simp only [h1, h2, ↓reduceIte]
   exact Ev.bind (ev_Join a.f2 b.f2 (by omega)) (Ev.now _)
theorem above_s (s : St) (v : Int) (h : s.f2.length < 1099511627776) : state_Above.f s.f0 s.f1 s.f2 v = some (s.f0, s.f1, s.f2.filter (fun x => !decide (x.f1 ≤ v))) := by
 unfold state_Above.f
 rw [above_is s.f2 v h]
 rfl
theorem alive05 : Ev (fun k => law05_alive.f k) true := Ev.of (fun k => law05_alive.mono k) (k := 60) (by decide +kernel)
theorem lenS {s : St} (h : RightS s) : s.f2.length ≤ 12 := right_len h.2.2.2.2
theorem look_filt {l : List E} (hr : Ris kE l) (p : E → Bool) (k : Int) : look kE (l.filter p) k = (look kE l k).filter p := by
 induction l with
 | nil => rfl
 | cons x l ih =>
  have hx := ris_head hr
  have i := ih (ris_tail hr)
  rw [List.filter_cons, look_cons]
  by_cases hk : kE x = k
  ·subst hk
   rw [if_pos rfl]
   by_cases hp : p x = true
   ·rw [if_pos hp, look_cons, if_pos rfl, Option.filter, if_pos hp]
   ·rw [if_neg hp, look_lt (fun y hy => hx y ((List.mem_filter.1 hy).1)), Option.filter, if_neg hp]
  ·rw [if_neg hk]
   by_cases hp : p x = true
   ·rw [if_pos hp, look_cons, if_neg hk, i]
   ·rw [if_neg hp, i]
theorem join_parts {l : List E} (hl : Ris kE l) (v : Int) : joinE (l.filter (fun x => decide (x.f1 ≤ v))) (l.filter (fun x => !decide (x.f1 ≤ v))) = l := by
 have h1 : Ris kE (l.filter (fun x => decide (x.f1 ≤ v))) := ris_filter _ hl
 have h2 : Ris kE (l.filter (fun x => !decide (x.f1 ≤ v))) := ris_filter _ hl
 refine ris_ext (key := kE) (ris_joinE h1 h2) hl (fun k => ?_)
 rw [look_joinE h1 h2, look_filt hl, look_filt hl]
 cases look kE l k with
 | none => rfl
 | some x =>
  by_cases h : x.f1 ≤ v
  ·rw [Option.filter, if_pos (decide_eq_true h), Option.filter, if_neg (by simp [h]), sup_none]
  ·rw [Option.filter, if_neg (by simp [h]), Option.filter, if_pos (by simp [h]), none_sup]
theorem over_filt {l : List E} (hl : Ris kE l) (p : E → Bool) : OverE l (l.filter p) := fun y hy =>
 ⟨y, look_of_mem (key := kE) hl ((List.mem_filter.1 hy).1), gt_irrefl y⟩
theorem len_parts {l : List E} (v : Int) : (l.filter (fun x => decide (x.f1 ≤ v))).length + (l.filter (fun x => !decide (x.f1 ≤ v))).length = l.length := by
 induction l with
 | nil => rfl
 | cons x l ih =>
  rw [List.filter_cons, List.filter_cons]
  by_cases h : x.f1 ≤ v
  ·rw [if_pos (decide_eq_true h), if_neg (by simp [h]), List.length_cons, List.length_cons]; omega
  ·rw [if_neg (by simp [h]), if_pos (by simp [h]), List.length_cons, List.length_cons]; omega
theorem parts_l {s : St} (hs : RightS s) (a : Int) : ∀ (suf pre : List E), pre ++ suf = s.f2 →
  Ev (fun k => law05_StateParts.l0 k a (pre.length : Int) s.f0 s.f1 s.f2 s.f0 0 (pre.filter (fun x => decide (x.f1 ≤ wrap64 a)))) true
 | [], pre, e => by
  have hl := lenS hs
  have e' : pre = s.f2 := by simpa using e
  subst e'
  refine Ev.step (fun k => by rw [law05_StateParts.l0]) ?_
  simp only [Int.lt_irrefl, ↓reduceIte, above_s s (wrap64 a) (by omega), Option.bind_some]
  have hlen : (s.f2.filter (fun x => decide (x.f1 ≤ wrap64 a))).length + (s.f2.filter (fun x => !decide (x.f1 ≤ wrap64 a))).length = s.f2.length := len_parts (wrap64 a)
  have hj : joinS ⟨s.f0, 0, s.f2.filter (fun x => decide (x.f1 ≤ wrap64 a))⟩ ⟨s.f0, s.f1, s.f2.filter (fun x => !decide (x.f1 ≤ wrap64 a))⟩ = s := by
   unfold joinS
   rw [if_neg (Int.lt_irrefl _), if_neg (Int.lt_irrefl _)]
   refine st_ext rfl ?_ (join_parts hs.2.2.2.2.1 _)
   show mx 0 s.f1 = s.f1
   rw [mx_eq]; have := hs.2.2.1; omega
  have i := ev_state_Join ⟨s.f0, 0, s.f2.filter (fun x => decide (x.f1 ≤ wrap64 a))⟩ ⟨s.f0, s.f1, s.f2.filter (fun x => !decide (x.f1 ≤ wrap64 a))⟩ (by show (s.f2.filter _).length < _; omega) (by show (s.f2.filter _).length < _; omega)
  rw [hj] at i
  refine Ev.bind i (Ev.bind (ev_ref05_same_true s (by omega)) ?_)
  have o1 : OverS s ⟨s.f0, 0, s.f2.filter (fun x => decide (x.f1 ≤ wrap64 a))⟩ := by
   unfold OverS; rw [if_pos rfl]; exact ⟨hs.2.2.1, over_filt hs.2.2.2.2.1 _⟩
  have o2 : OverS s ⟨s.f0, s.f1, s.f2.filter (fun x => !decide (x.f1 ≤ wrap64 a))⟩ := by
   unfold OverS; rw [if_pos rfl]; exact ⟨Int.le_refl _, over_filt hs.2.2.2.2.1 _⟩
  have t1 := over_s_true o1
  have t2 := over_s_true o2
  dsimp only at t1 t2
  have hw : wrap64 (((s.f2.filter (fun x => decide (x.f1 ≤ wrap64 a))).length : Int) + ((s.f2.filter (fun x => !decide (x.f1 ≤ wrap64 a))).length : Int)) = (s.f2.length : Int) := by rw [wrap_id _ (by omega) (by omega)]; omega
  simp only [↓reduceIte, hw, t1, t2, Option.bind_some]
  exact Ev.now _
 | x :: suf, pre, e => by
  have hl := lenS hs
  have hlen : pre.length + (suf.length + 1) = s.f2.length := by rw [← e]; simp
  have hlt := mid_lt pre x suf
  have hrd := rdE pre x suf
  have hnx := mid_next pre x suf (by rw [e]; omega)
  rw [e] at hlt hrd
  have i := parts_l hs a suf (pre ++ [x]) (by simpa using e)
  have hf : (pre.filter (fun x => decide (x.f1 ≤ wrap64 a))).length ≤ pre.length := List.length_filter_le _ _
  refine Ev.step (fun k => by rw [law05_StateParts.l0]) ?_
  simp only [hlt, nat_ge, hrd, ↓reduceIte, hnx]
  rw [List.filter_append, List.filter_cons, List.filter_nil] at i
  by_cases h : x.f1 ≤ wrap64 a
  ·rw [if_pos (decide_eq_true h)] at i
   simp only [h, ↓reduceIte, show (pre.filter (fun x => decide (x.f1 ≤ wrap64 a))).length < 4398046511104 by omega]
   exact i
  ·rw [if_neg (by simp [h]), List.append_nil] at i
   simp only [h, ↓reduceIte]
   exact i
theorem StateParts : ∀ (x0 : S24) (x1 : Int), G24 x0 → (Lit.int .u8 x1).wf = true → ∃ k, law05_StateParts.f k x0.f0 x0.f1 x0.f2 x1 = some true := by
 intro s v ga _
 refine Ev.rounds (r := true) ?_
 unfold law05_StateParts.f
 refine Ev.bind alive05 ?_
 simp only [↓reduceIte]
 have out : Ev (fun k => law05_StateParts.j0 k v true s.f0 s.f1 s.f2) true := by
  refine Ev.step (fun k => by rw [law05_StateParts.j0]) ?_
  simp only [↓reduceIte]
  exact Ev.now _
 obtain ⟨g, eg, qg⟩ := ev_great [s] (by simp) (fun s hs => by
  rcases List.mem_cons.1 hs with rfl | hs
  ·exact ga
  ·simp at hs)
 refine Ev.bind eg ?_
 cases g with
 | true => simp only [↓reduceIte]; exact out
 | false =>
 simp only [Bool.false_eq_true, ↓reduceIte]
 obtain ⟨r1, e1, q1⟩ := ev_ref05_Right s (by have := qg rfl s (by simp); omega)
 refine Ev.bind e1 ?_
 cases r1 with
 | false => simp only [Bool.not_false]; exact out
 | true =>
  simp only [Bool.not_true]
  refine Ev.step (fun k => by rw [law05_StateParts.j0]) ?_
  simp only [Bool.false_eq_true, ↓reduceIte]
  exact parts_l (q1.1 rfl) v s.f2 [] rfl
end Go.Proofs.Ytfoeahjbkmdgfaa.Pl

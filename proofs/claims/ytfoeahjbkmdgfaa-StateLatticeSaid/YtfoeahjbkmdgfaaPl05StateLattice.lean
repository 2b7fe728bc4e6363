/- StateLattice's plain law: joining in any order, and twice, is the same, and the least that is over both: for all states. No condition. -/
import Derived.Test.YtfoeahjbkmdgfaaOps
import Derived.Test.YtfoeahjbkmdgfaaPLaw05StateLatticeBase
namespace Go.Proofs.Ytfoeahjbkmdgfaa.Pl
open Go.RowKit Go.Proofs.Ytfoeahjbkmdgfaa.P Go.Proofs.YtfoeahjbkmdgfaaW.PrintWords Go.Proofs.YtfoeahjbkmdgfaaW.PrintLast Go.Proofs.YtfoeahjbkmdgfaaW.PrintMore
set_option linter.unusedSimpArgs false
set_option linter.unusedVariables false
abbrev E := S40
theorem wrap_id (x : Int) (h0 : -9223372036854775808 ≤ x) (h1 : x ≤ 9223372036854775807) : wrap64 x = x := by unfold wrap64; omega
theorem wrap_nat (n : Nat) (h : n < 9223372036854775807) : wrap64 ((n : Int) + 1) = ((n + 1 : Nat) : Int) := by unfold wrap64; omega
theorem getD_mid {α : Type} (z : α) (pre : List α) (x : α) (suf : List α) : (pre ++ x :: suf).getD ((pre.length : Nat) : Int).toNat z = x := by
 simp [List.getD_eq_getElem?_getD]
theorem rdE (pre : List E) (x : E) (suf : List E) : rd_T40 (pre ++ x :: suf) ((pre.length : Nat) : Int) = x := getD_mid _ pre x suf
theorem rdE0 (x : E) (suf : List E) : rd_T40 (x :: suf) 0 = x := rfl
theorem mid_lt {α : Type} (pre : List α) (x : α) (suf : List α) : ((pre.length : Nat) : Int) < ((pre ++ x :: suf).length : Int) := by simp <;> omega
theorem end_ge {α : Type} (pre : List α) : ¬ ((pre.length : Nat) : Int) < ((pre ++ ([] : List α)).length : Int) := by simp
theorem nat_ge {α : Type} (pre : List α) : (0 : Int) ≤ ((pre.length : Nat) : Int) := Int.natCast_nonneg _
theorem mid_next {α : Type} (pre : List α) (x : α) (suf : List α) (h : (pre ++ x :: suf).length < 9223372036854775807) : wrap64 (((pre.length : Nat) : Int) + 1) = (((pre ++ [x]).length : Nat) : Int) := by
 rw [wrap_nat _ (by simp at h; omega), List.length_append]; rfl
theorem mid_prev {α : Type} (pre : List α) (y x : α) (suf : List α) (h : ((pre ++ [y]) ++ x :: suf).length < 9223372036854775807) : wrap64 ((((pre ++ [y]).length : Nat) : Int) - 1) = ((pre.length : Nat) : Int) := by
 rw [wrap_id _ (by omega) (by have := h; simp only [List.length_append, List.length_cons, List.length_nil] at *; omega), List.length_append, List.length_singleton]; omega
theorem Ev.cast {α : Type} {g : Nat → Option α} {r r' : α} (h : Ev g r) (e : r = r') : Ev g r' := e ▸ h
section
variable {α : Type} (key : α → Int)
def Ris (l : List α) : Prop := l.Pairwise (fun a b => key a < key b)
def look (l : List α) (k : Int) : Option α := l.find? (fun x => key x == k)
variable {key}
theorem ris_nil : Ris key [] := List.Pairwise.nil
theorem ris_cons {x : α} {l : List α} : Ris key (x :: l) ↔ (∀ y ∈ l, key x < key y) ∧ Ris key l := List.pairwise_cons
theorem ris_tail {x : α} {l : List α} (h : Ris key (x :: l)) : Ris key l := (ris_cons.1 h).2
theorem ris_head {x : α} {l : List α} (h : Ris key (x :: l)) : ∀ y ∈ l, key x < key y := (ris_cons.1 h).1
theorem look_nil (k : Int) : look key ([] : List α) k = none := rfl
theorem look_cons (x : α) (l : List α) (k : Int) : look key (x :: l) k = if key x = k then some x else look key l k := by
 unfold look
 by_cases h : key x = k
 ·simp [h]
 ·simp [h]
theorem look_mem {l : List α} {k : Int} {x : α} (h : look key l k = some x) : x ∈ l ∧ key x = k := by
 unfold look at h
 exact ⟨List.mem_of_find?_eq_some h, by simpa using List.find?_some h⟩
theorem look_none {l : List α} {k : Int} : look key l k = none ↔ ∀ x ∈ l, key x ≠ k := by
 unfold look
 simp
theorem look_lt {l : List α} {k : Int} (h : ∀ y ∈ l, k < key y) : look key l k = none := look_none.2 (fun x hx => by have := h x hx; omega)
theorem look_of_mem {l : List α} {x : α} (hr : Ris key l) (hx : x ∈ l) : look key l (key x) = some x := by
 induction l with
 | nil => simp at hx
 | cons y l ih =>
  rw [look_cons]
  rcases List.mem_cons.1 hx with rfl | hx
  ·simp
  ·have := ris_head hr x hx; rw [if_neg (by omega)]; exact ih (ris_tail hr) hx
/-- Two rising lists in which the same is found are the same. -/
theorem ris_ext : ∀ {a b : List α}, Ris key a → Ris key b → (∀ k, look key a k = look key b k) → a = b
 | [], [], _, _, _ => rfl
 | [], y :: b, _, _, h => by
  have := h (key y); rw [look_cons, if_pos rfl] at this
  simp [look_nil] at this
 | x :: a, [], _, _, h => by
  have := h (key x); rw [look_cons, if_pos rfl] at this
  simp [look_nil] at this
 | x :: a, y :: b, ha, hb, h => by
  have hxy : key x = key y := by
   rcases Int.lt_trichotomy (key x) (key y) with hlt | he | hgt
   ·have h1 := h (key x); rw [look_cons, if_pos rfl, look_cons, if_neg (by omega), look_lt (fun z hz => by have := ris_head hb z hz; omega)] at h1
    simp at h1
   ·exact he
   ·have h1 := h (key y); rw [look_cons, if_neg (by omega), look_lt (fun z hz => by have := ris_head ha z hz; omega), look_cons, if_pos rfl] at h1
    simp at h1
  have hx : x = y := by
   have h1 := h (key x); rw [look_cons, if_pos rfl, look_cons, if_pos hxy.symm] at h1; exact Option.some.inj h1
  subst hx
  rw [ris_ext (ris_tail ha) (ris_tail hb) (fun k => by
   by_cases hk : key x = k
   ·rw [look_lt (fun z hz => by have := ris_head ha z hz; omega), look_lt (fun z hz => by have := ris_head hb z hz; omega)]
   ·have h1 := h k; rw [look_cons, if_neg hk, look_cons, if_neg hk] at h1
    exact h1)]
/-- A rising list whose keys are from 0 to below n has at most n elements. -/
theorem ris_length (n : Nat) : ∀ (l : List α) (m : Nat), Ris key l → (∀ x ∈ l, (m : Int) ≤ key x ∧ key x < (m : Int) + n) → l.length ≤ n := by
 induction n with
 | zero =>
  intro l m _ h
  match l with
  | [] => exact Nat.le_refl _
  | x :: l => have := h x (by simp); omega
 | succ n ih =>
  intro l m hr h
  match l with
  | [] => simp
  | x :: l =>
   have h1 := ih l (m + 1) (ris_tail hr) (fun y hy => by
    have h2 := h y (by simp [hy]); have h3 := ris_head hr y hy; have h4 := h x (by simp); omega)
   simp; omega
end
theorem bool_iff {a b : Bool} {p : Prop} (ha : a = true ↔ p) (hb : b = true ↔ p) : a = b := by
 cases a <;> cases b <;> simp_all
def MayE (x : E) : Prop := 0 ≤ x.f0 ∧ x.f0 < 12 ∧ 1 ≤ x.f1 ∧ x.f1 ≤ 1099511627776 ∧ x.f2.size ≤ 200
def kE (x : E) : Int := x.f0
def RightE (l : List E) : Prop := Ris kE l ∧ ∀ x ∈ l, MayE x
theorem mx_eq (a b : Int) : mx a b = max a b := by unfold mx; rw [Int.max_def]; split <;> split <;> omega
theorem mx_le {a b c : Int} (h1 : a ≤ c) (h2 : b ≤ c) : mx a b ≤ c := by unfold mx; split <;> omega
theorem le_mx_l (a b : Int) : a ≤ mx a b := by unfold mx; split <;> omega
theorem le_mx_r (a b : Int) : b ≤ mx a b := by unfold mx; split <;> omega
open Go.RowKit Go.Proofs.Ytfoeahjbkmdgfaa.P Go.Proofs.YtfoeahjbkmdgfaaW.PrintWords Go.Proofs.YtfoeahjbkmdgfaaW.PrintLast Go.Proofs.YtfoeahjbkmdgfaaW.PrintMore Go.Proofs.YtfoeahjbkmdgfaaW.Hw
theorem wrap01 : wrap64 (0 + 1) = 1 := wrap_id 1 (by omega) (by omega)
theorem all_cons {α : Type} {Q : α → Prop} {x : α} {l : List α} (hx : Q x) (hl : ∀ z, z ∈ l → Q z) : ∀ z, z ∈ x :: l → Q z := fun z hz => by
 rcases List.mem_cons.1 hz with rfl | hz
 ·exact hx
 ·exact hl z hz
theorem ev_ref04_Great_l0 (suf : List E) : ∀ (pre : List E) (n : Int), (pre ++ suf).length < 4611686018427387904 → 0 ≤ n → n ≤ 4611686018427387904 → (∀ x ∈ suf, x.f2.size ≤ 140737488351232) →
  ∃ r, Ev (fun k => ref04_Great.l0 k (pre ++ suf) n (pre.length : Int)) r ∧ (r = false → n ≤ 4000) := by
 induction suf with
 | nil =>
  intro pre n h h0 h1 h2; refine ⟨decide (n > 4000), Ev.step (fun k => by rw [ref04_Great.l0]) ?_, by simp⟩; simp only [end_ge, ↓reduceIte]; exact Ev.now _
 | cons x suf ih =>
  intro pre n h h0 h1 h2
  by_cases hn : n ≤ 4000
  ·have hx := h2 x (by simp); obtain ⟨r, hr, hi⟩ := ih (pre ++ [x]) (n + (x.f2.size : Int)) (by rw [← List.append_cons]; exact h) (by omega) (by omega) (fun y hy => h2 y (by simp [hy])); refine ⟨r, Ev.step (fun k => by rw [ref04_Great.l0]) ?_, fun _ => hn⟩; simp only [mid_lt, nat_ge, ↓reduceIte, rdE, mid_next pre x suf (by omega), hn, wrap_id (n + (x.f2.size : Int)) (by omega) (by omega)]; rw [← List.append_cons pre x suf] at hr; exact hr
  ·refine ⟨decide (n > 4000), Ev.step (fun k => by rw [ref04_Great.l0]) ?_, by simp⟩; simp only [mid_lt, ↓reduceIte, hn]; exact Ev.now _
theorem ev_ref04_Great (l : List E) (h : l.length < 4611686018427387904) (hs : ∀ x ∈ l, x.f2.size ≤ 140737488351232) : ∃ r, Ev (fun k => ref04_Great.f k l) r ∧ (r = false → l.length ≤ 4000) := by
 obtain ⟨r, hr, hi⟩ := ev_ref04_Great_l0 l [] (l.length : Int) h (by omega) (by omega) hs; exact ⟨r, hr, fun e => by have := hi e; omega⟩
section
variable {α : Type} {key : α → Int}
theorem ris_cons2 {y x : α} {l : List α} : Ris key (y :: x :: l) ↔ key y < key x ∧ Ris key (x :: l) := by
 rw [ris_cons]
 constructor
 ·rintro ⟨h1, h2⟩; exact ⟨h1 x (by simp), h2⟩
 ·rintro ⟨h1, h2⟩; refine ⟨fun z hz => ?_, h2⟩
  rcases List.mem_cons.1 hz with rfl | hz
  ·exact h1
  ·have := ris_head h2 z hz; omega
theorem ris_one (x : α) : Ris key [x] := List.pairwise_singleton _ x
end
theorem len_pos {α : Type} (x : α) (l : List α) : (0 : Int) < ((x :: l).length : Int) := by simp <;> omega
theorem len_one {α : Type} (x : α) (l : List α) : (1 : Int) ≤ ((x :: l).length : Int) := by rw [List.length_cons]; omega
theorem len_ne {α : Type} (x : α) (l : List α) : ¬ (((x :: l).length : Int) = 0) := by simp <;> omega
theorem len_gt {α : Type} (x : α) (l : List α) : ((x :: l).length : Int) > 0 := by simp <;> omega
theorem nil_gt {α : Type} : ¬ (((([] : List α).length : Nat) : Int) > 0) := by simp
theorem nil_eq {α : Type} : (((([] : List α).length : Nat) : Int) = 0) := rfl
theorem may04_is (x : E) : ∃ r, ref04_May.f x.f0 x.f1 x.f2 = some r ∧ (r = true ↔ MayE x) := by
 unfold ref04_May.f MayE
 by_cases h1 : x.f0 ≥ 0
 ·by_cases h2 : x.f0 < 12
  ·by_cases h3 : x.f1 ≥ 1
   ·by_cases h4 : x.f1 ≤ 1099511627776
    ·refine ⟨_, by simp only [h1, h2, h3, h4, ↓reduceIte]; rfl, ?_⟩
     simp; omega
    ·exact ⟨false, by simp only [h1, h2, h3, h4, ↓reduceIte], by simp; omega⟩
   ·exact ⟨false, by simp only [h1, h2, h3, ↓reduceIte], by simp; omega⟩
  ·exact ⟨false, by simp only [h1, h2, ↓reduceIte], by simp; omega⟩
 ·exact ⟨false, by simp only [h1, ↓reduceIte], by simp; omega⟩
theorem pos_mid {α : Type} (p : List α) (y : α) : (((p ++ [y]).length : Nat) : Int) > 0 := by simp <;> omega
theorem prev_ge {α : Type} (p : List α) (y x : α) (s : List α) : ((p.length : Nat) : Int) < (((p ++ [y]) ++ x :: s).length : Int) := by simp <;> omega
theorem rdE1 (p : List E) (y x : E) (s : List E) : rd_T40 ((p ++ [y]) ++ x :: s) ((p.length : Nat) : Int) = y := by rw [← List.append_cons]; exact rdE p y (x :: s)
theorem ev_ref04_Right_l0 (suf : List E) : ∀ (p : List E) (y : E), ((p ++ [y]) ++ suf).length < 4611686018427387904 →
  ∃ r, Ev (fun k => ref04_Right.l0 k ((p ++ [y]) ++ suf) ((p ++ [y]).length : Int)) r ∧ (r = true ↔ Ris kE (y :: suf) ∧ ∀ x ∈ suf, MayE x) := by
 induction suf with
 | nil =>
  intro p y h; refine ⟨true, Ev.step (fun k => by rw [ref04_Right.l0]) ?_, by simp [ris_one]⟩; simp only [end_ge, ↓reduceIte]; exact Ev.now _
 | cons x suf ih =>
  intro p y h; obtain ⟨m, hm, hmi⟩ := may04_is x
  cases m with
  | false =>
   refine ⟨false, Ev.step (fun k => by rw [ref04_Right.l0]) ?_, ?_⟩
   ·simp only [mid_lt, nat_ge, ↓reduceIte, rdE, hm, Option.bind_some, Bool.false_eq_true]; exact Ev.now _
   ·simp only [Bool.false_eq_true, false_iff]; rintro ⟨_, h2⟩; exact absurd (hmi.2 (h2 x (by simp))) (by simp)
  | true =>
   by_cases hk : y.f0 ≥ x.f0
   ·refine ⟨false, Ev.step (fun k => by rw [ref04_Right.l0]) ?_, ?_⟩
    ·simp only [mid_lt, nat_ge, ↓reduceIte, rdE, hm, Option.bind_some, pos_mid, mid_prev p y x suf (by omega), prev_ge, rdE1, hk]; exact Ev.now _
    ·simp only [Bool.false_eq_true, false_iff, ris_cons2]; rintro ⟨⟨h1, _⟩, _⟩
     unfold kE at h1; omega
   ·obtain ⟨r, hr, hi⟩ := ih (p ++ [y]) x (by rw [← List.append_cons]; exact h); refine ⟨r, Ev.step (fun k => by rw [ref04_Right.l0]) ?_, ?_⟩
    ·simp only [mid_lt, nat_ge, ↓reduceIte, rdE, hm, Option.bind_some, pos_mid, mid_prev p y x suf (by omega), prev_ge, rdE1, hk, mid_next (p ++ [y]) x suf (by omega)]; rw [← List.append_cons (p ++ [y]) x suf] at hr; exact hr
    ·rw [hi, ris_cons2]; have := hmi.1 rfl
     constructor
     ·rintro ⟨h1, h2⟩; exact ⟨⟨by unfold kE; omega, h1⟩, all_cons (this) (fun z hz => h2 z hz)⟩
     ·rintro ⟨⟨_, h1⟩, h2⟩; exact ⟨h1, fun z hz => h2 z (by simp [hz])⟩
theorem ev_ref04_Right (l : List E) (h : l.length < 4611686018427387904) : ∃ r, Ev (fun k => ref04_Right.f k l) r ∧ (r = true ↔ RightE l) := by
 cases l with
 | nil =>
  refine ⟨true, Ev.step (g := fun k => ref04_Right.l0 k [] 0) (fun k => by rw [ref04_Right.l0]) ?_, by simp [RightE, ris_nil]⟩; simp only [List.length_nil, Int.natCast_zero, Int.lt_irrefl, ↓reduceIte]; exact Ev.now _
 | cons x l =>
  obtain ⟨m, hm, hmi⟩ := may04_is x; have e0 : (0 : Int) < ((x :: l).length : Int) := len_pos x l
  cases m with
  | false =>
   refine ⟨false, Ev.step (g := fun k => ref04_Right.l0 k (x :: l) 0) (fun k => by rw [ref04_Right.l0]) ?_, ?_⟩
   ·simp only [e0, Int.le_refl, ↓reduceIte, rdE0, hm, Option.bind_some, Bool.false_eq_true]; exact Ev.now _
   ·simp only [Bool.false_eq_true, false_iff]; rintro ⟨_, h2⟩; exact absurd (hmi.2 (h2 x (by simp))) (by simp)
  | true =>
   obtain ⟨r, hr, hi⟩ := ev_ref04_Right_l0 l [] x h; refine ⟨r, Ev.step (g := fun k => ref04_Right.l0 k (x :: l) 0) (fun k => by rw [ref04_Right.l0]) ?_, ?_⟩
   ·simp only [e0, Int.le_refl, ↓reduceIte, rdE0, hm, Option.bind_some, gt_iff_lt, Int.lt_irrefl, wrap01]; exact hr
   ·rw [hi]
    constructor
    ·rintro ⟨h1, h2⟩; exact ⟨h1, all_cons (hmi.1 rfl) (fun z hz => h2 z hz)⟩
    ·rintro ⟨h1, h2⟩; exact ⟨h1, fun z hz => h2 z (by simp [hz])⟩
theorem may_is (x : E) : ∃ r, entry_May.f x.f0 x.f1 x.f2 = some r ∧ (r = true ↔ MayE x) := may04_is x
theorem ev_entry_Right_l0 (suf : List E) : ∀ (pre : List E) (last : Int), (pre ++ suf).length < 4611686018427387904 →
  ∃ r, Ev (fun k => entry_Right.l0 k last (pre ++ suf) ((pre ++ suf).length : Int) (pre.length : Int)) r ∧ (r = true ↔ (∀ x ∈ suf, last < x.f0 ∧ MayE x) ∧ Ris kE suf) := by
 induction suf with
 | nil =>
  intro pre last h; refine ⟨true, Ev.step (fun k => by rw [entry_Right.l0]) ?_, by simp [Ris]⟩; simp only [end_ge, ↓reduceIte]; exact Ev.now _
 | cons x suf ih =>
  intro pre last h
  by_cases hle : x.f0 ≤ last
  ·refine ⟨false, Ev.step (fun k => by rw [entry_Right.l0]) ?_, ?_⟩
   ·simp only [mid_lt, nat_ge, ↓reduceIte, rdE, hle]; exact Ev.now _
   ·simp only [Bool.false_eq_true, false_iff]; rintro ⟨h1, _⟩; have := (h1 x (by simp)).1
    omega
  ·obtain ⟨m, hm, hm2⟩ := may_is x
   cases m with
   | false =>
    refine ⟨false, Ev.step (fun k => by rw [entry_Right.l0]) ?_, ?_⟩
    ·simp only [mid_lt, nat_ge, ↓reduceIte, rdE, hle, hm, Option.bind_some, Bool.false_eq_true]; exact Ev.now _
    ·simp only [Bool.false_eq_true, false_iff]; rintro ⟨h1, _⟩; have := hm2.2 (h1 x (by simp)).2
     simp at this
   | true =>
    obtain ⟨r, h1, h2⟩ := ih (pre ++ [x]) x.f0 (by rw [← List.append_cons]; exact h); refine ⟨r, Ev.step (fun k => by rw [entry_Right.l0]) ?_, ?_⟩
    ·simp only [mid_lt, nat_ge, ↓reduceIte, rdE, hle, hm, Option.bind_some, mid_next pre x suf (by omega)]; rw [← List.append_cons pre x suf] at h1; exact h1
    ·rw [h2]
     constructor
     ·rintro ⟨a, b⟩; refine ⟨fun y hy => ?_, ris_cons.2 ⟨fun y hy => (a y hy).1, b⟩⟩
      rcases List.mem_cons.1 hy with rfl | hy
      ·exact ⟨by omega, hm2.1 rfl⟩
      ·exact ⟨by have := (a y hy).1; omega, (a y hy).2⟩
     ·rintro ⟨a, b⟩; exact ⟨fun y hy => ⟨ris_head b y hy, (a y (by simp [hy])).2⟩, ris_tail b⟩
theorem ev_entry_Right (l : List E) (h : l.length < 4611686018427387904) : ∃ r, Ev (fun k => entry_Right.f k l) r ∧ (r = true ↔ RightE l) := by
 obtain ⟨r, h1, h2⟩ := ev_entry_Right_l0 l [] (-1) h; refine ⟨r, h1, ?_⟩; rw [h2]
 constructor
 ·rintro ⟨a, b⟩; exact ⟨b, fun x hx => (a x hx).2⟩
 ·rintro ⟨b, a⟩; exact ⟨fun x hx => ⟨by have := (a x hx).1; omega, a x hx⟩, b⟩
theorem ne_is (x y : E) : (!(x.f0 == y.f0) || (!(x.f1 == y.f1) || (!(x.f2.toList == y.f2.toList)))) = true ↔ x ≠ y := by
 obtain ⟨a0, a1, a2⟩ := x; obtain ⟨b0, b1, b2⟩ := y; simp only [Bool.or_eq_true, Bool.not_eq_true', beq_eq_false_iff_ne]
 constructor
 ·rintro h e; cases e
  simp at h
 ·intro h
  by_cases h0 : a0 = b0
  ·by_cases h1 : a1 = b1
   ·right; right
    intro e; exact h (by rw [h0, h1, ba_ext e])
   ·exact .inr (.inl h1)
  ·exact .inl h0
theorem ev_ref04_Same_l0 (sa : List E) : ∀ (sb pa pb : List E), pa.length = pb.length → sa.length = sb.length → (pa ++ sa).length < 4611686018427387904 →
  ∃ r, Ev (fun k => ref04_Same.l0 k (pa ++ sa) (pb ++ sb) (pa.length : Int)) r ∧ (r = true ↔ sa = sb) := by
 induction sa with
 | nil =>
  intro sb pa pb hp hs h; have : sb = [] := List.eq_nil_of_length_eq_zero (by simpa using hs.symm); subst this; refine ⟨true, Ev.step (fun k => by rw [ref04_Same.l0]) ?_, by simp⟩; simp only [end_ge, ↓reduceIte]; exact Ev.now _
 | cons x sa ih =>
  intro sb pa pb hp hs h
  match sb, hs with
  | y :: sb, hs =>
   have r2 : rd_T40 (pb ++ y :: sb) (pa.length : Int) = y := by rw [hp]; exact rdE pb y sb
   have l2 : (pa.length : Int) < ((pb ++ y :: sb).length : Int) := by rw [hp]; exact mid_lt pb y sb
   by_cases hxy : x = y
   ·subst hxy; obtain ⟨r, h1, h2⟩ := ih sb (pa ++ [x]) (pb ++ [x]) (by simp [hp]) (by simpa using hs) (by rw [← List.append_cons]; exact h); refine ⟨r, Ev.step (fun k => by rw [ref04_Same.l0]) ?_, ?_⟩
    ·have hn : ¬ ((!(x.f0 == x.f0) || (!(x.f1 == x.f1) || (!(x.f2.toList == x.f2.toList)))) = true) := fun e => (ne_is x x).1 e rfl
     simp only [mid_lt, l2, nat_ge, ↓reduceIte, rdE, r2, hn, mid_next pa x sa (by omega)]; rw [← List.append_cons pa x sa, ← List.append_cons pb x sb] at h1; exact h1
    ·rw [h2]; simp
   ·refine ⟨false, Ev.step (fun k => by rw [ref04_Same.l0]) ?_, ?_⟩
    ·have hn := (ne_is x y).2 hxy; simp only [mid_lt, l2, nat_ge, ↓reduceIte, rdE, r2, hn]; exact Ev.now _
    ·simp [hxy]
theorem ev_ref04_Same (a b : List E) (h : a.length < 4611686018427387904) : ∃ r, Ev (fun k => ref04_Same.f k a b) r ∧ (r = true ↔ a = b) := by
 unfold ref04_Same.f
 by_cases hl : (a.length : Int) = (b.length : Int)
 ·obtain ⟨r, h1, h2⟩ := ev_ref04_Same_l0 a b [] [] rfl (by omega) (by simpa using h); refine ⟨r, ?_, h2⟩; simp only [hl, ↓reduceIte]; exact h1
 ·refine ⟨false, ?_, ?_⟩
  ·simp only [hl, ↓reduceIte]; exact Ev.now _
  ·simp only [Bool.false_eq_true, false_iff]; intro e; exact hl (by rw [e])
/-- Is y above x? -/
def Gt (y x : E) : Prop := y.f1 > x.f1 ∨ (y.f1 = x.f1 ∧ Op.bytesLess x.f2.toList y.f2.toList = true)
instance (y x : E) : Decidable (Gt y x) := by unfold Gt; infer_instance
def hi (x y : E) : E := if Gt y x then y else x
theorem gt_irrefl (x : E) : ¬ Gt x x := by
 rintro (h | ⟨_, h⟩)
 ·omega
 ·rw [bl_irrefl] at h; cases h
theorem gt_trans {x y z : E} (h : Gt x y) (k : Gt y z) : Gt x z := by
 rcases h with h | ⟨h1, h2⟩
 ·rcases k with k | ⟨k1, k2⟩
  ·exact .inl (by omega)
  ·exact .inl (by omega)
 ·rcases k with k | ⟨k1, k2⟩
  ·exact .inl (by omega)
  ·exact .inr ⟨by omega, bl_trans _ _ _ k2 h2⟩
theorem gt_total (x y : E) : Gt x y ∨ Gt y x ∨ (x.f1 = y.f1 ∧ x.f2 = y.f2) := by
 rcases Int.lt_trichotomy x.f1 y.f1 with h | h | h
 ·exact .inr (.inl (.inl h))
 ·rcases bl_total x.f2.toList y.f2.toList with k | k | k
  ·exact .inr (.inl (.inr ⟨h.symm, k⟩))
  ·exact .inr (.inr ⟨h, ba_ext k⟩)
  ·exact .inl (.inr ⟨h, k⟩)
 ·exact .inl (.inl h)
theorem gt_cong {x y z : E} (h1 : x.f1 = y.f1) (h2 : x.f2 = y.f2) : (Gt x z ↔ Gt y z) ∧ (Gt z x ↔ Gt z y) := by
 unfold Gt
 rw [h1, h2]; exact ⟨Iff.rfl, Iff.rfl⟩
theorem not_gt_trans {x y z : E} (h : ¬ Gt x y) (k : ¬ Gt y z) : ¬ Gt x z := by
 intro hxz
 rcases gt_total y x with a | a | ⟨a, b⟩
 ·exact k (gt_trans a hxz)
 ·exact h a
 ·exact k ((gt_cong a b).1.2 hxz)
theorem hi_key (x y : E) (h : x.f0 = y.f0) : (hi x y).f0 = x.f0 := by unfold hi; split <;> simp [h]
theorem hi_or (x y : E) : hi x y = x ∨ hi x y = y := by unfold hi; split <;> simp
theorem hi_self (x : E) : hi x x = x := by unfold hi; rw [if_neg (gt_irrefl x)]
theorem e_ext {x y : E} (h0 : x.f0 = y.f0) (h1 : x.f1 = y.f1) (h2 : x.f2 = y.f2) : x = y := by
 obtain ⟨a, b, c⟩ := x; obtain ⟨d, e, f⟩ := y; simp only at h0 h1 h2; rw [h0, h1, h2]
theorem hi_comm {x y : E} (h : x.f0 = y.f0) : hi x y = hi y x := by
 unfold hi
 by_cases h1 : Gt y x
 ·rw [if_pos h1, if_neg (fun h2 => gt_irrefl x (gt_trans h2 h1))]
 ·by_cases h2 : Gt x y
  ·rw [if_neg h1, if_pos h2]
  ·rcases gt_total x y with a | a | ⟨a, b⟩
   ·exact absurd a h2
   ·exact absurd a h1
   ·rw [if_neg h1, if_neg h2]; exact e_ext h a b
theorem hi_assoc (x y z : E) : hi (hi x y) z = hi x (hi y z) := by
 unfold hi
 by_cases h1 : Gt y x
 ·rw [if_pos h1]
  by_cases h2 : Gt z y
  ·rw [if_pos h2, if_pos (gt_trans h2 h1)]
  ·rw [if_neg h2, if_pos h1]
 ·rw [if_neg h1]
  by_cases h2 : Gt z y
  ·rw [if_pos h2]
  ·rw [if_neg h2, if_neg h1, if_neg (fun h => not_gt_trans h2 h1 h)]
theorem higher_is (x y : E) : entry_higher.f x.f0 x.f1 x.f2 y.f0 y.f1 y.f2 = some ((hi x y).f0, (hi x y).f1, (hi x y).f2) := by
 unfold entry_higher.f hi Gt
 by_cases h1 : y.f1 > x.f1
 ·simp [h1]
 ·by_cases h2 : y.f1 = x.f1
  ·by_cases h3 : Op.bytesLess x.f2.toList y.f2.toList = true
   ·simp [h2, h3]
   ·simp [h2, h3]
  ·simp [h1, h2]
theorem find_idx {α : Type} (p : α → Bool) : ∀ l : List α, l.find? p = l[l.findIdx p]?
 | [] => rfl
 | x :: l => by
  rw [List.find?_cons, List.findIdx_cons]
  cases hp : p x with
  | true => simp
  | false => simp [find_idx p l]
def got (o : Option E) : Int × Int × ByteArray × Bool := match o with
 | some x => (x.f0, x.f1, x.f2, true)
 | none => (0, 0, ⟨#[]⟩, false)
theorem get_is (l : List E) (k : Int) : entry_Get.f l k = some (got (look kE l k)) := by
 have hl : look kE l k = l[l.findIdx (fun x : S40 => x.f0 == k)]? := find_idx _ l
 unfold entry_Get.f entry_place.f idxI
 simp only [Option.bind_some]
 by_cases h : l.findIdx (fun x : S40 => x.f0 == k) < l.length
 ·rw [if_pos h, if_neg (by omega), if_pos (by omega), if_pos (by omega), hl, List.getElem?_eq_getElem h]
  have : rd_T40 l ((l.findIdx (fun x : S40 => x.f0 == k) : Nat) : Int) = l[l.findIdx (fun x : S40 => x.f0 == k)] := by
   simp [rd_T40, List.getD_eq_getElem?_getD, h]
  rw [this]; rfl
 ·rw [if_neg h, if_pos (by omega), hl, List.getElem?_eq_none (by omega)]; rfl
theorem news_is (a : List E) (y : E) : entry_Over.news a y = false ↔ ∃ x, look kE a y.f0 = some x ∧ ¬ Gt y x := by
 unfold entry_Over.news
 rw [get_is]
 cases h : look kE a y.f0 with
 | none => simp [got]
 | some x =>
  simp only [got, higher_is]; have e := ne_is (hi x y) x; simp only [Option.some.injEq, exists_eq_left']
  by_cases hg : Gt y x
  ·have hn : hi x y ≠ x := by
    unfold hi
    rw [if_pos hg]; rintro rfl; exact gt_irrefl _ hg
   rw [e.2 hn]
   simp [hg]
  ·have hn : hi x y = x := by unfold hi; rw [if_neg hg]
   rw [hn]
   simp [hg]
def OverE (a b : List E) : Prop := ∀ y ∈ b, ∃ x, look kE a y.f0 = some x ∧ ¬ Gt y x
theorem over_is (a b : List E) : ∃ r, entry_Over.f a b = some r ∧ (r = true ↔ OverE a b) := by
 refine ⟨_, rfl, ?_⟩; rw [Bool.not_eq_true', List.any_eq_false]
 unfold OverE
 constructor
 ·intro h y hy; exact (news_is a y).1 (by simpa using h y hy)
 ·intro h y hy; rw [(news_is a y).2 (h y hy)]
  decide
def joinE : List E → List E → List E
 | [], b => b
 | x :: a, [] => x :: a
 | x :: a, y :: b => if x.f0 < y.f0 then x :: joinE a (y :: b) else if y.f0 < x.f0 then y :: joinE (x :: a) b else hi x y :: joinE a b
termination_by a b => a.length + b.length
theorem joinE_nil (b : List E) : joinE [] b = b := by rw [joinE]
theorem joinE_nil_r (a : List E) : joinE a [] = a := by cases a <;> rw [joinE]
theorem joinE_cons (x : E) (a : List E) (y : E) (b : List E) : joinE (x :: a) (y :: b) = if x.f0 < y.f0 then x :: joinE a (y :: b) else if y.f0 < x.f0 then y :: joinE (x :: a) b else hi x y :: joinE a b := by rw [joinE]
theorem ev_Join_l0 : ∀ (n : Nat) (a b acc : List E), a.length + b.length ≤ n → acc.length + (a.length + b.length) < 4398046511104 → Ev (fun k => entry_Join.l0 k a b acc) (acc ++ joinE a b) := by
 intro n
 induction n with
 | zero =>
  intro a b acc hn h; have ha : a = [] := List.eq_nil_of_length_eq_zero (by omega); have hb : b = [] := List.eq_nil_of_length_eq_zero (by omega); subst ha; subst hb; refine Ev.step (fun k => by rw [entry_Join.l0]) ?_; simp only [nil_gt, ↓reduceIte, decide_false]; refine Ev.step (fun k => by rw [entry_Join.j1]) ?_; simp only [Bool.false_eq_true, ↓reduceIte, joinE_nil, List.append_nil]; exact Ev.now _
 | succ n ih =>
  intro a b acc hn h
  match a, b with
  | [], [] =>
   refine Ev.step (fun k => by rw [entry_Join.l0]) ?_; simp only [nil_gt, ↓reduceIte, decide_false]; refine Ev.step (fun k => by rw [entry_Join.j1]) ?_; simp only [Bool.false_eq_true, ↓reduceIte, joinE_nil, List.append_nil]; exact Ev.now _
  | [], y :: b =>
   have i := ih [] b (acc ++ [y]) (by simp at hn ⊢; omega) (by simp at h ⊢; omega); rw [joinE_nil, List.append_assoc, List.singleton_append] at i; refine Ev.step (fun k => by rw [entry_Join.l0]) ?_; simp only [nil_gt, len_gt, ↓reduceIte, decide_true]; refine Ev.step (fun k => by rw [entry_Join.j1]) ?_; simp only [↓reduceIte, len_ne, nil_gt]; refine Ev.step (fun k => by rw [entry_Join.j2]) ?_; simp only [Bool.false_eq_true, ↓reduceIte, nil_eq, len_pos, len_one, rdE0, show acc.length < 4398046511104 by omega, joinE_nil]; exact i
  | x :: a, [] =>
   have i := ih a [] (acc ++ [x]) (by simp at hn ⊢; omega) (by simp at h ⊢; omega); rw [joinE_nil_r, List.append_assoc, List.singleton_append] at i; refine Ev.step (fun k => by rw [entry_Join.l0]) ?_; simp only [len_gt, ↓reduceIte]; refine Ev.step (fun k => by rw [entry_Join.j1]) ?_; simp only [↓reduceIte, nil_eq]; refine Ev.step (fun k => by rw [entry_Join.j2]) ?_; simp only [↓reduceIte, len_pos, len_one, rdE0, show acc.length < 4398046511104 by omega, joinE_nil_r]; exact i
  | x :: a, y :: b =>
   have hal : acc.length < 4398046511104 := by omega
   refine Ev.step (fun k => by rw [entry_Join.l0]) ?_; simp only [len_gt, ↓reduceIte]; refine Ev.step (fun k => by rw [entry_Join.j1]) ?_; simp only [↓reduceIte, len_ne, len_gt, len_pos, rdE0]; rw [joinE_cons]
   by_cases h1 : x.f0 < y.f0
   ·have i := ih a (y :: b) (acc ++ [x]) (by simp at hn ⊢; omega) (by simp at h ⊢; omega); rw [List.append_assoc, List.singleton_append] at i; simp only [h1, decide_true, ↓reduceIte]; refine Ev.step (fun k => by rw [entry_Join.j2]) ?_; simp only [↓reduceIte, len_pos, len_one, rdE0, hal]; exact i
   ·simp only [h1, decide_false, ↓reduceIte]; refine Ev.step (fun k => by rw [entry_Join.j2]) ?_; simp only [Bool.false_eq_true, ↓reduceIte, len_ne, len_pos, len_one, rdE0, hal]
    by_cases h2 : y.f0 < x.f0
    ·have i := ih (x :: a) b (acc ++ [y]) (by simp at hn ⊢; omega) (by simp at h ⊢; omega); rw [List.append_assoc, List.singleton_append] at i; simp only [h2, ↓reduceIte]; exact i
    ·have i := ih a b (acc ++ [hi x y]) (by simp at hn ⊢; omega) (by simp at h ⊢; omega); rw [List.append_assoc, List.singleton_append] at i; simp only [h2, ↓reduceIte, higher_is, Option.bind_some]; exact i
theorem ev_Join (a b : List E) (h : a.length + b.length < 1099511627776) : Ev (fun k => entry_Join.f k a b) (joinE a b) := by
 unfold entry_Join.f
 have e : wrap64 ((a.length : Int) + (b.length : Int)) = ((a.length + b.length : Nat) : Int) := by rw [wrap_id _ (by omega) (by omega)]; omega
 simp only [e, Int.toNat_natCast, show (0 : Int) ≤ ((a.length + b.length : Nat) : Int) by omega, show a.length + b.length ≤ 8796093022208 by omega, ↓reduceIte]; have := ev_Join_l0 _ a b [] (Nat.le_refl _) (by simp; omega); exact this
theorem mem_join : ∀ (n : Nat) (a b : List E), a.length + b.length ≤ n → ∀ z ∈ joinE a b, z ∈ a ∨ z ∈ b := by
 intro n
 induction n with
 | zero =>
  intro a b hn z hz; have ha : a = [] := List.eq_nil_of_length_eq_zero (by omega); subst ha; rw [joinE_nil] at hz; exact .inr hz
 | succ n ih =>
  intro a b hn z hz
  match a, b with
  | [], b => rw [joinE_nil] at hz; exact .inr hz
  | x :: a, [] => rw [joinE_nil_r] at hz; exact .inl hz
  | x :: a, y :: b =>
   rw [joinE_cons] at hz
   split at hz
   ·rcases List.mem_cons.1 hz with rfl | hz
    ·exact .inl (by simp)
    ·rcases ih a (y :: b) (by simp at hn ⊢; omega) z hz with h | h
     ·exact .inl (by simp [h])
     ·exact .inr h
   ·split at hz
    ·rcases List.mem_cons.1 hz with rfl | hz
     ·exact .inr (by simp)
     ·rcases ih (x :: a) b (by simp at hn ⊢; omega) z hz with h | h
      ·exact .inl h
      ·exact .inr (by simp [h])
    ·rcases List.mem_cons.1 hz with rfl | hz
     ·rcases hi_or x y with e | e
      ·exact .inl (by rw [e]; simp)
      ·exact .inr (by rw [e]; simp)
     ·rcases ih a b (by simp at hn ⊢; omega) z hz with h | h
      ·exact .inl (by simp [h])
      ·exact .inr (by simp [h])
theorem ris_join : ∀ (n : Nat) (a b : List E), a.length + b.length ≤ n → Ris kE a → Ris kE b → Ris kE (joinE a b) := by
 intro n
 induction n with
 | zero =>
  intro a b hn ha hb; have h : a = [] := List.eq_nil_of_length_eq_zero (by omega); subst h; rw [joinE_nil]; exact hb
 | succ n ih =>
  intro a b hn ha hb
  match a, b with
  | [], b => rw [joinE_nil]; exact hb
  | x :: a, [] => rw [joinE_nil_r]; exact ha
  | x :: a, y :: b =>
   rw [joinE_cons]; have hx := ris_head ha; have hy := ris_head hb
   split
   ·rename_i h
    refine ris_cons.2 ⟨fun z hz => ?_, ih a (y :: b) (by simp at hn ⊢; omega) (ris_tail ha) hb⟩
    rcases mem_join _ _ _ (Nat.le_refl _) z hz with hz | hz
    ·exact hx z hz
    ·rcases List.mem_cons.1 hz with rfl | hz
     ·exact h
     ·have := hy z hz; unfold kE at *; omega
   ·split
    ·rename_i h
     refine ris_cons.2 ⟨fun z hz => ?_, ih (x :: a) b (by simp at hn ⊢; omega) ha (ris_tail hb)⟩
     rcases mem_join _ _ _ (Nat.le_refl _) z hz with hz | hz
     ·rcases List.mem_cons.1 hz with rfl | hz
      ·exact h
      ·have := hx z hz; unfold kE at *; omega
     ·exact hy z hz
    ·rename_i h1 h2
     have hk := hi_key x y (by omega); refine ris_cons.2 ⟨fun z hz => ?_, ih a b (by simp at hn ⊢; omega) (ris_tail ha) (ris_tail hb)⟩
     show (hi x y).f0 < z.f0
     rcases mem_join _ _ _ (Nat.le_refl _) z hz with hz | hz
     ·have := hx z hz; unfold kE at this; omega
     ·have := hy z hz; unfold kE at this; omega
def sup : Option E → Option E → Option E
 | none, o => o
 | o, none => o
 | some x, some y => some (hi x y)
theorem sup_none (o : Option E) : sup o none = o := by cases o <;> rfl
theorem none_sup (o : Option E) : sup none o = o := by cases o <;> rfl
theorem look_join (k : Int) : ∀ (n : Nat) (a b : List E), a.length + b.length ≤ n → Ris kE a → Ris kE b → look kE (joinE a b) k = sup (look kE a k) (look kE b k) := by
 intro n
 induction n with
 | zero =>
  intro a b hn ha hb; have h : a = [] := List.eq_nil_of_length_eq_zero (by omega); subst h; rw [joinE_nil, look_nil, none_sup]
 | succ n ih =>
  intro a b hn ha hb
  match a, b with
  | [], b => rw [joinE_nil, look_nil, none_sup]
  | x :: a, [] => rw [joinE_nil_r, look_nil, sup_none]
  | x :: a, y :: b =>
   rw [joinE_cons]; have hx := ris_head ha; have hy := ris_head hb
   split
   ·rename_i h
    rw [look_cons, ih a (y :: b) (by simp at hn ⊢; omega) (ris_tail ha) hb, look_cons x a]
    by_cases hk : kE x = k
    ·rw [if_pos hk, if_pos hk, look_lt (fun z hz => ?_), sup_none]
     rcases List.mem_cons.1 hz with rfl | hz
     ·unfold kE at *; omega
     ·have := hy z hz; unfold kE at *; omega
    ·rw [if_neg hk, if_neg hk]
   ·split
    ·rename_i h
     rw [look_cons, ih (x :: a) b (by simp at hn ⊢; omega) ha (ris_tail hb), look_cons y b]
     by_cases hk : kE y = k
     ·rw [if_pos hk, if_pos hk, look_lt (l := x :: a) (fun z hz => ?_), none_sup]
      rcases List.mem_cons.1 hz with rfl | hz
      ·unfold kE at *; omega
      ·have := hx z hz; unfold kE at *; omega
     ·rw [if_neg hk, if_neg hk]
    ·rename_i h1 h2
     have hk2 := hi_key x y (by omega); rw [look_cons, ih a b (by simp at hn ⊢; omega) (ris_tail ha) (ris_tail hb), look_cons x a, look_cons y b]; have e1 : kE (hi x y) = kE x := hk2
     have e2 : kE y = kE x := by unfold kE; omega
     rw [e1, e2]
     by_cases hk : kE x = k
     ·rw [if_pos hk, if_pos hk, if_pos hk]; rfl
     ·rw [if_neg hk, if_neg hk, if_neg hk]
theorem look_key {l : List E} {k : Int} {x : E} (h : look kE l k = some x) : x.f0 = k := (look_mem h).2
theorem look_joinE {a b : List E} (ha : Ris kE a) (hb : Ris kE b) (k : Int) : look kE (joinE a b) k = sup (look kE a k) (look kE b k) := look_join k _ a b (Nat.le_refl _) ha hb
theorem ris_joinE {a b : List E} (ha : Ris kE a) (hb : Ris kE b) : Ris kE (joinE a b) := ris_join _ a b (Nat.le_refl _) ha hb
theorem right_join {a b : List E} (ha : RightE a) (hb : RightE b) : RightE (joinE a b) := by
 refine ⟨ris_joinE ha.1 hb.1, fun z hz => ?_⟩
 rcases mem_join _ _ _ (Nat.le_refl _) z hz with h | h
 ·exact ha.2 z h
 ·exact hb.2 z h
theorem right_len {a : List E} (h : RightE a) : a.length ≤ 12 := ris_length 12 a 0 h.1 (fun x hx => by have := h.2 x hx; unfold MayE at this; unfold kE; omega)
/-- One entry, or none, isn't above another one. -/
def Ole (p q : Option E) : Prop := ∀ y, p = some y → ∃ x, q = some x ∧ ¬ Gt y x
theorem over_iff {a b : List E} (hb : Ris kE b) : OverE a b ↔ ∀ k, Ole (look kE b k) (look kE a k) := by
 constructor
 ·intro h k y hy; obtain ⟨hm, hk⟩ := look_mem hy; have := h y hm; rw [show y.f0 = k from hk] at this; exact this
 ·intro h y hy; exact h y.f0 y (look_of_mem hb hy)
theorem sup_comm {l m : List E} (k : Int) : sup (look kE l k) (look kE m k) = sup (look kE m k) (look kE l k) := by
 cases h : look kE l k with
 | none => rw [none_sup, sup_none]
 | some x =>
  cases h2 : look kE m k with
  | none => rw [none_sup, sup_none]
  | some y => show some _ = some _; rw [hi_comm (by rw [look_key h, look_key h2])]
theorem sup_assoc (p q r : Option E) : sup (sup p q) r = sup p (sup q r) := by
 cases p with
 | none => rw [none_sup, none_sup]
 | some x =>
  cases q with
  | none => rw [sup_none, none_sup]
  | some y =>
   cases r with
   | none => rw [sup_none, sup_none]
   | some z => show some _ = some _; rw [hi_assoc]
theorem sup_self (p : Option E) : sup p p = p := by
 cases p with
 | none => rfl
 | some x => show some _ = some _; rw [hi_self]
section
variable {α : Type} (key : α → Int)
/-- An element in its place of a rising list. -/
def putL (l : List α) (x : α) : List α := l.filter (fun y => decide (key y < key x)) ++ [x] ++ l.filter (fun y => decide (key x < key y))
theorem ris_put {l : List α} (x : α) (hr : Ris key l) : Ris key (putL key l x) := by
 unfold putL Ris
 refine List.pairwise_append.2 ⟨List.pairwise_append.2 ⟨List.Pairwise.filter _ hr, List.pairwise_singleton _ _, fun a ha b hb => ?_⟩, List.Pairwise.filter _ hr, fun a ha b hb => ?_⟩
 ·simp only [List.mem_filter, List.mem_singleton, decide_eq_true_eq] at ha hb; subst hb; exact ha.2
 ·simp only [List.mem_append, List.mem_filter, List.mem_singleton, decide_eq_true_eq] at ha hb
  rcases ha with ha | ha
  ·omega
  ·subst ha; exact hb.2
theorem mem_put {l : List α} {x y : α} (h : y ∈ putL key l x) : y = x ∨ y ∈ l := by
 unfold putL at h
 simp only [List.mem_append, List.mem_filter, List.mem_singleton] at h
 rcases h with (h | h) | h
 ·exact Or.inr h.1
 ·exact Or.inl h
 ·exact Or.inr h.1
theorem look_app (a b : List α) (k : Int) : look key (a ++ b) k = (look key a k).or (look key b k) := by
 unfold look; rw [List.find?_append]
theorem look_filter (p : α → Bool) (l : List α) (k : Int) (h : ∀ x, key x = k → p x = true) : look key (l.filter p) k = look key l k := by
 induction l with
 | nil => rfl
 | cons x l ih =>
  rw [List.filter_cons]
  split
  ·rw [look_cons, look_cons, ih]
  ·rename_i hp
   rw [look_cons, ih, if_neg (fun e => hp (h x e))]
theorem look_filter_not (p : α → Bool) (l : List α) (k : Int) (h : ∀ x, key x = k → p x = false) : look key (l.filter p) k = none := by
 induction l with
 | nil => rfl
 | cons x l ih =>
  rw [List.filter_cons]
  split
  ·rename_i hp
   rw [look_cons, ih, if_neg (fun e => by rw [h x e] at hp; exact absurd hp (by decide))]
  ·exact ih
theorem look_put (l : List α) (x : α) (k : Int) : look key (putL key l x) k = if key x = k then some x else look key l k := by
 unfold putL
 rw [look_app, look_app, look_cons]
 by_cases h : key x = k
 ·rw [if_pos h, if_pos h, look_filter_not key _ _ _ (fun y hy => decide_eq_false (by omega))]; rfl
 ·rw [if_neg h, if_neg h]
  rcases Int.lt_or_gt_of_ne h with h' | h'
  ·rw [look_filter_not key _ _ _ (fun y hy => decide_eq_false (by omega)), look_filter key _ _ _ (fun y hy => decide_eq_true (by omega))]; rfl
  ·rw [look_filter key (fun y => decide (key y < key x)) _ _ (fun y hy => decide_eq_true (by omega)), look_filter_not key (fun y => decide (key x < key y)) _ _ (fun y hy => decide_eq_false (by omega))]
   show ((look key l k).or none).or none = _
   simp
end
def putE (l : List E) (x : E) : List E := putL kE l x
theorem right_put {l : List E} {x : E} (hl : RightE l) (hx : MayE x) : RightE (putE l x) := ⟨ris_put kE x hl.1, fun y hy => by
 rcases mem_put kE hy with rfl | h
 ·exact hx
 ·exact hl.2 y h⟩
theorem look_putE (l : List E) (x : E) (k : Int) : look kE (putE l x) k = if x.f0 = k then some x else look kE l k := look_put kE l x k
theorem put_true_l0 (x : E) (suf : List E) : ∀ (pre acc : List E), (pre ++ suf).length < 1099511627776 → acc.length ≤ pre.length + 1 →
  Ev (fun k => ref04_Put.l0 k (pre ++ suf) acc true (pre.length : Int) x.f0 x.f1 x.f2) (acc ++ suf.filter (fun y => !decide (y.f0 = x.f0))) := by
 induction suf with
 | nil =>
  intro pre acc h ha; refine Ev.step (fun k => by rw [ref04_Put.l0]) ?_; simp only [end_ge, ↓reduceIte]; rw [List.filter_nil, List.append_nil]; exact Ev.now _
 | cons y suf ih =>
  intro pre acc h ha
  have hl : pre.length + (suf.length + 1) < 1099511627776 := by simpa using h
  refine Ev.step (fun k => by rw [ref04_Put.l0]) ?_; simp only [mid_lt, ↓reduceIte]; refine Ev.step (fun k => by rw [ref04_Put.j1]) ?_; simp only [mid_lt, nat_ge, rdE, ↓reduceIte, Bool.false_eq_true]
  by_cases hk : y.f0 = x.f0
  ·have hd : ¬ (!decide (y.f0 = x.f0)) = true := by simp [hk]
   simp only [hk, ↓reduceIte, mid_next pre y suf (by omega)]; rw [List.filter_cons, if_neg hd]; have i := ih (pre ++ [y]) acc (by rw [← List.append_cons]; exact h) (by simp; omega); rw [← List.append_cons pre y suf] at i; exact i
  ·have hd : (!decide (y.f0 = x.f0)) = true := by simp [hk]
   simp only [hk, ↓reduceIte, show acc.length < 4398046511104 by omega, mid_next pre y suf (by omega)]; rw [List.filter_cons, if_pos hd]; have i := ih (pre ++ [y]) (acc ++ [y]) (by rw [← List.append_cons]; exact h) (by simp; omega); rw [← List.append_cons pre y suf, List.append_assoc, List.singleton_append] at i; exact i
theorem put_false_l0 (x : E) (suf : List E) : ∀ (pre acc : List E), (pre ++ suf).length < 1099511627776 → acc.length ≤ pre.length → Ris kE suf →
  Ev (fun k => ref04_Put.l0 k (pre ++ suf) acc false (pre.length : Int) x.f0 x.f1 x.f2) (acc ++ putE suf x) := by
 induction suf with
 | nil =>
  intro pre acc h ha hr
  have hl : pre.length < 1099511627776 := by simpa using h
  refine Ev.step (fun k => by rw [ref04_Put.l0]) ?_; simp only [end_ge, ↓reduceIte, Bool.false_eq_true, show acc.length < 4398046511104 by omega]; exact Ev.now _
 | cons y suf ih =>
  intro pre acc h ha hr
  have hl : pre.length + (suf.length + 1) < 1099511627776 := by simpa using h
  have hys := ris_head hr; have hrs := ris_tail hr; refine Ev.step (fun k => by rw [ref04_Put.l0]) ?_; simp only [mid_lt, nat_ge, rdE, ↓reduceIte, Bool.false_eq_true]; refine Ev.step (fun k => by rw [ref04_Put.j1]) ?_
  by_cases hge : y.f0 ≥ x.f0
  ·have hf1 : (y :: suf).filter (fun y => decide (kE y < kE x)) = [] := List.filter_eq_nil_iff.2 (fun z hz => by
    rw [decide_eq_true_eq]
    rcases List.mem_cons.1 hz with rfl | hz
    ·unfold kE; omega
    ·have := hys z hz
     unfold kE at *; omega)
   have hf2 : suf.filter (fun y => decide (kE x < kE y)) = suf.filter (fun y => !decide (y.f0 = x.f0)) := List.filter_congr (fun z hz => by
    have := hys z hz
    unfold kE at this ⊢
    have h1 : x.f0 < z.f0 := by omega
    have h2 : ¬ z.f0 = x.f0 := by omega
    simp [h1, h2])
   simp only [decide_eq_true hge, show acc.length < 4398046511104 by omega, mid_lt, nat_ge, rdE, ↓reduceIte, Option.bind_some]
   unfold putE putL
   rw [hf1, List.filter_cons, List.nil_append]
   by_cases he : y.f0 = x.f0
   ·rw [if_neg (by show ¬ decide (kE x < kE y) = true; rw [decide_eq_true_eq]; unfold kE; omega), hf2]; simp only [he, ↓reduceIte, mid_next pre y suf (by omega)]; have i := put_true_l0 x suf (pre ++ [y]) (acc ++ [x]) (by rw [← List.append_cons]; exact h) (by simp; omega); rw [← List.append_cons pre y suf, List.append_assoc] at i; exact i
   ·rw [if_pos (by show decide (kE x < kE y) = true; rw [decide_eq_true_eq]; unfold kE; omega), hf2]
    have hla : (acc ++ [x]).length < 4398046511104 := by rw [List.length_append, List.length_singleton]; omega
    have hla' : (acc ++ [(⟨x.f0, x.f1, x.f2⟩ : E)]).length < 4398046511104 := hla; simp only [he, ↓reduceIte, mid_next pre y suf (by omega), hla']; have i := put_true_l0 x suf (pre ++ [y]) (acc ++ [x] ++ [y]) (by rw [← List.append_cons]; exact h) (by simp; omega); rw [← List.append_cons pre y suf] at i; exact Ev.cast i (by simp)
  ·have he : ¬ y.f0 = x.f0 := by omega
   simp only [decide_eq_false hge, Bool.false_eq_true, he, show acc.length < 4398046511104 by omega, mid_lt, nat_ge, rdE, ↓reduceIte, mid_next pre y suf (by omega)]; have i := ih (pre ++ [y]) (acc ++ [y]) (by rw [← List.append_cons]; exact h) (by simp; omega) hrs; rw [← List.append_cons pre y suf, List.append_assoc] at i
   have e : putE (y :: suf) x = y :: putE suf x := by
    unfold putE putL
    rw [List.filter_cons, if_pos (by show decide (kE y < kE x) = true; rw [decide_eq_true_eq]; unfold kE; omega), List.filter_cons, if_neg (by show ¬ decide (kE x < kE y) = true; rw [decide_eq_true_eq]; unfold kE; omega)]; rfl
   rw [e]; exact i
theorem ev_ref04_Put (l : List E) (x : E) (hr : Ris kE l) (hn : l.length < 1099511627776) : Ev (fun k => ref04_Put.f k l x.f0 x.f1 x.f2) (putE l x) := put_false_l0 x l [] [] hn (Nat.le_refl _) hr
theorem ev_ref04_Get_l0 (k0 : Int) (suf : List E) : ∀ (pre : List E), (pre ++ suf).length < 4611686018427387904 →
  Ev (fun k => ref04_Get.l0 k (pre ++ suf) k0 (pre.length : Int)) (got (look kE suf k0)) := by
 induction suf with
 | nil =>
  intro pre h; refine Ev.step (fun k => by rw [ref04_Get.l0]) ?_; simp only [end_ge, ↓reduceIte]; exact Ev.now _
 | cons x suf ih =>
  intro pre h; refine Ev.step (fun k => by rw [ref04_Get.l0]) ?_; simp only [mid_lt, nat_ge, ↓reduceIte, rdE]; rw [look_cons]
  by_cases hk : x.f0 = k0
  ·simp only [hk, ↓reduceIte, show kE x = k0 from hk, got]; exact Ev.now _
  ·simp only [hk, ↓reduceIte, show ¬ kE x = k0 from hk, mid_next pre x suf (by omega)]; have i := ih (pre ++ [x]) (by rw [← List.append_cons]; exact h); rw [← List.append_cons pre x suf] at i; exact i
theorem ev_ref04_Get (l : List E) (k0 : Int) (h : l.length < 4611686018427387904) : Ev (fun k => ref04_Get.f k l k0) (got (look kE l k0)) := ev_ref04_Get_l0 k0 l [] h
theorem above_gt (y x : E) : ref04_above.f y.f0 y.f1 y.f2 x.f0 x.f1 x.f2 = some (decide (Gt y x)) := by
 unfold ref04_above.f
 by_cases h1 : y.f1 > x.f1
 ·rw [if_pos h1, decide_eq_true (show Gt y x from Or.inl h1)]
 ·rw [if_neg h1]
  by_cases h2 : y.f1 = x.f1
  ·rw [if_pos h2]
   cases h3 : Op.bytesLess x.f2.toList y.f2.toList with
   | true => rw [decide_eq_true (show Gt y x from Or.inr ⟨h2, h3⟩)]
   | false =>
    rw [decide_eq_false (show ¬ Gt y x from fun h => by
     rcases h with h | h
     ·exact h1 h
     ·rw [h3] at h; exact absurd h.2 (by decide))]
  ·rw [if_neg h2, decide_eq_false (show ¬ Gt y x from fun h => by
    rcases h with h | h
    ·exact h1 h
    ·exact h2 h.1)]
theorem ref_join_l0 (suf : List E) : ∀ (pre out : List E), (pre ++ suf).length < 4611686018427387904 → RightE out → RightE suf →
  Ev (fun k => ref04_Join.l0 k (pre ++ suf) out (pre.length : Int)) (joinE out suf) := by
 induction suf with
 | nil =>
  intro pre out h ho hs; refine Ev.step (fun k => by rw [ref04_Join.l0]) ?_; simp only [end_ge, ↓reduceIte, joinE_nil_r]; exact Ev.now _
 | cons y suf ih =>
  intro pre out h ho hs; have hys := ris_head hs.1; have hsuf : RightE suf := ⟨ris_tail hs.1, fun z hz => hs.2 z (List.mem_cons_of_mem _ hz)⟩; have hy : MayE y := hs.2 y (List.mem_cons_self); have hlo := right_len ho; have hnone : look kE suf y.f0 = none := look_lt hys
  have go : ∀ o : List E, RightE o → (∀ k, look kE o k = if y.f0 = k then sup (look kE out k) (some y) else look kE out k) → Ev (fun k => ref04_Join.l0 k (pre ++ y :: suf) o (wrap64 ((pre.length : Int) + 1))) (joinE out (y :: suf)) := by
   intro o hro hlk; have i := ih (pre ++ [y]) o (by rw [← List.append_cons]; exact h) hro hsuf; rw [← List.append_cons pre y suf] at i; rw [mid_next pre y suf (by omega)]; refine Ev.cast i (ris_ext (key := kE) (ris_joinE hro.1 hsuf.1) (ris_joinE ho.1 hs.1) (fun k => ?_)); rw [look_joinE hro.1 hsuf.1, look_joinE ho.1 hs.1, hlk, look_cons]
   by_cases hk : y.f0 = k
   ·subst hk; rw [if_pos rfl, hnone, sup_none, if_pos (show kE y = y.f0 from rfl)]
   ·rw [if_neg hk, if_neg (show ¬ kE y = k from hk)]
  refine Ev.step (fun k => by rw [ref04_Join.l0]) ?_; simp only [mid_lt, nat_ge, rdE, ↓reduceIte]; refine Ev.bind (ev_ref04_Get out y.f0 (by omega)) ?_
  cases hg : look kE out y.f0 with
  | none =>
   simp only [got, Bool.false_eq_true, ↓reduceIte]; refine Ev.bind (ev_ref04_Put out y ho.1 (by omega)) (go _ (right_put ho hy) (fun k => ?_)); rw [look_putE]
   by_cases hk : y.f0 = k
   ·subst hk; rw [if_pos rfl, if_pos rfl, hg]; rfl
   ·rw [if_neg hk, if_neg hk]
  | some x =>
   simp only [got, ↓reduceIte, above_gt, Option.bind_some]
   by_cases hgt : Gt y x
   ·simp only [decide_eq_true hgt, ↓reduceIte]; refine Ev.bind (ev_ref04_Put out y ho.1 (by omega)) (go _ (right_put ho hy) (fun k => ?_)); rw [look_putE]
    by_cases hk : y.f0 = k
    ·subst hk; rw [if_pos rfl, if_pos rfl, hg]; show some y = some (hi x y); unfold hi; rw [if_pos hgt]
    ·rw [if_neg hk, if_neg hk]
   ·simp only [decide_eq_false hgt, Bool.false_eq_true, ↓reduceIte]; refine go _ ho (fun k => ?_)
    by_cases hk : y.f0 = k
    ·subst hk; rw [if_pos rfl, hg]; show some x = some (hi x y); unfold hi; rw [if_neg hgt]
    ·rw [if_neg hk]
theorem ev_ref04_Join (a b : List E) (ha : RightE a) (hb : RightE b) : Ev (fun k => ref04_Join.f k a b) (joinE a b) := by
 have la := right_len ha; have lb := right_len hb
 unfold ref04_Join.f
 have h0 : ([] : List E).length + a.length < 4398046511104 := by simp; omega
 simp only [Option.bind_some, h0, ↓reduceIte, List.nil_append]; exact ref_join_l0 b [] a (by simp; omega) ha hb
theorem join_over {a b : List E} (ha : Ris kE a) (hb : Ris kE b) : joinE a b = a ↔ OverE a b := by
 rw [over_iff hb]
 constructor
 ·intro h k y hy; have h1 := look_joinE ha hb k; rw [h, hy] at h1
  cases hx : look kE a k with
  | none => rw [hx] at h1; exact absurd h1 (by simp [sup])
  | some x =>
   rw [hx] at h1; refine ⟨x, rfl, fun hg => ?_⟩; have h2 : some x = some (hi x y) := h1
   unfold hi at h2
   rw [if_pos hg] at h2
   injection h2 with h2
   subst h2; exact gt_irrefl _ hg
 ·intro h; refine ris_ext (key := kE) (ris_joinE ha hb) ha (fun k => ?_); rw [look_joinE ha hb]
  cases hy : look kE b k with
  | none => rw [sup_none]
  | some y =>
   obtain ⟨x, hx, hn⟩ := h k y hy; rw [hx]
   show some (hi x y) = some x
   unfold hi
   rw [if_neg hn]
abbrev St := S24
theorem rdS (pre : List St) (x : St) (suf : List St) : rd_T24 (pre ++ x :: suf) ((pre.length : Nat) : Int) = x := getD_mid _ pre x suf
theorem inS {s : St} (h : G24 s) : s.f2.length < 4611686018427387904 ∧ ∀ x ∈ s.f2, x.f2.size ≤ 140737488351232 := ⟨by have := h.2.2.2.1; omega, fun x hx => (h.2.2.2.2 x hx).2.2⟩
def RightS (s : St) : Prop := 1 ≤ s.f0 ∧ s.f0 ≤ 1099511627776 ∧ 0 ≤ s.f1 ∧ s.f1 ≤ 1099511627776 ∧ RightE s.f2
theorem st_ext {a b : St} (h0 : a.f0 = b.f0) (h1 : a.f1 = b.f1) (h2 : a.f2 = b.f2) : a = b := by
 cases a; cases b; simp only at h0 h1 h2; subst h0; subst h1; subst h2; rfl
theorem ev_state_Right (s : St) (h : s.f2.length < 4611686018427387904) : ∃ r, Ev (fun k => state_Right.f k s.f0 s.f1 s.f2) r ∧ (r = true ↔ RightS s) := by
 unfold state_Right.f
 by_cases h1 : s.f0 ≥ 1
 ·by_cases h2 : s.f0 ≤ 1099511627776
  ·by_cases h3 : s.f1 ≥ 0
   ·by_cases h4 : s.f1 ≤ 1099511627776
    ·obtain ⟨r, e, q⟩ := ev_entry_Right s.f2 h; simp only [h1, h2, h3, h4, ↓reduceIte]; refine ⟨r, Ev.bind e (Ev.now _), ?_⟩; rw [q]; exact ⟨fun x => And.intro h1 (And.intro h2 (And.intro h3 (And.intro h4 x))), fun x => x.2.2.2.2⟩
    ·simp only [h1, h2, h3, h4, ↓reduceIte]; exact ⟨false, Ev.now _, ⟨fun x => absurd x (by decide), fun x => absurd x.2.2.2.1 h4⟩⟩
   ·simp only [h1, h2, h3, ↓reduceIte]; exact ⟨false, Ev.now _, ⟨fun x => absurd x (by decide), fun x => absurd x.2.2.1 h3⟩⟩
  ·simp only [h1, h2, ↓reduceIte]; exact ⟨false, Ev.now _, ⟨fun x => absurd x (by decide), fun x => absurd x.2.1 h2⟩⟩
 ·simp only [h1, ↓reduceIte]; exact ⟨false, Ev.now _, ⟨fun x => absurd x (by decide), fun x => absurd x.1 h1⟩⟩
theorem ev_ref05_Right (s : St) (h : s.f2.length < 4611686018427387904) : ∃ r, Ev (fun k => ref05_Right.f k s.f0 s.f1 s.f2) r ∧ (r = true ↔ RightS s) := by
 unfold ref05_Right.f
 by_cases h1 : s.f0 ≥ 1
 ·by_cases h2 : s.f0 ≤ 1099511627776
  ·by_cases h3 : s.f1 ≥ 0
   ·by_cases h4 : s.f1 ≤ 1099511627776
    ·obtain ⟨r, e, q⟩ := ev_ref04_Right s.f2 h; simp only [h1, h2, h3, h4, ↓reduceIte]; refine ⟨r, Ev.bind e (Ev.now _), ?_⟩; rw [q]; exact ⟨fun x => And.intro h1 (And.intro h2 (And.intro h3 (And.intro h4 x))), fun x => x.2.2.2.2⟩
    ·simp only [h1, h2, h3, h4, ↓reduceIte]; exact ⟨false, Ev.now _, ⟨fun x => absurd x (by decide), fun x => absurd x.2.2.2.1 h4⟩⟩
   ·simp only [h1, h2, h3, ↓reduceIte]; exact ⟨false, Ev.now _, ⟨fun x => absurd x (by decide), fun x => absurd x.2.2.1 h3⟩⟩
  ·simp only [h1, h2, ↓reduceIte]; exact ⟨false, Ev.now _, ⟨fun x => absurd x (by decide), fun x => absurd x.2.1 h2⟩⟩
 ·simp only [h1, ↓reduceIte]; exact ⟨false, Ev.now _, ⟨fun x => absurd x (by decide), fun x => absurd x.1 h1⟩⟩
theorem copy_is (s : St) (h : s.f2.length < 1099511627776) : state_Copy.f s.f0 s.f1 s.f2 = some (s.f0, s.f1, s.f2) := by
 unfold state_Copy.f api_Entry_45.f
 rw [if_pos (by omega)]; rfl
theorem ref_copy_is (s : St) (h : s.f2.length < 1099511627776) : ref05_Copy.f s.f0 s.f1 s.f2 = some (s.f0, s.f1, s.f2) := by
 unfold ref05_Copy.f
 show (if ([] : List E).length + s.f2.length < 4398046511104 then some (s.f0, s.f1, [] ++ s.f2) else none) = _
 rw [if_pos (by rw [List.length_nil]; omega), List.nil_append]
theorem ev_ref05_Same (a b : St) (h : a.f2.length < 4611686018427387904) : ∃ r, Ev (fun k => ref05_Same.f k a.f0 a.f1 a.f2 b.f0 b.f1 b.f2) r ∧ (r = true ↔ a = b) := by
 unfold ref05_Same.f
 by_cases h1 : a.f0 = b.f0
 ·by_cases h2 : a.f1 = b.f1
  ·obtain ⟨r, e, q⟩ := ev_ref04_Same a.f2 b.f2 h; simp only [h1, h2, ↓reduceIte]; refine ⟨r, Ev.bind e (Ev.now _), ?_⟩; rw [q]; exact ⟨fun x => st_ext h1 h2 x, fun x => by rw [x]⟩
  ·simp only [h1, h2, ↓reduceIte]; exact ⟨false, Ev.now _, ⟨fun x => absurd x (by decide), fun x => absurd (by rw [x]) h2⟩⟩
 ·simp only [h1, ↓reduceIte]; exact ⟨false, Ev.now _, ⟨fun x => absurd x (by decide), fun x => absurd (by rw [x]) h1⟩⟩
theorem ev_ref05_same_true (a : St) (h : a.f2.length < 4611686018427387904) : Ev (fun k => ref05_Same.f k a.f0 a.f1 a.f2 a.f0 a.f1 a.f2) true := by
 obtain ⟨r, e, q⟩ := ev_ref05_Same a a h; rw [q.2 rfl] at e; exact e
theorem ev_ref05_Great (s : St) (h : s.f2.length < 4611686018427387904) (hs : ∀ x ∈ s.f2, x.f2.size ≤ 140737488351232) : ∃ r, Ev (fun k => ref05_Great.f k s.f0 s.f1 s.f2) r ∧ (r = false → s.f2.length ≤ 4000) := by
 obtain ⟨r, e, q⟩ := ev_ref04_Great s.f2 h hs; exact ⟨r, Ev.bind e (Ev.now _), q⟩
theorem great_l0 (suf : List St) : ∀ pre : List St, (pre ++ suf).length < 1000 → (∀ s ∈ suf, s.f2.length < 4611686018427387904 ∧ ∀ x ∈ s.f2, x.f2.size ≤ 140737488351232) →
  ∃ r, Ev (fun k => law05_great.l0 k (pre ++ suf) (pre.length : Int)) r ∧ (r = false → ∀ s ∈ suf, s.f2.length ≤ 4000) := by
 induction suf with
 | nil =>
  intro pre h hs; refine ⟨false, Ev.step (fun k => by rw [law05_great.l0]) ?_, fun _ s hs => by simp at hs⟩; simp only [end_ge, ↓reduceIte]; exact Ev.now _
 | cons s suf ih =>
  intro pre h hs; obtain ⟨g, e, q⟩ := ev_ref05_Great s (hs s List.mem_cons_self).1 (hs s List.mem_cons_self).2
  cases g with
  | true =>
   refine ⟨true, Ev.step (fun k => by rw [law05_great.l0]) ?_, fun x => absurd x (by decide)⟩; simp only [mid_lt, nat_ge, rdS, ↓reduceIte]; refine Ev.bind e ?_; simp only [↓reduceIte]; exact Ev.now _
  | false =>
   obtain ⟨r, e2, q2⟩ := ih (pre ++ [s]) (by rw [← List.append_cons]; exact h) (fun x hx => hs x (List.mem_cons_of_mem _ hx)); refine ⟨r, Ev.step (fun k => by rw [law05_great.l0]) ?_, fun x y hy => ?_⟩
   ·simp only [mid_lt, nat_ge, rdS, ↓reduceIte, mid_next pre s suf (by omega)]; refine Ev.bind e ?_; simp only [Bool.false_eq_true, ↓reduceIte]; rw [← List.append_cons pre s suf] at e2; exact e2
   ·rcases List.mem_cons.1 hy with rfl | hy
    ·exact q rfl
    ·exact q2 x y hy
theorem ev_great (l : List St) (hn : l.length < 1000) (hl : ∀ s ∈ l, G24 s) : ∃ r, Ev (fun k => law05_great.f k l) r ∧ (r = false → ∀ s ∈ l, s.f2.length ≤ 4000) := great_l0 l [] hn (fun s hs => inS (hl s hs))
def OverS (a b : St) : Prop := if a.f0 = b.f0 then a.f1 ≥ b.f1 ∧ OverE a.f2 b.f2 else a.f0 > b.f0
theorem over_s (a b : St) : ∃ r, state_Over.f a.f0 a.f1 a.f2 b.f0 b.f1 b.f2 = some r ∧ (r = true ↔ OverS a b) := by
 unfold state_Over.f OverS
 by_cases h1 : a.f0 = b.f0
 ·rw [if_pos h1]
  by_cases h2 : a.f1 ≥ b.f1
  ·rw [if_pos h2, if_pos h1]; obtain ⟨r, e, q⟩ := over_is a.f2 b.f2; rw [e]; exact ⟨r, rfl, by rw [q]; exact ⟨fun x => ⟨h2, x⟩, fun x => x.2⟩⟩
  ·rw [if_neg h2, if_pos h1]; exact ⟨false, rfl, ⟨fun x => absurd x (by decide), fun x => absurd x.1 h2⟩⟩
 ·rw [if_neg h1, if_neg h1]; exact ⟨_, rfl, decide_eq_true_iff⟩
theorem over_s_true {a b : St} (h : OverS a b) : state_Over.f a.f0 a.f1 a.f2 b.f0 b.f1 b.f2 = some true := by
 obtain ⟨r, e, q⟩ := over_s a b; rw [q.2 h] at e; exact e
def joinS (a b : St) : St := if a.f0 > b.f0 then a else if a.f0 < b.f0 then b else ⟨a.f0, mx a.f1 b.f1, joinE a.f2 b.f2⟩
theorem ev_state_Join (a b : St) (ha : a.f2.length < 100000000000) (hb : b.f2.length < 100000000000) : Ev (fun k => state_Join.f k a.f0 a.f1 a.f2 b.f0 b.f1 b.f2) ((joinS a b).f0, (joinS a b).f1, (joinS a b).f2) := by
 unfold state_Join.f joinS
 by_cases h1 : a.f0 > b.f0
 ·simp only [h1, ↓reduceIte, copy_is a (by omega), Option.bind_some]; exact Ev.now _
 ·by_cases h2 : a.f0 < b.f0
  ·simp only [h1, h2, ↓reduceIte, copy_is b (by omega), Option.bind_some]; exact Ev.now _
  ·simp only [h1, h2, ↓reduceIte]; exact Ev.bind (ev_Join a.f2 b.f2 (by omega)) (Ev.now _)
theorem ev_ref05_Join (a b : St) (ha : RightE a.f2) (hb : RightE b.f2) : Ev (fun k => ref05_Join.f k a.f0 a.f1 a.f2 b.f0 b.f1 b.f2) ((joinS a b).f0, (joinS a b).f1, (joinS a b).f2) := by
 have la := right_len ha; have lb := right_len hb
 unfold ref05_Join.f joinS
 by_cases h1 : a.f0 > b.f0
 ·simp only [h1, ↓reduceIte, ref_copy_is a (by omega), Option.bind_some]; exact Ev.now _
 ·by_cases h2 : a.f0 < b.f0
  ·have h3 : b.f0 > a.f0 := h2; simp only [h1, h2, h3, ↓reduceIte, ref_copy_is b (by omega), Option.bind_some]; exact Ev.now _
  ·have h3 : ¬ b.f0 > a.f0 := h2; simp only [h1, h2, h3, ↓reduceIte]; exact Ev.bind (ev_ref04_Join a.f2 b.f2 ha hb) (Ev.now _)
theorem join_over_s {a b : St} (ha : RightE a.f2) (hb : RightE b.f2) : joinS a b = a ↔ OverS a b := by
 unfold joinS OverS
 by_cases h1 : a.f0 > b.f0
 ·have h2 : ¬ a.f0 = b.f0 := by omega
  rw [if_pos h1, if_neg h2]; exact ⟨fun _ => h1, fun _ => rfl⟩
 ·by_cases h2 : a.f0 < b.f0
  ·have h3 : ¬ a.f0 = b.f0 := by omega
   rw [if_neg h1, if_pos h2, if_neg h3]; exact ⟨fun e => absurd (congrArg (·.f0) e) (fun e => h3 e.symm), fun e => absurd e h1⟩
  ·have h3 : a.f0 = b.f0 := by omega
   rw [if_neg h1, if_neg h2, if_pos h3, ← join_over ha.1 hb.1]
   constructor
   ·intro e; have e1 : mx a.f1 b.f1 = a.f1 := congrArg (·.f1) e; have e2 : joinE a.f2 b.f2 = a.f2 := congrArg (·.f2) e; exact ⟨by have := le_mx_r a.f1 b.f1; omega, e2⟩
   ·intro e; refine st_ext rfl ?_ e.2; have := e.1
    show mx a.f1 b.f1 = a.f1
    rw [mx_eq]; omega
theorem ev_ref05_Over (a b : St) (ha : RightE a.f2) (hb : RightE b.f2) : ∃ r, Ev (fun k => ref05_Over.f k a.f0 a.f1 a.f2 b.f0 b.f1 b.f2) r ∧ (r = true ↔ OverS a b) := by
 have la := right_len ha; have lb := right_len hb
 have hj : (joinS a b).f2.length < 4611686018427387904 := by
  unfold joinS
  split
  ·omega
  ·split
   ·omega
   ·have := right_len (right_join ha hb)
    show (joinE a.f2 b.f2).length < _
    omega
 obtain ⟨r, e, q⟩ := ev_ref05_Same (joinS a b) a hj; refine ⟨r, ?_, by rw [q, join_over_s ha hb]⟩
 unfold ref05_Over.f
 exact Ev.bind (ev_ref05_Join a b ha hb) (Ev.bind e (Ev.now _))
theorem alive05 : Ev (fun k => law05_alive.f k) true := Ev.of (fun k => law05_alive.mono k) (k := 60) (by decide +kernel)
theorem lenS {s : St} (h : RightS s) : s.f2.length ≤ 12 := right_len h.2.2.2.2
theorem joinE_comm {a b : List E} (ha : Ris kE a) (hb : Ris kE b) : joinE a b = joinE b a :=
 ris_ext (key := kE) (ris_joinE ha hb) (ris_joinE hb ha) (fun k => by rw [look_joinE ha hb, look_joinE hb ha]; exact sup_comm k)
theorem joinE_assoc {a b c : List E} (ha : Ris kE a) (hb : Ris kE b) (hc : Ris kE c) : joinE (joinE a b) c = joinE a (joinE b c) :=
 ris_ext (key := kE) (ris_joinE (ris_joinE ha hb) hc) (ris_joinE ha (ris_joinE hb hc)) (fun k => by
  rw [look_joinE (ris_joinE ha hb) hc, look_joinE ha hb, look_joinE ha (ris_joinE hb hc), look_joinE hb hc]; exact sup_assoc _ _ _)
theorem joinE_self {a : List E} (ha : Ris kE a) : joinE a a = a := ris_ext (key := kE) (ris_joinE ha ha) ha (fun k => by rw [look_joinE ha ha]; exact sup_self _)
theorem joinS_gt {a b : St} (h : b.f0 < a.f0) : joinS a b = a := by unfold joinS; rw [if_pos h]
theorem joinS_lt {a b : St} (h : a.f0 < b.f0) : joinS a b = b := by unfold joinS; rw [if_neg (by omega), if_pos h]
theorem joinS_eq {a b : St} (h : a.f0 = b.f0) : joinS a b = ⟨a.f0, mx a.f1 b.f1, joinE a.f2 b.f2⟩ := by unfold joinS; rw [if_neg (by omega), if_neg (by omega)]
theorem risS {s : St} (h : RightS s) : Ris kE s.f2 := h.2.2.2.2.1
theorem mx_comm (a b : Int) : mx a b = mx b a := by rw [mx_eq, mx_eq]; omega
theorem mx_assoc (a b c : Int) : mx (mx a b) c = mx a (mx b c) := by simp only [mx_eq]; omega
theorem mx_self (a : Int) : mx a a = a := by rw [mx_eq]; omega
theorem joinS_comm {a b : St} (ha : RightS a) (hb : RightS b) : joinS a b = joinS b a := by
 rcases Int.lt_trichotomy a.f0 b.f0 with h | h | h
 ·rw [joinS_lt h, joinS_gt h]
 ·rw [joinS_eq h, joinS_eq h.symm]; exact st_ext h (mx_comm _ _) (joinE_comm (risS ha) (risS hb))
 ·rw [joinS_gt h, joinS_lt h]
theorem joinS_self {a : St} (ha : RightS a) : joinS a a = a := by
 rw [joinS_eq rfl]; exact st_ext rfl (mx_self _) (joinE_self (risS ha))
theorem joinS_assoc {a b c : St} (ha : RightS a) (hb : RightS b) (hc : RightS c) : joinS (joinS a b) c = joinS a (joinS b c) := by
 rcases Int.lt_trichotomy a.f0 b.f0 with h | h | h <;> rcases Int.lt_trichotomy b.f0 c.f0 with k | k | k
 ·rw [joinS_lt h, joinS_lt k, joinS_lt (by omega)]
 ·rw [joinS_lt h, joinS_eq k, joinS_lt (b := ⟨b.f0, mx b.f1 c.f1, joinE b.f2 c.f2⟩) h]
 ·rw [joinS_lt h, joinS_gt k, joinS_lt h]
 ·rw [joinS_eq h, joinS_lt k, joinS_lt (a := ⟨a.f0, mx a.f1 b.f1, joinE a.f2 b.f2⟩) (show a.f0 < c.f0 by omega), joinS_lt (by omega)]
 ·rw [joinS_eq h, joinS_eq k, joinS_eq (a := ⟨a.f0, mx a.f1 b.f1, joinE a.f2 b.f2⟩) (show a.f0 = c.f0 by omega), joinS_eq (b := ⟨b.f0, mx b.f1 c.f1, joinE b.f2 c.f2⟩) h]; exact st_ext rfl (mx_assoc _ _ _) (joinE_assoc (risS ha) (risS hb) (risS hc))
 ·rw [joinS_eq h, joinS_gt k, joinS_gt (a := ⟨a.f0, mx a.f1 b.f1, joinE a.f2 b.f2⟩) (show c.f0 < a.f0 by omega), joinS_eq h]
 ·rw [joinS_gt h, joinS_lt k]
 ·rw [joinS_gt h, joinS_eq k, joinS_gt (by omega), joinS_gt (b := ⟨b.f0, mx b.f1 c.f1, joinE b.f2 c.f2⟩) h]
 ·rw [joinS_gt h, joinS_gt k, joinS_gt h, joinS_gt (by omega)]
theorem right_joinS {a b : St} (ha : RightS a) (hb : RightS b) : RightS (joinS a b) := by
 unfold joinS
 split
 ·exact ha
 ·split
  ·exact hb
  ·exact ⟨ha.1, ha.2.1, Int.le_trans ha.2.2.1 (le_mx_l _ _), mx_le ha.2.2.2.1 hb.2.2.2.1, right_join ha.2.2.2.2 hb.2.2.2.2⟩
theorem overS_iff {a b : St} (ha : RightS a) (hb : RightS b) : OverS a b ↔ joinS a b = a := (join_over_s ha.2.2.2.2 hb.2.2.2.2).symm
theorem ev_sameS {a b : St} (h : RightS a) (e : a = b) : Ev (fun k => ref05_Same.f k a.f0 a.f1 a.f2 b.f0 b.f1 b.f2) true := by
 subst e; exact ev_ref05_same_true a (by have := lenS h; omega)
theorem ev_joinS {a b : St} (ha : RightS a) (hb : RightS b) : Ev (fun k => state_Join.f k a.f0 a.f1 a.f2 b.f0 b.f1 b.f2) ((joinS a b).f0, (joinS a b).f1, (joinS a b).f2) := ev_state_Join a b (by have := lenS ha; omega) (by have := lenS hb; omega)
theorem lat05_j0 (a b c : St) (g : Bool) (h : g = false → RightS a ∧ RightS b ∧ RightS c) : Ev (fun k => law05_StateLattice.j0 k g a.f0 a.f1 a.f2 b.f0 b.f1 b.f2 c.f0 c.f1 c.f2) true := by
 refine Ev.step (fun k => by rw [law05_StateLattice.j0]) ?_
 cases g with
 | true => simp only [↓reduceIte]; exact Ev.now _
 | false =>
  obtain ⟨ha, hb, hc⟩ := h rfl; have hab := right_joinS ha hb; have hcb := right_joinS hc hb; simp only [Bool.false_eq_true, ↓reduceIte]; refine Ev.bind (ev_joinS ha hb) (Ev.bind (ev_joinS hab hc) (Ev.bind (ev_joinS hc hb) (Ev.bind (ev_joinS ha hcb) (Ev.bind (ev_ref05_Join a b ha.2.2.2.2 hb.2.2.2.2) (Ev.bind (ev_sameS hab rfl) ?_))))); simp only [↓reduceIte]; refine Ev.bind (ev_joinS hb ha) (Ev.bind (ev_sameS hab (joinS_comm ha hb)) ?_); simp only [↓reduceIte]; refine Ev.bind (ev_sameS (right_joinS hab hc) (by rw [joinS_assoc ha hb hc, joinS_comm hb hc])) ?_; simp only [↓reduceIte]; refine Ev.bind (ev_joinS hab hab) (Ev.bind (ev_sameS (right_joinS hab hab) (joinS_self hab)) ?_); have o1 : OverS (joinS a b) a := (overS_iff hab ha).2 (by rw [joinS_comm hab ha, ← joinS_assoc ha ha hb, joinS_self ha]); have o2 : OverS (joinS a b) b := (overS_iff hab hb).2 (by rw [joinS_assoc ha hb hb, joinS_self hb]); simp only [↓reduceIte, over_s_true o1, over_s_true o2, Option.bind_some]; obtain ⟨r0, e0, q0⟩ := ev_state_Right (joinS a b) (by have := lenS hab; omega); rw [q0.2 hab] at e0; refine Ev.bind e0 ?_; obtain ⟨r1, e1, q1⟩ := over_s a b; obtain ⟨r2, e2, q2⟩ := ev_ref05_Over a b ha.2.2.2.2 hb.2.2.2.2
  have h12 : (r1 == r2) = true := by rw [beq_iff_eq]; exact bool_iff q1 q2
  simp only [↓reduceIte, e1, Option.bind_some]; refine Ev.bind e2 ?_; simp only [h12, ↓reduceIte]; obtain ⟨r3, e3, q3⟩ := over_s c a; obtain ⟨r4, e4, q4⟩ := over_s c b; simp only [e3, e4, Option.bind_some]
  cases r3 with
  | false => simp only [Bool.false_eq_true, ↓reduceIte]; exact Ev.now _
  | true =>
   cases r4 with
   | false => simp only [Bool.false_eq_true, ↓reduceIte]; exact Ev.now _
   | true =>
    have o3 : OverS c (joinS a b) := (overS_iff hc hab).2 (by rw [← joinS_assoc hc ha hb, (overS_iff hc ha).1 (q3.1 rfl), (overS_iff hc hb).1 (q4.1 rfl)]); simp only [↓reduceIte, over_s_true o3, Option.bind_some]; exact Ev.now _
theorem StateLattice : ∀ (x0 : S24) (x1 : S24) (x2 : S24), G24 x0 → G24 x1 → G24 x2 → ∃ k, law05_StateLattice.f k x0.f0 x0.f1 x0.f2 x1.f0 x1.f1 x1.f2 x2.f0 x2.f1 x2.f2 = some true := by
 intro a b c ga gb gc; refine Ev.rounds (r := true) ?_
 unfold law05_StateLattice.f
 refine Ev.bind alive05 ?_; simp only [↓reduceIte]; have out := lat05_j0 a b c true (fun e => absurd e (by decide))
 obtain ⟨g, eg, qg⟩ := ev_great [a, b, c] (by simp) (fun s hs => by
  simp only [List.mem_cons, List.not_mem_nil, or_false] at hs
  rcases hs with rfl | rfl | rfl
  ·exact ga
  ·exact gb
  ·exact gc)
 refine Ev.bind eg ?_
 cases g with
 | true => simp only [↓reduceIte]; exact out
 | false =>
 simp only [Bool.false_eq_true, ↓reduceIte]; have la := qg rfl a (by simp); have lb := qg rfl b (by simp); have lc := qg rfl c (by simp); obtain ⟨r1, e1, q1⟩ := ev_ref05_Right a (by omega); refine Ev.bind e1 ?_
 cases r1 with
 | false => simp only [Bool.false_eq_true, ↓reduceIte]; exact out
 | true =>
 simp only [↓reduceIte]; obtain ⟨r2, e2, q2⟩ := ev_ref05_Right b (by omega); refine Ev.bind e2 ?_
 cases r2 with
 | false => simp only [Bool.false_eq_true, ↓reduceIte]; exact out
 | true =>
 simp only [↓reduceIte]; obtain ⟨r3, e3, q3⟩ := ev_ref05_Right c (by omega); refine Ev.bind e3 ?_; exact lat05_j0 a b c (!r3) (fun e => ⟨q1.1 rfl, q2.1 rfl, q3.1 (by simpa using e)⟩)
end Go.Proofs.Ytfoeahjbkmdgfaa.Pl

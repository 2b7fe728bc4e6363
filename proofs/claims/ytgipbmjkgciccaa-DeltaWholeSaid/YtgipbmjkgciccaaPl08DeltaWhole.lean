/- DeltaWhole's plain law: by what each wants, and the other one picks, both views become the two joined: for all views of which of each endpoint's life the one with the lower top is what the other one was then. No condition. -/
import Derived.Test.YtgipbmjkgciccaaOps
import Derived.Test.YtgipbmjkgciccaaPLaw08DeltaWhole
namespace Go.Proofs.Ytgipbmjkgciccaa.Pl
open Go.RowKit Go.Proofs.Ytgipbmjkgciccaa.P Go.Proofs.YtgipbmjkgciccaaW.PrintWords Go.Proofs.YtgipbmjkgciccaaW.PrintLast Go.Proofs.YtgipbmjkgciccaaW.PrintMore
set_option linter.unusedSimpArgs false
set_option linter.unusedVariables false
abbrev E := S58
theorem wrap_id (x : Int) (h0 : -9223372036854775808 ≤ x) (h1 : x ≤ 9223372036854775807) : wrap64 x = x := by unfold wrap64; omega
theorem wrap_nat (n : Nat) (h : n < 9223372036854775807) : wrap64 ((n : Int) + 1) = ((n + 1 : Nat) : Int) := by unfold wrap64; omega
theorem getD_mid {α : Type} (z : α) (pre : List α) (x : α) (suf : List α) : (pre ++ x :: suf).getD ((pre.length : Nat) : Int).toNat z = x := by
 simp [List.getD_eq_getElem?_getD]
theorem rdE (pre : List E) (x : E) (suf : List E) : rd_T58 (pre ++ x :: suf) ((pre.length : Nat) : Int) = x := getD_mid _ pre x suf
theorem rdE0 (x : E) (suf : List E) : rd_T58 (x :: suf) 0 = x := rfl
theorem mid_lt {α : Type} (pre : List α) (x : α) (suf : List α) : ((pre.length : Nat) : Int) < ((pre ++ x :: suf).length : Int) := by simp <;> omega
theorem end_ge {α : Type} (pre : List α) : ¬ ((pre.length : Nat) : Int) < ((pre ++ ([] : List α)).length : Int) := by simp
theorem nat_ge {α : Type} (pre : List α) : (0 : Int) ≤ ((pre.length : Nat) : Int) := Int.natCast_nonneg _
theorem mid_next {α : Type} (pre : List α) (x : α) (suf : List α) (h : (pre ++ x :: suf).length < 9223372036854775807) : wrap64 (((pre.length : Nat) : Int) + 1) = (((pre ++ [x]).length : Nat) : Int) := by
 rw [wrap_nat _ (by simp at h; omega), List.length_append]; rfl
theorem mid_prev {α : Type} (pre : List α) (y x : α) (suf : List α) (h : ((pre ++ [y]) ++ x :: suf).length < 9223372036854775807) : wrap64 ((((pre ++ [y]).length : Nat) : Int) - 1) = ((pre.length : Nat) : Int) := by
 rw [wrap_id _ (by omega) (by have := h; simp only [List.length_append, List.length_cons, List.length_nil] at *; omega), List.length_append, List.length_singleton]; omega
/-- From 'it comes to r' to 'there are rounds'. -/
theorem Ev.get {α : Type} {g : Nat → Option α} {r : α} (h : Ev g r) : ∃ k, g k = some r := h.rounds
theorem Ev.cast {α : Type} {g : Nat → Option α} {r r' : α} (h : Ev g r) (e : r = r') : Ev g r' := e ▸ h
section
variable {α : Type} (key : α → Int)
def Ris (l : List α) : Prop := l.Pairwise (fun a b => key a < key b)
def look (l : List α) (k : Int) : Option α := l.find? (fun x => key x == k)
variable {key}
theorem ris_nil : Ris key [] := List.Pairwise.nil
theorem ris_cons {x : α} {l : List α} : Ris key (x :: l) ↔ (∀ y ∈ l, key x < key y) ∧ Ris key l := List.pairwise_cons
theorem ris_tail {x : α} {l : List α} (h : Ris key (x :: l)) : Ris key l := (ris_cons.1 h).2
theorem ris_head {x : α} {l : List α} (h : Ris key (x :: l)) : ∀ y ∈ l, key x < key y := (ris_cons.1 h).1
theorem ris_filter {l : List α} (p : α → Bool) (h : Ris key l) : Ris key (l.filter p) := List.Pairwise.filter p h
theorem look_nil (k : Int) : look key ([] : List α) k = none := rfl
theorem look_cons (x : α) (l : List α) (k : Int) : look key (x :: l) k = if key x = k then some x else look key l k := by
 unfold look
 by_cases h : key x = k
 ·simp [h]
 ·simp [h]
theorem look_mem {l : List α} {k : Int} {x : α} (h : look key l k = some x) : x ∈ l ∧ key x = k := by
 unfold look at h
 exact ⟨List.mem_of_find?_eq_some h, by simpa using List.find?_some h⟩
theorem look_none {l : List α} {k : Int} : look key l k = none ↔ ∀ x ∈ l, key x ≠ k := by
 unfold look
 simp
theorem look_lt {l : List α} {k : Int} (h : ∀ y ∈ l, k < key y) : look key l k = none := look_none.2 (fun x hx => by have := h x hx; omega)
theorem look_of_mem {l : List α} {x : α} (hr : Ris key l) (hx : x ∈ l) : look key l (key x) = some x := by
 induction l with
 | nil => simp at hx
 | cons y l ih =>
  rw [look_cons]
  rcases List.mem_cons.1 hx with rfl | hx
  ·simp
  ·have := ris_head hr x hx; rw [if_neg (by omega)]; exact ih (ris_tail hr) hx
/-- Two rising lists in which the same is found are the same. -/
theorem ris_ext : ∀ {a b : List α}, Ris key a → Ris key b → (∀ k, look key a k = look key b k) → a = b
 | [], [], _, _, _ => rfl
 | [], y :: b, _, _, h => by
  have := h (key y); rw [look_cons, if_pos rfl] at this
  simp [look_nil] at this
 | x :: a, [], _, _, h => by
  have := h (key x); rw [look_cons, if_pos rfl] at this
  simp [look_nil] at this
 | x :: a, y :: b, ha, hb, h => by
  have hxy : key x = key y := by
   rcases Int.lt_trichotomy (key x) (key y) with hlt | he | hgt
   ·have h1 := h (key x); rw [look_cons, if_pos rfl, look_cons, if_neg (by omega), look_lt (fun z hz => by have := ris_head hb z hz; omega)] at h1
    simp at h1
   ·exact he
   ·have h1 := h (key y); rw [look_cons, if_neg (by omega), look_lt (fun z hz => by have := ris_head ha z hz; omega), look_cons, if_pos rfl] at h1
    simp at h1
  have hx : x = y := by
   have h1 := h (key x); rw [look_cons, if_pos rfl, look_cons, if_pos hxy.symm] at h1; exact Option.some.inj h1
  subst hx
  rw [ris_ext (ris_tail ha) (ris_tail hb) (fun k => by
   by_cases hk : key x = k
   ·rw [look_lt (fun z hz => by have := ris_head ha z hz; omega), look_lt (fun z hz => by have := ris_head hb z hz; omega)]
   ·have h1 := h k; rw [look_cons, if_neg hk, look_cons, if_neg hk] at h1
    exact h1)]
/-- A rising list whose keys are from 0 to below n has at most n elements. -/
theorem ris_length (n : Nat) : ∀ (l : List α) (m : Nat), Ris key l → (∀ x ∈ l, (m : Int) ≤ key x ∧ key x < (m : Int) + n) → l.length ≤ n := by
 induction n with
 | zero =>
  intro l m _ h
  match l with
  | [] => exact Nat.le_refl _
  | x :: l => have := h x (by simp); omega
 | succ n ih =>
  intro l m hr h
  match l with
  | [] => simp
  | x :: l =>
   have h1 := ih l (m + 1) (ris_tail hr) (fun y hy => by
    have h2 := h y (by simp [hy]); have h3 := ris_head hr y hy; have h4 := h x (by simp); omega)
   simp; omega
end
def MayE (x : E) : Prop := 0 ≤ x.f0 ∧ x.f0 < 12 ∧ 1 ≤ x.f1 ∧ x.f1 ≤ 1099511627776 ∧ x.f2.size ≤ 200
def kE (x : E) : Int := x.f0
def RightE (l : List E) : Prop := Ris kE l ∧ ∀ x ∈ l, MayE x
def TopE (l : List E) : Int := l.foldl (fun t x => mx t x.f1) 0
theorem mx_eq (a b : Int) : mx a b = max a b := by unfold mx; rw [Int.max_def]; split <;> split <;> omega
theorem mx_le {a b c : Int} (h1 : a ≤ c) (h2 : b ≤ c) : mx a b ≤ c := by unfold mx; split <;> omega
theorem le_mx_l (a b : Int) : a ≤ mx a b := by unfold mx; split <;> omega
theorem le_mx_r (a b : Int) : b ≤ mx a b := by unfold mx; split <;> omega
theorem mx_or (a b : Int) : mx a b = a ∨ mx a b = b := by unfold mx; split <;> simp
theorem topF (l : List E) : ∀ t : Int, t ≤ l.foldl (fun t x => mx t x.f1) t ∧ (∀ x ∈ l, x.f1 ≤ l.foldl (fun t x => mx t x.f1) t) ∧ (l.foldl (fun t x => mx t x.f1) t = t ∨ ∃ x ∈ l, l.foldl (fun t x => mx t x.f1) t = x.f1) := by
 induction l with
 | nil => intro t; simp
 | cons x l ih =>
  intro t; obtain ⟨h1, h2, h3⟩ := ih (mx t x.f1); simp only [List.foldl_cons]; refine ⟨Int.le_trans (le_mx_l _ _) h1, fun y hy => ?_, ?_⟩
  ·rcases List.mem_cons.1 hy with rfl | hy
   ·exact Int.le_trans (le_mx_r _ _) h1
   ·exact h2 y hy
  ·rcases h3 with h3 | ⟨y, hy, h3⟩
   ·rcases mx_or t x.f1 with h4 | h4
    ·exact .inl (h3.trans h4)
    ·exact .inr ⟨x, by simp, h3.trans h4⟩
   ·exact .inr ⟨y, by simp [hy], h3⟩
theorem topE_nonneg (l : List E) : 0 ≤ TopE l := (topF l 0).1
theorem topE_is (l : List E) : TopE l = 0 ∨ ∃ x ∈ l, TopE l = x.f1 := (topF l 0).2.2
theorem topE_le {l : List E} {n : Int} (h0 : 0 ≤ n) (h : ∀ x ∈ l, x.f1 ≤ n) : TopE l ≤ n := by
 rcases topE_is l with e | ⟨x, hx, e⟩
 ·omega
 ·rw [e]; exact h x hx
open Go.RowKit Go.Proofs.Ytgipbmjkgciccaa.P Go.Proofs.YtgipbmjkgciccaaW.PrintWords Go.Proofs.YtgipbmjkgciccaaW.PrintLast Go.Proofs.YtgipbmjkgciccaaW.PrintMore Go.Proofs.YtgipbmjkgciccaaW.Hw
theorem ev_entry_Top_l0 (suf : List E) : ∀ (pre : List E) (t : Int), (pre ++ suf).length < 4611686018427387904 →
  Ev (fun k => entry_Top.l0 k t (pre ++ suf) ((pre ++ suf).length : Int) (pre.length : Int)) (suf.foldl (fun t x => mx t x.f1) t) := by
 induction suf with
 | nil =>
  intro pre t h; refine Ev.step (fun k => by rw [entry_Top.l0]) ?_; simp only [end_ge, ↓reduceIte]; exact Ev.now _
 | cons x suf ih =>
  intro pre t h; refine Ev.step (fun k => by rw [entry_Top.l0]) ?_; simp only [mid_lt, nat_ge, ↓reduceIte, rdE, mid_next pre x suf (by omega)]; have := ih (pre ++ [x]) (mx t x.f1) (by rw [← List.append_cons]; exact h); rw [← List.append_cons pre x suf] at this; exact this
theorem ev_entry_Top (l : List E) (h : l.length < 4611686018427387904) : Ev (fun k => entry_Top.f k l) (TopE l) := ev_entry_Top_l0 l [] 0 h
theorem wrap01 : wrap64 (0 + 1) = 1 := wrap_id 1 (by omega) (by omega)
theorem all_cons {α : Type} {Q : α → Prop} {x : α} {l : List α} (hx : Q x) (hl : ∀ z, z ∈ l → Q z) : ∀ z, z ∈ x :: l → Q z := fun z hz => by
 rcases List.mem_cons.1 hz with rfl | hz
 ·exact hx
 ·exact hl z hz
theorem ev_ref04_Great_l0 (suf : List E) : ∀ (pre : List E) (n : Int), (pre ++ suf).length < 4611686018427387904 → 0 ≤ n → n ≤ 4611686018427387904 → (∀ x ∈ suf, x.f2.size ≤ 140737488351232) →
  ∃ r, Ev (fun k => ref04_Great.l0 k (pre ++ suf) n (pre.length : Int)) r ∧ (r = false → n ≤ 4000) := by
 induction suf with
 | nil =>
  intro pre n h h0 h1 h2; refine ⟨decide (n > 4000), Ev.step (fun k => by rw [ref04_Great.l0]) ?_, by simp⟩; simp only [end_ge, ↓reduceIte]; exact Ev.now _
 | cons x suf ih =>
  intro pre n h h0 h1 h2
  by_cases hn : n ≤ 4000
  ·have hx := h2 x (by simp); obtain ⟨r, hr, hi⟩ := ih (pre ++ [x]) (n + (x.f2.size : Int)) (by rw [← List.append_cons]; exact h) (by omega) (by omega) (fun y hy => h2 y (by simp [hy])); refine ⟨r, Ev.step (fun k => by rw [ref04_Great.l0]) ?_, fun _ => hn⟩; simp only [mid_lt, nat_ge, ↓reduceIte, rdE, mid_next pre x suf (by omega), hn, wrap_id (n + (x.f2.size : Int)) (by omega) (by omega)]; rw [← List.append_cons pre x suf] at hr; exact hr
  ·refine ⟨decide (n > 4000), Ev.step (fun k => by rw [ref04_Great.l0]) ?_, by simp⟩; simp only [mid_lt, ↓reduceIte, hn]; exact Ev.now _
theorem ev_ref04_Great (l : List E) (h : l.length < 4611686018427387904) (hs : ∀ x ∈ l, x.f2.size ≤ 140737488351232) : ∃ r, Ev (fun k => ref04_Great.f k l) r ∧ (r = false → l.length ≤ 4000) := by
 obtain ⟨r, hr, hi⟩ := ev_ref04_Great_l0 l [] (l.length : Int) h (by omega) (by omega) hs; exact ⟨r, hr, fun e => by have := hi e; omega⟩
section
variable {α : Type} {key : α → Int}
theorem ris_cons2 {y x : α} {l : List α} : Ris key (y :: x :: l) ↔ key y < key x ∧ Ris key (x :: l) := by
 rw [ris_cons]
 constructor
 ·rintro ⟨h1, h2⟩; exact ⟨h1 x (by simp), h2⟩
 ·rintro ⟨h1, h2⟩; refine ⟨fun z hz => ?_, h2⟩
  rcases List.mem_cons.1 hz with rfl | hz
  ·exact h1
  ·have := ris_head h2 z hz; omega
theorem ris_one (x : α) : Ris key [x] := List.pairwise_singleton _ x
end
theorem len_pos {α : Type} (x : α) (l : List α) : (0 : Int) < ((x :: l).length : Int) := by simp <;> omega
theorem len_one {α : Type} (x : α) (l : List α) : (1 : Int) ≤ ((x :: l).length : Int) := by rw [List.length_cons]; omega
theorem len_ne {α : Type} (x : α) (l : List α) : ¬ (((x :: l).length : Int) = 0) := by simp <;> omega
theorem len_gt {α : Type} (x : α) (l : List α) : ((x :: l).length : Int) > 0 := by simp <;> omega
theorem nil_gt {α : Type} : ¬ (((([] : List α).length : Nat) : Int) > 0) := by simp
theorem nil_eq {α : Type} : (((([] : List α).length : Nat) : Int) = 0) := rfl
theorem may04_is (x : E) : ∃ r, ref04_May.f x.f0 x.f1 x.f2 = some r ∧ (r = true ↔ MayE x) := by
 unfold ref04_May.f MayE
 by_cases h1 : x.f0 ≥ 0
 ·by_cases h2 : x.f0 < 12
  ·by_cases h3 : x.f1 ≥ 1
   ·by_cases h4 : x.f1 ≤ 1099511627776
    ·refine ⟨_, by simp only [h1, h2, h3, h4, ↓reduceIte]; rfl, ?_⟩
     simp; omega
    ·exact ⟨false, by simp only [h1, h2, h3, h4, ↓reduceIte], by simp; omega⟩
   ·exact ⟨false, by simp only [h1, h2, h3, ↓reduceIte], by simp; omega⟩
  ·exact ⟨false, by simp only [h1, h2, ↓reduceIte], by simp; omega⟩
 ·exact ⟨false, by simp only [h1, ↓reduceIte], by simp; omega⟩
theorem pos_mid {α : Type} (p : List α) (y : α) : (((p ++ [y]).length : Nat) : Int) > 0 := by simp <;> omega
theorem prev_ge {α : Type} (p : List α) (y x : α) (s : List α) : ((p.length : Nat) : Int) < (((p ++ [y]) ++ x :: s).length : Int) := by simp <;> omega
theorem rdE1 (p : List E) (y x : E) (s : List E) : rd_T58 ((p ++ [y]) ++ x :: s) ((p.length : Nat) : Int) = y := by rw [← List.append_cons]; exact rdE p y (x :: s)
theorem ev_ref04_Right_l0 (suf : List E) : ∀ (p : List E) (y : E), ((p ++ [y]) ++ suf).length < 4611686018427387904 →
  ∃ r, Ev (fun k => ref04_Right.l0 k ((p ++ [y]) ++ suf) ((p ++ [y]).length : Int)) r ∧ (r = true ↔ Ris kE (y :: suf) ∧ ∀ x ∈ suf, MayE x) := by
 induction suf with
 | nil =>
  intro p y h; refine ⟨true, Ev.step (fun k => by rw [ref04_Right.l0]) ?_, by simp [ris_one]⟩; simp only [end_ge, ↓reduceIte]; exact Ev.now _
 | cons x suf ih =>
  intro p y h; obtain ⟨m, hm, hmi⟩ := may04_is x
  cases m with
  | false =>
   refine ⟨false, Ev.step (fun k => by rw [ref04_Right.l0]) ?_, ?_⟩
   ·simp only [mid_lt, nat_ge, ↓reduceIte, rdE, hm, Option.bind_some, Bool.false_eq_true]; exact Ev.now _
   ·simp only [Bool.false_eq_true, false_iff]; rintro ⟨_, h2⟩; exact absurd (hmi.2 (h2 x (by simp))) (by simp)
  | true =>
   by_cases hk : y.f0 ≥ x.f0
   ·refine ⟨false, Ev.step (fun k => by rw [ref04_Right.l0]) ?_, ?_⟩
    ·simp only [mid_lt, nat_ge, ↓reduceIte, rdE, hm, Option.bind_some, pos_mid, mid_prev p y x suf (by omega), prev_ge, rdE1, hk]; exact Ev.now _
    ·simp only [Bool.false_eq_true, false_iff, ris_cons2]; rintro ⟨⟨h1, _⟩, _⟩
     unfold kE at h1; omega
   ·obtain ⟨r, hr, hi⟩ := ih (p ++ [y]) x (by rw [← List.append_cons]; exact h); refine ⟨r, Ev.step (fun k => by rw [ref04_Right.l0]) ?_, ?_⟩
    ·simp only [mid_lt, nat_ge, ↓reduceIte, rdE, hm, Option.bind_some, pos_mid, mid_prev p y x suf (by omega), prev_ge, rdE1, hk, mid_next (p ++ [y]) x suf (by omega)]; rw [← List.append_cons (p ++ [y]) x suf] at hr; exact hr
    ·rw [hi, ris_cons2]; have := hmi.1 rfl
     constructor
     ·rintro ⟨h1, h2⟩; exact ⟨⟨by unfold kE; omega, h1⟩, all_cons (this) (fun z hz => h2 z hz)⟩
     ·rintro ⟨⟨_, h1⟩, h2⟩; exact ⟨h1, fun z hz => h2 z (by simp [hz])⟩
theorem ev_ref04_Right (l : List E) (h : l.length < 4611686018427387904) : ∃ r, Ev (fun k => ref04_Right.f k l) r ∧ (r = true ↔ RightE l) := by
 cases l with
 | nil =>
  refine ⟨true, Ev.step (g := fun k => ref04_Right.l0 k [] 0) (fun k => by rw [ref04_Right.l0]) ?_, by simp [RightE, ris_nil]⟩; simp only [List.length_nil, Int.natCast_zero, Int.lt_irrefl, ↓reduceIte]; exact Ev.now _
 | cons x l =>
  obtain ⟨m, hm, hmi⟩ := may04_is x; have e0 : (0 : Int) < ((x :: l).length : Int) := len_pos x l
  cases m with
  | false =>
   refine ⟨false, Ev.step (g := fun k => ref04_Right.l0 k (x :: l) 0) (fun k => by rw [ref04_Right.l0]) ?_, ?_⟩
   ·simp only [e0, Int.le_refl, ↓reduceIte, rdE0, hm, Option.bind_some, Bool.false_eq_true]; exact Ev.now _
   ·simp only [Bool.false_eq_true, false_iff]; rintro ⟨_, h2⟩; exact absurd (hmi.2 (h2 x (by simp))) (by simp)
  | true =>
   obtain ⟨r, hr, hi⟩ := ev_ref04_Right_l0 l [] x h; refine ⟨r, Ev.step (g := fun k => ref04_Right.l0 k (x :: l) 0) (fun k => by rw [ref04_Right.l0]) ?_, ?_⟩
   ·simp only [e0, Int.le_refl, ↓reduceIte, rdE0, hm, Option.bind_some, gt_iff_lt, Int.lt_irrefl, wrap01]; exact hr
   ·rw [hi]
    constructor
    ·rintro ⟨h1, h2⟩; exact ⟨h1, all_cons (hmi.1 rfl) (fun z hz => h2 z hz)⟩
    ·rintro ⟨h1, h2⟩; exact ⟨h1, fun z hz => h2 z (by simp [hz])⟩
theorem ne_is (x y : E) : (!(x.f0 == y.f0) || (!(x.f1 == y.f1) || (!(x.f2.toList == y.f2.toList)))) = true ↔ x ≠ y := by
 obtain ⟨a0, a1, a2⟩ := x; obtain ⟨b0, b1, b2⟩ := y; simp only [Bool.or_eq_true, Bool.not_eq_true', beq_eq_false_iff_ne]
 constructor
 ·rintro h e; cases e
  simp at h
 ·intro h
  by_cases h0 : a0 = b0
  ·by_cases h1 : a1 = b1
   ·right; right
    intro e; exact h (by rw [h0, h1, ba_ext e])
   ·exact .inr (.inl h1)
  ·exact .inl h0
theorem ev_ref04_Same_l0 (sa : List E) : ∀ (sb pa pb : List E), pa.length = pb.length → sa.length = sb.length → (pa ++ sa).length < 4611686018427387904 →
  ∃ r, Ev (fun k => ref04_Same.l0 k (pa ++ sa) (pb ++ sb) (pa.length : Int)) r ∧ (r = true ↔ sa = sb) := by
 induction sa with
 | nil =>
  intro sb pa pb hp hs h; have : sb = [] := List.eq_nil_of_length_eq_zero (by simpa using hs.symm); subst this; refine ⟨true, Ev.step (fun k => by rw [ref04_Same.l0]) ?_, by simp⟩; simp only [end_ge, ↓reduceIte]; exact Ev.now _
 | cons x sa ih =>
  intro sb pa pb hp hs h
  match sb, hs with
  | y :: sb, hs =>
   have r2 : rd_T58 (pb ++ y :: sb) (pa.length : Int) = y := by rw [hp]; exact rdE pb y sb
   have l2 : (pa.length : Int) < ((pb ++ y :: sb).length : Int) := by rw [hp]; exact mid_lt pb y sb
   by_cases hxy : x = y
   ·subst hxy; obtain ⟨r, h1, h2⟩ := ih sb (pa ++ [x]) (pb ++ [x]) (by simp [hp]) (by simpa using hs) (by rw [← List.append_cons]; exact h); refine ⟨r, Ev.step (fun k => by rw [ref04_Same.l0]) ?_, ?_⟩
    ·have hn : ¬ ((!(x.f0 == x.f0) || (!(x.f1 == x.f1) || (!(x.f2.toList == x.f2.toList)))) = true) := fun e => (ne_is x x).1 e rfl
     simp only [mid_lt, l2, nat_ge, ↓reduceIte, rdE, r2, hn, mid_next pa x sa (by omega)]; rw [← List.append_cons pa x sa, ← List.append_cons pb x sb] at h1; exact h1
    ·rw [h2]; simp
   ·refine ⟨false, Ev.step (fun k => by rw [ref04_Same.l0]) ?_, ?_⟩
    ·have hn := (ne_is x y).2 hxy; simp only [mid_lt, l2, nat_ge, ↓reduceIte, rdE, r2, hn]; exact Ev.now _
    ·simp [hxy]
theorem ev_ref04_Same (a b : List E) (h : a.length < 4611686018427387904) : ∃ r, Ev (fun k => ref04_Same.f k a b) r ∧ (r = true ↔ a = b) := by
 unfold ref04_Same.f
 by_cases hl : (a.length : Int) = (b.length : Int)
 ·obtain ⟨r, h1, h2⟩ := ev_ref04_Same_l0 a b [] [] rfl (by omega) (by simpa using h); refine ⟨r, ?_, h2⟩; simp only [hl, ↓reduceIte]; exact h1
 ·refine ⟨false, ?_, ?_⟩
  ·simp only [hl, ↓reduceIte]; exact Ev.now _
  ·simp only [Bool.false_eq_true, false_iff]; intro e; exact hl (by rw [e])
/-- Is y above x? -/
def Gt (y x : E) : Prop := y.f1 > x.f1 ∨ (y.f1 = x.f1 ∧ Op.bytesLess x.f2.toList y.f2.toList = true)
instance (y x : E) : Decidable (Gt y x) := by unfold Gt; infer_instance
def hi (x y : E) : E := if Gt y x then y else x
theorem gt_irrefl (x : E) : ¬ Gt x x := by
 rintro (h | ⟨_, h⟩)
 ·omega
 ·rw [bl_irrefl] at h; cases h
theorem gt_trans {x y z : E} (h : Gt x y) (k : Gt y z) : Gt x z := by
 rcases h with h | ⟨h1, h2⟩
 ·rcases k with k | ⟨k1, k2⟩
  ·exact .inl (by omega)
  ·exact .inl (by omega)
 ·rcases k with k | ⟨k1, k2⟩
  ·exact .inl (by omega)
  ·exact .inr ⟨by omega, bl_trans _ _ _ k2 h2⟩
theorem gt_total (x y : E) : Gt x y ∨ Gt y x ∨ (x.f1 = y.f1 ∧ x.f2 = y.f2) := by
 rcases Int.lt_trichotomy x.f1 y.f1 with h | h | h
 ·exact .inr (.inl (.inl h))
 ·rcases bl_total x.f2.toList y.f2.toList with k | k | k
  ·exact .inr (.inl (.inr ⟨h.symm, k⟩))
  ·exact .inr (.inr ⟨h, ba_ext k⟩)
  ·exact .inl (.inr ⟨h, k⟩)
 ·exact .inl (.inl h)
theorem hi_key (x y : E) (h : x.f0 = y.f0) : (hi x y).f0 = x.f0 := by unfold hi; split <;> simp [h]
theorem hi_or (x y : E) : hi x y = x ∨ hi x y = y := by unfold hi; split <;> simp
theorem hi_self (x : E) : hi x x = x := by unfold hi; rw [if_neg (gt_irrefl x)]
theorem e_ext {x y : E} (h0 : x.f0 = y.f0) (h1 : x.f1 = y.f1) (h2 : x.f2 = y.f2) : x = y := by
 obtain ⟨a, b, c⟩ := x; obtain ⟨d, e, f⟩ := y; simp only at h0 h1 h2; rw [h0, h1, h2]
theorem hi_comm {x y : E} (h : x.f0 = y.f0) : hi x y = hi y x := by
 unfold hi
 by_cases h1 : Gt y x
 ·rw [if_pos h1, if_neg (fun h2 => gt_irrefl x (gt_trans h2 h1))]
 ·by_cases h2 : Gt x y
  ·rw [if_neg h1, if_pos h2]
  ·rcases gt_total x y with a | a | ⟨a, b⟩
   ·exact absurd a h2
   ·exact absurd a h1
   ·rw [if_neg h1, if_neg h2]; exact e_ext h a b
theorem higher_is (x y : E) : entry_higher.f x.f0 x.f1 x.f2 y.f0 y.f1 y.f2 = some ((hi x y).f0, (hi x y).f1, (hi x y).f2) := by
 unfold entry_higher.f hi Gt
 by_cases h1 : y.f1 > x.f1
 ·simp [h1]
 ·by_cases h2 : y.f1 = x.f1
  ·by_cases h3 : Op.bytesLess x.f2.toList y.f2.toList = true
   ·simp [h2, h3]
   ·simp [h2, h3]
  ·simp [h1, h2]
theorem find_idx {α : Type} (p : α → Bool) : ∀ l : List α, l.find? p = l[l.findIdx p]?
 | [] => rfl
 | x :: l => by
  rw [List.find?_cons, List.findIdx_cons]
  cases hp : p x with
  | true => simp
  | false => simp [find_idx p l]
def got (o : Option E) : Int × Int × ByteArray × Bool := match o with
 | some x => (x.f0, x.f1, x.f2, true)
 | none => (0, 0, ⟨#[]⟩, false)
def OverE (a b : List E) : Prop := ∀ y ∈ b, ∃ x, look kE a y.f0 = some x ∧ ¬ Gt y x
def joinE : List E → List E → List E
 | [], b => b
 | x :: a, [] => x :: a
 | x :: a, y :: b => if x.f0 < y.f0 then x :: joinE a (y :: b) else if y.f0 < x.f0 then y :: joinE (x :: a) b else hi x y :: joinE a b
termination_by a b => a.length + b.length
theorem joinE_nil (b : List E) : joinE [] b = b := by rw [joinE]
theorem joinE_nil_r (a : List E) : joinE a [] = a := by cases a <;> rw [joinE]
theorem joinE_cons (x : E) (a : List E) (y : E) (b : List E) : joinE (x :: a) (y :: b) = if x.f0 < y.f0 then x :: joinE a (y :: b) else if y.f0 < x.f0 then y :: joinE (x :: a) b else hi x y :: joinE a b := by rw [joinE]
theorem ev_Join_l0 : ∀ (n : Nat) (a b acc : List E), a.length + b.length ≤ n → acc.length + (a.length + b.length) < 4398046511104 → Ev (fun k => entry_Join.l0 k a b acc) (acc ++ joinE a b) := by
 intro n
 induction n with
 | zero =>
  intro a b acc hn h; have ha : a = [] := List.eq_nil_of_length_eq_zero (by omega); have hb : b = [] := List.eq_nil_of_length_eq_zero (by omega); subst ha; subst hb; refine Ev.step (fun k => by rw [entry_Join.l0]) ?_; simp only [nil_gt, ↓reduceIte, decide_false]; refine Ev.step (fun k => by rw [entry_Join.j1]) ?_; simp only [Bool.false_eq_true, ↓reduceIte, joinE_nil, List.append_nil]; exact Ev.now _
 | succ n ih =>
  intro a b acc hn h
  match a, b with
  | [], [] =>
   refine Ev.step (fun k => by rw [entry_Join.l0]) ?_; simp only [nil_gt, ↓reduceIte, decide_false]; refine Ev.step (fun k => by rw [entry_Join.j1]) ?_; simp only [Bool.false_eq_true, ↓reduceIte, joinE_nil, List.append_nil]; exact Ev.now _
  | [], y :: b =>
   have i := ih [] b (acc ++ [y]) (by simp at hn ⊢; omega) (by simp at h ⊢; omega); rw [joinE_nil, List.append_assoc, List.singleton_append] at i; refine Ev.step (fun k => by rw [entry_Join.l0]) ?_; simp only [nil_gt, len_gt, ↓reduceIte, decide_true]; refine Ev.step (fun k => by rw [entry_Join.j1]) ?_; simp only [↓reduceIte, len_ne, nil_gt]; refine Ev.step (fun k => by rw [entry_Join.j2]) ?_; simp only [Bool.false_eq_true, ↓reduceIte, nil_eq, len_pos, len_one, rdE0, show acc.length < 4398046511104 by omega, joinE_nil]; exact i
  | x :: a, [] =>
   have i := ih a [] (acc ++ [x]) (by simp at hn ⊢; omega) (by simp at h ⊢; omega); rw [joinE_nil_r, List.append_assoc, List.singleton_append] at i; refine Ev.step (fun k => by rw [entry_Join.l0]) ?_; simp only [len_gt, ↓reduceIte]; refine Ev.step (fun k => by rw [entry_Join.j1]) ?_; simp only [↓reduceIte, nil_eq]; refine Ev.step (fun k => by rw [entry_Join.j2]) ?_; simp only [↓reduceIte, len_pos, len_one, rdE0, show acc.length < 4398046511104 by omega, joinE_nil_r]; exact i
  | x :: a, y :: b =>
   have hal : acc.length < 4398046511104 := by omega
   refine Ev.step (fun k => by rw [entry_Join.l0]) ?_; simp only [len_gt, ↓reduceIte]; refine Ev.step (fun k => by rw [entry_Join.j1]) ?_; simp only [↓reduceIte, len_ne, len_gt, len_pos, rdE0]; rw [joinE_cons]
   by_cases h1 : x.f0 < y.f0
   ·have i := ih a (y :: b) (acc ++ [x]) (by simp at hn ⊢; omega) (by simp at h ⊢; omega); rw [List.append_assoc, List.singleton_append] at i; simp only [h1, decide_true, ↓reduceIte]; refine Ev.step (fun k => by rw [entry_Join.j2]) ?_; simp only [↓reduceIte, len_pos, len_one, rdE0, hal]; exact i
   ·simp only [h1, decide_false, ↓reduceIte]; refine Ev.step (fun k => by rw [entry_Join.j2]) ?_; simp only [Bool.false_eq_true, ↓reduceIte, len_ne, len_pos, len_one, rdE0, hal]
    by_cases h2 : y.f0 < x.f0
    ·have i := ih (x :: a) b (acc ++ [y]) (by simp at hn ⊢; omega) (by simp at h ⊢; omega); rw [List.append_assoc, List.singleton_append] at i; simp only [h2, ↓reduceIte]; exact i
    ·have i := ih a b (acc ++ [hi x y]) (by simp at hn ⊢; omega) (by simp at h ⊢; omega); rw [List.append_assoc, List.singleton_append] at i; simp only [h2, ↓reduceIte, higher_is, Option.bind_some]; exact i
theorem ev_Join (a b : List E) (h : a.length + b.length < 1099511627776) : Ev (fun k => entry_Join.f k a b) (joinE a b) := by
 unfold entry_Join.f
 have e : wrap64 ((a.length : Int) + (b.length : Int)) = ((a.length + b.length : Nat) : Int) := by rw [wrap_id _ (by omega) (by omega)]; omega
 simp only [e, Int.toNat_natCast, show (0 : Int) ≤ ((a.length + b.length : Nat) : Int) by omega, show a.length + b.length ≤ 8796093022208 by omega, ↓reduceIte]; have := ev_Join_l0 _ a b [] (Nat.le_refl _) (by simp; omega); exact this
theorem mem_join : ∀ (n : Nat) (a b : List E), a.length + b.length ≤ n → ∀ z ∈ joinE a b, z ∈ a ∨ z ∈ b := by
 intro n
 induction n with
 | zero =>
  intro a b hn z hz; have ha : a = [] := List.eq_nil_of_length_eq_zero (by omega); subst ha; rw [joinE_nil] at hz; exact .inr hz
 | succ n ih =>
  intro a b hn z hz
  match a, b with
  | [], b => rw [joinE_nil] at hz; exact .inr hz
  | x :: a, [] => rw [joinE_nil_r] at hz; exact .inl hz
  | x :: a, y :: b =>
   rw [joinE_cons] at hz
   split at hz
   ·rcases List.mem_cons.1 hz with rfl | hz
    ·exact .inl (by simp)
    ·rcases ih a (y :: b) (by simp at hn ⊢; omega) z hz with h | h
     ·exact .inl (by simp [h])
     ·exact .inr h
   ·split at hz
    ·rcases List.mem_cons.1 hz with rfl | hz
     ·exact .inr (by simp)
     ·rcases ih (x :: a) b (by simp at hn ⊢; omega) z hz with h | h
      ·exact .inl h
      ·exact .inr (by simp [h])
    ·rcases List.mem_cons.1 hz with rfl | hz
     ·rcases hi_or x y with e | e
      ·exact .inl (by rw [e]; simp)
      ·exact .inr (by rw [e]; simp)
     ·rcases ih a b (by simp at hn ⊢; omega) z hz with h | h
      ·exact .inl (by simp [h])
      ·exact .inr (by simp [h])
theorem ris_join : ∀ (n : Nat) (a b : List E), a.length + b.length ≤ n → Ris kE a → Ris kE b → Ris kE (joinE a b) := by
 intro n
 induction n with
 | zero =>
  intro a b hn ha hb; have h : a = [] := List.eq_nil_of_length_eq_zero (by omega); subst h; rw [joinE_nil]; exact hb
 | succ n ih =>
  intro a b hn ha hb
  match a, b with
  | [], b => rw [joinE_nil]; exact hb
  | x :: a, [] => rw [joinE_nil_r]; exact ha
  | x :: a, y :: b =>
   rw [joinE_cons]; have hx := ris_head ha; have hy := ris_head hb
   split
   ·rename_i h
    refine ris_cons.2 ⟨fun z hz => ?_, ih a (y :: b) (by simp at hn ⊢; omega) (ris_tail ha) hb⟩
    rcases mem_join _ _ _ (Nat.le_refl _) z hz with hz | hz
    ·exact hx z hz
    ·rcases List.mem_cons.1 hz with rfl | hz
     ·exact h
     ·have := hy z hz; unfold kE at *; omega
   ·split
    ·rename_i h
     refine ris_cons.2 ⟨fun z hz => ?_, ih (x :: a) b (by simp at hn ⊢; omega) ha (ris_tail hb)⟩
     rcases mem_join _ _ _ (Nat.le_refl _) z hz with hz | hz
     ·rcases List.mem_cons.1 hz with rfl | hz
      ·exact h
      ·have := hx z hz; unfold kE at *; omega
     ·exact hy z hz
    ·rename_i h1 h2
     have hk := hi_key x y (by omega); refine ris_cons.2 ⟨fun z hz => ?_, ih a b (by simp at hn ⊢; omega) (ris_tail ha) (ris_tail hb)⟩
     show (hi x y).f0 < z.f0
     rcases mem_join _ _ _ (Nat.le_refl _) z hz with hz | hz
     ·have := hx z hz; unfold kE at this; omega
     ·have := hy z hz; unfold kE at this; omega
def sup : Option E → Option E → Option E
 | none, o => o
 | o, none => o
 | some x, some y => some (hi x y)
theorem sup_none (o : Option E) : sup o none = o := by cases o <;> rfl
theorem none_sup (o : Option E) : sup none o = o := by cases o <;> rfl
theorem look_join (k : Int) : ∀ (n : Nat) (a b : List E), a.length + b.length ≤ n → Ris kE a → Ris kE b → look kE (joinE a b) k = sup (look kE a k) (look kE b k) := by
 intro n
 induction n with
 | zero =>
  intro a b hn ha hb; have h : a = [] := List.eq_nil_of_length_eq_zero (by omega); subst h; rw [joinE_nil, look_nil, none_sup]
 | succ n ih =>
  intro a b hn ha hb
  match a, b with
  | [], b => rw [joinE_nil, look_nil, none_sup]
  | x :: a, [] => rw [joinE_nil_r, look_nil, sup_none]
  | x :: a, y :: b =>
   rw [joinE_cons]; have hx := ris_head ha; have hy := ris_head hb
   split
   ·rename_i h
    rw [look_cons, ih a (y :: b) (by simp at hn ⊢; omega) (ris_tail ha) hb, look_cons x a]
    by_cases hk : kE x = k
    ·rw [if_pos hk, if_pos hk, look_lt (fun z hz => ?_), sup_none]
     rcases List.mem_cons.1 hz with rfl | hz
     ·unfold kE at *; omega
     ·have := hy z hz; unfold kE at *; omega
    ·rw [if_neg hk, if_neg hk]
   ·split
    ·rename_i h
     rw [look_cons, ih (x :: a) b (by simp at hn ⊢; omega) ha (ris_tail hb), look_cons y b]
     by_cases hk : kE y = k
     ·rw [if_pos hk, if_pos hk, look_lt (l := x :: a) (fun z hz => ?_), none_sup]
      rcases List.mem_cons.1 hz with rfl | hz
      ·unfold kE at *; omega
      ·have := hx z hz; unfold kE at *; omega
     ·rw [if_neg hk, if_neg hk]
    ·rename_i h1 h2
     have hk2 := hi_key x y (by omega); rw [look_cons, ih a b (by simp at hn ⊢; omega) (ris_tail ha) (ris_tail hb), look_cons x a, look_cons y b]; have e1 : kE (hi x y) = kE x := hk2
     have e2 : kE y = kE x := by unfold kE; omega
     rw [e1, e2]
     by_cases hk : kE x = k
     ·rw [if_pos hk, if_pos hk, if_pos hk]; rfl
     ·rw [if_neg hk, if_neg hk, if_neg hk]
theorem look_key {l : List E} {k : Int} {x : E} (h : look kE l k = some x) : x.f0 = k := (look_mem h).2
theorem look_joinE {a b : List E} (ha : Ris kE a) (hb : Ris kE b) (k : Int) : look kE (joinE a b) k = sup (look kE a k) (look kE b k) := look_join k _ a b (Nat.le_refl _) ha hb
theorem ris_joinE {a b : List E} (ha : Ris kE a) (hb : Ris kE b) : Ris kE (joinE a b) := ris_join _ a b (Nat.le_refl _) ha hb
theorem right_join {a b : List E} (ha : RightE a) (hb : RightE b) : RightE (joinE a b) := by
 refine ⟨ris_joinE ha.1 hb.1, fun z hz => ?_⟩
 rcases mem_join _ _ _ (Nat.le_refl _) z hz with h | h
 ·exact ha.2 z h
 ·exact hb.2 z h
theorem right_len {a : List E} (h : RightE a) : a.length ≤ 12 := ris_length 12 a 0 h.1 (fun x hx => by have := h.2 x hx; unfold MayE at this; unfold kE; omega)
/-- One entry, or none, isn't above another one. -/
def Ole (p q : Option E) : Prop := ∀ y, p = some y → ∃ x, q = some x ∧ ¬ Gt y x
theorem over_iff {a b : List E} (hb : Ris kE b) : OverE a b ↔ ∀ k, Ole (look kE b k) (look kE a k) := by
 constructor
 ·intro h k y hy; obtain ⟨hm, hk⟩ := look_mem hy; have := h y hm; rw [show y.f0 = k from hk] at this; exact this
 ·intro h y hy; exact h y.f0 y (look_of_mem hb hy)
theorem sup_comm {l m : List E} (k : Int) : sup (look kE l k) (look kE m k) = sup (look kE m k) (look kE l k) := by
 cases h : look kE l k with
 | none => rw [none_sup, sup_none]
 | some x =>
  cases h2 : look kE m k with
  | none => rw [none_sup, sup_none]
  | some y => show some _ = some _; rw [hi_comm (by rw [look_key h, look_key h2])]
theorem sup_self (p : Option E) : sup p p = p := by
 cases p with
 | none => rfl
 | some x => show some _ = some _; rw [hi_self]
section
variable {α : Type} (key : α → Int)
/-- An element in its place of a rising list. -/
def putL (l : List α) (x : α) : List α := l.filter (fun y => decide (key y < key x)) ++ [x] ++ l.filter (fun y => decide (key x < key y))
theorem ris_put {l : List α} (x : α) (hr : Ris key l) : Ris key (putL key l x) := by
 unfold putL Ris
 refine List.pairwise_append.2 ⟨List.pairwise_append.2 ⟨List.Pairwise.filter _ hr, List.pairwise_singleton _ _, fun a ha b hb => ?_⟩, List.Pairwise.filter _ hr, fun a ha b hb => ?_⟩
 ·simp only [List.mem_filter, List.mem_singleton, decide_eq_true_eq] at ha hb; subst hb; exact ha.2
 ·simp only [List.mem_append, List.mem_filter, List.mem_singleton, decide_eq_true_eq] at ha hb
  rcases ha with ha | ha
  ·omega
  ·subst ha; exact hb.2
theorem mem_put {l : List α} {x y : α} (h : y ∈ putL key l x) : y = x ∨ y ∈ l := by
 unfold putL at h
 simp only [List.mem_append, List.mem_filter, List.mem_singleton] at h
 rcases h with (h | h) | h
 ·exact Or.inr h.1
 ·exact Or.inl h
 ·exact Or.inr h.1
theorem look_app (a b : List α) (k : Int) : look key (a ++ b) k = (look key a k).or (look key b k) := by
 unfold look; rw [List.find?_append]
theorem look_filter (p : α → Bool) (l : List α) (k : Int) (h : ∀ x, key x = k → p x = true) : look key (l.filter p) k = look key l k := by
 induction l with
 | nil => rfl
 | cons x l ih =>
  rw [List.filter_cons]
  split
  ·rw [look_cons, look_cons, ih]
  ·rename_i hp
   rw [look_cons, ih, if_neg (fun e => hp (h x e))]
theorem look_filter_not (p : α → Bool) (l : List α) (k : Int) (h : ∀ x, key x = k → p x = false) : look key (l.filter p) k = none := by
 induction l with
 | nil => rfl
 | cons x l ih =>
  rw [List.filter_cons]
  split
  ·rename_i hp
   rw [look_cons, ih, if_neg (fun e => by rw [h x e] at hp; exact absurd hp (by decide))]
  ·exact ih
theorem look_put (l : List α) (x : α) (k : Int) : look key (putL key l x) k = if key x = k then some x else look key l k := by
 unfold putL
 rw [look_app, look_app, look_cons]
 by_cases h : key x = k
 ·rw [if_pos h, if_pos h, look_filter_not key _ _ _ (fun y hy => decide_eq_false (by omega))]; rfl
 ·rw [if_neg h, if_neg h]
  rcases Int.lt_or_gt_of_ne h with h' | h'
  ·rw [look_filter_not key _ _ _ (fun y hy => decide_eq_false (by omega)), look_filter key _ _ _ (fun y hy => decide_eq_true (by omega))]; rfl
  ·rw [look_filter key (fun y => decide (key y < key x)) _ _ (fun y hy => decide_eq_true (by omega)), look_filter_not key (fun y => decide (key x < key y)) _ _ (fun y hy => decide_eq_false (by omega))]
   show ((look key l k).or none).or none = _
   simp
end
def putE (l : List E) (x : E) : List E := putL kE l x
theorem right_put {l : List E} {x : E} (hl : RightE l) (hx : MayE x) : RightE (putE l x) := ⟨ris_put kE x hl.1, fun y hy => by
 rcases mem_put kE hy with rfl | h
 ·exact hx
 ·exact hl.2 y h⟩
theorem look_putE (l : List E) (x : E) (k : Int) : look kE (putE l x) k = if x.f0 = k then some x else look kE l k := look_put kE l x k
theorem put_true_l0 (x : E) (suf : List E) : ∀ (pre acc : List E), (pre ++ suf).length < 1099511627776 → acc.length ≤ pre.length + 1 →
  Ev (fun k => ref04_Put.l0 k (pre ++ suf) acc true (pre.length : Int) x.f0 x.f1 x.f2) (acc ++ suf.filter (fun y => !decide (y.f0 = x.f0))) := by
 induction suf with
 | nil =>
  intro pre acc h ha; refine Ev.step (fun k => by rw [ref04_Put.l0]) ?_; simp only [end_ge, ↓reduceIte]; rw [List.filter_nil, List.append_nil]; exact Ev.now _
 | cons y suf ih =>
  intro pre acc h ha
  have hl : pre.length + (suf.length + 1) < 1099511627776 := by simpa using h
  refine Ev.step (fun k => by rw [ref04_Put.l0]) ?_; simp only [mid_lt, ↓reduceIte]; refine Ev.step (fun k => by rw [ref04_Put.j1]) ?_; simp only [mid_lt, nat_ge, rdE, ↓reduceIte, Bool.false_eq_true]
  by_cases hk : y.f0 = x.f0
  ·have hd : ¬ (!decide (y.f0 = x.f0)) = true := by simp [hk]
   simp only [hk, ↓reduceIte, mid_next pre y suf (by omega)]; rw [List.filter_cons, if_neg hd]; have i := ih (pre ++ [y]) acc (by rw [← List.append_cons]; exact h) (by simp; omega); rw [← List.append_cons pre y suf] at i; exact i
  ·have hd : (!decide (y.f0 = x.f0)) = true := by simp [hk]
   simp only [hk, ↓reduceIte, show acc.length < 4398046511104 by omega, mid_next pre y suf (by omega)]; rw [List.filter_cons, if_pos hd]; have i := ih (pre ++ [y]) (acc ++ [y]) (by rw [← List.append_cons]; exact h) (by simp; omega); rw [← List.append_cons pre y suf, List.append_assoc, List.singleton_append] at i; exact i
theorem put_false_l0 (x : E) (suf : List E) : ∀ (pre acc : List E), (pre ++ suf).length < 1099511627776 → acc.length ≤ pre.length → Ris kE suf →
  Ev (fun k => ref04_Put.l0 k (pre ++ suf) acc false (pre.length : Int) x.f0 x.f1 x.f2) (acc ++ putE suf x) := by
 induction suf with
 | nil =>
  intro pre acc h ha hr
  have hl : pre.length < 1099511627776 := by simpa using h
  refine Ev.step (fun k => by rw [ref04_Put.l0]) ?_; simp only [end_ge, ↓reduceIte, Bool.false_eq_true, show acc.length < 4398046511104 by omega]; exact Ev.now _
 | cons y suf ih =>
  intro pre acc h ha hr
  have hl : pre.length + (suf.length + 1) < 1099511627776 := by simpa using h
  have hys := ris_head hr; have hrs := ris_tail hr; refine Ev.step (fun k => by rw [ref04_Put.l0]) ?_; simp only [mid_lt, nat_ge, rdE, ↓reduceIte, Bool.false_eq_true]; refine Ev.step (fun k => by rw [ref04_Put.j1]) ?_
  by_cases hge : y.f0 ≥ x.f0
  ·have hf1 : (y :: suf).filter (fun y => decide (kE y < kE x)) = [] := List.filter_eq_nil_iff.2 (fun z hz => by
    rw [decide_eq_true_eq]
    rcases List.mem_cons.1 hz with rfl | hz
    ·unfold kE; omega
    ·have := hys z hz
     unfold kE at *; omega)
   have hf2 : suf.filter (fun y => decide (kE x < kE y)) = suf.filter (fun y => !decide (y.f0 = x.f0)) := List.filter_congr (fun z hz => by
    have := hys z hz
    unfold kE at this ⊢
    have h1 : x.f0 < z.f0 := by omega
    have h2 : ¬ z.f0 = x.f0 := by omega
    simp [h1, h2])
   simp only [decide_eq_true hge, show acc.length < 4398046511104 by omega, mid_lt, nat_ge, rdE, ↓reduceIte, Option.bind_some]
   unfold putE putL
   rw [hf1, List.filter_cons, List.nil_append]
   by_cases he : y.f0 = x.f0
   ·rw [if_neg (by show ¬ decide (kE x < kE y) = true; rw [decide_eq_true_eq]; unfold kE; omega), hf2]; simp only [he, ↓reduceIte, mid_next pre y suf (by omega)]; have i := put_true_l0 x suf (pre ++ [y]) (acc ++ [x]) (by rw [← List.append_cons]; exact h) (by simp; omega); rw [← List.append_cons pre y suf, List.append_assoc] at i; exact i
   ·rw [if_pos (by show decide (kE x < kE y) = true; rw [decide_eq_true_eq]; unfold kE; omega), hf2]
    have hla : (acc ++ [x]).length < 4398046511104 := by rw [List.length_append, List.length_singleton]; omega
    have hla' : (acc ++ [(⟨x.f0, x.f1, x.f2⟩ : E)]).length < 4398046511104 := hla; simp only [he, ↓reduceIte, mid_next pre y suf (by omega), hla']; have i := put_true_l0 x suf (pre ++ [y]) (acc ++ [x] ++ [y]) (by rw [← List.append_cons]; exact h) (by simp; omega); rw [← List.append_cons pre y suf] at i; exact Ev.cast i (by simp)
  ·have he : ¬ y.f0 = x.f0 := by omega
   simp only [decide_eq_false hge, Bool.false_eq_true, he, show acc.length < 4398046511104 by omega, mid_lt, nat_ge, rdE, ↓reduceIte, mid_next pre y suf (by omega)]; have i := ih (pre ++ [y]) (acc ++ [y]) (by rw [← List.append_cons]; exact h) (by simp; omega) hrs; rw [← List.append_cons pre y suf, List.append_assoc] at i
   have e : putE (y :: suf) x = y :: putE suf x := by
    unfold putE putL
    rw [List.filter_cons, if_pos (by show decide (kE y < kE x) = true; rw [decide_eq_true_eq]; unfold kE; omega), List.filter_cons, if_neg (by show ¬ decide (kE x < kE y) = true; rw [decide_eq_true_eq]; unfold kE; omega)]; rfl
   rw [e]; exact i
theorem ev_ref04_Put (l : List E) (x : E) (hr : Ris kE l) (hn : l.length < 1099511627776) : Ev (fun k => ref04_Put.f k l x.f0 x.f1 x.f2) (putE l x) := put_false_l0 x l [] [] hn (Nat.le_refl _) hr
theorem ev_ref04_Top_l0 (suf : List E) : ∀ (pre : List E) (t : Int), (pre ++ suf).length < 4611686018427387904 →
  Ev (fun k => ref04_Top.l0 k (pre ++ suf) t (pre.length : Int)) (suf.foldl (fun t x => mx t x.f1) t) := by
 induction suf with
 | nil =>
  intro pre t h; refine Ev.step (fun k => by rw [ref04_Top.l0]) ?_; simp only [end_ge, ↓reduceIte]; exact Ev.now _
 | cons x suf ih =>
  intro pre t h; refine Ev.step (fun k => by rw [ref04_Top.l0]) ?_; simp only [mid_lt, nat_ge, ↓reduceIte, rdE, mid_next pre x suf (by omega)]; have := ih (pre ++ [x]) (mx t x.f1) (by rw [← List.append_cons]; exact h); rw [← List.append_cons pre x suf] at this; exact this
theorem ev_ref04_Top (l : List E) (h : l.length < 4611686018427387904) : Ev (fun k => ref04_Top.f k l) (TopE l) := ev_ref04_Top_l0 l [] 0 h
theorem ev_ref04_Get_l0 (k0 : Int) (suf : List E) : ∀ (pre : List E), (pre ++ suf).length < 4611686018427387904 →
  Ev (fun k => ref04_Get.l0 k (pre ++ suf) k0 (pre.length : Int)) (got (look kE suf k0)) := by
 induction suf with
 | nil =>
  intro pre h; refine Ev.step (fun k => by rw [ref04_Get.l0]) ?_; simp only [end_ge, ↓reduceIte]; exact Ev.now _
 | cons x suf ih =>
  intro pre h; refine Ev.step (fun k => by rw [ref04_Get.l0]) ?_; simp only [mid_lt, nat_ge, ↓reduceIte, rdE]; rw [look_cons]
  by_cases hk : x.f0 = k0
  ·simp only [hk, ↓reduceIte, show kE x = k0 from hk, got]; exact Ev.now _
  ·simp only [hk, ↓reduceIte, show ¬ kE x = k0 from hk, mid_next pre x suf (by omega)]; have i := ih (pre ++ [x]) (by rw [← List.append_cons]; exact h); rw [← List.append_cons pre x suf] at i; exact i
theorem ev_ref04_Get (l : List E) (k0 : Int) (h : l.length < 4611686018427387904) : Ev (fun k => ref04_Get.f k l k0) (got (look kE l k0)) := ev_ref04_Get_l0 k0 l [] h
theorem above_is (l : List E) (v : Int) (h : l.length < 1099511627776) : entry_Above.f l v = some (l.filter (fun x => !decide (x.f1 ≤ v))) := by
 unfold entry_Above.f
 rw [if_pos (by omega)]
theorem above_gt (y x : E) : ref04_above.f y.f0 y.f1 y.f2 x.f0 x.f1 x.f2 = some (decide (Gt y x)) := by
 unfold ref04_above.f
 by_cases h1 : y.f1 > x.f1
 ·rw [if_pos h1, decide_eq_true (show Gt y x from Or.inl h1)]
 ·rw [if_neg h1]
  by_cases h2 : y.f1 = x.f1
  ·rw [if_pos h2]
   cases h3 : Op.bytesLess x.f2.toList y.f2.toList with
   | true => rw [decide_eq_true (show Gt y x from Or.inr ⟨h2, h3⟩)]
   | false =>
    rw [decide_eq_false (show ¬ Gt y x from fun h => by
     rcases h with h | h
     ·exact h1 h
     ·rw [h3] at h; exact absurd h.2 (by decide))]
  ·rw [if_neg h2, decide_eq_false (show ¬ Gt y x from fun h => by
    rcases h with h | h
    ·exact h1 h
    ·exact h2 h.1)]
theorem ref_join_l0 (suf : List E) : ∀ (pre out : List E), (pre ++ suf).length < 4611686018427387904 → RightE out → RightE suf →
  Ev (fun k => ref04_Join.l0 k (pre ++ suf) out (pre.length : Int)) (joinE out suf) := by
 induction suf with
 | nil =>
  intro pre out h ho hs; refine Ev.step (fun k => by rw [ref04_Join.l0]) ?_; simp only [end_ge, ↓reduceIte, joinE_nil_r]; exact Ev.now _
 | cons y suf ih =>
  intro pre out h ho hs; have hys := ris_head hs.1; have hsuf : RightE suf := ⟨ris_tail hs.1, fun z hz => hs.2 z (List.mem_cons_of_mem _ hz)⟩; have hy : MayE y := hs.2 y (List.mem_cons_self); have hlo := right_len ho; have hnone : look kE suf y.f0 = none := look_lt hys
  have go : ∀ o : List E, RightE o → (∀ k, look kE o k = if y.f0 = k then sup (look kE out k) (some y) else look kE out k) → Ev (fun k => ref04_Join.l0 k (pre ++ y :: suf) o (wrap64 ((pre.length : Int) + 1))) (joinE out (y :: suf)) := by
   intro o hro hlk; have i := ih (pre ++ [y]) o (by rw [← List.append_cons]; exact h) hro hsuf; rw [← List.append_cons pre y suf] at i; rw [mid_next pre y suf (by omega)]; refine Ev.cast i (ris_ext (key := kE) (ris_joinE hro.1 hsuf.1) (ris_joinE ho.1 hs.1) (fun k => ?_)); rw [look_joinE hro.1 hsuf.1, look_joinE ho.1 hs.1, hlk, look_cons]
   by_cases hk : y.f0 = k
   ·subst hk; rw [if_pos rfl, hnone, sup_none, if_pos (show kE y = y.f0 from rfl)]
   ·rw [if_neg hk, if_neg (show ¬ kE y = k from hk)]
  refine Ev.step (fun k => by rw [ref04_Join.l0]) ?_; simp only [mid_lt, nat_ge, rdE, ↓reduceIte]; refine Ev.bind (ev_ref04_Get out y.f0 (by omega)) ?_
  cases hg : look kE out y.f0 with
  | none =>
   simp only [got, Bool.false_eq_true, ↓reduceIte]; refine Ev.bind (ev_ref04_Put out y ho.1 (by omega)) (go _ (right_put ho hy) (fun k => ?_)); rw [look_putE]
   by_cases hk : y.f0 = k
   ·subst hk; rw [if_pos rfl, if_pos rfl, hg]; rfl
   ·rw [if_neg hk, if_neg hk]
  | some x =>
   simp only [got, ↓reduceIte, above_gt, Option.bind_some]
   by_cases hgt : Gt y x
   ·simp only [decide_eq_true hgt, ↓reduceIte]; refine Ev.bind (ev_ref04_Put out y ho.1 (by omega)) (go _ (right_put ho hy) (fun k => ?_)); rw [look_putE]
    by_cases hk : y.f0 = k
    ·subst hk; rw [if_pos rfl, if_pos rfl, hg]; show some y = some (hi x y); unfold hi; rw [if_pos hgt]
    ·rw [if_neg hk, if_neg hk]
   ·simp only [decide_eq_false hgt, Bool.false_eq_true, ↓reduceIte]; refine go _ ho (fun k => ?_)
    by_cases hk : y.f0 = k
    ·subst hk; rw [if_pos rfl, hg]; show some x = some (hi x y); unfold hi; rw [if_neg hgt]
    ·rw [if_neg hk]
theorem ev_ref04_Join (a b : List E) (ha : RightE a) (hb : RightE b) : Ev (fun k => ref04_Join.f k a b) (joinE a b) := by
 have la := right_len ha; have lb := right_len hb
 unfold ref04_Join.f
 have h0 : ([] : List E).length + a.length < 4398046511104 := by simp; omega
 simp only [Option.bind_some, h0, ↓reduceIte, List.nil_append]; exact ref_join_l0 b [] a (by simp; omega) ha hb
theorem join_over {a b : List E} (ha : Ris kE a) (hb : Ris kE b) : joinE a b = a ↔ OverE a b := by
 rw [over_iff hb]
 constructor
 ·intro h k y hy; have h1 := look_joinE ha hb k; rw [h, hy] at h1
  cases hx : look kE a k with
  | none => rw [hx] at h1; exact absurd h1 (by simp [sup])
  | some x =>
   rw [hx] at h1; refine ⟨x, rfl, fun hg => ?_⟩; have h2 : some x = some (hi x y) := h1
   unfold hi at h2
   rw [if_pos hg] at h2
   injection h2 with h2
   subst h2; exact gt_irrefl _ hg
 ·intro h; refine ris_ext (key := kE) (ris_joinE ha hb) ha (fun k => ?_); rw [look_joinE ha hb]
  cases hy : look kE b k with
  | none => rw [sup_none]
  | some y =>
   obtain ⟨x, hx, hn⟩ := h k y hy; rw [hx]
   show some (hi x y) = some x
   unfold hi
   rw [if_neg hn]
abbrev St := S35
theorem inS {s : St} (h : G35 s) : s.f2.length < 4611686018427387904 ∧ ∀ x ∈ s.f2, x.f2.size ≤ 140737488351232 := ⟨by have := h.2.2.2.1; omega, fun x hx => (h.2.2.2.2 x hx).2.2⟩
def RightS (s : St) : Prop := 1 ≤ s.f0 ∧ s.f0 ≤ 1099511627776 ∧ 0 ≤ s.f1 ∧ s.f1 ≤ 1099511627776 ∧ RightE s.f2
def TopS (s : St) : Int := mx s.f1 (TopE s.f2)
theorem st_ext {a b : St} (h0 : a.f0 = b.f0) (h1 : a.f1 = b.f1) (h2 : a.f2 = b.f2) : a = b := by
 cases a; cases b; simp only at h0 h1 h2; subst h0; subst h1; subst h2; rfl
theorem ev_ref05_Right (s : St) (h : s.f2.length < 4611686018427387904) : ∃ r, Ev (fun k => ref05_Right.f k s.f0 s.f1 s.f2) r ∧ (r = true ↔ RightS s) := by
 unfold ref05_Right.f
 by_cases h1 : s.f0 ≥ 1
 ·by_cases h2 : s.f0 ≤ 1099511627776
  ·by_cases h3 : s.f1 ≥ 0
   ·by_cases h4 : s.f1 ≤ 1099511627776
    ·obtain ⟨r, e, q⟩ := ev_ref04_Right s.f2 h; simp only [h1, h2, h3, h4, ↓reduceIte]; refine ⟨r, Ev.bind e (Ev.now _), ?_⟩; rw [q]; exact ⟨fun x => And.intro h1 (And.intro h2 (And.intro h3 (And.intro h4 x))), fun x => x.2.2.2.2⟩
    ·simp only [h1, h2, h3, h4, ↓reduceIte]; exact ⟨false, Ev.now _, ⟨fun x => absurd x (by decide), fun x => absurd x.2.2.2.1 h4⟩⟩
   ·simp only [h1, h2, h3, ↓reduceIte]; exact ⟨false, Ev.now _, ⟨fun x => absurd x (by decide), fun x => absurd x.2.2.1 h3⟩⟩
  ·simp only [h1, h2, ↓reduceIte]; exact ⟨false, Ev.now _, ⟨fun x => absurd x (by decide), fun x => absurd x.2.1 h2⟩⟩
 ·simp only [h1, ↓reduceIte]; exact ⟨false, Ev.now _, ⟨fun x => absurd x (by decide), fun x => absurd x.1 h1⟩⟩
theorem ev_state_Top (s : St) (h : s.f2.length < 4611686018427387904) : Ev (fun k => state_Top.f k s.f0 s.f1 s.f2) (TopS s) := by
 unfold state_Top.f
 exact Ev.bind (ev_entry_Top s.f2 h) (Ev.now _)
theorem ev_ref05_Top (s : St) (h : s.f2.length < 4611686018427387904) : Ev (fun k => ref05_Top.f k s.f0 s.f1 s.f2) (TopS s) := by
 unfold ref05_Top.f
 exact Ev.bind (ev_ref04_Top s.f2 h) (Ev.now _)
theorem copy_is (s : St) (h : s.f2.length < 1099511627776) : state_Copy.f s.f0 s.f1 s.f2 = some (s.f0, s.f1, s.f2) := by
 unfold state_Copy.f api_Entry_61.f
 rw [if_pos (by omega)]; rfl
theorem ref_copy_is (s : St) (h : s.f2.length < 1099511627776) : ref05_Copy.f s.f0 s.f1 s.f2 = some (s.f0, s.f1, s.f2) := by
 unfold ref05_Copy.f
 show (if ([] : List E).length + s.f2.length < 4398046511104 then some (s.f0, s.f1, [] ++ s.f2) else none) = _
 rw [if_pos (by rw [List.length_nil]; omega), List.nil_append]
theorem ev_ref05_Same (a b : St) (h : a.f2.length < 4611686018427387904) : ∃ r, Ev (fun k => ref05_Same.f k a.f0 a.f1 a.f2 b.f0 b.f1 b.f2) r ∧ (r = true ↔ a = b) := by
 unfold ref05_Same.f
 by_cases h1 : a.f0 = b.f0
 ·by_cases h2 : a.f1 = b.f1
  ·obtain ⟨r, e, q⟩ := ev_ref04_Same a.f2 b.f2 h; simp only [h1, h2, ↓reduceIte]; refine ⟨r, Ev.bind e (Ev.now _), ?_⟩; rw [q]; exact ⟨fun x => st_ext h1 h2 x, fun x => by rw [x]⟩
  ·simp only [h1, h2, ↓reduceIte]; exact ⟨false, Ev.now _, ⟨fun x => absurd x (by decide), fun x => absurd (by rw [x]) h2⟩⟩
 ·simp only [h1, ↓reduceIte]; exact ⟨false, Ev.now _, ⟨fun x => absurd x (by decide), fun x => absurd (by rw [x]) h1⟩⟩
theorem ev_ref05_Great (s : St) (h : s.f2.length < 4611686018427387904) (hs : ∀ x ∈ s.f2, x.f2.size ≤ 140737488351232) : ∃ r, Ev (fun k => ref05_Great.f k s.f0 s.f1 s.f2) r ∧ (r = false → s.f2.length ≤ 4000) := by
 obtain ⟨r, e, q⟩ := ev_ref04_Great s.f2 h hs; exact ⟨r, Ev.bind e (Ev.now _), q⟩
def OverS (a b : St) : Prop := if a.f0 = b.f0 then a.f1 ≥ b.f1 ∧ OverE a.f2 b.f2 else a.f0 > b.f0
def joinS (a b : St) : St := if a.f0 > b.f0 then a else if a.f0 < b.f0 then b else ⟨a.f0, mx a.f1 b.f1, joinE a.f2 b.f2⟩
theorem ev_state_Join (a b : St) (ha : a.f2.length < 100000000000) (hb : b.f2.length < 100000000000) : Ev (fun k => state_Join.f k a.f0 a.f1 a.f2 b.f0 b.f1 b.f2) ((joinS a b).f0, (joinS a b).f1, (joinS a b).f2) := by
 unfold state_Join.f joinS
 by_cases h1 : a.f0 > b.f0
 ·simp only [h1, ↓reduceIte, copy_is a (by omega), Option.bind_some]; exact Ev.now _
 ·by_cases h2 : a.f0 < b.f0
  ·simp only [h1, h2, ↓reduceIte, copy_is b (by omega), Option.bind_some]; exact Ev.now _
  ·simp only [h1, h2, ↓reduceIte]; exact Ev.bind (ev_Join a.f2 b.f2 (by omega)) (Ev.now _)
theorem ev_ref05_Join (a b : St) (ha : RightE a.f2) (hb : RightE b.f2) : Ev (fun k => ref05_Join.f k a.f0 a.f1 a.f2 b.f0 b.f1 b.f2) ((joinS a b).f0, (joinS a b).f1, (joinS a b).f2) := by
 have la := right_len ha; have lb := right_len hb
 unfold ref05_Join.f joinS
 by_cases h1 : a.f0 > b.f0
 ·simp only [h1, ↓reduceIte, ref_copy_is a (by omega), Option.bind_some]; exact Ev.now _
 ·by_cases h2 : a.f0 < b.f0
  ·have h3 : b.f0 > a.f0 := h2; simp only [h1, h2, h3, ↓reduceIte, ref_copy_is b (by omega), Option.bind_some]; exact Ev.now _
  ·have h3 : ¬ b.f0 > a.f0 := h2; simp only [h1, h2, h3, ↓reduceIte]; exact Ev.bind (ev_ref04_Join a.f2 b.f2 ha hb) (Ev.now _)
theorem join_over_s {a b : St} (ha : RightE a.f2) (hb : RightE b.f2) : joinS a b = a ↔ OverS a b := by
 unfold joinS OverS
 by_cases h1 : a.f0 > b.f0
 ·have h2 : ¬ a.f0 = b.f0 := by omega
  rw [if_pos h1, if_neg h2]; exact ⟨fun _ => h1, fun _ => rfl⟩
 ·by_cases h2 : a.f0 < b.f0
  ·have h3 : ¬ a.f0 = b.f0 := by omega
   rw [if_neg h1, if_pos h2, if_neg h3]; exact ⟨fun e => absurd (congrArg (·.f0) e) (fun e => h3 e.symm), fun e => absurd e h1⟩
  ·have h3 : a.f0 = b.f0 := by omega
   rw [if_neg h1, if_neg h2, if_pos h3, ← join_over ha.1 hb.1]
   constructor
   ·intro e; have e1 : mx a.f1 b.f1 = a.f1 := congrArg (·.f1) e; have e2 : joinE a.f2 b.f2 = a.f2 := congrArg (·.f2) e; exact ⟨by have := le_mx_r a.f1 b.f1; omega, e2⟩
   ·intro e; refine st_ext rfl ?_ e.2; have := e.1
    show mx a.f1 b.f1 = a.f1
    rw [mx_eq]; omega
theorem ev_ref05_Over (a b : St) (ha : RightE a.f2) (hb : RightE b.f2) : ∃ r, Ev (fun k => ref05_Over.f k a.f0 a.f1 a.f2 b.f0 b.f1 b.f2) r ∧ (r = true ↔ OverS a b) := by
 have la := right_len ha; have lb := right_len hb
 have hj : (joinS a b).f2.length < 4611686018427387904 := by
  unfold joinS
  split
  ·omega
  ·split
   ·omega
   ·have := right_len (right_join ha hb)
    show (joinE a.f2 b.f2).length < _
    omega
 obtain ⟨r, e, q⟩ := ev_ref05_Same (joinS a b) a hj; refine ⟨r, ?_, by rw [q, join_over_s ha hb]⟩
 unfold ref05_Over.f
 exact Ev.bind (ev_ref05_Join a b ha hb) (Ev.bind e (Ev.now _))
theorem above_s (s : St) (v : Int) (h : s.f2.length < 1099511627776) : state_Above.f s.f0 s.f1 s.f2 v = some (s.f0, s.f1, s.f2.filter (fun x => !decide (x.f1 ≤ v))) := by
 unfold state_Above.f
 rw [above_is s.f2 v h]; rfl
theorem topS_nonneg (s : St) : 0 ≤ TopS s := Int.le_trans (topE_nonneg s.f2) (le_mx_r _ _)
theorem topS_le {s : St} (h : RightS s) : TopS s ≤ 1099511627776 := mx_le h.2.2.2.1 (topE_le (by omega) (fun x hx => by have := h.2.2.2.2.2 x hx; unfold MayE at this; omega))
abbrev Nm := S39
theorem rdN (pre : List Nm) (x : Nm) (suf : List Nm) : rd_T39 (pre ++ x :: suf) ((pre.length : Nat) : Int) = x := getD_mid _ pre x suf
def kN (x : Nm) : Int := x.f0
theorem nm_ext {a b : Nm} (h0 : a.f0 = b.f0) (h1 : a.f1 = b.f1) : a = b := by
 cases a; cases b; simp only at h0 h1; subst h0; subst h1; rfl
/-- A view that is small enough for every step. -/
def Sm (l : List Nm) : Prop := l.length ≤ 1000 ∧ ∀ x ∈ l, x.f1.f2.length ≤ 100000
def inN (l : List Nm) : Prop := ∀ x ∈ l, x.f1.f2.length < 4611686018427387904 ∧ ∀ e ∈ x.f1.f2, e.f2.size ≤ 140737488351232
theorem ev_ref06_Great_l0 (suf : List Nm) : ∀ pre : List Nm, (pre ++ suf).length < 4611686018427387904 → inN suf →
  ∃ r, Ev (fun k => ref06_Great.l0 k (pre ++ suf) (pre.length : Int)) r ∧ (r = false → (pre ++ suf).length ≤ 40 ∧ ∀ x ∈ suf, x.f1.f2.length ≤ 4000) := by
 induction suf with
 | nil =>
  intro pre h hs; refine ⟨decide (((pre ++ ([] : List Nm)).length : Int) > 40), Ev.step (fun k => by rw [ref06_Great.l0]) ?_, fun e => ⟨by have := of_decide_eq_false e; omega, fun x hx => by simp at hx⟩⟩; simp only [end_ge, ↓reduceIte]; refine Ev.step (fun k => by rw [ref06_Great.j1]) ?_; simp only [Bool.false_eq_true, ↓reduceIte]; exact Ev.now _
 | cons x suf ih =>
  intro pre h hs
  by_cases h41 : (pre.length : Int) < 41
  ·obtain ⟨g, e, q⟩ := ev_ref05_Great x.f1 (hs x List.mem_cons_self).1 (hs x List.mem_cons_self).2
   cases g with
   | true =>
    refine ⟨true, Ev.step (fun k => by rw [ref06_Great.l0]) ?_, fun e => absurd e (by decide)⟩; simp only [mid_lt, decide_eq_true h41, ↓reduceIte]; refine Ev.step (fun k => by rw [ref06_Great.j1]) ?_; simp only [mid_lt, nat_ge, rdN, ↓reduceIte]; refine Ev.bind e ?_; simp only [↓reduceIte]; exact Ev.now _
   | false =>
    obtain ⟨r, e2, q2⟩ := ih (pre ++ [x]) (by rw [← List.append_cons]; exact h) (fun y hy => hs y (List.mem_cons_of_mem _ hy)); rw [← List.append_cons pre x suf] at e2 q2; refine ⟨r, Ev.step (fun k => by rw [ref06_Great.l0]) ?_, fun hr => ⟨(q2 hr).1, fun y hy => ?_⟩⟩
    ·simp only [mid_lt, decide_eq_true h41, ↓reduceIte]; refine Ev.step (fun k => by rw [ref06_Great.j1]) ?_; simp only [mid_lt, nat_ge, rdN, ↓reduceIte, mid_next pre x suf (by omega)]; refine Ev.bind e ?_; simp only [Bool.false_eq_true, ↓reduceIte]; exact e2
    ·rcases List.mem_cons.1 hy with rfl | hy
     ·exact q rfl
     ·exact (q2 hr).2 y hy
  ·have hl : ((pre ++ x :: suf).length : Int) > 40 := by rw [List.length_append, List.length_cons]; omega
   refine ⟨true, Ev.step (fun k => by rw [ref06_Great.l0]) ?_, fun e => absurd e (by decide)⟩; simp only [mid_lt, decide_eq_false h41, ↓reduceIte]; refine Ev.step (fun k => by rw [ref06_Great.j1]) ?_; simp only [Bool.false_eq_true, ↓reduceIte, decide_eq_true hl]; exact Ev.now _
theorem ev_ref06_Great (l : List Nm) (h : l.length < 4611686018427387904) (hs : inN l) : ∃ r, Ev (fun k => ref06_Great.f k l) r ∧ (r = false → Sm l) := by
 obtain ⟨r, e, q⟩ := ev_ref06_Great_l0 l [] h hs; exact ⟨r, e, fun hr => ⟨by have := (q hr).1; simp at this; omega, fun x hx => by have := (q hr).2 x hx; omega⟩⟩
theorem own_is (n : Int) (s : St) (h : s.f2.length < 1099511627776) : view_own.f n s.f0 s.f1 s.f2 = some (n, s.f0, s.f1, s.f2) := by
 unfold view_own.f
 rw [copy_is s h]; rfl
theorem ev_view_Copy_l0 (suf : List Nm) : ∀ pre : List Nm, (pre ++ suf).length < 100000 → (∀ x ∈ suf, x.f1.f2.length ≤ 100000) →
  Ev (fun k => view_Copy.l0 k (pre ++ List.replicate suf.length z39) (pre ++ suf) ((pre ++ suf).length : Int) (pre.length : Int)) (pre ++ suf) := by
 induction suf with
 | nil =>
  intro pre h hs; refine Ev.step (fun k => by rw [view_Copy.l0]) ?_; simp only [end_ge, ↓reduceIte, List.length_nil, List.replicate_zero]; exact Ev.now _
 | cons x suf ih =>
  intro pre h hs; have e2 := ih (pre ++ [x]) (by rw [← List.append_cons]; exact h) (fun y hy => hs y (List.mem_cons_of_mem _ hy)); rw [← List.append_cons pre x suf] at e2
  have hr : ((pre.length : Nat) : Int) < ((pre ++ List.replicate (x :: suf).length z39).length : Int) := by
   rw [List.length_append, List.length_replicate, List.length_cons]; omega
  have hset : (pre ++ List.replicate (x :: suf).length z39).set ((pre.length : Nat) : Int).toNat x = (pre ++ [x]) ++ List.replicate suf.length z39 := by
   rw [Int.toNat_natCast, List.length_cons, List.replicate_succ, List.set_append_right _ _ (Nat.le_refl _), Nat.sub_self, List.set_cons_zero, List.append_assoc]; rfl
  refine Ev.step (fun k => by rw [view_Copy.l0]) ?_; have ho := own_is x.f0 x.f1 (by have := hs x List.mem_cons_self; omega); simp only [mid_lt, nat_ge, rdN, ho, Option.bind_some, hr, ↓reduceIte, mid_next pre x suf (by omega)]
  show Ev (fun k => view_Copy.l0 k ((pre ++ List.replicate (x :: suf).length z39).set ((pre.length : Nat) : Int).toNat x) _ _ _) _
  rw [hset]; exact e2
theorem ev_view_Copy (l : List Nm) (h : Sm l) : Ev (fun k => view_Copy.f k l) l := by
 have h1 := h.1
 unfold view_Copy.f
 have e := ev_view_Copy_l0 l [] (by simpa using (by omega : l.length < 100000)) (fun x hx => h.2 x hx)
 have e0 : (0 : Int) ≤ (l.length : Int) := by omega
 have e1 : l.length ≤ 5864062014805 := by omega
 simp only [e0, e1, ↓reduceIte, Int.toNat_natCast]; exact e
theorem ev_ref06_Copy_l0 (suf : List Nm) : ∀ pre : List Nm, (pre ++ suf).length < 100000 → (∀ x ∈ suf, x.f1.f2.length ≤ 100000) →
  Ev (fun k => ref06_Copy.l0 k (pre ++ suf) pre (pre.length : Int)) (pre ++ suf) := by
 induction suf with
 | nil =>
  intro pre h hs; refine Ev.step (fun k => by rw [ref06_Copy.l0]) ?_; simp only [end_ge, ↓reduceIte]; rw [List.append_nil]; exact Ev.now _
 | cons x suf ih =>
  intro pre h hs; have e2 := ih (pre ++ [x]) (by rw [← List.append_cons]; exact h) (fun y hy => hs y (List.mem_cons_of_mem _ hy)); rw [← List.append_cons pre x suf] at e2
  have hl : pre.length < 2932031007402 := by rw [List.length_append] at h; omega
  refine Ev.step (fun k => by rw [ref06_Copy.l0]) ?_; have ho := ref_copy_is x.f1 (by have := hs x List.mem_cons_self; omega); simp only [mid_lt, nat_ge, rdN, ho, Option.bind_some, hl, ↓reduceIte, mid_next pre x suf (by omega)]; exact e2
theorem ev_ref06_Copy (l : List Nm) (h : Sm l) : Ev (fun k => ref06_Copy.f k l) l := by
 have h1 := h.1; exact ev_ref06_Copy_l0 l [] (by simpa using (by omega : l.length < 100000)) (fun x hx => h.2 x hx)
def gotN (o : Option Nm) : Int × Int × List E × Bool := match o with
 | some x => (x.f1.f0, x.f1.f1, x.f1.f2, true)
 | none => (0, 0, [], false)
theorem view_Get_is (l : List Nm) (n : Int) (h : Sm l) : view_Get.f l n = some (gotN (look kN l n)) := by
 have hl : look kN l n = l[l.findIdx (fun x : S39 => x.f0 == n)]? := find_idx _ l
 unfold view_Get.f view_place.f idxI
 simp only [Option.bind_some]
 by_cases hx : l.findIdx (fun x : S39 => x.f0 == n) < l.length
 ·have e : rd_T39 l ((l.findIdx (fun x : S39 => x.f0 == n) : Nat) : Int) = l[l.findIdx (fun x : S39 => x.f0 == n)] := by
   simp [rd_T39, List.getD_eq_getElem?_getD, hx]
  rw [if_pos hx, if_neg (by omega), if_pos (by omega), if_pos (by omega), hl, List.getElem?_eq_getElem hx, e, copy_is _ (by have := h.2 _ (List.getElem_mem hx); omega)]; rfl
 ·rw [if_neg hx, if_pos (by omega), hl, List.getElem?_eq_none (by omega)]; rfl
theorem ev_ref06_Get_l0 (n : Int) (suf : List Nm) : ∀ (pre : List Nm), (pre ++ suf).length < 100000 → (∀ x ∈ suf, x.f1.f2.length ≤ 100000) →
  Ev (fun k => ref06_Get.l0 k (pre ++ suf) n (pre.length : Int)) (gotN (look kN suf n)) := by
 induction suf with
 | nil =>
  intro pre h hs; refine Ev.step (fun k => by rw [ref06_Get.l0]) ?_; simp only [end_ge, ↓reduceIte]; exact Ev.now _
 | cons x suf ih =>
  intro pre h hs; have e2 := ih (pre ++ [x]) (by rw [← List.append_cons]; exact h) (fun y hy => hs y (List.mem_cons_of_mem _ hy)); rw [← List.append_cons pre x suf] at e2; refine Ev.step (fun k => by rw [ref06_Get.l0]) ?_; have ho := ref_copy_is x.f1 (by have := hs x List.mem_cons_self; omega); rw [look_cons]
  by_cases hx : x.f0 = n
  ·have hk : kN x = n := hx; simp only [mid_lt, nat_ge, rdN, ho, Option.bind_some, hx, hk, ↓reduceIte]; exact Ev.now _
  ·have hk : ¬ kN x = n := hx; simp only [mid_lt, nat_ge, rdN, hx, hk, ↓reduceIte, mid_next pre x suf (by omega)]; exact e2
theorem ev_ref06_Get (l : List Nm) (n : Int) (h : Sm l) : Ev (fun k => ref06_Get.f k l n) (gotN (look kN l n)) := by
 have h1 := h.1; exact ev_ref06_Get_l0 n l [] (by simpa using (by omega : l.length < 100000)) (fun x hx => h.2 x hx)
def MayN (x : Nm) : Prop := 0 ≤ x.f0 ∧ x.f0 < 8 ∧ RightS x.f1
def RightN (l : List Nm) : Prop := Ris kN l ∧ ∀ x ∈ l, MayN x
/-- One endpoint, seen by the document's answer: may it be, behind what it is behind of? -/
theorem ev_ref06_Right_l0 (suf : List Nm) : ∀ (p : List Nm) (y : Nm), ((p ++ [y]) ++ suf).length < 100000 → (∀ x ∈ suf, x.f1.f2.length ≤ 100000) →
  ∃ r, Ev (fun k => ref06_Right.l0 k ((p ++ [y]) ++ suf) ((p ++ [y]).length : Int)) r ∧ (r = true ↔ Ris kN (y :: suf) ∧ ∀ x ∈ suf, MayN x) := by
 induction suf with
 | nil =>
  intro p y h hs; refine ⟨true, Ev.step (fun k => by rw [ref06_Right.l0]) ?_, by simp [ris_one]⟩; simp only [end_ge, ↓reduceIte]; exact Ev.now _
 | cons x suf ih =>
  intro p y h hs
  have rd1 : rd_T39 ((p ++ [y]) ++ x :: suf) ((p.length : Nat) : Int) = y := by rw [← List.append_cons]; exact rdN p y (x :: suf)
  by_cases h0 : x.f0 < 0
  ·refine ⟨false, Ev.step (fun k => by rw [ref06_Right.l0]) ?_, ?_⟩
   ·simp only [mid_lt, nat_ge, ↓reduceIte, rdN, h0]; exact Ev.now _
   ·simp only [Bool.false_eq_true, false_iff]; rintro ⟨_, h2⟩; have := (h2 x (by simp)).1
    omega
  ·by_cases h8 : x.f0 ≥ 8
   ·refine ⟨false, Ev.step (fun k => by rw [ref06_Right.l0]) ?_, ?_⟩
    ·simp only [mid_lt, nat_ge, ↓reduceIte, rdN, h0, h8]; exact Ev.now _
    ·simp only [Bool.false_eq_true, false_iff]; rintro ⟨_, h2⟩; have := (h2 x (by simp)).2.1
     omega
   ·by_cases hk : y.f0 ≥ x.f0
    ·refine ⟨false, Ev.step (fun k => by rw [ref06_Right.l0]) ?_, ?_⟩
     ·simp only [mid_lt, nat_ge, ↓reduceIte, rdN, h0, h8, pos_mid, mid_prev p y x suf (by omega), prev_ge, rd1, hk]; exact Ev.now _
     ·simp only [Bool.false_eq_true, false_iff, ris_cons2]; rintro ⟨⟨h1, _⟩, _⟩
      unfold kN at h1; omega
    ·obtain ⟨m, hm, hm2⟩ := ev_ref05_Right x.f1 (by have := hs x List.mem_cons_self; omega)
     cases m with
     | false =>
      refine ⟨false, Ev.step (fun k => by rw [ref06_Right.l0]) ?_, ?_⟩
      ·simp only [mid_lt, nat_ge, ↓reduceIte, rdN, h0, h8, pos_mid, mid_prev p y x suf (by omega), prev_ge, rd1, hk]; refine Ev.bind hm ?_; simp only [Bool.false_eq_true, ↓reduceIte]; exact Ev.now _
      ·simp only [Bool.false_eq_true, false_iff]; rintro ⟨_, h2⟩; have := hm2.2 (h2 x (by simp)).2.2
       simp at this
     | true =>
      obtain ⟨r, hr, hi⟩ := ih (p ++ [y]) x (by rw [← List.append_cons]; exact h) (fun z hz => hs z (List.mem_cons_of_mem _ hz)); refine ⟨r, Ev.step (fun k => by rw [ref06_Right.l0]) ?_, ?_⟩
      ·simp only [mid_lt, nat_ge, ↓reduceIte, rdN, h0, h8, pos_mid, mid_prev p y x suf (by omega), prev_ge, rd1, hk, mid_next (p ++ [y]) x suf (by omega)]; refine Ev.bind hm ?_; simp only [↓reduceIte]; rw [← List.append_cons (p ++ [y]) x suf] at hr; exact hr
      ·rw [hi, ris_cons2]; have hm3 := hm2.1 rfl
       constructor
       ·rintro ⟨h1, h2⟩; exact ⟨⟨by unfold kN; omega, h1⟩, all_cons ⟨by omega, by omega, hm3⟩ (fun z hz => h2 z hz)⟩
       ·rintro ⟨⟨_, h1⟩, h2⟩; exact ⟨h1, fun z hz => h2 z (by simp [hz])⟩
theorem ev_ref06_Right (l : List Nm) (h : Sm l) : ∃ r, Ev (fun k => ref06_Right.f k l) r ∧ (r = true ↔ RightN l) := by
 have hh := h.1
 unfold ref06_Right.f
 cases l with
 | nil =>
  refine ⟨true, Ev.step (fun k => by rw [ref06_Right.l0]) ?_, by simp [RightN, ris_nil]⟩; simp only [List.length_nil, Int.natCast_zero, Int.lt_irrefl, ↓reduceIte]; exact Ev.now _
 | cons x l =>
  have e0 : (0 : Int) < ((x :: l).length : Int) := len_pos x l; have r0 : rd_T39 (x :: l) 0 = x := rfl
  by_cases h0 : x.f0 < 0
  ·refine ⟨false, Ev.step (fun k => by rw [ref06_Right.l0]) ?_, ?_⟩
   ·simp only [e0, Int.le_refl, ↓reduceIte, r0, h0]; exact Ev.now _
   ·simp only [Bool.false_eq_true, false_iff]; rintro ⟨_, h2⟩; have := (h2 x (by simp)).1
    omega
  ·by_cases h8 : x.f0 ≥ 8
   ·refine ⟨false, Ev.step (fun k => by rw [ref06_Right.l0]) ?_, ?_⟩
    ·simp only [e0, Int.le_refl, ↓reduceIte, r0, h0, h8]; exact Ev.now _
    ·simp only [Bool.false_eq_true, false_iff]; rintro ⟨_, h2⟩; have := (h2 x (by simp)).2.1
     omega
   ·obtain ⟨m, hm, hm2⟩ := ev_ref05_Right x.f1 (by have := h.2 x List.mem_cons_self; omega)
    cases m with
    | false =>
     refine ⟨false, Ev.step (fun k => by rw [ref06_Right.l0]) ?_, ?_⟩
     ·simp only [e0, Int.le_refl, ↓reduceIte, r0, h0, h8, gt_iff_lt, Int.lt_irrefl]; refine Ev.bind hm ?_; simp only [Bool.false_eq_true, ↓reduceIte]; exact Ev.now _
     ·simp only [Bool.false_eq_true, false_iff]; rintro ⟨_, h2⟩; have := hm2.2 (h2 x (by simp)).2.2
      simp at this
    | true =>
     obtain ⟨r, hr, hi⟩ := ev_ref06_Right_l0 l [] x (by simp at hh ⊢; omega) (fun z hz => h.2 z (List.mem_cons_of_mem _ hz)); refine ⟨r, Ev.step (fun k => by rw [ref06_Right.l0]) ?_, ?_⟩
     ·simp only [e0, Int.le_refl, ↓reduceIte, r0, h0, h8, gt_iff_lt, Int.lt_irrefl, wrap01]; refine Ev.bind hm ?_; simp only [↓reduceIte]; exact hr
     ·rw [hi]; have hm3 := hm2.1 rfl
      constructor
      ·rintro ⟨h1, h2⟩; exact ⟨h1, all_cons ⟨by omega, by omega, hm3⟩ (fun z hz => h2 z hz)⟩
      ·rintro ⟨h1, h2⟩; exact ⟨h1, fun z hz => h2 z (by simp [hz])⟩
theorem lenS {s : St} (h : RightS s) : s.f2.length ≤ 12 := right_len h.2.2.2.2
theorem rightN_len {l : List Nm} (h : RightN l) : l.length ≤ 8 := ris_length 8 l 0 h.1 (fun x hx => by have := h.2 x hx; unfold MayN at this; unfold kN; omega)
theorem rightN_sm {l : List Nm} (h : RightN l) : Sm l := ⟨by have := rightN_len h; omega, fun x hx => by have := lenS (h.2 x hx).2.2; omega⟩
theorem ev_ref06_Same_l0 (sa : List Nm) : ∀ (sb pa pb : List Nm), pa.length = pb.length → sa.length = sb.length → (pa ++ sa).length < 100000 → (∀ x ∈ sa, x.f1.f2.length ≤ 100000) →
  ∃ r, Ev (fun k => ref06_Same.l0 k (pa ++ sa) (pb ++ sb) (pa.length : Int)) r ∧ (r = true ↔ sa = sb) := by
 induction sa with
 | nil =>
  intro sb pa pb hp hs h hq; have : sb = [] := List.eq_nil_of_length_eq_zero (by simpa using hs.symm); subst this; refine ⟨true, Ev.step (fun k => by rw [ref06_Same.l0]) ?_, by simp⟩; simp only [end_ge, ↓reduceIte]; exact Ev.now _
 | cons x sa ih =>
  intro sb pa pb hp hs h hq
  match sb, hs with
  | y :: sb, hs =>
   have r2 : rd_T39 (pb ++ y :: sb) (pa.length : Int) = y := by rw [hp]; exact rdN pb y sb
   have l2 : (pa.length : Int) < ((pb ++ y :: sb).length : Int) := by rw [hp]; exact mid_lt pb y sb
   by_cases h0 : x.f0 = y.f0
   ·obtain ⟨g, e, q⟩ := ev_ref05_Same x.f1 y.f1 (by have := hq x List.mem_cons_self; omega)
    cases g with
    | true =>
     have hxy : x = y := nm_ext h0 (q.1 rfl); subst hxy; obtain ⟨r, h1, h2⟩ := ih sb (pa ++ [x]) (pb ++ [x]) (by simp [hp]) (by simpa using hs) (by rw [← List.append_cons]; exact h) (fun z hz => hq z (List.mem_cons_of_mem _ hz)); refine ⟨r, Ev.step (fun k => by rw [ref06_Same.l0]) ?_, ?_⟩
     ·simp only [mid_lt, l2, nat_ge, ↓reduceIte, rdN, r2, mid_next pa x sa (by omega)]; refine Ev.bind e ?_; simp only [↓reduceIte]; rw [← List.append_cons pa x sa, ← List.append_cons pb x sb] at h1; exact h1
     ·rw [h2]; simp
    | false =>
     refine ⟨false, Ev.step (fun k => by rw [ref06_Same.l0]) ?_, ?_⟩
     ·simp only [mid_lt, l2, nat_ge, ↓reduceIte, rdN, r2, h0]; refine Ev.bind e ?_; simp only [Bool.false_eq_true, ↓reduceIte]; exact Ev.now _
     ·simp only [Bool.false_eq_true, false_iff, List.cons.injEq, not_and]; intro hxy; have := q.2 (by rw [hxy])
      simp at this
   ·refine ⟨false, Ev.step (fun k => by rw [ref06_Same.l0]) ?_, ?_⟩
    ·simp only [mid_lt, l2, nat_ge, ↓reduceIte, rdN, r2, h0]; exact Ev.now _
    ·simp only [Bool.false_eq_true, false_iff, List.cons.injEq, not_and]; intro hxy; exact absurd (by rw [hxy]) h0
theorem ev_ref06_Same (a b : List Nm) (h : Sm a) : ∃ r, Ev (fun k => ref06_Same.f k a b) r ∧ (r = true ↔ a = b) := by
 have hh := h.1
 unfold ref06_Same.f
 by_cases hl : (a.length : Int) = (b.length : Int)
 ·obtain ⟨r, h1, h2⟩ := ev_ref06_Same_l0 a b [] [] rfl (by omega) (by simpa using (by omega : a.length < 100000)) (fun x hx => h.2 x hx); refine ⟨r, ?_, h2⟩; simp only [hl, ↓reduceIte]; exact h1
 ·refine ⟨false, ?_, ?_⟩
  ·simp only [hl, ↓reduceIte]; exact Ev.now _
  ·simp only [Bool.false_eq_true, false_iff]; intro e; exact hl (by rw [e])
theorem ev_sameN_true {a b : List Nm} (h : Sm a) (e : a = b) : Ev (fun k => ref06_Same.f k a b) true := by
 obtain ⟨r, h1, h2⟩ := ev_ref06_Same a b h; rw [h2.2 e] at h1; exact h1
def outN (l : List Nm) (n : Int) : List Nm := l.filter (fun x => !(x.f0 == n))
theorem sm_out {l : List Nm} {n : Int} (h : Sm l) : Sm (outN l n) := ⟨Nat.le_trans (List.length_filter_le _ _) h.1, fun x hx => h.2 x (List.mem_filter.1 hx).1⟩
theorem ev_ref06_Without_l0 (n : Int) (suf : List Nm) : ∀ pre : List Nm, Sm (pre ++ suf) →
  Ev (fun k => ref06_Without.l0 k (pre ++ suf) n (outN pre n) (pre.length : Int)) (outN (pre ++ suf) n) := by
 induction suf with
 | nil =>
  intro pre h; have h1 := h.1; refine Ev.step (fun k => by rw [ref06_Without.l0]) ?_; simp only [end_ge, ↓reduceIte]; rw [List.append_nil]; exact Ev.bind (ev_ref06_Copy _ (sm_out (by simpa using h))) (Ev.now _)
 | cons x suf ih =>
  intro pre h; have h1 := h.1
  have hpl : pre.length ≤ 1000 := by rw [List.length_append] at h1; omega
  have e2 := ih (pre ++ [x]) (by rw [← List.append_cons]; exact h); rw [← List.append_cons pre x suf] at e2
  have hl : (outN pre n).length < 2932031007402 := by have := List.length_filter_le (fun x : Nm => !(x.f0 == n)) pre; unfold outN; omega
  refine Ev.step (fun k => by rw [ref06_Without.l0]) ?_
  by_cases hx : x.f0 = n
  ·have e3 : outN (pre ++ [x]) n = outN pre n := by simp [outN, hx]
   rw [e3] at e2; simp only [mid_lt, nat_ge, rdN, hx, ↓reduceIte, mid_next pre x suf (by omega)]; exact e2
  ·have e3 : outN (pre ++ [x]) n = outN pre n ++ [x] := by simp [outN, hx]
   rw [e3] at e2; simp only [mid_lt, nat_ge, rdN, hx, hl, ↓reduceIte, mid_next pre x suf (by omega)]; exact e2
theorem ev_ref06_Without (l : List Nm) (n : Int) (h : Sm l) : Ev (fun k => ref06_Without.f k l n) (outN l n) := ev_ref06_Without_l0 n l [] h
theorem joinE_comm {a b : List E} (ha : Ris kE a) (hb : Ris kE b) : joinE a b = joinE b a :=
 ris_ext (key := kE) (ris_joinE ha hb) (ris_joinE hb ha) (fun k => by rw [look_joinE ha hb, look_joinE hb ha]; exact sup_comm k)
theorem joinE_self {a : List E} (ha : Ris kE a) : joinE a a = a := ris_ext (key := kE) (ris_joinE ha ha) ha (fun k => by rw [look_joinE ha ha]; exact sup_self _)
theorem joinS_gt {a b : St} (h : b.f0 < a.f0) : joinS a b = a := by unfold joinS; rw [if_pos h]
theorem joinS_lt {a b : St} (h : a.f0 < b.f0) : joinS a b = b := by unfold joinS; rw [if_neg (by omega), if_pos h]
theorem joinS_eq {a b : St} (h : a.f0 = b.f0) : joinS a b = ⟨a.f0, mx a.f1 b.f1, joinE a.f2 b.f2⟩ := by unfold joinS; rw [if_neg (by omega), if_neg (by omega)]
theorem risS {s : St} (h : RightS s) : Ris kE s.f2 := h.2.2.2.2.1
theorem mx_comm (a b : Int) : mx a b = mx b a := by rw [mx_eq, mx_eq]; omega
theorem mx_self (a : Int) : mx a a = a := by rw [mx_eq]; omega
theorem joinS_comm {a b : St} (ha : RightS a) (hb : RightS b) : joinS a b = joinS b a := by
 rcases Int.lt_trichotomy a.f0 b.f0 with h | h | h
 ·rw [joinS_lt h, joinS_gt h]
 ·rw [joinS_eq h, joinS_eq h.symm]; exact st_ext h (mx_comm _ _) (joinE_comm (risS ha) (risS hb))
 ·rw [joinS_gt h, joinS_lt h]
theorem joinS_self {a : St} (ha : RightS a) : joinS a a = a := by
 rw [joinS_eq rfl]; exact st_ext rfl (mx_self _) (joinE_self (risS ha))
theorem right_joinS {a b : St} (ha : RightS a) (hb : RightS b) : RightS (joinS a b) := by
 unfold joinS
 split
 ·exact ha
 ·split
  ·exact hb
  ·exact ⟨ha.1, ha.2.1, Int.le_trans ha.2.2.1 (le_mx_l _ _), mx_le ha.2.2.2.1 hb.2.2.2.1, right_join ha.2.2.2.2 hb.2.2.2.2⟩
theorem overS_iff {a b : St} (ha : RightS a) (hb : RightS b) : OverS a b ↔ joinS a b = a := (join_over_s ha.2.2.2.2 hb.2.2.2.2).symm
def hiN (x y : Nm) : Nm := ⟨x.f0, joinS x.f1 y.f1⟩
def joinN : List Nm → List Nm → List Nm
 | [], b => b
 | x :: a, [] => x :: a
 | x :: a, y :: b => if x.f0 < y.f0 then x :: joinN a (y :: b) else if y.f0 < x.f0 then y :: joinN (x :: a) b else hiN x y :: joinN a b
termination_by a b => a.length + b.length
theorem joinN_nil (b : List Nm) : joinN [] b = b := by rw [joinN]
theorem joinN_nil_r (a : List Nm) : joinN a [] = a := by cases a <;> rw [joinN]
theorem joinN_cons (x : Nm) (a : List Nm) (y : Nm) (b : List Nm) : joinN (x :: a) (y :: b) = if x.f0 < y.f0 then x :: joinN a (y :: b) else if y.f0 < x.f0 then y :: joinN (x :: a) b else hiN x y :: joinN a b := by rw [joinN]
theorem ev_merge_end (a b acc : List Nm) (he : a = [] ∨ b = []) (h : acc.length + (a.length + b.length) < 100000) : Ev (fun k => view_merge.l0 k a b acc) (acc ++ joinN a b) := by
 have hj : joinN a b = a ++ b := by
  rcases he with rfl | rfl
  ·rw [joinN_nil]; rfl
  ·rw [joinN_nil_r, List.append_nil]
 have hc : api_Named_79.f [acc, a, b] = some (acc ++ joinN a b) := by
  unfold api_Named_79.f api_Named_79.tot
  rw [if_pos (by simp; omega), hj]
  simp
 have hs : Ev (fun k => view_merge.j1 k a b acc false) (acc ++ joinN a b) := by
  refine Ev.step (fun k => by rw [view_merge.j1]) ?_; simp only [Bool.false_eq_true, ↓reduceIte, hc, Option.bind_some]; exact Ev.now _
 refine Ev.step (fun k => by rw [view_merge.l0]) ?_
 rcases he with rfl | rfl
 ·simp only [nil_gt, ↓reduceIte]; exact hs
 ·by_cases ha : (a.length : Int) > 0
  ·simp only [ha, ↓reduceIte, nil_gt, decide_false]; exact hs
  ·simp only [ha, ↓reduceIte]; exact hs
theorem ev_merge_l0 : ∀ (n : Nat) (a b acc : List Nm), a.length + b.length ≤ n → acc.length + (a.length + b.length) < 100000 → (∀ x ∈ a, x.f1.f2.length ≤ 100000) → (∀ x ∈ b, x.f1.f2.length ≤ 100000) → Ev (fun k => view_merge.l0 k a b acc) (acc ++ joinN a b) := by
 intro n
 induction n with
 | zero =>
  intro a b acc hn h ha hb; exact ev_merge_end a b acc (.inl (List.eq_nil_of_length_eq_zero (by omega))) h
 | succ n ih =>
  intro a b acc hn h ha hb
  match a, b with
  | [], b => exact ev_merge_end [] b acc (.inl rfl) h
  | x :: a, [] => exact ev_merge_end (x :: a) [] acc (.inr rfl) h
  | x :: a, y :: b =>
   have hl : acc.length < 2932031007402 := by omega
   have rx : rd_T39 (x :: a) 0 = x := rfl; have ry : rd_T39 (y :: b) 0 = y := rfl; refine Ev.step (fun k => by rw [view_merge.l0]) ?_; simp only [len_gt, ↓reduceIte, decide_true]; refine Ev.step (fun k => by rw [view_merge.j1]) ?_; rw [joinN_cons]
   by_cases h1 : x.f0 < y.f0
   ·have e := ih a (y :: b) (acc ++ [x]) (by simp at hn ⊢; omega) (by simp at h ⊢; omega) (fun z hz => ha z (List.mem_cons_of_mem _ hz)) hb; simp only [len_pos, len_one, rx, ry, h1, hl, ↓reduceIte, List.drop_succ_cons, List.drop_zero]; exact Ev.cast e (by simp)
   ·by_cases h2 : y.f0 < x.f0
    ·have e := ih (x :: a) b (acc ++ [y]) (by simp at hn ⊢; omega) (by simp at h ⊢; omega) ha (fun z hz => hb z (List.mem_cons_of_mem _ hz)); have h3 : x.f0 > y.f0 := h2; simp only [len_pos, len_one, rx, ry, h1, h2, h3, hl, ↓reduceIte, List.drop_succ_cons, List.drop_zero]; exact Ev.cast e (by simp)
    ·have h3 : ¬ x.f0 > y.f0 := h2; have e := ih a b (acc ++ [hiN x y]) (by simp at hn ⊢; omega) (by simp at h ⊢; omega) (fun z hz => ha z (List.mem_cons_of_mem _ hz)) (fun z hz => hb z (List.mem_cons_of_mem _ hz)); simp only [len_pos, len_one, rx, ry, h1, h2, h3, hl, ↓reduceIte, List.drop_succ_cons, List.drop_zero]; refine Ev.bind (ev_state_Join x.f1 y.f1 (by have := ha x List.mem_cons_self; omega) (by have := hb y List.mem_cons_self; omega)) ?_; exact Ev.cast e (by simp)
theorem ev_merge (a b : List Nm) (h : a.length + b.length < 100000) (ha : ∀ x ∈ a, x.f1.f2.length ≤ 100000) (hb : ∀ x ∈ b, x.f1.f2.length ≤ 100000) : Ev (fun k => view_merge.f k a b) (joinN a b) := by
 have := ev_merge_l0 _ a b [] (Nat.le_refl _) (by simpa using h) ha hb; exact this
theorem ev_view_Join (a b : List Nm) (ha : Sm a) (hb : Sm b) : Ev (fun k => view_Join.f k a b) (joinN a b) := by
 unfold view_Join.f
 refine Ev.bind (ev_view_Copy a ha) (Ev.bind (ev_view_Copy b hb) ?_); exact Ev.bind (ev_merge a b (by have := ha.1; have := hb.1; omega) (fun x hx => ha.2 x hx) (fun x hx => hb.2 x hx)) (Ev.now _)
theorem key_joinN : ∀ (n : Nat) (a b : List Nm), a.length + b.length ≤ n → ∀ z ∈ joinN a b, (∃ x ∈ a, z.f0 = x.f0) ∨ (∃ y ∈ b, z.f0 = y.f0) := by
 intro n
 induction n with
 | zero =>
  intro a b hn z hz; have ha : a = [] := List.eq_nil_of_length_eq_zero (by omega); subst ha; rw [joinN_nil] at hz; exact .inr ⟨z, hz, rfl⟩
 | succ n ih =>
  intro a b hn z hz
  match a, b with
  | [], b => rw [joinN_nil] at hz; exact .inr ⟨z, hz, rfl⟩
  | x :: a, [] => rw [joinN_nil_r] at hz; exact .inl ⟨z, hz, rfl⟩
  | x :: a, y :: b =>
   rw [joinN_cons] at hz
   split at hz
   ·rcases List.mem_cons.1 hz with rfl | hz
    ·exact .inl ⟨z, by simp, rfl⟩
    ·rcases ih a (y :: b) (by simp at hn ⊢; omega) z hz with ⟨u, hu, e⟩ | h
     ·exact .inl ⟨u, by simp [hu], e⟩
     ·exact .inr h
   ·split at hz
    ·rcases List.mem_cons.1 hz with rfl | hz
     ·exact .inr ⟨z, by simp, rfl⟩
     ·rcases ih (x :: a) b (by simp at hn ⊢; omega) z hz with h | ⟨u, hu, e⟩
      ·exact .inl h
      ·exact .inr ⟨u, by simp [hu], e⟩
    ·rcases List.mem_cons.1 hz with rfl | hz
     ·exact .inl ⟨x, by simp, rfl⟩
     ·rcases ih a b (by simp at hn ⊢; omega) z hz with ⟨u, hu, e⟩ | ⟨u, hu, e⟩
      ·exact .inl ⟨u, by simp [hu], e⟩
      ·exact .inr ⟨u, by simp [hu], e⟩
theorem ris_joinN' : ∀ (n : Nat) (a b : List Nm), a.length + b.length ≤ n → Ris kN a → Ris kN b → Ris kN (joinN a b) := by
 intro n
 induction n with
 | zero =>
  intro a b hn ha hb; have h : a = [] := List.eq_nil_of_length_eq_zero (by omega); subst h; rw [joinN_nil]; exact hb
 | succ n ih =>
  intro a b hn ha hb
  match a, b with
  | [], b => rw [joinN_nil]; exact hb
  | x :: a, [] => rw [joinN_nil_r]; exact ha
  | x :: a, y :: b =>
   rw [joinN_cons]; have hx := ris_head ha; have hy := ris_head hb
   split
   ·rename_i h
    refine ris_cons.2 ⟨fun z hz => ?_, ih a (y :: b) (by simp at hn ⊢; omega) (ris_tail ha) hb⟩
    rcases key_joinN _ _ _ (Nat.le_refl _) z hz with ⟨u, hu, e⟩ | ⟨u, hu, e⟩
    ·have := hx u hu; unfold kN at *; omega
    ·rcases List.mem_cons.1 hu with rfl | hu
     ·unfold kN at *; omega
     ·have := hy u hu; unfold kN at *; omega
   ·split
    ·rename_i h
     refine ris_cons.2 ⟨fun z hz => ?_, ih (x :: a) b (by simp at hn ⊢; omega) ha (ris_tail hb)⟩
     rcases key_joinN _ _ _ (Nat.le_refl _) z hz with ⟨u, hu, e⟩ | ⟨u, hu, e⟩
     ·rcases List.mem_cons.1 hu with rfl | hu
      ·unfold kN at *; omega
      ·have := hx u hu; unfold kN at *; omega
     ·have := hy u hu; unfold kN at *; omega
    ·rename_i h1 h2
     refine ris_cons.2 ⟨fun z hz => ?_, ih a b (by simp at hn ⊢; omega) (ris_tail ha) (ris_tail hb)⟩
     show x.f0 < z.f0
     rcases key_joinN _ _ _ (Nat.le_refl _) z hz with ⟨u, hu, e⟩ | ⟨u, hu, e⟩
     ·have := hx u hu; unfold kN at this; omega
     ·have := hy u hu; unfold kN at this; omega
def supN : Option Nm → Option Nm → Option Nm
 | none, o => o
 | o, none => o
 | some x, some y => some (hiN x y)
theorem supN_none (o : Option Nm) : supN o none = o := by cases o <;> rfl
theorem none_supN (o : Option Nm) : supN none o = o := by cases o <;> rfl
theorem look_joinN' (k : Int) : ∀ (n : Nat) (a b : List Nm), a.length + b.length ≤ n → Ris kN a → Ris kN b → look kN (joinN a b) k = supN (look kN a k) (look kN b k) := by
 intro n
 induction n with
 | zero =>
  intro a b hn ha hb; have h : a = [] := List.eq_nil_of_length_eq_zero (by omega); subst h; rw [joinN_nil, look_nil, none_supN]
 | succ n ih =>
  intro a b hn ha hb
  match a, b with
  | [], b => rw [joinN_nil, look_nil, none_supN]
  | x :: a, [] => rw [joinN_nil_r, look_nil, supN_none]
  | x :: a, y :: b =>
   rw [joinN_cons]; have hx := ris_head ha; have hy := ris_head hb
   split
   ·rename_i h
    rw [look_cons, ih a (y :: b) (by simp at hn ⊢; omega) (ris_tail ha) hb, look_cons x a]
    by_cases hk : kN x = k
    ·rw [if_pos hk, if_pos hk, look_lt (fun z hz => ?_), supN_none]
     rcases List.mem_cons.1 hz with rfl | hz
     ·unfold kN at *; omega
     ·have := hy z hz; unfold kN at *; omega
    ·rw [if_neg hk, if_neg hk]
   ·split
    ·rename_i h
     rw [look_cons, ih (x :: a) b (by simp at hn ⊢; omega) ha (ris_tail hb), look_cons y b]
     by_cases hk : kN y = k
     ·rw [if_pos hk, if_pos hk, look_lt (l := x :: a) (fun z hz => ?_), none_supN]
      rcases List.mem_cons.1 hz with rfl | hz
      ·unfold kN at *; omega
      ·have := hx z hz; unfold kN at *; omega
     ·rw [if_neg hk, if_neg hk]
    ·rename_i h1 h2
     rw [look_cons, ih a b (by simp at hn ⊢; omega) (ris_tail ha) (ris_tail hb), look_cons x a, look_cons y b]; have e1 : kN (hiN x y) = kN x := rfl
     have e2 : kN y = kN x := by unfold kN; omega
     rw [e1, e2]
     by_cases hk : kN x = k
     ·rw [if_pos hk, if_pos hk, if_pos hk]; rfl
     ·rw [if_neg hk, if_neg hk, if_neg hk]
theorem look_joinN {a b : List Nm} (ha : Ris kN a) (hb : Ris kN b) (k : Int) : look kN (joinN a b) k = supN (look kN a k) (look kN b k) := look_joinN' k _ a b (Nat.le_refl _) ha hb
theorem ris_joinN {a b : List Nm} (ha : Ris kN a) (hb : Ris kN b) : Ris kN (joinN a b) := ris_joinN' _ a b (Nat.le_refl _) ha hb
/-- What is known of an endpoint in a view that may be. -/
def OkO (k : Int) (o : Option Nm) : Prop := ∀ x, o = some x → x.f0 = k ∧ MayN x
theorem ok_look {a : List Nm} (h : RightN a) (k : Int) : OkO k (look kN a k) := fun x hx => ⟨(look_mem hx).2, h.2 x (look_mem hx).1⟩
theorem ok_sup {k : Int} {p q : Option Nm} (hp : OkO k p) (hq : OkO k q) : OkO k (supN p q) := by
 intro z hz
 match p, q with
 | none, q => rw [none_supN] at hz; exact hq z hz
 | some x, none => rw [supN_none] at hz; exact hp z hz
 | some x, some y =>
  have e : hiN x y = z := Option.some.inj hz; subst e; have h1 := hp x rfl; have h2 := hq y rfl; exact ⟨h1.1, h1.2.1, h1.2.2.1, right_joinS h1.2.2.2 h2.2.2.2⟩
theorem right_joinN {a b : List Nm} (ha : RightN a) (hb : RightN b) : RightN (joinN a b) := by
 have hr := ris_joinN ha.1 hb.1; refine ⟨hr, fun z hz => ?_⟩; have h1 := look_of_mem hr hz; rw [look_joinN ha.1 hb.1] at h1; exact (ok_sup (ok_look ha _) (ok_look hb _) z h1).2
theorem supN_comm {k : Int} {p q : Option Nm} (hp : OkO k p) (hq : OkO k q) : supN p q = supN q p := by
 match p, q with
 | none, q => rw [none_supN, supN_none]
 | some x, none => rfl
 | some x, some y =>
  have h1 := hp x rfl; have h2 := hq y rfl
  show some (hiN x y) = some (hiN y x)
  exact congrArg some (nm_ext (show x.f0 = y.f0 by rw [h1.1, h2.1]) (joinS_comm h1.2.2.2 h2.2.2.2))
theorem joinN_comm {a b : List Nm} (ha : RightN a) (hb : RightN b) : joinN a b = joinN b a :=
 ris_ext (key := kN) (ris_joinN ha.1 hb.1) (ris_joinN hb.1 ha.1) (fun k => by rw [look_joinN ha.1 hb.1, look_joinN hb.1 ha.1]; exact supN_comm (ok_look ha k) (ok_look hb k))
theorem ev_ref06_Put_true (n : Int) (s : St) (suf : List Nm) : ∀ (pre out : List Nm), (pre ++ suf).length < 100000 → out.length + suf.length < 200000 →
  Ev (fun k => ref06_Put.l0 k n out true (pre ++ suf) (pre.length : Int) s.f0 s.f1 s.f2) (out ++ suf) := by
 induction suf with
 | nil =>
  intro pre out h ho; refine Ev.step (fun k => by rw [ref06_Put.l0]) ?_; simp only [end_ge, ↓reduceIte]; rw [List.append_nil]; exact Ev.now _
 | cons x suf ih =>
  intro pre out h ho; have e2 := ih (pre ++ [x]) (out ++ [x]) (by rw [← List.append_cons]; exact h) (by simp at ho ⊢; omega); rw [← List.append_cons pre x suf, ← List.append_cons out x suf] at e2
  have hl : out.length < 2932031007402 := by omega
  refine Ev.step (fun k => by rw [ref06_Put.l0]) ?_; simp only [mid_lt, nat_ge, rdN, hl, ↓reduceIte, mid_next pre x suf (by omega)]; exact e2
theorem ev_ref06_Put_false (n : Int) (s : St) (hs : s.f2.length ≤ 100000) (suf : List Nm) : ∀ (pre out : List Nm), (pre ++ suf).length < 100000 → out.length + suf.length < 100000 → (∀ x ∈ suf, x.f0 ≠ n) →
  Ev (fun k => ref06_Put.l0 k n out false (pre ++ suf) (pre.length : Int) s.f0 s.f1 s.f2) (out ++ joinN suf [⟨n, s⟩]) := by
 have hc := ref_copy_is s (by omega)
 induction suf with
 | nil =>
  intro pre out h ho hn
  have hl : out.length < 2932031007402 := by omega
  refine Ev.step (fun k => by rw [ref06_Put.l0]) ?_; simp only [end_ge, ↓reduceIte, Bool.false_eq_true, hc, Option.bind_some, hl]; rw [joinN_nil]; exact Ev.now _
 | cons x suf ih =>
  intro pre out h ho hn; have hne := hn x List.mem_cons_self
  have hl : out.length < 2932031007402 := by omega
  refine Ev.step (fun k => by rw [ref06_Put.l0]) ?_
  by_cases hx : x.f0 > n
  ·have hj : joinN (x :: suf) [(⟨n, s⟩ : Nm)] = ⟨n, s⟩ :: x :: suf := by rw [joinN_cons, if_neg (show ¬ x.f0 < n by omega), if_pos (show n < x.f0 from hx), joinN_nil_r]
   rw [hj]
   have hl2 : (out ++ [(⟨n, s⟩ : Nm)]).length < 2932031007402 := by rw [List.length_append, List.length_singleton]; omega
   have e2 := ev_ref06_Put_true n s suf (pre ++ [x]) (out ++ [⟨n, s⟩] ++ [x]) (by rw [← List.append_cons]; exact h) (by simp at ho ⊢; omega); rw [← List.append_cons pre x suf] at e2; simp only [mid_lt, nat_ge, rdN, hx, hc, Option.bind_some, hl, hl2, ↓reduceIte, Bool.false_eq_true, mid_next pre x suf (by omega)]; exact Ev.cast e2 (by simp)
  ·have hj : joinN (x :: suf) [(⟨n, s⟩ : Nm)] = x :: joinN suf [⟨n, s⟩] := by rw [joinN_cons, if_pos (show x.f0 < n by omega)]
   rw [hj]; have e2 := ih (pre ++ [x]) (out ++ [x]) (by rw [← List.append_cons]; exact h) (by simp at ho ⊢; omega) (fun z hz => hn z (List.mem_cons_of_mem _ hz)); rw [← List.append_cons pre x suf] at e2; simp only [mid_lt, nat_ge, rdN, hx, hl, ↓reduceIte, Bool.false_eq_true, mid_next pre x suf (by omega)]; exact Ev.cast e2 (by simp)
theorem ev_ref06_Put (l : List Nm) (n : Int) (s : St) (h : Sm l) (hs : s.f2.length ≤ 100000) : Ev (fun k => ref06_Put.f k l n s.f0 s.f1 s.f2) (joinN (outN l n) [⟨n, s⟩]) := by
 unfold ref06_Put.f
 have h1 := (sm_out (n := n) h).1; refine Ev.bind (ev_ref06_Without l n h) ?_; refine ev_ref06_Put_false n s hs (outN l n) [] [] (by simpa using (by omega : (outN l n).length < 100000)) (by simp; omega) (fun x hx => ?_); have := (List.mem_filter.1 hx).2
 simpa using this
theorem look_out (l : List Nm) (n k : Int) : look kN (outN l n) k = if k = n then none else look kN l k := by
 induction l with
 | nil => simp [outN, look_nil]
 | cons x l ih =>
  unfold outN at ih ⊢
  rw [List.filter_cons]
  by_cases hx : x.f0 = n
  ·rw [if_neg (by simp [hx]), ih, look_cons]
   by_cases hk : k = n
   ·rw [if_pos hk, if_pos hk]
   ·rw [if_neg hk, if_neg hk, if_neg (show ¬ kN x = k by unfold kN; omega)]
  ·rw [if_pos (by simp [hx]), look_cons, look_cons, ih]
   by_cases hxk : kN x = k
   ·rw [if_pos hxk, if_pos hxk, if_neg (show ¬ k = n by unfold kN at hxk; omega)]
   ·rw [if_neg hxk, if_neg hxk]
theorem right_out {l : List Nm} (h : RightN l) (n : Int) : RightN (outN l n) := ⟨ris_filter _ h.1, fun x hx => h.2 x (List.mem_filter.1 hx).1⟩
theorem right_one {n : Int} {s : St} (h0 : 0 ≤ n) (h8 : n < 8) (hs : RightS s) : RightN [⟨n, s⟩] := ⟨ris_one _, fun x hx => by rw [List.mem_singleton.1 hx]; exact ⟨h0, h8, hs⟩⟩
theorem look_one (n : Int) (s : St) (k : Int) : look kN [(⟨n, s⟩ : Nm)] k = if k = n then some ⟨n, s⟩ else none := by
 rw [look_cons, look_nil]
 by_cases h : k = n
 ·rw [if_pos h, if_pos (show kN (⟨n, s⟩ : Nm) = k from h.symm)]
 ·rw [if_neg h, if_neg (show ¬ kN (⟨n, s⟩ : Nm) = k from fun e => h e.symm)]
theorem look_putN {l : List Nm} (h : RightN l) (n : Int) (s : St) (k : Int) : look kN (joinN (outN l n) [⟨n, s⟩]) k = if k = n then some ⟨n, s⟩ else look kN l k := by
 rw [look_joinN (right_out h n).1 (ris_one _), look_out, look_one]
 by_cases hk : k = n
 ·rw [if_pos hk, if_pos hk, if_pos hk, none_supN]
 ·rw [if_neg hk, if_neg hk, if_neg hk, supN_none]
theorem right_putN {l : List Nm} (h : RightN l) {n : Int} {s : St} (h0 : 0 ≤ n) (h8 : n < 8) (hs : RightS s) : RightN (joinN (outN l n) [⟨n, s⟩]) := right_joinN (right_out h n) (right_one h0 h8 hs)
theorem ev_ref06_Join_l0 (suf : List Nm) : ∀ (pre out : List Nm), (pre ++ suf).length < 100000 → RightN out → RightN suf →
  Ev (fun k => ref06_Join.l0 k (pre ++ suf) out (pre.length : Int)) (joinN out suf) := by
 induction suf with
 | nil =>
  intro pre out h ho hs; refine Ev.step (fun k => by rw [ref06_Join.l0]) ?_; simp only [end_ge, ↓reduceIte]; rw [joinN_nil_r]; exact Ev.now _
 | cons x suf ih =>
  intro pre out h ho hs; have hx := hs.2 x List.mem_cons_self; have hst : RightN suf := ⟨ris_tail hs.1, fun z hz => hs.2 z (List.mem_cons_of_mem _ hz)⟩
  have key : ∀ s : St, RightS s → supN (look kN out x.f0) (some x) = some ⟨x.f0, s⟩ → joinN (joinN (outN out x.f0) [⟨x.f0, s⟩]) suf = joinN out (x :: suf) := by
   intro s hrs he; refine ris_ext (key := kN) (ris_joinN (right_putN ho hx.1 hx.2.1 hrs).1 hst.1) (ris_joinN ho.1 hs.1) (fun k => ?_); rw [look_joinN (right_putN ho hx.1 hx.2.1 hrs).1 hst.1, look_joinN ho.1 hs.1, look_putN ho, look_cons]
   by_cases hk : k = x.f0
   ·subst hk; have hno : look kN suf x.f0 = none := look_lt (ris_head hs.1); rw [if_pos rfl, if_pos (show kN x = x.f0 from rfl), hno, supN_none, he]
   ·rw [if_neg hk, if_neg (show ¬ kN x = k from fun e => hk e.symm)]
  refine Ev.step (fun k => by rw [ref06_Join.l0]) ?_; simp only [mid_lt, nat_ge, rdN, ↓reduceIte, mid_next pre x suf (by omega)]; refine Ev.bind (ev_ref06_Get out x.f0 (rightN_sm ho)) ?_
  cases hk : look kN out x.f0 with
  | none =>
   have e2 := ih (pre ++ [x]) (joinN (outN out x.f0) [⟨x.f0, x.f1⟩]) (by rw [← List.append_cons]; exact h) (right_putN ho hx.1 hx.2.1 hx.2.2) hst; rw [← List.append_cons pre x suf, key x.f1 hx.2.2 (by rw [hk, none_supN])] at e2; simp only [gotN, Bool.false_eq_true, ↓reduceIte]; exact Ev.bind (ev_ref06_Put out x.f0 x.f1 (rightN_sm ho) (by have := lenS hx.2.2; omega)) e2
  | some y =>
   have hy := ok_look ho _ y hk; have hj := right_joinS hy.2.2.2 hx.2.2; have e2 := ih (pre ++ [x]) (joinN (outN out x.f0) [⟨x.f0, joinS y.f1 x.f1⟩]) (by rw [← List.append_cons]; exact h) (right_putN ho hx.1 hx.2.1 hj) hst; rw [← List.append_cons pre x suf, key (joinS y.f1 x.f1) hj (by rw [hk]; exact congrArg some (nm_ext hy.1 rfl))] at e2; simp only [gotN, ↓reduceIte]; refine Ev.bind (ev_ref05_Join y.f1 x.f1 hy.2.2.2.2.2.2.2 hx.2.2.2.2.2.2) ?_; exact Ev.bind (ev_ref06_Put out x.f0 (joinS y.f1 x.f1) (rightN_sm ho) (by have := lenS hj; omega)) e2
theorem ev_ref06_Join (a b : List Nm) (ha : RightN a) (hb : RightN b) : Ev (fun k => ref06_Join.f k a b) (joinN a b) := by
 unfold ref06_Join.f
 have := rightN_len hb; exact Ev.bind (ev_ref06_Copy a (rightN_sm ha)) (ev_ref06_Join_l0 b [] a (by simpa using (by omega : b.length < 100000)) ha hb)
abbrev Dg := S60
theorem rdDg (pre : List Dg) (x : Dg) (suf : List Dg) : rd_T60 (pre ++ x :: suf) ((pre.length : Nat) : Int) = x := getD_mid _ pre x suf
def kD (x : Dg) : Int := x.f0
def OkD (x : Dg) : Prop := 0 ≤ x.f0 ∧ x.f0 < 8 ∧ 1 ≤ x.f1 ∧ x.f1 ≤ 1099511627776 ∧ 0 ≤ x.f2 ∧ x.f2 ≤ 1099511627776
def RightD (l : List Dg) : Prop := Ris kD l ∧ ∀ x ∈ l, OkD x
abbrev Dl := S53
theorem rdDl (pre : List Dl) (x : Dl) (suf : List Dl) : rd_T53 (pre ++ x :: suf) ((pre.length : Nat) : Int) = x := getD_mid _ pre x suf
def kL (x : Dl) : Int := x.f0
def upS (s : St) (v : Int) : St := ⟨s.f0, s.f1, s.f2.filter (fun x => !decide (x.f1 ≤ v))⟩
def oneD (v : List Nm) (a : Dg) : List Dl := match look kN v a.f0 with
 | none => []
 | some x => if x.f1.f0 < a.f1 then [] else if x.f1.f0 = a.f1 then [⟨a.f0, a.f2, upS x.f1 a.f2⟩] else [⟨a.f0, 0, x.f1⟩]
def pickD (v : List Nm) (l : List Dg) : List Dl := l.flatMap (oneD v)
theorem pick_cons (v : List Nm) (a : Dg) (l : List Dg) : pickD v (a :: l) = oneD v a ++ pickD v l := rfl
theorem got_none : gotN none = (0, 0, [], false) := rfl
theorem got_some (y : Nm) : gotN (some y) = (y.f1.f0, y.f1.f1, y.f1.f2, true) := rfl
theorem ev_delta_Pick_l0 (v : List Nm) (hv : Sm v) (suf : List Dg) : ∀ (pre : List Dg) (acc : List Dl), (pre ++ suf).length < 100000 → acc.length + suf.length < 200000 →
  Ev (fun k => delta_Pick.l0 k v acc (pre ++ suf) ((pre ++ suf).length : Int) (pre.length : Int)) (acc ++ pickD v suf) := by
 induction suf with
 | nil =>
  intro pre acc h ha; refine Ev.step (fun k => by rw [delta_Pick.l0]) ?_; simp only [end_ge, ↓reduceIte]
  show Ev _ (acc ++ [])
  rw [List.append_nil]; exact Ev.now _
 | cons x suf ih =>
  intro pre acc h ha
  have e2 : ∀ acc' : List Dl, acc'.length + suf.length < 200000 → Ev (fun k => delta_Pick.l0 k v acc' (pre ++ x :: suf) ((pre ++ x :: suf).length : Int) (((pre ++ [x]).length : Nat) : Int)) (acc' ++ pickD v suf) := fun acc' h' => by
   have e := ih (pre ++ [x]) acc' (by rw [← List.append_cons]; exact h) h'; rw [← List.append_cons pre x suf] at e; exact e
  rw [List.length_cons] at ha
  have hl : acc.length < 2513169434916 := by omega
  rw [pick_cons, ← List.append_assoc]; refine Ev.step (fun k => by rw [delta_Pick.l0]) ?_; have hg := view_Get_is v x.f0 hv; simp only [mid_lt, nat_ge, rdDg, ↓reduceIte, hg, Option.bind_some]
  unfold oneD
  cases hk : look kN v x.f0 with
  | none =>
   simp only [got_none, Bool.false_eq_true, ↓reduceIte, List.append_nil]; refine Ev.step (fun k => by rw [delta_Pick.j1]) ?_; simp only [↓reduceIte, mid_next pre x suf (by omega)]; exact e2 acc (by omega)
  | some y =>
   simp only [got_some, ↓reduceIte]
   show Ev (fun k => delta_Pick.j1 k v acc (pre ++ x :: suf) _ _ (decide (y.f1.f0 < x.f1)) x.f0 x.f1 x.f2 y.f1.f0 y.f1.f1 y.f1.f2) _
   refine Ev.step (fun k => by rw [delta_Pick.j1]) ?_
   by_cases h1 : y.f1.f0 < x.f1
   ·rw [if_pos h1, List.append_nil]; simp only [decide_eq_true h1, ↓reduceIte, mid_next pre x suf (by omega)]; exact e2 acc (by omega)
   ·rw [if_neg h1]; simp only [decide_eq_false h1, Bool.false_eq_true, ↓reduceIte]
    by_cases h2 : y.f1.f0 = x.f1
    ·have ho := above_s y.f1 x.f2 (by have := hv.2 y (look_mem hk).1; omega); simp only [if_pos h2, ho, Option.bind_some, hl, ↓reduceIte, mid_next pre x suf (by omega)]; exact e2 (acc ++ [⟨x.f0, x.f2, upS y.f1 x.f2⟩]) (by rw [List.length_append, List.length_singleton]; omega)
    ·simp only [if_neg h2, hl, ↓reduceIte, mid_next pre x suf (by omega)]; exact e2 (acc ++ [⟨x.f0, 0, y.f1⟩]) (by rw [List.length_append, List.length_singleton]; omega)
theorem ev_delta_Pick (v : List Nm) (l : List Dg) (hv : Sm v) (hl : l.length < 100000) : Ev (fun k => delta_Pick.f k v l) (pickD v l) :=
 ev_delta_Pick_l0 v hv l [] [] hl (by rw [List.length_nil]; omega)
def MayD (d : Dl) : Prop := 0 ≤ d.f0 ∧ d.f0 < 8 ∧ 0 ≤ d.f1 ∧ d.f1 ≤ 1099511627776 ∧ RightS d.f2 ∧ ∀ e ∈ d.f2.f2, d.f1 < e.f1
theorem one_mem {v : List Nm} (hv : RightN v) {a : Dg} (ha : OkD a) {d : Dl} (h : d ∈ oneD v a) : d.f0 = a.f0 ∧ MayD d := by
 obtain ⟨a0, a1, a2, a3, a4, a5⟩ := ha
 unfold oneD at h
 cases hk : look kN v a.f0 with
 | none => rw [hk] at h; simp at h
 | some x =>
  rw [hk] at h; have hx := (hv.2 x (look_mem hk).1).2.2; simp only at h
  by_cases h1 : x.f1.f0 < a.f1
  ·rw [if_pos h1] at h; simp at h
  ·rw [if_neg h1] at h
   by_cases h2 : x.f1.f0 = a.f1
   ·rw [if_pos h2] at h; rw [List.mem_singleton.1 h]; refine ⟨rfl, a0, a1, a4, a5, ⟨hx.1, hx.2.1, hx.2.2.1, hx.2.2.2.1, ris_filter _ hx.2.2.2.2.1, fun z hz => hx.2.2.2.2.2 z (List.mem_filter.1 hz).1⟩, fun e he => ?_⟩; have := (List.mem_filter.1 he).2
    simpa using this
   ·rw [if_neg h2] at h; rw [List.mem_singleton.1 h]; refine ⟨rfl, a0, a1, Int.le_refl _, (by decide : (0 : Int) ≤ 1099511627776), hx, fun e he => ?_⟩; have := hx.2.2.2.2.2 e he
    unfold MayE at this
    show (0 : Int) < e.f1
    omega
theorem one_len (v : List Nm) (a : Dg) : oneD v a = [] ∨ ∃ d, oneD v a = [d] := by
 unfold oneD
 cases look kN v a.f0 with
 | none => exact .inl rfl
 | some x =>
  simp only
  split
  ·exact .inl rfl
  ·split
   ·exact .inr ⟨_, rfl⟩
   ·exact .inr ⟨_, rfl⟩
theorem pick_right {v : List Nm} (hv : RightN v) : ∀ {l : List Dg}, RightD l → Ris kL (pickD v l) ∧ (∀ d ∈ pickD v l, MayD d) ∧ (∀ d ∈ pickD v l, ∃ a ∈ l, d.f0 = a.f0) ∧ (pickD v l).length ≤ l.length
 | [], _ => ⟨ris_nil, fun d hd => by simp [pickD] at hd, fun d hd => by simp [pickD] at hd, Nat.le_refl _⟩
 | a :: l, h => by
  obtain ⟨i0, i1, i2, i3⟩ := pick_right hv (l := l) ⟨ris_tail h.1, fun x hx => h.2 x (List.mem_cons_of_mem _ hx)⟩; rw [pick_cons]
  rcases one_len v a with ho | ⟨d, ho⟩
  ·rw [ho, List.nil_append]; exact ⟨i0, i1, fun d hd => by obtain ⟨b, hb, e⟩ := i2 d hd; exact ⟨b, List.mem_cons_of_mem _ hb, e⟩, by rw [List.length_cons]; omega⟩
  ·have hd := one_mem hv (h.2 a List.mem_cons_self) (d := d) (by rw [ho]; exact List.mem_singleton.2 rfl); rw [ho, List.singleton_append]; refine ⟨ris_cons.2 ⟨fun y hy => ?_, i0⟩, fun y hy => ?_, fun y hy => ?_, by rw [List.length_cons, List.length_cons]; omega⟩
   ·obtain ⟨b, hb, e⟩ := i2 y hy; have := ris_head h.1 b hb
    unfold kD at this
    unfold kL
    rw [hd.1, e]; exact this
   ·rcases List.mem_cons.1 hy with rfl | hy
    ·exact hd.2
    ·exact i1 y hy
   ·rcases List.mem_cons.1 hy with rfl | hy
    ·exact ⟨a, List.mem_cons_self, hd.1⟩
    ·obtain ⟨b, hb, e⟩ := i2 y hy; exact ⟨b, List.mem_cons_of_mem _ hb, e⟩
theorem alive08 : Ev (fun k => law08_alive.f k) true := Ev.of (fun k => law08_alive.mono k) (k := 60) (by decide +kernel)
def fitO (o : Option Nm) (d : Dl) : Bool := decide (d.f1 = 0) || (match o with
 | none => false
 | some x => decide (x.f1.f0 = d.f2.f0) && decide (d.f1 ≤ TopS x.f1))
def fitD (v : List Nm) (d : Dl) : Bool := fitO (look kN v d.f0) d
def stepD (v : List Nm) (d : Dl) : List Nm := if fitD v d then joinN v [⟨d.f0, d.f2⟩] else v
def applyD (v : List Nm) (l : List Dl) : List Nm := l.foldl stepD v
def nodesD : List Nm → List Dl → List Int
 | _, [] => []
 | v, d :: l => (if fitD v d then [d.f0] else []) ++ nodesD (stepD v d) l
def gotD (o : Option Nm) (d : Dl) : Option Nm := if fitO o d then supN o (some ⟨d.f0, d.f2⟩) else o
theorem may_one {d : Dl} (h : MayD d) : RightN [⟨d.f0, d.f2⟩] := right_one h.1 h.2.1 h.2.2.2.2.1
theorem look_step {v : List Nm} (hv : RightN v) {d : Dl} (hd : MayD d) (k : Int) : look kN (stepD v d) k = if k = d.f0 then gotD (look kN v k) d else look kN v k := by
 unfold stepD gotD fitD
 by_cases hk : k = d.f0
 ·subst hk; rw [if_pos rfl]
  by_cases hf : fitO (look kN v d.f0) d = true
  ·rw [if_pos hf, if_pos hf, look_joinN hv.1 (may_one hd).1, look_one, if_pos rfl]
  ·rw [if_neg hf, if_neg hf]
 ·rw [if_neg hk]
  split
  ·rw [look_joinN hv.1 (may_one hd).1, look_one, if_neg hk, supN_none]
  ·rfl
theorem right_step {v : List Nm} (hv : RightN v) {d : Dl} (hd : MayD d) : RightN (stepD v d) := by
 unfold stepD
 split
 ·exact right_joinN hv (may_one hd)
 ·exact hv
theorem right_apply : ∀ (l : List Dl) (v : List Nm), RightN v → (∀ d ∈ l, MayD d) → RightN (applyD v l)
 | [], v, hv, _ => hv
 | d :: l, v, hv, h => right_apply l (stepD v d) (right_step hv (h d List.mem_cons_self)) (fun x hx => h x (List.mem_cons_of_mem _ hx))
theorem look_apply : ∀ (l : List Dl) (v : List Nm), RightN v → Ris kL l → (∀ d ∈ l, MayD d) → ∀ k, look kN (applyD v l) k = match look kL l k with
  | none => look kN v k
  | some d => gotD (look kN v k) d
 | [], v, _, _, _, k => rfl
 | d :: l, v, hv, hr, h, k => by
  have hd := h d List.mem_cons_self; have ih := look_apply l (stepD v d) (right_step hv hd) (ris_tail hr) (fun x hx => h x (List.mem_cons_of_mem _ hx)) k; have e : applyD v (d :: l) = applyD (stepD v d) l := rfl; rw [e, ih, look_cons, look_step hv hd]
  by_cases hk : k = d.f0
  ·subst hk; have hno : look kL l d.f0 = none := look_lt (ris_head hr); rw [if_pos (show kL d = d.f0 from rfl), hno, if_pos rfl]
  ·rw [if_neg (show ¬ kL d = k from fun e => hk e.symm), if_neg hk]
theorem ev_delta_Fits (v : List Nm) (d : Dl) (hv : RightN v) : Ev (fun k => delta_Fits.f k v d.f0 d.f1 d.f2.f0 d.f2.f1 d.f2.f2) (fitD v d) := by
 unfold delta_Fits.f fitD fitO
 by_cases h0 : d.f1 = 0
 ·simp only [if_pos h0, decide_eq_true h0, Bool.true_or]; exact Ev.now _
 ·simp only [if_neg h0, decide_eq_false h0, Bool.false_or, view_Get_is v d.f0 (rightN_sm hv), Option.bind_some]
  cases hk : look kN v d.f0 with
  | none => simp only [got_none, Bool.false_eq_true, ↓reduceIte]; exact Ev.now _
  | some x =>
   have hx := ok_look hv d.f0 x hk; simp only [got_some, ↓reduceIte]
   by_cases h1 : x.f1.f0 = d.f2.f0
   ·simp only [eq_true h1, decide_true, Bool.true_and, ↓reduceIte]; exact Ev.bind (ev_state_Top x.f1 (by have := lenS hx.2.2.2; omega)) (Ev.now _)
   ·simp only [eq_false h1, decide_false, Bool.false_and, ↓reduceIte]; exact Ev.now _
theorem ev_delta_Apply_l0 (suf : List Dl) : ∀ (pre : List Dl) (v : List Nm) (acc : List Int), (pre ++ suf).length < 100000 → acc.length + suf.length < 200000 → RightN v → (∀ d ∈ suf, MayD d) →
  Ev (fun k => delta_Apply.l0 k v acc (pre ++ suf) ((pre ++ suf).length : Int) (pre.length : Int)) (applyD v suf, acc ++ nodesD v suf) := by
 induction suf with
 | nil =>
  intro pre v acc h ha hv hs; refine Ev.step (fun k => by rw [delta_Apply.l0]) ?_; simp only [end_ge, ↓reduceIte]
  show Ev _ (v, acc ++ [])
  rw [List.append_nil]; exact Ev.now _
 | cons x suf ih =>
  intro pre v acc h ha hv hs; rw [List.length_cons] at ha; have hx := hs x List.mem_cons_self
  have hst : ∀ d ∈ suf, MayD d := fun d hd => hs d (List.mem_cons_of_mem _ hd)
  have hl : acc.length < 17592186044416 := by omega
  refine Ev.step (fun k => by rw [delta_Apply.l0]) ?_; simp only [mid_lt, nat_ge, rdDl, ↓reduceIte, mid_next pre x suf (by omega)]; refine Ev.bind (ev_delta_Fits v x hv) ?_
  show Ev _ (applyD (stepD v x) suf, acc ++ ((if fitD v x then [x.f0] else []) ++ nodesD (stepD v x) suf))
  by_cases hf : fitD v x = true
  ·have e2 := ih (pre ++ [x]) (stepD v x) (acc ++ [x.f0]) (by rw [← List.append_cons]; exact h) (by rw [List.length_append, List.length_singleton]; omega) (right_step hv hx) hst; rw [← List.append_cons pre x suf, List.append_assoc] at e2
   have es : stepD v x = joinN v [⟨x.f0, x.f2⟩] := by unfold stepD; rw [if_pos hf]
   rw [if_pos hf]; simp only [hf, ↓reduceIte]; refine Ev.bind (ev_view_Join v [⟨x.f0, x.f2⟩] (rightN_sm hv) (rightN_sm (may_one hx))) ?_; rw [← es]; simp only [hl, ↓reduceIte]; exact e2
  ·have es : stepD v x = v := by unfold stepD; rw [if_neg hf]
   have e2 := ih (pre ++ [x]) v acc (by rw [← List.append_cons]; exact h) (by omega) hv hst; rw [← List.append_cons pre x suf] at e2; rw [if_neg hf, es, List.nil_append]; simp only [hf, ↓reduceIte, Bool.false_eq_true]; exact e2
theorem ev_delta_Apply {v : List Nm} {l : List Dl} (hv : RightN v) (hl : l.length < 100000) (hs : ∀ d ∈ l, MayD d) : Ev (fun k => delta_Apply.f k v l) (applyD v l, nodesD v l) := by
 unfold delta_Apply.f
 exact Ev.bind (ev_view_Copy v (rightN_sm hv)) (ev_delta_Apply_l0 l [] v [] hl (by rw [List.length_nil]; omega) hv hs)
def ofD (v : List Nm) : List Dg := v.map (fun x => ⟨x.f0, x.f1.f0, TopS x.f1⟩)
theorem ev_ref07_Of_l0 (suf : List Nm) : ∀ (pre : List Nm) (acc : List Dg), (pre ++ suf).length < 100000 → acc.length + suf.length < 200000 → (∀ x ∈ suf, x.f1.f2.length ≤ 100000) →
  Ev (fun k => ref07_Of.l0 k (pre ++ suf) acc (pre.length : Int)) (acc ++ ofD suf) := by
 induction suf with
 | nil =>
  intro pre acc h ha hs; refine Ev.step (fun k => by rw [ref07_Of.l0]) ?_; simp only [end_ge, ↓reduceIte]
  show Ev _ (acc ++ [])
  rw [List.append_nil]; exact Ev.now _
 | cons x suf ih =>
  intro pre acc h ha hs; rw [List.length_cons] at ha; have e2 := ih (pre ++ [x]) (acc ++ [⟨x.f0, x.f1.f0, TopS x.f1⟩]) (by rw [← List.append_cons]; exact h) (by rw [List.length_append, List.length_singleton]; omega) (fun y hy => hs y (List.mem_cons_of_mem _ hy)); rw [← List.append_cons pre x suf, List.append_assoc] at e2
  have hl : acc.length < 5864062014805 := by omega
  refine Ev.step (fun k => by rw [ref07_Of.l0]) ?_; simp only [mid_lt, nat_ge, rdN, ↓reduceIte, mid_next pre x suf (by omega)]; refine Ev.bind (ev_ref05_Top x.f1 (by have := hs x List.mem_cons_self; omega)) ?_; simp only [hl, ↓reduceIte]; exact e2
theorem ev_ref07_Of (v : List Nm) (h : Sm v) : Ev (fun k => ref07_Of.f k v) (ofD v) := by
 have h1 := h.1; exact ev_ref07_Of_l0 v [] [] (by simpa using (by omega : v.length < 100000)) (by rw [List.length_nil]; omega) h.2
def gotG (o : Option Dg) : Int × Int × Int × Bool := match o with
 | none => (0, 0, 0, false)
 | some d => (d.f0, d.f1, d.f2, true)
theorem ev_ref07_find_l0 (n : Int) (suf : List Dg) : ∀ (pre : List Dg), (pre ++ suf).length < 100000 → Ev (fun k => ref07_find.l0 k (pre ++ suf) n (pre.length : Int)) (gotG (look kD suf n)) := by
 induction suf with
 | nil =>
  intro pre h; refine Ev.step (fun k => by rw [ref07_find.l0]) ?_; simp only [end_ge, ↓reduceIte]; exact Ev.now _
 | cons x suf ih =>
  intro pre h; have e2 := ih (pre ++ [x]) (by rw [← List.append_cons]; exact h); rw [← List.append_cons pre x suf] at e2; refine Ev.step (fun k => by rw [ref07_find.l0]) ?_; rw [look_cons]
  by_cases hx : x.f0 = n
  ·rw [if_pos (show kD x = n from hx)]; simp only [mid_lt, nat_ge, rdDg, ↓reduceIte, eq_true hx]; exact Ev.now _
  ·rw [if_neg (show ¬ kD x = n from hx)]; simp only [mid_lt, nat_ge, rdDg, ↓reduceIte, hx, mid_next pre x suf (by omega)]; exact e2
theorem ev_ref07_find (l : List Dg) (n : Int) (h : l.length < 100000) : Ev (fun k => ref07_find.f k l n) (gotG (look kD l n)) := ev_ref07_find_l0 n l [] h
theorem look_ofD (w : List Nm) (n : Int) : look kD (ofD w) n = (look kN w n).map (fun x => (⟨x.f0, x.f1.f0, TopS x.f1⟩ : Dg)) := by
 induction w with
 | nil => rfl
 | cons x w ih =>
  have e : ofD (x :: w) = ⟨x.f0, x.f1.f0, TopS x.f1⟩ :: ofD w := rfl; rw [e, look_cons, look_cons, ih]
  by_cases hk : x.f0 = n
  ·rw [if_pos (show kD ⟨x.f0, x.f1.f0, TopS x.f1⟩ = n from hk), if_pos (show kN x = n from hk)]; rfl
  ·rw [if_neg (show ¬ kD ⟨x.f0, x.f1.f0, TopS x.f1⟩ = n from hk), if_neg (show ¬ kN x = n from hk)]
def wantD (n : Int) : Option Nm → Option Nm → List Dg
 | _, none => []
 | none, some y => [⟨n, y.f1.f0, 0⟩]
 | some x, some y => if y.f1.f0 > x.f1.f0 then [⟨n, y.f1.f0, 0⟩] else if x.f1.f0 > y.f1.f0 then [] else if TopS y.f1 > TopS x.f1 then [⟨n, y.f1.f0, TopS x.f1⟩] else []
theorem want_ss (n : Int) (x y : Nm) : wantD n (some x) (some y) = if y.f1.f0 > x.f1.f0 then [⟨n, y.f1.f0, 0⟩] else if x.f1.f0 > y.f1.f0 then [] else if TopS y.f1 > TopS x.f1 then [⟨n, y.f1.f0, TopS x.f1⟩] else [] := rfl
def wantsF (v w : List Nm) : Nat → Int → List Dg
 | 0, _ => []
 | m + 1, i => wantD i (look kN v i) (look kN w i) ++ wantsF v w m (i + 1)
theorem want_len (n : Int) (x y : Option Nm) : (wantD n x y).length ≤ 1 := by
 match x, y with
 | _, none => exact Nat.zero_le _
 | none, some y => exact Nat.le_refl _
 | some x, some y =>
  rw [want_ss]
  split
  ·exact Nat.le_refl _
  ·split
   ·exact Nat.zero_le _
   ·split
    ·exact Nat.le_refl _
    ·exact Nat.zero_le _
theorem ev_compare_l0 (v w : List Nm) (hv : RightN v) (hw : RightN w) : ∀ (m : Nat) (i : Nat) (acc bcc : List Dg), i + m = 8 → acc.length + m < 100 → bcc.length + m < 100 →
  Ev (fun k => ref07_Compare.l0 k v (ofD w) acc bcc (i : Int)) (acc ++ wantsF v w m (i : Int), bcc ++ wantsF w v m (i : Int)) := by
 intro m
 induction m with
 | zero =>
  intro i acc bcc hi ha hb; refine Ev.step (fun k => by rw [ref07_Compare.l0]) ?_
  have h8 : ¬ ((i : Int) < 8) := by omega
  simp only [h8, ↓reduceIte]
  show Ev _ (acc ++ [], bcc ++ [])
  rw [List.append_nil, List.append_nil]; exact Ev.now _
 | succ m ih =>
  intro i acc bcc hi ha hb
  have h8 : (i : Int) < 8 := by omega
  have hn : wrap64 ((i : Int) + 1) = ((i + 1 : Nat) : Int) := by rw [wrap_id _ (by omega) (by omega)]; omega
  have hc : ((i + 1 : Nat) : Int) = (i : Int) + 1 := by omega
  have lo := rightN_len hw
  have ol : (ofD w).length < 100000 := by unfold ofD; rw [List.length_map]; omega
  have step : ∀ (W G : List Dg), W.length ≤ 1 → G.length ≤ 1 → Ev (fun k => ref07_Compare.l0 k v (ofD w) (acc ++ W) (bcc ++ G) ((i + 1 : Nat) : Int)) (acc ++ (W ++ wantsF v w m ((i : Int) + 1)), bcc ++ (G ++ wantsF w v m ((i : Int) + 1))) := by
   intro W G h1 h2; have e := ih (i + 1) (acc ++ W) (bcc ++ G) (by omega) (by rw [List.length_append]; omega) (by rw [List.length_append]; omega); rw [List.append_assoc, List.append_assoc, hc] at e; rw [hc]; exact e
  have step0 := step [] [] (Nat.zero_le _) (Nat.zero_le _); rw [List.append_nil, List.append_nil] at step0
  have la : acc.length < 5864062014805 := by omega
  have lb : bcc.length < 5864062014805 := by omega
  refine Ev.step (fun k => by rw [ref07_Compare.l0]) ?_; simp only [h8, ↓reduceIte]; refine Ev.bind (ev_ref06_Get v (i : Int) (rightN_sm hv)) (Ev.bind (ev_ref07_find (ofD w) (i : Int) ol) ?_); rw [look_ofD]
  show Ev _ (acc ++ (wantD (i : Int) (look kN v (i : Int)) (look kN w (i : Int)) ++ wantsF v w m ((i : Int) + 1)), bcc ++ (wantD (i : Int) (look kN w (i : Int)) (look kN v (i : Int)) ++ wantsF w v m ((i : Int) + 1)))
  cases hx : look kN v (i : Int) with
  | none =>
   have et := ev_ref05_Top (⟨0, 0, []⟩ : St) (by simp); refine Ev.bind et ?_
   cases hy : look kN w (i : Int) with
   | none =>
    simp only [got_none, gotG, Option.map_none, Bool.false_eq_true, ↓reduceIte, Bool.not_false]; refine Ev.step (fun k => by rw [ref07_Compare.j1]) ?_; simp only [↓reduceIte, hn]; exact step0
   | some y =>
    simp only [got_none, gotG, Option.map_some, Bool.false_eq_true, ↓reduceIte, Bool.not_true]; refine Ev.step (fun k => by rw [ref07_Compare.j1]) ?_; simp only [Bool.false_eq_true, ↓reduceIte]; refine Ev.step (fun k => by rw [ref07_Compare.j2]) ?_; simp only [↓reduceIte, la, hn]; have e := step [⟨(i : Int), y.f1.f0, 0⟩] [] (Nat.le_refl _) (Nat.zero_le _); rw [List.append_nil] at e; exact e
  | some x =>
   have hxx := ok_look hv _ x hx; refine Ev.bind (ev_ref05_Top x.f1 (by have := lenS hxx.2.2.2; omega)) ?_
   cases hy : look kN w (i : Int) with
   | none =>
    simp only [got_some, gotG, Option.map_none, ↓reduceIte]; refine Ev.step (fun k => by rw [ref07_Compare.j1]) ?_; simp only [Bool.false_eq_true, ↓reduceIte]; refine Ev.step (fun k => by rw [ref07_Compare.j2]) ?_; simp only [Bool.false_eq_true, ↓reduceIte]; refine Ev.step (fun k => by rw [ref07_Compare.j3]) ?_; simp only [↓reduceIte, lb, hn]; have e := step [] [⟨(i : Int), x.f1.f0, 0⟩] (Nat.zero_le _) (Nat.le_refl _); rw [List.append_nil] at e; exact e
   | some y =>
    simp only [got_some, gotG, Option.map_some, ↓reduceIte]; refine Ev.step (fun k => by rw [ref07_Compare.j1]) ?_; simp only [Bool.false_eq_true, ↓reduceIte]; refine Ev.step (fun k => by rw [ref07_Compare.j2]) ?_; rw [want_ss, want_ss]
    by_cases h1 : y.f1.f0 > x.f1.f0
    ·have h2 : ¬ x.f1.f0 > y.f1.f0 := by omega
     simp only [decide_eq_true h1, h1, h2, ↓reduceIte, la, hn]; have e := step [⟨(i : Int), y.f1.f0, 0⟩] [] (Nat.le_refl _) (Nat.zero_le _); rw [List.append_nil] at e; exact e
    ·simp only [decide_eq_false h1, Bool.false_eq_true, ↓reduceIte]; refine Ev.step (fun k => by rw [ref07_Compare.j3]) ?_
     by_cases h2 : x.f1.f0 > y.f1.f0
     ·simp only [decide_eq_true h2, h1, h2, ↓reduceIte, lb, hn]; have e := step [] [⟨(i : Int), x.f1.f0, 0⟩] (Nat.zero_le _) (Nat.le_refl _); rw [List.append_nil] at e; exact e
     ·have hg : x.f1.f0 = y.f1.f0 := by omega
      by_cases h3 : TopS y.f1 > TopS x.f1
      ·have h4 : ¬ TopS x.f1 > TopS y.f1 := by omega
       simp only [decide_eq_false h2, Bool.false_eq_true, h1, h2, h3, h4, ↓reduceIte, la, hn]; have e := step [⟨(i : Int), x.f1.f0, TopS x.f1⟩] [] (Nat.le_refl _) (Nat.zero_le _); rw [List.append_nil] at e; rw [← hg]; exact e
      ·by_cases h4 : TopS x.f1 > TopS y.f1
       ·simp only [decide_eq_false h2, Bool.false_eq_true, h1, h2, h3, h4, ↓reduceIte, lb, hn]; have e := step [] [⟨(i : Int), x.f1.f0, TopS y.f1⟩] (Nat.zero_le _) (Nat.le_refl _); rw [List.append_nil] at e; exact e
       ·simp only [decide_eq_false h2, Bool.false_eq_true, h1, h2, h3, h4, ↓reduceIte, hn]; exact step0
theorem ev_ref07_Compare (v w : List Nm) (hv : RightN v) (hw : RightN w) : Ev (fun k => ref07_Compare.f k v (ofD w)) (wantsF v w 8 0, wantsF w v 8 0) := by
 have e := ev_compare_l0 v w hv hw 8 0 [] [] rfl (by decide) (by decide); exact e
theorem want_mem {v w : List Nm} (hv : RightN v) (hw : RightN w) {n : Int} (h0 : 0 ≤ n) (h8 : n < 8) {d : Dg} (h : d ∈ wantD n (look kN v n) (look kN w n)) : d.f0 = n ∧ OkD d := by
 cases hy : look kN w n with
 | none => rw [hy] at h; cases look kN v n <;> simp [wantD] at h
 | some y =>
  have hyy := (ok_look hw n y hy).2.2.2; rw [hy] at h; have g1 := hyy.1; have g2 := hyy.2.1
  cases hx : look kN v n with
  | none =>
   rw [hx] at h; rw [List.mem_singleton.1 h]; exact ⟨rfl, h0, h8, g1, g2, Int.le_refl _, (by decide : (0 : Int) ≤ 1099511627776)⟩
  | some x =>
   have hxx := (ok_look hv n x hx).2.2.2; have t0 := topS_nonneg x.f1; have t1 := topS_le hxx; rw [hx] at h; rw [want_ss] at h
   split at h
   ·rw [List.mem_singleton.1 h]; exact ⟨rfl, h0, h8, g1, g2, Int.le_refl _, (by decide : (0 : Int) ≤ 1099511627776)⟩
   ·split at h
    ·simp at h
    ·split at h
     ·rw [List.mem_singleton.1 h]; exact ⟨rfl, h0, h8, g1, g2, t0, t1⟩
     ·simp at h
theorem wants_mem {v w : List Nm} (hv : RightN v) (hw : RightN w) : ∀ (m : Nat) (i : Int), 0 ≤ i → i + m ≤ 8 → ∀ d ∈ wantsF v w m i, i ≤ d.f0 ∧ d.f0 < 8 ∧ OkD d
 | 0, i, _, _, d, h => by simp [wantsF] at h
 | m + 1, i, h0, h8, d, h => by
  rw [wantsF] at h
  rcases List.mem_append.1 h with h | h
  ·have := want_mem hv hw h0 (by omega) h; exact ⟨by omega, by omega, this.2⟩
  ·have := wants_mem hv hw m (i + 1) (by omega) (by omega) d h; exact ⟨by omega, this.2⟩
theorem wants_ris {v w : List Nm} (hv : RightN v) (hw : RightN w) : ∀ (m : Nat) (i : Int), 0 ≤ i → i + m ≤ 8 → Ris kD (wantsF v w m i)
 | 0, i, _, _ => ris_nil
 | m + 1, i, h0, h8 => by
  have ih := wants_ris hv hw m (i + 1) (by omega) (by omega); rw [wantsF]; have hl := want_len i (look kN v i) (look kN w i)
  have hm : ∀ d ∈ wantD i (look kN v i) (look kN w i), d.f0 = i := fun d hd => (want_mem hv hw h0 (by omega) hd).1
  match hW : wantD i (look kN v i) (look kN w i), hl, hm with
  | [], _, _ => exact ih
  | [a], _, hm =>
   refine ris_cons.2 ⟨fun d hd => ?_, ih⟩; have h1 := wants_mem hv hw m (i + 1) (by omega) (by omega) d hd; have h2 := hm a (List.mem_singleton.2 rfl)
   show a.f0 < d.f0
   omega
  | a :: b :: l, hl, _ => simp at hl
theorem wants_right {v w : List Nm} (hv : RightN v) (hw : RightN w) : RightD (wantsF v w 8 0) :=
 ⟨wants_ris hv hw 8 0 (Int.le_refl _) (by decide), fun d hd => (wants_mem hv hw 8 0 (Int.le_refl _) (by decide) d hd).2.2⟩
theorem wants_len (v w : List Nm) : ∀ (m : Nat) (i : Int), (wantsF v w m i).length ≤ m
 | 0, i => Nat.le_refl _
 | m + 1, i => by
  have := wants_len v w m (i + 1); have := want_len i (look kN v i) (look kN w i); rw [wantsF, List.length_append]
  omega
theorem look_app1 {α : Type} {key : α → Int} (a b : List α) (k : Int) : look key (a ++ b) k = (look key a k).or (look key b k) := by
 unfold look
 rw [List.find?_append]
theorem look_want {v w : List Nm} (hv : RightN v) (hw : RightN w) (k : Int) : ∀ (m : Nat) (i : Int), 0 ≤ i → i + m ≤ 8 → look kD (wantsF v w m i) k = if i ≤ k ∧ k < i + m then (wantD k (look kN v k) (look kN w k)).head? else none
 | 0, i, _, _ => by rw [if_neg (by omega)]; rfl
 | m + 1, i, h0, h8 => by
  rw [wantsF, look_app1, look_want hv hw k m (i + 1) (by omega) (by omega)]; have hl := want_len i (look kN v i) (look kN w i)
  have hm : ∀ d ∈ wantD i (look kN v i) (look kN w i), d.f0 = i := fun d hd => (want_mem hv hw h0 (by omega) hd).1
  by_cases hk : k = i
  ·subst hk; rw [if_neg (by omega), if_pos (by omega), Option.or_none]
   match hW : wantD k (look kN v k) (look kN w k), hl, hm with
   | [], _, _ => rfl
   | [a], _, hm => rw [look_cons, if_pos (show kD a = k from hm a (List.mem_singleton.2 rfl))]; rfl
   | a :: b :: l, hl, _ => simp at hl
  ·have hno : look kD (wantD i (look kN v i) (look kN w i)) k = none := look_none.2 (fun d hd => by have := hm d hd; unfold kD; omega); rw [hno, Option.none_or]
   by_cases hi : i + 1 ≤ k ∧ k < i + 1 + m
   ·rw [if_pos hi, if_pos (by omega)]
   ·rw [if_neg hi, if_neg (by omega)]
theorem look_pick (v : List Nm) (k : Int) : ∀ l : List Dg, Ris kD l → look kL (pickD v l) k = (look kD l k).bind (fun a => (oneD v a).head?)
 | [], _ => rfl
 | a :: l, h => by
  rw [pick_cons, look_app1, look_pick v k l (ris_tail h), look_cons]
  have one0 : ∀ d ∈ oneD v a, d.f0 = a.f0 := fun d hd => by
   unfold oneD at hd
   cases hk : look kN v a.f0 with
   | none => rw [hk] at hd; simp at hd
   | some x =>
    rw [hk] at hd; simp only at hd
    split at hd
    ·simp at hd
    ·split at hd
     ·rw [List.mem_singleton.1 hd]
     ·rw [List.mem_singleton.1 hd]
  by_cases hk : a.f0 = k
  ·subst hk; have hno : look kD l a.f0 = none := look_lt (ris_head h); rw [if_pos (show kD a = a.f0 from rfl), hno]
   rcases one_len v a with ho | ⟨d, ho⟩
   ·rw [ho, Option.bind_some, ho]; rfl
   ·rw [ho, Option.bind_some, ho, look_cons, if_pos (show kL d = a.f0 from one0 d (by rw [ho]; exact List.mem_singleton.2 rfl))]; rfl
  ·rw [if_neg (show ¬ kD a = k from hk)]; have hno : look kL (oneD v a) k = none := look_none.2 (fun d hd => by have := one0 d hd; unfold kL; omega); rw [hno, Option.none_or]
def PartLe (x y : St) : Prop := OverS y x ∧ ∀ e ∈ y.f2, e.f1 ≤ TopS x → look kE x.f2 e.f0 = some e
def PartR (x y : St) : Prop := x.f0 = y.f0 → (TopS x ≤ TopS y → PartLe x y) ∧ (TopS y ≤ TopS x → PartLe y x)
theorem part_symm {x y : St} (h : PartR x y) : PartR y x := fun e => ⟨(h e.symm).2, (h e.symm).1⟩
theorem look_filterE (p : E → Bool) (k : Int) : ∀ l : List E, Ris kE l → look kE (l.filter p) k = (look kE l k).filter p
 | [], _ => rfl
 | x :: l, h => by
  have ih := look_filterE p k l (ris_tail h); rw [look_cons, List.filter_cons]
  by_cases hk : kE x = k
  ·rw [if_pos hk]
   have hno : look kE l k = none := by rw [← hk]; exact look_lt (ris_head h)
   by_cases hp : p x = true
   ·rw [if_pos hp, look_cons, if_pos hk, Option.filter_some, if_pos hp]
   ·rw [if_neg hp, ih, hno, Option.filter_some, if_neg hp]; rfl
  ·rw [if_neg hk]
   by_cases hp : p x = true
   ·rw [if_pos hp, look_cons, if_neg hk, ih]
   ·rw [if_neg hp, ih]
theorem join_up {x y : St} (hx : RightS x) (hy : RightS y) (hg : x.f0 = y.f0) (h : PartLe x y) : joinS x (upS y (TopS x)) = joinS x y := by
 have e1 : x.f0 = (upS y (TopS x)).f0 := hg; rw [joinS_eq e1, joinS_eq hg]; refine st_ext rfl rfl ?_
 show joinE x.f2 (y.f2.filter (fun z => !decide (z.f1 ≤ TopS x))) = joinE x.f2 y.f2
 have hf := ris_filter (key := kE) (fun z : E => !decide (z.f1 ≤ TopS x)) (risS hy); refine ris_ext (key := kE) (ris_joinE (risS hx) hf) (ris_joinE (risS hx) (risS hy)) (fun k => ?_); rw [look_joinE (risS hx) hf, look_joinE (risS hx) (risS hy), look_filterE _ k _ (risS hy)]
 cases hk : look kE y.f2 k with
 | none => rfl
 | some e =>
  have hm := look_mem hk
  by_cases ht : e.f1 ≤ TopS x
  ·have hl := h.2 e hm.1 ht; have hek : e.f0 = k := hm.2; rw [hek] at hl; rw [Option.filter_some, if_neg (by simp [ht]), hl, sup_none, sup_self]
  ·rw [Option.filter_some, if_pos (by simp [ht])]
theorem up_zero {y : St} (hy : RightS y) : upS y 0 = y := by
 refine st_ext rfl rfl ?_
 show y.f2.filter (fun z => !decide (z.f1 ≤ 0)) = y.f2
 rw [List.filter_eq_self]; intro e he; have := hy.2.2.2.2.2 e he
 unfold MayE at this
 have h1 : ¬ e.f1 ≤ 0 := by omega
 simp [h1]
theorem got_zero' (o : Option Nm) (k : Int) (s : St) : gotD o ⟨k, 0, s⟩ = supN o (some ⟨k, s⟩) := by
 unfold gotD fitO
 rw [if_pos (by simp)]
theorem whole_one {v w : List Nm} (hv : RightN v) (hw : RightN w) (k : Int) (hP : ∀ x y, look kN v k = some x → look kN w k = some y → PartR x.f1 y.f1) :
  (match ((wantD k (look kN v k) (look kN w k)).head?).bind (fun a => (oneD w a).head?) with
   | none => look kN v k
   | some d => gotD (look kN v k) d) = supN (look kN v k) (look kN w k) := by
 cases hy : look kN w k with
 | none =>
  rw [supN_none]
  cases look kN v k <;> rfl
 | some y =>
  have hyy := ok_look hw k y hy
  have one : ∀ t : Int, (oneD w ⟨k, y.f1.f0, t⟩).head? = some ⟨k, t, upS y.f1 t⟩ := fun t => by
   unfold oneD
   simp only [hy]; rw [if_neg (by omega)]
   simp
  have ey : (⟨k, y.f1⟩ : Nm) = y := nm_ext hyy.1.symm rfl
  cases hx : look kN v k with
  | none =>
   show (match (oneD w ⟨k, y.f1.f0, 0⟩).head? with | none => none | some d => gotD none d) = supN none (some y)
   rw [one 0, up_zero hyy.2.2.2]
   show gotD none ⟨k, 0, y.f1⟩ = _
   rw [got_zero', ey]
  | some x =>
   have hxx := ok_look hv k x hx; have hPR := hP x y hx hy; rw [want_ss]
   by_cases h1 : y.f1.f0 > x.f1.f0
   ·rw [if_pos h1]
    show (match (oneD w ⟨k, y.f1.f0, 0⟩).head? with | none => some x | some d => gotD (some x) d) = _
    rw [one 0, up_zero hyy.2.2.2]
    show gotD (some x) ⟨k, 0, y.f1⟩ = _
    rw [got_zero', ey]
   ·rw [if_neg h1]
    by_cases h2 : x.f1.f0 > y.f1.f0
    ·rw [if_pos h2]
     show some x = some (hiN x y)
     exact congrArg some (nm_ext rfl (joinS_gt h2).symm)
    ·rw [if_neg h2]
     have hg : x.f1.f0 = y.f1.f0 := by omega
     by_cases h3 : TopS y.f1 > TopS x.f1
     ·rw [if_pos h3]
      show (match (oneD w ⟨k, y.f1.f0, TopS x.f1⟩).head? with | none => some x | some d => gotD (some x) d) = _
      rw [one (TopS x.f1)]
      show gotD (some x) ⟨k, TopS x.f1, upS y.f1 (TopS x.f1)⟩ = _
      have hfit : fitO (some x) (⟨k, TopS x.f1, upS y.f1 (TopS x.f1)⟩ : Dl) = true := by
       unfold fitO
       have e1 : x.f1.f0 = (upS y.f1 (TopS x.f1)).f0 := hg
       simp [e1]
      unfold gotD
      rw [if_pos hfit]
      show some (hiN x ⟨k, upS y.f1 (TopS x.f1)⟩) = some (hiN x y)
      exact congrArg some (nm_ext rfl (join_up hxx.2.2.2 hyy.2.2.2 hg ((hPR hg).1 (by omega))))
     ·rw [if_neg h3]
      show some x = some (hiN x y)
      have hle := (hPR hg).2 (by omega); exact congrArg some (nm_ext rfl ((overS_iff hxx.2.2.2 hyy.2.2.2).1 hle.1).symm)
theorem whole {v w : List Nm} (hv : RightN v) (hw : RightN w) (hP : ∀ k x y, look kN v k = some x → look kN w k = some y → PartR x.f1 y.f1) : applyD v (pickD w (wantsF v w 8 0)) = joinN v w := by
 have hW := wants_right hv hw; obtain ⟨p0, p1, p2, p3⟩ := pick_right hw hW; refine ris_ext (key := kN) (right_apply _ v hv p1).1 (ris_joinN hv.1 hw.1) (fun k => ?_); rw [look_apply _ v hv p0 p1, look_joinN hv.1 hw.1, look_pick w k _ hW.1, look_want hv hw k 8 0 (Int.le_refl _) (by decide)]
 by_cases hk : (0 : Int) ≤ k ∧ k < 0 + ((8 : Nat) : Int)
 ·rw [if_pos hk]; exact whole_one hv hw k (hP k)
 ·rw [if_neg hk]
  have hno : ∀ u : List Nm, RightN u → look kN u k = none := fun u hu => look_none.2 (fun x hx => by have := hu.2 x hx; unfold MayN at this; unfold kN; omega)
  rw [hno v hv, hno w hw]; rfl
theorem got_noneE : got none = (0, 0, ByteArray.empty, false) := rfl
theorem got_someE (z : E) : got (some z) = (z.f0, z.f1, z.f2, true) := rfl
theorem ev_part_l0 (x y : St) (hx : RightS x) (hy : RightS y) (t : Int) (suf : List E) : ∀ pre : List E, pre ++ suf = y.f2 →
  ∃ r, Ev (fun k => law08_part.l0 k t (pre.length : Int) x.f0 x.f1 x.f2 y.f0 y.f1 (pre ++ suf)) r ∧ (r = true → (∀ e ∈ suf, e.f1 ≤ t → look kE x.f2 e.f0 = some e) ∧ OverS y x) := by
 have ly := lenS hy; have lx := lenS hx
 induction suf with
 | nil =>
  intro pre hp; obtain ⟨r, e, q⟩ := ev_ref05_Over y x hy.2.2.2.2 hx.2.2.2.2; refine ⟨r, Ev.step (fun k => by rw [law08_part.l0]) ?_, fun hr => ⟨fun e he => by simp at he, q.1 hr⟩⟩; simp only [end_ge, ↓reduceIte]; rw [hp]; exact Ev.bind e (Ev.now _)
 | cons e suf ih =>
  intro pre hp; obtain ⟨r, er, qr⟩ := ih (pre ++ [e]) (by rw [← hp, ← List.append_cons]); rw [← List.append_cons pre e suf] at er
  have hln : (pre ++ e :: suf).length < 100000 := by rw [hp]; omega
  have hg := ev_ref04_Get x.f2 e.f0 (by omega)
  by_cases ht : e.f1 ≤ t
  ·cases hk : look kE x.f2 e.f0 with
   | none =>
    rw [hk] at hg; refine ⟨false, Ev.step (fun k => by rw [law08_part.l0]) ?_, fun h => absurd h (by decide)⟩; simp only [mid_lt, nat_ge, rdE, ↓reduceIte]; refine Ev.bind hg ?_; simp only [got_noneE, ht, Bool.false_eq_true, ↓reduceIte]; exact Ev.now _
   | some z =>
    rw [hk] at hg
    by_cases hz : z = e
    ·subst hz
     have hn : ¬ ((!(z.f0 == z.f0) || (!(z.f1 == z.f1) || (!(z.f2.toList == z.f2.toList)))) = true) := fun h => (ne_is z z).1 h rfl
     refine ⟨r, Ev.step (fun k => by rw [law08_part.l0]) ?_, fun h => ⟨all_cons (fun _ => hk) (qr h).1, (qr h).2⟩⟩; simp only [mid_lt, nat_ge, rdE, ↓reduceIte, mid_next pre z suf (by omega)]; refine Ev.bind hg ?_; simp only [got_someE, ht, hn, ↓reduceIte]; exact er
    ·have hn := (ne_is z e).2 hz; refine ⟨false, Ev.step (fun k => by rw [law08_part.l0]) ?_, fun h => absurd h (by decide)⟩; simp only [mid_lt, nat_ge, rdE, ↓reduceIte]; refine Ev.bind hg ?_; simp only [got_someE, ht, hn, ↓reduceIte]; exact Ev.now _
  ·refine ⟨r, Ev.step (fun k => by rw [law08_part.l0]) ?_, fun h => ⟨all_cons (fun h2 => absurd h2 ht) (qr h).1, (qr h).2⟩⟩; simp only [mid_lt, nat_ge, rdE, ↓reduceIte, mid_next pre e suf (by omega)]; refine Ev.bind hg ?_; simp only [ht, ↓reduceIte]; exact er
theorem part_self {x : St} (hx : RightS x) : PartLe x x := ⟨(overS_iff hx hx).2 (joinS_self hx), fun e he _ => look_of_mem (risS hx) he⟩
theorem ev_part_g (x y : St) (hx : RightS x) (hy : RightS y) (hle : TopS x ≤ TopS y) : ∃ r, Ev (fun k => law08_part.g k x.f0 x.f1 x.f2 y.f0 y.f1 y.f2) r ∧ (r = true → PartLe x y ∧ (TopS y ≤ TopS x → PartLe y x)) := by
 have ly := lenS hy; have lx := lenS hx
 unfold law08_part.g
 by_cases h : TopS x = TopS y
 ·obtain ⟨r, e, q⟩ := ev_ref05_Same x y (by omega); refine ⟨r, Ev.bind (ev_ref05_Top x (by omega)) (Ev.bind (ev_ref05_Top y (by omega)) ?_), fun hr => ?_⟩
  ·simp only [h, ↓reduceIte]; exact Ev.bind e (Ev.now _)
  ·have hxy := q.1 hr; subst hxy; exact ⟨part_self hx, fun _ => part_self hx⟩
 ·obtain ⟨r, e, q⟩ := ev_part_l0 x y hx hy (TopS x) y.f2 [] rfl; refine ⟨r, Ev.bind (ev_ref05_Top x (by omega)) (Ev.bind (ev_ref05_Top y (by omega)) ?_), fun hr => ⟨⟨(q hr).2, (q hr).1⟩, fun h2 => absurd (by omega) h⟩⟩; simp only [h, ↓reduceIte]; exact e
theorem ev_part (x y : St) (hx : RightS x) (hy : RightS y) : ∃ r, Ev (fun k => law08_part.f k x.f0 x.f1 x.f2 y.f0 y.f1 y.f2) r ∧ (r = true → PartR x y) := by
 have ly := lenS hy; have lx := lenS hx
 unfold law08_part.f
 by_cases hg : x.f0 = y.f0
 ·by_cases ht : TopS x > TopS y
  ·obtain ⟨r, e, q⟩ := ev_part_g y x hy hx (by omega); refine ⟨r, ?_, fun hr _ => ⟨(q hr).2, fun _ => (q hr).1⟩⟩; simp only [eq_true hg, ↓reduceIte]; refine Ev.bind (ev_ref05_Top x (by omega)) (Ev.bind (ev_ref05_Top y (by omega)) ?_); simp only [ht, ↓reduceIte]; exact e
  ·obtain ⟨r, e, q⟩ := ev_part_g x y hx hy (by omega); refine ⟨r, ?_, fun hr _ => ⟨fun _ => (q hr).1, (q hr).2⟩⟩; simp only [eq_true hg, ↓reduceIte]; refine Ev.bind (ev_ref05_Top x (by omega)) (Ev.bind (ev_ref05_Top y (by omega)) ?_); simp only [ht, ↓reduceIte]; exact e
 ·refine ⟨true, ?_, fun _ e => absurd e hg⟩; simp only [hg, ↓reduceIte]; exact Ev.now _
theorem in_view {l : List Nm} (h : l.length ≤ maxLen ∧ l.length * 48 ≤ 140737488351232 ∧ ∀ x_ ∈ l, G39 x_) : l.length < 4611686018427387904 ∧ inN l := ⟨by have := h.2.1; omega, fun x hx => inS (h.2.2 x hx).2⟩
theorem whole08_end (a b : List Nm) (ha : RightN a) (hb : RightN b) (hP : ∀ x ∈ a, ∀ y, look kN b x.f0 = some y → PartR x.f1 y.f1) (pre : List Nm) (hp : pre = a) :
  Ev (fun k => law08_DeltaWhole.l0 k a b (pre.length : Int)) true := by
 subst hp
 have hk : ∀ k x y, look kN pre k = some x → look kN b k = some y → PartR x.f1 y.f1 := fun k x y hx hy => hP x (look_mem hx).1 y (by rw [show x.f0 = k from (look_mem hx).2]; exact hy)
 have h1 := whole ha hb hk; have h2 := whole hb ha (fun k x y hx hy => part_symm (hk k y x hy hx)); have w1 := wants_len pre b 8 0; have w2 := wants_len b pre 8 0; obtain ⟨_, p1, _, l1⟩ := pick_right hb (wants_right ha hb); obtain ⟨_, q1, _, l2⟩ := pick_right ha (wants_right hb ha)
 have n1 : (wantsF pre b 8 0).length < 100000 := by omega
 have n2 : (wantsF b pre 8 0).length < 100000 := by omega
 have n3 : (pickD b (wantsF pre b 8 0)).length < 100000 := by omega
 have n4 : (pickD pre (wantsF b pre 8 0)).length < 100000 := by omega
 refine Ev.step (fun k => by rw [law08_DeltaWhole.l0]) ?_; simp only [Int.lt_irrefl, ↓reduceIte]; refine Ev.bind (ev_ref07_Of b (rightN_sm hb)) (Ev.bind (ev_ref07_Compare pre b ha hb) (Ev.bind (ev_delta_Pick b (wantsF pre b 8 0) (rightN_sm hb) n1) (Ev.bind (ev_delta_Apply ha n3 p1) (Ev.bind (ev_delta_Pick pre (wantsF b pre 8 0) (rightN_sm ha) n2) (Ev.bind (ev_delta_Apply hb n4 q1) (Ev.bind (ev_ref06_Join pre b ha hb) ?_)))))); rw [h1, h2]; have hj := right_joinN ha hb; refine Ev.bind (ev_sameN_true (rightN_sm hj) rfl) ?_; simp only [↓reduceIte]; exact Ev.bind (ev_sameN_true (rightN_sm (right_joinN hb ha)) (joinN_comm hb ha)) (Ev.now _)
theorem whole08_l0 (a b : List Nm) (ha : RightN a) (hb : RightN b) (suf : List Nm) : ∀ pre : List Nm, pre ++ suf = a → (∀ x ∈ pre, ∀ y, look kN b x.f0 = some y → PartR x.f1 y.f1) →
  Ev (fun k => law08_DeltaWhole.l0 k a b (pre.length : Int)) true := by
 have la := rightN_len ha
 induction suf with
 | nil =>
  intro pre hp hP; rw [List.append_nil] at hp; exact whole08_end a b ha hb (by rw [← hp]; exact hP) pre hp
 | cons x suf ih =>
  intro pre hp hP
  have hln : (pre ++ x :: suf).length < 100000 := by rw [hp]; omega
  have hx : x ∈ a := by rw [← hp]; simp
  have hxx := ha.2 x hx
  have go : (∀ y, look kN b x.f0 = some y → PartR x.f1 y.f1) → Ev (fun k => law08_DeltaWhole.l0 k a b (((pre ++ [x]).length : Nat) : Int)) true := fun h =>
   ih (pre ++ [x]) (by rw [← hp, ← List.append_cons]) (fun z hz => by
    rcases List.mem_append.1 hz with hz | hz
    ·exact hP z hz
    ·rw [List.mem_singleton.1 hz]; exact h)
  refine Ev.step (fun k => by rw [law08_DeltaWhole.l0]) ?_
  have e1 : (pre.length : Int) < (a.length : Int) := by rw [← hp]; exact mid_lt pre x suf
  have e2 : rd_T39 a (pre.length : Int) = x := by rw [← hp]; exact rdN pre x suf
  simp only [e1, nat_ge, e2, ↓reduceIte, mid_next pre x suf (by omega)]; refine Ev.bind (ev_ref06_Get b x.f0 (rightN_sm hb)) ?_
  cases hy : look kN b x.f0 with
  | none =>
   simp only [got_none, Bool.false_eq_true, ↓reduceIte]; exact go (fun y h => by rw [hy] at h; simp at h)
  | some y =>
   have hyy := ok_look hb _ y hy; obtain ⟨r, er, qr⟩ := ev_part x.f1 y.f1 hxx.2.2 hyy.2.2.2; simp only [got_some, ↓reduceIte]; refine Ev.bind er ?_
   cases r with
   | false => simp only [Bool.false_eq_true, ↓reduceIte]; exact Ev.now _
   | true =>
    simp only [↓reduceIte]; exact go (fun z h => by rw [hy] at h; rw [← Option.some.inj h]; exact qr rfl)
theorem whole08_j0 (a b : List Nm) (g : Bool) (h : g = false → RightN a ∧ RightN b) : Ev (fun k => law08_DeltaWhole.j0 k a b g) true := by
 refine Ev.step (fun k => by rw [law08_DeltaWhole.j0]) ?_
 cases g with
 | true => simp only [↓reduceIte]; exact Ev.now _
 | false =>
  obtain ⟨ha, hb⟩ := h rfl; simp only [Bool.false_eq_true, ↓reduceIte]; exact whole08_l0 a b ha hb a [] rfl (fun x hx => by simp at hx)
theorem DeltaWhole : ∀ (x0 : List S39) (x1 : List S39), (x0.length ≤ maxLen ∧ x0.length * 48 ≤ 140737488351232 ∧ ∀ x_ ∈ x0, G39 x_) → (x1.length ≤ maxLen ∧ x1.length * 48 ≤ 140737488351232 ∧ ∀ x_ ∈ x1, G39 x_) → ∃ k, law08_DeltaWhole.f k x0 x1 = some true := by
 intro a b ha hb; obtain ⟨b1, b2⟩ := in_view ha; obtain ⟨b3, b4⟩ := in_view hb
 apply Ev.get
 unfold law08_DeltaWhole.f
 refine Ev.bind alive08 ?_; simp only [↓reduceIte]; have no := whole08_j0 a b true (fun e => absurd e (by decide)); obtain ⟨g, eg, qg⟩ := ev_ref06_Great a b1 b2; refine Ev.bind eg ?_
 cases g with
 | true => simp only [↓reduceIte]; exact no
 | false =>
  simp only [Bool.false_eq_true, ↓reduceIte]; obtain ⟨g2, eg2, qg2⟩ := ev_ref06_Great b b3 b4; refine Ev.bind eg2 ?_
  cases g2 with
  | true => simp only [↓reduceIte]; exact no
  | false =>
   simp only [Bool.false_eq_true, ↓reduceIte]; obtain ⟨r1, e1, q1⟩ := ev_ref06_Right a (qg rfl); refine Ev.bind e1 ?_
   cases r1 with
   | false => simp only [Bool.false_eq_true, ↓reduceIte]; exact no
   | true =>
    simp only [↓reduceIte]; obtain ⟨r2, e2, q2⟩ := ev_ref06_Right b (qg2 rfl); refine Ev.bind e2 ?_; exact whole08_j0 a b (!r2) (fun e => ⟨q1.1 rfl, q2.1 (by simpa using e)⟩)
end Go.Proofs.Ytgipbmjkgciccaa.Pl

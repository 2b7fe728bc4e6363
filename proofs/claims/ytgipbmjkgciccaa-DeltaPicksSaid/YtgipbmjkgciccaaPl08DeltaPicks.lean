/- DeltaPicks's plain law: what is picked of any view for any asks is the document's, and may be: for all views and asks. No condition. -/
import Derived.Test.YtgipbmjkgciccaaOps
import Derived.Test.YtgipbmjkgciccaaPLaw08DeltaPicks
namespace Go.Proofs.Ytgipbmjkgciccaa.Pl
open Go.RowKit Go.Proofs.Ytgipbmjkgciccaa.P Go.Proofs.YtgipbmjkgciccaaW.PrintWords Go.Proofs.YtgipbmjkgciccaaW.PrintLast Go.Proofs.YtgipbmjkgciccaaW.PrintMore
set_option linter.unusedSimpArgs false
set_option linter.unusedVariables false
abbrev E := S58
theorem wrap_id (x : Int) (h0 : -9223372036854775808 ≤ x) (h1 : x ≤ 9223372036854775807) : wrap64 x = x := by unfold wrap64; omega
theorem wrap_nat (n : Nat) (h : n < 9223372036854775807) : wrap64 ((n : Int) + 1) = ((n + 1 : Nat) : Int) := by unfold wrap64; omega
theorem getD_mid {α : Type} (z : α) (pre : List α) (x : α) (suf : List α) : (pre ++ x :: suf).getD ((pre.length : Nat) : Int).toNat z = x := by
 simp [List.getD_eq_getElem?_getD]
theorem rdE (pre : List E) (x : E) (suf : List E) : rd_T58 (pre ++ x :: suf) ((pre.length : Nat) : Int) = x := getD_mid _ pre x suf
theorem rdE0 (x : E) (suf : List E) : rd_T58 (x :: suf) 0 = x := rfl
theorem mid_lt {α : Type} (pre : List α) (x : α) (suf : List α) : ((pre.length : Nat) : Int) < ((pre ++ x :: suf).length : Int) := by simp <;> omega
theorem end_ge {α : Type} (pre : List α) : ¬ ((pre.length : Nat) : Int) < ((pre ++ ([] : List α)).length : Int) := by simp
theorem nat_ge {α : Type} (pre : List α) : (0 : Int) ≤ ((pre.length : Nat) : Int) := Int.natCast_nonneg _
theorem mid_next {α : Type} (pre : List α) (x : α) (suf : List α) (h : (pre ++ x :: suf).length < 9223372036854775807) : wrap64 (((pre.length : Nat) : Int) + 1) = (((pre ++ [x]).length : Nat) : Int) := by
 rw [wrap_nat _ (by simp at h; omega), List.length_append]; rfl
theorem mid_prev {α : Type} (pre : List α) (y x : α) (suf : List α) (h : ((pre ++ [y]) ++ x :: suf).length < 9223372036854775807) : wrap64 ((((pre ++ [y]).length : Nat) : Int) - 1) = ((pre.length : Nat) : Int) := by
 rw [wrap_id _ (by omega) (by have := h; simp only [List.length_append, List.length_cons, List.length_nil] at *; omega), List.length_append, List.length_singleton]; omega
/-- From 'it comes to r' to 'there are rounds'. -/
theorem Ev.get {α : Type} {g : Nat → Option α} {r : α} (h : Ev g r) : ∃ k, g k = some r := h.rounds
section
variable {α : Type} (key : α → Int)
def Ris (l : List α) : Prop := l.Pairwise (fun a b => key a < key b)
def look (l : List α) (k : Int) : Option α := l.find? (fun x => key x == k)
variable {key}
theorem ris_nil : Ris key [] := List.Pairwise.nil
theorem ris_cons {x : α} {l : List α} : Ris key (x :: l) ↔ (∀ y ∈ l, key x < key y) ∧ Ris key l := List.pairwise_cons
theorem ris_tail {x : α} {l : List α} (h : Ris key (x :: l)) : Ris key l := (ris_cons.1 h).2
theorem ris_head {x : α} {l : List α} (h : Ris key (x :: l)) : ∀ y ∈ l, key x < key y := (ris_cons.1 h).1
theorem ris_filter {l : List α} (p : α → Bool) (h : Ris key l) : Ris key (l.filter p) := List.Pairwise.filter p h
theorem look_cons (x : α) (l : List α) (k : Int) : look key (x :: l) k = if key x = k then some x else look key l k := by
 unfold look
 by_cases h : key x = k
 ·simp [h]
 ·simp [h]
theorem look_mem {l : List α} {k : Int} {x : α} (h : look key l k = some x) : x ∈ l ∧ key x = k := by
 unfold look at h
 exact ⟨List.mem_of_find?_eq_some h, by simpa using List.find?_some h⟩
/-- A rising list whose keys are from 0 to below n has at most n elements. -/
theorem ris_length (n : Nat) : ∀ (l : List α) (m : Nat), Ris key l → (∀ x ∈ l, (m : Int) ≤ key x ∧ key x < (m : Int) + n) → l.length ≤ n := by
 induction n with
 | zero =>
  intro l m _ h
  match l with
  | [] => exact Nat.le_refl _
  | x :: l => have := h x (by simp); omega
 | succ n ih =>
  intro l m hr h
  match l with
  | [] => simp
  | x :: l =>
   have h1 := ih l (m + 1) (ris_tail hr) (fun y hy => by
    have h2 := h y (by simp [hy]); have h3 := ris_head hr y hy; have h4 := h x (by simp); omega)
   simp; omega
end
def MayE (x : E) : Prop := 0 ≤ x.f0 ∧ x.f0 < 12 ∧ 1 ≤ x.f1 ∧ x.f1 ≤ 1099511627776 ∧ x.f2.size ≤ 200
def kE (x : E) : Int := x.f0
def RightE (l : List E) : Prop := Ris kE l ∧ ∀ x ∈ l, MayE x
open Go.RowKit Go.Proofs.Ytgipbmjkgciccaa.P Go.Proofs.YtgipbmjkgciccaaW.PrintWords Go.Proofs.YtgipbmjkgciccaaW.PrintLast Go.Proofs.YtgipbmjkgciccaaW.PrintMore Go.Proofs.YtgipbmjkgciccaaW.Hw
theorem wrap01 : wrap64 (0 + 1) = 1 := wrap_id 1 (by omega) (by omega)
theorem all_cons {α : Type} {Q : α → Prop} {x : α} {l : List α} (hx : Q x) (hl : ∀ z, z ∈ l → Q z) : ∀ z, z ∈ x :: l → Q z := fun z hz => by
 rcases List.mem_cons.1 hz with rfl | hz
 ·exact hx
 ·exact hl z hz
theorem ev_ref04_Great_l0 (suf : List E) : ∀ (pre : List E) (n : Int), (pre ++ suf).length < 4611686018427387904 → 0 ≤ n → n ≤ 4611686018427387904 → (∀ x ∈ suf, x.f2.size ≤ 140737488351232) →
  ∃ r, Ev (fun k => ref04_Great.l0 k (pre ++ suf) n (pre.length : Int)) r ∧ (r = false → n ≤ 4000) := by
 induction suf with
 | nil =>
  intro pre n h h0 h1 h2; refine ⟨decide (n > 4000), Ev.step (fun k => by rw [ref04_Great.l0]) ?_, by simp⟩; simp only [end_ge, ↓reduceIte]; exact Ev.now _
 | cons x suf ih =>
  intro pre n h h0 h1 h2
  by_cases hn : n ≤ 4000
  ·have hx := h2 x (by simp); obtain ⟨r, hr, hi⟩ := ih (pre ++ [x]) (n + (x.f2.size : Int)) (by rw [← List.append_cons]; exact h) (by omega) (by omega) (fun y hy => h2 y (by simp [hy])); refine ⟨r, Ev.step (fun k => by rw [ref04_Great.l0]) ?_, fun _ => hn⟩; simp only [mid_lt, nat_ge, ↓reduceIte, rdE, mid_next pre x suf (by omega), hn, wrap_id (n + (x.f2.size : Int)) (by omega) (by omega)]; rw [← List.append_cons pre x suf] at hr; exact hr
  ·refine ⟨decide (n > 4000), Ev.step (fun k => by rw [ref04_Great.l0]) ?_, by simp⟩; simp only [mid_lt, ↓reduceIte, hn]; exact Ev.now _
theorem ev_ref04_Great (l : List E) (h : l.length < 4611686018427387904) (hs : ∀ x ∈ l, x.f2.size ≤ 140737488351232) : ∃ r, Ev (fun k => ref04_Great.f k l) r ∧ (r = false → l.length ≤ 4000) := by
 obtain ⟨r, hr, hi⟩ := ev_ref04_Great_l0 l [] (l.length : Int) h (by omega) (by omega) hs; exact ⟨r, hr, fun e => by have := hi e; omega⟩
section
variable {α : Type} {key : α → Int}
theorem ris_cons2 {y x : α} {l : List α} : Ris key (y :: x :: l) ↔ key y < key x ∧ Ris key (x :: l) := by
 rw [ris_cons]
 constructor
 ·rintro ⟨h1, h2⟩; exact ⟨h1 x (by simp), h2⟩
 ·rintro ⟨h1, h2⟩; refine ⟨fun z hz => ?_, h2⟩
  rcases List.mem_cons.1 hz with rfl | hz
  ·exact h1
  ·have := ris_head h2 z hz; omega
theorem ris_one (x : α) : Ris key [x] := List.pairwise_singleton _ x
end
theorem len_pos {α : Type} (x : α) (l : List α) : (0 : Int) < ((x :: l).length : Int) := by simp <;> omega
theorem may04_is (x : E) : ∃ r, ref04_May.f x.f0 x.f1 x.f2 = some r ∧ (r = true ↔ MayE x) := by
 unfold ref04_May.f MayE
 by_cases h1 : x.f0 ≥ 0
 ·by_cases h2 : x.f0 < 12
  ·by_cases h3 : x.f1 ≥ 1
   ·by_cases h4 : x.f1 ≤ 1099511627776
    ·refine ⟨_, by simp only [h1, h2, h3, h4, ↓reduceIte]; rfl, ?_⟩
     simp; omega
    ·exact ⟨false, by simp only [h1, h2, h3, h4, ↓reduceIte], by simp; omega⟩
   ·exact ⟨false, by simp only [h1, h2, h3, ↓reduceIte], by simp; omega⟩
  ·exact ⟨false, by simp only [h1, h2, ↓reduceIte], by simp; omega⟩
 ·exact ⟨false, by simp only [h1, ↓reduceIte], by simp; omega⟩
theorem pos_mid {α : Type} (p : List α) (y : α) : (((p ++ [y]).length : Nat) : Int) > 0 := by simp <;> omega
theorem prev_ge {α : Type} (p : List α) (y x : α) (s : List α) : ((p.length : Nat) : Int) < (((p ++ [y]) ++ x :: s).length : Int) := by simp <;> omega
theorem rdE1 (p : List E) (y x : E) (s : List E) : rd_T58 ((p ++ [y]) ++ x :: s) ((p.length : Nat) : Int) = y := by rw [← List.append_cons]; exact rdE p y (x :: s)
theorem ev_ref04_Right_l0 (suf : List E) : ∀ (p : List E) (y : E), ((p ++ [y]) ++ suf).length < 4611686018427387904 →
  ∃ r, Ev (fun k => ref04_Right.l0 k ((p ++ [y]) ++ suf) ((p ++ [y]).length : Int)) r ∧ (r = true ↔ Ris kE (y :: suf) ∧ ∀ x ∈ suf, MayE x) := by
 induction suf with
 | nil =>
  intro p y h; refine ⟨true, Ev.step (fun k => by rw [ref04_Right.l0]) ?_, by simp [ris_one]⟩; simp only [end_ge, ↓reduceIte]; exact Ev.now _
 | cons x suf ih =>
  intro p y h; obtain ⟨m, hm, hmi⟩ := may04_is x
  cases m with
  | false =>
   refine ⟨false, Ev.step (fun k => by rw [ref04_Right.l0]) ?_, ?_⟩
   ·simp only [mid_lt, nat_ge, ↓reduceIte, rdE, hm, Option.bind_some, Bool.false_eq_true]; exact Ev.now _
   ·simp only [Bool.false_eq_true, false_iff]; rintro ⟨_, h2⟩; exact absurd (hmi.2 (h2 x (by simp))) (by simp)
  | true =>
   by_cases hk : y.f0 ≥ x.f0
   ·refine ⟨false, Ev.step (fun k => by rw [ref04_Right.l0]) ?_, ?_⟩
    ·simp only [mid_lt, nat_ge, ↓reduceIte, rdE, hm, Option.bind_some, pos_mid, mid_prev p y x suf (by omega), prev_ge, rdE1, hk]; exact Ev.now _
    ·simp only [Bool.false_eq_true, false_iff, ris_cons2]; rintro ⟨⟨h1, _⟩, _⟩
     unfold kE at h1; omega
   ·obtain ⟨r, hr, hi⟩ := ih (p ++ [y]) x (by rw [← List.append_cons]; exact h); refine ⟨r, Ev.step (fun k => by rw [ref04_Right.l0]) ?_, ?_⟩
    ·simp only [mid_lt, nat_ge, ↓reduceIte, rdE, hm, Option.bind_some, pos_mid, mid_prev p y x suf (by omega), prev_ge, rdE1, hk, mid_next (p ++ [y]) x suf (by omega)]; rw [← List.append_cons (p ++ [y]) x suf] at hr; exact hr
    ·rw [hi, ris_cons2]; have := hmi.1 rfl
     constructor
     ·rintro ⟨h1, h2⟩; exact ⟨⟨by unfold kE; omega, h1⟩, all_cons (this) (fun z hz => h2 z hz)⟩
     ·rintro ⟨⟨_, h1⟩, h2⟩; exact ⟨h1, fun z hz => h2 z (by simp [hz])⟩
theorem ev_ref04_Right (l : List E) (h : l.length < 4611686018427387904) : ∃ r, Ev (fun k => ref04_Right.f k l) r ∧ (r = true ↔ RightE l) := by
 cases l with
 | nil =>
  refine ⟨true, Ev.step (g := fun k => ref04_Right.l0 k [] 0) (fun k => by rw [ref04_Right.l0]) ?_, by simp [RightE, ris_nil]⟩; simp only [List.length_nil, Int.natCast_zero, Int.lt_irrefl, ↓reduceIte]; exact Ev.now _
 | cons x l =>
  obtain ⟨m, hm, hmi⟩ := may04_is x; have e0 : (0 : Int) < ((x :: l).length : Int) := len_pos x l
  cases m with
  | false =>
   refine ⟨false, Ev.step (g := fun k => ref04_Right.l0 k (x :: l) 0) (fun k => by rw [ref04_Right.l0]) ?_, ?_⟩
   ·simp only [e0, Int.le_refl, ↓reduceIte, rdE0, hm, Option.bind_some, Bool.false_eq_true]; exact Ev.now _
   ·simp only [Bool.false_eq_true, false_iff]; rintro ⟨_, h2⟩; exact absurd (hmi.2 (h2 x (by simp))) (by simp)
  | true =>
   obtain ⟨r, hr, hi⟩ := ev_ref04_Right_l0 l [] x h; refine ⟨r, Ev.step (g := fun k => ref04_Right.l0 k (x :: l) 0) (fun k => by rw [ref04_Right.l0]) ?_, ?_⟩
   ·simp only [e0, Int.le_refl, ↓reduceIte, rdE0, hm, Option.bind_some, gt_iff_lt, Int.lt_irrefl, wrap01]; exact hr
   ·rw [hi]
    constructor
    ·rintro ⟨h1, h2⟩; exact ⟨h1, all_cons (hmi.1 rfl) (fun z hz => h2 z hz)⟩
    ·rintro ⟨h1, h2⟩; exact ⟨h1, fun z hz => h2 z (by simp [hz])⟩
theorem may_is (x : E) : ∃ r, entry_May.f x.f0 x.f1 x.f2 = some r ∧ (r = true ↔ MayE x) := may04_is x
theorem ev_entry_Right_l0 (suf : List E) : ∀ (pre : List E) (last : Int), (pre ++ suf).length < 4611686018427387904 →
  ∃ r, Ev (fun k => entry_Right.l0 k last (pre ++ suf) ((pre ++ suf).length : Int) (pre.length : Int)) r ∧ (r = true ↔ (∀ x ∈ suf, last < x.f0 ∧ MayE x) ∧ Ris kE suf) := by
 induction suf with
 | nil =>
  intro pre last h; refine ⟨true, Ev.step (fun k => by rw [entry_Right.l0]) ?_, by simp [Ris]⟩; simp only [end_ge, ↓reduceIte]; exact Ev.now _
 | cons x suf ih =>
  intro pre last h
  by_cases hle : x.f0 ≤ last
  ·refine ⟨false, Ev.step (fun k => by rw [entry_Right.l0]) ?_, ?_⟩
   ·simp only [mid_lt, nat_ge, ↓reduceIte, rdE, hle]; exact Ev.now _
   ·simp only [Bool.false_eq_true, false_iff]; rintro ⟨h1, _⟩; have := (h1 x (by simp)).1
    omega
  ·obtain ⟨m, hm, hm2⟩ := may_is x
   cases m with
   | false =>
    refine ⟨false, Ev.step (fun k => by rw [entry_Right.l0]) ?_, ?_⟩
    ·simp only [mid_lt, nat_ge, ↓reduceIte, rdE, hle, hm, Option.bind_some, Bool.false_eq_true]; exact Ev.now _
    ·simp only [Bool.false_eq_true, false_iff]; rintro ⟨h1, _⟩; have := hm2.2 (h1 x (by simp)).2
     simp at this
   | true =>
    obtain ⟨r, h1, h2⟩ := ih (pre ++ [x]) x.f0 (by rw [← List.append_cons]; exact h); refine ⟨r, Ev.step (fun k => by rw [entry_Right.l0]) ?_, ?_⟩
    ·simp only [mid_lt, nat_ge, ↓reduceIte, rdE, hle, hm, Option.bind_some, mid_next pre x suf (by omega)]; rw [← List.append_cons pre x suf] at h1; exact h1
    ·rw [h2]
     constructor
     ·rintro ⟨a, b⟩; refine ⟨fun y hy => ?_, ris_cons.2 ⟨fun y hy => (a y hy).1, b⟩⟩
      rcases List.mem_cons.1 hy with rfl | hy
      ·exact ⟨by omega, hm2.1 rfl⟩
      ·exact ⟨by have := (a y hy).1; omega, (a y hy).2⟩
     ·rintro ⟨a, b⟩; exact ⟨fun y hy => ⟨ris_head b y hy, (a y (by simp [hy])).2⟩, ris_tail b⟩
theorem ev_entry_Right (l : List E) (h : l.length < 4611686018427387904) : ∃ r, Ev (fun k => entry_Right.f k l) r ∧ (r = true ↔ RightE l) := by
 obtain ⟨r, h1, h2⟩ := ev_entry_Right_l0 l [] (-1) h; refine ⟨r, h1, ?_⟩; rw [h2]
 constructor
 ·rintro ⟨a, b⟩; exact ⟨b, fun x hx => (a x hx).2⟩
 ·rintro ⟨b, a⟩; exact ⟨fun x hx => ⟨by have := (a x hx).1; omega, a x hx⟩, b⟩
theorem ne_is (x y : E) : (!(x.f0 == y.f0) || (!(x.f1 == y.f1) || (!(x.f2.toList == y.f2.toList)))) = true ↔ x ≠ y := by
 obtain ⟨a0, a1, a2⟩ := x; obtain ⟨b0, b1, b2⟩ := y; simp only [Bool.or_eq_true, Bool.not_eq_true', beq_eq_false_iff_ne]
 constructor
 ·rintro h e; cases e
  simp at h
 ·intro h
  by_cases h0 : a0 = b0
  ·by_cases h1 : a1 = b1
   ·right; right
    intro e; exact h (by rw [h0, h1, ba_ext e])
   ·exact .inr (.inl h1)
  ·exact .inl h0
theorem ev_ref04_Same_l0 (sa : List E) : ∀ (sb pa pb : List E), pa.length = pb.length → sa.length = sb.length → (pa ++ sa).length < 4611686018427387904 →
  ∃ r, Ev (fun k => ref04_Same.l0 k (pa ++ sa) (pb ++ sb) (pa.length : Int)) r ∧ (r = true ↔ sa = sb) := by
 induction sa with
 | nil =>
  intro sb pa pb hp hs h; have : sb = [] := List.eq_nil_of_length_eq_zero (by simpa using hs.symm); subst this; refine ⟨true, Ev.step (fun k => by rw [ref04_Same.l0]) ?_, by simp⟩; simp only [end_ge, ↓reduceIte]; exact Ev.now _
 | cons x sa ih =>
  intro sb pa pb hp hs h
  match sb, hs with
  | y :: sb, hs =>
   have r2 : rd_T58 (pb ++ y :: sb) (pa.length : Int) = y := by rw [hp]; exact rdE pb y sb
   have l2 : (pa.length : Int) < ((pb ++ y :: sb).length : Int) := by rw [hp]; exact mid_lt pb y sb
   by_cases hxy : x = y
   ·subst hxy; obtain ⟨r, h1, h2⟩ := ih sb (pa ++ [x]) (pb ++ [x]) (by simp [hp]) (by simpa using hs) (by rw [← List.append_cons]; exact h); refine ⟨r, Ev.step (fun k => by rw [ref04_Same.l0]) ?_, ?_⟩
    ·have hn : ¬ ((!(x.f0 == x.f0) || (!(x.f1 == x.f1) || (!(x.f2.toList == x.f2.toList)))) = true) := fun e => (ne_is x x).1 e rfl
     simp only [mid_lt, l2, nat_ge, ↓reduceIte, rdE, r2, hn, mid_next pa x sa (by omega)]; rw [← List.append_cons pa x sa, ← List.append_cons pb x sb] at h1; exact h1
    ·rw [h2]; simp
   ·refine ⟨false, Ev.step (fun k => by rw [ref04_Same.l0]) ?_, ?_⟩
    ·have hn := (ne_is x y).2 hxy; simp only [mid_lt, l2, nat_ge, ↓reduceIte, rdE, r2, hn]; exact Ev.now _
    ·simp [hxy]
theorem ev_ref04_Same (a b : List E) (h : a.length < 4611686018427387904) : ∃ r, Ev (fun k => ref04_Same.f k a b) r ∧ (r = true ↔ a = b) := by
 unfold ref04_Same.f
 by_cases hl : (a.length : Int) = (b.length : Int)
 ·obtain ⟨r, h1, h2⟩ := ev_ref04_Same_l0 a b [] [] rfl (by omega) (by simpa using h); refine ⟨r, ?_, h2⟩; simp only [hl, ↓reduceIte]; exact h1
 ·refine ⟨false, ?_, ?_⟩
  ·simp only [hl, ↓reduceIte]; exact Ev.now _
  ·simp only [Bool.false_eq_true, false_iff]; intro e; exact hl (by rw [e])
/-- Is y above x? -/
def Gt (y x : E) : Prop := y.f1 > x.f1 ∨ (y.f1 = x.f1 ∧ Op.bytesLess x.f2.toList y.f2.toList = true)
instance (y x : E) : Decidable (Gt y x) := by unfold Gt; infer_instance
def hi (x y : E) : E := if Gt y x then y else x
theorem find_idx {α : Type} (p : α → Bool) : ∀ l : List α, l.find? p = l[l.findIdx p]?
 | [] => rfl
 | x :: l => by
  rw [List.find?_cons, List.findIdx_cons]
  cases hp : p x with
  | true => simp
  | false => simp [find_idx p l]
theorem right_len {a : List E} (h : RightE a) : a.length ≤ 12 := ris_length 12 a 0 h.1 (fun x hx => by have := h.2 x hx; unfold MayE at this; unfold kE; omega)
theorem ev_ref04_Above_l0 (v : Int) (suf : List E) : ∀ (pre acc : List E), (pre ++ suf).length < 1099511627776 → acc.length ≤ pre.length →
  Ev (fun k => ref04_Above.l0 k (pre ++ suf) v acc (pre.length : Int)) (acc ++ suf.filter (fun x => !decide (x.f1 ≤ v))) := by
 induction suf with
 | nil =>
  intro pre acc h ha; refine Ev.step (fun k => by rw [ref04_Above.l0]) ?_; simp only [end_ge, ↓reduceIte]; rw [List.filter_nil, List.append_nil]; exact Ev.now _
 | cons x suf ih =>
  intro pre acc h ha
  have hl : pre.length + (suf.length + 1) < 1099511627776 := by simpa using h
  refine Ev.step (fun k => by rw [ref04_Above.l0]) ?_; simp only [mid_lt, nat_ge, ↓reduceIte, rdE]
  by_cases hk : x.f1 > v
  ·have hd : (!decide (x.f1 ≤ v)) = true := by simp; omega
   simp only [hk, ↓reduceIte, show acc.length < 4398046511104 by omega, mid_next pre x suf (by omega)]; rw [List.filter_cons, if_pos hd]; have i := ih (pre ++ [x]) (acc ++ [x]) (by rw [← List.append_cons]; exact h) (by simp; omega); rw [← List.append_cons pre x suf, List.append_assoc, List.singleton_append] at i; exact i
  ·have hd : ¬ (!decide (x.f1 ≤ v)) = true := by simp; omega
   simp only [hk, ↓reduceIte, mid_next pre x suf (by omega)]; rw [List.filter_cons, if_neg hd]; have i := ih (pre ++ [x]) acc (by rw [← List.append_cons]; exact h) (by simp; omega); rw [← List.append_cons pre x suf] at i; exact i
theorem ev_ref04_Above (l : List E) (v : Int) (h : l.length < 1099511627776) : Ev (fun k => ref04_Above.f k l v) (l.filter (fun x => !decide (x.f1 ≤ v))) := ev_ref04_Above_l0 v l [] [] h (by simp)
theorem above_is (l : List E) (v : Int) (h : l.length < 1099511627776) : entry_Above.f l v = some (l.filter (fun x => !decide (x.f1 ≤ v))) := by
 unfold entry_Above.f
 rw [if_pos (by omega)]
abbrev St := S35
theorem inS {s : St} (h : G35 s) : s.f2.length < 4611686018427387904 ∧ ∀ x ∈ s.f2, x.f2.size ≤ 140737488351232 := ⟨by have := h.2.2.2.1; omega, fun x hx => (h.2.2.2.2 x hx).2.2⟩
def RightS (s : St) : Prop := 1 ≤ s.f0 ∧ s.f0 ≤ 1099511627776 ∧ 0 ≤ s.f1 ∧ s.f1 ≤ 1099511627776 ∧ RightE s.f2
theorem st_ext {a b : St} (h0 : a.f0 = b.f0) (h1 : a.f1 = b.f1) (h2 : a.f2 = b.f2) : a = b := by
 cases a; cases b; simp only at h0 h1 h2; subst h0; subst h1; subst h2; rfl
theorem ev_state_Right (s : St) (h : s.f2.length < 4611686018427387904) : ∃ r, Ev (fun k => state_Right.f k s.f0 s.f1 s.f2) r ∧ (r = true ↔ RightS s) := by
 unfold state_Right.f
 by_cases h1 : s.f0 ≥ 1
 ·by_cases h2 : s.f0 ≤ 1099511627776
  ·by_cases h3 : s.f1 ≥ 0
   ·by_cases h4 : s.f1 ≤ 1099511627776
    ·obtain ⟨r, e, q⟩ := ev_entry_Right s.f2 h; simp only [h1, h2, h3, h4, ↓reduceIte]; refine ⟨r, Ev.bind e (Ev.now _), ?_⟩; rw [q]; exact ⟨fun x => And.intro h1 (And.intro h2 (And.intro h3 (And.intro h4 x))), fun x => x.2.2.2.2⟩
    ·simp only [h1, h2, h3, h4, ↓reduceIte]; exact ⟨false, Ev.now _, ⟨fun x => absurd x (by decide), fun x => absurd x.2.2.2.1 h4⟩⟩
   ·simp only [h1, h2, h3, ↓reduceIte]; exact ⟨false, Ev.now _, ⟨fun x => absurd x (by decide), fun x => absurd x.2.2.1 h3⟩⟩
  ·simp only [h1, h2, ↓reduceIte]; exact ⟨false, Ev.now _, ⟨fun x => absurd x (by decide), fun x => absurd x.2.1 h2⟩⟩
 ·simp only [h1, ↓reduceIte]; exact ⟨false, Ev.now _, ⟨fun x => absurd x (by decide), fun x => absurd x.1 h1⟩⟩
theorem ev_ref05_Right (s : St) (h : s.f2.length < 4611686018427387904) : ∃ r, Ev (fun k => ref05_Right.f k s.f0 s.f1 s.f2) r ∧ (r = true ↔ RightS s) := by
 unfold ref05_Right.f
 by_cases h1 : s.f0 ≥ 1
 ·by_cases h2 : s.f0 ≤ 1099511627776
  ·by_cases h3 : s.f1 ≥ 0
   ·by_cases h4 : s.f1 ≤ 1099511627776
    ·obtain ⟨r, e, q⟩ := ev_ref04_Right s.f2 h; simp only [h1, h2, h3, h4, ↓reduceIte]; refine ⟨r, Ev.bind e (Ev.now _), ?_⟩; rw [q]; exact ⟨fun x => And.intro h1 (And.intro h2 (And.intro h3 (And.intro h4 x))), fun x => x.2.2.2.2⟩
    ·simp only [h1, h2, h3, h4, ↓reduceIte]; exact ⟨false, Ev.now _, ⟨fun x => absurd x (by decide), fun x => absurd x.2.2.2.1 h4⟩⟩
   ·simp only [h1, h2, h3, ↓reduceIte]; exact ⟨false, Ev.now _, ⟨fun x => absurd x (by decide), fun x => absurd x.2.2.1 h3⟩⟩
  ·simp only [h1, h2, ↓reduceIte]; exact ⟨false, Ev.now _, ⟨fun x => absurd x (by decide), fun x => absurd x.2.1 h2⟩⟩
 ·simp only [h1, ↓reduceIte]; exact ⟨false, Ev.now _, ⟨fun x => absurd x (by decide), fun x => absurd x.1 h1⟩⟩
theorem copy_is (s : St) (h : s.f2.length < 1099511627776) : state_Copy.f s.f0 s.f1 s.f2 = some (s.f0, s.f1, s.f2) := by
 unfold state_Copy.f api_Entry_61.f
 rw [if_pos (by omega)]; rfl
theorem ref_copy_is (s : St) (h : s.f2.length < 1099511627776) : ref05_Copy.f s.f0 s.f1 s.f2 = some (s.f0, s.f1, s.f2) := by
 unfold ref05_Copy.f
 show (if ([] : List E).length + s.f2.length < 4398046511104 then some (s.f0, s.f1, [] ++ s.f2) else none) = _
 rw [if_pos (by rw [List.length_nil]; omega), List.nil_append]
theorem ev_ref05_Same (a b : St) (h : a.f2.length < 4611686018427387904) : ∃ r, Ev (fun k => ref05_Same.f k a.f0 a.f1 a.f2 b.f0 b.f1 b.f2) r ∧ (r = true ↔ a = b) := by
 unfold ref05_Same.f
 by_cases h1 : a.f0 = b.f0
 ·by_cases h2 : a.f1 = b.f1
  ·obtain ⟨r, e, q⟩ := ev_ref04_Same a.f2 b.f2 h; simp only [h1, h2, ↓reduceIte]; refine ⟨r, Ev.bind e (Ev.now _), ?_⟩; rw [q]; exact ⟨fun x => st_ext h1 h2 x, fun x => by rw [x]⟩
  ·simp only [h1, h2, ↓reduceIte]; exact ⟨false, Ev.now _, ⟨fun x => absurd x (by decide), fun x => absurd (by rw [x]) h2⟩⟩
 ·simp only [h1, ↓reduceIte]; exact ⟨false, Ev.now _, ⟨fun x => absurd x (by decide), fun x => absurd (by rw [x]) h1⟩⟩
theorem ev_ref05_same_true (a : St) (h : a.f2.length < 4611686018427387904) : Ev (fun k => ref05_Same.f k a.f0 a.f1 a.f2 a.f0 a.f1 a.f2) true := by
 obtain ⟨r, e, q⟩ := ev_ref05_Same a a h; rw [q.2 rfl] at e; exact e
theorem ev_ref05_Great (s : St) (h : s.f2.length < 4611686018427387904) (hs : ∀ x ∈ s.f2, x.f2.size ≤ 140737488351232) : ∃ r, Ev (fun k => ref05_Great.f k s.f0 s.f1 s.f2) r ∧ (r = false → s.f2.length ≤ 4000) := by
 obtain ⟨r, e, q⟩ := ev_ref04_Great s.f2 h hs; exact ⟨r, Ev.bind e (Ev.now _), q⟩
theorem above_s (s : St) (v : Int) (h : s.f2.length < 1099511627776) : state_Above.f s.f0 s.f1 s.f2 v = some (s.f0, s.f1, s.f2.filter (fun x => !decide (x.f1 ≤ v))) := by
 unfold state_Above.f
 rw [above_is s.f2 v h]; rfl
theorem ev_ref05_Above (s : St) (v : Int) (h : s.f2.length < 1099511627776) : Ev (fun k => ref05_Above.f k s.f0 s.f1 s.f2 v) (s.f0, s.f1, s.f2.filter (fun x => !decide (x.f1 ≤ v))) := by
 unfold ref05_Above.f
 exact Ev.bind (ev_ref04_Above s.f2 v h) (Ev.now _)
abbrev Nm := S39
theorem rdN (pre : List Nm) (x : Nm) (suf : List Nm) : rd_T39 (pre ++ x :: suf) ((pre.length : Nat) : Int) = x := getD_mid _ pre x suf
def kN (x : Nm) : Int := x.f0
/-- A view that is small enough for every step. -/
def Sm (l : List Nm) : Prop := l.length ≤ 1000 ∧ ∀ x ∈ l, x.f1.f2.length ≤ 100000
def inN (l : List Nm) : Prop := ∀ x ∈ l, x.f1.f2.length < 4611686018427387904 ∧ ∀ e ∈ x.f1.f2, e.f2.size ≤ 140737488351232
theorem ev_ref06_Great_l0 (suf : List Nm) : ∀ pre : List Nm, (pre ++ suf).length < 4611686018427387904 → inN suf →
  ∃ r, Ev (fun k => ref06_Great.l0 k (pre ++ suf) (pre.length : Int)) r ∧ (r = false → (pre ++ suf).length ≤ 40 ∧ ∀ x ∈ suf, x.f1.f2.length ≤ 4000) := by
 induction suf with
 | nil =>
  intro pre h hs; refine ⟨decide (((pre ++ ([] : List Nm)).length : Int) > 40), Ev.step (fun k => by rw [ref06_Great.l0]) ?_, fun e => ⟨by have := of_decide_eq_false e; omega, fun x hx => by simp at hx⟩⟩; simp only [end_ge, ↓reduceIte]; refine Ev.step (fun k => by rw [ref06_Great.j1]) ?_; simp only [Bool.false_eq_true, ↓reduceIte]; exact Ev.now _
 | cons x suf ih =>
  intro pre h hs
  by_cases h41 : (pre.length : Int) < 41
  ·obtain ⟨g, e, q⟩ := ev_ref05_Great x.f1 (hs x List.mem_cons_self).1 (hs x List.mem_cons_self).2
   cases g with
   | true =>
    refine ⟨true, Ev.step (fun k => by rw [ref06_Great.l0]) ?_, fun e => absurd e (by decide)⟩; simp only [mid_lt, decide_eq_true h41, ↓reduceIte]; refine Ev.step (fun k => by rw [ref06_Great.j1]) ?_; simp only [mid_lt, nat_ge, rdN, ↓reduceIte]; refine Ev.bind e ?_; simp only [↓reduceIte]; exact Ev.now _
   | false =>
    obtain ⟨r, e2, q2⟩ := ih (pre ++ [x]) (by rw [← List.append_cons]; exact h) (fun y hy => hs y (List.mem_cons_of_mem _ hy)); rw [← List.append_cons pre x suf] at e2 q2; refine ⟨r, Ev.step (fun k => by rw [ref06_Great.l0]) ?_, fun hr => ⟨(q2 hr).1, fun y hy => ?_⟩⟩
    ·simp only [mid_lt, decide_eq_true h41, ↓reduceIte]; refine Ev.step (fun k => by rw [ref06_Great.j1]) ?_; simp only [mid_lt, nat_ge, rdN, ↓reduceIte, mid_next pre x suf (by omega)]; refine Ev.bind e ?_; simp only [Bool.false_eq_true, ↓reduceIte]; exact e2
    ·rcases List.mem_cons.1 hy with rfl | hy
     ·exact q rfl
     ·exact (q2 hr).2 y hy
  ·have hl : ((pre ++ x :: suf).length : Int) > 40 := by rw [List.length_append, List.length_cons]; omega
   refine ⟨true, Ev.step (fun k => by rw [ref06_Great.l0]) ?_, fun e => absurd e (by decide)⟩; simp only [mid_lt, decide_eq_false h41, ↓reduceIte]; refine Ev.step (fun k => by rw [ref06_Great.j1]) ?_; simp only [Bool.false_eq_true, ↓reduceIte, decide_eq_true hl]; exact Ev.now _
theorem ev_ref06_Great (l : List Nm) (h : l.length < 4611686018427387904) (hs : inN l) : ∃ r, Ev (fun k => ref06_Great.f k l) r ∧ (r = false → Sm l) := by
 obtain ⟨r, e, q⟩ := ev_ref06_Great_l0 l [] h hs; exact ⟨r, e, fun hr => ⟨by have := (q hr).1; simp at this; omega, fun x hx => by have := (q hr).2 x hx; omega⟩⟩
def gotN (o : Option Nm) : Int × Int × List E × Bool := match o with
 | some x => (x.f1.f0, x.f1.f1, x.f1.f2, true)
 | none => (0, 0, [], false)
theorem view_Get_is (l : List Nm) (n : Int) (h : Sm l) : view_Get.f l n = some (gotN (look kN l n)) := by
 have hl : look kN l n = l[l.findIdx (fun x : S39 => x.f0 == n)]? := find_idx _ l
 unfold view_Get.f view_place.f idxI
 simp only [Option.bind_some]
 by_cases hx : l.findIdx (fun x : S39 => x.f0 == n) < l.length
 ·have e : rd_T39 l ((l.findIdx (fun x : S39 => x.f0 == n) : Nat) : Int) = l[l.findIdx (fun x : S39 => x.f0 == n)] := by
   simp [rd_T39, List.getD_eq_getElem?_getD, hx]
  rw [if_pos hx, if_neg (by omega), if_pos (by omega), if_pos (by omega), hl, List.getElem?_eq_getElem hx, e, copy_is _ (by have := h.2 _ (List.getElem_mem hx); omega)]; rfl
 ·rw [if_neg hx, if_pos (by omega), hl, List.getElem?_eq_none (by omega)]; rfl
theorem ev_ref06_Get_l0 (n : Int) (suf : List Nm) : ∀ (pre : List Nm), (pre ++ suf).length < 100000 → (∀ x ∈ suf, x.f1.f2.length ≤ 100000) →
  Ev (fun k => ref06_Get.l0 k (pre ++ suf) n (pre.length : Int)) (gotN (look kN suf n)) := by
 induction suf with
 | nil =>
  intro pre h hs; refine Ev.step (fun k => by rw [ref06_Get.l0]) ?_; simp only [end_ge, ↓reduceIte]; exact Ev.now _
 | cons x suf ih =>
  intro pre h hs; have e2 := ih (pre ++ [x]) (by rw [← List.append_cons]; exact h) (fun y hy => hs y (List.mem_cons_of_mem _ hy)); rw [← List.append_cons pre x suf] at e2; refine Ev.step (fun k => by rw [ref06_Get.l0]) ?_; have ho := ref_copy_is x.f1 (by have := hs x List.mem_cons_self; omega); rw [look_cons]
  by_cases hx : x.f0 = n
  ·have hk : kN x = n := hx; simp only [mid_lt, nat_ge, rdN, ho, Option.bind_some, hx, hk, ↓reduceIte]; exact Ev.now _
  ·have hk : ¬ kN x = n := hx; simp only [mid_lt, nat_ge, rdN, hx, hk, ↓reduceIte, mid_next pre x suf (by omega)]; exact e2
theorem ev_ref06_Get (l : List Nm) (n : Int) (h : Sm l) : Ev (fun k => ref06_Get.f k l n) (gotN (look kN l n)) := by
 have h1 := h.1; exact ev_ref06_Get_l0 n l [] (by simpa using (by omega : l.length < 100000)) (fun x hx => h.2 x hx)
def MayN (x : Nm) : Prop := 0 ≤ x.f0 ∧ x.f0 < 8 ∧ RightS x.f1
def RightN (l : List Nm) : Prop := Ris kN l ∧ ∀ x ∈ l, MayN x
/-- One endpoint, seen by the document's answer: may it be, behind what it is behind of? -/
theorem ev_ref06_Right_l0 (suf : List Nm) : ∀ (p : List Nm) (y : Nm), ((p ++ [y]) ++ suf).length < 100000 → (∀ x ∈ suf, x.f1.f2.length ≤ 100000) →
  ∃ r, Ev (fun k => ref06_Right.l0 k ((p ++ [y]) ++ suf) ((p ++ [y]).length : Int)) r ∧ (r = true ↔ Ris kN (y :: suf) ∧ ∀ x ∈ suf, MayN x) := by
 induction suf with
 | nil =>
  intro p y h hs; refine ⟨true, Ev.step (fun k => by rw [ref06_Right.l0]) ?_, by simp [ris_one]⟩; simp only [end_ge, ↓reduceIte]; exact Ev.now _
 | cons x suf ih =>
  intro p y h hs
  have rd1 : rd_T39 ((p ++ [y]) ++ x :: suf) ((p.length : Nat) : Int) = y := by rw [← List.append_cons]; exact rdN p y (x :: suf)
  by_cases h0 : x.f0 < 0
  ·refine ⟨false, Ev.step (fun k => by rw [ref06_Right.l0]) ?_, ?_⟩
   ·simp only [mid_lt, nat_ge, ↓reduceIte, rdN, h0]; exact Ev.now _
   ·simp only [Bool.false_eq_true, false_iff]; rintro ⟨_, h2⟩; have := (h2 x (by simp)).1
    omega
  ·by_cases h8 : x.f0 ≥ 8
   ·refine ⟨false, Ev.step (fun k => by rw [ref06_Right.l0]) ?_, ?_⟩
    ·simp only [mid_lt, nat_ge, ↓reduceIte, rdN, h0, h8]; exact Ev.now _
    ·simp only [Bool.false_eq_true, false_iff]; rintro ⟨_, h2⟩; have := (h2 x (by simp)).2.1
     omega
   ·by_cases hk : y.f0 ≥ x.f0
    ·refine ⟨false, Ev.step (fun k => by rw [ref06_Right.l0]) ?_, ?_⟩
     ·simp only [mid_lt, nat_ge, ↓reduceIte, rdN, h0, h8, pos_mid, mid_prev p y x suf (by omega), prev_ge, rd1, hk]; exact Ev.now _
     ·simp only [Bool.false_eq_true, false_iff, ris_cons2]; rintro ⟨⟨h1, _⟩, _⟩
      unfold kN at h1; omega
    ·obtain ⟨m, hm, hm2⟩ := ev_ref05_Right x.f1 (by have := hs x List.mem_cons_self; omega)
     cases m with
     | false =>
      refine ⟨false, Ev.step (fun k => by rw [ref06_Right.l0]) ?_, ?_⟩
      ·simp only [mid_lt, nat_ge, ↓reduceIte, rdN, h0, h8, pos_mid, mid_prev p y x suf (by omega), prev_ge, rd1, hk]; refine Ev.bind hm ?_; simp only [Bool.false_eq_true, ↓reduceIte]; exact Ev.now _
      ·simp only [Bool.false_eq_true, false_iff]; rintro ⟨_, h2⟩; have := hm2.2 (h2 x (by simp)).2.2
       simp at this
     | true =>
      obtain ⟨r, hr, hi⟩ := ih (p ++ [y]) x (by rw [← List.append_cons]; exact h) (fun z hz => hs z (List.mem_cons_of_mem _ hz)); refine ⟨r, Ev.step (fun k => by rw [ref06_Right.l0]) ?_, ?_⟩
      ·simp only [mid_lt, nat_ge, ↓reduceIte, rdN, h0, h8, pos_mid, mid_prev p y x suf (by omega), prev_ge, rd1, hk, mid_next (p ++ [y]) x suf (by omega)]; refine Ev.bind hm ?_; simp only [↓reduceIte]; rw [← List.append_cons (p ++ [y]) x suf] at hr; exact hr
      ·rw [hi, ris_cons2]; have hm3 := hm2.1 rfl
       constructor
       ·rintro ⟨h1, h2⟩; exact ⟨⟨by unfold kN; omega, h1⟩, all_cons ⟨by omega, by omega, hm3⟩ (fun z hz => h2 z hz)⟩
       ·rintro ⟨⟨_, h1⟩, h2⟩; exact ⟨h1, fun z hz => h2 z (by simp [hz])⟩
theorem ev_ref06_Right (l : List Nm) (h : Sm l) : ∃ r, Ev (fun k => ref06_Right.f k l) r ∧ (r = true ↔ RightN l) := by
 have hh := h.1
 unfold ref06_Right.f
 cases l with
 | nil =>
  refine ⟨true, Ev.step (fun k => by rw [ref06_Right.l0]) ?_, by simp [RightN, ris_nil]⟩; simp only [List.length_nil, Int.natCast_zero, Int.lt_irrefl, ↓reduceIte]; exact Ev.now _
 | cons x l =>
  have e0 : (0 : Int) < ((x :: l).length : Int) := len_pos x l; have r0 : rd_T39 (x :: l) 0 = x := rfl
  by_cases h0 : x.f0 < 0
  ·refine ⟨false, Ev.step (fun k => by rw [ref06_Right.l0]) ?_, ?_⟩
   ·simp only [e0, Int.le_refl, ↓reduceIte, r0, h0]; exact Ev.now _
   ·simp only [Bool.false_eq_true, false_iff]; rintro ⟨_, h2⟩; have := (h2 x (by simp)).1
    omega
  ·by_cases h8 : x.f0 ≥ 8
   ·refine ⟨false, Ev.step (fun k => by rw [ref06_Right.l0]) ?_, ?_⟩
    ·simp only [e0, Int.le_refl, ↓reduceIte, r0, h0, h8]; exact Ev.now _
    ·simp only [Bool.false_eq_true, false_iff]; rintro ⟨_, h2⟩; have := (h2 x (by simp)).2.1
     omega
   ·obtain ⟨m, hm, hm2⟩ := ev_ref05_Right x.f1 (by have := h.2 x List.mem_cons_self; omega)
    cases m with
    | false =>
     refine ⟨false, Ev.step (fun k => by rw [ref06_Right.l0]) ?_, ?_⟩
     ·simp only [e0, Int.le_refl, ↓reduceIte, r0, h0, h8, gt_iff_lt, Int.lt_irrefl]; refine Ev.bind hm ?_; simp only [Bool.false_eq_true, ↓reduceIte]; exact Ev.now _
     ·simp only [Bool.false_eq_true, false_iff]; rintro ⟨_, h2⟩; have := hm2.2 (h2 x (by simp)).2.2
      simp at this
    | true =>
     obtain ⟨r, hr, hi⟩ := ev_ref06_Right_l0 l [] x (by simp at hh ⊢; omega) (fun z hz => h.2 z (List.mem_cons_of_mem _ hz)); refine ⟨r, Ev.step (fun k => by rw [ref06_Right.l0]) ?_, ?_⟩
     ·simp only [e0, Int.le_refl, ↓reduceIte, r0, h0, h8, gt_iff_lt, Int.lt_irrefl, wrap01]; refine Ev.bind hm ?_; simp only [↓reduceIte]; exact hr
     ·rw [hi]; have hm3 := hm2.1 rfl
      constructor
      ·rintro ⟨h1, h2⟩; exact ⟨h1, all_cons ⟨by omega, by omega, hm3⟩ (fun z hz => h2 z hz)⟩
      ·rintro ⟨h1, h2⟩; exact ⟨h1, fun z hz => h2 z (by simp [hz])⟩
theorem lenS {s : St} (h : RightS s) : s.f2.length ≤ 12 := right_len h.2.2.2.2
theorem rightN_len {l : List Nm} (h : RightN l) : l.length ≤ 8 := ris_length 8 l 0 h.1 (fun x hx => by have := h.2 x hx; unfold MayN at this; unfold kN; omega)
theorem rightN_sm {l : List Nm} (h : RightN l) : Sm l := ⟨by have := rightN_len h; omega, fun x hx => by have := lenS (h.2 x hx).2.2; omega⟩
abbrev Dg := S60
theorem rdDg (pre : List Dg) (x : Dg) (suf : List Dg) : rd_T60 (pre ++ x :: suf) ((pre.length : Nat) : Int) = x := getD_mid _ pre x suf
theorem rdDg0 (x : Dg) (suf : List Dg) : rd_T60 (x :: suf) 0 = x := rfl
theorem rdDg1 (p : List Dg) (y x : Dg) (s : List Dg) : rd_T60 ((p ++ [y]) ++ x :: s) ((p.length : Nat) : Int) = y := by rw [← List.append_cons]; exact rdDg p y (x :: s)
def kD (x : Dg) : Int := x.f0
def OkD (x : Dg) : Prop := 0 ≤ x.f0 ∧ x.f0 < 8 ∧ 1 ≤ x.f1 ∧ x.f1 ≤ 1099511627776 ∧ 0 ≤ x.f2 ∧ x.f2 ≤ 1099511627776
def RightD (l : List Dg) : Prop := Ris kD l ∧ ∀ x ∈ l, OkD x
theorem ev_ref07_Right_l0 (suf : List Dg) : ∀ (p : List Dg) (y : Dg), ((p ++ [y]) ++ suf).length < 4611686018427387904 →
  ∃ r, Ev (fun k => ref07_Right.l0 k ((p ++ [y]) ++ suf) ((p ++ [y]).length : Int)) r ∧ (r = true ↔ Ris kD (y :: suf) ∧ ∀ x ∈ suf, OkD x) := by
 induction suf with
 | nil =>
  intro p y h; refine ⟨true, Ev.step (fun k => by rw [ref07_Right.l0]) ?_, by simp [ris_one]⟩; simp only [end_ge, ↓reduceIte]; exact Ev.now _
 | cons x suf ih =>
  intro p y h
  have no : ¬ OkD x ∨ y.f0 ≥ x.f0 → (false = true ↔ Ris kD (y :: x :: suf) ∧ ∀ z ∈ x :: suf, OkD z) := by
   intro hh; simp only [Bool.false_eq_true, false_iff, ris_cons2]; rintro ⟨⟨h1, _⟩, h2⟩
   rcases hh with hh | hh
   ·exact hh (h2 x (by simp))
   ·unfold kD at h1; omega
  by_cases h1 : x.f0 < 0
  ·refine ⟨false, Ev.step (fun k => by rw [ref07_Right.l0]) ?_, no (.inl (by unfold OkD; omega))⟩; simp only [mid_lt, nat_ge, ↓reduceIte, rdDg, h1]; exact Ev.now _
  ·by_cases h2 : x.f0 ≥ 8
   ·refine ⟨false, Ev.step (fun k => by rw [ref07_Right.l0]) ?_, no (.inl (by unfold OkD; omega))⟩; simp only [mid_lt, nat_ge, ↓reduceIte, rdDg, h1, h2]; exact Ev.now _
   ·by_cases hk : y.f0 ≥ x.f0
    ·refine ⟨false, Ev.step (fun k => by rw [ref07_Right.l0]) ?_, no (.inr hk)⟩; simp only [mid_lt, nat_ge, ↓reduceIte, rdDg, h1, h2, pos_mid, mid_prev p y x suf (by omega), prev_ge, rdDg1, hk]; exact Ev.now _
    ·by_cases hok : OkD x
     ·obtain ⟨r, hr, hi⟩ := ih (p ++ [y]) x (by rw [← List.append_cons]; exact h); refine ⟨r, Ev.step (fun k => by rw [ref07_Right.l0]) ?_, ?_⟩
      ·obtain ⟨o1, o2, o3, o4, o5, o6⟩ := hok; simp only [mid_lt, nat_ge, ↓reduceIte, rdDg, h1, h2, pos_mid, mid_prev p y x suf (by omega), prev_ge, rdDg1, hk, mid_next (p ++ [y]) x suf (by omega), show ¬ x.f1 < 1 by omega, show ¬ x.f1 > 1099511627776 by omega, show ¬ x.f2 < 0 by omega, show ¬ x.f2 > 1099511627776 by omega]; rw [← List.append_cons (p ++ [y]) x suf] at hr; exact hr
      ·rw [hi, ris_cons2]
       constructor
       ·rintro ⟨h3, h4⟩; exact ⟨⟨by unfold kD; omega, h3⟩, all_cons (hok) (fun z hz => h4 z hz)⟩
       ·rintro ⟨⟨_, h3⟩, h4⟩; exact ⟨h3, fun z hz => h4 z (by simp [hz])⟩
     ·refine ⟨false, Ev.step (fun k => by rw [ref07_Right.l0]) ?_, no (.inl hok)⟩; simp only [mid_lt, nat_ge, ↓reduceIte, rdDg, h1, h2, pos_mid, mid_prev p y x suf (by omega), prev_ge, rdDg1, hk]
      have : x.f1 < 1 ∨ x.f1 > 1099511627776 ∨ x.f2 < 0 ∨ x.f2 > 1099511627776 := by unfold OkD at hok; omega
      by_cases q1 : x.f1 < 1
      ·simp only [q1, ↓reduceIte]; exact Ev.now _
      ·by_cases q2 : x.f1 > 1099511627776
       ·simp only [q1, q2, ↓reduceIte]; exact Ev.now _
       ·by_cases q3 : x.f2 < 0
        ·simp only [q1, q2, q3, ↓reduceIte]; exact Ev.now _
        ·have q4 : x.f2 > 1099511627776 := by omega
         simp only [q1, q2, q3, q4, ↓reduceIte]; exact Ev.now _
theorem ev_ref07_Right (l : List Dg) (h : l.length < 4611686018427387904) : ∃ r, Ev (fun k => ref07_Right.f k l) r ∧ (r = true ↔ RightD l) := by
 cases l with
 | nil =>
  refine ⟨true, Ev.step (g := fun k => ref07_Right.l0 k [] 0) (fun k => by rw [ref07_Right.l0]) ?_, by simp [RightD, ris_nil]⟩; simp only [List.length_nil, Int.natCast_zero, Int.lt_irrefl, ↓reduceIte]; exact Ev.now _
 | cons x l =>
  have e0 : (0 : Int) < ((x :: l).length : Int) := len_pos x l
  by_cases hok : OkD x
  ·obtain ⟨r, hr, hi⟩ := ev_ref07_Right_l0 l [] x h; refine ⟨r, Ev.step (g := fun k => ref07_Right.l0 k (x :: l) 0) (fun k => by rw [ref07_Right.l0]) ?_, ?_⟩
   ·obtain ⟨o1, o2, o3, o4, o5, o6⟩ := hok; simp only [e0, Int.le_refl, ↓reduceIte, rdDg0, gt_iff_lt, Int.lt_irrefl, wrap01, show ¬ x.f0 < 0 by omega, show ¬ x.f0 ≥ 8 by omega, show ¬ x.f1 < 1 by omega, show ¬ 1099511627776 < x.f1 by omega, show ¬ x.f2 < 0 by omega, show ¬ 1099511627776 < x.f2 by omega]; exact hr
   ·rw [hi]
    constructor
    ·rintro ⟨h3, h4⟩; exact ⟨h3, all_cons (hok) (fun z hz => h4 z hz)⟩
    ·rintro ⟨h3, h4⟩; exact ⟨h3, fun z hz => h4 z (by simp [hz])⟩
  ·refine ⟨false, Ev.step (g := fun k => ref07_Right.l0 k (x :: l) 0) (fun k => by rw [ref07_Right.l0]) ?_, ?_⟩
   ·simp only [e0, Int.le_refl, ↓reduceIte, rdDg0, gt_iff_lt, Int.lt_irrefl]
    by_cases q5 : x.f0 < 0
    ·simp only [q5, ↓reduceIte]; exact Ev.now _
    ·by_cases q6 : x.f0 ≥ 8
     ·simp only [q5, q6, ↓reduceIte]; exact Ev.now _
     ·by_cases q1 : x.f1 < 1
      ·simp only [q5, q6, q1, ↓reduceIte]; exact Ev.now _
      ·by_cases q2 : 1099511627776 < x.f1
       ·simp only [q5, q6, q1, q2, ↓reduceIte]; exact Ev.now _
       ·by_cases q3 : x.f2 < 0
        ·simp only [q5, q6, q1, q2, q3, ↓reduceIte]; exact Ev.now _
        ·have q4 : 1099511627776 < x.f2 := by unfold OkD at hok; omega
         simp only [q5, q6, q1, q2, q3, q4, ↓reduceIte]; exact Ev.now _
   ·simp only [Bool.false_eq_true, false_iff]
    exact fun h2 => hok (h2.2 x (by simp))
abbrev Dl := S53
theorem rdDl (pre : List Dl) (x : Dl) (suf : List Dl) : rd_T53 (pre ++ x :: suf) ((pre.length : Nat) : Int) = x := getD_mid _ pre x suf
theorem rdDl0 (x : Dl) (suf : List Dl) : rd_T53 (x :: suf) 0 = x := rfl
theorem rdDl1 (p : List Dl) (y x : Dl) (s : List Dl) : rd_T53 ((p ++ [y]) ++ x :: s) ((p.length : Nat) : Int) = y := by rw [← List.append_cons]; exact rdDl p y (x :: s)
def kL (x : Dl) : Int := x.f0
def upS (s : St) (v : Int) : St := ⟨s.f0, s.f1, s.f2.filter (fun x => !decide (x.f1 ≤ v))⟩
def oneD (v : List Nm) (a : Dg) : List Dl := match look kN v a.f0 with
 | none => []
 | some x => if x.f1.f0 < a.f1 then [] else if x.f1.f0 = a.f1 then [⟨a.f0, a.f2, upS x.f1 a.f2⟩] else [⟨a.f0, 0, x.f1⟩]
def pickD (v : List Nm) (l : List Dg) : List Dl := l.flatMap (oneD v)
theorem pick_cons (v : List Nm) (a : Dg) (l : List Dg) : pickD v (a :: l) = oneD v a ++ pickD v l := rfl
theorem got_none : gotN none = (0, 0, [], false) := rfl
theorem got_some (y : Nm) : gotN (some y) = (y.f1.f0, y.f1.f1, y.f1.f2, true) := rfl
theorem ev_delta_Pick_l0 (v : List Nm) (hv : Sm v) (suf : List Dg) : ∀ (pre : List Dg) (acc : List Dl), (pre ++ suf).length < 100000 → acc.length + suf.length < 200000 →
  Ev (fun k => delta_Pick.l0 k v acc (pre ++ suf) ((pre ++ suf).length : Int) (pre.length : Int)) (acc ++ pickD v suf) := by
 induction suf with
 | nil =>
  intro pre acc h ha; refine Ev.step (fun k => by rw [delta_Pick.l0]) ?_; simp only [end_ge, ↓reduceIte]
  show Ev _ (acc ++ [])
  rw [List.append_nil]; exact Ev.now _
 | cons x suf ih =>
  intro pre acc h ha
  have e2 : ∀ acc' : List Dl, acc'.length + suf.length < 200000 → Ev (fun k => delta_Pick.l0 k v acc' (pre ++ x :: suf) ((pre ++ x :: suf).length : Int) (((pre ++ [x]).length : Nat) : Int)) (acc' ++ pickD v suf) := fun acc' h' => by
   have e := ih (pre ++ [x]) acc' (by rw [← List.append_cons]; exact h) h'; rw [← List.append_cons pre x suf] at e; exact e
  rw [List.length_cons] at ha
  have hl : acc.length < 2513169434916 := by omega
  rw [pick_cons, ← List.append_assoc]; refine Ev.step (fun k => by rw [delta_Pick.l0]) ?_; have hg := view_Get_is v x.f0 hv; simp only [mid_lt, nat_ge, rdDg, ↓reduceIte, hg, Option.bind_some]
  unfold oneD
  cases hk : look kN v x.f0 with
  | none =>
   simp only [got_none, Bool.false_eq_true, ↓reduceIte, List.append_nil]; refine Ev.step (fun k => by rw [delta_Pick.j1]) ?_; simp only [↓reduceIte, mid_next pre x suf (by omega)]; exact e2 acc (by omega)
  | some y =>
   simp only [got_some, ↓reduceIte]
   show Ev (fun k => delta_Pick.j1 k v acc (pre ++ x :: suf) _ _ (decide (y.f1.f0 < x.f1)) x.f0 x.f1 x.f2 y.f1.f0 y.f1.f1 y.f1.f2) _
   refine Ev.step (fun k => by rw [delta_Pick.j1]) ?_
   by_cases h1 : y.f1.f0 < x.f1
   ·rw [if_pos h1, List.append_nil]; simp only [decide_eq_true h1, ↓reduceIte, mid_next pre x suf (by omega)]; exact e2 acc (by omega)
   ·rw [if_neg h1]; simp only [decide_eq_false h1, Bool.false_eq_true, ↓reduceIte]
    by_cases h2 : y.f1.f0 = x.f1
    ·have ho := above_s y.f1 x.f2 (by have := hv.2 y (look_mem hk).1; omega); simp only [if_pos h2, ho, Option.bind_some, hl, ↓reduceIte, mid_next pre x suf (by omega)]; exact e2 (acc ++ [⟨x.f0, x.f2, upS y.f1 x.f2⟩]) (by rw [List.length_append, List.length_singleton]; omega)
    ·simp only [if_neg h2, hl, ↓reduceIte, mid_next pre x suf (by omega)]; exact e2 (acc ++ [⟨x.f0, 0, y.f1⟩]) (by rw [List.length_append, List.length_singleton]; omega)
theorem ev_delta_Pick (v : List Nm) (l : List Dg) (hv : Sm v) (hl : l.length < 100000) : Ev (fun k => delta_Pick.f k v l) (pickD v l) :=
 ev_delta_Pick_l0 v hv l [] [] hl (by rw [List.length_nil]; omega)
theorem ev_ref08_Pick_l0 (v : List Nm) (hv : Sm v) (suf : List Dg) : ∀ (pre : List Dg) (acc : List Dl), (pre ++ suf).length < 100000 → acc.length + suf.length < 200000 →
  Ev (fun k => ref08_Pick.l0 k v (pre ++ suf) acc (pre.length : Int)) (acc ++ pickD v suf) := by
 induction suf with
 | nil =>
  intro pre acc h ha; refine Ev.step (fun k => by rw [ref08_Pick.l0]) ?_; simp only [end_ge, ↓reduceIte]
  show Ev _ (acc ++ [])
  rw [List.append_nil]; exact Ev.now _
 | cons x suf ih =>
  intro pre acc h ha
  have e2 : ∀ acc' : List Dl, acc'.length + suf.length < 200000 → Ev (fun k => ref08_Pick.l0 k v (pre ++ x :: suf) acc' (((pre ++ [x]).length : Nat) : Int)) (acc' ++ pickD v suf) := fun acc' h' => by
   have e := ih (pre ++ [x]) acc' (by rw [← List.append_cons]; exact h) h'; rw [← List.append_cons pre x suf] at e; exact e
  rw [List.length_cons] at ha
  have hl : acc.length < 2513169434916 := by omega
  rw [pick_cons, ← List.append_assoc]; refine Ev.step (fun k => by rw [ref08_Pick.l0]) ?_; simp only [mid_lt, nat_ge, rdDg, ↓reduceIte]; refine Ev.bind (ev_ref06_Get v x.f0 hv) ?_
  unfold oneD
  cases hk : look kN v x.f0 with
  | none =>
   simp only [got_none, Bool.false_eq_true, ↓reduceIte, List.append_nil]; refine Ev.step (fun k => by rw [ref08_Pick.j1]) ?_; simp only [↓reduceIte, mid_next pre x suf (by omega)]; exact e2 acc (by omega)
  | some y =>
   simp only [got_some, ↓reduceIte]
   show Ev (fun k => ref08_Pick.j1 k v (pre ++ x :: suf) acc _ (decide (y.f1.f0 < x.f1)) y.f1.f0 y.f1.f1 y.f1.f2) _
   refine Ev.step (fun k => by rw [ref08_Pick.j1]) ?_
   by_cases h1 : y.f1.f0 < x.f1
   ·rw [if_pos h1, List.append_nil]; simp only [decide_eq_true h1, ↓reduceIte, mid_next pre x suf (by omega)]; exact e2 acc (by omega)
   ·rw [if_neg h1]; simp only [decide_eq_false h1, Bool.false_eq_true, mid_lt, nat_ge, rdDg, ↓reduceIte]
    by_cases h2 : y.f1.f0 = x.f1
    ·have h3 : ¬ y.f1.f0 > x.f1 := by omega
     simp only [if_pos h2, if_neg h3]; refine Ev.bind (ev_ref05_Above y.f1 x.f2 (by have := hv.2 y (look_mem hk).1; omega)) ?_; simp only [hl, ↓reduceIte, mid_next pre x suf (by omega)]; exact e2 (acc ++ [⟨x.f0, x.f2, upS y.f1 x.f2⟩]) (by rw [List.length_append, List.length_singleton]; omega)
    ·have h3 : y.f1.f0 > x.f1 := by omega
     simp only [if_neg h2, if_pos h3, hl, ↓reduceIte, mid_next pre x suf (by omega)]; exact e2 (acc ++ [⟨x.f0, 0, y.f1⟩]) (by rw [List.length_append, List.length_singleton]; omega)
theorem ev_ref08_Pick (v : List Nm) (l : List Dg) (hv : Sm v) (hl : l.length < 100000) : Ev (fun k => ref08_Pick.f k v l) (pickD v l) :=
 ev_ref08_Pick_l0 v hv l [] [] hl (by rw [List.length_nil]; omega)
def fullD (v : List Nm) : List Dl := v.map (fun x => ⟨x.f0, 0, x.f1⟩)
theorem ev_delta_Full_l0 (suf : List Nm) : ∀ (pre : List Nm) (acc : List Dl), (pre ++ suf).length < 100000 → acc.length + suf.length < 200000 → (∀ x ∈ suf, x.f1.f2.length ≤ 100000) →
  Ev (fun k => delta_Full.l0 k acc (pre ++ suf) ((pre ++ suf).length : Int) (pre.length : Int)) (acc ++ fullD suf) := by
 induction suf with
 | nil =>
  intro pre acc h ha hs; refine Ev.step (fun k => by rw [delta_Full.l0]) ?_; simp only [end_ge, ↓reduceIte]
  show Ev _ (acc ++ [])
  rw [List.append_nil]; exact Ev.now _
 | cons x suf ih =>
  intro pre acc h ha hs; rw [List.length_cons] at ha; have e2 := ih (pre ++ [x]) (acc ++ [⟨x.f0, 0, x.f1⟩]) (by rw [← List.append_cons]; exact h) (by rw [List.length_append, List.length_singleton]; omega) (fun y hy => hs y (List.mem_cons_of_mem _ hy)); rw [← List.append_cons pre x suf, List.append_assoc] at e2
  have hl : acc.length < 2513169434916 := by omega
  have ho := copy_is x.f1 (by have := hs x List.mem_cons_self; omega); refine Ev.step (fun k => by rw [delta_Full.l0]) ?_; simp only [mid_lt, nat_ge, rdN, ho, Option.bind_some, hl, ↓reduceIte, mid_next pre x suf (by omega)]; exact e2
theorem ev_delta_Full (v : List Nm) (h : Sm v) : Ev (fun k => delta_Full.f k v) (fullD v) := by
 have h1 := h.1; exact ev_delta_Full_l0 v [] [] (by simpa using (by omega : v.length < 100000)) (by rw [List.length_nil]; omega) h.2
theorem ev_ref08_Full_l0 (suf : List Nm) : ∀ (pre : List Nm) (acc : List Dl), (pre ++ suf).length < 100000 → acc.length + suf.length < 200000 → (∀ x ∈ suf, x.f1.f2.length ≤ 100000) →
  Ev (fun k => ref08_Full.l0 k (pre ++ suf) acc (pre.length : Int)) (acc ++ fullD suf) := by
 induction suf with
 | nil =>
  intro pre acc h ha hs; refine Ev.step (fun k => by rw [ref08_Full.l0]) ?_; simp only [end_ge, ↓reduceIte]
  show Ev _ (acc ++ [])
  rw [List.append_nil]; exact Ev.now _
 | cons x suf ih =>
  intro pre acc h ha hs; rw [List.length_cons] at ha; have e2 := ih (pre ++ [x]) (acc ++ [⟨x.f0, 0, x.f1⟩]) (by rw [← List.append_cons]; exact h) (by rw [List.length_append, List.length_singleton]; omega) (fun y hy => hs y (List.mem_cons_of_mem _ hy)); rw [← List.append_cons pre x suf, List.append_assoc] at e2
  have hl : acc.length < 2513169434916 := by omega
  have ho := ref_copy_is x.f1 (by have := hs x List.mem_cons_self; omega); refine Ev.step (fun k => by rw [ref08_Full.l0]) ?_; simp only [mid_lt, nat_ge, rdN, ho, Option.bind_some, hl, ↓reduceIte, mid_next pre x suf (by omega)]; exact e2
theorem ev_ref08_Full (v : List Nm) (h : Sm v) : Ev (fun k => ref08_Full.f k v) (fullD v) := by
 have h1 := h.1; exact ev_ref08_Full_l0 v [] [] (by simpa using (by omega : v.length < 100000)) (by rw [List.length_nil]; omega) h.2
theorem ev_sameD_l0 (suf : List Dl) : ∀ pre : List Dl, (pre ++ suf).length < 100000 → (∀ x ∈ suf, x.f2.f2.length ≤ 100000) →
  Ev (fun k => ref08_Same.l0 k (pre ++ suf) (pre ++ suf) (pre.length : Int)) true := by
 induction suf with
 | nil =>
  intro pre h hs; refine Ev.step (fun k => by rw [ref08_Same.l0]) ?_; simp only [end_ge, ↓reduceIte]; exact Ev.now _
 | cons x suf ih =>
  intro pre h hs; have e2 := ih (pre ++ [x]) (by rw [← List.append_cons]; exact h) (fun y hy => hs y (List.mem_cons_of_mem _ hy)); rw [← List.append_cons pre x suf] at e2; refine Ev.step (fun k => by rw [ref08_Same.l0]) ?_; simp only [mid_lt, nat_ge, rdDl, ↓reduceIte, mid_next pre x suf (by omega)]; refine Ev.bind (ev_ref05_same_true x.f2 (by have := hs x List.mem_cons_self; omega)) ?_; simp only [↓reduceIte]; exact e2
theorem ev_sameD_true (l : List Dl) (h : l.length < 100000) (hs : ∀ x ∈ l, x.f2.f2.length ≤ 100000) : Ev (fun k => ref08_Same.f k l l) true := by
 unfold ref08_Same.f
 simp only [↓reduceIte]; exact ev_sameD_l0 l [] h hs
def MayD (d : Dl) : Prop := 0 ≤ d.f0 ∧ d.f0 < 8 ∧ 0 ≤ d.f1 ∧ d.f1 ≤ 1099511627776 ∧ RightS d.f2 ∧ ∀ e ∈ d.f2.f2, d.f1 < e.f1
theorem ev_may_true {d : Dl} (h : MayD d) : Ev (fun k => delta_may.f k d.f0 d.f1 d.f2.f0 d.f2.f1 d.f2.f2) true := by
 obtain ⟨h0, h1, h2, h3, h4, h5⟩ := h; obtain ⟨r, e, q⟩ := ev_state_Right d.f2 (by have := lenS h4; omega); rw [q.2 h4] at e; have ha : (d.f2.f2.any (fun x => decide (x.f1 ≤ d.f1))) = false := List.any_eq_false.2 (fun x hx => by have := h5 x hx; simp; omega)
 unfold delta_may.f
 simp only [h0, h1, h2, h3, ↓reduceIte]; refine Ev.bind e ?_; simp only [ha, Bool.not_false, ↓reduceIte]; exact Ev.now _
theorem ev_deltaRight_l0 (suf : List Dl) : ∀ (p : List Dl) (y : Dl), ((p ++ [y]) ++ suf).length < 100000 → Ris kL (y :: suf) → (∀ x ∈ suf, MayD x) →
  Ev (fun k => delta_Right.l0 k ((p ++ [y]) ++ suf) ((p ++ [y]) ++ suf) (((p ++ [y]) ++ suf).length : Int) ((p ++ [y]).length : Int)) true := by
 induction suf with
 | nil =>
  intro p y h hr hs; refine Ev.step (fun k => by rw [delta_Right.l0]) ?_; simp only [end_ge, ↓reduceIte]; exact Ev.now _
 | cons x suf ih =>
  intro p y h hr hs; have e2 := ih (p ++ [y]) x (by rw [← List.append_cons]; exact h) (ris_tail hr) (fun z hz => hs z (List.mem_cons_of_mem _ hz)); rw [← List.append_cons (p ++ [y]) x suf] at e2
  have hk : ¬ y.f0 ≥ x.f0 := by have := ris_head hr x List.mem_cons_self; unfold kL at this; omega
  refine Ev.step (fun k => by rw [delta_Right.l0]) ?_; simp only [mid_lt, nat_ge, ↓reduceIte, rdDl]; refine Ev.bind (ev_may_true (hs x List.mem_cons_self)) ?_; simp only [↓reduceIte, pos_mid, mid_prev p y x suf (by omega), nat_ge, prev_ge, rdDl1, hk, mid_next (p ++ [y]) x suf (by omega)]; exact e2
theorem ev_deltaRight (l : List Dl) (h : l.length < 100000) (hr : Ris kL l) (hs : ∀ x ∈ l, MayD x) : Ev (fun k => delta_Right.f k l) true := by
 cases l with
 | nil =>
  refine Ev.step (g := fun k => delta_Right.l0 k [] [] 0 0) (fun k => by rw [delta_Right.l0]) ?_; simp only [Int.lt_irrefl, ↓reduceIte]; exact Ev.now _
 | cons x l =>
  have e2 := ev_deltaRight_l0 l [] x h hr (fun z hz => hs z (List.mem_cons_of_mem _ hz)); refine Ev.step (g := fun k => delta_Right.l0 k (x :: l) (x :: l) ((x :: l).length : Int) 0) (fun k => by rw [delta_Right.l0]) ?_; simp only [len_pos, Int.le_refl, ↓reduceIte, rdDl0, gt_iff_lt, Int.lt_irrefl, wrap01]; refine Ev.bind (ev_may_true (hs x List.mem_cons_self)) ?_; simp only [↓reduceIte]; exact e2
theorem one_mem {v : List Nm} (hv : RightN v) {a : Dg} (ha : OkD a) {d : Dl} (h : d ∈ oneD v a) : d.f0 = a.f0 ∧ MayD d := by
 obtain ⟨a0, a1, a2, a3, a4, a5⟩ := ha
 unfold oneD at h
 cases hk : look kN v a.f0 with
 | none => rw [hk] at h; simp at h
 | some x =>
  rw [hk] at h; have hx := (hv.2 x (look_mem hk).1).2.2; simp only at h
  by_cases h1 : x.f1.f0 < a.f1
  ·rw [if_pos h1] at h; simp at h
  ·rw [if_neg h1] at h
   by_cases h2 : x.f1.f0 = a.f1
   ·rw [if_pos h2] at h; rw [List.mem_singleton.1 h]; refine ⟨rfl, a0, a1, a4, a5, ⟨hx.1, hx.2.1, hx.2.2.1, hx.2.2.2.1, ris_filter _ hx.2.2.2.2.1, fun z hz => hx.2.2.2.2.2 z (List.mem_filter.1 hz).1⟩, fun e he => ?_⟩; have := (List.mem_filter.1 he).2
    simpa using this
   ·rw [if_neg h2] at h; rw [List.mem_singleton.1 h]; refine ⟨rfl, a0, a1, Int.le_refl _, (by decide : (0 : Int) ≤ 1099511627776), hx, fun e he => ?_⟩; have := hx.2.2.2.2.2 e he
    unfold MayE at this
    show (0 : Int) < e.f1
    omega
theorem one_len (v : List Nm) (a : Dg) : oneD v a = [] ∨ ∃ d, oneD v a = [d] := by
 unfold oneD
 cases look kN v a.f0 with
 | none => exact .inl rfl
 | some x =>
  simp only
  split
  ·exact .inl rfl
  ·split
   ·exact .inr ⟨_, rfl⟩
   ·exact .inr ⟨_, rfl⟩
theorem pick_right {v : List Nm} (hv : RightN v) : ∀ {l : List Dg}, RightD l → Ris kL (pickD v l) ∧ (∀ d ∈ pickD v l, MayD d) ∧ (∀ d ∈ pickD v l, ∃ a ∈ l, d.f0 = a.f0) ∧ (pickD v l).length ≤ l.length
 | [], _ => ⟨ris_nil, fun d hd => by simp [pickD] at hd, fun d hd => by simp [pickD] at hd, Nat.le_refl _⟩
 | a :: l, h => by
  obtain ⟨i0, i1, i2, i3⟩ := pick_right hv (l := l) ⟨ris_tail h.1, fun x hx => h.2 x (List.mem_cons_of_mem _ hx)⟩; rw [pick_cons]
  rcases one_len v a with ho | ⟨d, ho⟩
  ·rw [ho, List.nil_append]; exact ⟨i0, i1, fun d hd => by obtain ⟨b, hb, e⟩ := i2 d hd; exact ⟨b, List.mem_cons_of_mem _ hb, e⟩, by rw [List.length_cons]; omega⟩
  ·have hd := one_mem hv (h.2 a List.mem_cons_self) (d := d) (by rw [ho]; exact List.mem_singleton.2 rfl); rw [ho, List.singleton_append]; refine ⟨ris_cons.2 ⟨fun y hy => ?_, i0⟩, fun y hy => ?_, fun y hy => ?_, by rw [List.length_cons, List.length_cons]; omega⟩
   ·obtain ⟨b, hb, e⟩ := i2 y hy; have := ris_head h.1 b hb
    unfold kD at this
    unfold kL
    rw [hd.1, e]; exact this
   ·rcases List.mem_cons.1 hy with rfl | hy
    ·exact hd.2
    ·exact i1 y hy
   ·rcases List.mem_cons.1 hy with rfl | hy
    ·exact ⟨a, List.mem_cons_self, hd.1⟩
    ·obtain ⟨b, hb, e⟩ := i2 y hy; exact ⟨b, List.mem_cons_of_mem _ hb, e⟩
theorem full_right {v : List Nm} (hv : RightN v) : Ris kL (fullD v) ∧ ∀ d ∈ fullD v, MayD d := by
 refine ⟨List.Pairwise.map _ (fun a b h => h) hv.1, fun d hd => ?_⟩; obtain ⟨x, hx, rfl⟩ := List.mem_map.1 hd; obtain ⟨h0, h1, h2⟩ := hv.2 x hx; refine ⟨h0, h1, Int.le_refl _, (by decide : (0 : Int) ≤ 1099511627776), h2, fun e he => ?_⟩; have := h2.2.2.2.2.2 e he
 unfold MayE at this
 show (0 : Int) < e.f1
 omega
theorem alive08 : Ev (fun k => law08_alive.f k) true := Ev.of (fun k => law08_alive.mono k) (k := 60) (by decide +kernel)
theorem in_view {l : List Nm} (h : l.length ≤ maxLen ∧ l.length * 48 ≤ 140737488351232 ∧ ∀ x_ ∈ l, G39 x_) : l.length < 4611686018427387904 ∧ inN l := ⟨by have := h.2.1; omega, fun x hx => inS (h.2.2 x hx).2⟩
theorem picks08_j0 (v : List Nm) (l : List Dg) (g : Bool) (h : g = false → RightN v ∧ RightD l ∧ l.length ≤ 40) : Ev (fun k => law08_DeltaPicks.j0 k v l g) true := by
 refine Ev.step (fun k => by rw [law08_DeltaPicks.j0]) ?_
 cases g with
 | true => simp only [↓reduceIte]; exact Ev.now _
 | false =>
  obtain ⟨hv, hl, hn⟩ := h rfl; have sv := rightN_sm hv; obtain ⟨p0, p1, p2, p3⟩ := pick_right hv hl; obtain ⟨f0, f1⟩ := full_right hv
  have fl : (fullD v).length < 100000 := by have := sv.1; unfold fullD; rw [List.length_map]; omega
  simp only [Bool.false_eq_true, ↓reduceIte]; refine Ev.bind (ev_delta_Pick v l sv (by omega)) (Ev.bind (ev_ref08_Pick v l sv (by omega)) (Ev.bind (ev_sameD_true _ (by omega) (fun x hx => by have := lenS (p1 x hx).2.2.2.2.1; omega)) ?_)); simp only [↓reduceIte]; refine Ev.bind (ev_delta_Full v sv) (Ev.bind (ev_ref08_Full v sv) (Ev.bind (ev_sameD_true _ fl (fun x hx => by have := lenS (f1 x hx).2.2.2.2.1; omega)) ?_)); simp only [↓reduceIte]; refine Ev.bind (ev_deltaRight _ (by omega) p0 p1) ?_; simp only [↓reduceIte]; exact Ev.bind (ev_delta_Full v sv) (Ev.bind (ev_deltaRight _ fl f0 f1) (Ev.now _))
theorem DeltaPicks : ∀ (x0 : List S39) (x1 : List S60), (x0.length ≤ maxLen ∧ x0.length * 48 ≤ 140737488351232 ∧ ∀ x_ ∈ x0, G39 x_) → (x1.length ≤ maxLen ∧ x1.length * 24 ≤ 140737488351232 ∧ ∀ x_ ∈ x1, G60 x_) → ∃ k, law08_DeltaPicks.f k x0 x1 = some true := by
 intro v l hv hl; obtain ⟨b1, b2⟩ := in_view hv
 apply Ev.get
 unfold law08_DeltaPicks.f
 refine Ev.bind alive08 ?_; simp only [↓reduceIte]; have no := picks08_j0 v l true (fun e => absurd e (by decide)); obtain ⟨g, eg, qg⟩ := ev_ref06_Great v b1 b2; refine Ev.bind eg ?_
 cases g with
 | true => simp only [↓reduceIte]; exact no
 | false =>
  simp only [Bool.false_eq_true, ↓reduceIte]
  by_cases hn : (l.length : Int) > 40
  ·simp only [if_pos hn]; exact no
  ·simp only [if_neg hn]; obtain ⟨r1, e1, q1⟩ := ev_ref06_Right v (qg rfl); refine Ev.bind e1 ?_
   cases r1 with
   | false => simp only [Bool.false_eq_true, ↓reduceIte]; exact no
   | true =>
    simp only [↓reduceIte]; obtain ⟨r2, e2, q2⟩ := ev_ref07_Right l (by omega); refine Ev.bind e2 ?_; exact picks08_j0 v l (!r2) (fun e => ⟨q1.1 rfl, q2.1 (by simpa using e), by omega⟩)
end Go.Proofs.Ytgipbmjkgciccaa.Pl

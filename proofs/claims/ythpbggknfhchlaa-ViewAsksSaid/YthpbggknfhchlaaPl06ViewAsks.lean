/- ViewAsks's plain law: any view is asked as the document says: for all views. No condition. -/
import Derived.Test.YthpbggknfhchlaaOps
import Derived.Test.YthpbggknfhchlaaPLaw06ViewAsks
namespace Go.Proofs.Ythpbggknfhchlaa.Pl
open Go.RowKit Go.Proofs.Ythpbggknfhchlaa.P Go.Proofs.YthpbggknfhchlaaW.PrintWords Go.Proofs.YthpbggknfhchlaaW.PrintLast Go.Proofs.YthpbggknfhchlaaW.PrintMore
set_option linter.unusedSimpArgs false
set_option linter.unusedVariables false
abbrev E := S60
theorem wrap_id (x : Int) (h0 : -9223372036854775808 ≤ x) (h1 : x ≤ 9223372036854775807) : wrap64 x = x := by unfold wrap64; omega
theorem wrap_nat (n : Nat) (h : n < 9223372036854775807) : wrap64 ((n : Int) + 1) = ((n + 1 : Nat) : Int) := by unfold wrap64; omega
theorem getD_mid {α : Type} (z : α) (pre : List α) (x : α) (suf : List α) : (pre ++ x :: suf).getD ((pre.length : Nat) : Int).toNat z = x := by
 simp [List.getD_eq_getElem?_getD]
theorem rdE (pre : List E) (x : E) (suf : List E) : rd_T60 (pre ++ x :: suf) ((pre.length : Nat) : Int) = x := getD_mid _ pre x suf
theorem rdI (pre : List Int) (x : Int) (suf : List Int) : rd (pre ++ x :: suf) ((pre.length : Nat) : Int) = x := getD_mid _ pre x suf
theorem rdE0 (x : E) (suf : List E) : rd_T60 (x :: suf) 0 = x := rfl
theorem mid_lt {α : Type} (pre : List α) (x : α) (suf : List α) : ((pre.length : Nat) : Int) < ((pre ++ x :: suf).length : Int) := by simp <;> omega
theorem end_ge {α : Type} (pre : List α) : ¬ ((pre.length : Nat) : Int) < ((pre ++ ([] : List α)).length : Int) := by simp
theorem nat_ge {α : Type} (pre : List α) : (0 : Int) ≤ ((pre.length : Nat) : Int) := Int.natCast_nonneg _
theorem mid_next {α : Type} (pre : List α) (x : α) (suf : List α) (h : (pre ++ x :: suf).length < 9223372036854775807) : wrap64 (((pre.length : Nat) : Int) + 1) = (((pre ++ [x]).length : Nat) : Int) := by
 rw [wrap_nat _ (by simp at h; omega), List.length_append]; rfl
theorem mid_prev {α : Type} (pre : List α) (y x : α) (suf : List α) (h : ((pre ++ [y]) ++ x :: suf).length < 9223372036854775807) : wrap64 ((((pre ++ [y]).length : Nat) : Int) - 1) = ((pre.length : Nat) : Int) := by
 rw [wrap_id _ (by omega) (by have := h; simp only [List.length_append, List.length_cons, List.length_nil] at *; omega), List.length_append, List.length_singleton]; omega
/-- From 'it comes to r' to 'there are rounds'. -/
theorem Ev.get {α : Type} {g : Nat → Option α} {r : α} (h : Ev g r) : ∃ k, g k = some r := h.rounds
section
variable {α : Type} (key : α → Int)
def Ris (l : List α) : Prop := l.Pairwise (fun a b => key a < key b)
def look (l : List α) (k : Int) : Option α := l.find? (fun x => key x == k)
variable {key}
theorem ris_nil : Ris key [] := List.Pairwise.nil
theorem ris_cons {x : α} {l : List α} : Ris key (x :: l) ↔ (∀ y ∈ l, key x < key y) ∧ Ris key l := List.pairwise_cons
theorem ris_tail {x : α} {l : List α} (h : Ris key (x :: l)) : Ris key l := (ris_cons.1 h).2
theorem ris_head {x : α} {l : List α} (h : Ris key (x :: l)) : ∀ y ∈ l, key x < key y := (ris_cons.1 h).1
theorem look_cons (x : α) (l : List α) (k : Int) : look key (x :: l) k = if key x = k then some x else look key l k := by
 unfold look
 by_cases h : key x = k
 ·simp [h]
 ·simp [h]
theorem look_mem {l : List α} {k : Int} {x : α} (h : look key l k = some x) : x ∈ l ∧ key x = k := by
 unfold look at h
 exact ⟨List.mem_of_find?_eq_some h, by simpa using List.find?_some h⟩
end
theorem bool_iff {a b : Bool} {p : Prop} (ha : a = true ↔ p) (hb : b = true ↔ p) : a = b := by
 cases a <;> cases b <;> simp_all
def MayE (x : E) : Prop := 0 ≤ x.f0 ∧ x.f0 < 12 ∧ 1 ≤ x.f1 ∧ x.f1 ≤ 1099511627776 ∧ x.f2.size ≤ 200
def kE (x : E) : Int := x.f0
def RightE (l : List E) : Prop := Ris kE l ∧ ∀ x ∈ l, MayE x
open Go.RowKit Go.Proofs.Ythpbggknfhchlaa.P Go.Proofs.YthpbggknfhchlaaW.PrintWords Go.Proofs.YthpbggknfhchlaaW.PrintLast Go.Proofs.YthpbggknfhchlaaW.PrintMore Go.Proofs.YthpbggknfhchlaaW.Hw
theorem wrap01 : wrap64 (0 + 1) = 1 := wrap_id 1 (by omega) (by omega)
theorem all_cons {α : Type} {Q : α → Prop} {x : α} {l : List α} (hx : Q x) (hl : ∀ z, z ∈ l → Q z) : ∀ z, z ∈ x :: l → Q z := fun z hz => by
 rcases List.mem_cons.1 hz with rfl | hz
 ·exact hx
 ·exact hl z hz
theorem ev_ref04_Great_l0 (suf : List E) : ∀ (pre : List E) (n : Int), (pre ++ suf).length < 4611686018427387904 → 0 ≤ n → n ≤ 4611686018427387904 → (∀ x ∈ suf, x.f2.size ≤ 140737488351232) →
  ∃ r, Ev (fun k => ref04_Great.l0 k (pre ++ suf) n (pre.length : Int)) r ∧ (r = false → n ≤ 4000) := by
 induction suf with
 | nil =>
  intro pre n h h0 h1 h2; refine ⟨decide (n > 4000), Ev.step (fun k => by rw [ref04_Great.l0]) ?_, by simp⟩; simp only [end_ge, ↓reduceIte]; exact Ev.now _
 | cons x suf ih =>
  intro pre n h h0 h1 h2
  by_cases hn : n ≤ 4000
  ·have hx := h2 x (by simp); obtain ⟨r, hr, hi⟩ := ih (pre ++ [x]) (n + (x.f2.size : Int)) (by rw [← List.append_cons]; exact h) (by omega) (by omega) (fun y hy => h2 y (by simp [hy])); refine ⟨r, Ev.step (fun k => by rw [ref04_Great.l0]) ?_, fun _ => hn⟩; simp only [mid_lt, nat_ge, ↓reduceIte, rdE, mid_next pre x suf (by omega), hn, wrap_id (n + (x.f2.size : Int)) (by omega) (by omega)]; rw [← List.append_cons pre x suf] at hr; exact hr
  ·refine ⟨decide (n > 4000), Ev.step (fun k => by rw [ref04_Great.l0]) ?_, by simp⟩; simp only [mid_lt, ↓reduceIte, hn]; exact Ev.now _
theorem ev_ref04_Great (l : List E) (h : l.length < 4611686018427387904) (hs : ∀ x ∈ l, x.f2.size ≤ 140737488351232) : ∃ r, Ev (fun k => ref04_Great.f k l) r ∧ (r = false → l.length ≤ 4000) := by
 obtain ⟨r, hr, hi⟩ := ev_ref04_Great_l0 l [] (l.length : Int) h (by omega) (by omega) hs; exact ⟨r, hr, fun e => by have := hi e; omega⟩
section
variable {α : Type} {key : α → Int}
theorem ris_cons2 {y x : α} {l : List α} : Ris key (y :: x :: l) ↔ key y < key x ∧ Ris key (x :: l) := by
 rw [ris_cons]
 constructor
 ·rintro ⟨h1, h2⟩; exact ⟨h1 x (by simp), h2⟩
 ·rintro ⟨h1, h2⟩; refine ⟨fun z hz => ?_, h2⟩
  rcases List.mem_cons.1 hz with rfl | hz
  ·exact h1
  ·have := ris_head h2 z hz; omega
theorem ris_one (x : α) : Ris key [x] := List.pairwise_singleton _ x
end
theorem len_pos {α : Type} (x : α) (l : List α) : (0 : Int) < ((x :: l).length : Int) := by simp <;> omega
theorem may04_is (x : E) : ∃ r, ref04_May.f x.f0 x.f1 x.f2 = some r ∧ (r = true ↔ MayE x) := by
 unfold ref04_May.f MayE
 by_cases h1 : x.f0 ≥ 0
 ·by_cases h2 : x.f0 < 12
  ·by_cases h3 : x.f1 ≥ 1
   ·by_cases h4 : x.f1 ≤ 1099511627776
    ·refine ⟨_, by simp only [h1, h2, h3, h4, ↓reduceIte]; rfl, ?_⟩
     simp; omega
    ·exact ⟨false, by simp only [h1, h2, h3, h4, ↓reduceIte], by simp; omega⟩
   ·exact ⟨false, by simp only [h1, h2, h3, ↓reduceIte], by simp; omega⟩
  ·exact ⟨false, by simp only [h1, h2, ↓reduceIte], by simp; omega⟩
 ·exact ⟨false, by simp only [h1, ↓reduceIte], by simp; omega⟩
theorem pos_mid {α : Type} (p : List α) (y : α) : (((p ++ [y]).length : Nat) : Int) > 0 := by simp <;> omega
theorem prev_ge {α : Type} (p : List α) (y x : α) (s : List α) : ((p.length : Nat) : Int) < (((p ++ [y]) ++ x :: s).length : Int) := by simp <;> omega
theorem rdE1 (p : List E) (y x : E) (s : List E) : rd_T60 ((p ++ [y]) ++ x :: s) ((p.length : Nat) : Int) = y := by rw [← List.append_cons]; exact rdE p y (x :: s)
theorem ev_ref04_Right_l0 (suf : List E) : ∀ (p : List E) (y : E), ((p ++ [y]) ++ suf).length < 4611686018427387904 →
  ∃ r, Ev (fun k => ref04_Right.l0 k ((p ++ [y]) ++ suf) ((p ++ [y]).length : Int)) r ∧ (r = true ↔ Ris kE (y :: suf) ∧ ∀ x ∈ suf, MayE x) := by
 induction suf with
 | nil =>
  intro p y h; refine ⟨true, Ev.step (fun k => by rw [ref04_Right.l0]) ?_, by simp [ris_one]⟩; simp only [end_ge, ↓reduceIte]; exact Ev.now _
 | cons x suf ih =>
  intro p y h; obtain ⟨m, hm, hmi⟩ := may04_is x
  cases m with
  | false =>
   refine ⟨false, Ev.step (fun k => by rw [ref04_Right.l0]) ?_, ?_⟩
   ·simp only [mid_lt, nat_ge, ↓reduceIte, rdE, hm, Option.bind_some, Bool.false_eq_true]; exact Ev.now _
   ·simp only [Bool.false_eq_true, false_iff]; rintro ⟨_, h2⟩; exact absurd (hmi.2 (h2 x (by simp))) (by simp)
  | true =>
   by_cases hk : y.f0 ≥ x.f0
   ·refine ⟨false, Ev.step (fun k => by rw [ref04_Right.l0]) ?_, ?_⟩
    ·simp only [mid_lt, nat_ge, ↓reduceIte, rdE, hm, Option.bind_some, pos_mid, mid_prev p y x suf (by omega), prev_ge, rdE1, hk]; exact Ev.now _
    ·simp only [Bool.false_eq_true, false_iff, ris_cons2]; rintro ⟨⟨h1, _⟩, _⟩
     unfold kE at h1; omega
   ·obtain ⟨r, hr, hi⟩ := ih (p ++ [y]) x (by rw [← List.append_cons]; exact h); refine ⟨r, Ev.step (fun k => by rw [ref04_Right.l0]) ?_, ?_⟩
    ·simp only [mid_lt, nat_ge, ↓reduceIte, rdE, hm, Option.bind_some, pos_mid, mid_prev p y x suf (by omega), prev_ge, rdE1, hk, mid_next (p ++ [y]) x suf (by omega)]; rw [← List.append_cons (p ++ [y]) x suf] at hr; exact hr
    ·rw [hi, ris_cons2]; have := hmi.1 rfl
     constructor
     ·rintro ⟨h1, h2⟩; exact ⟨⟨by unfold kE; omega, h1⟩, all_cons (this) (fun z hz => h2 z hz)⟩
     ·rintro ⟨⟨_, h1⟩, h2⟩; exact ⟨h1, fun z hz => h2 z (by simp [hz])⟩
theorem ev_ref04_Right (l : List E) (h : l.length < 4611686018427387904) : ∃ r, Ev (fun k => ref04_Right.f k l) r ∧ (r = true ↔ RightE l) := by
 cases l with
 | nil =>
  refine ⟨true, Ev.step (g := fun k => ref04_Right.l0 k [] 0) (fun k => by rw [ref04_Right.l0]) ?_, by simp [RightE, ris_nil]⟩; simp only [List.length_nil, Int.natCast_zero, Int.lt_irrefl, ↓reduceIte]; exact Ev.now _
 | cons x l =>
  obtain ⟨m, hm, hmi⟩ := may04_is x; have e0 : (0 : Int) < ((x :: l).length : Int) := len_pos x l
  cases m with
  | false =>
   refine ⟨false, Ev.step (g := fun k => ref04_Right.l0 k (x :: l) 0) (fun k => by rw [ref04_Right.l0]) ?_, ?_⟩
   ·simp only [e0, Int.le_refl, ↓reduceIte, rdE0, hm, Option.bind_some, Bool.false_eq_true]; exact Ev.now _
   ·simp only [Bool.false_eq_true, false_iff]; rintro ⟨_, h2⟩; exact absurd (hmi.2 (h2 x (by simp))) (by simp)
  | true =>
   obtain ⟨r, hr, hi⟩ := ev_ref04_Right_l0 l [] x h; refine ⟨r, Ev.step (g := fun k => ref04_Right.l0 k (x :: l) 0) (fun k => by rw [ref04_Right.l0]) ?_, ?_⟩
   ·simp only [e0, Int.le_refl, ↓reduceIte, rdE0, hm, Option.bind_some, gt_iff_lt, Int.lt_irrefl, wrap01]; exact hr
   ·rw [hi]
    constructor
    ·rintro ⟨h1, h2⟩; exact ⟨h1, all_cons (hmi.1 rfl) (fun z hz => h2 z hz)⟩
    ·rintro ⟨h1, h2⟩; exact ⟨h1, fun z hz => h2 z (by simp [hz])⟩
theorem may_is (x : E) : ∃ r, entry_May.f x.f0 x.f1 x.f2 = some r ∧ (r = true ↔ MayE x) := may04_is x
theorem ev_entry_Right_l0 (suf : List E) : ∀ (pre : List E) (last : Int), (pre ++ suf).length < 4611686018427387904 →
  ∃ r, Ev (fun k => entry_Right.l0 k last (pre ++ suf) ((pre ++ suf).length : Int) (pre.length : Int)) r ∧ (r = true ↔ (∀ x ∈ suf, last < x.f0 ∧ MayE x) ∧ Ris kE suf) := by
 induction suf with
 | nil =>
  intro pre last h; refine ⟨true, Ev.step (fun k => by rw [entry_Right.l0]) ?_, by simp [Ris]⟩; simp only [end_ge, ↓reduceIte]; exact Ev.now _
 | cons x suf ih =>
  intro pre last h
  by_cases hle : x.f0 ≤ last
  ·refine ⟨false, Ev.step (fun k => by rw [entry_Right.l0]) ?_, ?_⟩
   ·simp only [mid_lt, nat_ge, ↓reduceIte, rdE, hle]; exact Ev.now _
   ·simp only [Bool.false_eq_true, false_iff]; rintro ⟨h1, _⟩; have := (h1 x (by simp)).1
    omega
  ·obtain ⟨m, hm, hm2⟩ := may_is x
   cases m with
   | false =>
    refine ⟨false, Ev.step (fun k => by rw [entry_Right.l0]) ?_, ?_⟩
    ·simp only [mid_lt, nat_ge, ↓reduceIte, rdE, hle, hm, Option.bind_some, Bool.false_eq_true]; exact Ev.now _
    ·simp only [Bool.false_eq_true, false_iff]; rintro ⟨h1, _⟩; have := hm2.2 (h1 x (by simp)).2
     simp at this
   | true =>
    obtain ⟨r, h1, h2⟩ := ih (pre ++ [x]) x.f0 (by rw [← List.append_cons]; exact h); refine ⟨r, Ev.step (fun k => by rw [entry_Right.l0]) ?_, ?_⟩
    ·simp only [mid_lt, nat_ge, ↓reduceIte, rdE, hle, hm, Option.bind_some, mid_next pre x suf (by omega)]; rw [← List.append_cons pre x suf] at h1; exact h1
    ·rw [h2]
     constructor
     ·rintro ⟨a, b⟩; refine ⟨fun y hy => ?_, ris_cons.2 ⟨fun y hy => (a y hy).1, b⟩⟩
      rcases List.mem_cons.1 hy with rfl | hy
      ·exact ⟨by omega, hm2.1 rfl⟩
      ·exact ⟨by have := (a y hy).1; omega, (a y hy).2⟩
     ·rintro ⟨a, b⟩; exact ⟨fun y hy => ⟨ris_head b y hy, (a y (by simp [hy])).2⟩, ris_tail b⟩
theorem ev_entry_Right (l : List E) (h : l.length < 4611686018427387904) : ∃ r, Ev (fun k => entry_Right.f k l) r ∧ (r = true ↔ RightE l) := by
 obtain ⟨r, h1, h2⟩ := ev_entry_Right_l0 l [] (-1) h; refine ⟨r, h1, ?_⟩; rw [h2]
 constructor
 ·rintro ⟨a, b⟩; exact ⟨b, fun x hx => (a x hx).2⟩
 ·rintro ⟨b, a⟩; exact ⟨fun x hx => ⟨by have := (a x hx).1; omega, a x hx⟩, b⟩
theorem ne_is (x y : E) : (!(x.f0 == y.f0) || (!(x.f1 == y.f1) || (!(x.f2.toList == y.f2.toList)))) = true ↔ x ≠ y := by
 obtain ⟨a0, a1, a2⟩ := x; obtain ⟨b0, b1, b2⟩ := y; simp only [Bool.or_eq_true, Bool.not_eq_true', beq_eq_false_iff_ne]
 constructor
 ·rintro h e; cases e
  simp at h
 ·intro h
  by_cases h0 : a0 = b0
  ·by_cases h1 : a1 = b1
   ·right; right
    intro e; exact h (by rw [h0, h1, ba_ext e])
   ·exact .inr (.inl h1)
  ·exact .inl h0
theorem ev_ref04_Same_l0 (sa : List E) : ∀ (sb pa pb : List E), pa.length = pb.length → sa.length = sb.length → (pa ++ sa).length < 4611686018427387904 →
  ∃ r, Ev (fun k => ref04_Same.l0 k (pa ++ sa) (pb ++ sb) (pa.length : Int)) r ∧ (r = true ↔ sa = sb) := by
 induction sa with
 | nil =>
  intro sb pa pb hp hs h; have : sb = [] := List.eq_nil_of_length_eq_zero (by simpa using hs.symm); subst this; refine ⟨true, Ev.step (fun k => by rw [ref04_Same.l0]) ?_, by simp⟩; simp only [end_ge, ↓reduceIte]; exact Ev.now _
 | cons x sa ih =>
  intro sb pa pb hp hs h
  match sb, hs with
  | y :: sb, hs =>
   have r2 : rd_T60 (pb ++ y :: sb) (pa.length : Int) = y := by rw [hp]; exact rdE pb y sb
   have l2 : (pa.length : Int) < ((pb ++ y :: sb).length : Int) := by rw [hp]; exact mid_lt pb y sb
   by_cases hxy : x = y
   ·subst hxy; obtain ⟨r, h1, h2⟩ := ih sb (pa ++ [x]) (pb ++ [x]) (by simp [hp]) (by simpa using hs) (by rw [← List.append_cons]; exact h); refine ⟨r, Ev.step (fun k => by rw [ref04_Same.l0]) ?_, ?_⟩
    ·have hn : ¬ ((!(x.f0 == x.f0) || (!(x.f1 == x.f1) || (!(x.f2.toList == x.f2.toList)))) = true) := fun e => (ne_is x x).1 e rfl
     simp only [mid_lt, l2, nat_ge, ↓reduceIte, rdE, r2, hn, mid_next pa x sa (by omega)]; rw [← List.append_cons pa x sa, ← List.append_cons pb x sb] at h1; exact h1
    ·rw [h2]; simp
   ·refine ⟨false, Ev.step (fun k => by rw [ref04_Same.l0]) ?_, ?_⟩
    ·have hn := (ne_is x y).2 hxy; simp only [mid_lt, l2, nat_ge, ↓reduceIte, rdE, r2, hn]; exact Ev.now _
    ·simp [hxy]
theorem ev_ref04_Same (a b : List E) (h : a.length < 4611686018427387904) : ∃ r, Ev (fun k => ref04_Same.f k a b) r ∧ (r = true ↔ a = b) := by
 unfold ref04_Same.f
 by_cases hl : (a.length : Int) = (b.length : Int)
 ·obtain ⟨r, h1, h2⟩ := ev_ref04_Same_l0 a b [] [] rfl (by omega) (by simpa using h); refine ⟨r, ?_, h2⟩; simp only [hl, ↓reduceIte]; exact h1
 ·refine ⟨false, ?_, ?_⟩
  ·simp only [hl, ↓reduceIte]; exact Ev.now _
  ·simp only [Bool.false_eq_true, false_iff]; intro e; exact hl (by rw [e])
/-- Is y above x? -/
def Gt (y x : E) : Prop := y.f1 > x.f1 ∨ (y.f1 = x.f1 ∧ Op.bytesLess x.f2.toList y.f2.toList = true)
instance (y x : E) : Decidable (Gt y x) := by unfold Gt; infer_instance
def hi (x y : E) : E := if Gt y x then y else x
theorem find_idx {α : Type} (p : α → Bool) : ∀ l : List α, l.find? p = l[l.findIdx p]?
 | [] => rfl
 | x :: l => by
  rw [List.find?_cons, List.findIdx_cons]
  cases hp : p x with
  | true => simp
  | false => simp [find_idx p l]
theorem ev_equal_l0 (sa : List E) : ∀ (sb pa pb : List E), pa.length = pb.length → sa.length = sb.length → (pa ++ sa).length < 4611686018427387904 →
  ∃ r, Ev (fun k => api_Entry_71.l0 k (pa ++ sa) (pb ++ sb) ((pa ++ sa).length : Int) (pa.length : Int)) r ∧ (r = true ↔ sa = sb) := by
 induction sa with
 | nil =>
  intro sb pa pb hp hs h; have : sb = [] := List.eq_nil_of_length_eq_zero (by simpa using hs.symm); subst this; refine ⟨true, Ev.step (fun k => by rw [api_Entry_71.l0]) ?_, by simp⟩; simp only [end_ge, ↓reduceIte]; exact Ev.now _
 | cons x sa ih =>
  intro sb pa pb hp hs h
  match sb, hs with
  | y :: sb, hs =>
   have r2 : rd_T60 (pb ++ y :: sb) (pa.length : Int) = y := by rw [hp]; exact rdE pb y sb
   have l2 : (pa.length : Int) < ((pb ++ y :: sb).length : Int) := by rw [hp]; exact mid_lt pb y sb
   by_cases hxy : x = y
   ·subst hxy; obtain ⟨r, h1, h2⟩ := ih sb (pa ++ [x]) (pb ++ [x]) (by simp [hp]) (by simpa using hs) (by rw [← List.append_cons]; exact h); refine ⟨r, Ev.step (fun k => by rw [api_Entry_71.l0]) ?_, ?_⟩
    ·have hn : ¬ ((!(x.f0 == x.f0) || (!(x.f1 == x.f1) || (!(x.f2.toList == x.f2.toList)))) = true) := fun e => (ne_is x x).1 e rfl
     simp only [mid_lt, l2, nat_ge, ↓reduceIte, rdE, r2, hn, mid_next pa x sa (by omega)]; rw [← List.append_cons pa x sa, ← List.append_cons pb x sb] at h1; exact h1
    ·rw [h2]; simp
   ·refine ⟨false, Ev.step (fun k => by rw [api_Entry_71.l0]) ?_, ?_⟩
    ·have hn := (ne_is x y).2 hxy; simp only [mid_lt, l2, nat_ge, ↓reduceIte, rdE, r2, hn]; exact Ev.now _
    ·simp [hxy]
theorem ev_equal (a b : List E) (h : a.length < 4611686018427387904) : ∃ r, Ev (fun k => api_Entry_71.f k a b) r ∧ (r = true ↔ a = b) := by
 unfold api_Entry_71.f
 by_cases hl : (a.length : Int) = (b.length : Int)
 ·obtain ⟨r, h1, h2⟩ := ev_equal_l0 a b [] [] rfl (by omega) (by simpa using h); refine ⟨r, ?_, h2⟩; simp only [hl, ↓reduceIte]; simp only [List.nil_append, hl] at h1; exact h1
 ·refine ⟨false, ?_, ?_⟩
  ·simp only [hl, ↓reduceIte]; exact Ev.now _
  ·simp only [Bool.false_eq_true, false_iff]; intro e; exact hl (by rw [e])
theorem ev_entry_Same (a b : List E) (h : a.length < 4611686018427387904) : ∃ r, Ev (fun k => entry_Same.f k a b) r ∧ (r = true ↔ a = b) := by
 obtain ⟨r, h1, h2⟩ := ev_equal a b h; exact ⟨r, Ev.bind h1 (Ev.now _), h2⟩
abbrev St := S25
theorem inS {s : St} (h : G25 s) : s.f2.length < 4611686018427387904 ∧ ∀ x ∈ s.f2, x.f2.size ≤ 140737488351232 := ⟨by have := h.2.2.2.1; omega, fun x hx => (h.2.2.2.2 x hx).2.2⟩
def RightS (s : St) : Prop := 1 ≤ s.f0 ∧ s.f0 ≤ 1099511627776 ∧ 0 ≤ s.f1 ∧ s.f1 ≤ 1099511627776 ∧ RightE s.f2
theorem st_ext {a b : St} (h0 : a.f0 = b.f0) (h1 : a.f1 = b.f1) (h2 : a.f2 = b.f2) : a = b := by
 cases a; cases b; simp only at h0 h1 h2; subst h0; subst h1; subst h2; rfl
theorem ev_state_Right (s : St) (h : s.f2.length < 4611686018427387904) : ∃ r, Ev (fun k => state_Right.f k s.f0 s.f1 s.f2) r ∧ (r = true ↔ RightS s) := by
 unfold state_Right.f
 by_cases h1 : s.f0 ≥ 1
 ·by_cases h2 : s.f0 ≤ 1099511627776
  ·by_cases h3 : s.f1 ≥ 0
   ·by_cases h4 : s.f1 ≤ 1099511627776
    ·obtain ⟨r, e, q⟩ := ev_entry_Right s.f2 h; simp only [h1, h2, h3, h4, ↓reduceIte]; refine ⟨r, Ev.bind e (Ev.now _), ?_⟩; rw [q]; exact ⟨fun x => And.intro h1 (And.intro h2 (And.intro h3 (And.intro h4 x))), fun x => x.2.2.2.2⟩
    ·simp only [h1, h2, h3, h4, ↓reduceIte]; exact ⟨false, Ev.now _, ⟨fun x => absurd x (by decide), fun x => absurd x.2.2.2.1 h4⟩⟩
   ·simp only [h1, h2, h3, ↓reduceIte]; exact ⟨false, Ev.now _, ⟨fun x => absurd x (by decide), fun x => absurd x.2.2.1 h3⟩⟩
  ·simp only [h1, h2, ↓reduceIte]; exact ⟨false, Ev.now _, ⟨fun x => absurd x (by decide), fun x => absurd x.2.1 h2⟩⟩
 ·simp only [h1, ↓reduceIte]; exact ⟨false, Ev.now _, ⟨fun x => absurd x (by decide), fun x => absurd x.1 h1⟩⟩
theorem ev_ref05_Right (s : St) (h : s.f2.length < 4611686018427387904) : ∃ r, Ev (fun k => ref05_Right.f k s.f0 s.f1 s.f2) r ∧ (r = true ↔ RightS s) := by
 unfold ref05_Right.f
 by_cases h1 : s.f0 ≥ 1
 ·by_cases h2 : s.f0 ≤ 1099511627776
  ·by_cases h3 : s.f1 ≥ 0
   ·by_cases h4 : s.f1 ≤ 1099511627776
    ·obtain ⟨r, e, q⟩ := ev_ref04_Right s.f2 h; simp only [h1, h2, h3, h4, ↓reduceIte]; refine ⟨r, Ev.bind e (Ev.now _), ?_⟩; rw [q]; exact ⟨fun x => And.intro h1 (And.intro h2 (And.intro h3 (And.intro h4 x))), fun x => x.2.2.2.2⟩
    ·simp only [h1, h2, h3, h4, ↓reduceIte]; exact ⟨false, Ev.now _, ⟨fun x => absurd x (by decide), fun x => absurd x.2.2.2.1 h4⟩⟩
   ·simp only [h1, h2, h3, ↓reduceIte]; exact ⟨false, Ev.now _, ⟨fun x => absurd x (by decide), fun x => absurd x.2.2.1 h3⟩⟩
  ·simp only [h1, h2, ↓reduceIte]; exact ⟨false, Ev.now _, ⟨fun x => absurd x (by decide), fun x => absurd x.2.1 h2⟩⟩
 ·simp only [h1, ↓reduceIte]; exact ⟨false, Ev.now _, ⟨fun x => absurd x (by decide), fun x => absurd x.1 h1⟩⟩
theorem copy_is (s : St) (h : s.f2.length < 1099511627776) : state_Copy.f s.f0 s.f1 s.f2 = some (s.f0, s.f1, s.f2) := by
 unfold state_Copy.f api_Entry_56.f
 rw [if_pos (by omega)]; rfl
theorem ref_copy_is (s : St) (h : s.f2.length < 1099511627776) : ref05_Copy.f s.f0 s.f1 s.f2 = some (s.f0, s.f1, s.f2) := by
 unfold ref05_Copy.f
 show (if ([] : List E).length + s.f2.length < 4398046511104 then some (s.f0, s.f1, [] ++ s.f2) else none) = _
 rw [if_pos (by rw [List.length_nil]; omega), List.nil_append]
theorem ev_state_Same (a b : St) (h : a.f2.length < 4611686018427387904) : ∃ r, Ev (fun k => state_Same.f k a.f0 a.f1 a.f2 b.f0 b.f1 b.f2) r ∧ (r = true ↔ a = b) := by
 unfold state_Same.f
 by_cases h1 : a.f0 = b.f0
 ·by_cases h2 : a.f1 = b.f1
  ·obtain ⟨r, e, q⟩ := ev_entry_Same a.f2 b.f2 h; simp only [h1, h2, ↓reduceIte]; refine ⟨r, Ev.bind e (Ev.now _), ?_⟩; rw [q]; exact ⟨fun x => st_ext h1 h2 x, fun x => by rw [x]⟩
  ·simp only [h1, h2, ↓reduceIte]; exact ⟨false, Ev.now _, ⟨fun x => absurd x (by decide), fun x => absurd (by rw [x]) h2⟩⟩
 ·simp only [h1, ↓reduceIte]; exact ⟨false, Ev.now _, ⟨fun x => absurd x (by decide), fun x => absurd (by rw [x]) h1⟩⟩
theorem ev_ref05_Same (a b : St) (h : a.f2.length < 4611686018427387904) : ∃ r, Ev (fun k => ref05_Same.f k a.f0 a.f1 a.f2 b.f0 b.f1 b.f2) r ∧ (r = true ↔ a = b) := by
 unfold ref05_Same.f
 by_cases h1 : a.f0 = b.f0
 ·by_cases h2 : a.f1 = b.f1
  ·obtain ⟨r, e, q⟩ := ev_ref04_Same a.f2 b.f2 h; simp only [h1, h2, ↓reduceIte]; refine ⟨r, Ev.bind e (Ev.now _), ?_⟩; rw [q]; exact ⟨fun x => st_ext h1 h2 x, fun x => by rw [x]⟩
  ·simp only [h1, h2, ↓reduceIte]; exact ⟨false, Ev.now _, ⟨fun x => absurd x (by decide), fun x => absurd (by rw [x]) h2⟩⟩
 ·simp only [h1, ↓reduceIte]; exact ⟨false, Ev.now _, ⟨fun x => absurd x (by decide), fun x => absurd (by rw [x]) h1⟩⟩
theorem ev_ref05_same_true (a : St) (h : a.f2.length < 4611686018427387904) : Ev (fun k => ref05_Same.f k a.f0 a.f1 a.f2 a.f0 a.f1 a.f2) true := by
 obtain ⟨r, e, q⟩ := ev_ref05_Same a a h; rw [q.2 rfl] at e; exact e
theorem ev_ref05_Great (s : St) (h : s.f2.length < 4611686018427387904) (hs : ∀ x ∈ s.f2, x.f2.size ≤ 140737488351232) : ∃ r, Ev (fun k => ref05_Great.f k s.f0 s.f1 s.f2) r ∧ (r = false → s.f2.length ≤ 4000) := by
 obtain ⟨r, e, q⟩ := ev_ref04_Great s.f2 h hs; exact ⟨r, Ev.bind e (Ev.now _), q⟩
abbrev Nm := S41
theorem rdN (pre : List Nm) (x : Nm) (suf : List Nm) : rd_T41 (pre ++ x :: suf) ((pre.length : Nat) : Int) = x := getD_mid _ pre x suf
def kN (x : Nm) : Int := x.f0
theorem nm_ext {a b : Nm} (h0 : a.f0 = b.f0) (h1 : a.f1 = b.f1) : a = b := by
 cases a; cases b; simp only at h0 h1; subst h0; subst h1; rfl
/-- A view that is small enough for every step. -/
def Sm (l : List Nm) : Prop := l.length ≤ 1000 ∧ ∀ x ∈ l, x.f1.f2.length ≤ 100000
def inN (l : List Nm) : Prop := ∀ x ∈ l, x.f1.f2.length < 4611686018427387904 ∧ ∀ e ∈ x.f1.f2, e.f2.size ≤ 140737488351232
theorem ev_ref06_Great_l0 (suf : List Nm) : ∀ pre : List Nm, (pre ++ suf).length < 4611686018427387904 → inN suf →
  ∃ r, Ev (fun k => ref06_Great.l0 k (pre ++ suf) (pre.length : Int)) r ∧ (r = false → (pre ++ suf).length ≤ 40 ∧ ∀ x ∈ suf, x.f1.f2.length ≤ 4000) := by
 induction suf with
 | nil =>
  intro pre h hs; refine ⟨decide (((pre ++ ([] : List Nm)).length : Int) > 40), Ev.step (fun k => by rw [ref06_Great.l0]) ?_, fun e => ⟨by have := of_decide_eq_false e; omega, fun x hx => by simp at hx⟩⟩; simp only [end_ge, ↓reduceIte]; refine Ev.step (fun k => by rw [ref06_Great.j1]) ?_; simp only [Bool.false_eq_true, ↓reduceIte]; exact Ev.now _
 | cons x suf ih =>
  intro pre h hs
  by_cases h41 : (pre.length : Int) < 41
  ·obtain ⟨g, e, q⟩ := ev_ref05_Great x.f1 (hs x List.mem_cons_self).1 (hs x List.mem_cons_self).2
   cases g with
   | true =>
    refine ⟨true, Ev.step (fun k => by rw [ref06_Great.l0]) ?_, fun e => absurd e (by decide)⟩; simp only [mid_lt, decide_eq_true h41, ↓reduceIte]; refine Ev.step (fun k => by rw [ref06_Great.j1]) ?_; simp only [mid_lt, nat_ge, rdN, ↓reduceIte]; refine Ev.bind e ?_; simp only [↓reduceIte]; exact Ev.now _
   | false =>
    obtain ⟨r, e2, q2⟩ := ih (pre ++ [x]) (by rw [← List.append_cons]; exact h) (fun y hy => hs y (List.mem_cons_of_mem _ hy)); rw [← List.append_cons pre x suf] at e2 q2; refine ⟨r, Ev.step (fun k => by rw [ref06_Great.l0]) ?_, fun hr => ⟨(q2 hr).1, fun y hy => ?_⟩⟩
    ·simp only [mid_lt, decide_eq_true h41, ↓reduceIte]; refine Ev.step (fun k => by rw [ref06_Great.j1]) ?_; simp only [mid_lt, nat_ge, rdN, ↓reduceIte, mid_next pre x suf (by omega)]; refine Ev.bind e ?_; simp only [Bool.false_eq_true, ↓reduceIte]; exact e2
    ·rcases List.mem_cons.1 hy with rfl | hy
     ·exact q rfl
     ·exact (q2 hr).2 y hy
  ·have hl : ((pre ++ x :: suf).length : Int) > 40 := by rw [List.length_append, List.length_cons]; omega
   refine ⟨true, Ev.step (fun k => by rw [ref06_Great.l0]) ?_, fun e => absurd e (by decide)⟩; simp only [mid_lt, decide_eq_false h41, ↓reduceIte]; refine Ev.step (fun k => by rw [ref06_Great.j1]) ?_; simp only [Bool.false_eq_true, ↓reduceIte, decide_eq_true hl]; exact Ev.now _
theorem ev_ref06_Great (l : List Nm) (h : l.length < 4611686018427387904) (hs : inN l) : ∃ r, Ev (fun k => ref06_Great.f k l) r ∧ (r = false → Sm l) := by
 obtain ⟨r, e, q⟩ := ev_ref06_Great_l0 l [] h hs; exact ⟨r, e, fun hr => ⟨by have := (q hr).1; simp at this; omega, fun x hx => by have := (q hr).2 x hx; omega⟩⟩
theorem own_is (n : Int) (s : St) (h : s.f2.length < 1099511627776) : view_own.f n s.f0 s.f1 s.f2 = some (n, s.f0, s.f1, s.f2) := by
 unfold view_own.f
 rw [copy_is s h]; rfl
theorem ev_view_Copy_l0 (suf : List Nm) : ∀ pre : List Nm, (pre ++ suf).length < 100000 → (∀ x ∈ suf, x.f1.f2.length ≤ 100000) →
  Ev (fun k => view_Copy.l0 k (pre ++ List.replicate suf.length z41) (pre ++ suf) ((pre ++ suf).length : Int) (pre.length : Int)) (pre ++ suf) := by
 induction suf with
 | nil =>
  intro pre h hs; refine Ev.step (fun k => by rw [view_Copy.l0]) ?_; simp only [end_ge, ↓reduceIte, List.length_nil, List.replicate_zero]; exact Ev.now _
 | cons x suf ih =>
  intro pre h hs; have e2 := ih (pre ++ [x]) (by rw [← List.append_cons]; exact h) (fun y hy => hs y (List.mem_cons_of_mem _ hy)); rw [← List.append_cons pre x suf] at e2
  have hr : ((pre.length : Nat) : Int) < ((pre ++ List.replicate (x :: suf).length z41).length : Int) := by
   rw [List.length_append, List.length_replicate, List.length_cons]; omega
  have hset : (pre ++ List.replicate (x :: suf).length z41).set ((pre.length : Nat) : Int).toNat x = (pre ++ [x]) ++ List.replicate suf.length z41 := by
   rw [Int.toNat_natCast, List.length_cons, List.replicate_succ, List.set_append_right _ _ (Nat.le_refl _), Nat.sub_self, List.set_cons_zero, List.append_assoc]; rfl
  refine Ev.step (fun k => by rw [view_Copy.l0]) ?_; have ho := own_is x.f0 x.f1 (by have := hs x List.mem_cons_self; omega); simp only [mid_lt, nat_ge, rdN, ho, Option.bind_some, hr, ↓reduceIte, mid_next pre x suf (by omega)]
  show Ev (fun k => view_Copy.l0 k ((pre ++ List.replicate (x :: suf).length z41).set ((pre.length : Nat) : Int).toNat x) _ _ _) _
  rw [hset]; exact e2
theorem ev_view_Copy (l : List Nm) (h : Sm l) : Ev (fun k => view_Copy.f k l) l := by
 have h1 := h.1
 unfold view_Copy.f
 have e := ev_view_Copy_l0 l [] (by simpa using (by omega : l.length < 100000)) (fun x hx => h.2 x hx)
 have e0 : (0 : Int) ≤ (l.length : Int) := by omega
 have e1 : l.length ≤ 5864062014805 := by omega
 simp only [e0, e1, ↓reduceIte, Int.toNat_natCast]; exact e
theorem ev_ref06_Copy_l0 (suf : List Nm) : ∀ pre : List Nm, (pre ++ suf).length < 100000 → (∀ x ∈ suf, x.f1.f2.length ≤ 100000) →
  Ev (fun k => ref06_Copy.l0 k (pre ++ suf) pre (pre.length : Int)) (pre ++ suf) := by
 induction suf with
 | nil =>
  intro pre h hs; refine Ev.step (fun k => by rw [ref06_Copy.l0]) ?_; simp only [end_ge, ↓reduceIte]; rw [List.append_nil]; exact Ev.now _
 | cons x suf ih =>
  intro pre h hs; have e2 := ih (pre ++ [x]) (by rw [← List.append_cons]; exact h) (fun y hy => hs y (List.mem_cons_of_mem _ hy)); rw [← List.append_cons pre x suf] at e2
  have hl : pre.length < 2932031007402 := by rw [List.length_append] at h; omega
  refine Ev.step (fun k => by rw [ref06_Copy.l0]) ?_; have ho := ref_copy_is x.f1 (by have := hs x List.mem_cons_self; omega); simp only [mid_lt, nat_ge, rdN, ho, Option.bind_some, hl, ↓reduceIte, mid_next pre x suf (by omega)]; exact e2
theorem ev_ref06_Copy (l : List Nm) (h : Sm l) : Ev (fun k => ref06_Copy.f k l) l := by
 have h1 := h.1; exact ev_ref06_Copy_l0 l [] (by simpa using (by omega : l.length < 100000)) (fun x hx => h.2 x hx)
def gotN (o : Option Nm) : Int × Int × List E × Bool := match o with
 | some x => (x.f1.f0, x.f1.f1, x.f1.f2, true)
 | none => (0, 0, [], false)
theorem view_Get_is (l : List Nm) (n : Int) (h : Sm l) : view_Get.f l n = some (gotN (look kN l n)) := by
 have hl : look kN l n = l[l.findIdx (fun x : S41 => x.f0 == n)]? := find_idx _ l
 unfold view_Get.f view_place.f idxI
 simp only [Option.bind_some]
 by_cases hx : l.findIdx (fun x : S41 => x.f0 == n) < l.length
 ·have e : rd_T41 l ((l.findIdx (fun x : S41 => x.f0 == n) : Nat) : Int) = l[l.findIdx (fun x : S41 => x.f0 == n)] := by
   simp [rd_T41, List.getD_eq_getElem?_getD, hx]
  rw [if_pos hx, if_neg (by omega), if_pos (by omega), if_pos (by omega), hl, List.getElem?_eq_getElem hx, e, copy_is _ (by have := h.2 _ (List.getElem_mem hx); omega)]; rfl
 ·rw [if_neg hx, if_pos (by omega), hl, List.getElem?_eq_none (by omega)]; rfl
theorem ev_ref06_Get_l0 (n : Int) (suf : List Nm) : ∀ (pre : List Nm), (pre ++ suf).length < 100000 → (∀ x ∈ suf, x.f1.f2.length ≤ 100000) →
  Ev (fun k => ref06_Get.l0 k (pre ++ suf) n (pre.length : Int)) (gotN (look kN suf n)) := by
 induction suf with
 | nil =>
  intro pre h hs; refine Ev.step (fun k => by rw [ref06_Get.l0]) ?_; simp only [end_ge, ↓reduceIte]; exact Ev.now _
 | cons x suf ih =>
  intro pre h hs; have e2 := ih (pre ++ [x]) (by rw [← List.append_cons]; exact h) (fun y hy => hs y (List.mem_cons_of_mem _ hy)); rw [← List.append_cons pre x suf] at e2; refine Ev.step (fun k => by rw [ref06_Get.l0]) ?_; have ho := ref_copy_is x.f1 (by have := hs x List.mem_cons_self; omega); rw [look_cons]
  by_cases hx : x.f0 = n
  ·have hk : kN x = n := hx; simp only [mid_lt, nat_ge, rdN, ho, Option.bind_some, hx, hk, ↓reduceIte]; exact Ev.now _
  ·have hk : ¬ kN x = n := hx; simp only [mid_lt, nat_ge, rdN, hx, hk, ↓reduceIte, mid_next pre x suf (by omega)]; exact e2
theorem ev_ref06_Get (l : List Nm) (n : Int) (h : Sm l) : Ev (fun k => ref06_Get.f k l n) (gotN (look kN l n)) := by
 have h1 := h.1; exact ev_ref06_Get_l0 n l [] (by simpa using (by omega : l.length < 100000)) (fun x hx => h.2 x hx)
def MayN (x : Nm) : Prop := 0 ≤ x.f0 ∧ x.f0 < 8 ∧ RightS x.f1
def RightN (l : List Nm) : Prop := Ris kN l ∧ ∀ x ∈ l, MayN x
theorem ev_view_Right_l0 (suf : List Nm) : ∀ (pre : List Nm) (last : Int), (pre ++ suf).length < 100000 → (∀ x ∈ suf, x.f1.f2.length ≤ 100000) → -1 ≤ last →
  ∃ r, Ev (fun k => view_Right.l0 k last (pre ++ suf) ((pre ++ suf).length : Int) (pre.length : Int)) r ∧ (r = true ↔ (∀ x ∈ suf, last < x.f0 ∧ MayN x) ∧ Ris kN suf) := by
 induction suf with
 | nil =>
  intro pre last h hs hl; refine ⟨true, Ev.step (fun k => by rw [view_Right.l0]) ?_, by simp [Ris]⟩; simp only [end_ge, ↓reduceIte]; exact Ev.now _
 | cons x suf ih =>
  intro pre last h hs hl
  by_cases hle : x.f0 ≤ last
  ·refine ⟨false, Ev.step (fun k => by rw [view_Right.l0]) ?_, ?_⟩
   ·simp only [mid_lt, nat_ge, ↓reduceIte, rdN, hle]; exact Ev.now _
   ·simp only [Bool.false_eq_true, false_iff]; rintro ⟨h1, _⟩; have := (h1 x (by simp)).1
    omega
  ·by_cases h8 : x.f0 ≥ 8
   ·refine ⟨false, Ev.step (fun k => by rw [view_Right.l0]) ?_, ?_⟩
    ·simp only [mid_lt, nat_ge, ↓reduceIte, rdN, hle, h8]; exact Ev.now _
    ·simp only [Bool.false_eq_true, false_iff]; rintro ⟨h1, _⟩; have := (h1 x (by simp)).2.2.1
     omega
   ·obtain ⟨m, hm, hm2⟩ := ev_state_Right x.f1 (by have := hs x List.mem_cons_self; omega)
    cases m with
    | false =>
     refine ⟨false, Ev.step (fun k => by rw [view_Right.l0]) ?_, ?_⟩
     ·simp only [mid_lt, nat_ge, ↓reduceIte, rdN, hle, h8]; refine Ev.bind hm ?_; simp only [Bool.false_eq_true, ↓reduceIte]; exact Ev.now _
     ·simp only [Bool.false_eq_true, false_iff]; rintro ⟨h1, _⟩; have := hm2.2 (h1 x (by simp)).2.2.2
      simp at this
    | true =>
     obtain ⟨r, h1, h2⟩ := ih (pre ++ [x]) x.f0 (by rw [← List.append_cons]; exact h) (fun y hy => hs y (List.mem_cons_of_mem _ hy)) (by omega); refine ⟨r, Ev.step (fun k => by rw [view_Right.l0]) ?_, ?_⟩
     ·simp only [mid_lt, nat_ge, ↓reduceIte, rdN, hle, h8, mid_next pre x suf (by omega)]; refine Ev.bind hm ?_; simp only [↓reduceIte]; rw [← List.append_cons pre x suf] at h1; exact h1
     ·rw [h2]
      constructor
      ·rintro ⟨a, b⟩; refine ⟨fun y hy => ?_, ris_cons.2 ⟨fun y hy => (a y hy).1, b⟩⟩
       rcases List.mem_cons.1 hy with rfl | hy
       ·exact ⟨by omega, by omega, by omega, hm2.1 rfl⟩
       ·exact ⟨by have := (a y hy).1; omega, (a y hy).2⟩
      ·rintro ⟨a, b⟩; exact ⟨fun y hy => ⟨ris_head b y hy, (a y (by simp [hy])).2⟩, ris_tail b⟩
theorem ev_view_Right (l : List Nm) (h : Sm l) : ∃ r, Ev (fun k => view_Right.f k l) r ∧ (r = true ↔ RightN l) := by
 have hh := h.1; obtain ⟨r, h1, h2⟩ := ev_view_Right_l0 l [] (-1) (by simpa using (by omega : l.length < 100000)) (fun x hx => h.2 x hx) (by omega); refine ⟨r, h1, ?_⟩; rw [h2]
 constructor
 ·rintro ⟨a, b⟩; exact ⟨b, fun x hx => (a x hx).2⟩
 ·rintro ⟨b, a⟩; exact ⟨fun x hx => ⟨by have := (a x hx).1; omega, a x hx⟩, b⟩
/-- One endpoint, seen by the document's answer: may it be, behind what it is behind of? -/
theorem ev_ref06_Right_l0 (suf : List Nm) : ∀ (p : List Nm) (y : Nm), ((p ++ [y]) ++ suf).length < 100000 → (∀ x ∈ suf, x.f1.f2.length ≤ 100000) →
  ∃ r, Ev (fun k => ref06_Right.l0 k ((p ++ [y]) ++ suf) ((p ++ [y]).length : Int)) r ∧ (r = true ↔ Ris kN (y :: suf) ∧ ∀ x ∈ suf, MayN x) := by
 induction suf with
 | nil =>
  intro p y h hs; refine ⟨true, Ev.step (fun k => by rw [ref06_Right.l0]) ?_, by simp [ris_one]⟩; simp only [end_ge, ↓reduceIte]; exact Ev.now _
 | cons x suf ih =>
  intro p y h hs
  have rd1 : rd_T41 ((p ++ [y]) ++ x :: suf) ((p.length : Nat) : Int) = y := by rw [← List.append_cons]; exact rdN p y (x :: suf)
  by_cases h0 : x.f0 < 0
  ·refine ⟨false, Ev.step (fun k => by rw [ref06_Right.l0]) ?_, ?_⟩
   ·simp only [mid_lt, nat_ge, ↓reduceIte, rdN, h0]; exact Ev.now _
   ·simp only [Bool.false_eq_true, false_iff]; rintro ⟨_, h2⟩; have := (h2 x (by simp)).1
    omega
  ·by_cases h8 : x.f0 ≥ 8
   ·refine ⟨false, Ev.step (fun k => by rw [ref06_Right.l0]) ?_, ?_⟩
    ·simp only [mid_lt, nat_ge, ↓reduceIte, rdN, h0, h8]; exact Ev.now _
    ·simp only [Bool.false_eq_true, false_iff]; rintro ⟨_, h2⟩; have := (h2 x (by simp)).2.1
     omega
   ·by_cases hk : y.f0 ≥ x.f0
    ·refine ⟨false, Ev.step (fun k => by rw [ref06_Right.l0]) ?_, ?_⟩
     ·simp only [mid_lt, nat_ge, ↓reduceIte, rdN, h0, h8, pos_mid, mid_prev p y x suf (by omega), prev_ge, rd1, hk]; exact Ev.now _
     ·simp only [Bool.false_eq_true, false_iff, ris_cons2]; rintro ⟨⟨h1, _⟩, _⟩
      unfold kN at h1; omega
    ·obtain ⟨m, hm, hm2⟩ := ev_ref05_Right x.f1 (by have := hs x List.mem_cons_self; omega)
     cases m with
     | false =>
      refine ⟨false, Ev.step (fun k => by rw [ref06_Right.l0]) ?_, ?_⟩
      ·simp only [mid_lt, nat_ge, ↓reduceIte, rdN, h0, h8, pos_mid, mid_prev p y x suf (by omega), prev_ge, rd1, hk]; refine Ev.bind hm ?_; simp only [Bool.false_eq_true, ↓reduceIte]; exact Ev.now _
      ·simp only [Bool.false_eq_true, false_iff]; rintro ⟨_, h2⟩; have := hm2.2 (h2 x (by simp)).2.2
       simp at this
     | true =>
      obtain ⟨r, hr, hi⟩ := ih (p ++ [y]) x (by rw [← List.append_cons]; exact h) (fun z hz => hs z (List.mem_cons_of_mem _ hz)); refine ⟨r, Ev.step (fun k => by rw [ref06_Right.l0]) ?_, ?_⟩
      ·simp only [mid_lt, nat_ge, ↓reduceIte, rdN, h0, h8, pos_mid, mid_prev p y x suf (by omega), prev_ge, rd1, hk, mid_next (p ++ [y]) x suf (by omega)]; refine Ev.bind hm ?_; simp only [↓reduceIte]; rw [← List.append_cons (p ++ [y]) x suf] at hr; exact hr
      ·rw [hi, ris_cons2]; have hm3 := hm2.1 rfl
       constructor
       ·rintro ⟨h1, h2⟩; exact ⟨⟨by unfold kN; omega, h1⟩, all_cons ⟨by omega, by omega, hm3⟩ (fun z hz => h2 z hz)⟩
       ·rintro ⟨⟨_, h1⟩, h2⟩; exact ⟨h1, fun z hz => h2 z (by simp [hz])⟩
theorem ev_ref06_Right (l : List Nm) (h : Sm l) : ∃ r, Ev (fun k => ref06_Right.f k l) r ∧ (r = true ↔ RightN l) := by
 have hh := h.1
 unfold ref06_Right.f
 cases l with
 | nil =>
  refine ⟨true, Ev.step (fun k => by rw [ref06_Right.l0]) ?_, by simp [RightN, ris_nil]⟩; simp only [List.length_nil, Int.natCast_zero, Int.lt_irrefl, ↓reduceIte]; exact Ev.now _
 | cons x l =>
  have e0 : (0 : Int) < ((x :: l).length : Int) := len_pos x l; have r0 : rd_T41 (x :: l) 0 = x := rfl
  by_cases h0 : x.f0 < 0
  ·refine ⟨false, Ev.step (fun k => by rw [ref06_Right.l0]) ?_, ?_⟩
   ·simp only [e0, Int.le_refl, ↓reduceIte, r0, h0]; exact Ev.now _
   ·simp only [Bool.false_eq_true, false_iff]; rintro ⟨_, h2⟩; have := (h2 x (by simp)).1
    omega
  ·by_cases h8 : x.f0 ≥ 8
   ·refine ⟨false, Ev.step (fun k => by rw [ref06_Right.l0]) ?_, ?_⟩
    ·simp only [e0, Int.le_refl, ↓reduceIte, r0, h0, h8]; exact Ev.now _
    ·simp only [Bool.false_eq_true, false_iff]; rintro ⟨_, h2⟩; have := (h2 x (by simp)).2.1
     omega
   ·obtain ⟨m, hm, hm2⟩ := ev_ref05_Right x.f1 (by have := h.2 x List.mem_cons_self; omega)
    cases m with
    | false =>
     refine ⟨false, Ev.step (fun k => by rw [ref06_Right.l0]) ?_, ?_⟩
     ·simp only [e0, Int.le_refl, ↓reduceIte, r0, h0, h8, gt_iff_lt, Int.lt_irrefl]; refine Ev.bind hm ?_; simp only [Bool.false_eq_true, ↓reduceIte]; exact Ev.now _
     ·simp only [Bool.false_eq_true, false_iff]; rintro ⟨_, h2⟩; have := hm2.2 (h2 x (by simp)).2.2
      simp at this
    | true =>
     obtain ⟨r, hr, hi⟩ := ev_ref06_Right_l0 l [] x (by simp at hh ⊢; omega) (fun z hz => h.2 z (List.mem_cons_of_mem _ hz)); refine ⟨r, Ev.step (fun k => by rw [ref06_Right.l0]) ?_, ?_⟩
     ·simp only [e0, Int.le_refl, ↓reduceIte, r0, h0, h8, gt_iff_lt, Int.lt_irrefl, wrap01]; refine Ev.bind hm ?_; simp only [↓reduceIte]; exact hr
     ·rw [hi]; have hm3 := hm2.1 rfl
      constructor
      ·rintro ⟨h1, h2⟩; exact ⟨h1, all_cons ⟨by omega, by omega, hm3⟩ (fun z hz => h2 z hz)⟩
      ·rintro ⟨h1, h2⟩; exact ⟨h1, fun z hz => h2 z (by simp [hz])⟩
theorem ev_view_Nodes_l0 (suf : List Nm) : ∀ pre : List Nm, (pre ++ suf).length < 100000 →
  Ev (fun k => view_Nodes.l0 k (pre.map (·.f0)) (pre ++ suf) ((pre ++ suf).length : Int) (pre.length : Int)) ((pre ++ suf).map (·.f0)) := by
 induction suf with
 | nil =>
  intro pre h; refine Ev.step (fun k => by rw [view_Nodes.l0]) ?_; simp only [end_ge, ↓reduceIte]; rw [List.append_nil]; exact Ev.now _
 | cons x suf ih =>
  intro pre h; have e2 := ih (pre ++ [x]) (by rw [← List.append_cons]; exact h); rw [← List.append_cons pre x suf, List.map_append] at e2
  have hl : (pre.map (·.f0)).length < 17592186044416 := by rw [List.length_map]; rw [List.length_append] at h; omega
  refine Ev.step (fun k => by rw [view_Nodes.l0]) ?_; simp only [mid_lt, nat_ge, rdN, hl, ↓reduceIte, mid_next pre x suf (by omega)]; exact e2
theorem ev_view_Nodes (l : List Nm) (h : Sm l) : Ev (fun k => view_Nodes.f k l) (l.map (·.f0)) := by
 have h1 := h.1; exact ev_view_Nodes_l0 l [] (by simpa using (by omega : l.length < 100000))
theorem ev_ref06_Nodes_l0 (suf : List Nm) : ∀ pre : List Nm, (pre ++ suf).length < 100000 →
  Ev (fun k => ref06_Nodes.l0 k (pre ++ suf) (pre.map (·.f0)) (pre.length : Int)) ((pre ++ suf).map (·.f0)) := by
 induction suf with
 | nil =>
  intro pre h; refine Ev.step (fun k => by rw [ref06_Nodes.l0]) ?_; simp only [end_ge, ↓reduceIte]; rw [List.append_nil]; exact Ev.now _
 | cons x suf ih =>
  intro pre h; have e2 := ih (pre ++ [x]) (by rw [← List.append_cons]; exact h); rw [← List.append_cons pre x suf, List.map_append] at e2
  have hl : (pre.map (·.f0)).length < 17592186044416 := by rw [List.length_map]; rw [List.length_append] at h; omega
  refine Ev.step (fun k => by rw [ref06_Nodes.l0]) ?_; simp only [mid_lt, nat_ge, rdN, hl, ↓reduceIte, mid_next pre x suf (by omega)]; exact e2
theorem ev_ref06_Nodes (l : List Nm) (h : Sm l) : Ev (fun k => ref06_Nodes.f k l) (l.map (·.f0)) := by
 have h1 := h.1; exact ev_ref06_Nodes_l0 l [] (by simpa using (by omega : l.length < 100000))
theorem ev_ref06_Ints_l0 (sa : List Int) : ∀ (sb pa pb : List Int), pa.length = pb.length → sa.length = sb.length → (pa ++ sa).length < 4611686018427387904 →
  ∃ r, Ev (fun k => ref06_Ints.l0 k (pa ++ sa) (pb ++ sb) (pa.length : Int)) r ∧ (r = true ↔ sa = sb) := by
 induction sa with
 | nil =>
  intro sb pa pb hp hs h; have : sb = [] := List.eq_nil_of_length_eq_zero (by simpa using hs.symm); subst this; refine ⟨true, Ev.step (fun k => by rw [ref06_Ints.l0]) ?_, by simp⟩; simp only [end_ge, ↓reduceIte]; exact Ev.now _
 | cons x sa ih =>
  intro sb pa pb hp hs h
  match sb, hs with
  | y :: sb, hs =>
   have r2 : rd (pb ++ y :: sb) (pa.length : Int) = y := by rw [hp]; exact rdI pb y sb
   have l2 : (pa.length : Int) < ((pb ++ y :: sb).length : Int) := by rw [hp]; exact mid_lt pb y sb
   by_cases hxy : x = y
   ·subst hxy; obtain ⟨r, h1, h2⟩ := ih sb (pa ++ [x]) (pb ++ [x]) (by simp [hp]) (by simpa using hs) (by rw [← List.append_cons]; exact h); refine ⟨r, Ev.step (fun k => by rw [ref06_Ints.l0]) ?_, ?_⟩
    ·simp only [mid_lt, l2, nat_ge, ↓reduceIte, rdI, r2, mid_next pa x sa (by omega)]; rw [← List.append_cons pa x sa, ← List.append_cons pb x sb] at h1; exact h1
    ·rw [h2]; simp
   ·refine ⟨false, Ev.step (fun k => by rw [ref06_Ints.l0]) ?_, ?_⟩
    ·simp only [mid_lt, l2, nat_ge, ↓reduceIte, rdI, r2, hxy]; exact Ev.now _
    ·simp [hxy]
theorem ev_ref06_Ints (a b : List Int) (h : a.length < 4611686018427387904) : ∃ r, Ev (fun k => ref06_Ints.f k a b) r ∧ (r = true ↔ a = b) := by
 unfold ref06_Ints.f
 by_cases hl : (a.length : Int) = (b.length : Int)
 ·obtain ⟨r, h1, h2⟩ := ev_ref06_Ints_l0 a b [] [] rfl (by omega) (by simpa using h); refine ⟨r, ?_, h2⟩; simp only [hl, ↓reduceIte]; exact h1
 ·refine ⟨false, ?_, ?_⟩
  ·simp only [hl, ↓reduceIte]; exact Ev.now _
  ·simp only [Bool.false_eq_true, false_iff]; intro e; exact hl (by rw [e])
theorem ev_ints_true (a : List Int) (h : a.length < 4611686018427387904) : Ev (fun k => ref06_Ints.f k a a) true := by
 obtain ⟨r, e, q⟩ := ev_ref06_Ints a a h; rw [q.2 rfl] at e; exact e
theorem ev_ref06_Same_l0 (sa : List Nm) : ∀ (sb pa pb : List Nm), pa.length = pb.length → sa.length = sb.length → (pa ++ sa).length < 100000 → (∀ x ∈ sa, x.f1.f2.length ≤ 100000) →
  ∃ r, Ev (fun k => ref06_Same.l0 k (pa ++ sa) (pb ++ sb) (pa.length : Int)) r ∧ (r = true ↔ sa = sb) := by
 induction sa with
 | nil =>
  intro sb pa pb hp hs h hq; have : sb = [] := List.eq_nil_of_length_eq_zero (by simpa using hs.symm); subst this; refine ⟨true, Ev.step (fun k => by rw [ref06_Same.l0]) ?_, by simp⟩; simp only [end_ge, ↓reduceIte]; exact Ev.now _
 | cons x sa ih =>
  intro sb pa pb hp hs h hq
  match sb, hs with
  | y :: sb, hs =>
   have r2 : rd_T41 (pb ++ y :: sb) (pa.length : Int) = y := by rw [hp]; exact rdN pb y sb
   have l2 : (pa.length : Int) < ((pb ++ y :: sb).length : Int) := by rw [hp]; exact mid_lt pb y sb
   by_cases h0 : x.f0 = y.f0
   ·obtain ⟨g, e, q⟩ := ev_ref05_Same x.f1 y.f1 (by have := hq x List.mem_cons_self; omega)
    cases g with
    | true =>
     have hxy : x = y := nm_ext h0 (q.1 rfl); subst hxy; obtain ⟨r, h1, h2⟩ := ih sb (pa ++ [x]) (pb ++ [x]) (by simp [hp]) (by simpa using hs) (by rw [← List.append_cons]; exact h) (fun z hz => hq z (List.mem_cons_of_mem _ hz)); refine ⟨r, Ev.step (fun k => by rw [ref06_Same.l0]) ?_, ?_⟩
     ·simp only [mid_lt, l2, nat_ge, ↓reduceIte, rdN, r2, mid_next pa x sa (by omega)]; refine Ev.bind e ?_; simp only [↓reduceIte]; rw [← List.append_cons pa x sa, ← List.append_cons pb x sb] at h1; exact h1
     ·rw [h2]; simp
    | false =>
     refine ⟨false, Ev.step (fun k => by rw [ref06_Same.l0]) ?_, ?_⟩
     ·simp only [mid_lt, l2, nat_ge, ↓reduceIte, rdN, r2, h0]; refine Ev.bind e ?_; simp only [Bool.false_eq_true, ↓reduceIte]; exact Ev.now _
     ·simp only [Bool.false_eq_true, false_iff, List.cons.injEq, not_and]; intro hxy; have := q.2 (by rw [hxy])
      simp at this
   ·refine ⟨false, Ev.step (fun k => by rw [ref06_Same.l0]) ?_, ?_⟩
    ·simp only [mid_lt, l2, nat_ge, ↓reduceIte, rdN, r2, h0]; exact Ev.now _
    ·simp only [Bool.false_eq_true, false_iff, List.cons.injEq, not_and]; intro hxy; exact absurd (by rw [hxy]) h0
theorem ev_ref06_Same (a b : List Nm) (h : Sm a) : ∃ r, Ev (fun k => ref06_Same.f k a b) r ∧ (r = true ↔ a = b) := by
 have hh := h.1
 unfold ref06_Same.f
 by_cases hl : (a.length : Int) = (b.length : Int)
 ·obtain ⟨r, h1, h2⟩ := ev_ref06_Same_l0 a b [] [] rfl (by omega) (by simpa using (by omega : a.length < 100000)) (fun x hx => h.2 x hx); refine ⟨r, ?_, h2⟩; simp only [hl, ↓reduceIte]; exact h1
 ·refine ⟨false, ?_, ?_⟩
  ·simp only [hl, ↓reduceIte]; exact Ev.now _
  ·simp only [Bool.false_eq_true, false_iff]; intro e; exact hl (by rw [e])
theorem ev_sameN_true {a b : List Nm} (h : Sm a) (e : a = b) : Ev (fun k => ref06_Same.f k a b) true := by
 obtain ⟨r, h1, h2⟩ := ev_ref06_Same a b h; rw [h2.2 e] at h1; exact h1
theorem view_q_is (x y : Nm) (h : x.f1.f2.length ≤ 100000) : view_Same.q x y = true ↔ x = y := by
 obtain ⟨b, hb⟩ := state_Same.total x.f1.f0 x.f1.f1 x.f1.f2 y.f1.f0 y.f1.f1 y.f1.f2 (by omega); obtain ⟨r, ⟨K, e⟩, q⟩ := ev_state_Same x.f1 y.f1 (by omega)
 have hbr : b = r := by
  have h1 : state_Same.f (max K (x.f1.f2.length + 1)) x.f1.f0 x.f1.f1 x.f1.f2 y.f1.f0 y.f1.f1 y.f1.f2 = some r := e (max K (x.f1.f2.length + 1)) (by omega); have h2 := at_rounds (fun k => state_Same.mono x.f1.f0 x.f1.f1 x.f1.f2 y.f1.f0 y.f1.f1 y.f1.f2 k) (Nat.le_max_right K (x.f1.f2.length + 1)) hb; rw [h1] at h2; exact (Option.some.inj h2).symm
 unfold view_Same.q view_Same.st
 rw [hb, Bool.and_eq_true, beq_iff_eq]
 show x.f0 = y.f0 ∧ b = true ↔ x = y
 rw [hbr, q]; exact ⟨fun h => nm_ext h.1 h.2, fun h => ⟨by rw [h], by rw [h]⟩⟩
theorem view_Same_is (a b : List Nm) (h : Sm a) : ∃ r, view_Same.f a b = some r ∧ (r = true ↔ a = b) := by
 refine ⟨_, rfl, ?_⟩
 unfold eqfN
 rw [Bool.and_eq_true, decide_eq_true_eq, List.all_eq_true]
 constructor
 ·rintro ⟨hl, hj⟩
  apply List.ext_getElem hl
  intro i h1 h2; have h3 := (view_q_is _ _ (by simp only [List.getD_eq_getElem?_getD, List.getElem?_eq_getElem h1, Option.getD_some]; exact h.2 _ (List.getElem_mem h1))).1 (hj i (List.mem_range.2 h1))
  simpa [List.getD_eq_getElem?_getD, h1, h2] using h3
 ·intro e; subst e; refine ⟨rfl, fun j hj => ?_⟩; have h1 := List.mem_range.1 hj; exact (view_q_is _ _ (by simp only [List.getD_eq_getElem?_getD, List.getElem?_eq_getElem h1, Option.getD_some]; exact h.2 _ (List.getElem_mem h1))).2 rfl
def outN (l : List Nm) (n : Int) : List Nm := l.filter (fun x => !(x.f0 == n))
theorem sm_out {l : List Nm} {n : Int} (h : Sm l) : Sm (outN l n) := ⟨Nat.le_trans (List.length_filter_le _ _) h.1, fun x hx => h.2 x (List.mem_filter.1 hx).1⟩
theorem ev_view_Without (l : List Nm) (n : Int) (h : Sm l) : Ev (fun k => view_Without.f k l n) (outN l n) := by
 unfold view_Without.f
 exact Ev.bind (ev_view_Copy l h) (Ev.now _)
theorem ev_ref06_Without_l0 (n : Int) (suf : List Nm) : ∀ pre : List Nm, Sm (pre ++ suf) →
  Ev (fun k => ref06_Without.l0 k (pre ++ suf) n (outN pre n) (pre.length : Int)) (outN (pre ++ suf) n) := by
 induction suf with
 | nil =>
  intro pre h; have h1 := h.1; refine Ev.step (fun k => by rw [ref06_Without.l0]) ?_; simp only [end_ge, ↓reduceIte]; rw [List.append_nil]; exact Ev.bind (ev_ref06_Copy _ (sm_out (by simpa using h))) (Ev.now _)
 | cons x suf ih =>
  intro pre h; have h1 := h.1
  have hpl : pre.length ≤ 1000 := by rw [List.length_append] at h1; omega
  have e2 := ih (pre ++ [x]) (by rw [← List.append_cons]; exact h); rw [← List.append_cons pre x suf] at e2
  have hl : (outN pre n).length < 2932031007402 := by have := List.length_filter_le (fun x : Nm => !(x.f0 == n)) pre; unfold outN; omega
  refine Ev.step (fun k => by rw [ref06_Without.l0]) ?_
  by_cases hx : x.f0 = n
  ·have e3 : outN (pre ++ [x]) n = outN pre n := by simp [outN, hx]
   rw [e3] at e2; simp only [mid_lt, nat_ge, rdN, hx, ↓reduceIte, mid_next pre x suf (by omega)]; exact e2
  ·have e3 : outN (pre ++ [x]) n = outN pre n ++ [x] := by simp [outN, hx]
   rw [e3] at e2; simp only [mid_lt, nat_ge, rdN, hx, hl, ↓reduceIte, mid_next pre x suf (by omega)]; exact e2
theorem ev_ref06_Without (l : List Nm) (n : Int) (h : Sm l) : Ev (fun k => ref06_Without.f k l n) (outN l n) := ev_ref06_Without_l0 n l [] h
theorem alive06 : Ev (fun k => law06_alive.f k) true := Ev.of (fun k => law06_alive.mono k) (k := 60) (by decide +kernel)
theorem rdL (pre : List (List Nm)) (x : List Nm) (suf : List (List Nm)) : rd_L6 (pre ++ x :: suf) ((pre.length : Nat) : Int) = x := getD_mid _ pre x suf
theorem ev_great06_l0 (suf : List (List Nm)) : ∀ pre : List (List Nm), (pre ++ suf).length < 1000 → (∀ l ∈ suf, l.length < 4611686018427387904 ∧ inN l) →
  ∃ r, Ev (fun k => law06_great.l0 k (pre ++ suf) (pre.length : Int)) r ∧ (r = false → ∀ l ∈ suf, Sm l) := by
 induction suf with
 | nil =>
  intro pre h hs; refine ⟨false, Ev.step (fun k => by rw [law06_great.l0]) ?_, fun _ s hs => by simp at hs⟩; simp only [end_ge, ↓reduceIte]; exact Ev.now _
 | cons s suf ih =>
  intro pre h hs; obtain ⟨g, e, q⟩ := ev_ref06_Great s (hs s List.mem_cons_self).1 (hs s List.mem_cons_self).2
  cases g with
  | true =>
   refine ⟨true, Ev.step (fun k => by rw [law06_great.l0]) ?_, fun x => absurd x (by decide)⟩; simp only [mid_lt, nat_ge, rdL, ↓reduceIte]; refine Ev.bind e ?_; simp only [↓reduceIte]; exact Ev.now _
  | false =>
   obtain ⟨r, e2, q2⟩ := ih (pre ++ [s]) (by rw [← List.append_cons]; exact h) (fun x hx => hs x (List.mem_cons_of_mem _ hx)); refine ⟨r, Ev.step (fun k => by rw [law06_great.l0]) ?_, fun x y hy => ?_⟩
   ·simp only [mid_lt, nat_ge, rdL, ↓reduceIte, mid_next pre s suf (by omega)]; refine Ev.bind e ?_; simp only [Bool.false_eq_true, ↓reduceIte]; rw [← List.append_cons pre s suf] at e2; exact e2
   ·rcases List.mem_cons.1 hy with rfl | hy
    ·exact q rfl
    ·exact q2 x y hy
theorem ev_great06 (l : List (List Nm)) (hn : l.length < 1000) (hl : ∀ s ∈ l, s.length < 4611686018427387904 ∧ inN s) : ∃ r, Ev (fun k => law06_great.f k l) r ∧ (r = false → ∀ s ∈ l, Sm s) := ev_great06_l0 l [] hn hl
theorem in_view {l : List Nm} (h : l.length ≤ maxLen ∧ l.length * 48 ≤ 140737488351232 ∧ ∀ x_ ∈ l, G41 x_) : l.length < 4611686018427387904 ∧ inN l := ⟨by have := h.2.1; omega, fun x hx => inS (h.2.2 x hx).2⟩
theorem ViewAsks : ∀ (x0 : List S41) (x1 : List S41) (x2 : Int), (x0.length ≤ maxLen ∧ x0.length * 48 ≤ 140737488351232 ∧ ∀ x_ ∈ x0, G41 x_) → (x1.length ≤ maxLen ∧ x1.length * 48 ≤ 140737488351232 ∧ ∀ x_ ∈ x1, G41 x_) → (Lit.int .i64 x2).wf = true → ∃ k, law06_ViewAsks.f k x0 x1 x2 = some true := by
 intro a b n ha hb _
 apply Ev.get
 unfold law06_ViewAsks.f
 refine Ev.bind alive06 ?_; simp only [↓reduceIte]
 obtain ⟨g, eg, qg⟩ := ev_great06 [a, b] (by simp) (fun s hs => by
  simp only [List.mem_cons, List.not_mem_nil, or_false] at hs
  rcases hs with rfl | rfl
  ·exact in_view ha
  ·exact in_view hb)
 refine Ev.bind eg ?_
 cases g with
 | true => simp only [↓reduceIte]; exact Ev.now _
 | false =>
  have sa := qg rfl a (by simp); simp only [Bool.false_eq_true, ↓reduceIte, view_Get_is a n sa, Option.bind_some]; refine Ev.bind (ev_ref06_Get a n sa) ?_
  have hs : Ev (fun k => ref05_Same.f k (gotN (look kN a n)).1 (gotN (look kN a n)).2.1 (gotN (look kN a n)).2.2.1 (gotN (look kN a n)).1 (gotN (look kN a n)).2.1 (gotN (look kN a n)).2.2.1) true := by
   cases hx : look kN a n with
   | none => exact ev_ref05_same_true ⟨0, 0, []⟩ (by simp)
   | some x => exact ev_ref05_same_true x.f1 (by have := sa.2 x (look_mem hx).1; omega)
  refine Ev.bind hs ?_; simp only [beq_self_eq_true, ↓reduceIte]; obtain ⟨r1, e1, q1⟩ := ev_view_Right a sa; obtain ⟨r2, e2, q2⟩ := ev_ref06_Right a sa
  have h12 : (r1 == r2) = true := by rw [beq_iff_eq]; exact bool_iff q1 q2
  refine Ev.bind e1 (Ev.bind e2 ?_); simp only [h12, ↓reduceIte]; refine Ev.bind (ev_view_Nodes a sa) (Ev.bind (ev_ref06_Nodes a sa) (Ev.bind (ev_ints_true _ (by have := sa.1; rw [List.length_map]; omega)) ?_)); obtain ⟨r3, e3, q3⟩ := view_Same_is a b sa; obtain ⟨r4, e4, q4⟩ := ev_ref06_Same a b sa
  have h34 : (r3 == r4) = true := by rw [beq_iff_eq]; exact bool_iff q3 q4
  simp only [↓reduceIte, e3, Option.bind_some]; refine Ev.bind e4 ?_; simp only [h34, ↓reduceIte]; refine Ev.bind (ev_view_Copy a sa) (Ev.bind (ev_sameN_true sa rfl) ?_); simp only [↓reduceIte]; refine Ev.bind (ev_view_Without a n sa) (Ev.bind (ev_ref06_Without a n sa) ?_); exact Ev.bind (ev_sameN_true (sm_out sa) rfl) (Ev.now _)
end Go.Proofs.Ythpbggknfhchlaa.Pl

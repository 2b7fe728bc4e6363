/- StateAsks' plain law: any state is asked as the document says: for all states. No condition. -/
import Derived.Test.YtfoeahjbkmdgfaaHw
import Derived.Test.YtfoeahjbkmdgfaaOps
import Derived.Test.YtfoeahjbkmdgfaaP0
import Derived.Test.YtfoeahjbkmdgfaaPApiEntry45
import Derived.Test.YtfoeahjbkmdgfaaPApiEntry59
import Derived.Test.YtfoeahjbkmdgfaaPEntryAbove
import Derived.Test.YtfoeahjbkmdgfaaPEntryMay
import Derived.Test.YtfoeahjbkmdgfaaPEntryRight
import Derived.Test.YtfoeahjbkmdgfaaPEntrySame
import Derived.Test.YtfoeahjbkmdgfaaPEntryTop
import Derived.Test.YtfoeahjbkmdgfaaPLaw05Alive
import Derived.Test.YtfoeahjbkmdgfaaPLaw05Great
import Derived.Test.YtfoeahjbkmdgfaaPLaw05StateAsks
import Derived.Test.YtfoeahjbkmdgfaaPRef04Above
import Derived.Test.YtfoeahjbkmdgfaaPRef04Great
import Derived.Test.YtfoeahjbkmdgfaaPRef04May
import Derived.Test.YtfoeahjbkmdgfaaPRef04Right
import Derived.Test.YtfoeahjbkmdgfaaPRef04Same
import Derived.Test.YtfoeahjbkmdgfaaPRef04Top
import Derived.Test.YtfoeahjbkmdgfaaPRef05Above
import Derived.Test.YtfoeahjbkmdgfaaPRef05Great
import Derived.Test.YtfoeahjbkmdgfaaPRef05Right
import Derived.Test.YtfoeahjbkmdgfaaPRef05Same
import Derived.Test.YtfoeahjbkmdgfaaPRef05Top
import Derived.Test.YtfoeahjbkmdgfaaPStateAbove
import Derived.Test.YtfoeahjbkmdgfaaPStateCopy
import Derived.Test.YtfoeahjbkmdgfaaPStateRight
import Derived.Test.YtfoeahjbkmdgfaaPStateSame
import Derived.Test.YtfoeahjbkmdgfaaPStateTop
namespace Go.Proofs.Ytfoeahjbkmdgfaa.Pl
open Go.RowKit Go.Proofs.Ytfoeahjbkmdgfaa.P Go.Proofs.YtfoeahjbkmdgfaaW.PrintWords Go.Proofs.YtfoeahjbkmdgfaaW.PrintLast Go.Proofs.YtfoeahjbkmdgfaaW.PrintMore
set_option linter.unusedSimpArgs false
set_option linter.unusedVariables false
abbrev E := S40
theorem wrap_id (x : Int) (h0 : -9223372036854775808 ≤ x) (h1 : x ≤ 9223372036854775807) : wrap64 x = x := by unfold wrap64; omega
theorem wrap_nat (n : Nat) (h : n < 9223372036854775807) : wrap64 ((n : Int) + 1) = ((n + 1 : Nat) : Int) := by unfold wrap64; omega
theorem getD_mid {α : Type} (z : α) (pre : List α) (x : α) (suf : List α) : (pre ++ x :: suf).getD ((pre.length : Nat) : Int).toNat z = x := by
 simp [List.getD_eq_getElem?_getD]
theorem rdE (pre : List E) (x : E) (suf : List E) : rd_T40 (pre ++ x :: suf) ((pre.length : Nat) : Int) = x := getD_mid _ pre x suf
theorem rdE0 (x : E) (suf : List E) : rd_T40 (x :: suf) 0 = x := rfl
theorem mid_lt {α : Type} (pre : List α) (x : α) (suf : List α) : ((pre.length : Nat) : Int) < ((pre ++ x :: suf).length : Int) := by simp <;> omega
theorem end_ge {α : Type} (pre : List α) : ¬ ((pre.length : Nat) : Int) < ((pre ++ ([] : List α)).length : Int) := by simp
theorem nat_ge {α : Type} (pre : List α) : (0 : Int) ≤ ((pre.length : Nat) : Int) := Int.natCast_nonneg _
theorem mid_next {α : Type} (pre : List α) (x : α) (suf : List α) (h : (pre ++ x :: suf).length < 9223372036854775807) : wrap64 (((pre.length : Nat) : Int) + 1) = (((pre ++ [x]).length : Nat) : Int) := by
 rw [wrap_nat _ (by simp at h; omega), List.length_append]; rfl
theorem mid_prev {α : Type} (pre : List α) (y x : α) (suf : List α) (h : ((pre ++ [y]) ++ x :: suf).length < 9223372036854775807) : wrap64 ((((pre ++ [y]).length : Nat) : Int) - 1) = ((pre.length : Nat) : Int) := by
 rw [wrap_id _ (by omega) (by have := h; simp only [List.length_append, List.length_cons, List.length_nil] at *; omega), List.length_append, List.length_singleton]; omega
section
variable {α : Type} (key : α → Int)
def Ris (l : List α) : Prop := l.Pairwise (fun a b => key a < key b)
variable {key}
theorem ris_nil : Ris key [] := List.Pairwise.nil
theorem ris_cons {x : α} {l : List α} : Ris key (x :: l) ↔ (∀ y ∈ l, key x < key y) ∧ Ris key l := List.pairwise_cons
theorem ris_tail {x : α} {l : List α} (h : Ris key (x :: l)) : Ris key l := (ris_cons.1 h).2
theorem ris_head {x : α} {l : List α} (h : Ris key (x :: l)) : ∀ y ∈ l, key x < key y := (ris_cons.1 h).1
end
theorem bool_iff {a b : Bool} {p : Prop} (ha : a = true ↔ p) (hb : b = true ↔ p) : a = b := by
 cases a <;> cases b <;> simp_all
def MayE (x : E) : Prop := 0 ≤ x.f0 ∧ x.f0 < 12 ∧ 1 ≤ x.f1 ∧ x.f1 ≤ 1099511627776 ∧ x.f2.size ≤ 200
def kE (x : E) : Int := x.f0
def RightE (l : List E) : Prop := Ris kE l ∧ ∀ x ∈ l, MayE x
def TopE (l : List E) : Int := l.foldl (fun t x => mx t x.f1) 0
open Go.RowKit Go.Proofs.Ytfoeahjbkmdgfaa.P Go.Proofs.YtfoeahjbkmdgfaaW.PrintWords Go.Proofs.YtfoeahjbkmdgfaaW.PrintLast Go.Proofs.YtfoeahjbkmdgfaaW.PrintMore Go.Proofs.YtfoeahjbkmdgfaaW.Hw
theorem ev_entry_Top_l0 (suf : List E) : ∀ (pre : List E) (t : Int), (pre ++ suf).length < 4611686018427387904 →
  Ev (fun k => entry_Top.l0 k t (pre ++ suf) ((pre ++ suf).length : Int) (pre.length : Int)) (suf.foldl (fun t x => mx t x.f1) t) := by
 induction suf with
 | nil =>
  intro pre t h
  refine Ev.step (fun k => by rw [entry_Top.l0]) ?_
  simp only [end_ge, ↓reduceIte]
  exact Ev.now _
 | cons x suf ih =>
  intro pre t h
  refine Ev.step (fun k => by rw [entry_Top.l0]) ?_
  simp only [mid_lt, nat_ge, ↓reduceIte, rdE, mid_next pre x suf (by omega)]
  have := ih (pre ++ [x]) (mx t x.f1) (by rw [← List.append_cons]; exact h)
  rw [← List.append_cons pre x suf] at this
  exact this
theorem ev_entry_Top (l : List E) (h : l.length < 4611686018427387904) : Ev (fun k => entry_Top.f k l) (TopE l) := ev_entry_Top_l0 l [] 0 h
theorem wrap01 : wrap64 (0 + 1) = 1 := wrap_id 1 (by omega) (by omega)
theorem all_cons {α : Type} {Q : α → Prop} {x : α} {l : List α} (hx : Q x) (hl : ∀ z, z ∈ l → Q z) : ∀ z, z ∈ x :: l → Q z := fun z hz => by
 rcases List.mem_cons.1 hz with rfl | hz
 ·exact hx
 ·exact hl z hz
theorem ev_ref04_Great_l0 (suf : List E) : ∀ (pre : List E) (n : Int), (pre ++ suf).length < 4611686018427387904 → 0 ≤ n → n ≤ 4611686018427387904 → (∀ x ∈ suf, x.f2.size ≤ 140737488351232) →
  ∃ r, Ev (fun k => ref04_Great.l0 k (pre ++ suf) n (pre.length : Int)) r ∧ (r = false → n ≤ 4000) := by
 induction suf with
 | nil =>
  intro pre n h h0 h1 h2
  refine ⟨decide (n > 4000), Ev.step (fun k => by rw [ref04_Great.l0]) ?_, by simp⟩
  simp only [end_ge, ↓reduceIte]
  exact Ev.now _
 | cons x suf ih =>
  intro pre n h h0 h1 h2
  by_cases hn : n ≤ 4000
  ·have hx := h2 x (by simp)
   obtain ⟨r, hr, hi⟩ := ih (pre ++ [x]) (n + (x.f2.size : Int)) (by rw [← List.append_cons]; exact h) (by omega) (by omega) (fun y hy => h2 y (by simp [hy]))
   refine ⟨r, Ev.step (fun k => by rw [ref04_Great.l0]) ?_, fun _ => hn⟩
   simp only [mid_lt, nat_ge, ↓reduceIte, rdE, mid_next pre x suf (by omega), hn, wrap_id (n + (x.f2.size : Int)) (by omega) (by omega)]
   rw [← List.append_cons pre x suf] at hr
   exact hr
  ·refine ⟨decide (n > 4000), Ev.step (fun k => by rw [ref04_Great.l0]) ?_, by simp⟩
   simp only [mid_lt, ↓reduceIte, hn]
   exact Ev.now _
theorem ev_ref04_Great (l : List E) (h : l.length < 4611686018427387904) (hs : ∀ x ∈ l, x.f2.size ≤ 140737488351232) : ∃ r, Ev (fun k => ref04_Great.f k l) r ∧ (r = false → l.length ≤ 4000) := by
 obtain ⟨r, hr, hi⟩ := ev_ref04_Great_l0 l [] (l.length : Int) h (by omega) (by omega) hs
 exact ⟨r, hr, fun e => by have := hi e; omega⟩
section
variable {α : Type} {key : α → Int}
theorem ris_cons2 {y x : α} {l : List α} : Ris key (y :: x :: l) ↔ key y < key x ∧ Ris key (x :: l) := by
 rw [ris_cons]
 constructor
 ·rintro ⟨h1, h2⟩; exact ⟨h1 x (by simp), h2⟩
 ·rintro ⟨h1, h2⟩
  refine ⟨fun z hz => ?_, h2⟩
  rcases List.mem_cons.1 hz with rfl | hz
  ·exact h1
  ·have := ris_head h2 z hz; omega
theorem ris_one (x : α) : Ris key [x] := List.pairwise_singleton _ x
end
theorem len_pos {α : Type} (x : α) (l : List α) : (0 : Int) < ((x :: l).length : Int) := by simp <;> omega
theorem may04_is (x : E) : ∃ r, ref04_May.f x.f0 x.f1 x.f2 = some r ∧ (r = true ↔ MayE x) := by
 unfold ref04_May.f MayE
 by_cases h1 : x.f0 ≥ 0
 ·by_cases h2 : x.f0 < 12
  ·by_cases h3 : x.f1 ≥ 1
   ·by_cases h4 : x.f1 ≤ 1099511627776
    ·refine ⟨_, by simp only [h1, h2, h3, h4, ↓reduceIte]; rfl, ?_⟩
     simp; omega
    ·exact ⟨false, by simp only [h1, h2, h3, h4, ↓reduceIte], by simp; omega⟩
   ·exact ⟨false, by simp only [h1, h2, h3, ↓reduceIte], by simp; omega⟩
  ·exact ⟨false, by simp only [h1, h2, ↓reduceIte], by simp; omega⟩
 ·exact ⟨false, by simp only [h1, ↓reduceIte], by simp; omega⟩
theorem pos_mid {α : Type} (p : List α) (y : α) : (((p ++ [y]).length : Nat) : Int) > 0 := by simp <;> omega
theorem prev_ge {α : Type} (p : List α) (y x : α) (s : List α) : ((p.length : Nat) : Int) < (((p ++ [y]) ++ x :: s).length : Int) := by simp <;> omega
theorem rdE1 (p : List E) (y x : E) (s : List E) : rd_T40 ((p ++ [y]) ++ x :: s) ((p.length : Nat) : Int) = y := by rw [← List.append_cons]; exact rdE p y (x :: s)
theorem ev_ref04_Right_l0 (suf : List E) : ∀ (p : List E) (y : E), ((p ++ [y]) ++ suf).length < 4611686018427387904 →
  ∃ r, Ev (fun k => ref04_Right.l0 k ((p ++ [y]) ++ suf) ((p ++ [y]).length : Int)) r ∧ (r = true ↔ Ris kE (y :: suf) ∧ ∀ x ∈ suf, MayE x) := by
 induction suf with
 | nil =>
  intro p y h
  refine ⟨true, Ev.step (fun k => by rw [ref04_Right.l0]) ?_, by simp [ris_one]⟩
  simp only [end_ge, ↓reduceIte]
  exact Ev.now _
 | cons x suf ih =>
  intro p y h
  obtain ⟨m, hm, hmi⟩ := may04_is x
  cases m with
  | false =>
   refine ⟨false, Ev.step (fun k => by rw [ref04_Right.l0]) ?_, ?_⟩
   ·simp only [mid_lt, nat_ge, ↓reduceIte, rdE, hm, Option.bind_some, Bool.false_eq_true]
    exact Ev.now _
   ·simp only [Bool.false_eq_true, false_iff]
    rintro ⟨_, h2⟩
    exact absurd (hmi.2 (h2 x (by simp))) (by simp)
  | true =>
   by_cases hk : y.f0 ≥ x.f0
   ·refine ⟨false, Ev.step (fun k => by rw [ref04_Right.l0]) ?_, ?_⟩
    ·simp only [mid_lt, nat_ge, ↓reduceIte, rdE, hm, Option.bind_some, pos_mid, mid_prev p y x suf (by omega), prev_ge, rdE1, hk]
     exact Ev.now _
    ·simp only [Bool.false_eq_true, false_iff, ris_cons2]
     rintro ⟨⟨h1, _⟩, _⟩
     unfold kE at h1; omega
   ·obtain ⟨r, hr, hi⟩ := ih (p ++ [y]) x (by rw [← List.append_cons]; exact h)
    refine ⟨r, Ev.step (fun k => by rw [ref04_Right.l0]) ?_, ?_⟩
    ·simp only [mid_lt, nat_ge, ↓reduceIte, rdE, hm, Option.bind_some, pos_mid, mid_prev p y x suf (by omega), prev_ge, rdE1, hk, mid_next (p ++ [y]) x suf (by omega)]
     rw [← List.append_cons (p ++ [y]) x suf] at hr
     exact hr
    ·rw [hi, ris_cons2]
     have := hmi.1 rfl
     constructor
     ·rintro ⟨h1, h2⟩
      exact ⟨⟨by unfold kE; omega, h1⟩, all_cons (this) (fun z hz => h2 z hz)⟩
     ·rintro ⟨⟨_, h1⟩, h2⟩
      exact ⟨h1, fun z hz => h2 z (by simp [hz])⟩
theorem ev_ref04_Right (l : List E) (h : l.length < 4611686018427387904) : ∃ r, Ev (fun k => ref04_Right.f k l) r ∧ (r = true ↔ RightE l) := by
 cases l with
 | nil =>
  refine ⟨true, Ev.step (g := fun k => ref04_Right.l0 k [] 0) (fun k => by rw [ref04_Right.l0]) ?_, by simp [RightE, ris_nil]⟩
  simp only [List.length_nil, Int.natCast_zero, Int.lt_irrefl, ↓reduceIte]
  exact Ev.now _
 | cons x l =>
  obtain ⟨m, hm, hmi⟩ := may04_is x
  have e0 : (0 : Int) < ((x :: l).length : Int) := len_pos x l
  cases m with
  | false =>
   refine ⟨false, Ev.step (g := fun k => ref04_Right.l0 k (x :: l) 0) (fun k => by rw [ref04_Right.l0]) ?_, ?_⟩
   ·simp only [e0, Int.le_refl, ↓reduceIte, rdE0, hm, Option.bind_some, Bool.false_eq_true]
    exact Ev.now _
   ·simp only [Bool.false_eq_true, false_iff]
    rintro ⟨_, h2⟩
    exact absurd (hmi.2 (h2 x (by simp))) (by simp)
  | true =>
   obtain ⟨r, hr, hi⟩ := ev_ref04_Right_l0 l [] x h
   refine ⟨r, Ev.step (g := fun k => ref04_Right.l0 k (x :: l) 0) (fun k => by rw [ref04_Right.l0]) ?_, ?_⟩
   ·simp only [e0, Int.le_refl, ↓reduceIte, rdE0, hm, Option.bind_some, gt_iff_lt, Int.lt_irrefl, wrap01]
    exact hr
   ·rw [hi]
    constructor
    ·rintro ⟨h1, h2⟩
     exact ⟨h1, all_cons (hmi.1 rfl) (fun z hz => h2 z hz)⟩
    ·rintro ⟨h1, h2⟩
     exact ⟨h1, fun z hz => h2 z (by simp [hz])⟩
theorem may_is (x : E) : ∃ r, entry_May.f x.f0 x.f1 x.f2 = some r ∧ (r = true ↔ MayE x) := may04_is x
theorem ev_entry_Right_l0 (suf : List E) : ∀ (pre : List E) (last : Int), (pre ++ suf).length < 4611686018427387904 →
  ∃ r, Ev (fun k => entry_Right.l0 k last (pre ++ suf) ((pre ++ suf).length : Int) (pre.length : Int)) r ∧ (r = true ↔ (∀ x ∈ suf, last < x.f0 ∧ MayE x) ∧ Ris kE suf) := by
 induction suf with
 | nil =>
  intro pre last h
  refine ⟨true, Ev.step (fun k => by rw [entry_Right.l0]) ?_, by simp [Ris]⟩
  simp only [end_ge, ↓reduceIte]
  exact Ev.now _
 | cons x suf ih =>
  intro pre last h
  by_cases hle : x.f0 ≤ last
  ·refine ⟨false, Ev.step (fun k => by rw [entry_Right.l0]) ?_, ?_⟩
   ·simp only [mid_lt, nat_ge, ↓reduceIte, rdE, hle]
    exact Ev.now _
   ·simp only [Bool.false_eq_true, false_iff]
    rintro ⟨h1, _⟩
    have := (h1 x (by simp)).1
    omega
  ·obtain ⟨m, hm, hm2⟩ := may_is x
   cases m with
   | false =>
    refine ⟨false, Ev.step (fun k => by rw [entry_Right.l0]) ?_, ?_⟩
    ·simp only [mid_lt, nat_ge, ↓reduceIte, rdE, hle, hm, Option.bind_some, Bool.false_eq_true]
     exact Ev.now _
    ·simp only [Bool.false_eq_true, false_iff]
     rintro ⟨h1, _⟩
     have := hm2.2 (h1 x (by simp)).2
     simp at this
   | true =>
    obtain ⟨r, h1, h2⟩ := ih (pre ++ [x]) x.f0 (by rw [← List.append_cons]; exact h)
    refine ⟨r, Ev.step (fun k => by rw [entry_Right.l0]) ?_, ?_⟩
    ·simp only [mid_lt, nat_ge, ↓reduceIte, rdE, hle, hm, Option.bind_some, mid_next pre x suf (by omega)]
     rw [← List.append_cons pre x suf] at h1
     exact h1
    ·rw [h2]
     constructor
     ·rintro ⟨a, b⟩
      refine ⟨fun y hy => ?_, ris_cons.2 ⟨fun y hy => (a y hy).1, b⟩⟩
      rcases List.mem_cons.1 hy with rfl | hy
      ·exact ⟨by omega, hm2.1 rfl⟩
      ·exact ⟨by have := (a y hy).1; omega, (a y hy).2⟩
     ·rintro ⟨a, b⟩
      exact ⟨fun y hy => ⟨ris_head b y hy, (a y (by simp [hy])).2⟩, ris_tail b⟩
theorem ev_entry_Right (l : List E) (h : l.length < 4611686018427387904) : ∃ r, Ev (fun k => entry_Right.f k l) r ∧ (r = true ↔ RightE l) := by
 obtain ⟨r, h1, h2⟩ := ev_entry_Right_l0 l [] (-1) h
 refine ⟨r, h1, ?_⟩
 rw [h2]
 constructor
 ·rintro ⟨a, b⟩
  exact ⟨b, fun x hx => (a x hx).2⟩
 ·rintro ⟨b, a⟩
  exact ⟨fun x hx => ⟨by have := (a x hx).1; omega, a x hx⟩, b⟩
theorem ne_is (x y : E) : (!(x.f0 == y.f0) || (!(x.f1 == y.f1) || (!(x.f2.toList == y.f2.toList)))) = true ↔ x ≠ y := by
 obtain ⟨a0, a1, a2⟩ := x
 obtain ⟨b0, b1, b2⟩ := y
 simp only [Bool.or_eq_true, Bool.not_eq_true', beq_eq_false_iff_ne]
 constructor
 ·rintro h e
  cases e
  simp at h
 ·intro h
  by_cases h0 : a0 = b0
  ·by_cases h1 : a1 = b1
   ·right; right
    intro e
    exact h (by rw [h0, h1, ba_ext e])
   ·exact .inr (.inl h1)
  ·exact .inl h0
theorem ev_ref04_Same_l0 (sa : List E) : ∀ (sb pa pb : List E), pa.length = pb.length → sa.length = sb.length → (pa ++ sa).length < 4611686018427387904 →
  ∃ r, Ev (fun k => ref04_Same.l0 k (pa ++ sa) (pb ++ sb) (pa.length : Int)) r ∧ (r = true ↔ sa = sb) := by
 induction sa with
 | nil =>
  intro sb pa pb hp hs h
  have : sb = [] := List.eq_nil_of_length_eq_zero (by simpa using hs.symm)
  subst this
  refine ⟨true, Ev.step (fun k => by rw [ref04_Same.l0]) ?_, by simp⟩
  simp only [end_ge, ↓reduceIte]
  exact Ev.now _
 | cons x sa ih =>
  intro sb pa pb hp hs h
  match sb, hs with
  | y :: sb, hs =>
   have r2 : rd_T40 (pb ++ y :: sb) (pa.length : Int) = y := by rw [hp]; exact rdE pb y sb
   have l2 : (pa.length : Int) < ((pb ++ y :: sb).length : Int) := by rw [hp]; exact mid_lt pb y sb
   by_cases hxy : x = y
   ·subst hxy
    obtain ⟨r, h1, h2⟩ := ih sb (pa ++ [x]) (pb ++ [x]) (by simp [hp]) (by simpa using hs) (by rw [← List.append_cons]; exact h)
    refine ⟨r, Ev.step (fun k => by rw [ref04_Same.l0]) ?_, ?_⟩
    ·have hn : ¬ ((!(x.f0 == x.f0) || (!(x.f1 == x.f1) || (!(x.f2.toList == x.f2.toList)))) = true) := fun e => (ne_is x x).1 e rfl
     simp only [mid_lt, l2, nat_ge, ↓reduceIte, rdE, r2, hn, mid_next pa x sa (by omega)]
     rw [← List.append_cons pa x sa, ← List.append_cons pb x sb] at h1
     exact h1
    ·rw [h2]; simp
   ·refine ⟨false, Ev.step (fun k => by rw [ref04_Same.l0]) ?_, ?_⟩
    ·have hn := (ne_is x y).2 hxy
     simp only [mid_lt, l2, nat_ge, ↓reduceIte, rdE, r2, hn]
     exact Ev.now _
    ·simp [hxy]
theorem ev_ref04_Same (a b : List E) (h : a.length < 4611686018427387904) : ∃ r, Ev (fun k => ref04_Same.f k a b) r ∧ (r = true ↔ a = b) := by
 unfold ref04_Same.f
 by_cases hl : (a.length : Int) = (b.length : Int)
 ·obtain ⟨r, h1, h2⟩ := ev_ref04_Same_l0 a b [] [] rfl (by omega) (by simpa using h)
  refine ⟨r, ?_, h2⟩
  simp only [hl, ↓reduceIte]
  exact h1
 ·refine ⟨false, ?_, ?_⟩
  ·simp only [hl, ↓reduceIte]
   exact Ev.now _
  ·simp only [Bool.false_eq_true, false_iff]
   intro e
   exact hl (by rw [e])
/-- Is y above x? -/
def Gt (y x : E) : Prop := y.f1 > x.f1 ∨ (y.f1 = x.f1 ∧ Op.bytesLess x.f2.toList y.f2.toList = true)
instance (y x : E) : Decidable (Gt y x) := by unfold Gt; infer_instance
def hi (x y : E) : E := if Gt y x then y else x
theorem ev_equal_l0 (sa : List E) : ∀ (sb pa pb : List E), pa.length = pb.length → sa.length = sb.length → (pa ++ sa).length < 4611686018427387904 →
  ∃ r, Ev (fun k => api_Entry_59.l0 k (pa ++ sa) (pb ++ sb) ((pa ++ sa).length : Int) (pa.length : Int)) r ∧ (r = true ↔ sa = sb) := by
 induction sa with
 | nil =>
  intro sb pa pb hp hs h
  have : sb = [] := List.eq_nil_of_length_eq_zero (by simpa using hs.symm)
  subst this
  refine ⟨true, Ev.step (fun k => by rw [api_Entry_59.l0]) ?_, by simp⟩
  simp only [end_ge, ↓reduceIte]
  exact Ev.now _
 | cons x sa ih =>
  intro sb pa pb hp hs h
  match sb, hs with
  | y :: sb, hs =>
   have r2 : rd_T40 (pb ++ y :: sb) (pa.length : Int) = y := by rw [hp]; exact rdE pb y sb
   have l2 : (pa.length : Int) < ((pb ++ y :: sb).length : Int) := by rw [hp]; exact mid_lt pb y sb
   by_cases hxy : x = y
   ·subst hxy
    obtain ⟨r, h1, h2⟩ := ih sb (pa ++ [x]) (pb ++ [x]) (by simp [hp]) (by simpa using hs) (by rw [← List.append_cons]; exact h)
    refine ⟨r, Ev.step (fun k => by rw [api_Entry_59.l0]) ?_, ?_⟩
    ·have hn : ¬ ((!(x.f0 == x.f0) || (!(x.f1 == x.f1) || (!(x.f2.toList == x.f2.toList)))) = true) := fun e => (ne_is x x).1 e rfl
     simp only [mid_lt, l2, nat_ge, ↓reduceIte, rdE, r2, hn, mid_next pa x sa (by omega)]
     rw [← List.append_cons pa x sa, ← List.append_cons pb x sb] at h1
     exact h1
    ·rw [h2]; simp
   ·refine ⟨false, Ev.step (fun k => by rw [api_Entry_59.l0]) ?_, ?_⟩
    ·have hn := (ne_is x y).2 hxy
     simp only [mid_lt, l2, nat_ge, ↓reduceIte, rdE, r2, hn]
     exact Ev.now _
    ·simp [hxy]
theorem ev_equal (a b : List E) (h : a.length < 4611686018427387904) : ∃ r, Ev (fun k => api_Entry_59.f k a b) r ∧ (r = true ↔ a = b) := by
 unfold api_Entry_59.f
 by_cases hl : (a.length : Int) = (b.length : Int)
 ·obtain ⟨r, h1, h2⟩ := ev_equal_l0 a b [] [] rfl (by omega) (by simpa using h)
  refine ⟨r, ?_, h2⟩
  simp only [hl, ↓reduceIte]
  simp only [List.nil_append, hl] at h1
  exact h1
 ·refine ⟨false, ?_, ?_⟩
  ·simp only [hl, ↓reduceIte]
   exact Ev.now _
  ·simp only [Bool.false_eq_true, false_iff]
   intro e
   exact hl (by rw [e])
theorem ev_ref04_Top_l0 (suf : List E) : ∀ (pre : List E) (t : Int), (pre ++ suf).length < 4611686018427387904 →
  Ev (fun k => ref04_Top.l0 k (pre ++ suf) t (pre.length : Int)) (suf.foldl (fun t x => mx t x.f1) t) := by
 induction suf with
 | nil =>
  intro pre t h
  refine Ev.step (fun k => by rw [ref04_Top.l0]) ?_
  simp only [end_ge, ↓reduceIte]
  exact Ev.now _
 | cons x suf ih =>
  intro pre t h
  refine Ev.step (fun k => by rw [ref04_Top.l0]) ?_
  simp only [mid_lt, nat_ge, ↓reduceIte, rdE, mid_next pre x suf (by omega)]
  have := ih (pre ++ [x]) (mx t x.f1) (by rw [← List.append_cons]; exact h)
  rw [← List.append_cons pre x suf] at this
  exact this
theorem ev_ref04_Top (l : List E) (h : l.length < 4611686018427387904) : Ev (fun k => ref04_Top.f k l) (TopE l) := ev_ref04_Top_l0 l [] 0 h
theorem ev_entry_Same (a b : List E) (h : a.length < 4611686018427387904) : ∃ r, Ev (fun k => entry_Same.f k a b) r ∧ (r = true ↔ a = b) := by
 obtain ⟨r, h1, h2⟩ := ev_equal a b h
 exact ⟨r, Ev.bind h1 (Ev.now _), h2⟩
theorem ev_ref04_Above_l0 (v : Int) (suf : List E) : ∀ (pre acc : List E), (pre ++ suf).length < 1099511627776 → acc.length ≤ pre.length →
  Ev (fun k => ref04_Above.l0 k (pre ++ suf) v acc (pre.length : Int)) (acc ++ suf.filter (fun x => !decide (x.f1 ≤ v))) := by
 induction suf with
 | nil =>
  intro pre acc h ha
  refine Ev.step (fun k => by rw [ref04_Above.l0]) ?_
  simp only [end_ge, ↓reduceIte]
  rw [List.filter_nil, List.append_nil]
  exact Ev.now _
 | cons x suf ih =>
  intro pre acc h ha
  have hl : pre.length + (suf.length + 1) < 1099511627776 := by simpa using h
  refine Ev.step (fun k => by rw [ref04_Above.l0]) ?_
  simp only [mid_lt, nat_ge, ↓reduceIte, rdE]
  by_cases hk : x.f1 > v
  ·have hd : (!decide (x.f1 ≤ v)) = true := by simp; omega
   simp only [hk, ↓reduceIte, show acc.length < 4398046511104 by omega, mid_next pre x suf (by omega)]
   rw [List.filter_cons, if_pos hd]
   have i := ih (pre ++ [x]) (acc ++ [x]) (by rw [← List.append_cons]; exact h) (by simp; omega)
   rw [← List.append_cons pre x suf, List.append_assoc, List.singleton_append] at i
   exact i
  ·have hd : ¬ (!decide (x.f1 ≤ v)) = true := by simp; omega
   simp only [hk, ↓reduceIte, mid_next pre x suf (by omega)]
   rw [List.filter_cons, if_neg hd]
   have i := ih (pre ++ [x]) acc (by rw [← List.append_cons]; exact h) (by simp; omega)
   rw [← List.append_cons pre x suf] at i
   exact i
theorem ev_ref04_Above (l : List E) (v : Int) (h : l.length < 1099511627776) : Ev (fun k => ref04_Above.f k l v) (l.filter (fun x => !decide (x.f1 ≤ v))) := ev_ref04_Above_l0 v l [] [] h (by simp)
theorem above_is (l : List E) (v : Int) (h : l.length < 1099511627776) : entry_Above.f l v = some (l.filter (fun x => !decide (x.f1 ≤ v))) := by
 unfold entry_Above.f
 rw [if_pos (by omega)]
abbrev St := S24
theorem rdS (pre : List St) (x : St) (suf : List St) : rd_T24 (pre ++ x :: suf) ((pre.length : Nat) : Int) = x := getD_mid _ pre x suf
theorem inS {s : St} (h : G24 s) : s.f2.length < 4611686018427387904 ∧ ∀ x ∈ s.f2, x.f2.size ≤ 140737488351232 := ⟨by have := h.2.2.2.1; omega, fun x hx => (h.2.2.2.2 x hx).2.2⟩
def RightS (s : St) : Prop := 1 ≤ s.f0 ∧ s.f0 ≤ 1099511627776 ∧ 0 ≤ s.f1 ∧ s.f1 ≤ 1099511627776 ∧ RightE s.f2
def TopS (s : St) : Int := mx s.f1 (TopE s.f2)
theorem st_ext {a b : St} (h0 : a.f0 = b.f0) (h1 : a.f1 = b.f1) (h2 : a.f2 = b.f2) : a = b := by
 cases a; cases b; simp only at h0 h1 h2; subst h0; subst h1; subst h2; rfl
theorem ev_state_Right (s : St) (h : s.f2.length < 4611686018427387904) : ∃ r, Ev (fun k => state_Right.f k s.f0 s.f1 s.f2) r ∧ (r = true ↔ RightS s) := by
 unfold state_Right.f
 by_cases h1 : s.f0 ≥ 1
 ·by_cases h2 : s.f0 ≤ 1099511627776
  ·by_cases h3 : s.f1 ≥ 0
   ·by_cases h4 : s.f1 ≤ 1099511627776
    ·obtain ⟨r, e, q⟩ := ev_entry_Right s.f2 h
     simp only [h1, h2, h3, h4, ↓reduceIte]
     refine ⟨r, Ev.bind e (Ev.now _), ?_⟩
     rw [q]
     exact ⟨fun x => And.intro h1 (And.intro h2 (And.intro h3 (And.intro h4 x))), fun x => x.2.2.2.2⟩
    ·simp only [h1, h2, h3, h4, ↓reduceIte]
     exact ⟨false, Ev.now _, ⟨fun x => absurd x (by decide), fun x => absurd x.2.2.2.1 h4⟩⟩
   ·simp only [h1, h2, h3, ↓reduceIte]
    exact ⟨false, Ev.now _, ⟨fun x => absurd x (by decide), fun x => absurd x.2.2.1 h3⟩⟩
  ·simp only [h1, h2, ↓reduceIte]
   exact ⟨false, Ev.now _, ⟨fun x => absurd x (by decide), fun x => absurd x.2.1 h2⟩⟩
 ·simp only [h1, ↓reduceIte]
  exact ⟨false, Ev.now _, ⟨fun x => absurd x (by decide), fun x => absurd x.1 h1⟩⟩
theorem ev_ref05_Right (s : St) (h : s.f2.length < 4611686018427387904) : ∃ r, Ev (fun k => ref05_Right.f k s.f0 s.f1 s.f2) r ∧ (r = true ↔ RightS s) := by
 unfold ref05_Right.f
 by_cases h1 : s.f0 ≥ 1
 ·by_cases h2 : s.f0 ≤ 1099511627776
  ·by_cases h3 : s.f1 ≥ 0
   ·by_cases h4 : s.f1 ≤ 1099511627776
    ·obtain ⟨r, e, q⟩ := ev_ref04_Right s.f2 h
     simp only [h1, h2, h3, h4, ↓reduceIte]
     refine ⟨r, Ev.bind e (Ev.now _), ?_⟩
     rw [q]
     exact ⟨fun x => And.intro h1 (And.intro h2 (And.intro h3 (And.intro h4 x))), fun x => x.2.2.2.2⟩
    ·simp only [h1, h2, h3, h4, ↓reduceIte]
     exact ⟨false, Ev.now _, ⟨fun x => absurd x (by decide), fun x => absurd x.2.2.2.1 h4⟩⟩
   ·simp only [h1, h2, h3, ↓reduceIte]
    exact ⟨false, Ev.now _, ⟨fun x => absurd x (by decide), fun x => absurd x.2.2.1 h3⟩⟩
  ·simp only [h1, h2, ↓reduceIte]
   exact ⟨false, Ev.now _, ⟨fun x => absurd x (by decide), fun x => absurd x.2.1 h2⟩⟩
 ·simp only [h1, ↓reduceIte]
  exact ⟨false, Ev.now _, ⟨fun x => absurd x (by decide), fun x => absurd x.1 h1⟩⟩
theorem ev_state_Top (s : St) (h : s.f2.length < 4611686018427387904) : Ev (fun k => state_Top.f k s.f0 s.f1 s.f2) (TopS s) := by
 unfold state_Top.f
 exact Ev.bind (ev_entry_Top s.f2 h) (Ev.now _)
theorem ev_ref05_Top (s : St) (h : s.f2.length < 4611686018427387904) : Ev (fun k => ref05_Top.f k s.f0 s.f1 s.f2) (TopS s) := by
 unfold ref05_Top.f
 exact Ev.bind (ev_ref04_Top s.f2 h) (Ev.now _)
theorem copy_is (s : St) (h : s.f2.length < 1099511627776) : state_Copy.f s.f0 s.f1 s.f2 = some (s.f0, s.f1, s.f2) := by
 unfold state_Copy.f api_Entry_45.f
 rw [if_pos (by omega)]
 rfl
theorem ev_state_Same (a b : St) (h : a.f2.length < 4611686018427387904) : ∃ r, Ev (fun k => state_Same.f k a.f0 a.f1 a.f2 b.f0 b.f1 b.f2) r ∧ (r = true ↔ a = b) := by
 unfold state_Same.f
 by_cases h1 : a.f0 = b.f0
 ·by_cases h2 : a.f1 = b.f1
  ·obtain ⟨r, e, q⟩ := ev_entry_Same a.f2 b.f2 h
   simp only [h1, h2, ↓reduceIte]
   refine ⟨r, Ev.bind e (Ev.now _), ?_⟩
   rw [q]
   exact ⟨fun x => st_ext h1 h2 x, fun x => by rw [x]⟩
  ·simp only [h1, h2, ↓reduceIte]
   exact ⟨false, Ev.now _, ⟨fun x => absurd x (by decide), fun x => absurd (by rw [x]) h2⟩⟩
 ·simp only [h1, ↓reduceIte]
  exact ⟨false, Ev.now _, ⟨fun x => absurd x (by decide), fun x => absurd (by rw [x]) h1⟩⟩
theorem ev_ref05_Same (a b : St) (h : a.f2.length < 4611686018427387904) : ∃ r, Ev (fun k => ref05_Same.f k a.f0 a.f1 a.f2 b.f0 b.f1 b.f2) r ∧ (r = true ↔ a = b) := by
 unfold ref05_Same.f
 by_cases h1 : a.f0 = b.f0
 ·by_cases h2 : a.f1 = b.f1
  ·obtain ⟨r, e, q⟩ := ev_ref04_Same a.f2 b.f2 h
   simp only [h1, h2, ↓reduceIte]
   refine ⟨r, Ev.bind e (Ev.now _), ?_⟩
   rw [q]
   exact ⟨fun x => st_ext h1 h2 x, fun x => by rw [x]⟩
  ·simp only [h1, h2, ↓reduceIte]
   exact ⟨false, Ev.now _, ⟨fun x => absurd x (by decide), fun x => absurd (by rw [x]) h2⟩⟩
 ·simp only [h1, ↓reduceIte]
  exact ⟨false, Ev.now _, ⟨fun x => absurd x (by decide), fun x => absurd (by rw [x]) h1⟩⟩
theorem ev_ref05_same_true (a : St) (h : a.f2.length < 4611686018427387904) : Ev (fun k => ref05_Same.f k a.f0 a.f1 a.f2 a.f0 a.f1 a.f2) true := by
 obtain ⟨r, e, q⟩ := ev_ref05_Same a a h
 rw [q.2 rfl] at e
 exact e
theorem ev_ref05_Great (s : St) (h : s.f2.length < 4611686018427387904) (hs : ∀ x ∈ s.f2, x.f2.size ≤ 140737488351232) : ∃ r, Ev (fun k => ref05_Great.f k s.f0 s.f1 s.f2) r ∧ (r = false → s.f2.length ≤ 4000) := by
 obtain ⟨r, e, q⟩ := ev_ref04_Great s.f2 h hs
 exact ⟨r, Ev.bind e (Ev.now _), q⟩
theorem great_l0 (suf : List St) : ∀ pre : List St, (pre ++ suf).length < 1000 → (∀ s ∈ suf, s.f2.length < 4611686018427387904 ∧ ∀ x ∈ s.f2, x.f2.size ≤ 140737488351232) →
  ∃ r, Ev (fun k => law05_great.l0 k (pre ++ suf) (pre.length : Int)) r ∧ (r = false → ∀ s ∈ suf, s.f2.length ≤ 4000) := by
 induction suf with
 | nil =>
  intro pre h hs
  refine ⟨false, Ev.step (fun k => by rw [law05_great.l0]) ?_, fun _ s hs => by simp at hs⟩
  simp only [end_ge, ↓reduceIte]
  exact Ev.now _
 | cons s suf ih =>
  intro pre h hs
  obtain ⟨g, e, q⟩ := ev_ref05_Great s (hs s List.mem_cons_self).1 (hs s List.mem_cons_self).2
  cases g with
  | true =>
   refine ⟨true, Ev.step (fun k => by rw [law05_great.l0]) ?_, fun x => absurd x (by decide)⟩
   simp only [mid_lt, nat_ge, rdS, ↓reduceIte]
   refine Ev.bind e ?_
   simp only [↓reduceIte]
   exact Ev.now _
  | false =>
   obtain ⟨r, e2, q2⟩ := ih (pre ++ [s]) (by rw [← List.append_cons]; exact h) (fun x hx => hs x (List.mem_cons_of_mem _ hx))
   refine ⟨r, Ev.step (fun k => by rw [law05_great.l0]) ?_, fun x y hy => ?_⟩
   ·simp only [mid_lt, nat_ge, rdS, ↓reduceIte, mid_next pre s suf (by omega)]
    refine Ev.bind e ?_
    simp only [Bool.false_eq_true, ↓reduceIte]
    rw [← List.append_cons pre s suf] at e2
    exact e2
   ·rcases List.mem_cons.1 hy with rfl | hy
    ·exact q rfl
    ·exact q2 x y hy
theorem ev_great (l : List St) (hn : l.length < 1000) (hl : ∀ s ∈ l, G24 s) : ∃ r, Ev (fun k => law05_great.f k l) r ∧ (r = false → ∀ s ∈ l, s.f2.length ≤ 4000) := great_l0 l [] hn (fun s hs => inS (hl s hs))
theorem above_s (s : St) (v : Int) (h : s.f2.length < 1099511627776) : state_Above.f s.f0 s.f1 s.f2 v = some (s.f0, s.f1, s.f2.filter (fun x => !decide (x.f1 ≤ v))) := by
 unfold state_Above.f
 rw [above_is s.f2 v h]
 rfl
theorem ev_ref05_Above (s : St) (v : Int) (h : s.f2.length < 1099511627776) : Ev (fun k => ref05_Above.f k s.f0 s.f1 s.f2 v) (s.f0, s.f1, s.f2.filter (fun x => !decide (x.f1 ≤ v))) := by
 unfold ref05_Above.f
 exact Ev.bind (ev_ref04_Above s.f2 v h) (Ev.now _)
theorem alive05 : Ev (fun k => law05_alive.f k) true := Ev.of (fun k => law05_alive.mono k) (k := 60) (by decide +kernel)
theorem StateAsks : ∀ (x0 : S24) (x1 : S24) (x2 : Int), G24 x0 → G24 x1 → (Lit.int .i64 x2).wf = true → ∃ k, law05_StateAsks.f k x0.f0 x0.f1 x0.f2 x1.f0 x1.f1 x1.f2 x2 = some true := by
 intro a b v ga gb _
 refine Ev.rounds (r := true) ?_
 unfold law05_StateAsks.f
 refine Ev.bind alive05 ?_
 simp only [↓reduceIte]
 obtain ⟨g, eg, qg⟩ := ev_great [a, b] (by simp) (fun s hs => by
  rcases List.mem_cons.1 hs with rfl | hs
  ·exact ga
  ·rcases List.mem_cons.1 hs with rfl | hs
   ·exact gb
   ·simp at hs)
 refine Ev.bind eg ?_
 cases g with
 | true => simp only [↓reduceIte]; exact Ev.now _
 | false =>
 simp only [Bool.false_eq_true, ↓reduceIte]
 have la := qg rfl a (by simp)
 have lb := qg rfl b (by simp)
 obtain ⟨r1, e1, q1⟩ := ev_state_Right a (by omega)
 obtain ⟨r2, e2, q2⟩ := ev_ref05_Right a (by omega)
 have h12 : (r1 == r2) = true := by rw [beq_iff_eq]; exact bool_iff q1 q2
 refine Ev.bind e1 (Ev.bind e2 ?_)
 simp only [h12, ↓reduceIte]
 refine Ev.bind (ev_state_Top a (by omega)) (Ev.bind (ev_ref05_Top a (by omega)) ?_)
 simp only [↓reduceIte]
 obtain ⟨r3, e3, q3⟩ := ev_state_Same a b (by omega)
 obtain ⟨r4, e4, q4⟩ := ev_ref05_Same a b (by omega)
 have h34 : (r3 == r4) = true := by rw [beq_iff_eq]; exact bool_iff q3 q4
 refine Ev.bind e3 (Ev.bind e4 ?_)
 simp only [h34, ↓reduceIte, copy_is a (by omega), Option.bind_some]
 refine Ev.bind (ev_ref05_same_true a (by omega)) ?_
 simp only [↓reduceIte, above_s a v (by omega), Option.bind_some]
 refine Ev.bind (ev_ref05_Above a v (by omega)) ?_
 have hf : (a.f2.filter (fun x => !decide (x.f1 ≤ v))).length ≤ a.f2.length := List.length_filter_le _ _
 exact Ev.bind (ev_ref05_same_true ⟨a.f0, a.f1, a.f2.filter (fun x => !decide (x.f1 ≤ v))⟩ (by show (a.f2.filter _).length < _; omega)) (Ev.now _)
end Go.Proofs.Ytfoeahjbkmdgfaa.Pl

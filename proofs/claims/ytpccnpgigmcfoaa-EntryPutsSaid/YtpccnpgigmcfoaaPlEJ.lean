/- What the printed functions of tables of entries come to, in plain words. No program runs here. No condition. -/
import Derived.Test.YtpccnpgigmcfoaaPlE
import Derived.Test.YtpccnpgigmcfoaaHw
import Derived.Test.YtpccnpgigmcfoaaPEntryTop
import Derived.Test.YtpccnpgigmcfoaaPEntryRight
import Derived.Test.YtpccnpgigmcfoaaPEntryMay
import Derived.Test.YtpccnpgigmcfoaaPEntryJoin
import Derived.Test.YtpccnpgigmcfoaaPEntryOver
import Derived.Test.YtpccnpgigmcfoaaPEntryHigher
import Derived.Test.YtpccnpgigmcfoaaPEntryGet
import Derived.Test.YtpccnpgigmcfoaaPRef04Same
import Derived.Test.YtpccnpgigmcfoaaPRef04Great
import Derived.Test.YtpccnpgigmcfoaaPRef04Right
import Derived.Test.YtpccnpgigmcfoaaPRef04May
namespace Go.Proofs.Ytpccnpgigmcfoaa.Pl
open Go.RowKit Go.Proofs.Ytpccnpgigmcfoaa.P Go.Proofs.YtpccnpgigmcfoaaW.PrintWords Go.Proofs.YtpccnpgigmcfoaaW.PrintLast Go.Proofs.YtpccnpgigmcfoaaW.PrintMore Go.Proofs.YtpccnpgigmcfoaaW.Hw
set_option linter.unusedSimpArgs false
set_option linter.unusedVariables false
/-! ### tops, greatness, rightness -/
theorem ev_entry_Top_l0 (suf : List E) : ∀ (pre : List E) (t : Int), (pre ++ suf).length < 4611686018427387904 →
  Ev (fun k => entry_Top.l0 k t (pre ++ suf) ((pre ++ suf).length : Int) (pre.length : Int)) (suf.foldl (fun t x => mx t x.f1) t) := by
 induction suf with
 | nil =>
  intro pre t h
  refine Ev.step (fun k => by rw [entry_Top.l0]) ?_
  simp only [end_ge, ↓reduceIte]
  exact Ev.now _
 | cons x suf ih =>
  intro pre t h
  refine Ev.step (fun k => by rw [entry_Top.l0]) ?_
  simp only [mid_lt, nat_ge, ↓reduceIte, rdE, mid_next pre x suf (by omega)]
  have := ih (pre ++ [x]) (mx t x.f1) (by rw [← List.append_cons]; exact h)
  rw [← List.append_cons pre x suf] at this
  exact this
theorem ev_entry_Top (l : List E) (h : l.length < 4611686018427387904) : Ev (fun k => entry_Top.f k l) (TopE l) := ev_entry_Top_l0 l [] 0 h
theorem wrap01 : wrap64 (0 + 1) = 1 := wrap_id 1 (by omega) (by omega)
theorem all_cons {α : Type} {Q : α → Prop} {x : α} {l : List α} (hx : Q x) (hl : ∀ z, z ∈ l → Q z) : ∀ z, z ∈ x :: l → Q z := fun z hz => by
 rcases List.mem_cons.1 hz with rfl | hz
 ·exact hx
 ·exact hl z hz
theorem ev_ref04_Great_l0 (suf : List E) : ∀ (pre : List E) (n : Int), (pre ++ suf).length < 4611686018427387904 → 0 ≤ n → n ≤ 4611686018427387904 → (∀ x ∈ suf, x.f2.size ≤ 140737488351232) →
  ∃ r, Ev (fun k => ref04_Great.l0 k (pre ++ suf) n (pre.length : Int)) r ∧ (r = false → n ≤ 4000) := by
 induction suf with
 | nil =>
  intro pre n h h0 h1 h2
  refine ⟨decide (n > 4000), Ev.step (fun k => by rw [ref04_Great.l0]) ?_, by simp⟩
  simp only [end_ge, ↓reduceIte]
  exact Ev.now _
 | cons x suf ih =>
  intro pre n h h0 h1 h2
  by_cases hn : n ≤ 4000
  ·have hx := h2 x (by simp)
   obtain ⟨r, hr, hi⟩ := ih (pre ++ [x]) (n + (x.f2.size : Int)) (by rw [← List.append_cons]; exact h) (by omega) (by omega) (fun y hy => h2 y (by simp [hy]))
   refine ⟨r, Ev.step (fun k => by rw [ref04_Great.l0]) ?_, fun _ => hn⟩
   simp only [mid_lt, nat_ge, ↓reduceIte, rdE, mid_next pre x suf (by omega), hn, wrap_id (n + (x.f2.size : Int)) (by omega) (by omega)]
   rw [← List.append_cons pre x suf] at hr
   exact hr
  ·refine ⟨decide (n > 4000), Ev.step (fun k => by rw [ref04_Great.l0]) ?_, by simp⟩
   simp only [mid_lt, ↓reduceIte, hn]
   exact Ev.now _
theorem ev_ref04_Great (l : List E) (h : l.length < 4611686018427387904) (hs : ∀ x ∈ l, x.f2.size ≤ 140737488351232) : ∃ r, Ev (fun k => ref04_Great.f k l) r ∧ (r = false → l.length ≤ 4000) := by
 obtain ⟨r, hr, hi⟩ := ev_ref04_Great_l0 l [] (l.length : Int) h (by omega) (by omega) hs
 exact ⟨r, hr, fun e => by have := hi e; omega⟩
section
variable {α : Type} {key : α → Int}
theorem ris_cons2 {y x : α} {l : List α} : Ris key (y :: x :: l) ↔ key y < key x ∧ Ris key (x :: l) := by
 rw [ris_cons]
 constructor
 ·rintro ⟨h1, h2⟩; exact ⟨h1 x (by simp), h2⟩
 ·rintro ⟨h1, h2⟩
  refine ⟨fun z hz => ?_, h2⟩
  rcases List.mem_cons.1 hz with rfl | hz
  ·exact h1
  ·have := ris_head h2 z hz; omega
theorem ris_one (x : α) : Ris key [x] := List.pairwise_singleton _ x
end
theorem len_pos {α : Type} (x : α) (l : List α) : (0 : Int) < ((x :: l).length : Int) := by simp <;> omega
theorem len_one {α : Type} (x : α) (l : List α) : (1 : Int) ≤ ((x :: l).length : Int) := by rw [List.length_cons]; omega
theorem len_ne {α : Type} (x : α) (l : List α) : ¬ (((x :: l).length : Int) = 0) := by simp <;> omega
theorem len_gt {α : Type} (x : α) (l : List α) : ((x :: l).length : Int) > 0 := by simp <;> omega
theorem nil_gt {α : Type} : ¬ (((([] : List α).length : Nat) : Int) > 0) := by simp
theorem nil_eq {α : Type} : (((([] : List α).length : Nat) : Int) = 0) := rfl
theorem may04_is (x : E) : ∃ r, ref04_May.f x.f0 x.f1 x.f2 = some r ∧ (r = true ↔ MayE x) := by
 unfold ref04_May.f MayE
 by_cases h1 : x.f0 ≥ 0
 ·by_cases h2 : x.f0 < 12
  ·by_cases h3 : x.f1 ≥ 1
   ·by_cases h4 : x.f1 ≤ 1099511627776
    ·refine ⟨_, by simp only [h1, h2, h3, h4, ↓reduceIte]; rfl, ?_⟩
     simp; omega
    ·exact ⟨false, by simp only [h1, h2, h3, h4, ↓reduceIte], by simp; omega⟩
   ·exact ⟨false, by simp only [h1, h2, h3, ↓reduceIte], by simp; omega⟩
  ·exact ⟨false, by simp only [h1, h2, ↓reduceIte], by simp; omega⟩
 ·exact ⟨false, by simp only [h1, ↓reduceIte], by simp; omega⟩
theorem pos_mid {α : Type} (p : List α) (y : α) : (((p ++ [y]).length : Nat) : Int) > 0 := by simp <;> omega
theorem prev_ge {α : Type} (p : List α) (y x : α) (s : List α) : ((p.length : Nat) : Int) < (((p ++ [y]) ++ x :: s).length : Int) := by simp <;> omega
theorem rdE1 (p : List E) (y x : E) (s : List E) : rd_T30 ((p ++ [y]) ++ x :: s) ((p.length : Nat) : Int) = y := by rw [← List.append_cons]; exact rdE p y (x :: s)
theorem ev_ref04_Right_l0 (suf : List E) : ∀ (p : List E) (y : E), ((p ++ [y]) ++ suf).length < 4611686018427387904 →
  ∃ r, Ev (fun k => ref04_Right.l0 k ((p ++ [y]) ++ suf) ((p ++ [y]).length : Int)) r ∧ (r = true ↔ Ris kE (y :: suf) ∧ ∀ x ∈ suf, MayE x) := by
 induction suf with
 | nil =>
  intro p y h
  refine ⟨true, Ev.step (fun k => by rw [ref04_Right.l0]) ?_, by simp [ris_one]⟩
  simp only [end_ge, ↓reduceIte]
  exact Ev.now _
 | cons x suf ih =>
  intro p y h
  obtain ⟨m, hm, hmi⟩ := may04_is x
  cases m with
  | false =>
   refine ⟨false, Ev.step (fun k => by rw [ref04_Right.l0]) ?_, ?_⟩
   ·simp only [mid_lt, nat_ge, ↓reduceIte, rdE, hm, Option.bind_some, Bool.false_eq_true]
    exact Ev.now _
   ·simp only [Bool.false_eq_true, false_iff]
    rintro ⟨_, h2⟩
    exact absurd (hmi.2 (h2 x (by simp))) (by simp)
  | true =>
   by_cases hk : y.f0 ≥ x.f0
   ·refine ⟨false, Ev.step (fun k => by rw [ref04_Right.l0]) ?_, ?_⟩
    ·simp only [mid_lt, nat_ge, ↓reduceIte, rdE, hm, Option.bind_some, pos_mid, mid_prev p y x suf (by omega), prev_ge, rdE1, hk]
     exact Ev.now _
    ·simp only [Bool.false_eq_true, false_iff, ris_cons2]
     rintro ⟨⟨h1, _⟩, _⟩
     unfold kE at h1; omega
   ·obtain ⟨r, hr, hi⟩ := ih (p ++ [y]) x (by rw [← List.append_cons]; exact h)
    refine ⟨r, Ev.step (fun k => by rw [ref04_Right.l0]) ?_, ?_⟩
    ·simp only [mid_lt, nat_ge, ↓reduceIte, rdE, hm, Option.bind_some, pos_mid, mid_prev p y x suf (by omega), prev_ge, rdE1, hk, mid_next (p ++ [y]) x suf (by omega)]
     rw [← List.append_cons (p ++ [y]) x suf] at hr
     exact hr
    ·rw [hi, ris_cons2]
     have := hmi.1 rfl
     constructor
     ·rintro ⟨h1, h2⟩
      exact ⟨⟨by unfold kE; omega, h1⟩, all_cons (this) (fun z hz => h2 z hz)⟩
     ·rintro ⟨⟨_, h1⟩, h2⟩
      exact ⟨h1, fun z hz => h2 z (by simp [hz])⟩
theorem ev_ref04_Right (l : List E) (h : l.length < 4611686018427387904) : ∃ r, Ev (fun k => ref04_Right.f k l) r ∧ (r = true ↔ RightE l) := by
 cases l with
 | nil =>
  refine ⟨true, Ev.step (g := fun k => ref04_Right.l0 k [] 0) (fun k => by rw [ref04_Right.l0]) ?_, by simp [RightE, ris_nil]⟩
  simp only [List.length_nil, Int.natCast_zero, Int.lt_irrefl, ↓reduceIte]
  exact Ev.now _
 | cons x l =>
  obtain ⟨m, hm, hmi⟩ := may04_is x
  have e0 : (0 : Int) < ((x :: l).length : Int) := len_pos x l
  cases m with
  | false =>
   refine ⟨false, Ev.step (g := fun k => ref04_Right.l0 k (x :: l) 0) (fun k => by rw [ref04_Right.l0]) ?_, ?_⟩
   ·simp only [e0, Int.le_refl, ↓reduceIte, rdE0, hm, Option.bind_some, Bool.false_eq_true]
    exact Ev.now _
   ·simp only [Bool.false_eq_true, false_iff]
    rintro ⟨_, h2⟩
    exact absurd (hmi.2 (h2 x (by simp))) (by simp)
  | true =>
   obtain ⟨r, hr, hi⟩ := ev_ref04_Right_l0 l [] x h
   refine ⟨r, Ev.step (g := fun k => ref04_Right.l0 k (x :: l) 0) (fun k => by rw [ref04_Right.l0]) ?_, ?_⟩
   ·simp only [e0, Int.le_refl, ↓reduceIte, rdE0, hm, Option.bind_some, gt_iff_lt, Int.lt_irrefl, wrap01]
    exact hr
   ·rw [hi]
    constructor
    ·rintro ⟨h1, h2⟩
     exact ⟨h1, all_cons (hmi.1 rfl) (fun z hz => h2 z hz)⟩
    ·rintro ⟨h1, h2⟩
     exact ⟨h1, fun z hz => h2 z (by simp [hz])⟩
theorem may_is (x : E) : ∃ r, entry_May.f x.f0 x.f1 x.f2 = some r ∧ (r = true ↔ MayE x) := may04_is x
theorem ev_entry_Right_l0 (suf : List E) : ∀ (pre : List E) (last : Int), (pre ++ suf).length < 4611686018427387904 →
  ∃ r, Ev (fun k => entry_Right.l0 k last (pre ++ suf) ((pre ++ suf).length : Int) (pre.length : Int)) r ∧ (r = true ↔ (∀ x ∈ suf, last < x.f0 ∧ MayE x) ∧ Ris kE suf) := by
 induction suf with
 | nil =>
  intro pre last h
  refine ⟨true, Ev.step (fun k => by rw [entry_Right.l0]) ?_, by simp [Ris]⟩
  simp only [end_ge, ↓reduceIte]
  exact Ev.now _
 | cons x suf ih =>
  intro pre last h
  by_cases hle : x.f0 ≤ last
  ·refine ⟨false, Ev.step (fun k => by rw [entry_Right.l0]) ?_, ?_⟩
   ·simp only [mid_lt, nat_ge, ↓reduceIte, rdE, hle]
    exact Ev.now _
   ·simp only [Bool.false_eq_true, false_iff]
    rintro ⟨h1, _⟩
    have := (h1 x (by simp)).1
    omega
  ·obtain ⟨m, hm, hm2⟩ := may_is x
   cases m with
   | false =>
    refine ⟨false, Ev.step (fun k => by rw [entry_Right.l0]) ?_, ?_⟩
    ·simp only [mid_lt, nat_ge, ↓reduceIte, rdE, hle, hm, Option.bind_some, Bool.false_eq_true]
     exact Ev.now _
    ·simp only [Bool.false_eq_true, false_iff]
     rintro ⟨h1, _⟩
     have := hm2.2 (h1 x (by simp)).2
     simp at this
   | true =>
    obtain ⟨r, h1, h2⟩ := ih (pre ++ [x]) x.f0 (by rw [← List.append_cons]; exact h)
    refine ⟨r, Ev.step (fun k => by rw [entry_Right.l0]) ?_, ?_⟩
    ·simp only [mid_lt, nat_ge, ↓reduceIte, rdE, hle, hm, Option.bind_some, mid_next pre x suf (by omega)]
     rw [← List.append_cons pre x suf] at h1
     exact h1
    ·rw [h2]
     constructor
     ·rintro ⟨a, b⟩
      refine ⟨fun y hy => ?_, ris_cons.2 ⟨fun y hy => (a y hy).1, b⟩⟩
      rcases List.mem_cons.1 hy with rfl | hy
      ·exact ⟨by omega, hm2.1 rfl⟩
      ·exact ⟨by have := (a y hy).1; omega, (a y hy).2⟩
     ·rintro ⟨a, b⟩
      exact ⟨fun y hy => ⟨ris_head b y hy, (a y (by simp [hy])).2⟩, ris_tail b⟩
theorem ev_entry_Right (l : List E) (h : l.length < 4611686018427387904) : ∃ r, Ev (fun k => entry_Right.f k l) r ∧ (r = true ↔ RightE l) := by
 obtain ⟨r, h1, h2⟩ := ev_entry_Right_l0 l [] (-1) h
 refine ⟨r, h1, ?_⟩
 rw [h2]
 constructor
 ·rintro ⟨a, b⟩
  exact ⟨b, fun x hx => (a x hx).2⟩
 ·rintro ⟨b, a⟩
  exact ⟨fun x hx => ⟨by have := (a x hx).1; omega, a x hx⟩, b⟩
/-! ### the same -/
theorem ne_is (x y : E) : (!(x.f0 == y.f0) || (!(x.f1 == y.f1) || (!(x.f2.toList == y.f2.toList)))) = true ↔ x ≠ y := by
 obtain ⟨a0, a1, a2⟩ := x
 obtain ⟨b0, b1, b2⟩ := y
 simp only [Bool.or_eq_true, Bool.not_eq_true', beq_eq_false_iff_ne]
 constructor
 ·rintro h e
  cases e
  simp at h
 ·intro h
  by_cases h0 : a0 = b0
  ·by_cases h1 : a1 = b1
   ·right; right
    intro e
    exact h (by rw [h0, h1, ba_ext e])
   ·exact .inr (.inl h1)
  ·exact .inl h0
theorem ev_ref04_Same_l0 (sa : List E) : ∀ (sb pa pb : List E), pa.length = pb.length → sa.length = sb.length → (pa ++ sa).length < 4611686018427387904 →
  ∃ r, Ev (fun k => ref04_Same.l0 k (pa ++ sa) (pb ++ sb) (pa.length : Int)) r ∧ (r = true ↔ sa = sb) := by
 induction sa with
 | nil =>
  intro sb pa pb hp hs h
  have : sb = [] := List.eq_nil_of_length_eq_zero (by simpa using hs.symm)
  subst this
  refine ⟨true, Ev.step (fun k => by rw [ref04_Same.l0]) ?_, by simp⟩
  simp only [end_ge, ↓reduceIte]
  exact Ev.now _
 | cons x sa ih =>
  intro sb pa pb hp hs h
  match sb, hs with
  | y :: sb, hs =>
   have r2 : rd_T30 (pb ++ y :: sb) (pa.length : Int) = y := by rw [hp]; exact rdE pb y sb
   have l2 : (pa.length : Int) < ((pb ++ y :: sb).length : Int) := by rw [hp]; exact mid_lt pb y sb
   by_cases hxy : x = y
   ·subst hxy
    obtain ⟨r, h1, h2⟩ := ih sb (pa ++ [x]) (pb ++ [x]) (by simp [hp]) (by simpa using hs) (by rw [← List.append_cons]; exact h)
    refine ⟨r, Ev.step (fun k => by rw [ref04_Same.l0]) ?_, ?_⟩
    ·have hn : ¬ ((!(x.f0 == x.f0) || (!(x.f1 == x.f1) || (!(x.f2.toList == x.f2.toList)))) = true) := fun e => (ne_is x x).1 e rfl
     simp only [mid_lt, l2, nat_ge, ↓reduceIte, rdE, r2, hn, mid_next pa x sa (by omega)]
     rw [← List.append_cons pa x sa, ← List.append_cons pb x sb] at h1
     exact h1
    ·rw [h2]; simp
   ·refine ⟨false, Ev.step (fun k => by rw [ref04_Same.l0]) ?_, ?_⟩
    ·have hn := (ne_is x y).2 hxy
     simp only [mid_lt, l2, nat_ge, ↓reduceIte, rdE, r2, hn]
     exact Ev.now _
    ·simp [hxy]
theorem ev_ref04_Same (a b : List E) (h : a.length < 4611686018427387904) : ∃ r, Ev (fun k => ref04_Same.f k a b) r ∧ (r = true ↔ a = b) := by
 unfold ref04_Same.f
 by_cases hl : (a.length : Int) = (b.length : Int)
 ·obtain ⟨r, h1, h2⟩ := ev_ref04_Same_l0 a b [] [] rfl (by omega) (by simpa using h)
  refine ⟨r, ?_, h2⟩
  simp only [hl, ↓reduceIte]
  exact h1
 ·refine ⟨false, ?_, ?_⟩
  ·simp only [hl, ↓reduceIte]
   exact Ev.now _
  ·simp only [Bool.false_eq_true, false_iff]
   intro e
   exact hl (by rw [e])
theorem ev_same_true {a b : List E} (h : a.length < 4611686018427387904) (e : a = b) : Ev (fun k => ref04_Same.f k a b) true := by
 obtain ⟨r, h1, h2⟩ := ev_ref04_Same a b h
 rw [h2.2 e] at h1
 exact h1
/-! ### the higher one of two entries -/
/-- Is y above x? -/
def Gt (y x : E) : Prop := y.f1 > x.f1 ∨ (y.f1 = x.f1 ∧ Op.bytesLess x.f2.toList y.f2.toList = true)
instance (y x : E) : Decidable (Gt y x) := by unfold Gt; infer_instance
def hi (x y : E) : E := if Gt y x then y else x
theorem gt_irrefl (x : E) : ¬ Gt x x := by
 rintro (h | ⟨_, h⟩)
 ·omega
 ·rw [bl_irrefl] at h; cases h
theorem gt_trans {x y z : E} (h : Gt x y) (k : Gt y z) : Gt x z := by
 rcases h with h | ⟨h1, h2⟩
 ·rcases k with k | ⟨k1, k2⟩
  ·exact .inl (by omega)
  ·exact .inl (by omega)
 ·rcases k with k | ⟨k1, k2⟩
  ·exact .inl (by omega)
  ·exact .inr ⟨by omega, bl_trans _ _ _ k2 h2⟩
theorem gt_total (x y : E) : Gt x y ∨ Gt y x ∨ (x.f1 = y.f1 ∧ x.f2 = y.f2) := by
 rcases Int.lt_trichotomy x.f1 y.f1 with h | h | h
 ·exact .inr (.inl (.inl h))
 ·rcases bl_total x.f2.toList y.f2.toList with k | k | k
  ·exact .inr (.inl (.inr ⟨h.symm, k⟩))
  ·exact .inr (.inr ⟨h, ba_ext k⟩)
  ·exact .inl (.inr ⟨h, k⟩)
 ·exact .inl (.inl h)
theorem gt_cong {x y z : E} (h1 : x.f1 = y.f1) (h2 : x.f2 = y.f2) : (Gt x z ↔ Gt y z) ∧ (Gt z x ↔ Gt z y) := by
 unfold Gt
 rw [h1, h2]
 exact ⟨Iff.rfl, Iff.rfl⟩
theorem not_gt_trans {x y z : E} (h : ¬ Gt x y) (k : ¬ Gt y z) : ¬ Gt x z := by
 intro hxz
 rcases gt_total y x with a | a | ⟨a, b⟩
 ·exact k (gt_trans a hxz)
 ·exact h a
 ·exact k ((gt_cong a b).1.2 hxz)
theorem hi_key (x y : E) (h : x.f0 = y.f0) : (hi x y).f0 = x.f0 := by unfold hi; split <;> simp [h]
theorem hi_or (x y : E) : hi x y = x ∨ hi x y = y := by unfold hi; split <;> simp
theorem hi_self (x : E) : hi x x = x := by unfold hi; rw [if_neg (gt_irrefl x)]
theorem e_ext {x y : E} (h0 : x.f0 = y.f0) (h1 : x.f1 = y.f1) (h2 : x.f2 = y.f2) : x = y := by
 obtain ⟨a, b, c⟩ := x
 obtain ⟨d, e, f⟩ := y
 simp only at h0 h1 h2
 rw [h0, h1, h2]
theorem hi_comm {x y : E} (h : x.f0 = y.f0) : hi x y = hi y x := by
 unfold hi
 by_cases h1 : Gt y x
 ·rw [if_pos h1, if_neg (fun h2 => gt_irrefl x (gt_trans h2 h1))]
 ·by_cases h2 : Gt x y
  ·rw [if_neg h1, if_pos h2]
  ·rcases gt_total x y with a | a | ⟨a, b⟩
   ·exact absurd a h2
   ·exact absurd a h1
   ·rw [if_neg h1, if_neg h2]
    exact e_ext h a b
theorem hi_assoc (x y z : E) : hi (hi x y) z = hi x (hi y z) := by
 unfold hi
 by_cases h1 : Gt y x
 ·rw [if_pos h1]
  by_cases h2 : Gt z y
  ·rw [if_pos h2, if_pos (gt_trans h2 h1)]
  ·rw [if_neg h2, if_pos h1]
 ·rw [if_neg h1]
  by_cases h2 : Gt z y
  ·rw [if_pos h2]
  ·rw [if_neg h2, if_neg h1, if_neg (fun h => not_gt_trans h2 h1 h)]
theorem hi_le_l (x y : E) : ¬ Gt x (hi x y) := by
 unfold hi
 split
 ·rename_i h
  intro h2
  exact gt_irrefl x (gt_trans h2 h)
 ·exact gt_irrefl x
theorem hi_le_r (x y : E) : ¬ Gt y (hi x y) := by
 unfold hi
 split
 ·exact gt_irrefl y
 ·assumption
theorem higher_is (x y : E) : entry_higher.f x.f0 x.f1 x.f2 y.f0 y.f1 y.f2 = some ((hi x y).f0, (hi x y).f1, (hi x y).f2) := by
 unfold entry_higher.f hi Gt
 by_cases h1 : y.f1 > x.f1
 ·simp [h1]
 ·by_cases h2 : y.f1 = x.f1
  ·by_cases h3 : Op.bytesLess x.f2.toList y.f2.toList = true
   ·simp [h2, h3]
   ·simp [h2, h3]
  ·simp [h1, h2]
/-! ### a key's entry -/
theorem find_idx {α : Type} (p : α → Bool) : ∀ l : List α, l.find? p = l[l.findIdx p]?
 | [] => rfl
 | x :: l => by
  rw [List.find?_cons, List.findIdx_cons]
  cases hp : p x with
  | true => simp
  | false => simp [find_idx p l]
def got (o : Option E) : Int × Int × ByteArray × Bool := match o with
 | some x => (x.f0, x.f1, x.f2, true)
 | none => (0, 0, ⟨#[]⟩, false)
theorem get_is (l : List E) (k : Int) : entry_Get.f l k = some (got (look kE l k)) := by
 have hl : look kE l k = l[l.findIdx (fun x : S30 => x.f0 == k)]? := find_idx _ l
 unfold entry_Get.f entry_place.f idxI
 simp only [Option.bind_some]
 by_cases h : l.findIdx (fun x : S30 => x.f0 == k) < l.length
 ·rw [if_pos h, if_neg (by omega), if_pos (by omega), if_pos (by omega), hl, List.getElem?_eq_getElem h]
  have : rd_T30 l ((l.findIdx (fun x : S30 => x.f0 == k) : Nat) : Int) = l[l.findIdx (fun x : S30 => x.f0 == k)] := by
   simp [rd_T30, List.getD_eq_getElem?_getD, h]
  rw [this]
  rfl
 ·rw [if_neg h, if_pos (by omega), hl, List.getElem?_eq_none (by omega)]
  rfl
/-! ### over -/
theorem news_is (a : List E) (y : E) : entry_Over.news a y = false ↔ ∃ x, look kE a y.f0 = some x ∧ ¬ Gt y x := by
 unfold entry_Over.news
 rw [get_is]
 cases h : look kE a y.f0 with
 | none => simp [got]
 | some x =>
  simp only [got, higher_is]
  have e := ne_is (hi x y) x
  simp only [Option.some.injEq, exists_eq_left']
  by_cases hg : Gt y x
  ·have hn : hi x y ≠ x := by
    unfold hi
    rw [if_pos hg]
    rintro rfl
    exact gt_irrefl _ hg
   rw [e.2 hn]
   simp [hg]
  ·have hn : hi x y = x := by unfold hi; rw [if_neg hg]
   rw [hn]
   simp [hg]
def OverE (a b : List E) : Prop := ∀ y ∈ b, ∃ x, look kE a y.f0 = some x ∧ ¬ Gt y x
theorem over_is (a b : List E) : ∃ r, entry_Over.f a b = some r ∧ (r = true ↔ OverE a b) := by
 refine ⟨_, rfl, ?_⟩
 rw [Bool.not_eq_true', List.any_eq_false]
 unfold OverE
 constructor
 ·intro h y hy
  exact (news_is a y).1 (by simpa using h y hy)
 ·intro h y hy
  rw [(news_is a y).2 (h y hy)]
  decide
theorem over_true {a b : List E} (h : OverE a b) : entry_Over.f a b = some true := by
 obtain ⟨r, h1, h2⟩ := over_is a b
 rw [h1, h2.2 h]
/-! ### joined -/
def joinE : List E → List E → List E
 | [], b => b
 | x :: a, [] => x :: a
 | x :: a, y :: b => if x.f0 < y.f0 then x :: joinE a (y :: b) else if y.f0 < x.f0 then y :: joinE (x :: a) b else hi x y :: joinE a b
termination_by a b => a.length + b.length
theorem joinE_nil (b : List E) : joinE [] b = b := by rw [joinE]
theorem joinE_nil_r (a : List E) : joinE a [] = a := by cases a <;> rw [joinE]
theorem joinE_cons (x : E) (a : List E) (y : E) (b : List E) : joinE (x :: a) (y :: b) = if x.f0 < y.f0 then x :: joinE a (y :: b) else if y.f0 < x.f0 then y :: joinE (x :: a) b else hi x y :: joinE a b := by rw [joinE]
theorem ev_Join_l0 : ∀ (n : Nat) (a b acc : List E), a.length + b.length ≤ n → acc.length + (a.length + b.length) < 4398046511104 → Ev (fun k => entry_Join.l0 k a b acc) (acc ++ joinE a b) := by
 intro n
 induction n with
 | zero =>
  intro a b acc hn h
  have ha : a = [] := List.eq_nil_of_length_eq_zero (by omega)
  have hb : b = [] := List.eq_nil_of_length_eq_zero (by omega)
  subst ha; subst hb
  refine Ev.step (fun k => by rw [entry_Join.l0]) ?_
  simp only [nil_gt, ↓reduceIte, decide_false]
  refine Ev.step (fun k => by rw [entry_Join.j1]) ?_
  simp only [Bool.false_eq_true, ↓reduceIte, joinE_nil, List.append_nil]
  exact Ev.now _
 | succ n ih =>
  intro a b acc hn h
  match a, b with
  | [], [] =>
   refine Ev.step (fun k => by rw [entry_Join.l0]) ?_
   simp only [nil_gt, ↓reduceIte, decide_false]
   refine Ev.step (fun k => by rw [entry_Join.j1]) ?_
   simp only [Bool.false_eq_true, ↓reduceIte, joinE_nil, List.append_nil]
   exact Ev.now _
  | [], y :: b =>
   have i := ih [] b (acc ++ [y]) (by simp at hn ⊢; omega) (by simp at h ⊢; omega)
   rw [joinE_nil, List.append_assoc, List.singleton_append] at i
   refine Ev.step (fun k => by rw [entry_Join.l0]) ?_
   simp only [nil_gt, len_gt, ↓reduceIte, decide_true]
   refine Ev.step (fun k => by rw [entry_Join.j1]) ?_
   simp only [↓reduceIte, len_ne, nil_gt]
   refine Ev.step (fun k => by rw [entry_Join.j2]) ?_
   simp only [Bool.false_eq_true, ↓reduceIte, nil_eq, len_pos, len_one, rdE0, show acc.length < 4398046511104 by omega, joinE_nil]
   exact i
  | x :: a, [] =>
   have i := ih a [] (acc ++ [x]) (by simp at hn ⊢; omega) (by simp at h ⊢; omega)
   rw [joinE_nil_r, List.append_assoc, List.singleton_append] at i
   refine Ev.step (fun k => by rw [entry_Join.l0]) ?_
   simp only [len_gt, ↓reduceIte]
   refine Ev.step (fun k => by rw [entry_Join.j1]) ?_
   simp only [↓reduceIte, nil_eq]
   refine Ev.step (fun k => by rw [entry_Join.j2]) ?_
   simp only [↓reduceIte, len_pos, len_one, rdE0, show acc.length < 4398046511104 by omega, joinE_nil_r]
   exact i
  | x :: a, y :: b =>
   have hal : acc.length < 4398046511104 := by omega
   refine Ev.step (fun k => by rw [entry_Join.l0]) ?_
   simp only [len_gt, ↓reduceIte]
   refine Ev.step (fun k => by rw [entry_Join.j1]) ?_
   simp only [↓reduceIte, len_ne, len_gt, len_pos, rdE0]
   rw [joinE_cons]
   by_cases h1 : x.f0 < y.f0
   ·have i := ih a (y :: b) (acc ++ [x]) (by simp at hn ⊢; omega) (by simp at h ⊢; omega)
    rw [List.append_assoc, List.singleton_append] at i
    simp only [h1, decide_true, ↓reduceIte]
    refine Ev.step (fun k => by rw [entry_Join.j2]) ?_
    simp only [↓reduceIte, len_pos, len_one, rdE0, hal]
    exact i
   ·simp only [h1, decide_false, ↓reduceIte]
    refine Ev.step (fun k => by rw [entry_Join.j2]) ?_
    simp only [Bool.false_eq_true, ↓reduceIte, len_ne, len_pos, len_one, rdE0, hal]
    by_cases h2 : y.f0 < x.f0
    ·have i := ih (x :: a) b (acc ++ [y]) (by simp at hn ⊢; omega) (by simp at h ⊢; omega)
     rw [List.append_assoc, List.singleton_append] at i
     simp only [h2, ↓reduceIte]
     exact i
    ·have i := ih a b (acc ++ [hi x y]) (by simp at hn ⊢; omega) (by simp at h ⊢; omega)
     rw [List.append_assoc, List.singleton_append] at i
     simp only [h2, ↓reduceIte, higher_is, Option.bind_some]
     exact i
theorem ev_Join (a b : List E) (h : a.length + b.length < 1099511627776) : Ev (fun k => entry_Join.f k a b) (joinE a b) := by
 unfold entry_Join.f
 have e : wrap64 ((a.length : Int) + (b.length : Int)) = ((a.length + b.length : Nat) : Int) := by rw [wrap_id _ (by omega) (by omega)]; omega
 simp only [e, Int.toNat_natCast, show (0 : Int) ≤ ((a.length + b.length : Nat) : Int) by omega, show a.length + b.length ≤ 8796093022208 by omega, ↓reduceIte]
 have := ev_Join_l0 _ a b [] (Nat.le_refl _) (by simp; omega)
 exact this
theorem mem_join : ∀ (n : Nat) (a b : List E), a.length + b.length ≤ n → ∀ z ∈ joinE a b, z ∈ a ∨ z ∈ b := by
 intro n
 induction n with
 | zero =>
  intro a b hn z hz
  have ha : a = [] := List.eq_nil_of_length_eq_zero (by omega)
  subst ha
  rw [joinE_nil] at hz
  exact .inr hz
 | succ n ih =>
  intro a b hn z hz
  match a, b with
  | [], b => rw [joinE_nil] at hz; exact .inr hz
  | x :: a, [] => rw [joinE_nil_r] at hz; exact .inl hz
  | x :: a, y :: b =>
   rw [joinE_cons] at hz
   split at hz
   ·rcases List.mem_cons.1 hz with rfl | hz
    ·exact .inl (by simp)
    ·rcases ih a (y :: b) (by simp at hn ⊢; omega) z hz with h | h
     ·exact .inl (by simp [h])
     ·exact .inr h
   ·split at hz
    ·rcases List.mem_cons.1 hz with rfl | hz
     ·exact .inr (by simp)
     ·rcases ih (x :: a) b (by simp at hn ⊢; omega) z hz with h | h
      ·exact .inl h
      ·exact .inr (by simp [h])
    ·rcases List.mem_cons.1 hz with rfl | hz
     ·rcases hi_or x y with e | e
      ·exact .inl (by rw [e]; simp)
      ·exact .inr (by rw [e]; simp)
     ·rcases ih a b (by simp at hn ⊢; omega) z hz with h | h
      ·exact .inl (by simp [h])
      ·exact .inr (by simp [h])
theorem len_join : ∀ (n : Nat) (a b : List E), a.length + b.length ≤ n → (joinE a b).length ≤ a.length + b.length := by
 intro n
 induction n with
 | zero =>
  intro a b hn
  have ha : a = [] := List.eq_nil_of_length_eq_zero (by omega)
  subst ha
  rw [joinE_nil]; simp
 | succ n ih =>
  intro a b hn
  match a, b with
  | [], b => rw [joinE_nil]; simp
  | x :: a, [] => rw [joinE_nil_r]; simp
  | x :: a, y :: b =>
   rw [joinE_cons]
   split
   ·have := ih a (y :: b) (by simp at hn ⊢; omega)
    simp at this ⊢; omega
   ·split
    ·have := ih (x :: a) b (by simp at hn ⊢; omega)
     simp at this ⊢; omega
    ·have := ih a b (by simp at hn ⊢; omega)
     simp at this ⊢; omega
theorem ris_join : ∀ (n : Nat) (a b : List E), a.length + b.length ≤ n → Ris kE a → Ris kE b → Ris kE (joinE a b) := by
 intro n
 induction n with
 | zero =>
  intro a b hn ha hb
  have h : a = [] := List.eq_nil_of_length_eq_zero (by omega)
  subst h
  rw [joinE_nil]; exact hb
 | succ n ih =>
  intro a b hn ha hb
  match a, b with
  | [], b => rw [joinE_nil]; exact hb
  | x :: a, [] => rw [joinE_nil_r]; exact ha
  | x :: a, y :: b =>
   rw [joinE_cons]
   have hx := ris_head ha
   have hy := ris_head hb
   split
   ·rename_i h
    refine ris_cons.2 ⟨fun z hz => ?_, ih a (y :: b) (by simp at hn ⊢; omega) (ris_tail ha) hb⟩
    rcases mem_join _ _ _ (Nat.le_refl _) z hz with hz | hz
    ·exact hx z hz
    ·rcases List.mem_cons.1 hz with rfl | hz
     ·exact h
     ·have := hy z hz; unfold kE at *; omega
   ·split
    ·rename_i h
     refine ris_cons.2 ⟨fun z hz => ?_, ih (x :: a) b (by simp at hn ⊢; omega) ha (ris_tail hb)⟩
     rcases mem_join _ _ _ (Nat.le_refl _) z hz with hz | hz
     ·rcases List.mem_cons.1 hz with rfl | hz
      ·exact h
      ·have := hx z hz; unfold kE at *; omega
     ·exact hy z hz
    ·rename_i h1 h2
     have hk := hi_key x y (by omega)
     refine ris_cons.2 ⟨fun z hz => ?_, ih a b (by simp at hn ⊢; omega) (ris_tail ha) (ris_tail hb)⟩
     show (hi x y).f0 < z.f0
     rcases mem_join _ _ _ (Nat.le_refl _) z hz with hz | hz
     ·have := hx z hz; unfold kE at this; omega
     ·have := hy z hz; unfold kE at this; omega
def sup : Option E → Option E → Option E
 | none, o => o
 | o, none => o
 | some x, some y => some (hi x y)
theorem sup_none (o : Option E) : sup o none = o := by cases o <;> rfl
theorem none_sup (o : Option E) : sup none o = o := by cases o <;> rfl
theorem look_join (k : Int) : ∀ (n : Nat) (a b : List E), a.length + b.length ≤ n → Ris kE a → Ris kE b → look kE (joinE a b) k = sup (look kE a k) (look kE b k) := by
 intro n
 induction n with
 | zero =>
  intro a b hn ha hb
  have h : a = [] := List.eq_nil_of_length_eq_zero (by omega)
  subst h
  rw [joinE_nil, look_nil, none_sup]
 | succ n ih =>
  intro a b hn ha hb
  match a, b with
  | [], b => rw [joinE_nil, look_nil, none_sup]
  | x :: a, [] => rw [joinE_nil_r, look_nil, sup_none]
  | x :: a, y :: b =>
   rw [joinE_cons]
   have hx := ris_head ha
   have hy := ris_head hb
   split
   ·rename_i h
    rw [look_cons, ih a (y :: b) (by simp at hn ⊢; omega) (ris_tail ha) hb, look_cons x a]
    by_cases hk : kE x = k
    ·rw [if_pos hk, if_pos hk, look_lt (fun z hz => ?_), sup_none]
     rcases List.mem_cons.1 hz with rfl | hz
     ·unfold kE at *; omega
     ·have := hy z hz; unfold kE at *; omega
    ·rw [if_neg hk, if_neg hk]
   ·split
    ·rename_i h
     rw [look_cons, ih (x :: a) b (by simp at hn ⊢; omega) ha (ris_tail hb), look_cons y b]
     by_cases hk : kE y = k
     ·rw [if_pos hk, if_pos hk, look_lt (l := x :: a) (fun z hz => ?_), none_sup]
      rcases List.mem_cons.1 hz with rfl | hz
      ·unfold kE at *; omega
      ·have := hx z hz; unfold kE at *; omega
     ·rw [if_neg hk, if_neg hk]
    ·rename_i h1 h2
     have hk2 := hi_key x y (by omega)
     rw [look_cons, ih a b (by simp at hn ⊢; omega) (ris_tail ha) (ris_tail hb), look_cons x a, look_cons y b]
     have e1 : kE (hi x y) = kE x := hk2
     have e2 : kE y = kE x := by unfold kE; omega
     rw [e1, e2]
     by_cases hk : kE x = k
     ·rw [if_pos hk, if_pos hk, if_pos hk]; rfl
     ·rw [if_neg hk, if_neg hk, if_neg hk]
theorem look_key {l : List E} {k : Int} {x : E} (h : look kE l k = some x) : x.f0 = k := (look_mem h).2
theorem look_joinE {a b : List E} (ha : Ris kE a) (hb : Ris kE b) (k : Int) : look kE (joinE a b) k = sup (look kE a k) (look kE b k) := look_join k _ a b (Nat.le_refl _) ha hb
theorem ris_joinE {a b : List E} (ha : Ris kE a) (hb : Ris kE b) : Ris kE (joinE a b) := ris_join _ a b (Nat.le_refl _) ha hb
theorem right_join {a b : List E} (ha : RightE a) (hb : RightE b) : RightE (joinE a b) := by
 refine ⟨ris_joinE ha.1 hb.1, fun z hz => ?_⟩
 rcases mem_join _ _ _ (Nat.le_refl _) z hz with h | h
 ·exact ha.2 z h
 ·exact hb.2 z h
theorem right_len {a : List E} (h : RightE a) : a.length ≤ 12 := ris_length 12 a 0 h.1 (fun x hx => by have := h.2 x hx; unfold MayE at this; unfold kE; omega)
/-- One entry, or none, isn't above another one. -/
def Ole (p q : Option E) : Prop := ∀ y, p = some y → ∃ x, q = some x ∧ ¬ Gt y x
theorem over_iff {a b : List E} (hb : Ris kE b) : OverE a b ↔ ∀ k, Ole (look kE b k) (look kE a k) := by
 constructor
 ·intro h k y hy
  obtain ⟨hm, hk⟩ := look_mem hy
  have := h y hm
  rw [show y.f0 = k from hk] at this
  exact this
 ·intro h y hy
  exact h y.f0 y (look_of_mem hb hy)
theorem sup_comm {l m : List E} (k : Int) : sup (look kE l k) (look kE m k) = sup (look kE m k) (look kE l k) := by
 cases h : look kE l k with
 | none => rw [none_sup, sup_none]
 | some x =>
  cases h2 : look kE m k with
  | none => rw [none_sup, sup_none]
  | some y => show some _ = some _; rw [hi_comm (by rw [look_key h, look_key h2])]
theorem sup_assoc (p q r : Option E) : sup (sup p q) r = sup p (sup q r) := by
 cases p with
 | none => rw [none_sup, none_sup]
 | some x =>
  cases q with
  | none => rw [sup_none, none_sup]
  | some y =>
   cases r with
   | none => rw [sup_none, sup_none]
   | some z => show some _ = some _; rw [hi_assoc]
theorem sup_self (p : Option E) : sup p p = p := by
 cases p with
 | none => rfl
 | some x => show some _ = some _; rw [hi_self]
theorem ole_l (p q : Option E) : Ole p (sup p q) := by
 rintro y rfl
 cases q with
 | none => exact ⟨y, rfl, gt_irrefl y⟩
 | some x => exact ⟨_, rfl, hi_le_l y x⟩
theorem ole_r (p q : Option E) : Ole q (sup p q) := by
 rintro y rfl
 cases p with
 | none => exact ⟨y, rfl, gt_irrefl y⟩
 | some x => exact ⟨_, rfl, hi_le_r x y⟩
theorem ole_sup {p q r : Option E} (h : Ole p r) (k : Ole q r) : Ole (sup p q) r := by
 intro y hy
 cases p with
 | none => rw [none_sup] at hy; exact k y hy
 | some x =>
  cases q with
  | none => rw [sup_none] at hy; exact h y hy
  | some z =>
   have e : hi x z = y := Option.some.inj hy
   rcases hi_or x z with e1 | e1
   ·exact h y (by rw [← e, e1])
   ·exact k y (by rw [← e, e1])
theorem ole_refl (p : Option E) : Ole p p := fun y hy => ⟨y, hy, gt_irrefl y⟩
theorem ole_antisymm {l m : List E} {k : Int} (h : Ole (look kE l k) (look kE m k)) (h2 : Ole (look kE m k) (look kE l k)) : look kE l k = look kE m k := by
 cases hl : look kE l k with
 | none =>
  cases hm : look kE m k with
  | none => rfl
  | some y =>
   obtain ⟨x, hx, _⟩ := h2 y hm
   rw [hl] at hx; cases hx
 | some x =>
  obtain ⟨y, hy, hg⟩ := h x hl
  obtain ⟨x', hx', hg'⟩ := h2 y hy
  rw [hl] at hx'
  cases hx'
  rw [hy]
  congr 1
  rcases gt_total x y with a | a | ⟨a, b⟩
  ·exact absurd a hg
  ·exact absurd a hg'
  ·exact e_ext (by rw [look_key hl, look_key hy]) a b
theorem top_join {a b : List E} (ha : Ris kE a) (hb : Ris kE b) : TopE (joinE a b) = mx (TopE a) (TopE b) := by
 apply Int.le_antisymm
 ·refine topE_le (Int.le_trans (topE_nonneg a) (le_mx_l _ _)) (fun z hz => ?_)
  rcases mem_join _ _ _ (Nat.le_refl _) z hz with h | h
  ·exact Int.le_trans (topE_ge a z h) (le_mx_l _ _)
  ·exact Int.le_trans (topE_ge b z h) (le_mx_r _ _)
 ·have key : ∀ (l : List E), Ris kE l → (∀ k, Ole (look kE l k) (look kE (joinE a b) k)) → TopE l ≤ TopE (joinE a b) := by
   intro l hl h
   refine topE_le (topE_nonneg _) (fun z hz => ?_)
   obtain ⟨x, hx, hg⟩ := h z.f0 z (look_of_mem hl hz)
   have h1 := topE_ge _ x (look_mem hx).1
   have h2 : ¬ z.f1 > x.f1 := fun h => hg (.inl h)
   omega
  have h1 := key a ha (fun k => by rw [look_joinE ha hb]; exact ole_l _ _)
  have h2 := key b hb (fun k => by rw [look_joinE ha hb]; exact ole_r _ _)
  exact mx_le h1 h2
end Go.Proofs.Ytpccnpgigmcfoaa.Pl

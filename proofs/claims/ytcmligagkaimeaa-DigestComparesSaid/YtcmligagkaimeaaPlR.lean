/- What the printed reading functions of tables, states, views and digests come to, in plain words. No condition. -/
import Derived.Test.YtcmligagkaimeaaPlD
import Derived.Test.YtcmligagkaimeaaPEntryTop
import Derived.Test.YtcmligagkaimeaaPStateTop
import Derived.Test.YtcmligagkaimeaaPRef04Top
import Derived.Test.YtcmligagkaimeaaPRef05Top
import Derived.Test.YtcmligagkaimeaaPDigestOf
import Derived.Test.YtcmligagkaimeaaPRef07Of
import Derived.Test.YtcmligagkaimeaaPDigestLacks
import Derived.Test.YtcmligagkaimeaaPDigestCompare
import Derived.Test.YtcmligagkaimeaaPRef07Same
import Derived.Test.YtcmligagkaimeaaPApiDigest
import Derived.Test.YtcmligagkaimeaaPDigestSame
namespace Go.Proofs.Ytcmligagkaimeaa.Pl
open Go.RowKit Go.Proofs.Ytcmligagkaimeaa.P Go.Proofs.YtcmligagkaimeaaW.PrintWords Go.Proofs.YtcmligagkaimeaaW.PrintLast Go.Proofs.YtcmligagkaimeaaW.PrintMore
set_option linter.unusedSimpArgs false
set_option linter.unusedVariables false
/-! ### tops -/
theorem ev_entry_Top_l0 (suf : List E) : ∀ (pre : List E) (t : Int), (pre ++ suf).length < 4611686018427387904 →
  Ev (fun k => entry_Top.l0 k t (pre ++ suf) ((pre ++ suf).length : Int) (pre.length : Int)) (suf.foldl (fun t x => mx t x.f1) t) := by
 induction suf with
 | nil =>
  intro pre t h
  refine Ev.step (fun k => by rw [entry_Top.l0]) ?_
  simp only [end_ge, ↓reduceIte]
  exact Ev.now _
 | cons x suf ih =>
  intro pre t h
  refine Ev.step (fun k => by rw [entry_Top.l0]) ?_
  simp only [mid_lt, nat_ge, ↓reduceIte, rdE, mid_next pre x suf (by omega)]
  have := ih (pre ++ [x]) (mx t x.f1) (by rw [← List.append_cons]; exact h)
  rw [← List.append_cons pre x suf] at this
  exact this
theorem ev_entry_Top (l : List E) (h : l.length < 4611686018427387904) : Ev (fun k => entry_Top.f k l) (TopE l) := ev_entry_Top_l0 l [] 0 h
theorem ev_ref04_Top_l0 (suf : List E) : ∀ (pre : List E) (t : Int), (pre ++ suf).length < 4611686018427387904 →
  Ev (fun k => ref04_Top.l0 k (pre ++ suf) t (pre.length : Int)) (suf.foldl (fun t x => mx t x.f1) t) := by
 induction suf with
 | nil =>
  intro pre t h
  refine Ev.step (fun k => by rw [ref04_Top.l0]) ?_
  simp only [end_ge, ↓reduceIte]
  exact Ev.now _
 | cons x suf ih =>
  intro pre t h
  refine Ev.step (fun k => by rw [ref04_Top.l0]) ?_
  simp only [mid_lt, nat_ge, ↓reduceIte, rdE, mid_next pre x suf (by omega)]
  have := ih (pre ++ [x]) (mx t x.f1) (by rw [← List.append_cons]; exact h)
  rw [← List.append_cons pre x suf] at this
  exact this
theorem ev_ref04_Top (l : List E) (h : l.length < 4611686018427387904) : Ev (fun k => ref04_Top.f k l) (TopE l) := ev_ref04_Top_l0 l [] 0 h
theorem ev_state_Top (s : St) (h : s.f2.length < 4611686018427387904) : Ev (fun k => state_Top.f k s.f0 s.f1 s.f2) (TopS s) := Ev.bind (ev_entry_Top s.f2 h) (Ev.now _)
theorem ev_ref05_Top (s : St) (h : s.f2.length < 4611686018427387904) : Ev (fun k => ref05_Top.f k s.f0 s.f1 s.f2) (TopS s) := Ev.bind (ev_ref04_Top s.f2 h) (Ev.now _)
/-! ### what a view's digests are -/
/-- A view as small as is looked at. -/
def SmallV (v : List Nm) : Prop := v.length ≤ 40 ∧ ∀ x ∈ v, x.f1.f2.length ≤ 4000
theorem ev_digest_Of_l0 (suf : List Nm) : ∀ (pre : List Nm) (acc : List Dg), (pre ++ suf).length ≤ 40 → acc.length + suf.length ≤ 40 → (∀ x ∈ suf, x.f1.f2.length ≤ 4000) →
  Ev (fun k => digest_Of.l0 k acc (pre ++ suf) ((pre ++ suf).length : Int) (pre.length : Int)) (acc ++ Of suf) := by
 induction suf with
 | nil =>
  intro pre acc h h2 h3
  refine Ev.step (fun k => by rw [digest_Of.l0]) ?_
  simp only [end_ge, ↓reduceIte]
  rw [show acc ++ Of [] = acc by simp [Of]]
  exact Ev.now _
 | cons x suf ih =>
  intro pre acc h h2 h3
  refine Ev.step (fun k => by rw [digest_Of.l0]) ?_
  have hl : acc.length < 5864062014805 := by simp at h2; omega
  simp only [mid_lt, nat_ge, ↓reduceIte, rdN, mid_next pre x suf (by omega), hl]
  refine Ev.bind (ev_state_Top x.f1 (by have := h3 x (by simp); omega)) ?_
  have := ih (pre ++ [x]) (acc ++ [ofN x]) (by rw [← List.append_cons]; exact h) (by simp at h2 ⊢; omega) (fun y hy => h3 y (by simp [hy]))
  rw [← List.append_cons pre x suf, show acc ++ [ofN x] ++ Of suf = acc ++ Of (x :: suf) by simp [Of]] at this
  exact this
theorem ev_digest_Of (v : List Nm) (h : SmallV v) : Ev (fun k => digest_Of.f k v) (Of v) := ev_digest_Of_l0 v [] [] h.1 (by have := h.1; simp; omega) h.2
theorem ev_ref07_Of_l0 (suf : List Nm) : ∀ (pre : List Nm) (acc : List Dg), (pre ++ suf).length ≤ 40 → acc.length + suf.length ≤ 40 → (∀ x ∈ suf, x.f1.f2.length ≤ 4000) →
  Ev (fun k => ref07_Of.l0 k (pre ++ suf) acc (pre.length : Int)) (acc ++ Of suf) := by
 induction suf with
 | nil =>
  intro pre acc h h2 h3
  refine Ev.step (fun k => by rw [ref07_Of.l0]) ?_
  simp only [end_ge, ↓reduceIte]
  rw [show acc ++ Of [] = acc by simp [Of]]
  exact Ev.now _
 | cons x suf ih =>
  intro pre acc h h2 h3
  refine Ev.step (fun k => by rw [ref07_Of.l0]) ?_
  have hl : acc.length < 5864062014805 := by simp at h2; omega
  simp only [mid_lt, nat_ge, ↓reduceIte, rdN, mid_next pre x suf (by omega), hl]
  refine Ev.bind (ev_ref05_Top x.f1 (by have := h3 x (by simp); omega)) ?_
  have := ih (pre ++ [x]) (acc ++ [ofN x]) (by rw [← List.append_cons]; exact h) (by simp at h2 ⊢; omega) (fun y hy => h3 y (by simp [hy]))
  rw [← List.append_cons pre x suf, show acc ++ [ofN x] ++ Of suf = acc ++ Of (x :: suf) by simp [Of]] at this
  exact this
theorem ev_ref07_Of (v : List Nm) (h : SmallV v) : Ev (fun k => ref07_Of.f k v) (Of v) := ev_ref07_Of_l0 v [] [] h.1 (by have := h.1; simp; omega) h.2
/-! ### wants and gives -/
theorem lacks_is (a b : Dg) : digest_lacks.f a.f0 a.f1 a.f2 b.f0 b.f1 b.f2 = some (lacks a b) := by
 unfold digest_lacks.f lacks
 by_cases h : b.f1 > a.f1
 ·simp [h]
 ·by_cases h2 : b.f1 = a.f1
  ·by_cases h3 : b.f2 > a.f2 <;> simp [h, h2, h3]
  ·simp [h, h2]
theorem len_pos {α : Type} (x : α) (l : List α) : (0 : Int) < ((x :: l).length : Int) := by simp <;> omega
theorem len_one {α : Type} (x : α) (l : List α) : (1 : Int) ≤ ((x :: l).length : Int) := by rw [List.length_cons]; omega
theorem len_ne {α : Type} (x : α) (l : List α) : ¬ (((x :: l).length : Int) = 0) := by simp <;> omega
theorem len_gt {α : Type} (x : α) (l : List α) : ((x :: l).length : Int) > 0 := by simp <;> omega
theorem nil_gt {α : Type} : ¬ (((([] : List α).length : Nat) : Int) > 0) := by simp
theorem nil_eq {α : Type} : (((([] : List α).length : Nat) : Int) = 0) := rfl
theorem ev_digest_Compare_l0 (own l : List Dg) (wants gives : List Dg) (h : wants.length + gives.length + 2 * (own.length + l.length) ≤ 1000) :
  Ev (fun k => digest_Compare.l0 k l wants gives own) (wants ++ (cmp own l).1, gives ++ (cmp own l).2) := by
 match own, l with
 | [], [] =>
  refine Ev.step (fun k => by rw [digest_Compare.l0]) ?_
  simp only [nil_gt, ↓reduceIte, decide_false]
  refine Ev.step (fun k => by rw [digest_Compare.j1]) ?_
  simp only [Bool.false_eq_true, ↓reduceIte]
  rw [cmp_nil]; simp only [List.map_nil, List.append_nil]
  exact Ev.now _
 | [], d :: l =>
  refine Ev.step (fun k => by rw [digest_Compare.l0]) ?_
  simp only [nil_gt, ↓reduceIte, len_gt, decide_true]
  refine Ev.step (fun k => by rw [digest_Compare.j1]) ?_
  simp only [↓reduceIte, nil_eq]
  refine Ev.step (fun k => by rw [digest_Compare.j2]) ?_
  have hw : wants.length < 5864062014805 := by simp at h; omega
  simp only [↓reduceIte, len_pos, len_one, hw, rdD0, List.drop_one, List.tail_cons]
  have := ev_digest_Compare_l0 [] l (wants ++ [⟨d.f0, d.f1, 0⟩]) gives (by simp at h ⊢; omega)
  rw [cmp_nil] at this ⊢
  simpa using this
 | o :: own, [] =>
  refine Ev.step (fun k => by rw [digest_Compare.l0]) ?_
  simp only [↓reduceIte, len_gt]
  refine Ev.step (fun k => by rw [digest_Compare.j1]) ?_
  simp only [↓reduceIte, len_ne, nil_gt]
  refine Ev.step (fun k => by rw [digest_Compare.j2]) ?_
  simp only [Bool.false_eq_true, ↓reduceIte, nil_eq]
  refine Ev.step (fun k => by rw [digest_Compare.j3]) ?_
  have hw : gives.length < 5864062014805 := by simp at h; omega
  simp only [↓reduceIte, len_pos, len_one, hw, rdD0, Int.toNat_one, List.drop_one, List.tail_cons]
  have := ev_digest_Compare_l0 own [] wants (gives ++ [⟨o.f0, o.f1, 0⟩]) (by simp at h ⊢; omega)
  rw [cmp_nil_r] at this ⊢
  simpa using this
 | o :: own, d :: l =>
  have hw : wants.length < 5864062014805 := by simp at h; omega
  have hg : gives.length < 5864062014805 := by simp at h; omega
  refine Ev.step (fun k => by rw [digest_Compare.l0]) ?_
  simp only [↓reduceIte, len_gt]
  refine Ev.step (fun k => by rw [digest_Compare.j1]) ?_
  simp only [↓reduceIte, len_ne, len_gt, len_pos, rdD0]
  refine Ev.step (fun k => by rw [digest_Compare.j2]) ?_
  rw [cmp_cons]
  by_cases h1 : d.f0 < o.f0
  ·simp only [h1, decide_true, ↓reduceIte, len_pos, len_one, hw, rdD0, List.drop_one, List.tail_cons]
   have := ev_digest_Compare_l0 (o :: own) l (wants ++ [⟨d.f0, d.f1, 0⟩]) gives (by simp at h ⊢; omega)
   simpa using this
  ·simp only [h1, decide_false, Bool.false_eq_true, ↓reduceIte, len_ne, len_pos, rdD0]
   refine Ev.step (fun k => by rw [digest_Compare.j3]) ?_
   by_cases h2 : o.f0 < d.f0
   ·simp only [h2, decide_true, ↓reduceIte, len_pos, len_one, hg, rdD0, Int.toNat_one, List.drop_one, List.tail_cons]
    have := ev_digest_Compare_l0 own (d :: l) wants (gives ++ [⟨o.f0, o.f1, 0⟩]) (by simp at h ⊢; omega)
    simpa using this
   ·have ha := lacks_len o d
    have hb := lacks_len d o
    have hw2 : wants.length + (lacks o d).length < 5864062014805 := by omega
    have hg2 : gives.length + (lacks d o).length < 5864062014805 := by omega
    simp only [h2, decide_false, Bool.false_eq_true, ↓reduceIte, len_pos, len_one, rdD0, lacks_is, Option.bind_some, hw2, hg2, Int.toNat_one, List.drop_one, List.tail_cons]
    have := ev_digest_Compare_l0 own l (wants ++ lacks o d) (gives ++ lacks d o) (by simp at h ⊢; omega)
    simpa using this
termination_by own.length + l.length
theorem ev_digest_Compare (v : List Nm) (l : List Dg) (hv : SmallV v) (hl : l.length ≤ 80) : Ev (fun k => digest_Compare.f k v l) (cmp (Of v) l) := by
 refine Ev.bind (ev_digest_Of v hv) ?_
 have := ev_digest_Compare_l0 (Of v) l [] [] (by have := hv.1; simp [Of]; omega)
 simpa using this
/-! ### the same lists -/
theorem dg_ext {a b : Dg} : a = b ↔ a.f0 = b.f0 ∧ a.f1 = b.f1 ∧ a.f2 = b.f2 := by
 constructor
 ·rintro rfl; exact ⟨rfl, rfl, rfl⟩
 ·rintro ⟨h1, h2, h3⟩
  cases a; cases b; simp_all
theorem ev_ref07_Same_l0 (sa : List Dg) : ∀ (sb pa pb : List Dg), pa.length = pb.length → sa.length = sb.length → (pa ++ sa).length < 4611686018427387904 →
  ∃ r, Ev (fun k => ref07_Same.l0 k (pa ++ sa) (pb ++ sb) (pa.length : Int)) r ∧ (r = true ↔ sa = sb) := by
 induction sa with
 | nil =>
  intro sb pa pb hp hs h
  have e : sb = [] := List.eq_nil_of_length_eq_zero hs.symm
  subst e
  refine ⟨true, Ev.step (fun k => by rw [ref07_Same.l0]) ?_, by simp⟩
  simp only [end_ge, ↓reduceIte]
  exact Ev.now _
 | cons x sa ih =>
  intro sb pa pb hp hs h
  match sb, hs with
  | y :: sb, hs =>
  have e1 : rd_T30 (pb ++ y :: sb) ((pa.length : Nat) : Int) = y := by rw [hp]; exact rdD pb y sb
  have e2 : ((pa.length : Nat) : Int) < ((pb ++ y :: sb).length : Int) := by rw [hp]; exact mid_lt pb y sb
  by_cases hxy : x = y
  ·subst hxy
   obtain ⟨r, hr, hi⟩ := ih sb (pa ++ [x]) (pb ++ [x]) (by simp [hp]) (by simpa using hs) (by rw [← List.append_cons]; exact h)
   refine ⟨r, Ev.step (fun k => by rw [ref07_Same.l0]) ?_, by simp [hi]⟩
   simp only [mid_lt, nat_ge, ↓reduceIte, rdD, e1, e2, mid_next pa x sa (by omega), beq_self_eq_true, Bool.not_true, Bool.or_self, Bool.false_eq_true]
   rw [← List.append_cons pa x sa, ← List.append_cons pb x sb] at hr
   exact hr
  ·refine ⟨false, Ev.step (fun k => by rw [ref07_Same.l0]) ?_, by simp [hxy]⟩
   have hne : (!(x.f0 == y.f0) || (!(x.f1 == y.f1) || !(x.f2 == y.f2))) = true := by
    rw [dg_ext] at hxy
    simp only [Bool.or_eq_true, Bool.not_eq_true', beq_eq_false_iff_ne]
    by_cases a : x.f0 = y.f0
    ·by_cases b : x.f1 = y.f1
     ·by_cases c : x.f2 = y.f2
      ·exact absurd ⟨a, b, c⟩ hxy
      ·exact .inr (.inr c)
     ·exact .inr (.inl b)
    ·exact .inl a
   simp only [mid_lt, nat_ge, ↓reduceIte, rdD, e1, e2, hne]
   exact Ev.now _
theorem ev_ref07_Same (a b : List Dg) (h : a.length < 4611686018427387904) : ∃ r, Ev (fun k => ref07_Same.f k a b) r ∧ (r = true ↔ a = b) := by
 by_cases hl : a.length = b.length
 ·obtain ⟨r, hr, hi⟩ := ev_ref07_Same_l0 a b [] [] rfl hl h
  refine ⟨r, Ev.congr (fun k => ?_) hr, hi⟩
  show ref07_Same.f k a b = ref07_Same.l0 k a b 0
  unfold ref07_Same.f
  rw [if_pos (by omega)]
 ·refine ⟨false, Ev.congr (fun k => ?_) (Ev.now false), by simp; intro e; exact hl (by rw [e])⟩
  unfold ref07_Same.f
  rw [if_neg (by omega)]
theorem ev_slices_Equal_l0 (sa : List Dg) : ∀ (sb pa pb : List Dg), pa.length = pb.length → sa.length = sb.length → (pa ++ sa).length < 4611686018427387904 →
  ∃ r, Ev (fun k => api_Digest.l0 k (pa ++ sa) (pb ++ sb) ((pa ++ sa).length : Int) (pa.length : Int)) r ∧ (r = true ↔ sa = sb) := by
 induction sa with
 | nil =>
  intro sb pa pb hp hs h
  have e : sb = [] := List.eq_nil_of_length_eq_zero hs.symm
  subst e
  refine ⟨true, Ev.step (fun k => by rw [api_Digest.l0]) ?_, by simp⟩
  simp only [end_ge, ↓reduceIte]
  exact Ev.now _
 | cons x sa ih =>
  intro sb pa pb hp hs h
  match sb, hs with
  | y :: sb, hs =>
  have e1 : rd_T30 (pb ++ y :: sb) ((pa.length : Nat) : Int) = y := by rw [hp]; exact rdD pb y sb
  have e2 : ((pa.length : Nat) : Int) < ((pb ++ y :: sb).length : Int) := by rw [hp]; exact mid_lt pb y sb
  by_cases hxy : x = y
  ·subst hxy
   obtain ⟨r, hr, hi⟩ := ih sb (pa ++ [x]) (pb ++ [x]) (by simp [hp]) (by simpa using hs) (by rw [← List.append_cons]; exact h)
   refine ⟨r, Ev.step (fun k => by rw [api_Digest.l0]) ?_, by simp [hi]⟩
   simp only [mid_lt, nat_ge, ↓reduceIte, rdD, e1, e2, mid_next pa x sa (by omega), beq_self_eq_true, Bool.not_true, Bool.or_self, Bool.false_eq_true]
   rw [← List.append_cons pa x sa, ← List.append_cons pb x sb] at hr
   exact hr
  ·refine ⟨false, Ev.step (fun k => by rw [api_Digest.l0]) ?_, by simp [hxy]⟩
   have hne : (!(x.f0 == y.f0) || (!(x.f1 == y.f1) || !(x.f2 == y.f2))) = true := by
    rw [dg_ext] at hxy
    simp only [Bool.or_eq_true, Bool.not_eq_true', beq_eq_false_iff_ne]
    by_cases a : x.f0 = y.f0
    ·by_cases b : x.f1 = y.f1
     ·by_cases c : x.f2 = y.f2
      ·exact absurd ⟨a, b, c⟩ hxy
      ·exact .inr (.inr c)
     ·exact .inr (.inl b)
    ·exact .inl a
   simp only [mid_lt, nat_ge, ↓reduceIte, rdD, e1, e2, hne]
   exact Ev.now _
theorem ev_digest_Same (a b : List Dg) (h : a.length < 4611686018427387904) : ∃ r, Ev (fun k => digest_Same.f k a b) r ∧ (r = true ↔ a = b) := by
 by_cases hl : a.length = b.length
 ·obtain ⟨r, hr, hi⟩ := ev_slices_Equal_l0 a b [] [] rfl hl h
  refine ⟨r, Ev.bind (a := r) (Ev.congr (fun k => ?_) hr) (Ev.now _), hi⟩
  show api_Digest.f k a b = api_Digest.l0 k a b (a.length : Int) 0
  unfold api_Digest.f
  rw [if_pos (by omega)]
 ·refine ⟨false, Ev.bind (a := false) (Ev.congr (fun k => ?_) (Ev.now false)) (Ev.now _), by simp; intro e; exact hl (by rw [e])⟩
  unfold api_Digest.f
  rw [if_neg (by omega)]
end Go.Proofs.Ytcmligagkaimeaa.Pl

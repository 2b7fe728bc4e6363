/- WardSplits' plain law: any nodes are split by any wards as the document says: for all lists. No condition. -/
import Derived.Test.YtonggencfnaheaaHw
import Derived.Test.YtonggencfnaheaaOps
import Derived.Test.YtonggencfnaheaaP0
import Derived.Test.YtonggencfnaheaaPLaw21Alive
import Derived.Test.YtonggencfnaheaaPLaw21WardSplits
import Derived.Test.YtonggencfnaheaaPRef06Ints
import Derived.Test.YtonggencfnaheaaPRef21Kept
import Derived.Test.YtonggencfnaheaaPRef21Split
import Derived.Test.YtonggencfnaheaaPWardKept
import Derived.Test.YtonggencfnaheaaPWardPast
import Derived.Test.YtonggencfnaheaaPWardSplit
namespace Go.Proofs.Ytonggencfnaheaa.Pl
open Go.RowKit Go.Proofs.Ytonggencfnaheaa.P Go.Proofs.YtonggencfnaheaaW.PrintWords Go.Proofs.YtonggencfnaheaaW.PrintLast Go.Proofs.YtonggencfnaheaaW.PrintMore Go.Proofs.YtonggencfnaheaaW.Hw
set_option linter.unusedSimpArgs false
set_option linter.unusedVariables false
abbrev E := S44
theorem wrap_id (x : Int) (h0 : -9223372036854775808 ≤ x) (h1 : x ≤ 9223372036854775807) : wrap64 x = x := by unfold wrap64; omega
theorem wrap_nat (n : Nat) (h : n < 9223372036854775807) : wrap64 ((n : Int) + 1) = ((n + 1 : Nat) : Int) := by unfold wrap64; omega
theorem getD_mid {α : Type} (z : α) (pre : List α) (x : α) (suf : List α) : (pre ++ x :: suf).getD ((pre.length : Nat) : Int).toNat z = x := by
 simp [List.getD_eq_getElem?_getD]
theorem rdE (pre : List E) (x : E) (suf : List E) : rd_T44 (pre ++ x :: suf) ((pre.length : Nat) : Int) = x := getD_mid _ pre x suf
theorem rdI (pre : List Int) (x : Int) (suf : List Int) : rd (pre ++ x :: suf) ((pre.length : Nat) : Int) = x := getD_mid _ pre x suf
theorem mid_lt {α : Type} (pre : List α) (x : α) (suf : List α) : ((pre.length : Nat) : Int) < ((pre ++ x :: suf).length : Int) := by simp <;> omega
theorem end_ge {α : Type} (pre : List α) : ¬ ((pre.length : Nat) : Int) < ((pre ++ ([] : List α)).length : Int) := by simp
theorem nat_ge {α : Type} (pre : List α) : (0 : Int) ≤ ((pre.length : Nat) : Int) := Int.natCast_nonneg _
theorem mid_next {α : Type} (pre : List α) (x : α) (suf : List α) (h : (pre ++ x :: suf).length < 9223372036854775807) : wrap64 (((pre.length : Nat) : Int) + 1) = (((pre ++ [x]).length : Nat) : Int) := by
 rw [wrap_nat _ (by simp at h; omega), List.length_append]; rfl
def kept (l : List E) (n now : Int) : Bool := l.any (fun x => x.f0 == n && decide (x.f1 > now))
theorem kept_is (l : List E) (n now : Int) : ward_Kept.f l n now = some (kept l n now) := rfl
theorem alive21 : Ev (fun k => law21_alive.f k) true := Ev.of (fun k => law21_alive.mono k) (k := 60) (by decide +kernel)
theorem ev_ref21_Kept_l0 (n now : Int) (suf : List E) : ∀ (pre : List E), (pre ++ suf).length < 4611686018427387904 →
  Ev (fun k => ref21_Kept.l0 k (pre ++ suf) n now (pre.length : Int)) (kept suf n now) := by
 induction suf with
 | nil =>
  intro pre h
  refine Ev.step (fun k => by rw [ref21_Kept.l0]) ?_
  simp only [end_ge, ↓reduceIte]
  exact Ev.now _
 | cons x suf ih =>
  intro pre h
  have i := ih (pre ++ [x]) (by rw [← List.append_cons]; exact h)
  rw [← List.append_cons pre x suf] at i
  refine Ev.step (fun k => by rw [ref21_Kept.l0]) ?_
  simp only [mid_lt, nat_ge, rdE, ↓reduceIte, mid_next pre x suf (by omega)]
  unfold kept at i ⊢
  rw [List.any_cons]
  by_cases hk : x.f0 = n
  ·rw [beq_iff_eq.2 hk, Bool.true_and]
   by_cases hg : x.f1 > now
   ·rw [decide_eq_true hg, Bool.true_or]
    simp only [hk, hg, ↓reduceIte]
    exact Ev.now _
   ·rw [decide_eq_false hg, Bool.false_or]
    simp only [hk, hg, ↓reduceIte]
    exact i
  ·rw [beq_false_of_ne hk, Bool.false_and, Bool.false_or]
   simp only [hk, ↓reduceIte]
   exact i
theorem ev_ref21_Kept (l : List E) (n now : Int) (h : l.length < 4611686018427387904) : Ev (fun k => ref21_Kept.f k l n now) (kept l n now) := ev_ref21_Kept_l0 n now l [] h
theorem past_is (l : List E) (v : Int) (h : l.length < 1099511627776) : ward_Past.f l v = some (l.filter (fun x => !decide (x.f1 ≤ v))) := by
 unfold ward_Past.f
 rw [if_pos (by omega)]
theorem kept_past (l : List E) (n now : Int) : kept (l.filter (fun x => !decide (x.f1 ≤ now))) n now = kept l n now := by
 induction l with
 | nil => rfl
 | cons x l ih =>
  unfold kept at ih ⊢
  rw [List.filter_cons, List.any_cons]
  by_cases h : x.f1 ≤ now
  ·rw [if_neg (by simp [h]), ih, decide_eq_false (show ¬ x.f1 > now by omega), Bool.and_false, Bool.false_or]
  ·rw [if_pos (by simp [h]), List.any_cons, ih]
theorem ev_Split_l0 (l : List E) (now : Int) (suf : List Int) : ∀ (pre a b : List Int), (pre ++ suf).length < 1099511627776 → a.length ≤ pre.length → b.length ≤ pre.length →
  Ev (fun k => ward_Split.l0 k l now a b (pre ++ suf) ((pre ++ suf).length : Int) (pre.length : Int)) (a ++ suf.filter (fun n => kept l n now), b ++ suf.filter (fun n => !kept l n now)) := by
 induction suf with
 | nil =>
  intro pre a b h ha hb
  refine Ev.step (fun k => by rw [ward_Split.l0]) ?_
  simp only [end_ge, ↓reduceIte]
  simp only [List.filter_nil, List.append_nil]
  exact Ev.now _
 | cons x suf ih =>
  intro pre a b h ha hb
  have hl : pre.length + (suf.length + 1) < 1099511627776 := by simpa using h
  refine Ev.step (fun k => by rw [ward_Split.l0]) ?_
  simp only [mid_lt, nat_ge, rdI, ↓reduceIte, kept_is, Option.bind_some, mid_next pre x suf (by omega)]
  rw [List.filter_cons, List.filter_cons]
  cases hk : kept l x now with
  | true =>
   have i := ih (pre ++ [x]) (a ++ [x]) b (by rw [← List.append_cons]; exact h) (by simp; omega) (by simp; omega)
   rw [← List.append_cons pre x suf, List.append_assoc, List.singleton_append] at i
   simp only [↓reduceIte, show a.length < 17592186044416 by omega, Bool.not_true, Bool.false_eq_true]
   exact i
  | false =>
   have i := ih (pre ++ [x]) a (b ++ [x]) (by rw [← List.append_cons]; exact h) (by simp; omega) (by simp; omega)
   rw [← List.append_cons pre x suf, List.append_assoc, List.singleton_append] at i
   simp only [↓reduceIte, show b.length < 17592186044416 by omega, Bool.not_false, Bool.false_eq_true]
   exact i
theorem ev_Split (l : List E) (ns : List Int) (now : Int) (h : ns.length < 1099511627776) : Ev (fun k => ward_Split.f k l ns now) (ns.filter (fun n => kept l n now), ns.filter (fun n => !kept l n now)) := ev_Split_l0 l now ns [] [] [] h (Nat.le_refl _) (Nat.le_refl _)
theorem ref_Split_l0 (l : List E) (now : Int) (hl0 : l.length < 4611686018427387904) (suf : List Int) : ∀ (pre a b : List Int), (pre ++ suf).length < 1099511627776 → a.length ≤ pre.length → b.length ≤ pre.length →
  Ev (fun k => ref21_Split.l0 k l (pre ++ suf) now a b (pre.length : Int)) (a ++ suf.filter (fun n => kept l n now), b ++ suf.filter (fun n => !kept l n now)) := by
 induction suf with
 | nil =>
  intro pre a b h ha hb
  refine Ev.step (fun k => by rw [ref21_Split.l0]) ?_
  simp only [end_ge, ↓reduceIte]
  simp only [List.filter_nil, List.append_nil]
  exact Ev.now _
 | cons x suf ih =>
  intro pre a b h ha hb
  have hl : pre.length + (suf.length + 1) < 1099511627776 := by simpa using h
  refine Ev.step (fun k => by rw [ref21_Split.l0]) ?_
  simp only [mid_lt, nat_ge, rdI, ↓reduceIte, mid_next pre x suf (by omega)]
  refine Ev.bind (ev_ref21_Kept l x now hl0) ?_
  rw [List.filter_cons, List.filter_cons]
  cases hk : kept l x now with
  | true =>
   have i := ih (pre ++ [x]) (a ++ [x]) b (by rw [← List.append_cons]; exact h) (by simp; omega) (by simp; omega)
   rw [← List.append_cons pre x suf, List.append_assoc, List.singleton_append] at i
   simp only [↓reduceIte, show a.length < 17592186044416 by omega, Bool.not_true, Bool.false_eq_true]
   exact i
  | false =>
   have i := ih (pre ++ [x]) a (b ++ [x]) (by rw [← List.append_cons]; exact h) (by simp; omega) (by simp; omega)
   rw [← List.append_cons pre x suf, List.append_assoc, List.singleton_append] at i
   simp only [↓reduceIte, show b.length < 17592186044416 by omega, Bool.not_false, Bool.false_eq_true]
   exact i
theorem ref_Split (l : List E) (ns : List Int) (now : Int) (hl0 : l.length < 4611686018427387904) (h : ns.length < 1099511627776) : Ev (fun k => ref21_Split.f k l ns now) (ns.filter (fun n => kept l n now), ns.filter (fun n => !kept l n now)) := ref_Split_l0 l now hl0 ns [] [] [] h (Nat.le_refl _) (Nat.le_refl _)
theorem ints_l0 (suf : List Int) : ∀ pre : List Int, (pre ++ suf).length < 4611686018427387904 → Ev (fun k => ref06_Ints.l0 k (pre ++ suf) (pre ++ suf) (pre.length : Int)) true := by
 induction suf with
 | nil =>
  intro pre h
  refine Ev.step (fun k => by rw [ref06_Ints.l0]) ?_
  simp only [end_ge, ↓reduceIte]
  exact Ev.now _
 | cons x suf ih =>
  intro pre h
  have i := ih (pre ++ [x]) (by rw [← List.append_cons]; exact h)
  rw [← List.append_cons pre x suf] at i
  refine Ev.step (fun k => by rw [ref06_Ints.l0]) ?_
  simp only [mid_lt, nat_ge, ↓reduceIte, mid_next pre x suf (by omega)]
  exact i
theorem ints_true {a b : List Int} (h : a.length < 4611686018427387904) (e : a = b) : Ev (fun k => ref06_Ints.f k a b) true := by
 subst e
 unfold ref06_Ints.f
 simp only [↓reduceIte]
 exact ints_l0 a [] h
theorem len_parts (p : Int → Bool) (l : List Int) : (l.filter p).length + (l.filter (fun n => !p n)).length = l.length := by
 induction l with
 | nil => rfl
 | cons x l ih =>
  rw [List.filter_cons, List.filter_cons]
  cases h : p x with
  | true => simp only [↓reduceIte, Bool.not_true, Bool.false_eq_true, List.length_cons]; omega
  | false => simp only [↓reduceIte, Bool.not_false, Bool.false_eq_true, List.length_cons]; omega
theorem splits_fin (l : List E) (ns : List Int) (now : Int) (hl : l.length ≤ 100) (hn : ns.length ≤ 100) : Ev (fun k => law21_WardSplits.j0 k l ns now false) true := by
 have h1 : (ns.filter (fun n => kept l n now)).length ≤ ns.length := List.length_filter_le _ _
 have h2 : (ns.filter (fun n => !kept l n now)).length ≤ ns.length := List.length_filter_le _ _
 have hs := len_parts (fun n => kept l n now) ns
 have ip := ev_Split (l.filter (fun x => !decide (x.f1 ≤ now))) ns now (by omega)
 simp only [kept_past] at ip
 refine Ev.step (fun k => by rw [law21_WardSplits.j0]) ?_
 simp only [Bool.false_eq_true, ↓reduceIte]
 refine Ev.bind (ev_Split l ns now (by omega)) (Ev.bind (ref_Split l ns now (by omega) (by omega)) ?_)
 simp only [past_is l now (by omega), Option.bind_some]
 refine Ev.bind ip ?_
 refine Ev.bind (ints_true (by omega) rfl) ?_
 simp only [↓reduceIte]
 refine Ev.bind (ints_true (by omega) rfl) ?_
 simp only [↓reduceIte]
 refine Ev.bind (ints_true (by omega) rfl) ?_
 simp only [↓reduceIte]
 refine Ev.bind (ints_true (by omega) rfl) ?_
 have hw : wrap64 (((ns.filter (fun n => kept l n now)).length : Int) + ((ns.filter (fun n => !kept l n now)).length : Int)) = (ns.length : Int) := by rw [wrap_id _ (by omega) (by omega)]; omega
 simp only [↓reduceIte, hw, beq_self_eq_true]
 exact Ev.now _
theorem WardSplits : ∀ (x0 : List S44) (x1 : List Int) (x2 : Int), (x0.length ≤ maxLen ∧ x0.length * 16 ≤ 140737488351232 ∧ ∀ x_ ∈ x0, G44 x_) → (x1.length ≤ maxLen ∧ x1.length * 8 ≤ 140737488351232 ∧ ∀ x_ ∈ x1, (Lit.int .i64 x_).wf = true) → (Lit.int .i64 x2).wf = true → ∃ k, law21_WardSplits.f k x0 x1 x2 = some true := by
 intro l ns now il inn _
 refine Ev.rounds (r := true) ?_
 unfold law21_WardSplits.f
 refine Ev.bind alive21 ?_
 simp only [↓reduceIte]
 have out : Ev (fun k => law21_WardSplits.j0 k l ns now true) true := by
  refine Ev.step (fun k => by rw [law21_WardSplits.j0]) ?_
  simp only [↓reduceIte]
  exact Ev.now _
 by_cases hg : (l.length : Int) > 100
 ·simp only [hg, ↓reduceIte]; exact out
 ·simp only [hg, ↓reduceIte]
  by_cases hn : (ns.length : Int) > 100
  ·simp only [hn, decide_true]; exact out
  ·simp only [hn, decide_false]; exact splits_fin l ns now (by omega) (by omega)
end Go.Proofs.Ytonggencfnaheaa.Pl

/- A round in plain words: whom it asks, that nobody is asked twice, and that the document's way comes to the same. No program runs here. No condition. -/
import Derived.Test.YtjlemkdilbnmlaaPlCh
namespace Go.Proofs.Ytjlemkdilbnmlaa.Pl
open Go.RowKit Go.Proofs.Ytjlemkdilbnmlaa.P Go.Proofs.YtjlemkdilbnmlaaW.PrintWords Go.Proofs.YtjlemkdilbnmlaaW.PrintLast Go.Proofs.YtjlemkdilbnmlaaW.PrintMore
set_option linter.unusedSimpArgs false
set_option linter.unusedVariables false
/-- A question: who is chosen comes behind those that were asked, unless it is among them. -/
def addP (s : List Int) (x : Int) : List Int := if x ∈ s then s else s ++ [x]
def askP (s l : List Int) (d : Int) : List Int := if l = [] then s else addP s (pick l d)
def sdP (s l : List Int) : Bool := match s with | [] => false | x :: _ => decide (x ∈ l)
def oneP (l0 : List Int) (d0 : Int) : List Int := askP [] l0 d0
def twoP (l0 l1 : List Int) (d0 d1 : Int) : List Int := if d1 % ((l0.length : Int) + 1) < (l1.length : Int) then askP (oneP l0 d0) l1 d1 else oneP l0 d0
def roundP (l0 l1 l2 : List Int) (d0 d1 d2 : Int) : List Int :=
 if sdP (oneP l0 d0) l2 = true then (if (l0.length : Int) < (l2.length : Int) then askP (twoP l0 l1 d0 d1) l2 d2 else twoP l0 l1 d0 d1) else askP (twoP l0 l1 d0 d1) l2 d2
theorem add_len (s : List Int) (x : Int) : (addP s x).length ≤ s.length + 1 ∧ s.length ≤ (addP s x).length := by unfold addP; split <;> simp
theorem ask_len (s l : List Int) (d : Int) : (askP s l d).length ≤ s.length + 1 ∧ s.length ≤ (askP s l d).length := by
 unfold askP
 split
 ·omega
 ·exact add_len _ _
theorem add_nodup {s : List Int} (x : Int) (h : s.Nodup) : (addP s x).Nodup := by
 unfold addP
 split
 ·exact h
 ·rename_i hx
  rw [List.nodup_append]; refine ⟨h, by simp, fun a ha b hb e => ?_⟩; rw [List.mem_singleton] at hb; subst hb; subst e; exact hx ha
theorem ask_nodup {s : List Int} (l : List Int) (d : Int) (h : s.Nodup) : (askP s l d).Nodup := by
 unfold askP
 split
 ·exact h
 ·exact add_nodup _ h
theorem ask_mem {s l : List Int} {d x : Int} (h : x ∈ askP s l d) : x ∈ s ∨ x ∈ l := by
 unfold askP addP at h
 split at h
 ·exact .inl h
 ·rename_i hl
  split at h
  ·exact .inl h
  ·rcases List.mem_append.1 h with h | h
   ·exact .inl h
   ·rw [List.mem_singleton] at h; subst h; exact .inr (pick_mem d hl)
theorem ask_some {s l : List Int} (d : Int) (h : l ≠ []) : 0 < (askP s l d).length := by
 unfold askP addP
 rw [if_neg h]
 split
 ·rename_i hx
  exact List.length_pos_of_mem hx
 ·simp
theorem one_len (l0 : List Int) (d0 : Int) : (oneP l0 d0).length ≤ 1 := (ask_len [] l0 d0).1
theorem two_len (l0 l1 : List Int) (d0 d1 : Int) : (twoP l0 l1 d0 d1).length ≤ 2 ∧ (oneP l0 d0).length ≤ (twoP l0 l1 d0 d1).length := by
 have h := one_len l0 d0; have h2 := ask_len (oneP l0 d0) l1 d1
 unfold twoP
 split <;> omega
theorem round_len (l0 l1 l2 : List Int) (d0 d1 d2 : Int) : (roundP l0 l1 l2 d0 d1 d2).length ≤ 3 := by
 have h := (two_len l0 l1 d0 d1).1; have h2 := ask_len (twoP l0 l1 d0 d1) l2 d2
 unfold roundP
 split
 ·split <;> omega
 ·omega
theorem two_nodup (l0 l1 : List Int) (d0 d1 : Int) : (twoP l0 l1 d0 d1).Nodup := by
 have h : (oneP l0 d0).Nodup := ask_nodup _ _ List.nodup_nil
 unfold twoP
 split
 ·exact ask_nodup _ _ h
 ·exact h
theorem round_nodup (l0 l1 l2 : List Int) (d0 d1 d2 : Int) : (roundP l0 l1 l2 d0 d1 d2).Nodup := by
 have h := two_nodup l0 l1 d0 d1
 unfold roundP
 split
 ·split
  ·exact ask_nodup _ _ h
  ·exact h
 ·exact ask_nodup _ _ h
theorem two_mem {l0 l1 : List Int} {d0 d1 x : Int} (h : x ∈ twoP l0 l1 d0 d1) : x ∈ l0 ∨ x ∈ l1 := by
 have h1 : ∀ y, y ∈ oneP l0 d0 → y ∈ l0 := fun y hy => (ask_mem hy).resolve_left (by simp)
 unfold twoP at h
 split at h
 ·rcases ask_mem h with h | h
  ·exact .inl (h1 _ h)
  ·exact .inr h
 ·exact .inl (h1 _ h)
theorem round_mem {l0 l1 l2 : List Int} {d0 d1 d2 x : Int} (h : x ∈ roundP l0 l1 l2 d0 d1 d2) : x ∈ l0 ∨ x ∈ l1 ∨ x ∈ l2 := by
 have ht : ∀ y, y ∈ twoP l0 l1 d0 d1 → y ∈ l0 ∨ y ∈ l1 ∨ y ∈ l2 := fun y hy => (two_mem hy).elim .inl (fun h => .inr (.inl h))
 have ha : ∀ y, y ∈ askP (twoP l0 l1 d0 d1) l2 d2 → y ∈ l0 ∨ y ∈ l1 ∨ y ∈ l2 := fun y hy => (ask_mem hy).elim (ht y) (fun h => .inr (.inr h))
 unfold roundP at h
 split at h
 ·split at h
  ·exact ha _ h
  ·exact ht _ h
 ·exact ha _ h
theorem round_some (l0 l1 l2 : List Int) (d0 d1 d2 : Int) : 0 < (roundP l0 l1 l2 d0 d1 d2).length ∨ l0.length + l2.length = 0 := by
 have h2 := two_len l0 l1 d0 d1; have h3 := ask_len (twoP l0 l1 d0 d1) l2 d2
 by_cases hl : l0 = []
 ·have h0 : oneP l0 d0 = [] := by unfold oneP askP; rw [if_pos hl]
  by_cases hs : l2 = []
  ·exact .inr (by rw [hl, hs]; rfl)
  ·refine .inl ?_
   unfold roundP
   rw [h0]; simp only [sdP, Bool.false_eq_true, ↓reduceIte]; exact ask_some d2 hs
 ·have h1 : 0 < (oneP l0 d0).length := ask_some d0 hl; refine .inl ?_
  unfold roundP
  split
  ·split <;> omega
  ·omega
theorem ev_ask (s l : List Int) (d : Int) (hs : s.length < 1000) (hl : l.length ≤ 1000000) (h0 : 0 ≤ d) (h1 : d ≤ 4294967295) : Ev (fun k => choice_Round.ask k s l d) (askP s l d) := by
 unfold choice_Round.ask askP
 by_cases h : l = []
 ·subst h; simp only [One_nil, Option.bind_some, Bool.false_eq_true, ↓reduceIte]; exact Ev.now _
 ·simp only [One_is l d h hl h0 h1, Option.bind_some, h, ↓reduceIte]; refine Ev.bind (ev_Has s _ (by omega)) ?_
  unfold addP
  by_cases hm : pick l d ∈ s
  ·simp only [hm, decide_true, ↓reduceIte]; exact Ev.now _
  ·simp only [hm, hs, decide_false, Bool.false_eq_true, ↓reduceIte]; exact Ev.now _
theorem ev_Round (l0 l1 l2 : List Int) (d0 d1 d2 : Int) (hl0 : l0.length ≤ 1000000) (hl1 : l1.length ≤ 1000000) (hl2 : l2.length ≤ 1000000) (a0 : 0 ≤ d0 ∧ d0 ≤ 4294967295) (a1 : 0 ≤ d1 ∧ d1 ≤ 4294967295) (a2 : 0 ≤ d2 ∧ d2 ≤ 4294967295) :
  Ev (fun k => choice_Round.f k l0 l1 l2 d0 d1 d2) (roundP l0 l1 l2 d0 d1 d2) := by
 have g1 := one_len l0 d0; have g2 := (two_len l0 l1 d0 d1).1
 unfold choice_Round.f
 refine Ev.bind (a := oneP l0 d0) (ev_ask [] l0 d0 (by decide) hl0 a0.1 a0.2) ?_
 have hsd : Ev (fun k => choice_Round.seed k (oneP l0 d0) l2) (sdP (oneP l0 d0) l2) := by
  unfold choice_Round.seed
  generalize oneP l0 d0 = s
  cases s with
  | nil =>
   simp only [List.length_nil, Int.ofNat_eq_natCast, Int.natCast_zero, gt_iff_lt, Int.lt_irrefl, ↓reduceIte]; exact Ev.now _
  | cons x s =>
   have hp : ((x :: s).length : Int) > 0 := by simp only [List.length_cons]; omega
   simp only [hp, ↓reduceIte]; exact ev_Has l2 x hl2
 refine Ev.bind hsd ?_
 have hw : IntKind.u64.wrap (wrap64 ((l0.length : Int) + 1)) = (l0.length : Int) + 1 := by
  rw [wrap_id _ (by omega) (by omega)]; exact u_id _ (by omega) (by omega)
 have hz : ¬ (l0.length : Int) + 1 = 0 := by omega
 simp only [hw, hz, ↓reduceIte]
 have h2 : Ev (fun k => choice_Round.two k (oneP l0 d0) l0 l1 d1) (twoP l0 l1 d0 d1) := by
  unfold choice_Round.two twoP
  rw [hw, u_id d1 a1.1 (by omega), u_id (l1.length : Int) (by omega) (by omega), Int.tmod_eq_emod_of_nonneg a1.1]
  by_cases hc : d1 % ((l0.length : Int) + 1) < (l1.length : Int)
  ·simp only [hc, ↓reduceIte]; exact ev_ask _ _ _ (by omega) hl1 a1.1 a1.2
  ·simp only [hc, ↓reduceIte]; exact Ev.now _
 refine Ev.bind h2 ?_
 unfold choice_Round.three roundP
 have hask := ev_ask (twoP l0 l1 d0 d1) l2 d2 (by omega) hl2 a2.1 a2.2
 by_cases hs : sdP (oneP l0 d0) l2 = true
 ·simp only [hs, ↓reduceIte]
  by_cases hc : (l0.length : Int) < (l2.length : Int)
  ·simp only [hc, ↓reduceIte]; exact hask
  ·simp only [hc, ↓reduceIte]; exact Ev.now _
 ·simp only [hs, ↓reduceIte]; exact hask
end Go.Proofs.Ytjlemkdilbnmlaa.Pl

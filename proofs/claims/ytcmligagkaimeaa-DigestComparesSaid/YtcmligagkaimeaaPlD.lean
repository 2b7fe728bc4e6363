/- What digests of views say, and what one wants of them: plain words and what holds of them. No condition. -/
import Derived.Test.YtcmligagkaimeaaPl
namespace Go.Proofs.Ytcmligagkaimeaa.Pl
open Go.RowKit Go.Proofs.Ytcmligagkaimeaa.P Go.Proofs.YtcmligagkaimeaaW.PrintWords
set_option linter.unusedSimpArgs false
set_option linter.unusedVariables false
def ofN (x : Nm) : Dg := ⟨x.f0, x.f1.f0, TopS x.f1⟩
def Of (v : List Nm) : List Dg := v.map ofN
def lacks (a b : Dg) : List Dg := if b.f1 > a.f1 then [⟨b.f0, b.f1, 0⟩] else if b.f1 = a.f1 ∧ b.f2 > a.f2 then [a] else []
def wantsOf : Option Dg → Option Dg → List Dg
 | none, none => []
 | none, some d => [⟨d.f0, d.f1, 0⟩]
 | some _, none => []
 | some o, some d => lacks o d
/-- What is wanted and given, of two rising lists. -/
def cmp : List Dg → List Dg → List Dg × List Dg
 | [], l => (l.map (fun d => ⟨d.f0, d.f1, 0⟩), [])
 | own, [] => ([], own.map (fun d => ⟨d.f0, d.f1, 0⟩))
 | o :: own, d :: l =>
  if d.f0 < o.f0 then (⟨d.f0, d.f1, 0⟩ :: (cmp (o :: own) l).1, (cmp (o :: own) l).2)
  else if o.f0 < d.f0 then ((cmp own (d :: l)).1, ⟨o.f0, o.f1, 0⟩ :: (cmp own (d :: l)).2)
  else (lacks o d ++ (cmp own l).1, lacks d o ++ (cmp own l).2)
termination_by a b => a.length + b.length
theorem cmp_nil (l : List Dg) : cmp [] l = (l.map (fun d => ⟨d.f0, d.f1, 0⟩), []) := by rw [cmp]
theorem cmp_nil_r (own : List Dg) : cmp own [] = ([], own.map (fun d => ⟨d.f0, d.f1, 0⟩)) := by
 cases own with
 | nil => rw [cmp]; rfl
 | cons o own => rw [cmp]; simp
theorem cmp_cons (o d : Dg) (own l : List Dg) : cmp (o :: own) (d :: l) =
  if d.f0 < o.f0 then (⟨d.f0, d.f1, 0⟩ :: (cmp (o :: own) l).1, (cmp (o :: own) l).2)
  else if o.f0 < d.f0 then ((cmp own (d :: l)).1, ⟨o.f0, o.f1, 0⟩ :: (cmp own (d :: l)).2)
  else (lacks o d ++ (cmp own l).1, lacks d o ++ (cmp own l).2) := by rw [cmp]
/-- Turned round, what is wanted is what is given. -/
theorem cmp_turned (a b : List Dg) : cmp b a = ((cmp a b).2, (cmp a b).1) := by
 match a, b with
 | [], b => rw [cmp_nil, cmp_nil_r]
 | a, [] => rw [cmp_nil, cmp_nil_r]
 | o :: a, d :: b =>
  have h1 := cmp_turned (o :: a) b
  have h2 := cmp_turned a (d :: b)
  have h3 := cmp_turned a b
  rw [cmp_cons o d, cmp_cons d o]
  rcases Int.lt_trichotomy o.f0 d.f0 with h | h | h
  ·rw [if_pos h, if_neg (by omega), if_pos h, h2]
  ·rw [if_neg (by omega), if_neg (by omega), if_neg (by omega), if_neg (by omega), h3]
  ·rw [if_neg (by omega), if_pos h, if_pos h, h1]
termination_by a.length + b.length
theorem lacks_self (a : Dg) : lacks a a = [] := by unfold lacks; rw [if_neg (by omega), if_neg (by omega)]
theorem cmp_self (a : List Dg) : cmp a a = ([], []) := by
 induction a with
 | nil => rw [cmp_nil]; rfl
 | cons o a ih => rw [cmp_cons, if_neg (by omega), if_neg (by omega), ih, lacks_self]; rfl
theorem lacks_mem {a b x : Dg} (h : x ∈ lacks a b) : (x.f0 = b.f0 ∧ x.f1 = b.f1 ∧ x.f2 = 0) ∨ x = a := by
 unfold lacks at h
 split at h
 ·simp at h; subst h; exact .inl ⟨rfl, rfl, rfl⟩
 ·split at h
  ·simp at h; exact .inr h
  ·simp at h
theorem lacks_len (a b : Dg) : (lacks a b).length ≤ 1 := by
 unfold lacks
 split
 ·simp
 ·split <;> simp
/-- What may be: of a digest. -/
def OkD (x : Dg) : Prop := 0 ≤ x.f0 ∧ x.f0 < 8 ∧ 1 ≤ x.f1 ∧ x.f1 ≤ 1099511627776 ∧ 0 ≤ x.f2 ∧ x.f2 ≤ 1099511627776
theorem okD_zero {x : Dg} (h : OkD x) : OkD ⟨x.f0, x.f1, 0⟩ := by unfold OkD at *; simp; omega
theorem cmp_ok (a b : List Dg) (ha : Ris kD a) (hb : Ris kD b) (oa : ∀ x ∈ a, OkD x) (ob : ∀ x ∈ b, OkD x) :
  RightD (cmp a b).1 ∧ (∀ x ∈ (cmp a b).1, (∃ y ∈ a, x.f0 = y.f0) ∨ ∃ y ∈ b, x.f0 = y.f0) := by
 match a, b with
 | [], b =>
  rw [cmp_nil]
  refine ⟨⟨?_, ?_⟩, ?_⟩
  ·exact List.Pairwise.map _ (fun x y h => h) hb
  ·intro x hx
   obtain ⟨y, hy, rfl⟩ := List.mem_map.1 hx
   exact okD_zero (ob y hy)
  ·intro x hx
   obtain ⟨y, hy, rfl⟩ := List.mem_map.1 hx
   exact .inr ⟨y, hy, rfl⟩
 | a, [] =>
  rw [cmp_nil_r]
  exact ⟨⟨ris_nil, fun x hx => by simp at hx⟩, fun x hx => by simp at hx⟩
 | o :: a, d :: b =>
  rw [cmp_cons]
  rcases Int.lt_trichotomy o.f0 d.f0 with h | h | h
  ·rw [if_neg (by omega), if_pos h]
   obtain ⟨h1, h2⟩ := cmp_ok a (d :: b) (ris_tail ha) hb (fun x hx => oa x (by simp [hx])) ob
   refine ⟨h1, fun x hx => ?_⟩
   rcases h2 x hx with ⟨y, hy, e⟩ | h3
   ·exact .inl ⟨y, by simp [hy], e⟩
   ·exact .inr h3
  ·rw [if_neg (by omega), if_neg (by omega)]
   obtain ⟨h1, h2⟩ := cmp_ok a b (ris_tail ha) (ris_tail hb) (fun x hx => oa x (by simp [hx])) (fun x hx => ob x (by simp [hx]))
   have hk : ∀ x ∈ lacks o d, x.f0 = o.f0 ∧ OkD x := by
    intro x hx
    have h0 := ob d (by simp)
    rcases lacks_mem hx with ⟨e1, e2, e3⟩ | rfl
    ·refine ⟨by omega, ?_⟩
     unfold OkD at *; omega
    ·exact ⟨rfl, oa x (by simp)⟩
   have hgt : ∀ x ∈ (cmp a b).1, o.f0 < x.f0 := by
    intro x hx
    rcases h2 x hx with ⟨y, hy, e⟩ | ⟨y, hy, e⟩
    ·have : o.f0 < y.f0 := ris_head ha y hy
     omega
    ·have : d.f0 < y.f0 := ris_head hb y hy
     omega
   refine ⟨⟨?_, ?_⟩, ?_⟩
   ·refine List.pairwise_append.2 ⟨?_, h1.1, fun x hx y hy => ?_⟩
    ·have := lacks_len o d
     match hl : lacks o d, this with
     | [], _ => exact List.Pairwise.nil
     | [x], _ => exact List.pairwise_singleton _ x
    ·have e1 := (hk x hx).1
     have e2 := hgt y hy
     show x.f0 < y.f0
     omega
   ·intro x hx
    rcases List.mem_append.1 hx with hx | hx
    ·exact (hk x hx).2
    ·exact h1.2 x hx
   ·intro x hx
    rcases List.mem_append.1 hx with hx | hx
    ·exact .inl ⟨o, by simp, (hk x hx).1⟩
    ·rcases h2 x hx with ⟨y, hy, e⟩ | ⟨y, hy, e⟩
     ·exact .inl ⟨y, by simp [hy], e⟩
     ·exact .inr ⟨y, by simp [hy], e⟩
  ·rw [if_pos h]
   obtain ⟨h1, h2⟩ := cmp_ok (o :: a) b ha (ris_tail hb) oa (fun x hx => ob x (by simp [hx]))
   have hgt : ∀ x ∈ (cmp (o :: a) b).1, d.f0 < x.f0 := by
    intro x hx
    rcases h2 x hx with ⟨y, hy, e⟩ | ⟨y, hy, e⟩
    ·rcases List.mem_cons.1 hy with rfl | hy
     ·omega
     ·have : o.f0 < y.f0 := ris_head ha y hy
      omega
    ·have : d.f0 < y.f0 := ris_head hb y hy
     omega
   refine ⟨⟨ris_cons.2 ⟨fun y hy => hgt y hy, h1.1⟩, ?_⟩, ?_⟩
   ·intro x hx
    rcases List.mem_cons.1 hx with rfl | hx
    ·exact okD_zero (ob d (by simp))
    ·exact h1.2 x hx
   ·intro x hx
    rcases List.mem_cons.1 hx with rfl | hx
    ·exact .inr ⟨d, by simp, rfl⟩
    ·rcases h2 x hx with h3 | ⟨y, hy, e⟩
     ·exact .inl h3
     ·exact .inr ⟨y, by simp [hy], e⟩
termination_by a.length + b.length
theorem topS_range {s : St} (h : RightS s) : 0 ≤ TopS s ∧ TopS s ≤ 1099511627776 := by
 obtain ⟨_, _, h3, h4, _, h6⟩ := h
 unfold TopS
 refine ⟨Int.le_trans h3 (le_mx_l _ _), mx_le h4 (topE_le (by omega) (fun x hx => (h6 x hx).2.2.2.1))⟩
theorem of_right {v : List Nm} (h : RightV v) : RightD (Of v) := by
 refine ⟨List.Pairwise.map _ (fun x y h => h) h.1, fun x hx => ?_⟩
 obtain ⟨y, hy, rfl⟩ := List.mem_map.1 hx
 obtain ⟨h1, h2, h3⟩ := h.2 y hy
 have h4 := topS_range h3
 exact ⟨h1, h2, h3.1, h3.2.1, h4.1, h4.2⟩
/-- By nodes: what the merging says is what looking each node up says. -/
theorem cmp_nodes (m : Nat) : ∀ (n : Nat) (a b : List Dg), Ris kD a → Ris kD b → (∀ x ∈ a, (n : Int) ≤ x.f0 ∧ x.f0 < (n : Int) + m) → (∀ x ∈ b, (n : Int) ≤ x.f0 ∧ x.f0 < (n : Int) + m) →
  cmp a b = ((List.range' n m).flatMap (fun (k : Nat) => wantsOf (look kD a k) (look kD b k)), (List.range' n m).flatMap (fun (k : Nat) => wantsOf (look kD b k) (look kD a k))) := by
 induction m with
 | zero =>
  intro n a b _ _ ha hb
  have ea : a = [] := by cases a with | nil => rfl | cons x a => have := ha x (by simp); omega
  have eb : b = [] := by cases b with | nil => rfl | cons x b => have := hb x (by simp); omega
  subst ea eb
  rw [cmp_nil]; rfl
 | succ m ih =>
  intro n a b ra rb ha hb
  have step : ∀ (l : List Dg), Ris kD l → (∀ x ∈ l, (n : Int) ≤ x.f0 ∧ x.f0 < (n : Int) + (m + 1 : Nat)) → ∃ l', Ris kD l' ∧ (∀ x ∈ l', ((n + 1 : Nat) : Int) ≤ x.f0 ∧ x.f0 < ((n + 1 : Nat) : Int) + m) ∧ (∀ k : Nat, n < k → look kD l k = look kD l' k) ∧
    ((l = l' ∧ look kD l n = none) ∨ ∃ x, l = x :: l' ∧ x.f0 = n ∧ look kD l n = some x) := by
   intro l hr hl
   cases l with
   | nil => exact ⟨[], ris_nil, fun x hx => by simp at hx, fun _ _ => rfl, .inl ⟨rfl, rfl⟩⟩
   | cons x l =>
    have hx := hl x (by simp)
    by_cases e : x.f0 = n
    ·refine ⟨l, ris_tail hr, fun y hy => ?_, fun k hk => ?_, .inr ⟨x, rfl, e, ?_⟩⟩
     ·have h1 : x.f0 < y.f0 := ris_head hr y hy
      have h2 := hl y (by simp [hy])
      omega
     ·rw [look_cons, if_neg (by show ¬ x.f0 = _; omega)]
     ·rw [look_cons, if_pos (show kD x = (n : Int) from e)]
    ·refine ⟨x :: l, hr, fun y hy => ?_, fun _ _ => rfl, .inl ⟨rfl, look_none.2 (fun y hy => ?_)⟩⟩
     ·have h2 := hl y hy
      rcases List.mem_cons.1 hy with rfl | hy'
      ·omega
      ·have h1 : x.f0 < y.f0 := ris_head hr y hy'
       omega
     ·show y.f0 ≠ _
      rcases List.mem_cons.1 hy with rfl | hy'
      ·exact e
      ·have h1 : x.f0 < y.f0 := ris_head hr y hy'
       omega
  obtain ⟨a', ra', ha', la, ca⟩ := step a ra ha
  obtain ⟨b', rb', hb', lb, cb⟩ := step b rb hb
  have hrest := ih (n + 1) a' b' ra' rb' ha' hb'
  have f1 : ∀ k ∈ List.range' (n + 1) m, wantsOf (look kD a k) (look kD b k) = wantsOf (look kD a' k) (look kD b' k) := fun k hk => by
   have := (List.mem_range'_1.1 hk).1
   rw [la k (by omega), lb k (by omega)]
  have f2 : ∀ k ∈ List.range' (n + 1) m, wantsOf (look kD b k) (look kD a k) = wantsOf (look kD b' k) (look kD a' k) := fun k hk => by
   have := (List.mem_range'_1.1 hk).1
   rw [la k (by omega), lb k (by omega)]
  rw [List.range'_succ, List.flatMap_cons, List.flatMap_cons]
  have g1 : ∀ (F G : Nat → List Dg), (∀ k ∈ List.range' (n + 1) m, F k = G k) → (List.range' (n + 1) m).flatMap F = (List.range' (n + 1) m).flatMap G := by
   intro F G h
   rw [List.flatMap_def, List.flatMap_def, List.map_congr_left h]
  rw [g1 _ _ f1, g1 _ _ f2]
  have e1 : (cmp a' b').1 = (List.range' (n + 1) m).flatMap (fun (k : Nat) => wantsOf (look kD a' k) (look kD b' k)) := by rw [hrest]
  have e2 : (cmp a' b').2 = (List.range' (n + 1) m).flatMap (fun (k : Nat) => wantsOf (look kD b' k) (look kD a' k)) := by rw [hrest]
  rw [← e1, ← e2]
  rcases ca with ⟨rfl, na⟩ | ⟨x, rfl, hx, na⟩ <;> rcases cb with ⟨rfl, nb⟩ | ⟨y, rfl, hy, nb⟩
  ·rw [na, nb]; simp [wantsOf]
  ·rw [na, nb]
   show cmp a (y :: b') = _
   match a, ha' with
   | [], _ => rw [cmp_nil, cmp_nil]; simp [wantsOf]
   | x :: a, ha' => have := ha' x (by simp); rw [cmp_cons, if_pos (by omega)]; simp [wantsOf]
  ·rw [na, nb]
   show cmp (x :: a') b = _
   match b, hb' with
   | [], _ => rw [cmp_nil_r, cmp_nil_r]; simp [wantsOf]
   | y :: b, hb' => have := hb' y (by simp); rw [cmp_cons, if_neg (by omega), if_pos (by omega)]; simp [wantsOf]
  ·rw [na, nb, cmp_cons, if_neg (by omega), if_neg (by omega)]; rfl
end Go.Proofs.Ytcmligagkaimeaa.Pl

/- Plain words of this seat's laws: rounds, places in lists, rising lists, tables of entries. No program runs here. No condition. -/
import Derived.Test.YtpccnpgigmcfoaaP0
import Derived.Test.YtpccnpgigmcfoaaW
namespace Go.Proofs.Ytpccnpgigmcfoaa.Pl
open Go.RowKit Go.Proofs.Ytpccnpgigmcfoaa.P Go.Proofs.YtpccnpgigmcfoaaW.PrintWords Go.Proofs.YtpccnpgigmcfoaaW.PrintLast Go.Proofs.YtpccnpgigmcfoaaW.PrintMore
set_option linter.unusedSimpArgs false
set_option linter.unusedVariables false
abbrev E := S30
/-! ### rounds and places -/
theorem wrap_id (x : Int) (h0 : -9223372036854775808 ≤ x) (h1 : x ≤ 9223372036854775807) : wrap64 x = x := by unfold wrap64; omega
theorem wrap_nat (n : Nat) (h : n < 9223372036854775807) : wrap64 ((n : Int) + 1) = ((n + 1 : Nat) : Int) := by unfold wrap64; omega
theorem getD_mid {α : Type} (z : α) (pre : List α) (x : α) (suf : List α) : (pre ++ x :: suf).getD ((pre.length : Nat) : Int).toNat z = x := by
 simp [List.getD_eq_getElem?_getD]
theorem rdE (pre : List E) (x : E) (suf : List E) : rd_T30 (pre ++ x :: suf) ((pre.length : Nat) : Int) = x := getD_mid _ pre x suf
theorem rdI (pre : List Int) (x : Int) (suf : List Int) : rd (pre ++ x :: suf) ((pre.length : Nat) : Int) = x := getD_mid _ pre x suf
theorem rdE0 (x : E) (suf : List E) : rd_T30 (x :: suf) 0 = x := rfl
theorem mid_lt {α : Type} (pre : List α) (x : α) (suf : List α) : ((pre.length : Nat) : Int) < ((pre ++ x :: suf).length : Int) := by simp <;> omega
theorem end_ge {α : Type} (pre : List α) : ¬ ((pre.length : Nat) : Int) < ((pre ++ ([] : List α)).length : Int) := by simp
theorem nat_ge {α : Type} (pre : List α) : (0 : Int) ≤ ((pre.length : Nat) : Int) := Int.natCast_nonneg _
theorem mid_next {α : Type} (pre : List α) (x : α) (suf : List α) (h : (pre ++ x :: suf).length < 9223372036854775807) : wrap64 (((pre.length : Nat) : Int) + 1) = (((pre ++ [x]).length : Nat) : Int) := by
 rw [wrap_nat _ (by simp at h; omega), List.length_append]; rfl
theorem mid_prev {α : Type} (pre : List α) (y x : α) (suf : List α) (h : ((pre ++ [y]) ++ x :: suf).length < 9223372036854775807) : wrap64 ((((pre ++ [y]).length : Nat) : Int) - 1) = ((pre.length : Nat) : Int) := by
 rw [wrap_id _ (by omega) (by have := h; simp only [List.length_append, List.length_cons, List.length_nil] at *; omega), List.length_append, List.length_singleton]; omega
theorem Ev.nowk {α : Type} (r : α) : Ev (fun _ : Nat => some r) r := Ev.now r
/-- From 'it comes to r' to 'there are rounds'. -/
theorem Ev.get {α : Type} {g : Nat → Option α} {r : α} (h : Ev g r) : ∃ k, g k = some r := h.rounds
theorem Ev.cast {α : Type} {g : Nat → Option α} {r r' : α} (h : Ev g r) (e : r = r') : Ev g r' := e ▸ h
/-! ### rising lists, looked up by a key -/
section
variable {α : Type} (key : α → Int)
def Ris (l : List α) : Prop := l.Pairwise (fun a b => key a < key b)
def look (l : List α) (k : Int) : Option α := l.find? (fun x => key x == k)
variable {key}
theorem ris_nil : Ris key [] := List.Pairwise.nil
theorem ris_cons {x : α} {l : List α} : Ris key (x :: l) ↔ (∀ y ∈ l, key x < key y) ∧ Ris key l := List.pairwise_cons
theorem ris_tail {x : α} {l : List α} (h : Ris key (x :: l)) : Ris key l := (ris_cons.1 h).2
theorem ris_head {x : α} {l : List α} (h : Ris key (x :: l)) : ∀ y ∈ l, key x < key y := (ris_cons.1 h).1
theorem ris_filter {l : List α} (p : α → Bool) (h : Ris key l) : Ris key (l.filter p) := List.Pairwise.filter p h
theorem look_nil (k : Int) : look key ([] : List α) k = none := rfl
theorem look_cons (x : α) (l : List α) (k : Int) : look key (x :: l) k = if key x = k then some x else look key l k := by
 unfold look
 by_cases h : key x = k
 ·simp [h]
 ·simp [h]
theorem look_mem {l : List α} {k : Int} {x : α} (h : look key l k = some x) : x ∈ l ∧ key x = k := by
 unfold look at h
 exact ⟨List.mem_of_find?_eq_some h, by simpa using List.find?_some h⟩
theorem look_none {l : List α} {k : Int} : look key l k = none ↔ ∀ x ∈ l, key x ≠ k := by
 unfold look
 simp
theorem look_lt {l : List α} {k : Int} (h : ∀ y ∈ l, k < key y) : look key l k = none := look_none.2 (fun x hx => by have := h x hx; omega)
theorem look_of_mem {l : List α} {x : α} (hr : Ris key l) (hx : x ∈ l) : look key l (key x) = some x := by
 induction l with
 | nil => simp at hx
 | cons y l ih =>
  rw [look_cons]
  rcases List.mem_cons.1 hx with rfl | hx
  ·simp
  ·have := ris_head hr x hx
   rw [if_neg (by omega)]
   exact ih (ris_tail hr) hx
/-- Two rising lists in which the same is found are the same. -/
theorem ris_ext : ∀ {a b : List α}, Ris key a → Ris key b → (∀ k, look key a k = look key b k) → a = b
 | [], [], _, _, _ => rfl
 | [], y :: b, _, _, h => by
  have := h (key y)
  rw [look_cons, if_pos rfl] at this
  simp [look_nil] at this
 | x :: a, [], _, _, h => by
  have := h (key x)
  rw [look_cons, if_pos rfl] at this
  simp [look_nil] at this
 | x :: a, y :: b, ha, hb, h => by
  have hxy : key x = key y := by
   rcases Int.lt_trichotomy (key x) (key y) with hlt | he | hgt
   ·have h1 := h (key x)
    rw [look_cons, if_pos rfl, look_cons, if_neg (by omega), look_lt (fun z hz => by have := ris_head hb z hz; omega)] at h1
    simp at h1
   ·exact he
   ·have h1 := h (key y)
    rw [look_cons, if_neg (by omega), look_lt (fun z hz => by have := ris_head ha z hz; omega), look_cons, if_pos rfl] at h1
    simp at h1
  have hx : x = y := by
   have h1 := h (key x)
   rw [look_cons, if_pos rfl, look_cons, if_pos hxy.symm] at h1
   exact Option.some.inj h1
  subst hx
  rw [ris_ext (ris_tail ha) (ris_tail hb) (fun k => by
   by_cases hk : key x = k
   ·rw [look_lt (fun z hz => by have := ris_head ha z hz; omega), look_lt (fun z hz => by have := ris_head hb z hz; omega)]
   ·have h1 := h k
    rw [look_cons, if_neg hk, look_cons, if_neg hk] at h1
    exact h1)]
/-- A rising list whose keys are from 0 to below n has at most n elements. -/
theorem ris_length (n : Nat) : ∀ (l : List α) (m : Nat), Ris key l → (∀ x ∈ l, (m : Int) ≤ key x ∧ key x < (m : Int) + n) → l.length ≤ n := by
 induction n with
 | zero =>
  intro l m _ h
  match l with
  | [] => exact Nat.le_refl _
  | x :: l => have := h x (by simp); omega
 | succ n ih =>
  intro l m hr h
  match l with
  | [] => simp
  | x :: l =>
   have h1 := ih l (m + 1) (ris_tail hr) (fun y hy => by
    have h2 := h y (by simp [hy]); have h3 := ris_head hr y hy; have h4 := h x (by simp); omega)
   simp; omega
end
theorem bool_iff {a b : Bool} {p : Prop} (ha : a = true ↔ p) (hb : b = true ↔ p) : a = b := by
 cases a <;> cases b <;> simp_all
/-! ### tables of entries -/
def MayE (x : E) : Prop := 0 ≤ x.f0 ∧ x.f0 < 12 ∧ 1 ≤ x.f1 ∧ x.f1 ≤ 1099511627776 ∧ x.f2.size ≤ 200
def kE (x : E) : Int := x.f0
def RightE (l : List E) : Prop := Ris kE l ∧ ∀ x ∈ l, MayE x
def TopE (l : List E) : Int := l.foldl (fun t x => mx t x.f1) 0
theorem mx_eq (a b : Int) : mx a b = max a b := by unfold mx; rw [Int.max_def]; split <;> split <;> omega
theorem mx_le {a b c : Int} (h1 : a ≤ c) (h2 : b ≤ c) : mx a b ≤ c := by unfold mx; split <;> omega
theorem le_mx_l (a b : Int) : a ≤ mx a b := by unfold mx; split <;> omega
theorem le_mx_r (a b : Int) : b ≤ mx a b := by unfold mx; split <;> omega
theorem mx_or (a b : Int) : mx a b = a ∨ mx a b = b := by unfold mx; split <;> simp
theorem topF (l : List E) : ∀ t : Int, t ≤ l.foldl (fun t x => mx t x.f1) t ∧ (∀ x ∈ l, x.f1 ≤ l.foldl (fun t x => mx t x.f1) t) ∧ (l.foldl (fun t x => mx t x.f1) t = t ∨ ∃ x ∈ l, l.foldl (fun t x => mx t x.f1) t = x.f1) := by
 induction l with
 | nil => intro t; simp
 | cons x l ih =>
  intro t
  obtain ⟨h1, h2, h3⟩ := ih (mx t x.f1)
  simp only [List.foldl_cons]
  refine ⟨Int.le_trans (le_mx_l _ _) h1, fun y hy => ?_, ?_⟩
  ·rcases List.mem_cons.1 hy with rfl | hy
   ·exact Int.le_trans (le_mx_r _ _) h1
   ·exact h2 y hy
  ·rcases h3 with h3 | ⟨y, hy, h3⟩
   ·rcases mx_or t x.f1 with h4 | h4
    ·exact .inl (h3.trans h4)
    ·exact .inr ⟨x, by simp, h3.trans h4⟩
   ·exact .inr ⟨y, by simp [hy], h3⟩
theorem topE_nonneg (l : List E) : 0 ≤ TopE l := (topF l 0).1
theorem topE_ge (l : List E) : ∀ x ∈ l, x.f1 ≤ TopE l := (topF l 0).2.1
theorem topE_is (l : List E) : TopE l = 0 ∨ ∃ x ∈ l, TopE l = x.f1 := (topF l 0).2.2
theorem topE_le {l : List E} {n : Int} (h0 : 0 ≤ n) (h : ∀ x ∈ l, x.f1 ≤ n) : TopE l ≤ n := by
 rcases topE_is l with e | ⟨x, hx, e⟩
 ·omega
 ·rw [e]; exact h x hx
end Go.Proofs.Ytpccnpgigmcfoaa.Pl

/- choice.Rising in plain words: what rises strictly, and has just the members that there were. No program runs here. No condition. -/
import Derived.Lib.SlicesCompact
namespace Go.Proofs.Pl14
open Go.Proofs
def risP (l : List Int) : List Int := Lib.compact (l.mergeSort (fun x y => decide (x ≤ y)))
theorem cu_facts (d : Array Int) (hs : ∀ i j, i ≤ j → j < d.size → d[i]! ≤ d[j]!) : ∀ m, m ≤ d.size →
  (Lib.compactUpTo d m).Pairwise (· < ·) ∧ (∀ x ∈ Lib.compactUpTo d m, ∃ i, i < m ∧ x = d[i]!) ∧ ∀ i, i < m → d[i]! ∈ Lib.compactUpTo d m
 | 0, _ => by
  refine ⟨?_, ?_, fun i hi => absurd hi (Nat.not_lt_zero _)⟩
  ·simp [Lib.compactUpTo]
  ·simp [Lib.compactUpTo]
 | m + 1, hm => by
  obtain ⟨h1, h2, h3⟩ := cu_facts d hs m (by omega); rw [Lib.compactUpTo_succ]
  by_cases hk : Lib.keeps d m = true
  ·rw [if_pos hk]; refine ⟨?_, ?_, ?_⟩
   ·rw [List.pairwise_append]; refine ⟨h1, List.pairwise_singleton _ _, fun x hx y hy => ?_⟩; rw [List.mem_singleton.1 hy]; obtain ⟨i, hi, rfl⟩ := h2 x hx
    have hk' : m = 0 ∨ d[m]! ≠ d[m - 1]! := by simpa [Lib.keeps] using hk
    rcases hk' with h0 | h0
    ·omega
    ·have a1 := hs i (m - 1) (by omega) (by omega); have a2 := hs (m - 1) m (by omega) (by omega)
     omega
   ·intro x hx
    rcases List.mem_append.1 hx with hx | hx
    ·obtain ⟨i, hi, e⟩ := h2 x hx; exact ⟨i, by omega, e⟩
    ·exact ⟨m, by omega, List.mem_singleton.1 hx⟩
   ·intro i hi
    by_cases he : i = m
    ·subst he; simp
    ·exact List.mem_append.2 (.inl (h3 i (by omega)))
  ·rw [if_neg hk, List.append_nil]; refine ⟨h1, fun x hx => ?_, fun i hi => ?_⟩
   ·obtain ⟨i, hi, e⟩ := h2 x hx; exact ⟨i, by omega, e⟩
   ·by_cases he : i = m
    ·subst he
     have hk' : ¬ (i = 0 ∨ d[i]! ≠ d[i - 1]!) := by simpa [Lib.keeps] using hk
     have h0 : i ≠ 0 := fun e => hk' (.inl e)
     have h4 : d[i]! = d[i - 1]! := by
      by_cases h5 : d[i]! = d[i - 1]!
      ·exact h5
      ·exact absurd (.inr h5) hk'
     rw [h4]; exact h3 (i - 1) (by omega)
    ·exact h3 i (by omega)
theorem ris_facts (l : List Int) : (risP l).Pairwise (· < ·) ∧ ∀ x, x ∈ risP l ↔ x ∈ l := by
 have hp : (l.mergeSort (fun x y => decide (x ≤ y))).Pairwise (fun a b => decide (a ≤ b) = true) :=
  List.pairwise_mergeSort (fun a b c h1 h2 => by simp only [decide_eq_true_eq] at *; omega) (fun a b => by simp only [Bool.or_eq_true, decide_eq_true_eq]; omega) l
 have hmem : ∀ x, x ∈ l.mergeSort (fun x y => decide (x ≤ y)) ↔ x ∈ l := fun x => List.mem_mergeSort
 unfold risP Lib.compact
 generalize l.mergeSort (fun x y => decide (x ≤ y)) = zs at hp hmem
 have hs : ∀ i j, i ≤ j → j < zs.toArray.size → zs.toArray[i]! ≤ zs.toArray[j]! := by
  intro i j hij hj
  have hj' : j < zs.length := by simpa using hj
  rw [getElem!_pos zs.toArray i (by simp; omega), getElem!_pos zs.toArray j hj]; simp only [List.getElem_toArray]
  rcases Nat.lt_or_ge i j with h | h
  ·have := (List.pairwise_iff_getElem.1 hp) i j (by omega) hj' h
   simpa using this
  ·have : i = j := by omega
   subst this; exact Int.le_refl _
 obtain ⟨h1, h2, h3⟩ := cu_facts zs.toArray hs zs.length (by simp); refine ⟨h1, fun x => ⟨fun hx => ?_, fun hx => ?_⟩⟩
 ·obtain ⟨i, hi, rfl⟩ := h2 x hx; rw [getElem!_pos zs.toArray i (by simpa using hi)]; exact (hmem _).1 (by simp)
 ·obtain ⟨i, hi, e⟩ := List.getElem_of_mem ((hmem x).2 hx); have := h3 i hi; rw [getElem!_pos zs.toArray i (by simpa using hi)] at this
  simpa [e] using this
theorem cu_len (d : Array Int) : ∀ m, (Lib.compactUpTo d m).length ≤ m
 | 0 => by simp [Lib.compactUpTo]
 | m + 1 => by
  have := cu_len d m; rw [Lib.compactUpTo_succ, List.length_append]
  split <;> simp <;> omega
theorem ris_len (l : List Int) : (risP l).length ≤ l.length := by
 unfold risP Lib.compact
 refine Nat.le_trans (cu_len _ _) ?_
 simp
/-- Two lists that rise strictly and have the same members are the same. -/
theorem ris_unique : ∀ {a b : List Int}, a.Pairwise (· < ·) → b.Pairwise (· < ·) → (∀ x, x ∈ a ↔ x ∈ b) → a = b
 | [], [], _, _, _ => rfl
 | [], y :: b, _, _, h => absurd ((h y).2 (by simp)) (by simp)
 | x :: a, [], _, _, h => absurd ((h x).1 (by simp)) (by simp)
 | x :: a, y :: b, ha, hb, h => by
  obtain ⟨a1, a2⟩ := List.pairwise_cons.1 ha; obtain ⟨b1, b2⟩ := List.pairwise_cons.1 hb
  have hxy : x = y := by
   rcases List.mem_cons.1 ((h x).1 (by simp)) with e | e
   ·exact e
   ·rcases List.mem_cons.1 ((h y).2 (by simp)) with e2 | e2
    ·exact e2.symm
    ·have := b1 x e; have := a1 y e2; omega
  subst hxy; rw [ris_unique a2 b2 (fun z => ⟨fun hz => ?_, fun hz => ?_⟩)]
  ·rcases List.mem_cons.1 ((h z).1 (by simp [hz])) with e | e
   ·have := a1 z hz; omega
   ·exact e
  ·rcases List.mem_cons.1 ((h z).2 (by simp [hz])) with e | e
   ·have := b1 z hz; omega
   ·exact e
def insP : List Int → Int → List Int
 | [], x => [x]
 | y :: r, x => if y < x then y :: insP r x else if y = x then y :: r else x :: y :: r
theorem ins_mem (x z : Int) : ∀ out : List Int, z ∈ insP out x ↔ z = x ∨ z ∈ out
 | [] => by simp [insP]
 | y :: r => by
  unfold insP
  split
  ·rw [List.mem_cons, ins_mem x z r, List.mem_cons]
   constructor
   ·rintro (h | h | h)
    ·exact .inr (.inl h)
    ·exact .inl h
    ·exact .inr (.inr h)
   ·rintro (h | h | h)
    ·exact .inr (.inl h)
    ·exact .inl h
    ·exact .inr (.inr h)
  ·split
   ·rename_i h
    subst h
    simp
   ·simp
theorem ins_rises (x : Int) : ∀ {out : List Int}, out.Pairwise (· < ·) → (insP out x).Pairwise (· < ·)
 | [], _ => List.pairwise_singleton _ _
 | y :: r, h => by
  obtain ⟨h1, h2⟩ := List.pairwise_cons.1 h
  unfold insP
  split
  ·rename_i hlt
   refine List.pairwise_cons.2 ⟨fun z hz => ?_, ins_rises x h2⟩
   rcases (ins_mem x z r).1 hz with e | e
   ·omega
   ·exact h1 z e
  ·split
   ·exact h
   ·refine List.pairwise_cons.2 ⟨fun z hz => ?_, h⟩
    rcases List.mem_cons.1 hz with e | e
    ·omega
    ·have := h1 z e; omega
theorem fold_facts : ∀ (l out : List Int), out.Pairwise (· < ·) → (l.foldl insP out).Pairwise (· < ·) ∧ ∀ z, z ∈ l.foldl insP out ↔ z ∈ l ∨ z ∈ out
 | [], out, h => ⟨h, fun z => by simp⟩
 | x :: l, out, h => by
  obtain ⟨h1, h2⟩ := fold_facts l (insP out x) (ins_rises x h); refine ⟨h1, fun z => ?_⟩; rw [List.foldl_cons, h2, ins_mem, List.mem_cons]
  constructor
  ·rintro (h | h | h)
   ·exact .inl (.inr h)
   ·exact .inl (.inl h)
   ·exact .inr h
  ·rintro ((h | h) | h)
   ·exact .inr (.inl h)
   ·exact .inl h
   ·exact .inr (.inr h)
theorem fold_is (l : List Int) : l.foldl insP [] = risP l := by
 obtain ⟨h1, h2⟩ := fold_facts l [] List.Pairwise.nil; obtain ⟨h3, h4⟩ := ris_facts l; exact ris_unique h1 h3 (fun z => by rw [h2, h4]; simp)
theorem ris_again (l : List Int) : risP (risP l) = risP l := by
 obtain ⟨h1, h2⟩ := ris_facts l; obtain ⟨h3, h4⟩ := ris_facts (risP l); exact ris_unique h3 h1 (fun z => h4 z)
/-- Where it goes: behind all that are lower. -/
def kP (out : List Int) (x : Int) : Nat := (out.takeWhile (fun y => decide (y < x))).length
theorem ins_at (x : Int) : ∀ out : List Int, insP out x = if (out.drop (kP out x)).head? = some x then out else out.take (kP out x) ++ x :: out.drop (kP out x)
 | [] => by simp [insP, kP]
 | y :: r => by
  unfold insP kP
  by_cases h : y < x
  ·have ih := ins_at x r
   unfold kP at ih
   rw [if_pos h, ih]; simp only [List.takeWhile_cons, decide_eq_true h, ↓reduceIte, List.length_cons, List.drop_succ_cons, List.take_succ_cons]
   split <;> simp
  ·simp only [if_neg h, List.takeWhile_cons, decide_eq_false h, Bool.false_eq_true, ↓reduceIte, List.length_nil, List.drop_zero, List.take_zero, List.head?_cons, Option.some.injEq, List.nil_append]
end Go.Proofs.Pl14

/- Plain words of choice: what is there, what is the same, whom a draw chooses. No program runs here. No condition. -/
import Derived.Test.YtjlemkdilbnmlaaPChoiceRound
import Derived.Test.YtjlemkdilbnmlaaPChoiceOne
import Derived.IntWalk
namespace Go.Proofs.Ytjlemkdilbnmlaa.Pl
open Go.RowKit Go.Proofs.Ytjlemkdilbnmlaa.P Go.Proofs.YtjlemkdilbnmlaaW.PrintWords Go.Proofs.YtjlemkdilbnmlaaW.PrintLast Go.Proofs.YtjlemkdilbnmlaaW.PrintMore
set_option linter.unusedSimpArgs false
set_option linter.unusedVariables false
theorem wrap_id (x : Int) (h0 : -9223372036854775808 ≤ x) (h1 : x ≤ 9223372036854775807) : wrap64 x = x := by unfold wrap64; omega
theorem u_id (x : Int) (h0 : 0 ≤ x) (h1 : x ≤ 18446744073709551615) : IntKind.u64.wrap x = x := IntWalk.u64_in x ⟨h0, h1⟩
theorem wrap_nat (n : Nat) (h : n < 9223372036854775807) : wrap64 ((n : Int) + 1) = ((n + 1 : Nat) : Int) := by unfold wrap64; omega
theorem getD_mid {α : Type} (z : α) (pre : List α) (x : α) (suf : List α) : (pre ++ x :: suf).getD ((pre.length : Nat) : Int).toNat z = x := by
 simp [List.getD_eq_getElem?_getD]
theorem rdI (pre : List Int) (x : Int) (suf : List Int) : rd (pre ++ x :: suf) ((pre.length : Nat) : Int) = x := getD_mid _ pre x suf
theorem mid_lt {α : Type} (pre : List α) (x : α) (suf : List α) : ((pre.length : Nat) : Int) < ((pre ++ x :: suf).length : Int) := by simp <;> omega
theorem nat_ge {α : Type} (pre : List α) : (0 : Int) ≤ ((pre.length : Nat) : Int) := Int.natCast_nonneg _
theorem mid_next {α : Type} (pre : List α) (x : α) (suf : List α) (h : (pre ++ x :: suf).length < 9223372036854775807) : wrap64 (((pre.length : Nat) : Int) + 1) = (((pre ++ [x]).length : Nat) : Int) := by
 rw [wrap_nat _ (by simp at h; omega), List.length_append]; rfl
theorem Ev.cast {α : Type} {g : Nat → Option α} {r r' : α} (h : Ev g r) (e : r = r') : Ev g r' := e ▸ h
theorem alive14 : Ev (fun k => law14_alive.f k) true := by
 refine Ev.of (fun k => law14_alive.mono k) (k := 60) ?_
 have hs_ : ([3, 1, 3] : List Int).mergeSort (fun x y => decide (x ≤ y)) = [1, 3, 3] := by simp [List.mergeSort, List.MergeSort.Internal.splitInTwo]
 have h14_ : choice_Rising.f ([3, 1, 3] : List Int) = some [1, 3] := by
  unfold choice_Rising.f Go.Proofs.Ytjlemkdilbnmlaa.risL
  rw [if_pos (by decide), hs_]
  decide +kernel
 unfold law14_alive.f
 simp only [h14_]
 decide +kernel
theorem index_l (l : List Int) (n : Int) (hl : l.length ≤ 1000000) : ∀ (suf pre : List Int), pre ++ suf = l →
  ∃ r : Int, Ev (fun k => slices_Index_int_int.l0 k l n (l.length : Int) (pre.length : Int)) r ∧ decide (r ≥ 0) = decide (n ∈ suf)
 | [], pre, e => by
  have e' : pre = l := by simpa using e
  subst e'; refine ⟨-1, Ev.step (fun k => by rw [slices_Index_int_int.l0]) ?_, by simp⟩; simp only [Int.lt_irrefl, ↓reduceIte]; exact Ev.now _
 | x :: suf, pre, e => by
  have h1 : ((pre.length : Nat) : Int) < (l.length : Int) := by rw [← e]; exact mid_lt pre x suf
  have h2 : rd l ((pre.length : Nat) : Int) = x := by rw [← e]; exact rdI pre x suf
  have h3 : wrap64 (((pre.length : Nat) : Int) + 1) = (((pre ++ [x]).length : Nat) : Int) := mid_next pre x suf (by rw [e]; omega)
  by_cases hx : n = x
  ·refine ⟨(pre.length : Int), Ev.step (fun k => by rw [slices_Index_int_int.l0]) ?_, ?_⟩
   ·simp only [h1, nat_ge pre, h2, hx, ↓reduceIte]; exact Ev.now _
   ·rw [decide_eq_true (nat_ge pre), decide_eq_true (by simp [hx])]
  ·obtain ⟨r, h4, h5⟩ := index_l l n hl suf (pre ++ [x]) (by simp [← e]); refine ⟨r, Ev.step (fun k => by rw [slices_Index_int_int.l0]) ?_, ?_⟩
   ·simp only [h1, nat_ge pre, h2, hx, h3, ↓reduceIte]; exact h4
   ·rw [h5]
    simp [hx]
theorem ev_Has (l : List Int) (n : Int) (hl : l.length ≤ 1000000) : Ev (fun k => choice_Has.f k l n) (decide (n ∈ l)) := by
 obtain ⟨r, h1, h2⟩ := index_l l n hl l [] rfl
 unfold choice_Has.f slices_Contains_int_int.f slices_Index_int_int.f
 refine Ev.bind (a := decide (n ∈ l)) (Ev.bind h1 ?_) (Ev.now _); rw [h2]; exact Ev.now _
theorem rhas_l (l : List Int) (n : Int) (hl : l.length ≤ 1000000) : ∀ (suf pre : List Int), pre ++ suf = l →
  Ev (fun k => ref14_Has.l0 k l n (pre.length : Int)) (decide (n ∈ suf))
 | [], pre, e => by
  have e' : pre = l := by simpa using e
  subst e'; refine Ev.step (fun k => by rw [ref14_Has.l0]) ?_; simp only [Int.lt_irrefl, ↓reduceIte]; exact Ev.cast (Ev.now _) (by simp)
 | x :: suf, pre, e => by
  have h1 : ((pre.length : Nat) : Int) < (l.length : Int) := by rw [← e]; exact mid_lt pre x suf
  have h2 : rd l ((pre.length : Nat) : Int) = x := by rw [← e]; exact rdI pre x suf
  have h3 : wrap64 (((pre.length : Nat) : Int) + 1) = (((pre ++ [x]).length : Nat) : Int) := mid_next pre x suf (by rw [e]; omega); refine Ev.step (fun k => by rw [ref14_Has.l0]) ?_; simp only [h1, nat_ge pre, h2, h3, ↓reduceIte]
  by_cases hx : x = n
  ·simp only [hx, ↓reduceIte]; exact Ev.cast (Ev.now _) (by simp)
  ·simp only [hx, ↓reduceIte]; refine Ev.cast (rhas_l l n hl suf (pre ++ [x]) (by simp [← e])) ?_
   have : ¬ n = x := fun h => hx h.symm
   simp [this]
theorem ev_rHas (l : List Int) (n : Int) (hl : l.length ≤ 1000000) : Ev (fun k => ref14_Has.f k l n) (decide (n ∈ l)) := rhas_l l n hl l [] rfl
theorem ints_l (l : List Int) (hl : l.length ≤ 1000000) : ∀ (suf pre : List Int), pre ++ suf = l →
  Ev (fun k => ref06_Ints.l0 k l l (pre.length : Int)) true
 | [], pre, e => by
  have e' : pre = l := by simpa using e
  subst e'; refine Ev.step (fun k => by rw [ref06_Ints.l0]) ?_; simp only [Int.lt_irrefl, ↓reduceIte]; exact Ev.now _
 | x :: suf, pre, e => by
  have h1 : ((pre.length : Nat) : Int) < (l.length : Int) := by rw [← e]; exact mid_lt pre x suf
  have h3 : wrap64 (((pre.length : Nat) : Int) + 1) = (((pre ++ [x]).length : Nat) : Int) := mid_next pre x suf (by rw [e]; omega); refine Ev.step (fun k => by rw [ref06_Ints.l0]) ?_; simp only [h1, nat_ge pre, h3, ↓reduceIte]; exact ints_l l hl suf (pre ++ [x]) (by simp [← e])
theorem ev_Ints (l : List Int) (hl : l.length ≤ 1000000) : Ev (fun k => ref06_Ints.f k l l) true := by
 unfold ref06_Ints.f
 simp only [↓reduceIte]; exact ints_l l hl l [] rfl
theorem ev_Great (a b c : List Int) (ha : a.length ≤ 17592186044416) (hb : b.length ≤ 17592186044416) (hc : c.length ≤ 17592186044416) : law14_great.f a b c = some (decide (a.length + b.length + c.length > 200)) := by
 unfold law14_great.f
 rw [wrap_id ((a.length : Int) + (b.length : Int)) (by omega) (by omega), wrap_id _ (by omega) (by omega)]
 congr 1
 exact decide_eq_decide.2 (by omega)
/-- The number that a draw chooses. -/
def pick (l : List Int) (d : Int) : Int := rd l (d % (l.length : Int))
theorem pick_mem {l : List Int} (d : Int) (h : l ≠ []) : pick l d ∈ l := by
 have h0 : 0 < l.length := List.length_pos_iff.2 h; have h1 := Int.emod_nonneg d (b := (l.length : Int)) (by omega); have h2 := Int.emod_lt_of_pos d (b := (l.length : Int)) (by omega)
 unfold pick rd
 rw [List.getD_eq_getElem?_getD, List.getElem?_eq_getElem (by omega)]; exact List.getElem_mem _
theorem One_nil (d : Int) : choice_One.f [] d = some (0, false) := by unfold choice_One.f; simp
theorem One_is (l : List Int) (d : Int) (h : l ≠ []) (hl : l.length ≤ 1000000) (h0 : 0 ≤ d) (h1 : d ≤ 4294967295) : choice_One.f l d = some (pick l d, true) := by
 have hp : 0 < l.length := List.length_pos_iff.2 h; have hw : IntKind.u64.wrap d = d := u_id _ h0 (by omega); have hv : IntKind.u64.wrap ((l.length : Nat) : Int) = (l.length : Int) := u_id _ (by omega) (by omega); have h2 := Int.emod_nonneg d (b := (l.length : Int)) (by omega); have h3 := Int.emod_lt_of_pos d (b := (l.length : Int)) (by omega)
 have h4 : ¬ (l.length : Int) = 0 := by omega
 unfold choice_One.f pick
 simp only [hw, hv, Int.tmod_eq_emod_of_nonneg h0, h2, h3, h4, ↓reduceIte]
theorem u32_bd {a : Int} (h : (Lit.int .u32 a).wf = true) : 0 ≤ a ∧ a ≤ 4294967295 := by
 simp [Lit.wf, IntKind.min, IntKind.max, IntKind.bits, IntKind.signed] at h
 omega
theorem u16_bd {a : Int} (h : (Lit.int .u16 a).wf = true) : 0 ≤ a ∧ a ≤ 65535 := by
 simp [Lit.wf, IntKind.min, IntKind.max, IntKind.bits, IntKind.signed] at h
 omega
end Go.Proofs.Ytjlemkdilbnmlaa.Pl

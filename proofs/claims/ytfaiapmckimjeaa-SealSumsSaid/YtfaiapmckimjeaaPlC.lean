/- What the printed sums, seals and turns of bytes come to, in plain words. No program runs here. No condition. -/
import Derived.Test.YtfaiapmckimjeaaP0
import Derived.Test.YtfaiapmckimjeaaW
import Derived.Test.YtfaiapmckimjeaaPSealSum
import Derived.Test.YtfaiapmckimjeaaPSealSeal
import Derived.Test.YtfaiapmckimjeaaPSealOpen
import Derived.Test.YtfaiapmckimjeaaPSealTurn
import Derived.Test.YtfaiapmckimjeaaPLaw02Alive
import Derived.Test.YtfaiapmckimjeaaPRef01Same
import Derived.Laws.BitsAllLaws
namespace Go.Proofs.Ytfaiapmckimjeaa.Pl
open Go.RowKit Go.Proofs.Ytfaiapmckimjeaa.P Go.Proofs.YtfaiapmckimjeaaW.PrintWords Go.Proofs.YtfaiapmckimjeaaW.PrintLast Go.Proofs.YtfaiapmckimjeaaW.PrintMore
set_option linter.unusedSimpArgs false
set_option linter.unusedVariables false
theorem wrap_id (x : Int) (h0 : -9223372036854775808 ≤ x) (h1 : x ≤ 9223372036854775807) : wrap64 x = x := by unfold wrap64; omega
theorem wrap_nat (n : Nat) (h : n < 9223372036854775807) : wrap64 ((n : Int) + 1) = ((n + 1 : Nat) : Int) := by unfold wrap64; omega
theorem getD_mid {α : Type} (z : α) (pre : List α) (x : α) (suf : List α) : (pre ++ x :: suf).getD ((pre.length : Nat) : Int).toNat z = x := by
 simp [List.getD_eq_getElem?_getD]
theorem rdI (pre : List Int) (x : Int) (suf : List Int) : rd (pre ++ x :: suf) ((pre.length : Nat) : Int) = x := getD_mid _ pre x suf
theorem mid_lt {α : Type} (pre : List α) (x : α) (suf : List α) : ((pre.length : Nat) : Int) < ((pre ++ x :: suf).length : Int) := by simp <;> omega
theorem end_ge {α : Type} (pre : List α) : ¬ ((pre.length : Nat) : Int) < ((pre ++ ([] : List α)).length : Int) := by simp
theorem nat_ge {α : Type} (pre : List α) : (0 : Int) ≤ ((pre.length : Nat) : Int) := Int.natCast_nonneg _
theorem mid_next {α : Type} (pre : List α) (x : α) (suf : List α) (h : (pre ++ x :: suf).length < 9223372036854775807) : wrap64 (((pre.length : Nat) : Int) + 1) = (((pre ++ [x]).length : Nat) : Int) := by
 rw [wrap_nat _ (by simp at h; omega), List.length_append]; rfl
theorem Ev.nowk {α : Type} (r : α) : Ev (fun _ : Nat => some r) r := Ev.now r
theorem Ev.get {α : Type} {g : Nat → Option α} {r : α} (h : Ev g r) : ∃ k, g k = some r := h.rounds
theorem Ev.cast {α : Type} {g : Nat → Option α} {r r' : α} (h : Ev g r) (e : r = r') : Ev g r' := e ▸ h
/-! ### sums -/
def st1 (s : Int) : Int := Go.bits .xor .u32 (s / 2) (Go.bits .and .u32 2197175160 ((-(Go.bits .and .u32 s 1)) % 4294967296))
def stn : Nat → Int → Int
 | 0, s => s
 | n + 1, s => stn n (st1 s)
def sumL (l : List Int) (s : Int) : Int := l.foldl (fun s c => stn 8 (Go.bits .xor .u32 s (c % 4294967296))) s
def sumS (l : List Int) : Int := Go.bits .xor .u32 4294967295 (sumL l 4294967295)
theorem ev_Sum_l1 (x6 : List Int) (x7 x8 r : Int) : ∀ (m : Nat) (s j : Int), j = 8 - (m : Int) → m ≤ 8 → Ev (fun k => seal_Sum.l0 k (stn m s) x6 x7 (wrap64 (x8 + 1))) r → Ev (fun k => seal_Sum.l1 k s x6 x7 x8 j) r := by
 intro m
 induction m with
 | zero =>
  intro s j hj _ h
  have hn : ¬ j < 8 := by omega
  refine Ev.step (fun k => by rw [seal_Sum.l1]) ?_
  simp only [hn, ↓reduceIte]
  exact h
 | succ m ih =>
  intro s j hj hm h
  have hn : j < 8 := by omega
  have hw : wrap64 (j + 1) = j + 1 := wrap_id _ (by omega) (by omega)
  refine Ev.step (fun k => by rw [seal_Sum.l1]) ?_
  simp only [hn, ↓reduceIte, hw]
  exact ih (st1 s) (j + 1) (by omega) (by omega) h
theorem ev_Sum_l0 (suf : List Int) : ∀ (pre : List Int) (s : Int), (pre ++ suf).length < 4611686018427387904 → Ev (fun k => seal_Sum.l0 k s (pre ++ suf) ((pre ++ suf).length : Int) (pre.length : Int)) (Go.bits .xor .u32 4294967295 (sumL suf s)) := by
 induction suf with
 | nil =>
  intro pre s h
  refine Ev.step (fun k => by rw [seal_Sum.l0]) ?_
  simp only [end_ge, ↓reduceIte]
  exact Ev.now _
 | cons c suf ih =>
  intro pre s h
  have i := ih (pre ++ [c]) (stn 8 (Go.bits .xor .u32 s (c % 4294967296))) (by rw [← List.append_cons]; exact h)
  rw [← List.append_cons pre c suf] at i
  refine Ev.step (fun k => by rw [seal_Sum.l0]) ?_
  simp only [mid_lt, nat_ge, rdI, ↓reduceIte]
  refine ev_Sum_l1 _ _ _ _ 8 _ 0 (by omega) (Nat.le_refl _) ?_
  rw [mid_next pre c suf (by omega)]
  exact i
theorem ev_Sum (l : List Int) (h : l.length < 4611686018427387904) : Ev (fun k => seal_Sum.f k l) (sumS l) := ev_Sum_l0 l [] 4294967295 h
/-! ### seals -/
def quad (s : Int) : List Int := [s % 256, (s / 256) % 256, (s / 65536) % 256, (s / 16777216) % 256]
def sealed (l : List Int) : List Int := l ++ quad (sumS l)
theorem sealed_len (l : List Int) : (sealed l).length = l.length + 4 := by unfold sealed quad; rw [List.length_append]; rfl
theorem ev_Seal (l : List Int) (h : l.length < 1099511627776) : Ev (fun k => seal_Seal.f k l) (sealed l) := by
 unfold seal_Seal.f
 refine Ev.bind (ev_Sum l (by omega)) ?_
 have hc : slices_Concat_byte_byte.f [l, quad (sumS l)] = some (sealed l) := by
  unfold slices_Concat_byte_byte.f slices_Concat_byte_byte.tot
  rw [if_pos (by simp [quad]; omega)]
  simp [sealed]
 have hc : slices_Concat_byte_byte.f [l, [sumS l % 256, (sumS l / 256) % 256, (sumS l / 65536) % 256, (sumS l / 16777216) % 256]] = some (sealed l) := hc
 simp only [hc, Option.bind_some]
 exact Ev.now _
theorem ev_equal_l0 (suf : List Int) : ∀ pre : List Int, (pre ++ suf).length < 4611686018427387904 → Ev (fun k => slices_Equal_byte_byte.l0 k (pre ++ suf) (pre ++ suf) ((pre ++ suf).length : Int) (pre.length : Int)) true := by
 induction suf with
 | nil =>
  intro pre h
  refine Ev.step (fun k => by rw [slices_Equal_byte_byte.l0]) ?_
  simp only [end_ge, ↓reduceIte]
  exact Ev.now _
 | cons x suf ih =>
  intro pre h
  have i := ih (pre ++ [x]) (by rw [← List.append_cons]; exact h)
  rw [← List.append_cons pre x suf] at i
  refine Ev.step (fun k => by rw [slices_Equal_byte_byte.l0]) ?_
  simp only [mid_lt, nat_ge, ↓reduceIte, mid_next pre x suf (by omega)]
  exact i
theorem ev_equal_true (l : List Int) (h : l.length < 4611686018427387904) : Ev (fun k => slices_Equal_byte_byte.f k l l) true := by
 unfold slices_Equal_byte_byte.f
 simp only [↓reduceIte]
 exact ev_equal_l0 l [] h
theorem cut_len (n : Nat) (h : n < 1099511627776) : wrap64 (((n + 4 : Nat) : Int) - 4) = (n : Int) := by rw [wrap_id _ (by omega) (by omega)]; omega
theorem ev_Open_sealed (l : List Int) (h : l.length < 1099511627776) : Ev (fun k => seal_Open.f k (sealed l)) (l, 0) := by
 unfold seal_Open.f
 have hw : wrap64 (((sealed l).length : Int) - 4) = (l.length : Int) := by rw [sealed_len]; exact cut_len _ h
 have h1 : ¬ ((l.length : Int) < 0) := by omega
 have h2 : (l.length : Int) ≤ ((sealed l).length : Int) := by rw [sealed_len]; omega
 have ht : (sealed l).take l.length = l := by unfold sealed; rw [List.take_append_of_le_length (Nat.le_refl _), List.take_length]
 simp only [hw, h1, h2, nat_ge, ↓reduceIte, Int.toNat_natCast, ht]
 refine Ev.bind (ev_Seal l h) (Ev.bind (ev_equal_true (sealed l) (by rw [sealed_len]; omega)) ?_)
 simp only [↓reduceIte]
 exact Ev.now _
theorem same_true (l : List Int) : ref01_Same.f l l = some true := by
 unfold ref01_Same.f
 rw [beq_self_eq_true]
theorem alive02 : Ev (fun k => law02_alive.f k) true := Ev.of (fun k => law02_alive.mono k) (k := 200) (by decide +kernel)
/-! ### turns -/
theorem u8_bd {a : Int} (h : (Lit.int .u8 a).wf = true) : 0 ≤ a ∧ a ≤ 255 := by
 simp [Lit.wf, IntKind.min, IntKind.max, IntKind.bits, IntKind.signed] at h
 omega
theorem u16_bd {a : Int} (h : (Lit.int .u16 a).wf = true) : 0 ≤ a ∧ a ≤ 65535 := by
 simp [Lit.wf, IntKind.min, IntKind.max, IntKind.bits, IntKind.signed] at h
 omega
theorem mask_bd : ∀ j : Fin 8, 0 ≤ shl .u8 1 (j.val : Int) ∧ shl .u8 1 (j.val : Int) < 256 := by decide
theorem xor_bd (a b : Int) (h1 : 0 ≤ a) (h2 : a < 256) (h3 : 0 ≤ b) (h4 : b < 256) : 0 ≤ Go.bits .xor .u8 a b ∧ Go.bits .xor .u8 a b < 256 := by
 rw [u8_xor a b h1 h2 h3 h4]
 have := Nat.xor_lt_two_pow (n := 8) (x := a.toNat) (y := b.toNat) (by omega) (by omega)
 omega
theorem xor_xor (a b : Int) (h1 : 0 ≤ a) (h2 : a < 256) (h3 : 0 ≤ b) (h4 : b < 256) : Go.bits .xor .u8 (Go.bits .xor .u8 a b) b = a := by
 obtain ⟨g1, g2⟩ := xor_bd a b h1 h2 h3 h4
 rw [u8_xor _ b g1 g2 h3 h4, u8_xor a b h1 h2 h3 h4, Int.toNat_natCast, Nat.xor_assoc, Nat.xor_self, Nat.xor_zero]
 omega
def turn (l : List Int) (a : Int) : List Int := if a / 8 < (l.length : Int) then l.set (a / 8).toNat (Go.bits .xor .u8 (l.getD (a / 8).toNat 0) (shl .u8 1 (a % 8))) else l
theorem turn_is (l : List Int) (a : Int) (h0 : 0 ≤ a) (h1 : a ≤ 65535) (h : l.length < 1099511627776) : seal_Turn.f l a = some (turn l a) := by
 unfold seal_Turn.f slices_Clone_byte_byte.f turn
 rw [if_pos (by omega)]
 have e1 : Int.tdiv a 8 = a / 8 := Int.tdiv_eq_ediv_of_nonneg h0
 have e2 : Int.tmod a 8 = a % 8 := Int.tmod_eq_emod_of_nonneg h0
 have hw : wrap64 (a / 8) = a / 8 := wrap_id _ (by omega) (by omega)
 have h2 : 0 ≤ a / 8 := by omega
 have h3 : 0 ≤ a % 8 := by omega
 have h4 : a ≥ 0 := h0
 simp only [Option.bind_some, e1, e2, hw, h2, h3, h4, ↓reduceIte]
 by_cases hl : a / 8 < (l.length : Int)
 ·rw [if_pos hl, if_pos hl]; rfl
 ·rw [if_neg hl, if_neg hl]
theorem turn_len (l : List Int) (a : Int) : (turn l a).length = l.length := by
 unfold turn
 split
 ·rw [List.length_set]
 ·rfl
theorem turn_turn (l : List Int) (a : Int) (h0 : 0 ≤ a) (hl : ∀ x ∈ l, 0 ≤ x ∧ x ≤ 255) : turn (turn l a) a = l := by
 unfold turn
 by_cases hc : a / 8 < (l.length : Int)
 ·have hi : (a / 8).toNat < l.length := by omega
  have hlen : (l.set (a / 8).toNat (Go.bits .xor .u8 (l.getD (a / 8).toNat 0) (shl .u8 1 (a % 8)))).length = l.length := List.length_set ..
  rw [if_pos hc, if_pos (by rw [hlen]; exact hc)]
  obtain ⟨j, hj⟩ : ∃ j : Fin 8, (j.val : Int) = a % 8 := ⟨⟨(a % 8).toNat, by omega⟩, by show ((a % 8).toNat : Int) = _; omega⟩
  have hm := mask_bd j
  rw [hj] at hm
  have hv : l.getD (a / 8).toNat 0 = l[(a / 8).toNat] := by rw [List.getD_eq_getElem?_getD, List.getElem?_eq_getElem hi]; rfl
  have hb := hl _ (List.getElem_mem hi)
  rw [List.set_set, hv]
  have hg : (l.set (a / 8).toNat (Go.bits .xor .u8 l[(a / 8).toNat] (shl .u8 1 (a % 8)))).getD (a / 8).toNat 0 = Go.bits .xor .u8 l[(a / 8).toNat] (shl .u8 1 (a % 8)) := by
   rw [List.getD_eq_getElem?_getD, List.getElem?_set_self (by exact hi)]; rfl
  rw [hg, xor_xor _ _ hb.1 (by omega) hm.1 hm.2]
  exact List.set_getElem_self hi
 ·rw [if_neg hc, if_neg hc]
end Go.Proofs.Ytfaiapmckimjeaa.Pl

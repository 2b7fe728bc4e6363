/- SealLinear's plain law: of three texts of one length the sum of their exclusive or is their sums' exclusive or: for all bytes. No condition. -/
import Derived.Test.YtfaiapmckimjeaaPLaw02SealLinear
import Derived.Test.YtfaiapmckimjeaaPlC
namespace Go.Proofs.Ytfaiapmckimjeaa.Pure
open Go.RowKit Go.Proofs.Ytfaiapmckimjeaa.P Go.Proofs.YtfaiapmckimjeaaW.PrintWords Go.Proofs.YtfaiapmckimjeaaW.PrintLast Go.Proofs.YtfaiapmckimjeaaW.PrintMore Go.Proofs.Ytfaiapmckimjeaa.Pl
set_option linter.unusedSimpArgs false
set_option linter.unusedVariables false
def PN : Nat := 2197175160
def st1N (s : Nat) : Nat := s / 2 ^^^ (if s % 2 = 1 then PN else 0)
def stnN : Nat → Nat → Nat
 | 0, s => s
 | n + 1, s => stnN n (st1N s)
theorem st1N_lt {s : Nat} (h : s < 4294967296) : st1N s < 4294967296 := by
 unfold st1N PN
 refine Nat.xor_lt_two_pow (n := 32) (by omega) ?_
 split <;> omega
theorem stnN_lt : ∀ (n : Nat) {s : Nat}, s < 4294967296 → stnN n s < 4294967296
 | 0, _, h => h
 | n + 1, _, h => stnN_lt n (st1N_lt h)
theorem st1N_xor (a b : Nat) : st1N (a ^^^ b) = st1N a ^^^ st1N b := by
 unfold st1N
 rw [Nat.xor_div_two]
 have hx : (a ^^^ b) % 2 = 1 ↔ ¬ (a % 2 = 1 ↔ b % 2 = 1) := Nat.xor_mod_two_eq_one
 have ha : a % 2 = 0 ∨ a % 2 = 1 := by omega
 have hb : b % 2 = 0 ∨ b % 2 = 1 := by omega
 rcases ha with ha | ha <;> rcases hb with hb | hb
 ·rw [if_neg (by rw [hx]; omega), if_neg (by omega), if_neg (by omega)]; simp
 ·rw [if_pos (by rw [hx]; omega), if_neg (by omega), if_pos hb]; simp [Nat.xor_assoc]
 ·rw [if_pos (by rw [hx]; omega), if_pos ha, if_neg (by omega)]
  simp only [Nat.xor_zero]
  rw [Nat.xor_assoc, Nat.xor_assoc, Nat.xor_comm (b / 2) PN]
 ·rw [if_neg (by rw [hx]; omega), if_pos ha, if_pos hb, Nat.xor_zero]
  rw [Nat.xor_assoc (a / 2), ← Nat.xor_assoc PN, Nat.xor_comm PN (b / 2), Nat.xor_assoc (b / 2), Nat.xor_self, Nat.xor_zero]
theorem stnN_xor : ∀ (n a b : Nat), stnN n (a ^^^ b) = stnN n a ^^^ stnN n b
 | 0, a, b => rfl
 | n + 1, a, b => by
  show stnN n (st1N (a ^^^ b)) = stnN n (st1N a) ^^^ stnN n (st1N b)
  rw [st1N_xor, stnN_xor n]
theorem stnN_xor3 (n a b c : Nat) : stnN n (a ^^^ b ^^^ c) = stnN n a ^^^ stnN n b ^^^ stnN n c := by rw [stnN_xor, stnN_xor]
theorem xor6 (a b c x y z : Nat) : (a ^^^ b ^^^ c) ^^^ (x ^^^ y ^^^ z) = (a ^^^ x) ^^^ (b ^^^ y) ^^^ (c ^^^ z) := by ac_rfl
theorem st1_nat (s : Nat) (h : s < 4294967296) : st1 (s : Int) = ((st1N s : Nat) : Int) := by
 unfold st1
 have h2 : Go.bits .and .u32 (s : Int) 1 = ((s % 2 : Nat) : Int) := by
  have := u32_and_nat s 1 h (by omega)
  rw [Nat.and_one_is_mod] at this
  exact this
 have h1 : (s : Int) / 2 = ((s / 2 : Nat) : Int) := by omega
 have c0 : Go.bits .and .u32 2197175160 0 = 0 := by decide
 have c1 : Go.bits .and .u32 2197175160 4294967295 = 2197175160 := by decide
 rw [h2, h1]
 have hs : s % 2 = 0 ∨ s % 2 = 1 := by omega
 unfold st1N PN
 rcases hs with hs | hs
 ·rw [hs, if_neg (by decide), show (-((0 : Nat) : Int)) % 4294967296 = 0 by decide, c0]
  exact u32_xor_nat (s / 2) 0 (by omega) (by omega)
 ·rw [hs, if_pos rfl, show (-((1 : Nat) : Int)) % 4294967296 = 4294967295 by decide, c1]
  exact u32_xor_nat (s / 2) 2197175160 (by omega) (by omega)
theorem stn_nat : ∀ (n s : Nat), s < 4294967296 → stn n (s : Int) = ((stnN n s : Nat) : Int)
 | 0, s, h => rfl
 | n + 1, s, h => by
  show stn n (st1 (s : Int)) = ((stnN n (st1N s) : Nat) : Int)
  rw [st1_nat s h, stn_nat n _ (st1N_lt h)]
def sumN (l : List Int) (s : Nat) : Nat := l.foldl (fun s c => stnN 8 (s ^^^ c.toNat)) s
theorem sumN_snoc (l : List Int) (c : Int) (s : Nat) : sumN (l ++ [c]) s = stnN 8 (sumN l s ^^^ c.toNat) := by
 unfold sumN
 rw [List.foldl_append]
 rfl
theorem sumL_nat : ∀ (l : List Int) (s : Nat), s < 4294967296 → (∀ c ∈ l, 0 ≤ c ∧ c ≤ 255) → sumL l (s : Int) = ((sumN l s : Nat) : Int) ∧ sumN l s < 4294967296
 | [], s, h, _ => ⟨rfl, h⟩
 | c :: l, s, h, hc => by
  have hb := hc c List.mem_cons_self
  have hx : s ^^^ c.toNat < 4294967296 := Nat.xor_lt_two_pow (n := 32) (by omega) (by omega)
  have e : Go.bits .xor .u32 (s : Int) (c % 4294967296) = ((s ^^^ c.toNat : Nat) : Int) := by
   rw [show c % 4294967296 = ((c.toNat : Nat) : Int) by omega]
   exact u32_xor_nat s c.toNat h (by omega)
  have i := sumL_nat l (stnN 8 (s ^^^ c.toNat)) (stnN_lt 8 hx) (fun x hx => hc x (List.mem_cons_of_mem _ hx))
  refine ⟨?_, i.2⟩
  show sumL l (stn 8 (Go.bits .xor .u32 (s : Int) (c % 4294967296))) = _
  rw [e, stn_nat 8 _ hx]
  exact i.1
theorem sumS_nat (l : List Int) (hc : ∀ c ∈ l, 0 ≤ c ∧ c ≤ 255) : sumS l = ((4294967295 ^^^ sumN l 4294967295 : Nat) : Int) ∧ sumN l 4294967295 < 4294967296 := by
 obtain ⟨h1, h2⟩ := sumL_nat l 4294967295 (by omega) hc
 refine ⟨?_, h2⟩
 unfold sumS
 have h1 : sumL l 4294967295 = ((sumN l 4294967295 : Nat) : Int) := h1
 rw [h1]
 exact u32_xor_nat 4294967295 _ (by omega) h2
/-- The three texts' exclusive or, of one place. -/
def gx (a b c : List Int) (i : Nat) : Int := Go.bits .xor .u8 (Go.bits .xor .u8 (a.getD i 0) (b.getD i 0)) (c.getD i 0)
def X (a b c : List Int) (n : Nat) : List Int := (List.range n).map (gx a b c)
def By (l : List Int) : Prop := ∀ c ∈ l, 0 ≤ c ∧ c ≤ 255
theorem by_get {l : List Int} (h : By l) (i : Nat) (hi : i < l.length) : 0 ≤ l.getD i 0 ∧ l.getD i 0 ≤ 255 := by
 rw [List.getD_eq_getElem?_getD, List.getElem?_eq_getElem hi]
 exact h _ (List.getElem_mem hi)
theorem gx_nat {a b c : List Int} (ha : By a) (hb : By b) (hc : By c) (i : Nat) (h1 : i < a.length) (h2 : i < b.length) (h3 : i < c.length) : gx a b c i = (((a.getD i 0).toNat ^^^ (b.getD i 0).toNat ^^^ (c.getD i 0).toNat : Nat) : Int) ∧ 0 ≤ gx a b c i ∧ gx a b c i ≤ 255 := by
 have g1 := by_get ha i h1
 have g2 := by_get hb i h2
 have g3 := by_get hc i h3
 obtain ⟨u1, u2⟩ := xor_bd _ _ g1.1 (show a.getD i 0 < 256 by omega) g2.1 (show b.getD i 0 < 256 by omega)
 obtain ⟨v1, v2⟩ := xor_bd _ _ u1 u2 g3.1 (show c.getD i 0 < 256 by omega)
 refine ⟨?_, v1, by unfold gx; omega⟩
 unfold gx
 rw [u8_xor _ _ u1 u2 g3.1 (by omega), u8_xor _ _ g1.1 (by omega) g2.1 (by omega), Int.toNat_natCast]
theorem X_by {a b c : List Int} (ha : By a) (hb : By b) (hc : By c) (n : Nat) (h1 : n ≤ a.length) (h2 : n ≤ b.length) (h3 : n ≤ c.length) : By (X a b c n) := fun x hx => by
 unfold X at hx
 obtain ⟨i, hi, rfl⟩ := List.mem_map.1 hx
 have hi := List.mem_range.1 hi
 exact (gx_nat ha hb hc i (by omega) (by omega) (by omega)).2
theorem lin_sum {a b c : List Int} (ha : By a) (hb : By b) (hc : By c) (p q r : Nat) : ∀ n : Nat, n ≤ a.length → n ≤ b.length → n ≤ c.length → sumN (X a b c n) (p ^^^ q ^^^ r) = sumN (a.take n) p ^^^ sumN (b.take n) q ^^^ sumN (c.take n) r := by
 intro n
 induction n with
 | zero => intro _ _ _; rfl
 | succ n ih =>
  intro h1 h2 h3
  have i := ih (by omega) (by omega) (by omega)
  have gg := (gx_nat ha hb hc n (by omega) (by omega) (by omega)).1
  have ga : a.getD n 0 = a[n] := by rw [List.getD_eq_getElem?_getD, List.getElem?_eq_getElem (show n < a.length by omega)]; rfl
  have gb : b.getD n 0 = b[n] := by rw [List.getD_eq_getElem?_getD, List.getElem?_eq_getElem (show n < b.length by omega)]; rfl
  have gc : c.getD n 0 = c[n] := by rw [List.getD_eq_getElem?_getD, List.getElem?_eq_getElem (show n < c.length by omega)]; rfl
  have hX : X a b c (n + 1) = X a b c n ++ [gx a b c n] := by unfold X; rw [List.range_succ, List.map_append]; rfl
  rw [hX, List.take_succ_eq_append_getElem (show n < a.length by omega), List.take_succ_eq_append_getElem (show n < b.length by omega), List.take_succ_eq_append_getElem (show n < c.length by omega), sumN_snoc, sumN_snoc, sumN_snoc, sumN_snoc, i, gg, Int.toNat_natCast, xor6, stnN_xor3, ga, gb, gc]
theorem take_by {l : List Int} (h : By l) (n : Nat) : By (l.take n) := fun x hx => h x (List.mem_of_mem_take hx)
theorem lin_fin {a b c : List Int} (ha : By a) (hb : By b) (hc : By c) (n : Nat) (h1 : n ≤ a.length) (h2 : n ≤ b.length) (h3 : n ≤ c.length) : sumS (X a b c n) = Go.bits .xor .u32 (Go.bits .xor .u32 (sumS (a.take n)) (sumS (b.take n))) (sumS (c.take n)) := by
 obtain ⟨eA, lA⟩ := sumS_nat (a.take n) (take_by ha n)
 obtain ⟨eB, lB⟩ := sumS_nat (b.take n) (take_by hb n)
 obtain ⟨eC, lC⟩ := sumS_nat (c.take n) (take_by hc n)
 obtain ⟨eX, lX⟩ := sumS_nat (X a b c n) (X_by ha hb hc n h1 h2 h3)
 have hl := lin_sum ha hb hc 4294967295 4294967295 4294967295 n h1 h2 h3
 have hm : (4294967295 ^^^ 4294967295 ^^^ 4294967295 : Nat) = 4294967295 := by decide
 rw [hm] at hl
 have bA : 4294967295 ^^^ sumN (a.take n) 4294967295 < 4294967296 := Nat.xor_lt_two_pow (n := 32) (by omega) (by omega)
 have bB : 4294967295 ^^^ sumN (b.take n) 4294967295 < 4294967296 := Nat.xor_lt_two_pow (n := 32) (by omega) (by omega)
 have bC : 4294967295 ^^^ sumN (c.take n) 4294967295 < 4294967296 := Nat.xor_lt_two_pow (n := 32) (by omega) (by omega)
 rw [eX, eA, eB, eC, u32_xor_nat _ _ bA bB, u32_xor_nat _ _ (Nat.xor_lt_two_pow (n := 32) bA bB) bC, hl]
 congr 1
 conv => lhs; rw [← hm]
 exact xor6 _ _ _ _ _ _
theorem set_next (xs : List Int) (i m : Nat) (h : xs.length = i) (v : Int) : (xs ++ List.replicate (m + 1) 0).set i v = (xs ++ [v]) ++ List.replicate m 0 := by
 subst h
 rw [List.set_append_right _ _ (Nat.le_refl _), Nat.sub_self, List.replicate_succ, List.set_cons_zero, List.append_assoc]
 rfl
theorem lin_l {a b c : List Int} (ha : By a) (hb : By b) (hc : By c) (n : Nat) (hn : n ≤ 1000) (h1 : n ≤ a.length) (h2 : n ≤ b.length) (h3 : n ≤ c.length) : ∀ (m i : Nat), i + m = n → Ev (fun k => law02_SealLinear.l0 k a b c (n : Int) (X a b c i ++ List.replicate m 0) (i : Int)) true
 | 0, i, e => by
  have e' : i = n := by omega
  subst e'
  have q1 : (0 : Int) ≤ (i : Int) := by omega
  have q2 : (i : Int) ≤ (a.length : Int) := by omega
  have q3 : (i : Int) ≤ (b.length : Int) := by omega
  have q4 : (i : Int) ≤ (c.length : Int) := by omega
  have hX : (X a b c i).length = i := by unfold X; rw [List.length_map, List.length_range]
  refine Ev.step (fun k => by rw [law02_SealLinear.l0]) ?_
  simp only [Int.lt_irrefl, ↓reduceIte, List.replicate_zero, List.append_nil, q1, q2, q3, q4, Int.toNat_natCast]
  refine Ev.bind (ev_Sum (X a b c i) (by omega)) (Ev.bind (ev_Sum (a.take i) (by rw [List.length_take]; omega)) (Ev.bind (ev_Sum (b.take i) (by rw [List.length_take]; omega)) (Ev.bind (ev_Sum (c.take i) (by rw [List.length_take]; omega)) ?_)))
  rw [lin_fin ha hb hc i h1 h2 h3, beq_self_eq_true]
  exact Ev.now _
 | m + 1, i, e => by
  have q0 : (i : Int) < (n : Int) := by omega
  have q1 : (0 : Int) ≤ (i : Int) := by omega
  have q2 : (i : Int) < (a.length : Int) := by omega
  have q3 : (i : Int) < (b.length : Int) := by omega
  have q4 : (i : Int) < (c.length : Int) := by omega
  have hX : (X a b c i).length = i := by unfold X; rw [List.length_map, List.length_range]
  have q5 : (i : Int) < ((X a b c i ++ List.replicate (m + 1) 0).length : Int) := by rw [List.length_append, hX, List.length_replicate]; omega
  have hw : wrap64 ((i : Int) + 1) = ((i + 1 : Nat) : Int) := wrap_nat i (by omega)
  have hs : (X a b c i ++ List.replicate (m + 1) 0).set i (gx a b c i) = X a b c (i + 1) ++ List.replicate m 0 := by
   rw [set_next _ i m hX]
   congr 1
   unfold X
   rw [List.range_succ, List.map_append]
   rfl
  have j := lin_l ha hb hc n hn h1 h2 h3 m (i + 1) (by omega)
  refine Ev.step (fun k => by rw [law02_SealLinear.l0]) ?_
  simp only [q0, q1, q2, q3, q4, q5, ↓reduceIte, hw, Int.toNat_natCast]
  rw [← hs] at j
  exact j
theorem SealLinear : law02_SealLinear.Pure := by
 intro a b c _ _ wa _ _ wb _ _ wc
 refine Ev.rounds (r := true) ?_
 unfold law02_SealLinear.f
 refine Ev.bind alive02 ?_
 simp only [↓reduceIte]
 obtain ⟨n, hn, h1, h2, h3⟩ : ∃ n : Nat, mn (mn (a.length : Int) (b.length : Int)) (c.length : Int) = (n : Int) ∧ n ≤ a.length ∧ n ≤ b.length ∧ n ≤ c.length := by
  refine ⟨(mn (mn (a.length : Int) (b.length : Int)) (c.length : Int)).toNat, ?_, ?_, ?_, ?_⟩ <;> unfold mn <;> (repeat' split) <;> omega
 simp only [hn, Int.toNat_natCast]
 by_cases hg : (n : Int) > 1000
 ·simp only [hg, ↓reduceIte]
  exact Ev.now _
 ·have q1 : (0 : Int) ≤ (n : Int) := by omega
  have q2 : n ≤ 281474976710656 := by omega
  simp only [hg, ↓reduceIte, q1, q2]
  exact lin_l (fun x hx => u8_bd (wa x hx)) (fun x hx => u8_bd (wb x hx)) (fun x hx => u8_bd (wc x hx)) n (by omega) h1 h2 h3 n 0 (by omega)
end Go.Proofs.Ytfaiapmckimjeaa.Pure

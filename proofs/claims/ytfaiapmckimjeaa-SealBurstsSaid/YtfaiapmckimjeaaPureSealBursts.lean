/- SealBursts' plain law: what is sealed is opened as it was, and isn't with bits turned that lie within 32 beside one another: for all bytes and bits. No condition. -/
import Derived.Test.YtfaiapmckimjeaaPLaw02SealBursts
import Derived.Test.YtfaiapmckimjeaaPlC
namespace Go.Proofs.Ytfaiapmckimjeaa.Pure
open Go.RowKit Go.Proofs.Ytfaiapmckimjeaa.P Go.Proofs.YtfaiapmckimjeaaW.PrintWords Go.Proofs.YtfaiapmckimjeaaW.PrintLast Go.Proofs.YtfaiapmckimjeaaW.PrintMore Go.Proofs.Ytfaiapmckimjeaa.Pl
set_option linter.unusedSimpArgs false
set_option linter.unusedVariables false
def PN : Nat := 2197175160
def st1N (s : Nat) : Nat := s / 2 ^^^ (if s % 2 = 1 then PN else 0)
def stnN : Nat → Nat → Nat
 | 0, s => s
 | n + 1, s => stnN n (st1N s)
theorem st1N_lt {s : Nat} (h : s < 4294967296) : st1N s < 4294967296 := by
 unfold st1N PN
 refine Nat.xor_lt_two_pow (n := 32) (by omega) ?_
 split <;> omega
theorem stnN_lt : ∀ (n : Nat) {s : Nat}, s < 4294967296 → stnN n s < 4294967296
 | 0, _, h => h
 | n + 1, _, h => stnN_lt n (st1N_lt h)
theorem st1N_xor (a b : Nat) : st1N (a ^^^ b) = st1N a ^^^ st1N b := by
 unfold st1N
 rw [Nat.xor_div_two]
 have hx : (a ^^^ b) % 2 = 1 ↔ ¬ (a % 2 = 1 ↔ b % 2 = 1) := Nat.xor_mod_two_eq_one
 have ha : a % 2 = 0 ∨ a % 2 = 1 := by omega
 have hb : b % 2 = 0 ∨ b % 2 = 1 := by omega
 rcases ha with ha | ha <;> rcases hb with hb | hb
 ·rw [if_neg (by rw [hx]; omega), if_neg (by omega), if_neg (by omega)]; simp
 ·rw [if_pos (by rw [hx]; omega), if_neg (by omega), if_pos hb]; simp [Nat.xor_assoc]
 ·rw [if_pos (by rw [hx]; omega), if_pos ha, if_neg (by omega)]
  simp only [Nat.xor_zero]
  rw [Nat.xor_assoc, Nat.xor_assoc, Nat.xor_comm (b / 2) PN]
 ·rw [if_neg (by rw [hx]; omega), if_pos ha, if_pos hb, Nat.xor_zero]
  rw [Nat.xor_assoc (a / 2), ← Nat.xor_assoc PN, Nat.xor_comm PN (b / 2), Nat.xor_assoc (b / 2), Nat.xor_self, Nat.xor_zero]
theorem stnN_xor : ∀ (n a b : Nat), stnN n (a ^^^ b) = stnN n a ^^^ stnN n b
 | 0, a, b => rfl
 | n + 1, a, b => by
  show stnN n (st1N (a ^^^ b)) = stnN n (st1N a) ^^^ stnN n (st1N b)
  rw [st1N_xor, stnN_xor n]
theorem stnN_xor3 (n a b c : Nat) : stnN n (a ^^^ b ^^^ c) = stnN n a ^^^ stnN n b ^^^ stnN n c := by rw [stnN_xor, stnN_xor]
theorem xor6 (a b c x y z : Nat) : (a ^^^ b ^^^ c) ^^^ (x ^^^ y ^^^ z) = (a ^^^ x) ^^^ (b ^^^ y) ^^^ (c ^^^ z) := by ac_rfl
theorem st1_nat (s : Nat) (h : s < 4294967296) : st1 (s : Int) = ((st1N s : Nat) : Int) := by
 unfold st1
 have h2 : Go.bits .and .u32 (s : Int) 1 = ((s % 2 : Nat) : Int) := by
  have := u32_and_nat s 1 h (by omega)
  rw [Nat.and_one_is_mod] at this
  exact this
 have h1 : (s : Int) / 2 = ((s / 2 : Nat) : Int) := by omega
 have c0 : Go.bits .and .u32 2197175160 0 = 0 := by decide
 have c1 : Go.bits .and .u32 2197175160 4294967295 = 2197175160 := by decide
 rw [h2, h1]
 have hs : s % 2 = 0 ∨ s % 2 = 1 := by omega
 unfold st1N PN
 rcases hs with hs | hs
 ·rw [hs, if_neg (by decide), show (-((0 : Nat) : Int)) % 4294967296 = 0 by decide, c0]
  exact u32_xor_nat (s / 2) 0 (by omega) (by omega)
 ·rw [hs, if_pos rfl, show (-((1 : Nat) : Int)) % 4294967296 = 4294967295 by decide, c1]
  exact u32_xor_nat (s / 2) 2197175160 (by omega) (by omega)
theorem stn_nat : ∀ (n s : Nat), s < 4294967296 → stn n (s : Int) = ((stnN n s : Nat) : Int)
 | 0, s, h => rfl
 | n + 1, s, h => by
  show stn n (st1 (s : Int)) = ((stnN n (st1N s) : Nat) : Int)
  rw [st1_nat s h, stn_nat n _ (st1N_lt h)]
theorem st1N_even (y : Nat) : st1N (2 * y) = y := by
 unfold st1N
 rw [if_neg (by omega), Nat.xor_zero]
 omega
theorem stnN_shift : ∀ (f m x : Nat), stnN (m + f) (x <<< f) = stnN m x
 | 0, m, x => by rw [Nat.shiftLeft_zero, Nat.add_zero]
 | f + 1, m, x => by
  show stnN (m + f) (st1N (x <<< (f + 1))) = stnN m x
  have e : x <<< (f + 1) = 2 * (x <<< f) := by rw [Nat.shiftLeft_succ]
  rw [e, st1N_even, stnN_shift f m x]
theorem st1N_ne {s : Nat} (h : s < 4294967296) (h0 : s ≠ 0) : st1N s ≠ 0 := by
 unfold st1N PN
 intro e
 split at e
 ·have h2 : s / 2 = 2197175160 := by
   have := congrArg (· ^^^ 2197175160) e
   simp only [Nat.xor_assoc, Nat.xor_self, Nat.xor_zero, Nat.zero_xor] at this
   exact this
  omega
 ·rw [Nat.xor_zero] at e
  omega
theorem stnN_ne : ∀ (n : Nat) {s : Nat}, s < 4294967296 → s ≠ 0 → stnN n s ≠ 0
 | 0, _, _, h0 => h0
 | n + 1, _, h, h0 => stnN_ne n (st1N_lt h) (st1N_ne h h0)
theorem stnN_add : ∀ (a b s : Nat), stnN (a + b) s = stnN b (stnN a s)
 | 0, b, s => by rw [Nat.zero_add]; rfl
 | a + 1, b, s => by
  rw [Nat.add_right_comm]
  show stnN (a + b) (st1N s) = stnN b (stnN a (st1N s))
  exact stnN_add a b _
/-- A row of bytes as one number, its lowest byte first. -/
def num : List Int → Nat
 | [] => 0
 | c :: l => c.toNat ^^^ (num l <<< 8)
def sumN (l : List Int) (s : Nat) : Nat := l.foldl (fun s c => stnN 8 (s ^^^ c.toNat)) s
theorem sumN_num : ∀ (l : List Int) (s : Nat), sumN l s = stnN (8 * l.length) (s ^^^ num l)
 | [], s => by show s = stnN 0 (s ^^^ 0); rw [Nat.xor_zero]; rfl
 | c :: l, s => by
  show sumN l (stnN 8 (s ^^^ c.toNat)) = _
  rw [sumN_num l, List.length_cons, show 8 * (l.length + 1) = 8 + 8 * l.length by omega, stnN_add]
  have h8 : stnN 8 (num l <<< 8) = num l := by
   have := stnN_shift 8 0 (num l)
   rw [Nat.zero_add] at this
   exact this
  have e : num (c :: l) = c.toNat ^^^ num l <<< 8 := rfl
  rw [e, ← Nat.xor_assoc s, stnN_xor 8 (s ^^^ c.toNat), h8]
theorem num_append : ∀ (a b : List Int), num (a ++ b) = num a ^^^ (num b <<< (8 * a.length))
 | [], b => by show num b = 0 ^^^ num b <<< 0; rw [Nat.shiftLeft_zero, Nat.zero_xor]
 | c :: a, b => by
  show c.toNat ^^^ (num (a ++ b) <<< 8) = (c.toNat ^^^ (num a <<< 8)) ^^^ _
  rw [num_append a b, Nat.shiftLeft_xor_distrib, ← Nat.shiftLeft_add, Nat.xor_assoc, List.length_cons]
  congr 3
theorem num_set : ∀ (l : List Int) (j : Nat) (hj : j < l.length) (v m : Nat), l[j].toNat = v → num (l.set j (((v ^^^ m : Nat) : Int))) = num l ^^^ (m <<< (8 * j))
 | c :: l, 0, _, v, m, hv => by
  have hv : c.toNat = v := hv
  show ((v ^^^ m : Nat) : Int).toNat ^^^ (num l <<< 8) = (c.toNat ^^^ (num l <<< 8)) ^^^ (m <<< (8 * 0))
  rw [Int.toNat_natCast, hv, Nat.mul_zero, Nat.shiftLeft_zero]
  ac_rfl
 | c :: l, j + 1, hj, v, m, hv => by
  have i := num_set l j (by simpa using hj) v m hv
  show c.toNat ^^^ (num (l.set j _) <<< 8) = (c.toNat ^^^ (num l <<< 8)) ^^^ (m <<< (8 * (j + 1)))
  rw [i, Nat.shiftLeft_xor_distrib, ← Nat.shiftLeft_add, Nat.xor_assoc]
  congr 2
theorem sumN_snoc (l : List Int) (c : Int) (s : Nat) : sumN (l ++ [c]) s = stnN 8 (sumN l s ^^^ c.toNat) := by
 unfold sumN
 rw [List.foldl_append]
 rfl
theorem sumL_nat : ∀ (l : List Int) (s : Nat), s < 4294967296 → (∀ c ∈ l, 0 ≤ c ∧ c ≤ 255) → sumL l (s : Int) = ((sumN l s : Nat) : Int) ∧ sumN l s < 4294967296
 | [], s, h, _ => ⟨rfl, h⟩
 | c :: l, s, h, hc => by
  have hb := hc c List.mem_cons_self
  have hx : s ^^^ c.toNat < 4294967296 := Nat.xor_lt_two_pow (n := 32) (by omega) (by omega)
  have e : Go.bits .xor .u32 (s : Int) (c % 4294967296) = ((s ^^^ c.toNat : Nat) : Int) := by
   rw [show c % 4294967296 = ((c.toNat : Nat) : Int) by omega]
   exact u32_xor_nat s c.toNat h (by omega)
  have i := sumL_nat l (stnN 8 (s ^^^ c.toNat)) (stnN_lt 8 hx) (fun x hx => hc x (List.mem_cons_of_mem _ hx))
  refine ⟨?_, i.2⟩
  show sumL l (stn 8 (Go.bits .xor .u32 (s : Int) (c % 4294967296))) = _
  rw [e, stn_nat 8 _ hx]
  exact i.1
theorem sumS_nat (l : List Int) (hc : ∀ c ∈ l, 0 ≤ c ∧ c ≤ 255) : sumS l = ((4294967295 ^^^ sumN l 4294967295 : Nat) : Int) ∧ sumN l 4294967295 < 4294967296 := by
 obtain ⟨h1, h2⟩ := sumL_nat l 4294967295 (by omega) hc
 refine ⟨?_, h2⟩
 unfold sumS
 have h1 : sumL l 4294967295 = ((sumN l 4294967295 : Nat) : Int) := h1
 rw [h1]
 exact u32_xor_nat 4294967295 _ (by omega) h2
def By (l : List Int) : Prop := ∀ c ∈ l, 0 ≤ c ∧ c ≤ 255
theorem by_get {l : List Int} (h : By l) (i : Nat) (hi : i < l.length) : 0 ≤ l.getD i 0 ∧ l.getD i 0 ≤ 255 := by
 rw [List.getD_eq_getElem?_getD, List.getElem?_eq_getElem hi]
 exact h _ (List.getElem_mem hi)
theorem low_xor (a y : Nat) (h : a < 256) : a ^^^ (y <<< 8) = 256 * y + a := by
 have e : y <<< 8 = 256 * y := by rw [Nat.shiftLeft_eq]; omega
 have h1 : (a ^^^ (256 * y)) / 2 ^ 8 = a / 2 ^ 8 ^^^ (256 * y) / 2 ^ 8 := Nat.xor_div_two_pow
 have h2 : (a ^^^ (256 * y)) % 2 ^ 8 = a % 2 ^ 8 ^^^ (256 * y) % 2 ^ 8 := Nat.xor_mod_two_pow
 rw [show a / 2 ^ 8 = 0 by omega, show 256 * y / 2 ^ 8 = y by omega, Nat.zero_xor] at h1
 rw [show a % 2 ^ 8 = a by omega, show 256 * y % 2 ^ 8 = 0 by omega, Nat.xor_zero] at h2
 rw [e]
 omega
theorem take_by {l : List Int} (h : By l) (n : Nat) : By (l.take n) := fun x hx => h x (List.mem_of_mem_take hx)
/-- What is left behind a text and its own sum. -/
def R0 : Nat := stnN 32 4294967295
theorem num_quad (s : Nat) (h : s < 4294967296) : num (quad (s : Int)) = s := by
 unfold quad num num num num num
 rw [show ((s : Int) % 256).toNat = s % 256 by omega, show ((s : Int) / 256 % 256).toNat = s / 256 % 256 by omega, show ((s : Int) / 65536 % 256).toNat = s / 65536 % 256 by omega, show ((s : Int) / 16777216 % 256).toNat = s / 16777216 % 256 by omega]
 rw [low_xor _ 0 (by omega), low_xor _ _ (by omega), low_xor _ _ (by omega), low_xor _ _ (by omega)]
 omega
theorem res_sealed {l : List Int} (h : By l) : sumN (sealed l) 4294967295 = R0 := by
 obtain ⟨e, lt⟩ := sumS_nat l h
 unfold sealed
 rw [e]
 have hq : (4294967295 ^^^ sumN l 4294967295) < 4294967296 := Nat.xor_lt_two_pow (n := 32) (by omega) (by omega)
 generalize hs : (4294967295 ^^^ sumN l 4294967295 : Nat) = s at hq
 have ha : sumN (l ++ quad (s : Int)) 4294967295 = sumN (quad (s : Int)) (sumN l 4294967295) := by unfold sumN; rw [List.foldl_append]
 rw [ha, sumN_num (quad (s : Int)), num_quad s hq]
 show stnN 32 (sumN l 4294967295 ^^^ s) = R0
 rw [← hs, Nat.xor_comm 4294967295, ← Nat.xor_assoc, Nat.xor_self, Nat.zero_xor]
 rfl
theorem quad_by (s : Int) : By (quad s) := fun c hc => by
 unfold quad at hc
 simp only [List.mem_cons, List.not_mem_nil, or_false] at hc
 rcases hc with rfl | rfl | rfl | rfl <;> omega
theorem sealed_by {l : List Int} (h : By l) : By (sealed l) := fun c hc => by
 unfold sealed at hc
 rcases List.mem_append.1 hc with hc | hc
 ·exact h c hc
 ·exact quad_by _ c hc
theorem ev_equal_any_l0 (sa : List Int) : ∀ (sb pa pb : List Int), pa.length = pb.length → sa.length = sb.length → (pa ++ sa).length < 4611686018427387904 →
  ∃ r, Ev (fun k => slices_Equal_byte_byte.l0 k (pa ++ sa) (pb ++ sb) ((pa ++ sa).length : Int) (pa.length : Int)) r ∧ (r = true ↔ sa = sb) := by
 induction sa with
 | nil =>
  intro sb pa pb hp hs h
  have : sb = [] := List.eq_nil_of_length_eq_zero (by simpa using hs.symm)
  subst this
  refine ⟨true, Ev.step (fun k => by rw [slices_Equal_byte_byte.l0]) ?_, by simp⟩
  simp only [end_ge, ↓reduceIte]
  exact Ev.now _
 | cons x sa ih =>
  intro sb pa pb hp hs h
  match sb, hs with
  | y :: sb, hs =>
   have r2 : rd (pb ++ y :: sb) (pa.length : Int) = y := by rw [hp]; exact rdI pb y sb
   have l2 : (pa.length : Int) < ((pb ++ y :: sb).length : Int) := by rw [hp]; exact mid_lt pb y sb
   by_cases hxy : x = y
   ·subst hxy
    obtain ⟨r, h1, h2⟩ := ih sb (pa ++ [x]) (pb ++ [x]) (by simp [hp]) (by simpa using hs) (by rw [← List.append_cons]; exact h)
    refine ⟨r, Ev.step (fun k => by rw [slices_Equal_byte_byte.l0]) ?_, ?_⟩
    ·simp only [mid_lt, l2, nat_ge, ↓reduceIte, rdI, r2, mid_next pa x sa (by omega)]
     rw [← List.append_cons pa x sa, ← List.append_cons pb x sb] at h1
     exact h1
    ·rw [h2]; simp
   ·refine ⟨false, Ev.step (fun k => by rw [slices_Equal_byte_byte.l0]) ?_, ?_⟩
    ·simp only [mid_lt, l2, nat_ge, ↓reduceIte, rdI, r2, hxy]
     exact Ev.now _
    ·simp [hxy]
theorem ev_equal_any (a b : List Int) (h : a.length < 4611686018427387904) : ∃ r, Ev (fun k => slices_Equal_byte_byte.f k a b) r ∧ (r = true ↔ a = b) := by
 unfold slices_Equal_byte_byte.f
 by_cases hl : (a.length : Int) = (b.length : Int)
 ·obtain ⟨r, h1, h2⟩ := ev_equal_any_l0 a b [] [] rfl (by omega) h
  refine ⟨r, ?_, h2⟩
  simp only [hl, ↓reduceIte]
  rw [← hl]
  exact h1
 ·refine ⟨false, ?_, ⟨fun e => absurd e (by decide), fun e => absurd (by rw [e]) hl⟩⟩
  simp only [hl, ↓reduceIte]
  exact Ev.now _
theorem open_bad {c : List Int} (hc : By c) (h4 : 4 ≤ c.length) (hn : c.length < 1099511627776) (hr : sumN c 4294967295 ≠ R0) : ∃ p, Ev (fun k => seal_Open.f k c) (p, 5) := by
 obtain ⟨r, er, qr⟩ := ev_equal_any (sealed (c.take (c.length - 4))) c (by rw [sealed_len, List.length_take]; omega)
 have hf : r = false := by
  cases r with
  | false => rfl
  | true =>
   have := qr.1 rfl
   exact absurd (by rw [← this]; exact res_sealed (take_by hc _)) hr
 rw [hf] at er
 refine ⟨[], ?_⟩
 unfold seal_Open.f
 have hw : wrap64 ((c.length : Int) - 4) = ((c.length - 4 : Nat) : Int) := by rw [wrap_id _ (by omega) (by omega)]; omega
 have h1 : ¬ (((c.length - 4 : Nat) : Int) < 0) := by omega
 have h2 : ((c.length - 4 : Nat) : Int) ≤ (c.length : Int) := by omega
 have h3 : (0 : Int) ≤ ((c.length - 4 : Nat) : Int) := by omega
 simp only [hw, h1, h2, h3, ↓reduceIte, Int.toNat_natCast]
 refine Ev.bind (ev_Seal (c.take (c.length - 4)) (by rw [List.length_take]; omega)) (Ev.bind er ?_)
 simp only [Bool.false_eq_true, ↓reduceIte]
 exact Ev.now _
theorem mask_is : ∀ j : Fin 8, shl .u8 1 (j.val : Int) = ((1 <<< j.val : Nat) : Int) := by decide
theorem num_turn {l : List Int} (hl : By l) (p : Nat) (hp : p < 8 * l.length) : num (turn l (p : Int)) = num l ^^^ (1 <<< p) ∧ By (turn l (p : Int)) := by
 unfold turn
 have hq : ((p : Int) / 8).toNat = p / 8 := by omega
 have hi : p / 8 < l.length := by omega
 have hm := mask_is ⟨p % 8, by omega⟩
 have hm : shl .u8 1 ((p : Int) % 8) = ((1 <<< (p % 8) : Nat) : Int) := by
  rw [show (p : Int) % 8 = ((p % 8 : Nat) : Int) by omega]; exact hm
 have hb := mask_bd ⟨p % 8, by omega⟩
 have hb : 0 ≤ ((1 <<< (p % 8) : Nat) : Int) ∧ ((1 <<< (p % 8) : Nat) : Int) < 256 := by
  rw [← hm, show (p : Int) % 8 = ((p % 8 : Nat) : Int) by omega]; exact hb
 have hv : l.getD (p / 8) 0 = l[p / 8] := by rw [List.getD_eq_getElem?_getD, List.getElem?_eq_getElem hi]; rfl
 have hvb := hl _ (List.getElem_mem hi)
 rw [if_pos (by omega), hq, hv, hm]
 have hx := xor_bd l[p / 8] _ hvb.1 (by omega) hb.1 hb.2
 constructor
 ·rw [u8_xor _ _ hvb.1 (by omega) hb.1 hb.2, Int.toNat_natCast, num_set l (p / 8) hi _ _ rfl, ← Nat.shiftLeft_add]
  congr 2
  omega
 ·intro c hc
  rcases List.mem_or_eq_of_mem_set hc with hc | rfl
  ·exact hl c hc
  ·omega
theorem wr1 (j : Nat) (h : j ≤ 32) : wrap64 ((j : Int) + 1) = ((j + 1 : Nat) : Int) := wrap_nat j (by omega)
theorem wr3 (F j : Nat) (h1 : F ≤ 20000) (h2 : j ≤ 32) : wrap64 ((F : Int) + (j : Int)) = ((F + j : Nat) : Int) := by
 rw [wrap_id _ (by omega) (by omega)]
 omega
theorem wu (j : Nat) (h : j ≤ 32) : IntKind.u64.wrap (j : Int) = (j : Int) := by
 rw [IntKind.wrap_u64]
 omega
theorem c65 (F j : Nat) (h1 : F ≤ 20000) (h2 : j ≤ 32) : ((F + j : Nat) : Int) ≤ 65535 := by omega
theorem burst_l {c0 l : List Int} (e0 : c0 = sealed l) (hl : By l) (hn : l.length ≤ 2000) (F : Nat) (hF : F < 8 * c0.length) (bits : Int) : ∀ (m j B t : Nat) (c : List Int), j + m = 32 → c.length = c0.length → By c → num c = num c0 ^^^ (B <<< F) → B < 2 ^ j → (t = 0 ↔ B = 0) → (B = 0 → c = c0) → t ≤ j →
  Ev (fun k => law02_SealBursts.l0 k bits c ((8 * c0.length : Nat) : Int) (F : Int) (t : Int) (j : Int)) true := by
 have hlen : c0.length = l.length + 4 := by rw [e0]; exact sealed_len l
 intro m
 induction m with
 | zero =>
  intro j B t c hj hcl hcb hnum hB ht hB0 htj
  have hj32 : j = 32 := by omega
  subst hj32
  refine Ev.step (fun k => by rw [law02_SealBursts.l0]) ?_
  have h1 : ¬ (((32 : Nat) : Int) < 32) := by omega
  simp only [h1, ↓reduceIte]
  by_cases hb : B = 0
  ·have hc := hB0 hb
   subst hc
   have t0 := ht.2 hb
   subst t0
   rw [e0]
   refine Ev.bind (ev_Open_sealed l (by omega)) ?_
   exact Ev.now _
  ·have hne : sumN c 4294967295 ≠ R0 := by
    rw [← res_sealed hl, ← e0, sumN_num c, sumN_num c0, hcl, hnum, ← Nat.xor_assoc, stnN_xor]
    intro e
    have e2 : stnN (8 * c0.length) (B <<< F) = 0 := by
     have := congrArg (stnN (8 * c0.length) (4294967295 ^^^ num c0) ^^^ ·) e
     simp only [← Nat.xor_assoc, Nat.xor_self, Nat.zero_xor] at this
     exact this
    have hs := stnN_shift F (8 * c0.length - F) B
    rw [Nat.sub_add_cancel (by omega), e2] at hs
    exact stnN_ne _ (by simpa using hB) hb hs.symm
   obtain ⟨p, hp⟩ := open_bad hcb (by omega) (by omega) hne
   refine Ev.bind hp ?_
   have ht0 : ¬ t = 0 := fun h => hb (ht.1 h)
   have ht1 : ((t : Int) == 0) = false := beq_false_of_ne (by omega)
   refine Ev.cast (Ev.now _) ?_
   show (((5 : Int) == 0) == ((t : Int) == 0)) = true
   rw [ht1]; rfl
 | succ m ih =>
  intro j B t c hj hcl hcb hnum hB ht hB0 htj
  have h1 : (j : Int) < 32 := by omega
  have hj33 : j ≤ 32 := by omega
  have hF2 : F ≤ 20000 := by omega
  have ht33 : t ≤ 32 := by omega
  have hc1 : c.length < 1099511627776 := by omega
  have hjm : j + 1 + m = 32 := by omega
  have hB2 : B < 2 ^ (j + 1) := Nat.lt_of_lt_of_le hB (Nat.pow_le_pow_right (by decide) (Nat.le_succ j))
  have same := ih (j + 1) B t c hjm hcl hcb hnum hB2 ht hB0 (Nat.le_succ_of_le htj)
  have hne : ¬ B ^^^ (1 <<< j) = 0 := fun h => by
   have hE : B = 1 <<< j := by
    have := congrArg (· ^^^ (1 <<< j)) h
    simp only [Nat.xor_assoc, Nat.xor_self, Nat.xor_zero, Nat.zero_xor] at this
    exact this
   rw [Nat.one_shiftLeft] at hE
   rw [hE] at hB
   exact Nat.lt_irrefl _ hB
  have hBx : B ^^^ (1 <<< j) < 2 ^ (j + 1) := Nat.xor_lt_two_pow hB2 (by rw [Nat.one_shiftLeft]; exact Nat.pow_lt_pow_right (by decide) (Nat.lt_succ_self j))
  have h2 : (0 : Int) ≤ (j : Int) := Int.natCast_nonneg _
  have hu := wu j hj33
  have hw1 := wr1 j hj33
  have hw2 := wr1 t ht33
  have hw3 := wr3 F j hF2 hj33
  refine Ev.step (fun k => by rw [law02_SealBursts.l0]) ?_
  simp only [h1, hu, h2, hw1, hw2, hw3, ↓reduceIte]
  by_cases hbit : Go.bits .and .u32 (shr .u32 bits (j : Int)) 1 = 1
  ·simp only [hbit, ↓reduceIte]
   by_cases hin : ((F + j : Nat) : Int) < ((8 * c0.length : Nat) : Int)
   ·simp only [hin, ↓reduceIte]
    have hlt : F + j < 8 * c.length := by rw [hcl]; exact Int.ofNat_lt.1 hin
    obtain ⟨g1, g2⟩ := num_turn hcb (F + j) hlt
    rw [turn_is c ((F + j : Nat) : Int) (Int.natCast_nonneg _) (c65 F j hF2 hj33) hc1]
    simp only [Option.bind_some]
    refine ih (j + 1) (B ^^^ (1 <<< j)) (t + 1) (turn c ((F + j : Nat) : Int)) hjm (by rw [turn_len]; exact hcl) g2 ?_ hBx ⟨fun h => absurd h (Nat.succ_ne_zero t), fun h => absurd h hne⟩ (fun h => absurd h hne) (Nat.succ_le_succ htj)
    rw [g1, hnum, Nat.shiftLeft_xor_distrib, ← Nat.shiftLeft_add, Nat.xor_assoc, Nat.add_comm j F]
   ·simp only [hin, ↓reduceIte]
    exact same
  ·simp only [hbit, ↓reduceIte]
   exact same
theorem SealBursts : law02_SealBursts.Pure := by
 intro l a bits _ _ wl wa _
 refine Ev.rounds (r := true) ?_
 unfold law02_SealBursts.f
 refine Ev.bind alive02 ?_
 simp only [↓reduceIte]
 by_cases hg : (l.length : Int) > 2000
 ·simp only [hg, ↓reduceIte]
  exact Ev.now _
 ·have hn : l.length ≤ 2000 := by omega
  have hl : By l := fun x hx => u8_bd (wl x hx)
  have hlen := sealed_len l
  have hw : wrap64 ((l.length : Int) + 4) = (l.length : Int) + 4 := wrap_id _ (by omega) (by omega)
  have hle : ((sealed l).length : Int) = (l.length : Int) + 4 := by rw [hlen]; omega
  have hne : (((l.length : Int) + 4) != ((l.length : Int) + 4)) = false := bne_self_eq_false _
  simp only [hg, ↓reduceIte]
  refine Ev.bind (ev_Seal l (by omega)) (Ev.bind (ev_Open_sealed l (by omega)) ?_)
  simp only [↓reduceIte, same_true, Option.bind_some, hw, hle, hne]
  refine Ev.step (fun k => by rw [law02_SealBursts.j0]) ?_
  have h8 : wrap64 (8 * ((sealed l).length : Int)) = ((8 * (sealed l).length : Nat) : Int) := by rw [wrap_id _ (by omega) (by omega)]; omega
  have hnz : ¬ (((8 * (sealed l).length : Nat) : Int) = 0) := by omega
  have ha := u16_bd wa
  have hwa : wrap64 a = a := wrap_id _ (by omega) (by omega)
  have htm : Int.tmod a ((8 * (sealed l).length : Nat) : Int) = (((a.toNat % (8 * (sealed l).length)) : Nat) : Int) := by
   rw [Int.tmod_eq_emod_of_nonneg ha.1]
   have : a = ((a.toNat : Nat) : Int) := by omega
   rw [this, Int.toNat_natCast]
   exact (Int.natCast_emod _ _).symm
  simp only [Bool.false_eq_true, ↓reduceIte, h8, hnz, hwa, htm]
  exact burst_l rfl hl hn _ (Nat.mod_lt _ (by omega)) bits 32 0 0 0 (sealed l) rfl rfl (sealed_by hl) (by rw [Nat.zero_shiftLeft, Nat.xor_zero]) (by decide) (by simp) (fun _ => rfl) (Nat.le_refl _)
end Go.Proofs.Ytfaiapmckimjeaa.Pure

/- SealSums' plain law: any bytes' sum is the document's, and they are sealed, opened, and turned as it says: for all bytes and bits. No condition. -/
import Derived.Test.YtfaiapmckimjeaaPLaw02SealSums
import Derived.Test.YtfaiapmckimjeaaPlC
import Derived.Lib.Bytes
namespace Go.Proofs.Ytfaiapmckimjeaa.Pure
open Go.RowKit Go.Proofs.Ytfaiapmckimjeaa.P Go.Proofs.YtfaiapmckimjeaaW.PrintWords Go.Proofs.YtfaiapmckimjeaaW.PrintLast Go.Proofs.YtfaiapmckimjeaaW.PrintMore Go.Proofs.Ytfaiapmckimjeaa.Pl
set_option linter.unusedSimpArgs false
set_option linter.unusedVariables false
def st1N (s : Nat) : Nat := s / 2 ^^^ (if s % 2 = 1 then 2197175160 else 0)
def stnN : Nat → Nat → Nat
 | 0, s => s
 | n + 1, s => stnN n (st1N s)
theorem st1N_lt {s : Nat} (h : s < 4294967296) : st1N s < 4294967296 := by
 unfold st1N
 refine Nat.xor_lt_two_pow (n := 32) (by omega) ?_
 split <;> omega
theorem stnN_lt : ∀ (n : Nat) {s : Nat}, s < 4294967296 → stnN n s < 4294967296
 | 0, _, h => h
 | n + 1, _, h => stnN_lt n (st1N_lt h)
theorem st1_nat (s : Nat) (h : s < 4294967296) : st1 (s : Int) = ((st1N s : Nat) : Int) := by
 unfold st1
 have h2 : Go.bits .and .u32 (s : Int) 1 = ((s % 2 : Nat) : Int) := by
  have := u32_and_nat s 1 h (by omega)
  rw [Nat.and_one_is_mod] at this
  exact this
 have h1 : (s : Int) / 2 = ((s / 2 : Nat) : Int) := by omega
 have c0 : Go.bits .and .u32 2197175160 0 = 0 := by decide
 have c1 : Go.bits .and .u32 2197175160 4294967295 = 2197175160 := by decide
 rw [h2, h1]
 have hs : s % 2 = 0 ∨ s % 2 = 1 := by omega
 unfold st1N
 rcases hs with hs | hs
 ·rw [hs, if_neg (by decide), show (-((0 : Nat) : Int)) % 4294967296 = 0 by decide, c0]
  exact u32_xor_nat (s / 2) 0 (by omega) (by omega)
 ·rw [hs, if_pos rfl, show (-((1 : Nat) : Int)) % 4294967296 = 4294967295 by decide, c1]
  exact u32_xor_nat (s / 2) 2197175160 (by omega) (by omega)
theorem stn_nat : ∀ (n s : Nat), s < 4294967296 → stn n (s : Int) = ((stnN n s : Nat) : Int)
 | 0, s, h => rfl
 | n + 1, s, h => by
  show stn n (st1 (s : Int)) = ((stnN n (st1N s) : Nat) : Int)
  rw [st1_nat s h, stn_nat n _ (st1N_lt h)]
def By (l : List Int) : Prop := ∀ c ∈ l, 0 ≤ c ∧ c ≤ 255
theorem xor_c (s : Nat) (h : s < 4294967296) (c : Int) (h0 : 0 ≤ c) (h1 : c ≤ 255) : Go.bits .xor .u32 (s : Int) (c % 4294967296) = ((s ^^^ c.toNat : Nat) : Int) ∧ s ^^^ c.toNat < 4294967296 := by
 refine ⟨?_, Nat.xor_lt_two_pow (n := 32) (by omega) (by omega)⟩
 rw [show c % 4294967296 = ((c.toNat : Nat) : Int) by omega]
 exact u32_xor_nat s c.toNat h (by omega)
/-! ### the document's sum -/
theorem tm2 (s : Nat) : Int.tmod (s : Int) 2 = ((s % 2 : Nat) : Int) := by rw [Int.tmod_eq_emod_of_nonneg (Int.natCast_nonneg s)]; omega
theorem td2 (s : Nat) (h : s < 4294967296) : Int.tdiv (s : Int) 2 % 4294967296 = ((s / 2 : Nat) : Int) := by rw [Int.tdiv_eq_ediv_of_nonneg (Int.natCast_nonneg s)]; omega
theorem rsum_l1 (x0 : List Int) (x4 r : Int) : ∀ (m : Nat) (s : Nat) (j : Int), s < 4294967296 → j = 8 - (m : Int) → m ≤ 8 → Ev (fun k => ref02_Sum.l0 k x0 ((stnN m s : Nat) : Int) (wrap64 (x4 + 1))) r → Ev (fun k => ref02_Sum.l1 k x0 (s : Int) x4 j) r := by
 intro m
 induction m with
 | zero =>
  intro s j hs hj _ h
  have hn : ¬ j < 8 := by omega
  refine Ev.step (fun k => by rw [ref02_Sum.l1]) ?_
  simp only [hn, ↓reduceIte]
  exact h
 | succ m ih =>
  intro s j hs hj hm h
  have hn : j < 8 := by omega
  have hw : wrap64 (j + 1) = j + 1 := wrap_id _ (by omega) (by omega)
  refine Ev.step (fun k => by rw [ref02_Sum.l1]) ?_
  have hx : Go.bits .xor .u32 ((s / 2 : Nat) : Int) 2197175160 = ((s / 2 ^^^ 2197175160 : Nat) : Int) := u32_xor_nat (s / 2) 2197175160 (by omega) (by omega)
  have i := ih (st1N s) (j + 1) (st1N_lt hs) (by omega) (by omega) h
  by_cases h2 : s % 2 = 1
  ·have e : st1N s = s / 2 ^^^ 2197175160 := by unfold st1N; rw [if_pos h2]
   have h3 : ((s % 2 : Nat) : Int) = 1 := by omega
   simp only [hn, ↓reduceIte, hw, tm2, td2 s hs, h3, hx]
   rw [e] at i
   exact i
  ·have e : st1N s = s / 2 := by unfold st1N; rw [if_neg h2, Nat.xor_zero]
   have h3 : ¬ ((s % 2 : Nat) : Int) = 1 := by omega
   simp only [hn, ↓reduceIte, hw, tm2, td2 s hs, h3]
   rw [e] at i
   exact i
theorem rsum_l0 (suf : List Int) : ∀ (pre : List Int) (s : Nat), s < 4294967296 → By suf → (pre ++ suf).length < 4611686018427387904 → Ev (fun k => ref02_Sum.l0 k (pre ++ suf) (s : Int) (pre.length : Int)) (Go.bits .xor .u32 4294967295 (sumL suf (s : Int))) := by
 induction suf with
 | nil =>
  intro pre s hs hb h
  refine Ev.step (fun k => by rw [ref02_Sum.l0]) ?_
  simp only [end_ge, ↓reduceIte]
  exact Ev.now _
 | cons c suf ih =>
  intro pre s hs hb h
  have hc := hb c List.mem_cons_self
  obtain ⟨e1, e2⟩ := xor_c s hs c hc.1 hc.2
  have i := ih (pre ++ [c]) (stnN 8 (s ^^^ c.toNat)) (stnN_lt 8 e2) (fun x hx => hb x (List.mem_cons_of_mem _ hx)) (by rw [← List.append_cons]; exact h)
  rw [← List.append_cons pre c suf] at i
  have e3 : sumL (c :: suf) (s : Int) = sumL suf ((stnN 8 (s ^^^ c.toNat) : Nat) : Int) := by
   show sumL suf (stn 8 (Go.bits .xor .u32 (s : Int) (c % 4294967296))) = _
   rw [e1, stn_nat 8 _ e2]
  rw [e3]
  refine Ev.step (fun k => by rw [ref02_Sum.l0]) ?_
  simp only [mid_lt, nat_ge, rdI, ↓reduceIte, e1]
  refine rsum_l1 _ _ _ 8 _ 0 e2 (by omega) (Nat.le_refl _) ?_
  rw [mid_next pre c suf (by omega)]
  exact i
theorem ev_RSum (l : List Int) (hb : By l) (h : l.length < 4611686018427387904) : Ev (fun k => ref02_Sum.f k l) (sumS l) := rsum_l0 l [] 4294967295 (by omega) hb h
theorem sumL_lt : ∀ (l : List Int) (s : Nat), s < 4294967296 → By l → ∃ t : Nat, t < 4294967296 ∧ sumL l (s : Int) = (t : Int)
 | [], s, h, _ => ⟨s, h, rfl⟩
 | c :: l, s, h, hb => by
  have hc := hb c List.mem_cons_self
  obtain ⟨e1, e2⟩ := xor_c s h c hc.1 hc.2
  obtain ⟨t, h1, h2⟩ := sumL_lt l (stnN 8 (s ^^^ c.toNat)) (stnN_lt 8 e2) (fun x hx => hb x (List.mem_cons_of_mem _ hx))
  refine ⟨t, h1, ?_⟩
  show sumL l (stn 8 (Go.bits .xor .u32 (s : Int) (c % 4294967296))) = _
  rw [e1, stn_nat 8 _ e2]
  exact h2
theorem sumS_lt (l : List Int) (hb : By l) : ∃ t : Nat, t < 4294967296 ∧ sumS l = (t : Int) := by
 obtain ⟨t, h1, h2⟩ := sumL_lt l 4294967295 (by omega) hb
 refine ⟨4294967295 ^^^ t, Nat.xor_lt_two_pow (n := 32) (by omega) (by omega), ?_⟩
 unfold sumS
 have h2 : sumL l 4294967295 = (t : Int) := h2
 rw [h2]
 exact u32_xor_nat 4294967295 t (by omega) h1
/-! ### the document's seal -/
theorem tm256 (s : Nat) : Int.tmod (s : Int) 256 % 256 = ((s % 256 : Nat) : Int) := by rw [Int.tmod_eq_emod_of_nonneg (Int.natCast_nonneg s)]; omega
theorem td256 (s : Nat) (h : s < 4294967296) : Int.tdiv (s : Int) 256 % 4294967296 = ((s / 256 : Nat) : Int) := by rw [Int.tdiv_eq_ediv_of_nonneg (Int.natCast_nonneg s)]; omega
def lows : Nat → Nat → List Int
 | 0, _ => []
 | m + 1, s => ((s % 256 : Nat) : Int) :: lows m (s / 256)
theorem rseal_l0 : ∀ (m : Nat) (x : List Int) (s : Nat) (j : Int), s < 4294967296 → j = 4 - (m : Int) → m ≤ 4 → x.length + m < 1099511627776 → Ev (fun k => ref02_Seal.l0 k x (s : Int) j) (x ++ lows m s) := by
 intro m
 induction m with
 | zero =>
  intro x s j hs hj _ hx
  have hn : ¬ j < 4 := by omega
  refine Ev.step (fun k => by rw [ref02_Seal.l0]) ?_
  simp only [hn, ↓reduceIte]
  exact Ev.cast (Ev.now _) (by unfold lows; rw [List.append_nil])
 | succ m ih =>
  intro x s j hs hj hm hx
  have hn : j < 4 := by omega
  have hw : wrap64 (j + 1) = j + 1 := wrap_id _ (by omega) (by omega)
  have hlx : x.length < 140737488355328 := by omega
  refine Ev.step (fun k => by rw [ref02_Seal.l0]) ?_
  simp only [hn, ↓reduceIte, hw, tm256, td256 s hs, hlx]
  have i := ih (x ++ [((s % 256 : Nat) : Int)]) (s / 256) (j + 1) (by omega) (by omega) (by omega) (by rw [List.length_append]; show x.length + 1 + m < _; omega)
  exact Ev.cast i (by rw [List.append_assoc]; rfl)
theorem ev_RSeal (l : List Int) (hb : By l) (h : l.length < 1099511627000) : Ev (fun k => ref02_Seal.f k l) (sealed l) := by
 obtain ⟨t, h1, h2⟩ := sumS_lt l hb
 unfold ref02_Seal.f
 have hl : ([] : List Int).length + l.length < 140737488355328 := by simp; omega
 simp only [Option.bind_some, hl, ↓reduceIte, List.nil_append]
 refine Ev.bind (ev_RSum l hb (by omega)) ?_
 rw [h2]
 refine Ev.cast (rseal_l0 4 l t 0 h1 (by omega) (Nat.le_refl _) (by omega)) ?_
 unfold sealed
 rw [h2]
 unfold quad lows lows lows lows lows
 rw [show (t : Int) % 256 = ((t % 256 : Nat) : Int) by omega, show (t : Int) / 256 % 256 = ((t / 256 % 256 : Nat) : Int) by omega, show (t : Int) / 65536 % 256 = ((t / 256 / 256 % 256 : Nat) : Int) by omega, show (t : Int) / 16777216 % 256 = ((t / 256 / 256 / 256 % 256 : Nat) : Int) by omega]
/-! ### opening -/
theorem quad_by (s : Int) : By (quad s) := fun c hc => by
 unfold quad at hc
 simp only [List.mem_cons, List.not_mem_nil, or_false] at hc
 rcases hc with rfl | rfl | rfl | rfl <;> omega
theorem sealed_by {l : List Int} (h : By l) : By (sealed l) := fun c hc => by
 unfold sealed at hc
 rcases List.mem_append.1 hc with hc | hc
 ·exact h c hc
 ·exact quad_by _ c hc
theorem take_by {l : List Int} (h : By l) (n : Nat) : By (l.take n) := fun x hx => h x (List.mem_of_mem_take hx)
theorem str_inj : ∀ (a b : List Int), By a → By b → a.map (fun n : Int => UInt8.ofNat n.toNat) = b.map (fun n : Int => UInt8.ofNat n.toNat) → a = b
 | [], [], _, _, _ => rfl
 | [], _ :: _, _, _, h => by simp at h
 | _ :: _, [], _, _, h => by simp at h
 | x :: a, y :: b, ha, hb, h => by
  have h := List.cons.inj h
  have hx := ha x List.mem_cons_self
  have hy := hb y List.mem_cons_self
  have e := congrArg UInt8.toNat h.1
  rw [UInt8.toNat_ofNat', UInt8.toNat_ofNat'] at e
  rw [str_inj a b (fun c hc => ha c (List.mem_cons_of_mem _ hc)) (fun c hc => hb c (List.mem_cons_of_mem _ hc)) h.2]
  congr 1
  omega
theorem str_iff (a b : List Int) (ha : By a) (hb : By b) : (strOfNums a).toList = (strOfNums b).toList ↔ a = b :=
 ⟨fun h => str_inj a b ha hb (by rw [Go.Lib.strOfNums_toList, Go.Lib.strOfNums_toList] at h; exact h), fun h => by rw [h]⟩
theorem ev_equal_any_l0 (sa : List Int) : ∀ (sb pa pb : List Int), pa.length = pb.length → sa.length = sb.length → (pa ++ sa).length < 4611686018427387904 →
  ∃ r, Ev (fun k => slices_Equal_byte_byte.l0 k (pa ++ sa) (pb ++ sb) ((pa ++ sa).length : Int) (pa.length : Int)) r ∧ (r = true ↔ sa = sb) := by
 induction sa with
 | nil =>
  intro sb pa pb hp hs h
  have : sb = [] := List.eq_nil_of_length_eq_zero (by simpa using hs.symm)
  subst this
  refine ⟨true, Ev.step (fun k => by rw [slices_Equal_byte_byte.l0]) ?_, by simp⟩
  simp only [end_ge, ↓reduceIte]
  exact Ev.now _
 | cons x sa ih =>
  intro sb pa pb hp hs h
  match sb, hs with
  | y :: sb, hs =>
   have r2 : rd (pb ++ y :: sb) (pa.length : Int) = y := by rw [hp]; exact rdI pb y sb
   have l2 : (pa.length : Int) < ((pb ++ y :: sb).length : Int) := by rw [hp]; exact mid_lt pb y sb
   by_cases hxy : x = y
   ·subst hxy
    obtain ⟨r, h1, h2⟩ := ih sb (pa ++ [x]) (pb ++ [x]) (by simp [hp]) (by simpa using hs) (by rw [← List.append_cons]; exact h)
    refine ⟨r, Ev.step (fun k => by rw [slices_Equal_byte_byte.l0]) ?_, ?_⟩
    ·simp only [mid_lt, l2, nat_ge, ↓reduceIte, rdI, r2, mid_next pa x sa (by omega)]
     rw [← List.append_cons pa x sa, ← List.append_cons pb x sb] at h1
     exact h1
    ·rw [h2]; simp
   ·refine ⟨false, Ev.step (fun k => by rw [slices_Equal_byte_byte.l0]) ?_, ?_⟩
    ·simp only [mid_lt, l2, nat_ge, ↓reduceIte, rdI, r2, hxy]
     exact Ev.now _
    ·simp [hxy]
theorem ev_equal_any (a b : List Int) (h : a.length < 4611686018427387904) : ∃ r, Ev (fun k => slices_Equal_byte_byte.f k a b) r ∧ (r = true ↔ a = b) := by
 unfold slices_Equal_byte_byte.f
 by_cases hl : (a.length : Int) = (b.length : Int)
 ·obtain ⟨r, h1, h2⟩ := ev_equal_any_l0 a b [] [] rfl (by omega) h
  refine ⟨r, ?_, h2⟩
  simp only [hl, ↓reduceIte]
  rw [← hl]
  exact h1
 ·refine ⟨false, ?_, ⟨fun e => absurd e (by decide), fun e => absurd (by rw [e]) hl⟩⟩
  simp only [hl, ↓reduceIte]
  exact Ev.now _
theorem open_both (c : List Int) (hc : By c) (hn : c.length < 1099511627000) : ∃ p, Ev (fun k => seal_Open.f k c) p ∧ Ev (fun k => ref02_Open.f k c) p := by
 unfold seal_Open.f ref02_Open.f
 by_cases h4 : (c.length : Int) < 4
 ·refine ⟨([], 2), ?_, ?_⟩
  ·have hw : wrap64 ((c.length : Int) - 4) < 0 := by rw [wrap_id _ (by omega) (by omega)]; omega
   simp only [hw, ↓reduceIte]
   exact Ev.now _
  ·simp only [h4, ↓reduceIte]
   exact Ev.now _
 ·have hw : wrap64 ((c.length : Int) - 4) = ((c.length - 4 : Nat) : Int) := by rw [wrap_id _ (by omega) (by omega)]; omega
  have h1 : ¬ (((c.length - 4 : Nat) : Int) < 0) := by omega
  have h2 : ((c.length - 4 : Nat) : Int) ≤ (c.length : Int) := by omega
  have h3 : (0 : Int) ≤ ((c.length - 4 : Nat) : Int) := by omega
  have htl : (c.take (c.length - 4)).length < 1099511627000 := by rw [List.length_take]; omega
  have htb := take_by hc (c.length - 4)
  obtain ⟨r, er, qr⟩ := ev_equal_any (sealed (c.take (c.length - 4))) c (by rw [sealed_len]; omega)
  have hs := str_iff (sealed (c.take (c.length - 4))) c (sealed_by htb) hc
  refine ⟨if r = true then (c.take (c.length - 4), 0) else ([], 5), ?_, ?_⟩
  ·simp only [hw, h1, h2, h3, ↓reduceIte, Int.toNat_natCast]
   refine Ev.bind (ev_Seal (c.take (c.length - 4)) (by omega)) (Ev.bind er ?_)
   cases r <;> exact Ev.now _
  ·simp only [h4, ↓reduceIte]
   refine Ev.bind (ev_RSeal (c.take (c.length - 4)) htb htl) ?_
   by_cases he : sealed (c.take (c.length - 4)) = c
   ·rw [if_pos (hs.2 he), if_pos (qr.2 he)]
    exact Ev.now _
   ·rw [if_neg (fun e => he (hs.1 e)), if_neg (fun e => he (qr.1 e))]
    exact Ev.now _
/-! ### turning -/
theorem i64_bd {a : Int} (h : (Lit.int .i64 a).wf = true) : -9223372036854775808 ≤ a ∧ a ≤ 9223372036854775807 := by
 simp [Lit.wf, IntKind.min, IntKind.max, IntKind.bits, IntKind.signed] at h
 omega
theorem turn_both (l : List Int) (a : Int) (ha : (Lit.int .i64 a).wf = true) (h : l.length < 1099511627776) : ∃ r, seal_Turn.f l a = some r ∧ ref02_Turn.f l a = some r := by
 have hb := i64_bd ha
 unfold seal_Turn.f ref02_Turn.f slices_Clone_byte_byte.f
 have hl1 : l.length < 140737488355328 := by omega
 have hl2 : ([] : List Int).length + l.length < 140737488355328 := by simp; omega
 simp only [hl1, hl2, ↓reduceIte, Option.bind_some, List.nil_append]
 by_cases h0 : a ≥ 0
 ·have e1 : Int.tdiv a 8 = a / 8 := Int.tdiv_eq_ediv_of_nonneg h0
  have e2 : Int.tmod a 8 = a % 8 := Int.tmod_eq_emod_of_nonneg h0
  have hw : wrap64 (a / 8) = a / 8 := wrap_id _ (by omega) (by omega)
  have h2 : 0 ≤ a / 8 := by omega
  have h3 : 0 ≤ a % 8 := by omega
  have hu : IntKind.u64.wrap (a % 8) = a % 8 := by rw [IntKind.wrap_u64]; omega
  simp only [h0, e1, e2, hw, h2, h3, hu, ↓reduceIte]
  by_cases hl : a / 8 < (l.length : Int)
  ·simp only [hl, ↓reduceIte]
   exact ⟨_, rfl, rfl⟩
  ·simp only [hl, ↓reduceIte]
   exact ⟨_, rfl, rfl⟩
 ·simp only [h0, ↓reduceIte]
  exact ⟨_, rfl, rfl⟩
theorem SealSums : law02_SealSums.Pure := by
 intro l a _ _ wl wa
 refine Ev.rounds (r := true) ?_
 unfold law02_SealSums.f
 refine Ev.bind alive02 ?_
 simp only [↓reduceIte]
 by_cases hg : (l.length : Int) > 3000
 ·simp only [hg, ↓reduceIte]
  exact Ev.now _
 ·have hl : By l := fun x hx => u8_bd (wl x hx)
  have hl2 : ([] : List Int).length + l.length < 140737488355328 := by simp; omega
  obtain ⟨p, p1, p2⟩ := open_both l hl (by omega)
  obtain ⟨t, t1, t2⟩ := turn_both l a wa (by omega)
  simp only [hg, ↓reduceIte, hl2, Option.bind_some, List.nil_append]
  refine Ev.bind p1 (Ev.bind p2 (Ev.bind (ev_Sum l (by omega)) (Ev.bind (ev_RSum l hl (by omega)) ?_)))
  simp only [↓reduceIte]
  refine Ev.bind (ev_Seal l (by omega)) (Ev.bind (ev_RSeal l hl (by omega)) ?_)
  simp only [↓reduceIte, same_true, Option.bind_some, t1, t2]
  exact Ev.now _
end Go.Proofs.Ytfaiapmckimjeaa.Pure

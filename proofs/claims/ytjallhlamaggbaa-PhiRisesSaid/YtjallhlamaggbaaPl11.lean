/- The plain law of the level of strangeness and its bound: what the printed functions of this seat compute, as whole numbers. No program runs here. No condition. -/
import Derived.Test.YtjallhlamaggbaaPPhiFirst
import Derived.Test.YtjallhlamaggbaaPPhiSuspect
import Derived.Test.YtjallhlamaggbaaPPhiBound
import Derived.Test.YtjallhlamaggbaaPRef10Arrive
import Derived.Test.YtjallhlamaggbaaPRef10Mean
import Derived.Test.YtjallhlamaggbaaPlMean
import Derived.Test.YtjallhlamaggbaaPlRef09A
import Derived.Laws.MathBits
import Derived.IntWalk
namespace Go.Proofs.Ytjallhlamaggbaa.Pl11
open Go.RowKit Go.Proofs.Ytjallhlamaggbaa.P Go.Proofs.YtjallhlamaggbaaW.PrintWords Go.Proofs.YtjallhlamaggbaaW.PrintLast Go.Proofs.YtjallhlamaggbaaW.PrintMore Go.Proofs.Ytjallhlamaggbaa.Pl09
set_option linter.unusedSimpArgs false
set_option linter.unusedVariables false
theorem mul64 (x y : Int) (hx0 : 0 ≤ x) (hx : x < 18446744073709551616) (hy0 : 0 ≤ y) (hy : y < 18446744073709551616) :
  bits_Mul64.f x y = some (x * y / 18446744073709551616, x * y % 18446744073709551616) := by
 unfold bits_Mul64.f
 rw [and_low32 x hx0 hx, and_low32 y hy0 hy]
 simp only [IntKind.wrap_u64]
 rw [and_low32 _ (Int.emod_nonneg _ (by decide)) (Int.emod_lt_of_pos _ (by decide))]
 rw [mul64_arith x y hx0 hx hy0 hy]
/-- What MulDiv answers where the product is below 2^64. -/
theorem muldiv (k : Nat) (a b c : Int) (ha0 : 0 ≤ a) (ha : a ≤ 9223372036854775807) (hb0 : 0 ≤ b) (hb : b ≤ 9223372036854775807) (hc0 : 1 ≤ c) (hc : c ≤ 9223372036854775807)
  (hp : a * b ≤ 18446744073709551615) : ratio_MulDiv.f (k + 1) a b c = some (if a * b / c > 4611686018427387904 then (0, 8) else (a * b / c, 0)) := by
 have hp0 : 0 ≤ a * b := Int.mul_nonneg ha0 hb0
 have hq0 : 0 ≤ a * b / c := Int.ediv_nonneg hp0 (by omega)
 have hhi : a * b / 18446744073709551616 = 0 := by omega
 have hlo : a * b % 18446744073709551616 = a * b := by omega
 unfold ratio_MulDiv.f
 rw [if_neg (by omega), if_neg (by omega), decide_eq_false (by omega)]
 rw [ratio_MulDiv.j0, if_neg (show ¬ (false = true) by simp), u_id a ha0 (by omega), u_id b hb0 (by omega), u_id c (by omega) (by omega), mul64 a b ha0 (by omega) hb0 (by omega)]
 simp only [Option.bind_some, hhi, hlo]
 rw [if_neg (by omega), div64_0 k (a * b) c hp0 hp hc0]
 simp only [Option.bind_some]
 split
 ·rfl
 ·rw [wrap_id _ (by omega) (by omega)]
/-- A window that may be. -/
def GoodW (last : Int) (l : List Int) : Prop := -1 ≤ last ∧ last ≤ 1099511627776 ∧ l.length ≤ 16 ∧ ∀ x ∈ l, 1 ≤ x ∧ x ≤ 1099511627776
theorem right {last : Int} {l : List Int} (h : GoodW last l) : window_Right.f last l = some true := by
 obtain ⟨h1, h2, h3, h4⟩ := h
 have ha : l.any window_Right.odd = false := by
  rw [List.any_eq_false]
  intro x hx
  have := h4 x hx
  simp [window_Right.odd]
  omega
 unfold window_Right.f
 rw [ha, decide_eq_true (by omega), decide_eq_true (by omega), decide_eq_true (by omega)]
 rfl
theorem ref_right_l (last : Int) (l : List Int) (hl : l.length < 4611686018427387904) : ∀ (suf pre : List Int), pre ++ suf = l → pre.length ≤ 17 →
  ∃ r, Ev (fun k => ref10_Right.l0 k (pre.length : Int) last l) r ∧ (r = true ↔ (-1 ≤ last ∧ last ≤ 1099511627776 ∧ l.length ≤ 16 ∧ ∀ x ∈ suf, 1 ≤ x ∧ x ≤ 1099511627776)) := by
 have fin : ∀ (j : Int), ∃ r, Ev (fun k => ref10_Right.j1 k j false last l) r ∧ (r = true ↔ (-1 ≤ last ∧ last ≤ 1099511627776 ∧ l.length ≤ 16)) := by
  intro j
  by_cases h1 : last ≥ -1
  ·by_cases h2 : last ≤ 1099511627776
   ·refine ⟨decide ((l.length : Int) ≤ 16), Ev.step (fun k => by rw [ref10_Right.j1]) ?_, ?_⟩
    ·simp only [Bool.false_eq_true, h1, h2, ↓reduceIte]
     exact Ev.now _
    ·rw [decide_eq_true_iff]
     omega
   ·refine ⟨false, Ev.step (fun k => by rw [ref10_Right.j1]) ?_, ?_⟩
    ·simp only [Bool.false_eq_true, h1, h2, ↓reduceIte]
     exact Ev.now _
    ·simp only [Bool.false_eq_true, false_iff]
     omega
  ·refine ⟨false, Ev.step (fun k => by rw [ref10_Right.j1]) ?_, ?_⟩
   ·simp only [Bool.false_eq_true, h1, ↓reduceIte]
    exact Ev.now _
   ·simp only [Bool.false_eq_true, false_iff]
    omega
 intro suf
 induction suf with
 | nil =>
  intro pre e hp
  have e' : pre = l := by simpa using e
  subst e'
  obtain ⟨r, h1, h2⟩ := fin (pre.length : Int)
  refine ⟨r, Ev.step (fun k => by rw [ref10_Right.l0]) ?_, ?_⟩
  ·simp only [Int.lt_irrefl, ↓reduceIte]
   exact h1
  ·rw [h2]
   simp
 | cons x suf ih =>
  intro pre e hp
  have hlen : l.length = pre.length + (suf.length + 1) := by rw [← e]; simp
  have hrd : rd l (pre.length : Int) = x := by rw [← e]; exact rd_mid pre x suf
  by_cases h17 : pre.length < 17
  ·have e1 : wrap64 ((pre.length : Int) + 1) = ((pre ++ [x]).length : Int) := by rw [wrap_id _ (by omega) (by omega)]; simp
   by_cases hx : 1 ≤ x ∧ x ≤ 1099511627776
   ·obtain ⟨r, h1, h2⟩ := ih (pre ++ [x]) (by rw [← e]; simp) (by simp; omega)
    refine ⟨r, Ev.step (fun k => by rw [ref10_Right.l0]) ?_, ?_⟩
    ·simp only [show (pre.length : Int) < (l.length : Int) by omega, show (pre.length : Int) < 17 by omega, decide_true, ↓reduceIte]
     refine Ev.step (fun k => by rw [ref10_Right.j1]) ?_
     simp only [show (0 : Int) ≤ (pre.length : Int) by omega, show (pre.length : Int) < (l.length : Int) by omega, hrd, show ¬ x < 1 by omega, show ¬ x > 1099511627776 by omega, e1, ↓reduceIte]
     exact h1
    ·rw [h2]
     constructor
     ·rintro ⟨a, b, c, d⟩
      refine ⟨a, b, c, fun y hy => ?_⟩
      rcases List.mem_cons.1 hy with rfl | hy
      ·exact hx
      ·exact d y hy
     ·rintro ⟨a, b, c, d⟩
      exact ⟨a, b, c, fun y hy => d y (by simp [hy])⟩
   ·refine ⟨false, Ev.step (fun k => by rw [ref10_Right.l0]) ?_, ?_⟩
    ·simp only [show (pre.length : Int) < (l.length : Int) by omega, show (pre.length : Int) < 17 by omega, decide_true, ↓reduceIte]
     refine Ev.step (fun k => by rw [ref10_Right.j1]) ?_
     by_cases hx1 : x < 1
     ·simp only [show (0 : Int) ≤ (pre.length : Int) by omega, show (pre.length : Int) < (l.length : Int) by omega, hrd, hx1, ↓reduceIte]
      exact Ev.now _
     ·simp only [show (0 : Int) ≤ (pre.length : Int) by omega, show (pre.length : Int) < (l.length : Int) by omega, hrd, hx1, show x > 1099511627776 by omega, ↓reduceIte]
      exact Ev.now _
    ·simp only [Bool.false_eq_true, false_iff]
     rintro ⟨a, b, c, d⟩
     exact hx (d x (by simp))
  ·obtain ⟨r, h1, h2⟩ := fin (pre.length : Int)
   refine ⟨r, Ev.step (fun k => by rw [ref10_Right.l0]) ?_, ?_⟩
   ·simp only [show (pre.length : Int) < (l.length : Int) by omega, show ¬ (pre.length : Int) < 17 by omega, decide_false, ↓reduceIte]
    exact h1
   ·rw [h2]
    constructor
    ·rintro ⟨a, b, c⟩
     omega
    ·rintro ⟨a, b, c, d⟩
     omega
theorem ref_right (last : Int) (l : List Int) (hl : l.length < 4611686018427387904) : ∃ r, Ev (fun k => ref10_Right.f k last l) r ∧ (r = true ↔ GoodW last l) := by
 unfold ref10_Right.f
 exact ref_right_l last l hl l [] rfl (by simp)
theorem ref_right_good {last : Int} {l : List Int} (h : GoodW last l) : Ev (fun k => ref10_Right.f k last l) true := by
 obtain ⟨r, h1, h2⟩ := ref_right last l (by have := h.2.2.1; omega)
 rw [h2.2 h] at h1
 exact h1
/-! ### means -/
def wm (l : List Int) (boot : Int) : Int := if l.length = 0 then mx 1 boot else mx 1 (S l / (l.length : Int))
theorem S_bet (l : List Int) (a b : Int) (ha : 0 ≤ a) (hb : b ≤ 1125899906842624) (h : ∀ x ∈ l, a ≤ x ∧ x ≤ b) : a * (l.length : Int) ≤ S l ∧ S l ≤ b * (l.length : Int) := by
 induction l with
 | nil => simp [S]
 | cons x l ih =>
  have hx := h x (by simp)
  have i := ih (fun y hy => h y (by simp [hy]))
  have hc : cl x = x := by unfold cl; rw [if_neg (by omega), if_neg (by omega)]
  simp only [S, hc, List.length_cons]
  rw [show ((l.length + 1 : Nat) : Int) = (l.length : Int) + 1 by omega, Int.mul_add, Int.mul_add, Int.mul_one, Int.mul_one]
  omega
theorem wm_bd {last : Int} {l : List Int} (h : GoodW last l) (boot : Int) (hb : boot ≤ 9223372036854775807) : 1 ≤ wm l boot ∧ wm l boot ≤ 9223372036854775807 ∧ (boot ≤ 1099511627776 → wm l boot ≤ 1099511627776) := by
 unfold wm
 split
 ·unfold mx; split <;> omega
 ·have h2 : S l / (l.length : Int) ≤ 1099511627776 := Int.ediv_le_of_le_mul (by omega) (S_bet l 1 1099511627776 (by decide) (by decide) h.2.2.2).2
  unfold mx
  split <;> omega
theorem wmean {last : Int} {l : List Int} (h : GoodW last l) (boot : Int) : Ev (fun k => window_Mean.f k last l boot) (wm l boot) := by
 unfold window_Mean.f wm
 by_cases h0 : l.length = 0
 ·simp only [show ¬ (l.length : Int) > 0 by omega, h0, ↓reduceIte]
  exact Ev.now _
 ·simp only [show (l.length : Int) > 0 by omega, h0, ↓reduceIte]
  exact Ev.bind (mean l (by have := h.2.2.1; omega) (by omega)) (Ev.now _)
theorem ref_mean {last : Int} {l : List Int} (h : GoodW last l) (boot : Int) : Ev (fun k => ref10_Mean.f k last l boot) (wm l boot) := by
 unfold ref10_Mean.f wm
 by_cases h0 : l.length = 0
 ·simp only [show (l.length : Int) = 0 by omega, h0, ↓reduceIte]
  exact Ev.now _
 ·simp only [show ¬ (l.length : Int) = 0 by omega, h0, ↓reduceIte]
  exact Ev.bind (PlRef09A.mean l (by have := h.2.2.1; omega) (by omega)) (Ev.now _)
/-! ### the level, its bound -/
theorem level {last : Int} {l : List Int} (h : GoodW last l) (h0 : 0 ≤ last) (now boot : Int) (hn : last ≤ now) (hn1 : now ≤ 1099511627776) (hb : boot ≤ 9223372036854775807) :
  Ev (fun k => phi_Level.f k last l now boot) ((now - last) * 434 / wm l boot, 0) := by
 obtain ⟨m1, m2, _⟩ := wm_bd h boot hb
 unfold phi_Level.f
 have e1 : ¬ now < mx 0 last := by unfold mx; split <;> omega
 have e2 : ¬ now > 1099511627776 := by omega
 simp only [e1, e2, right h, Option.bind_some, Bool.not_true, ↓reduceIte]
 refine Ev.step (fun k => by rw [phi_Level.j0]) ?_
 simp only [Bool.false_eq_true, show ¬ last < 0 by omega, wrap_id (now - last) (by omega) (by omega), ↓reduceIte]
 refine Ev.bind (wmean h boot) ?_
 have hq : (now - last) * 434 / wm l boot ≤ (now - last) * 434 := Int.ediv_le_self _ (by omega)
 have hmd : Ev (fun k => ratio_MulDiv.f k (now - last) 434 (wm l boot)) ((now - last) * 434 / wm l boot, 0) := by
  refine ⟨1, fun k hk => ?_⟩
  obtain ⟨j, rfl⟩ : ∃ j, k = j + 1 := ⟨k - 1, by omega⟩
  show ratio_MulDiv.f (j + 1) _ _ _ = _
  rw [muldiv j (now - last) 434 (wm l boot) (by omega) (by omega) (by decide) (by decide) m1 m2 (by omega), if_neg (by omega)]
 refine Ev.bind hmd ?_
 simp only [show ¬ ((0 : Int) = 8) by decide, ↓reduceIte]
 exact Ev.now _
theorem suspect {last : Int} {l : List Int} (h : GoodW last l) (h0 : 0 ≤ last) (now boot th : Int) (hn : last ≤ now) (hn1 : now ≤ 1099511627776) (hb : boot ≤ 9223372036854775807) :
  Ev (fun k => phi_Suspect.f k last l now boot th) (decide ((now - last) * 434 / wm l boot > th)) := by
 unfold phi_Suspect.f
 refine Ev.bind (level h h0 now boot hn hn1 hb) ?_
 simp only [↓reduceIte]
 exact Ev.now _
theorem suspect_lt {last : Int} {l : List Int} (h : GoodW last l) (h0 : 0 ≤ last) (now boot th : Int) (hn : last ≤ now) (hn1 : now ≤ 1099511627776) (hb : boot ≤ 9223372036854775807)
  (hs : 434 * (now - last) < (th + 1) * wm l boot) : Ev (fun k => phi_Suspect.f k last l now boot th) false := by
 obtain ⟨m1, m2, _⟩ := wm_bd h boot hb
 have e := suspect h h0 now boot th hn hn1 hb
 have : (now - last) * 434 / wm l boot < th + 1 := Int.ediv_lt_of_lt_mul (by omega) (by omega)
 rw [decide_eq_false (by omega)] at e
 exact e
theorem suspect_ge {last : Int} {l : List Int} (h : GoodW last l) (h0 : 0 ≤ last) (now boot th : Int) (hn : last ≤ now) (hn1 : now ≤ 1099511627776) (hb : boot ≤ 9223372036854775807)
  (hs : (th + 1) * wm l boot ≤ 434 * (now - last)) : Ev (fun k => phi_Suspect.f k last l now boot th) true := by
 obtain ⟨m1, m2, _⟩ := wm_bd h boot hb
 have e := suspect h h0 now boot th hn hn1 hb
 have : th + 1 ≤ (now - last) * 434 / wm l boot := (Int.le_ediv_iff_mul_le (by omega)).2 (by omega)
 rw [decide_eq_true (by omega)] at e
 exact e
def bd (th m : Int) : Int := ((th + 1) * m + 433) / 434
theorem P_bd {th m : Int} (h0 : 0 ≤ th) (h1 : th ≤ 1048576) (m0 : 1 ≤ m) (m1 : m ≤ 1099511627776) : m ≤ (th + 1) * m ∧ (th + 1) * m ≤ 1152922604118474752 := by
 constructor
 ·have := Int.mul_le_mul_of_nonneg_right (show 1 ≤ th + 1 by omega) (show 0 ≤ m by omega)
  omega
 ·have := (mul_lt (a := th + 1) (A := 1048577) (b := m) (B := 1099511627776) (by omega) (by omega) (by omega) (by omega)).2
  omega
theorem bound (th m : Int) (h0 : 0 ≤ th) (h1 : th ≤ 1048576) (m0 : 1 ≤ m) (m1 : m ≤ 1099511627776) : Ev (fun k => phi_Bound.f k th m) (bd th m) := by
 obtain ⟨p1, p2⟩ := P_bd h0 h1 m0 m1
 unfold phi_Bound.f phi_within.f
 simp only [show th ≥ 0 by omega, show m ≥ 1 by omega, show th ≤ 1099511627776 by omega, m1, decide_true, Option.bind_some, Bool.not_true, ↓reduceIte]
 refine Ev.step (fun k => by rw [phi_Bound.j0]) ?_
 have e1 : IntKind.u64.wrap (IntKind.u64.wrap th + 1) = th + 1 := by rw [u_id th (by omega) (by omega), u_id _ (by omega) (by omega)]
 have e2 : IntKind.u64.wrap m = m := u_id m (by omega) (by omega)
 simp only [Bool.false_eq_true, e1, e2, mul64 (th + 1) m (by omega) (by omega) (by omega) (by omega), Option.bind_some, ↓reduceIte]
 unfold bd
 generalize (th + 1) * m = P at *
 have e3 : P / 18446744073709551616 = 0 := by omega
 have e4 : P % 18446744073709551616 = P := by omega
 simp only [e3, e4, show ¬ ((0 : Int) ≥ 434) by decide, div64_0 _ P 434 (by omega) (by omega) (by decide), Option.bind_some, ↓reduceIte]
 by_cases hr : P % 434 > 0
 ·simp only [hr, ↓reduceIte]
  rw [show wrap64 (mn (IntKind.u64.wrap (P / 434 + 1)) 4611686018427387904) = (P + 433) / 434 by
   rw [u_id _ (by omega) (by omega)]
   unfold mn
   rw [wrap_id _ (by split <;> omega) (by split <;> omega)]
   split <;> omega]
  exact Ev.now _
 ·simp only [hr, ↓reduceIte]
  rw [show wrap64 (mn (P / 434) 4611686018427387904) = (P + 433) / 434 by
   unfold mn
   rw [wrap_id _ (by split <;> omega) (by split <;> omega)]
   split <;> omega]
  exact Ev.now _
theorem bound_low (th m : Int) (h0 : th < 0) : Ev (fun k => phi_Bound.f k th m) 0 := by
 unfold phi_Bound.f phi_within.f
 simp only [show ¬ th ≥ 0 by omega, Option.bind_some, Bool.false_eq_true, ↓reduceIte]
 refine Ev.step (fun k => by rw [phi_Bound.j0]) ?_
 simp only [↓reduceIte]
 exact Ev.now _
theorem bound_low2 (th m : Int) (h0 : 0 ≤ th) (h1 : th ≤ 1048576) (m0 : m < 1) : Ev (fun k => phi_Bound.f k th m) 0 := by
 unfold phi_Bound.f phi_within.f
 simp only [show th ≥ 0 by omega, show ¬ m ≥ 1 by omega, show th ≤ 1099511627776 by omega, decide_true, Option.bind_some, Bool.not_false, ↓reduceIte]
 refine Ev.step (fun k => by rw [phi_Bound.j0]) ?_
 simp only [↓reduceIte]
 exact Ev.now _
/-- When it becomes suspect. -/
theorem first {last : Int} {l : List Int} (h : GoodW last l) (h0 : 0 ≤ last) (boot th : Int) (t0 : 0 ≤ th) (t1 : th ≤ 1048576) (hb : boot ≤ 1099511627776) :
  Ev (fun k => phi_First.f k last l boot th) (if bd th (wm l boot) > 1099511627776 - last then (0, 8) else (last + bd th (wm l boot), 0)) := by
 obtain ⟨m1, _, m2⟩ := wm_bd h boot (by omega)
 have m2 := m2 hb
 obtain ⟨p1, p2⟩ := P_bd t0 t1 m1 m2
 have hl := h.2.1
 unfold phi_First.f phi_within.f
 simp only [right h, show ¬ last < 0 by omega, show th ≥ 0 by omega, show th ≤ 1099511627776 by omega, decide_true, Option.bind_some, ↓reduceIte]
 refine Ev.bind (wmean h boot) ?_
 simp only [show ¬ wm l boot > 1099511627776 by omega, ↓reduceIte]
 refine Ev.bind (bound th (wm l boot) t0 t1 m1 m2) ?_
 have hbd : 0 ≤ bd th (wm l boot) ∧ bd th (wm l boot) ≤ 4611686018427387904 := by unfold bd; omega
 simp only [wrap_id (1099511627776 - last) (by omega) (by omega), wrap_id (last + bd th (wm l boot)) (by omega) (by omega)]
 split
 ·exact Ev.now _
 ·exact Ev.now _
/-! ### arrivals -/
def arr (last : Int) (l : List Int) (now most : Int) : List Int := if last ≥ 0 then (if l.length = 16 then (l ++ [mx 1 (mn (now - last) most)]).drop 1 else l ++ [mx 1 (mn (now - last) most)]) else l
theorem arr_good {last : Int} {l : List Int} (h : GoodW last l) (now most : Int) (hn0 : 0 ≤ now) (hn : last ≤ now) (hn1 : now ≤ 1099511627776) : GoodW now (arr last l now most) := by
 obtain ⟨h1, h2, h3, h4⟩ := h
 refine ⟨by omega, hn1, ?_, ?_⟩
 ·unfold arr
  split
  ·split
   ·simp; omega
   ·simp; omega
  ·exact h3
 ·intro x hx
  have : x ∈ l ∨ (x = mx 1 (mn (now - last) most) ∧ last ≥ 0) := by
   unfold arr at hx
   split at hx
   ·split at hx
    ·have := List.mem_of_mem_drop hx
     rcases List.mem_append.1 this with h | h
     ·exact .inl h
     ·exact .inr ⟨by simpa using h, by assumption⟩
    ·rcases List.mem_append.1 hx with h | h
     ·exact .inl h
     ·exact .inr ⟨by simpa using h, by assumption⟩
   ·exact .inl hx
  rcases this with h | ⟨h, h0⟩
  ·exact h4 x h
  ·subst h
   unfold mx mn
   split <;> split <;> omega
theorem arrive {last : Int} {l : List Int} (h : GoodW last l) (now most : Int) (hn0 : 0 ≤ now) (hn : last ≤ now) (hn1 : now ≤ 1099511627776) :
  Ev (fun k => ref10_Arrive.f k last l now most) (now, arr last l now most, 0) := by
 obtain ⟨h1, h2, h3, h4⟩ := h
 unfold ref10_Arrive.f
 refine Ev.bind (ref_right_good ⟨h1, h2, h3, h4⟩) ?_
 simp only [show ¬ now < 0 by omega, show ¬ now < last by omega, show ¬ now > 1099511627776 by omega, decide_false, ↓reduceIte]
 refine Ev.step (fun k => by rw [ref10_Arrive.j0]) ?_
 simp only [Bool.false_eq_true, Option.bind_some, List.length_nil, List.nil_append, show 0 + l.length < 17592186044416 by omega, show l.length < 17592186044416 by omega, ↓reduceIte]
 unfold arr
 by_cases hp : last ≥ 0
 ·simp only [hp, wrap_id (now - last) (by omega) (by omega), List.length_append, List.length_singleton, ↓reduceIte]
  by_cases h16 : l.length = 16
  ·simp only [h16, show (((16 + 1 : Nat) : Int) > 16) by decide, show (1 : Int) ≤ ((16 + 1 : Nat) : Int) by decide, show (1 : Int).toNat = 1 from rfl, ↓reduceIte]
   exact Ev.now _
  ·simp only [h16, show ¬ (((l.length + 1 : Nat) : Int) > 16) by omega, ↓reduceIte]
   exact Ev.now _
 ·simp only [hp, show ¬ ((l.length : Int) > 16) by omega, ↓reduceIte]
  exact Ev.now _
theorem u16_bd {a : Int} (h : (Lit.int .u16 a).wf = true) : 0 ≤ a ∧ a ≤ 65535 := by
 simp [Lit.wf, IntKind.min, IntKind.max, IntKind.bits, IntKind.signed] at h
 omega
theorem u32_bd {a : Int} (h : (Lit.int .u32 a).wf = true) : 0 ≤ a ∧ a ≤ 4294967295 := by
 simp [Lit.wf, IntKind.min, IntKind.max, IntKind.bits, IntKind.signed] at h
 omega
theorem u8_bd {a : Int} (h : (Lit.int .u8 a).wf = true) : 0 ≤ a ∧ a ≤ 255 := by
 simp [Lit.wf, IntKind.min, IntKind.max, IntKind.bits, IntKind.signed] at h
 omega
end Go.Proofs.Ytjallhlamaggbaa.Pl11

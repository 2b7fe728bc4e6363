/- BlockReads' plain law: what was put is read, all else is as it was. No condition. -/
import Derived.Test.YtckodbfjihcddaaPl12
import Derived.Test.YtckodbfjihcddaaL12Reads
namespace Go.Proofs.Ytckodbfjihcddaa.Pl
open Go.RowKit Go.Proofs.Ytckodbfjihcddaa.P Go.Proofs.YtckodbfjihcddaaW.PrintWords Go.Proofs.YtckodbfjihcddaaW.PrintLast Go.Proofs.YtckodbfjihcddaaW.PrintMore
theorem u8_12 {a : Int} (h : (Lit.int .u8 a).wf = true) : 0 ≤ a ∧ a ≤ 255 := by
 simp [Lit.wf, IntKind.min, IntKind.max, IntKind.bits, IntKind.signed] at h
 omega
theorem place12 {a : Int} (h : (Lit.int .u8 a).wf = true) {n : Nat} (hn : (n : Int) ≠ 0) : 0 ≤ Int.tmod (wrap64 a) (n : Int) ∧ Int.tmod (wrap64 a) (n : Int) < (n : Int) := by
 have h1 := u8_12 h; rw [show wrap64 a = a from by unfold wrap64; omega, Int.tmod_eq_emod_of_nonneg h1.1]; exact ⟨Int.emod_nonneg _ hn, Int.emod_lt_of_pos _ (by omega)⟩
theorem reads12 {l : List Sec} {f : Int} {d : Bool} {i j : Int} {x : Sec} (hf : f ≤ 9223372036854775807) (h0 : 0 ≤ i) (h1 : i < (l.length : Int)) (h2 : 0 ≤ j) (h3 : j < (l.length : Int)) (he : (put12 l f d i x).2.2.2 = 0) :
  ((x, 0) : Sec × Int) = get12 (put12 l f d i x).1 (put12 l f d i x).2.1 (put12 l f d i x).2.2.1 i ∧ 0 = (get12 (put12 l f d i x).1 (put12 l f d i x).2.1 (put12 l f d i x).2.2.1 j).2 ∧ 0 = (get12 l f d j).2 ∧
   (i = j ∨ (get12 (put12 l f d i x).1 (put12 l f d i x).2.1 (put12 l f d i x).2.2.1 j).1 = (get12 l f d j).1) ∧ (f = -1 → -1 = (put12 l f d i x).2.1) ∧ (f ≠ -1 → wrap64 (f - 64) = (put12 l f d i x).2.1) := by
 have ha : ask l f d i = 0 := by
  unfold put12 at he
  by_cases h : ask l f d i = 0
  ·exact h
  ·rw [if_neg h] at he; exact absurd he h
 obtain ⟨hn, hg, hd, _, _⟩ := ask_zero ha
 have hw : put12 l f d i x = wrote l f d i.toNat x := by unfold put12; rw [if_pos ha]
 rw [hw] at he ⊢
 have hw2 : wrote l f d i.toNat x = (l.set i.toNat x, if f = -1 then f else f - 64, d, 0) ∧ (f = -1 ∨ f ≥ 64) := by
  unfold wrote at he ⊢
  by_cases hm : f = -1
  ·exact ⟨by rw [if_pos hm, if_pos hm], .inl hm⟩
  ·rw [if_neg hm] at he ⊢
   by_cases hge : f ≥ 64
   ·exact ⟨by rw [if_pos hge, if_neg hm], .inr hge⟩
   ·rw [if_neg hge] at he; simp at he
 obtain ⟨hw3, hw4⟩ := hw2; rw [hw3]
 dsimp only
 have hq : (if f = -1 then f else f - 64) ≥ -1 := by split <;> omega
 have hs : ((l.set i.toNat x).length : Int) ≤ 64 := by rw [List.length_set]; exact hn
 have gi : get12 (l.set i.toNat x) (if f = -1 then f else f - 64) d i = ((l.set i.toNat x).getD i.toNat z26, 0) := by unfold get12; rw [if_pos (ask_ok hs hq hd h0 (by rw [List.length_set]; exact h1))]
 have gj : get12 (l.set i.toNat x) (if f = -1 then f else f - 64) d j = ((l.set i.toNat x).getD j.toNat z26, 0) := by unfold get12; rw [if_pos (ask_ok hs hq hd h2 (by rw [List.length_set]; exact h3))]
 have gk : get12 l f d j = (l.getD j.toNat z26, 0) := by unfold get12; rw [if_pos (ask_ok hn hg hd h2 h3)]
 rw [gi, gj, gk]
 have hi : i.toNat < l.length := by omega
 refine ⟨?_, rfl, rfl, ?_, fun h => by rw [if_pos h]; exact h.symm, fun h => by rw [if_neg h]; unfold wrap64; omega⟩
 ·rw [List.getD_eq_getElem?_getD, List.getElem?_set_self hi]; rfl
 ·by_cases e : i = j
  ·exact .inl e
  ·refine .inr ?_; rw [List.getD_eq_getElem?_getD, List.getD_eq_getElem?_getD, List.getElem?_set_ne (by omega)]
theorem put_no {l : List Sec} {f : Int} {d : Bool} {i : Int} {x : Sec} (h0 : 0 ≤ i) (h1 : i < (l.length : Int)) (he : (put12 l f d i x).2.2.2 ≠ 0) : ((put12 l f d i x).2.2.2 = 1 ∧ rt l f = false) ∨ ((put12 l f d i x).2.2.2 = 9 ∧ (put12 l f d i x).2.2.1 = true) := by
 unfold put12 at he ⊢
 by_cases ha : ask l f d i = 0
 ·rw [if_pos ha] at he ⊢
  unfold wrote at he ⊢
  by_cases hm : f = -1
  ·rw [if_pos hm] at he; exact absurd rfl he
  ·rw [if_neg hm] at he ⊢
   by_cases hge : f ≥ 64
   ·rw [if_pos hge] at he; exact absurd rfl he
   ·rw [if_neg hge]; exact .inr ⟨rfl, rfl⟩
 ·rw [if_neg ha]
  dsimp only
  unfold ask rt
  by_cases hr : (l.length : Int) ≤ 64 ∧ f ≥ -1
  ·rw [if_pos hr]
   cases d with
   | true => exact .inr ⟨rfl, rfl⟩
   | false => exact absurd (ask_ok hr.1 hr.2 rfl h0 h1) ha
  ·rw [if_neg hr]; exact .inl ⟨rfl, decide_eq_false hr⟩
theorem BlockReads : ∀ (x0 : S24) (x1 : S45) (x2 : S26), G24 x0 → G45 x1 → G26 x2 → law12_BlockReads.f x0.f0 x0.f1 x0.f2 x1.f0 x1.f1 x2 = some true := by
 intro x0 x1 x2 g0 g1 _; have hl := short12 g0; have hf := i64_12 g0.2.1
 unfold law12_BlockReads.f
 split
 ·rfl
 ·split
  ·rfl
  ·next hz =>
   obtain ⟨i0, i1⟩ := place12 g1.1 hz; obtain ⟨j0, j1⟩ := place12 g1.2 hz; generalize Int.tmod (wrap64 x1.f0) (x0.f0.length : Int) = i at i0 i1 ⊢; generalize Int.tmod (wrap64 x1.f1) (x0.f0.length : Int) = j at j0 j1 ⊢; rw [put_is hl hf.2, Option.bind_some]
   by_cases he : (put12 x0.f0 x0.f1 x0.f2 i x2).2.2.2 = 0
   ·rw [if_pos he, get_is, Option.bind_some, get_is, Option.bind_some, get_is, Option.bind_some]; obtain ⟨h1, h2, h3, h4, h5, h6⟩ := reads12 (x := x2) hf.2 i0 i1 j0 j1 he; rw [decide_eq_true h1, decide_eq_true h2, decide_eq_true h3]
    have hr : (if x0.f1 = -1 then decide (-1 = (put12 x0.f0 x0.f1 x0.f2 i x2).2.1) else decide (wrap64 (x0.f1 - 64) = (put12 x0.f0 x0.f1 x0.f2 i x2).2.1)) = true := by
     split
     ·next h => exact decide_eq_true (h5 h)
     ·next h => exact decide_eq_true (h6 h)
    rw [hr]
    rcases h4 with h4 | h4
    ·rw [decide_eq_true h4]; rfl
    ·rw [decide_eq_true h4, Bool.or_true]; rfl
   ·rw [if_neg he]
    rcases put_no (x := x2) i0 i1 he with ⟨h1, h2⟩ | ⟨h1, h2⟩
    ·rw [if_pos h1, right_rt, Option.bind_some, h2]; rfl
    ·rw [if_neg (by rw [h1]; decide), if_pos h1, h2]
end Go.Proofs.Ytckodbfjihcddaa.Pl

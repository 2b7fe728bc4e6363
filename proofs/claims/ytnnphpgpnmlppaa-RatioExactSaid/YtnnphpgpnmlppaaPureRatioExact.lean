/- RatioExact's plain law: a product over one of its factors is the other one; a mean of the same numbers is that number: for all three numbers. No condition. -/
import Derived.Test.YtnnphpgpnmlppaaPLaw09RatioExact
import Derived.Test.YtnnphpgpnmlppaaPl09
namespace Go.Proofs.Ytnnphpgpnmlppaa.Pure
open Go.RowKit Go.Proofs.Ytnnphpgpnmlppaa.P Go.Proofs.YtnnphpgpnmlppaaW.PrintWords Go.Proofs.YtnnphpgpnmlppaaW.PrintLast Go.Proofs.YtnnphpgpnmlppaaW.PrintMore Go.Proofs.Ytnnphpgpnmlppaa.Pl09
set_option linter.unusedSimpArgs false
set_option linter.unusedVariables false
theorem alive09 : Ev (fun k => law09_alive.f k) true := Ev.of (fun k => law09_alive.mono k) (k := 60) (by decide +kernel)
theorem u32_bd {a : Int} (h : (Lit.int .u32 a).wf = true) : 0 ≤ a ∧ a ≤ 4294967295 := by
 simp [Lit.wf, IntKind.min, IntKind.max, IntKind.bits, IntKind.signed] at h
 omega
theorem u8_bd {a : Int} (h : (Lit.int .u8 a).wf = true) : 0 ≤ a ∧ a ≤ 255 := by
 simp [Lit.wf, IntKind.min, IntKind.max, IntKind.bits, IntKind.signed] at h
 omega
theorem S_rep (n : Nat) (a : Int) : S (List.replicate n a) = (n : Int) * cl a := by
 induction n with
 | zero => simp [S]
 | succ n ih => simp only [List.replicate_succ, S, ih]; rw [show ((n + 1 : Nat) : Int) = (n : Int) + 1 by omega, Int.add_mul, Int.one_mul]; omega
theorem set_rep (a : Int) (i m : Nat) : (List.replicate i a ++ List.replicate (m + 1) 0).set i a = List.replicate (i + 1) a ++ List.replicate m 0 := by
 rw [List.set_append_right _ _ (by simp)]
 simp only [List.length_replicate, Nat.sub_self, List.replicate_succ, List.set_cons_zero]
 rw [← List.replicate_succ, List.replicate_succ', List.append_assoc]; rfl
theorem exact_l (a c : Int) (N : Nat) (ha0 : 0 ≤ a) (ha : a ≤ 4294967295) (hc0 : 0 ≤ c) (hc : c ≤ 255) (hN : (N : Int) = c + 1) : ∀ (m i : Nat), i + m = N →
  Ev (fun k => law09_RatioExact.l0 k a c a 0 a 0 (List.replicate i a ++ List.replicate m 0) (i : Int)) true
 | 0, i, e => by
  have e' : i = N := by omega
  subst e'
  refine Ev.step (fun k => by rw [law09_RatioExact.l0]) ?_
  have hca : cl a = a := by unfold cl; rw [if_neg (by omega), if_neg (by omega)]
  have hm := mean (List.replicate i a) (by simp; omega) (by simp; omega)
  have hv : S (List.replicate i a) / ((List.replicate i a).length : Int) = a := by
   rw [S_rep, hca, List.length_replicate]
   exact Int.mul_ediv_cancel_left _ (by omega)
  rw [hv] at hm
  have p := mul_lt ha0 ha (show (0 : Int) ≤ c + 1 by omega) (show c + 1 ≤ 256 by omega)
  simp only [List.replicate_zero, List.append_nil, List.length_replicate, Int.lt_irrefl, ↓reduceIte, wrap_id a (by omega) (by omega), wrap_id c (by omega) (by omega), wrap_id (c + 1) (by omega) (by omega), wrap_id (a * (c + 1)) (by omega) (by omega)]
  refine Ev.bind hm ?_
  simp only [↓reduceIte]
  refine Ev.bind (a := 0) ⟨4, fun k hk => ?_⟩ (Ev.now _)
  obtain ⟨j, rfl⟩ : ∃ j, k = j + 4 := ⟨k - 4, by omega⟩
  show ratio_Cmp.f (j + 4) _ _ _ _ = _
  rw [cmp j a 1 (a * (c + 1)) (c + 1) ha0 (by omega) (by decide) (by decide) p.1 (by omega) (by omega) (by omega)]
  congr 1
  unfold cmpN
  rw [Int.mul_one, if_neg (by omega), if_neg (by omega)]
 | m + 1, i, e => by
  refine Ev.step (fun k => by rw [law09_RatioExact.l0]) ?_
  have c1 : (i : Int) < ((List.replicate i a ++ List.replicate (m + 1) (0 : Int)).length : Int) := by simp; omega
  have c0 : (0 : Int) ≤ (i : Int) := by omega
  have e1 : wrap64 ((i : Int) + 1) = ((i + 1 : Nat) : Int) := by rw [wrap_id _ (by omega) (by omega)]; omega
  simp only [c1, c0, e1, wrap_id a (by omega) (by omega), Int.toNat_natCast, set_rep, ↓reduceIte]
  exact exact_l a c N ha0 ha hc0 hc hN m (i + 1) (by omega)
theorem RatioExact : law09_RatioExact.Pure := by
 intro a b c wa wb wc
 obtain ⟨ha0, ha⟩ := u32_bd wa
 obtain ⟨hb0, hb⟩ := u32_bd wb
 obtain ⟨hc0, hc⟩ := u8_bd wc
 refine Ev.rounds (r := true) ?_
 unfold law09_RatioExact.f
 refine Ev.bind alive09 ?_
 have p := mul_lt ha0 ha (show (0 : Int) ≤ b + 1 by omega) (show b + 1 ≤ 4294967296 by omega)
 have q : a * (b + 1) / (b + 1) = a := Int.mul_ediv_cancel _ (by omega)
 simp only [↓reduceIte, wrap_id a (by omega) (by omega), wrap_id b (by omega) (by omega), wrap_id (b + 1) (by omega) (by omega), wrap_id c (by omega) (by omega), wrap_id (c + 1) (by omega) (by omega)]
 refine Ev.bind (a := (a, 0)) ⟨1, fun k hk => ?_⟩ ?_
 ·obtain ⟨j, rfl⟩ : ∃ j, k = j + 1 := ⟨k - 1, by omega⟩
  show ratio_MulDiv.f (j + 1) _ _ _ = _
  rw [muldiv j a (b + 1) (b + 1) ha0 (by omega) (by omega) (by omega) (by omega) (by omega) (by omega), q, if_neg (by omega)]
 ·refine Ev.bind (a := (a, 0)) ⟨1, fun k hk => ?_⟩ ?_
  ·obtain ⟨j, rfl⟩ : ∃ j, k = j + 1 := ⟨k - 1, by omega⟩
   show ratio_MulDiv.f (j + 1) _ _ _ = _
   rw [muldiv j (b + 1) a (b + 1) (by omega) (by omega) ha0 (by omega) (by omega) (by omega) (by rw [Int.mul_comm]; omega), Int.mul_comm (b + 1) a, q, if_neg (by omega)]
  ·have d1 : (c + 1).toNat ≤ 35184372088832 := by omega
   have d0 : 0 ≤ c + 1 := by omega
   simp only [d1, d0, ↓reduceIte]
   have h := exact_l a c (c + 1).toNat ha0 ha hc0 hc (by omega) (c + 1).toNat 0 (by omega)
   simpa using h
end Go.Proofs.Ytnnphpgpnmlppaa.Pure

/- RatioOrders' plain law: fractions are ordered: turned round it is the other way, and what is between stays between: for all numbers. No condition. -/
import Derived.Test.YtnnphpgpnmlppaaPLaw09RatioOrders
import Derived.Test.YtnnphpgpnmlppaaOps
import Derived.Test.YtnnphpgpnmlppaaPl09
namespace Go.Proofs.Ytnnphpgpnmlppaa.Pl
open Go.RowKit Go.Proofs.Ytnnphpgpnmlppaa.P Go.Proofs.YtnnphpgpnmlppaaW.PrintWords Go.Proofs.YtnnphpgpnmlppaaW.PrintLast Go.Proofs.YtnnphpgpnmlppaaW.PrintMore Go.Proofs.Ytnnphpgpnmlppaa.Pl09
set_option linter.unusedSimpArgs false
set_option linter.unusedVariables false
theorem alive09o : Ev (fun k => law09_alive.f k) true := Ev.of (fun k => law09_alive.mono k) (k := 60) (by decide +kernel)
theorem u32_bd {a : Int} (h : (Lit.int .u32 a).wf = true) : 0 ≤ a ∧ a ≤ 4294967295 := by
 simp [Lit.wf, IntKind.min, IntKind.max, IntKind.bits, IntKind.signed] at h
 omega
theorem num_is (e c : Int) (h : 0 ≤ e ∧ e ≤ 4294967295) (hc : 0 ≤ c ∧ c ≤ 1) : law09_RatioOrders.num e c = e + c := by
 unfold law09_RatioOrders.num
 rw [wrap_id e (by omega) (by omega), wrap_id _ (by omega) (by omega)]
theorem ev_cmp (a b c d : Int) (ha : 0 ≤ a ∧ a ≤ 4294967296) (hb : 1 ≤ b ∧ b ≤ 4294967296) (hc : 0 ≤ c ∧ c ≤ 4294967296) (hd : 1 ≤ d ∧ d ≤ 4294967296) : Ev (fun k => ratio_Cmp.f k a b c d) (cmpN (a * d) (c * b)) :=
 ⟨4, fun k hk => by
  obtain ⟨q, rfl⟩ : ∃ q, k = q + 4 := ⟨k - 4, by omega⟩
  exact cmp q a b c d ha.1 (by omega) hb.1 (by omega) hc.1 (by omega) hd.1 (by omega)⟩
/-- What is between stays between: as products. -/
theorem between {a b c d e f : Int} (hb : 1 ≤ b) (hd : 1 ≤ d) (hf : 1 ≤ f) (h1 : a * d ≤ c * b) (h2 : c * f ≤ e * d) : a * f ≤ e * b := by
 have p1 : a * d * f ≤ c * b * f := Int.mul_le_mul_of_nonneg_right h1 (by omega); have p2 : c * f * b ≤ e * d * b := Int.mul_le_mul_of_nonneg_right h2 (by omega)
 have q1 : a * d * f = a * f * d := by rw [Int.mul_assoc, Int.mul_comm d f, ← Int.mul_assoc]
 have q2 : c * b * f = c * f * b := by rw [Int.mul_assoc, Int.mul_comm b f, ← Int.mul_assoc]
 have q3 : e * d * b = e * b * d := by rw [Int.mul_assoc, Int.mul_comm d b, ← Int.mul_assoc]
 have p3 : a * f * d ≤ e * b * d := by omega
 exact Int.le_of_mul_le_mul_right p3 (by omega)
theorem cmp_le {x y : Int} : cmpN x y ≤ 0 ↔ x ≤ y := by unfold cmpN; split <;> (try split) <;> omega
theorem cmp_ge {x y : Int} : cmpN x y ≥ 0 ↔ y ≤ x := by unfold cmpN; split <;> (try split) <;> omega
theorem cmp_turn (x y : Int) : cmpN x y = wrap64 (-cmpN y x) := by
 have h : -1 ≤ cmpN y x ∧ cmpN y x ≤ 1 := by unfold cmpN; split <;> (try split) <;> omega
 rw [wrap_id _ (by omega) (by omega)]
 unfold cmpN
 split <;> split <;> (try split) <;> (try split) <;> omega
theorem clamp_mid (n a b : Int) : ∃ r, ratio_Clamp.f n (mn a b) (mx a b) = some r ∧ (r == mn (mx n (mn a b)) (mx a b)) = true := by
 have hle : mn a b ≤ mx a b := by unfold mn mx; split <;> split <;> omega
 generalize mn a b = l at hle; generalize mx a b = h at hle
 unfold ratio_Clamp.f
 by_cases h1 : n < l
 ·exact ⟨l, by rw [if_pos h1], by rw [beq_iff_eq]; unfold mn mx; split <;> (try split) <;> omega⟩
 ·by_cases h2 : n > h
  ·exact ⟨h, by rw [if_neg h1, if_pos h2], by rw [beq_iff_eq]; unfold mn mx; split <;> (try split) <;> omega⟩
  ·exact ⟨n, by rw [if_neg h1, if_neg h2], by rw [beq_iff_eq]; unfold mn mx; split <;> (try split) <;> omega⟩
theorem RatioOrders : ∀ (x0 : S37), G37 x0 → ∃ k, law09_RatioOrders.f k x0.f0 x0.f1 x0.f2 x0.f3 x0.f4 x0.f5 = some true := by
 intro p g; obtain ⟨g0, g1, g2, g3, g4, g5⟩ := g; have b0 := u32_bd g0; have b1 := u32_bd g1; have b2 := u32_bd g2; have b3 := u32_bd g3; have b4 := u32_bd g4; have b5 := u32_bd g5; refine Ev.rounds (r := true) ?_
 unfold law09_RatioOrders.f
 rw [num_is p.f0 0 b0 (by omega), num_is p.f1 1 b1 (by omega), num_is p.f2 0 b2 (by omega), num_is p.f3 1 b3 (by omega), num_is p.f4 0 b4 (by omega), num_is p.f5 1 b5 (by omega)]; obtain ⟨n0, h0⟩ : ∃ n, n = p.f0 + 0 := ⟨_, rfl⟩; obtain ⟨n1, h1⟩ : ∃ n, n = p.f1 + 1 := ⟨_, rfl⟩; obtain ⟨n2, h2⟩ : ∃ n, n = p.f2 + 0 := ⟨_, rfl⟩; obtain ⟨n3, h3⟩ : ∃ n, n = p.f3 + 1 := ⟨_, rfl⟩; obtain ⟨n4, h4⟩ : ∃ n, n = p.f4 + 0 := ⟨_, rfl⟩; obtain ⟨n5, h5⟩ : ∃ n, n = p.f5 + 1 := ⟨_, rfl⟩; rw [← h0, ← h1, ← h2, ← h3, ← h4, ← h5]
 have c0 : 0 ≤ n0 ∧ n0 ≤ 4294967296 := by omega
 have c1 : 1 ≤ n1 ∧ n1 ≤ 4294967296 := by omega
 have c2 : 0 ≤ n2 ∧ n2 ≤ 4294967296 := by omega
 have c3 : 1 ≤ n3 ∧ n3 ≤ 4294967296 := by omega
 have c4 : 0 ≤ n4 ∧ n4 ≤ 4294967296 := by omega
 have c5 : 1 ≤ n5 ∧ n5 ≤ 4294967296 := by omega
 clear h0 h1 h2 h3 h4 h5
 unfold law09_RatioOrders.g
 refine Ev.bind alive09o ?_; simp only [↓reduceIte]; refine Ev.bind (ev_cmp n0 n1 n2 n3 c0 c1 c2 c3) (Ev.bind (ev_cmp n2 n3 n0 n1 c2 c3 c0 c1) (Ev.bind (ev_cmp n2 n3 n4 n5 c2 c3 c4 c5) (Ev.bind (ev_cmp n0 n1 n4 n5 c0 c1 c4 c5) ?_))); rw [if_pos (cmp_turn (n0 * n3) (n2 * n1))]
 have up : cmpN (n0 * n3) (n2 * n1) ≤ 0 → cmpN (n2 * n5) (n4 * n3) ≤ 0 → ¬ cmpN (n0 * n5) (n4 * n1) > 0 := fun u v hw => by
  have := cmp_le.2 (between c1.1 c3.1 c5.1 (cmp_le.1 u) (cmp_le.1 v)); omega
 have down : cmpN (n0 * n3) (n2 * n1) ≥ 0 → cmpN (n2 * n5) (n4 * n3) ≥ 0 → ¬ cmpN (n0 * n5) (n4 * n1) < 0 := fun u v hw => by
  have := cmp_ge.2 (between (a := n4) (b := n5) (c := n2) (d := n3) (e := n0) (f := n1) c5.1 c3.1 c1.1 (cmp_ge.1 v) (cmp_ge.1 u)); omega
 generalize cmpN (n0 * n3) (n2 * n1) = ab at up down ⊢; generalize cmpN (n2 * n5) (n4 * n3) = bc at up down ⊢; generalize cmpN (n0 * n5) (n4 * n1) = ac at up down ⊢; obtain ⟨r, hr, hq⟩ := clamp_mid n0 n2 n4; simp only [hr, Option.bind_some, hq]; have out : Ev (fun _ : Nat => some true) true := Ev.now true
 by_cases u1 : ab ≤ 0
 ·by_cases u2 : bc ≤ 0
  ·have u3 := up u1 u2
   by_cases v1 : ab ≥ 0
   ·by_cases v2 : bc ≥ 0
    ·have v3 := down v1 v2; simp only [u1, u2, u3, v1, v2, v3, ↓reduceIte]; exact out
    ·simp only [u1, u2, u3, v1, v2, ↓reduceIte]; exact out
   ·simp only [u1, u2, u3, v1, ↓reduceIte]; exact out
  ·by_cases v1 : ab ≥ 0
   ·by_cases v2 : bc ≥ 0
    ·have v3 := down v1 v2; simp only [u1, u2, v1, v2, v3, ↓reduceIte]; exact out
    ·simp only [u1, u2, v1, v2, ↓reduceIte]; exact out
   ·simp only [u1, u2, v1, ↓reduceIte]; exact out
 ·by_cases v1 : ab ≥ 0
  ·by_cases v2 : bc ≥ 0
   ·have v3 := down v1 v2; simp only [u1, v1, v2, v3, ↓reduceIte]; exact out
   ·simp only [u1, v1, v2, ↓reduceIte]; exact out
  ·omega
end Go.Proofs.Ytnnphpgpnmlppaa.Pl

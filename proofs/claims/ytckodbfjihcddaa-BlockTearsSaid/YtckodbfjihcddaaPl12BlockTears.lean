/- BlockTears' plain law: a write that the power ends leaves its first bytes, and zeros behind, and all other sectors as they were. No condition. -/
import Derived.Test.YtckodbfjihcddaaPl12
import Derived.Test.YtckodbfjihcddaaL12Tears
namespace Go.Proofs.Ytckodbfjihcddaa.Pl
open Go.RowKit Go.Proofs.Ytckodbfjihcddaa.P Go.Proofs.YtckodbfjihcddaaW.PrintWords Go.Proofs.YtckodbfjihcddaaW.PrintLast Go.Proofs.YtckodbfjihcddaaW.PrintMore
theorem u8_12t {a : Int} (h : (Lit.int .u8 a).wf = true) : 0 ≤ a ∧ a ≤ 255 := by
 simp [Lit.wf, IntKind.min, IntKind.max, IntKind.bits, IntKind.signed] at h
 omega
theorem u16_12 {a : Int} (h : (Lit.int .u16 a).wf = true) : 0 ≤ a ∧ a ≤ 65535 := by
 simp [Lit.wf, IntKind.min, IntKind.max, IntKind.bits, IntKind.signed] at h
 omega
theorem tears12 : ∀ (l : List S42) (ls : List Sec) (left : Int), (∀ x ∈ l, G42 x) → ls.length = 4 → 0 ≤ left → left ≤ 65535 → law12_BlockTears.go l ls left = some true
 | [], _, _, _, _, _, _ => rfl
 | y :: ys, ls, left, hg, hl, h0, h1 => by
  have hy := u8_12t (hg y List.mem_cons_self).1
  unfold law12_BlockTears.go
  rw [if_pos hy, put_is (by omega) (by omega), Option.bind_some]
  obtain ⟨t0, t1⟩ : 0 ≤ Int.tmod y.f0 4 ∧ Int.tmod y.f0 4 < 4 := by rw [Int.tmod_eq_emod_of_nonneg hy.1]; omega
  generalize Int.tmod y.f0 4 = t at t0 t1 ⊢; have ha : ask ls left false t = 0 := ask_ok (by omega) (by omega) rfl t0 (by omega)
  have hw : put12 ls left false t y.f1 = wrote ls left false t.toNat y.f1 := by unfold put12; rw [if_pos ha]
  rw [hw]
  unfold wrote
  rw [if_neg (show ¬ left = -1 by omega)]
  by_cases hlt : left < 64
  ·rw [if_pos hlt, if_neg (show ¬ left ≥ 64 by omega)]
   dsimp only
   generalize hs : ls.set t.toNat (y.f1.take left.toNat ++ List.replicate (y.f1.length - left.toNat) 0) = s; have hs2 : ls.set t.toNat (Go.Proofs.YtckodbfjihcddaaW.Hw.tear y.f1 left.toNat) = s := hs
   have hsl : s.length = 4 := by rw [← hs, List.length_set]; exact hl
   rw [hs2, wake_is (by omega), Option.bind_some]; have hr : rt s (-1) = true := decide_eq_true ⟨by omega, by omega⟩; rw [show wake12 s (-1) true = (s, -1, false, 0) from by unfold wake12; rw [hr]; rfl]
   have hall : (List.range 4).all (fun (k : Nat) => decide (block_Get.f s (-1) false (k : Int) = some (s.getD k z26, 0))) = true := by
    rw [List.all_eq_true]; intro k hk; rw [List.mem_range] at hk; rw [get_is]
    unfold get12
    rw [if_pos (ask_ok (by omega) (by omega) rfl (by omega) (by omega)), Int.toNat_natCast]; exact decide_eq_true rfl
   rw [hall]
   simp
  ·rw [if_neg hlt, if_pos (show left ≥ 64 by omega), if_pos rfl]; exact tears12 ys _ _ (fun x hx => hg x (List.mem_cons_of_mem _ hx)) (by rw [List.length_set]; exact hl) (by omega) (by omega)
theorem BlockTears : ∀ (x0 : List S42) (x1 : Int), (x0.length ≤ maxLen ∧ x0.length * 65 ≤ 140737488351232 ∧ ∀ x_ ∈ x0, G42 x_) → (Lit.int .u16 x1).wf = true → law12_BlockTears.f x0 x1 = some true := by
 intro x0 x1 g0 g1; have h1 := u16_12 g1
 unfold law12_BlockTears.f
 rw [if_pos h1]
 split
 ·rfl
 ·rw [new_is, Option.bind_some]; have hn : new12 4 = ([z26, z26, z26, z26], -1, false, 0) := rfl; rw [hn]
  dsimp only
  rw [arm_is (by decide), Option.bind_some]
  have hm : arm12 [z26, z26, z26, z26] (-1) false x1 = ([z26, z26, z26, z26], x1, false, 0) := by
   unfold arm12
   rw [show rt [z26, z26, z26, z26] (-1) = true from decide_eq_true ⟨by decide, by decide⟩, if_pos rfl, if_neg (by decide), if_neg (by omega)]
  rw [hm, if_pos ⟨rfl, rfl⟩]; exact tears12 _ _ _ g0.2.2 rfl h1.1 h1.2
end Go.Proofs.Ytckodbfjihcddaa.Pl

/- BlockWakes' plain law: a disk that wakes has the same sectors, isn't down, and isn't armed. No condition. -/
import Derived.Test.YtckodbfjihcddaaPl12
import Derived.Test.YtckodbfjihcddaaL12Wakes
namespace Go.Proofs.Ytckodbfjihcddaa.Pl
open Go.RowKit Go.Proofs.Ytckodbfjihcddaa.P Go.Proofs.YtckodbfjihcddaaW.PrintWords Go.Proofs.YtckodbfjihcddaaW.PrintLast Go.Proofs.YtckodbfjihcddaaW.PrintMore
theorem BlockWakes : ∀ (x0 : S24) (x1 : Int), G24 x0 → (Lit.int .u8 x1).wf = true → law12_BlockWakes.f x0.f0 x0.f1 x0.f2 x1 = some true := by
 intro x0 x1 g0 _; have hl := short12 g0
 unfold law12_BlockWakes.f
 rw [wake_is hl, Option.bind_some]
 split
 ·next hn =>
  split
  ·rfl
  ·have hr : rt x0.f0 x0.f1 = false := decide_eq_false (by omega); rw [show wake12 x0.f0 x0.f1 x0.f2 = (x0.f0, x0.f1, x0.f2, 1) from by unfold wake12; rw [hr]; rfl]
   simp
 ·rw [right_rt, Option.bind_some]
  cases hr : rt x0.f0 x0.f1 with
  | false =>
   rw [if_neg (by decide), show wake12 x0.f0 x0.f1 x0.f2 = (x0.f0, x0.f1, x0.f2, 1) from by unfold wake12; rw [hr]; rfl]
   simp
  | true =>
   rw [if_pos rfl, show wake12 x0.f0 x0.f1 x0.f2 = (x0.f0, -1, false, 0) from by unfold wake12; rw [hr]; rfl]
   dsimp only
   rw [wake_is hl, Option.bind_some]; have hr2 : rt x0.f0 (-1) = true := decide_eq_true ⟨(rt_true hr).1, by omega⟩; rw [show wake12 x0.f0 (-1) false = (x0.f0, -1, false, 0) from by unfold wake12; rw [hr2]; rfl]
   have ha : (List.range x0.f0.length).all (fun (i : Nat) => decide (block_Get.f x0.f0 (-1) false (i : Int) = some (x0.f0.getD i z26, 0))) = true := by
    rw [List.all_eq_true]; intro i hi; rw [List.mem_range] at hi; rw [get_is]
    unfold get12
    rw [if_pos (ask_ok (rt_true hr2).1 (by omega) rfl (by omega) (by omega)), Int.toNat_natCast]; exact decide_eq_true rfl
   rw [ha]
   simp
end Go.Proofs.Ytckodbfjihcddaa.Pl

/- ChoiceFair's plain law: draws one behind the other choose all of a list, each in its place: for all lists. No condition. -/
import Derived.Test.YtjlemkdilbnmlaaPLaw14ChoiceFair
import Derived.Test.YtjlemkdilbnmlaaPlCh
namespace Go.Proofs.Ytjlemkdilbnmlaa.Pure
open Go.RowKit Go.Proofs.Ytjlemkdilbnmlaa.P Go.Proofs.YtjlemkdilbnmlaaW.PrintWords Go.Proofs.YtjlemkdilbnmlaaW.PrintLast Go.Proofs.YtjlemkdilbnmlaaW.PrintMore Go.Proofs.Ytjlemkdilbnmlaa.Pl
set_option linter.unusedSimpArgs false
set_option linter.unusedVariables false
theorem fair_l (l : List Int) (a : Int) (hl : l.length ≤ 100) (h0 : 0 ≤ a) (h1 : a ≤ 65535) : ∀ (suf pre : List Int), pre ++ suf = l →
  Ev (fun k => law14_ChoiceFair.l0 k l a (pre.length : Int)) true
 | [], pre, e => by
  have e' : pre = l := by simpa using e
  subst e'
  refine Ev.step (fun k => by rw [law14_ChoiceFair.l0]) ?_
  simp only [Int.lt_irrefl, ↓reduceIte]
  exact Ev.now _
 | x :: suf, pre, e => by
  have h2 : ((pre.length : Nat) : Int) < (l.length : Int) := by rw [← e]; exact mid_lt pre x suf
  have h3 : rd l ((pre.length : Nat) : Int) = x := by rw [← e]; exact rdI pre x suf
  have h4 : wrap64 (((pre.length : Nat) : Int) + 1) = (((pre ++ [x]).length : Nat) : Int) := mid_next pre x suf (by rw [e]; omega)
  have hm0 : 0 ≤ a * (l.length : Int) := Int.mul_nonneg h0 (by omega)
  have hm1 : a * (l.length : Int) ≤ 65535 * 100 := Int.mul_le_mul h1 (by omega) (by omega) (by omega)
  have hd : wrap64 (wrap64 (wrap64 a * (l.length : Int)) + (pre.length : Int)) % 4294967296 = a * (l.length : Int) + (pre.length : Int) := by
   rw [wrap_id a (by omega) (by omega), wrap_id (a * (l.length : Int)) (by omega) (by omega), wrap_id _ (by omega) (by omega)]
   omega
  have hne : l ≠ [] := by rw [← e]; simp
  have hp : pick l (a * (l.length : Int) + (pre.length : Int)) = x := by
   unfold pick
   rw [show (a * (l.length : Int) + (pre.length : Int)) % (l.length : Int) = (pre.length : Int) from by
    rw [Int.add_comm, Int.add_mul_emod_self_right]
    exact Int.emod_eq_of_lt (by omega) h2]
   exact h3
  refine Ev.step (fun k => by rw [law14_ChoiceFair.l0]) ?_
  simp only [h2, hd, One_is l _ hne (by omega) (show (0 : Int) ≤ a * (l.length : Int) + (pre.length : Int) by omega) (by omega), hp, nat_ge pre, h3, h4, Option.bind_some, ↓reduceIte]
  exact fair_l l a hl h0 h1 suf (pre ++ [x]) (by simp [← e])
theorem ChoiceFair : law14_ChoiceFair.Pure := by
 intro l a hm hb hx wa
 refine Ev.rounds (r := true) ?_
 unfold law14_ChoiceFair.f
 refine Ev.bind alive14 ?_
 simp only [↓reduceIte]
 by_cases hg : (l.length : Int) > 100
 ·simp only [hg, ↓reduceIte]
  exact Ev.now _
 ·simp only [hg, ↓reduceIte]
  have ha := u16_bd wa
  exact fair_l l a (by omega) ha.1 ha.2 l [] rfl
end Go.Proofs.Ytjlemkdilbnmlaa.Pure

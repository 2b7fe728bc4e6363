/- DigestTurned, in plain words. No program runs here. No condition. -/
import Derived.Test.YtcmligagkaimeaaPl07
import Derived.Test.YtcmligagkaimeaaPLaw07DigestTurned
namespace Go.Proofs.Ytcmligagkaimeaa.Pl
open Go.RowKit Go.Proofs.Ytcmligagkaimeaa.P Go.Proofs.YtcmligagkaimeaaW.PrintWords Go.Proofs.YtcmligagkaimeaaW.PrintLast Go.Proofs.YtcmligagkaimeaaW.PrintMore
set_option linter.unusedSimpArgs false
set_option linter.unusedVariables false
/-! ### DigestTurned -/
theorem turned_out (v l : List Nm) : Ev (fun k => law07_DigestTurned.j0 k v l true) true := by
 refine Ev.step (fun k => by rw [law07_DigestTurned.j0]) ?_
 simp only [↓reduceIte]
 exact Ev.now _
theorem DigestTurned (a b : List Nm) (ga : a.length ≤ maxLen ∧ a.length * 48 ≤ 140737488351232 ∧ ∀ x_ ∈ a, G35 x_) (gb : b.length ≤ maxLen ∧ b.length * 48 ≤ 140737488351232 ∧ ∀ x_ ∈ b, G35 x_) : ∃ k, law07_DigestTurned.f k a b = some true := by
 obtain ⟨a1, a2⟩ := inV ga
 obtain ⟨b1, b2⟩ := inV gb
 apply Ev.get (g := fun k => law07_DigestTurned.f k a b)
 unfold law07_DigestTurned.f
 refine Ev.bind ev_alive07 ?_
 simp only [↓reduceIte]
 obtain ⟨g, hg, hgi⟩ := ev_ref06_Great a a1 a2
 refine Ev.bind hg ?_
 cases g with
 | true => simp only [↓reduceIte]; exact turned_out a b
 | false =>
  have sa := hgi rfl
  simp only [Bool.false_eq_true, ↓reduceIte]
  obtain ⟨g, hg, hgi⟩ := ev_ref06_Great b b1 b2
  refine Ev.bind hg ?_
  cases g with
  | true => simp only [↓reduceIte]; exact turned_out a b
  | false =>
   have sb := hgi rfl
   simp only [Bool.false_eq_true, ↓reduceIte]
   obtain ⟨r, hr, hri⟩ := ev_ref06_Right a a1 (smallV_lt sa)
   refine Ev.bind hr ?_
   cases r with
   | false => simp only [Bool.false_eq_true, ↓reduceIte]; exact turned_out a b
   | true =>
    simp only [↓reduceIte]
    obtain ⟨q, hq, hqi⟩ := ev_ref06_Right b b1 (smallV_lt sb)
    refine Ev.bind hq ?_
    cases q with
    | false => exact turned_out a b
    | true =>
     have ra := hri.1 rfl
     have rb := hqi.1 rfl
     have oa := of_right ra
     have ob := of_right rb
     have la : (Of a).length ≤ 40 := by have := sa.1; simpa [Of] using this
     have lb : (Of b).length ≤ 40 := by have := sb.1; simpa [Of] using this
     refine Ev.step (fun k => by rw [law07_DigestTurned.j0]) ?_
     simp only [Bool.not_true, Bool.false_eq_true, ↓reduceIte]
     refine Ev.bind (ev_digest_Of b sb) ?_
     refine Ev.bind (ev_digest_Compare a (Of b) sa (by omega)) ?_
     refine Ev.bind (ev_digest_Of a sa) ?_
     refine Ev.bind (ev_digest_Compare b (Of a) sb (by omega)) ?_
     refine Ev.bind (ev_digest_Of a sa) ?_
     refine Ev.bind (ev_digest_Compare a (Of a) sa (by omega)) ?_
     have hlen := cmp_len (Of a) (Of b)
     have ok1 := (cmp_ok (Of a) (Of b) oa.1 ob.1 oa.2 ob.2).1
     have ok2 := (cmp_ok (Of b) (Of a) ob.1 oa.1 ob.2 oa.2).1
     rw [cmp_turned (Of a) (Of b)] at ok2 ⊢
     rw [cmp_self]
     generalize cmp (Of a) (Of b) = c at *
     obtain ⟨c1, c2⟩ := c
     simp only at *
     obtain ⟨s1, hs1, hi1⟩ := ev_ref07_Same c1 c1 (by omega)
     obtain ⟨s2, hs2, hi2⟩ := ev_ref07_Same c2 c2 (by omega)
     have e1 : s1 = true := hi1.2 rfl
     have e2 : s2 = true := hi2.2 rfl
     subst e1 e2
     refine Ev.bind hs1 ?_
     simp only [↓reduceIte]
     refine Ev.bind hs2 ?_
     have z0 : wrap64 (((([] : List Dg).length : Nat) : Int) + ((([] : List Dg).length : Nat) : Int)) = 0 := wrap_id 0 (by omega) (by omega)
     simp only [↓reduceIte, z0]
     refine Ev.bind (ev_digest_Of a sa) ?_
     obtain ⟨t1, ht1, hj1⟩ := ev_digest_Right (Of a) (by omega)
     obtain ⟨t2, ht2, hj2⟩ := ev_digest_Right c1 (by omega)
     obtain ⟨t3, ht3, hj3⟩ := ev_digest_Right c2 (by omega)
     have f1 : t1 = true := hj1.2 oa
     have f2 : t2 = true := hj2.2 ok1
     have f3 : t3 = true := hj3.2 ok2
     subst f1 f2 f3
     refine Ev.bind ht1 ?_
     simp only [↓reduceIte]
     refine Ev.bind ht2 ?_
     simp only [↓reduceIte]
     exact Ev.bind ht3 (Ev.now _)
end Go.Proofs.Ytcmligagkaimeaa.Pl

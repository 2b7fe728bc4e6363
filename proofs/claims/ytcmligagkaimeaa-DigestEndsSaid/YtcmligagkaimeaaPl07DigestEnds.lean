/- DigestEnds, in plain words. No program runs here. No condition. -/
import Derived.Test.YtcmligagkaimeaaPl07
import Derived.Test.YtcmligagkaimeaaPLaw07DigestEnds
namespace Go.Proofs.Ytcmligagkaimeaa.Pl
open Go.RowKit Go.Proofs.Ytcmligagkaimeaa.P Go.Proofs.YtcmligagkaimeaaW.PrintWords Go.Proofs.YtcmligagkaimeaaW.PrintLast Go.Proofs.YtcmligagkaimeaaW.PrintMore
set_option linter.unusedSimpArgs false
set_option linter.unusedVariables false
/-! ### DigestEnds -/
def zeroD (d : Dg) : Dg := ⟨d.f0, d.f1, 0⟩
theorem ends_l1 (suf : List Nm) : ∀ (pre : List Nm) (dp : List Dg), (pre ++ suf).length < 4611686018427387904 → dp.length = pre.length →
  Ev (fun k => law07_DigestEnds.l1 k (pre ++ suf) (dp ++ (Of suf).map zeroD) (pre.length : Int)) true := by
 induction suf with
 | nil =>
  intro pre dp h hd
  refine Ev.step (fun k => by rw [law07_DigestEnds.l1]) ?_
  simp only [end_ge, ↓reduceIte]
  exact Ev.now _
 | cons x suf ih =>
  intro pre dp h hd
  refine Ev.step (fun k => by rw [law07_DigestEnds.l1]) ?_
  have e0 : (Of (x :: suf)).map zeroD = zeroD (ofN x) :: (Of suf).map zeroD := rfl
  rw [e0]
  have e1 : rd_T30 (dp ++ zeroD (ofN x) :: (Of suf).map zeroD) ((pre.length : Nat) : Int) = zeroD (ofN x) := by rw [← hd]; exact rdD _ _ _
  have e2 : ((pre.length : Nat) : Int) < ((dp ++ zeroD (ofN x) :: (Of suf).map zeroD).length : Int) := by rw [← hd]; exact mid_lt _ _ _
  have e3 : (zeroD (ofN x)).f0 = x.f0 := rfl
  have e4 : (zeroD (ofN x)).f1 = x.f1.f0 := rfl
  have e5 : (zeroD (ofN x)).f2 = 0 := rfl
  simp only [mid_lt, nat_ge, ↓reduceIte, rdN, mid_next pre x suf (by omega), e1, e2, e3, e4, e5]
  have := ih (pre ++ [x]) (dp ++ [zeroD (ofN x)]) (by rw [← List.append_cons]; exact h) (by simp [hd])
  rw [← List.append_cons pre x suf, ← List.append_cons] at this
  exact this
theorem ends_l0 (v : List Nm) (hv : v.length < 4611686018427387904) (suf : List Dg) : ∀ (pre dp : List Dg), (pre ++ suf).length < 4611686018427387904 → dp.length = pre.length →
  Ev (fun k => law07_DigestEnds.l0 k v (pre ++ suf) (dp ++ suf.map zeroD) ((Of v).map zeroD) (pre.length : Int)) true := by
 induction suf with
 | nil =>
  intro pre dp h hd
  refine Ev.step (fun k => by rw [law07_DigestEnds.l0]) ?_
  simp only [end_ge, ↓reduceIte]
  exact ends_l1 v [] [] hv rfl
 | cons x suf ih =>
  intro pre dp h hd
  refine Ev.step (fun k => by rw [law07_DigestEnds.l0]) ?_
  have e0 : (x :: suf).map zeroD = zeroD x :: suf.map zeroD := rfl
  rw [e0]
  have e1 : rd_T30 (dp ++ zeroD x :: suf.map zeroD) ((pre.length : Nat) : Int) = zeroD x := by rw [← hd]; exact rdD _ _ _
  have e2 : ((pre.length : Nat) : Int) < ((dp ++ zeroD x :: suf.map zeroD).length : Int) := by rw [← hd]; exact mid_lt _ _ _
  have e3 : (zeroD x).f0 = x.f0 := rfl
  have e4 : (zeroD x).f1 = x.f1 := rfl
  have e5 : (zeroD x).f2 = 0 := rfl
  simp only [mid_lt, nat_ge, ↓reduceIte, rdD, mid_next pre x suf (by omega), e1, e2, e3, e4, e5]
  have := ih (pre ++ [x]) (dp ++ [zeroD x]) (by rw [← List.append_cons]; exact h) (by simp [hd])
  rw [← List.append_cons pre x suf, ← List.append_cons] at this
  exact this
theorem ends_out (v : List Nm) (l : List Dg) : Ev (fun k => law07_DigestEnds.j0 k v l true) true := by
 refine Ev.step (fun k => by rw [law07_DigestEnds.j0]) ?_
 simp only [↓reduceIte]
 exact Ev.now _
theorem DigestEnds (v : List Nm) (l : List Dg) (gv : v.length ≤ maxLen ∧ v.length * 48 ≤ 140737488351232 ∧ ∀ x_ ∈ v, G35 x_) (gl : l.length ≤ maxLen ∧ l.length * 24 ≤ 140737488351232 ∧ ∀ x_ ∈ l, G30 x_) : ∃ k, law07_DigestEnds.f k v l = some true := by
 obtain ⟨b1, b2⟩ := inV gv
 apply Ev.get (g := fun k => law07_DigestEnds.f k v l)
 unfold law07_DigestEnds.f
 refine Ev.bind ev_alive07 ?_
 simp only [↓reduceIte]
 obtain ⟨g, hg, hgi⟩ := ev_ref06_Great v b1 b2
 refine Ev.bind hg ?_
 cases g with
 | true => simp only [↓reduceIte]; exact ends_out v l
 | false =>
  have sv := hgi rfl
  simp only [Bool.false_eq_true, ↓reduceIte]
  by_cases hl : (l.length : Int) > 40
  ·simp only [hl, ↓reduceIte]; exact ends_out v l
  ·simp only [hl, ↓reduceIte]
   obtain ⟨r, hr, hri⟩ := ev_ref06_Right v b1 (smallV_lt sv)
   refine Ev.bind hr ?_
   cases r with
   | false => simp only [Bool.false_eq_true, ↓reduceIte]; exact ends_out v l
   | true =>
    simp only [↓reduceIte]
    obtain ⟨q, hq, hqi⟩ := ev_ref07_Right l (by omega)
    refine Ev.bind hq ?_
    cases q with
    | false => exact ends_out v l
    | true =>
     refine Ev.step (fun k => by rw [law07_DigestEnds.j0]) ?_
     simp only [Bool.not_true, Bool.false_eq_true, ↓reduceIte]
     have c1 := ev_digest_Compare [] l ⟨by simp, fun x hx => by simp at hx⟩ (by omega)
     have c2 := ev_digest_Compare v [] sv (by simp)
     rw [show Of [] = [] from rfl, cmp_nil] at c1
     rw [cmp_nil_r] at c2
     refine Ev.bind c1 ?_
     refine Ev.bind c2 ?_
     have z1 : (((l.map (fun d => (⟨d.f0, d.f1, 0⟩ : Dg))).length : Nat) : Int) = (l.length : Int) := by simp
     have z2 : (((((Of v).map (fun d => (⟨d.f0, d.f1, 0⟩ : Dg))).length : Nat) : Int) != (v.length : Int)) = false := by simp [Of]
     simp only [z1, z2, ↓reduceIte, nil_eq]
     refine Ev.step (fun k => by rw [law07_DigestEnds.j1]) ?_
     simp only [Bool.false_eq_true, ↓reduceIte]
     exact ends_l0 v b1 l [] [] (by simp; omega) rfl
end Go.Proofs.Ytcmligagkaimeaa.Pl

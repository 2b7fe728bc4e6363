/- EntryOvers' plain law: of two tables each of which is over the other one both are the same; one that is over another one has all its keys: for all tables that may be. No condition. -/
import Derived.Test.YtpccnpgigmcfoaaPLaw04EntryOvers
import Derived.Test.YtpccnpgigmcfoaaOps
import Derived.Test.YtpccnpgigmcfoaaPlEJ
namespace Go.Proofs.Ytpccnpgigmcfoaa.Pl
open Go.RowKit Go.Proofs.Ytpccnpgigmcfoaa.P Go.Proofs.YtpccnpgigmcfoaaW.PrintWords Go.Proofs.YtpccnpgigmcfoaaW.PrintLast Go.Proofs.YtpccnpgigmcfoaaW.PrintMore Go.Proofs.YtpccnpgigmcfoaaW.Hw
set_option linter.unusedSimpArgs false
set_option linter.unusedVariables false
theorem alive04 : Ev (fun k => law04_alive.f k) true := Ev.of (fun k => law04_alive.mono k) (k := 60) (by decide +kernel)
theorem inE {l : List E} (h : l.length ≤ maxLen ∧ l.length * 32 ≤ 140737488351232 ∧ ∀ x_ ∈ l, G30 x_) : l.length < 4611686018427387904 ∧ ∀ x ∈ l, x.f2.size ≤ 140737488351232 := ⟨by omega, fun x hx => (h.2.2 x hx).2.2⟩
theorem over_nil (a : List E) : OverE a [] := fun y hy => by simp at hy
theorem over_self {a : List E} (ha : Ris kE a) : OverE a a := (over_iff ha).2 (fun k => ole_refl _)
theorem overs_fin {a b : List E} (ha : RightE a) (hb : RightE b) (na : a.length < 4611686018427387904) : Ev (fun k => law04_EntryOvers.j2 k a b) true := by
 refine Ev.step (fun k => by rw [law04_EntryOvers.j2]) ?_
 obtain ⟨u, hu, qu⟩ := over_is a b
 obtain ⟨v, hv, qv⟩ := over_is b a
 obtain ⟨s, es, qs⟩ := ev_ref04_Same a b na
 simp only [over_true (over_self ha.1), over_true (over_nil a), hu, hv, Option.bind_some, ↓reduceIte]
 cases u with
 | false =>
  simp only [Bool.false_eq_true, ↓reduceIte]
  refine Ev.bind es ?_
  have : s = false := by
   cases s with
   | false => rfl
   | true =>
    have e := qs.1 rfl
    subst e
    have := qu.2 (over_self ha.1)
    cases this
  rw [this]
  exact Ev.now _
 | true =>
  simp only [↓reduceIte]
  refine Ev.bind es ?_
  have : v = s := by
   cases s with
   | false =>
    cases v with
    | false => rfl
    | true =>
     have o1 := qu.1 rfl
     have o2 := qv.1 rfl
     have e : a = b := ris_ext ha.1 hb.1 (fun k => ole_antisymm ((over_iff ha.1).1 o2 k) ((over_iff hb.1).1 o1 k))
     have := qs.2 e
     cases this
   | true =>
    have e := qs.1 rfl
    subst e
    exact qv.2 (over_self ha.1)
  rw [this]
  simp only [beq_self_eq_true]
  exact Ev.now _
theorem overs_l {a b : List E} (ha : RightE a) (hb : RightE b) (na : a.length < 4611686018427387904) (nb : b.length < 4611686018427387904) (ho : OverE a b) : ∀ (suf pre : List E), pre ++ suf = b → Ev (fun k => law04_EntryOvers.l0 k a b (pre.length : Int)) true
 | [], pre, e => by
  have e' : pre = b := by simpa using e
  subst e'
  refine Ev.step (fun k => by rw [law04_EntryOvers.l0]) ?_
  simp only [Int.lt_irrefl, ↓reduceIte]
  exact overs_fin ha hb na
 | x :: suf, pre, e => by
  subst e
  obtain ⟨y, hy, hg⟩ := ho x (by simp)
  have hv : ¬ y.f1 < x.f1 := fun h => hg (.inl h)
  refine Ev.step (fun k => by rw [law04_EntryOvers.l0]) ?_
  simp only [mid_lt, nat_ge, rdE, get_is, hy, got, Option.bind_some, hv, mid_next pre x suf (by omega), ↓reduceIte]
  have i := overs_l ha hb na nb ho suf (pre ++ [x]) (by simp)
  exact i
theorem EntryOvers : ∀ (x0 : List S30) (x1 : List S30), (x0.length ≤ maxLen ∧ x0.length * 32 ≤ 140737488351232 ∧ ∀ x_ ∈ x0, G30 x_) → (x1.length ≤ maxLen ∧ x1.length * 32 ≤ 140737488351232 ∧ ∀ x_ ∈ x1, G30 x_) → ∃ k, law04_EntryOvers.f k x0 x1 = some true := by
 intro a b ia ib
 obtain ⟨la, sa⟩ := inE ia
 obtain ⟨lb, sb⟩ := inE ib
 refine Ev.rounds (r := true) ?_
 unfold law04_EntryOvers.f
 refine Ev.bind alive04 ?_
 simp only [↓reduceIte]
 have out : Ev (fun k => law04_EntryOvers.j0 k a b true) true := by
  refine Ev.step (fun k => by rw [law04_EntryOvers.j0]) ?_
  simp only [↓reduceIte]
  exact Ev.now _
 obtain ⟨g0, e0, h0⟩ := ev_ref04_Great a la sa
 refine Ev.bind e0 ?_
 cases g0 with
 | true => simp only [↓reduceIte]; exact out
 | false =>
 simp only [Bool.false_eq_true, ↓reduceIte]
 obtain ⟨g1, e1, h1⟩ := ev_ref04_Great b lb sb
 refine Ev.bind e1 ?_
 cases g1 with
 | true => simp only [↓reduceIte]; exact out
 | false =>
 simp only [Bool.false_eq_true, ↓reduceIte]
 obtain ⟨r0, e3, q0⟩ := ev_ref04_Right a la
 refine Ev.bind e3 ?_
 cases r0 with
 | false => simp only [Bool.false_eq_true, ↓reduceIte]; exact out
 | true =>
 simp only [↓reduceIte]
 obtain ⟨r1, e4, q1⟩ := ev_ref04_Right b lb
 refine Ev.bind e4 ?_
 cases r1 with
 | false => simp only [Bool.not_false]; exact out
 | true =>
 simp only [Bool.not_true]
 have ha := q0.1 rfl
 have hb := q1.1 rfl
 refine Ev.step (fun k => by rw [law04_EntryOvers.j0]) ?_
 obtain ⟨u, hu, qu⟩ := over_is a b
 simp only [Bool.false_eq_true, hu, Option.bind_some, ↓reduceIte]
 cases u with
 | false => simp only [Bool.false_eq_true, ↓reduceIte]; exact overs_fin ha hb la
 | true =>
 simp only [↓reduceIte]
 exact overs_l ha hb la lb (qu.1 rfl) b [] rfl
end Go.Proofs.Ytpccnpgigmcfoaa.Pl

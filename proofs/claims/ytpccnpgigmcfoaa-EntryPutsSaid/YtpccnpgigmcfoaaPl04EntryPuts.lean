/- EntryPuts' plain law: what was put is got, all else is as it was: for all tables. No condition. -/
import Derived.Test.YtpccnpgigmcfoaaPLaw04EntryPuts
import Derived.Test.YtpccnpgigmcfoaaOps
import Derived.Test.YtpccnpgigmcfoaaPlEP
import Derived.Test.YtpccnpgigmcfoaaPlEA
namespace Go.Proofs.Ytpccnpgigmcfoaa.Pl
open Go.RowKit Go.Proofs.Ytpccnpgigmcfoaa.P Go.Proofs.YtpccnpgigmcfoaaW.PrintWords Go.Proofs.YtpccnpgigmcfoaaW.PrintLast Go.Proofs.YtpccnpgigmcfoaaW.PrintMore Go.Proofs.YtpccnpgigmcfoaaW.Hw
set_option linter.unusedSimpArgs false
set_option linter.unusedVariables false
theorem alive04 : Ev (fun k => law04_alive.f k) true := Ev.of (fun k => law04_alive.mono k) (k := 60) (by decide +kernel)
theorem inE {l : List E} (h : l.length ≤ maxLen ∧ l.length * 32 ≤ 140737488351232 ∧ ∀ x_ ∈ l, G30 x_) : l.length < 4611686018427387904 ∧ ∀ x ∈ l, x.f2.size ≤ 140737488351232 := ⟨by omega, fun x hx => (h.2.2 x hx).2.2⟩
theorem puts_l (m : List E) (a b : Int) (hm : m.length < 1099511627776) : ∀ (suf pre : List E), pre ++ suf = m →
  Ev (fun k => law04_EntryPuts.l0 k m (m.filter (fun x => !decide (x.f1 ≤ wrap64 b))) ((pre.filter (fun x => !decide (x.f1 ≤ wrap64 b))).length : Int) (pre.length : Int) a b) true
 | [], pre, e => by
  have e' : pre = m := by simpa using e
  subst e'
  refine Ev.step (fun k => by rw [law04_EntryPuts.l0]) ?_
  simp only [Int.lt_irrefl, ↓reduceIte]
  exact Ev.cast (Ev.now _) (by simp)
 | x :: suf, pre, e => by
  subst e
  have hl : pre.length + (suf.length + 1) < 1099511627776 := by simpa using hm
  have hf : (pre.filter (fun x => !decide (x.f1 ≤ wrap64 b))).length ≤ pre.length := List.length_filter_le _ _
  have i := puts_l (pre ++ x :: suf) a b hm suf (pre ++ [x]) (by simp)
  refine Ev.step (fun k => by rw [law04_EntryPuts.l0]) ?_
  simp only [mid_lt, nat_ge, rdE, ↓reduceIte, mid_next pre x suf (by omega)]
  by_cases hk : x.f1 > wrap64 b
  ·have hd : (!decide (x.f1 ≤ wrap64 b)) = true := by simp; omega
   have hs : (pre ++ x :: suf).filter (fun x => !decide (x.f1 ≤ wrap64 b)) = pre.filter (fun x => !decide (x.f1 ≤ wrap64 b)) ++ x :: suf.filter (fun x => !decide (x.f1 ≤ wrap64 b)) := by rw [List.filter_append, List.filter_cons, if_pos hd]
   have hp : (pre ++ [x]).filter (fun x => !decide (x.f1 ≤ wrap64 b)) = pre.filter (fun x => !decide (x.f1 ≤ wrap64 b)) ++ [x] := by rw [List.filter_append, List.filter_cons, if_pos hd, List.filter_nil]
   have hn : ¬ ((!(x.f0 == x.f0) || (!(x.f1 == x.f1) || (!(x.f2.toList == x.f2.toList)))) = true) := fun e => (ne_is x x).1 e rfl
   rw [hp] at i
   rw [hs] at i ⊢
   generalize pre.filter (fun x => !decide (x.f1 ≤ wrap64 b)) = p at hf i ⊢
   generalize suf.filter (fun x => !decide (x.f1 ≤ wrap64 b)) = s at i ⊢
   have hlt := mid_lt p x s
   have hge : ¬ ((p.length : Nat) : Int) ≥ ((p ++ x :: s).length : Int) := by omega
   have hw : wrap64 (((p.length : Nat) : Int) + 1) = (((p ++ [x]).length : Nat) : Int) := by rw [wrap_nat _ (by omega), List.length_append, List.length_singleton]
   simp only [hk, ↓reduceIte, hge, nat_ge, hlt, rdE, hn, hw]
   exact i
  ·have hd : ¬ (!decide (x.f1 ≤ wrap64 b)) = true := by simp; omega
   have hp : (pre ++ [x]).filter (fun x => !decide (x.f1 ≤ wrap64 b)) = pre.filter (fun x => !decide (x.f1 ≤ wrap64 b)) := by rw [List.filter_append, List.filter_cons, if_neg hd, List.filter_nil, List.append_nil]
   rw [hp] at i
   simp only [hk, ↓reduceIte]
   exact i
theorem puts_fin {l : List E} {x : E} (hl : RightE l) (hx : MayE x) (a b : Int) : Ev (fun k => law04_EntryPuts.j0 k l false x.f0 x.f1 x.f2 a b) true := by
 have hll := right_len hl
 have hm := right_put hl hx
 have hml := right_len hm
 have fin : Ev (fun k => law04_EntryPuts.j1 k (putE l x) false a b) true := by
  refine Ev.step (fun k => by rw [law04_EntryPuts.j1]) ?_
  simp only [Bool.false_eq_true, ↓reduceIte, above_is (putE l x) (wrap64 b) (by omega), Option.bind_some]
  exact puts_l (putE l x) a b (by omega) (putE l x) [] rfl
 obtain ⟨r, er, qr⟩ := ev_entry_Right (putE l x) (by omega)
 rw [qr.2 hm] at er
 refine Ev.step (fun k => by rw [law04_EntryPuts.j0]) ?_
 have h1 : look kE (putE l x) x.f0 = some x := by rw [look_putE, if_pos rfl]
 have hn : ¬ ((!(x.f0 == x.f0) || (!(x.f1 == x.f1) || (!(x.f2.toList == x.f2.toList)))) = true) := fun e => (ne_is x x).1 e rfl
 simp only [Bool.false_eq_true, ↓reduceIte, put_is hl hx (by omega), get_is, Option.bind_some, h1, got, hn]
 by_cases hk : Int.tmod (wrap64 a) 12 = x.f0
 ·simp only [hk, ↓reduceIte]
  exact Ev.bind er (by simpa using fin)
 ·have h2 : look kE (putE l x) (Int.tmod (wrap64 a) 12) = look kE l (Int.tmod (wrap64 a) 12) := by rw [look_putE, if_neg (fun e => hk e.symm)]
  simp only [hk, ↓reduceIte, h2]
  have h3 : ∀ o : Option E, ¬ ((!((got o).1 == (got o).1) || (!((got o).2.1 == (got o).2.1) || (!((got o).2.2.1.toList == (got o).2.2.1.toList)))) = true) := fun o => by simp
  have h4 : ∀ o : Option E, ¬ (((got o).2.2.2 != (got o).2.2.2) = true) := fun o => by simp
  have h3' := h3 (look kE l (Int.tmod (wrap64 a) 12))
  have h4' := h4 (look kE l (Int.tmod (wrap64 a) 12))
  unfold got at h3' h4'
  simp only [h3', h4', ↓reduceIte]
  exact Ev.bind er (by simpa using fin)
theorem EntryPuts : ∀ (x0 : List S30) (x1 : S30) (x2 : S38), (x0.length ≤ maxLen ∧ x0.length * 32 ≤ 140737488351232 ∧ ∀ x_ ∈ x0, G30 x_) → G30 x1 → G38 x2 → ∃ k, law04_EntryPuts.f k x0 x1.f0 x1.f1 x1.f2 x2.f0 x2.f1 = some true := by
 intro a x ab ia _ _
 obtain ⟨la, sa⟩ := inE ia
 refine Ev.rounds (r := true) ?_
 unfold law04_EntryPuts.f
 refine Ev.bind alive04 ?_
 simp only [↓reduceIte]
 have out : Ev (fun k => law04_EntryPuts.j0 k a true x.f0 x.f1 x.f2 ab.f0 ab.f1) true := by
  refine Ev.step (fun k => by rw [law04_EntryPuts.j0]) ?_
  simp only [↓reduceIte]
  exact Ev.now _
 obtain ⟨g0, e0, h0⟩ := ev_ref04_Great a la sa
 refine Ev.bind e0 ?_
 cases g0 with
 | true => simp only [↓reduceIte]; exact out
 | false =>
 simp only [Bool.false_eq_true, ↓reduceIte]
 obtain ⟨r, er, qr⟩ := ev_ref04_Right a (by have := h0 rfl; omega)
 refine Ev.bind er ?_
 cases r with
 | false => simp only [Bool.false_eq_true, ↓reduceIte]; exact out
 | true =>
 simp only [↓reduceIte]
 obtain ⟨m, em, qm⟩ := may04_is x
 simp only [em, Option.bind_some]
 cases m with
 | false => exact out
 | true => exact puts_fin (qr.1 rfl) (qm.1 rfl) _ _
end Go.Proofs.Ytpccnpgigmcfoaa.Pl

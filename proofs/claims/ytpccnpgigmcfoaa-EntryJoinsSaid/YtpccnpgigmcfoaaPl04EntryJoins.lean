/- EntryJoins' plain law: any tables are joined, and any entry is put, as the document says: for all tables. No condition. -/
import Derived.Test.YtpccnpgigmcfoaaPLaw04EntryJoins
import Derived.Test.YtpccnpgigmcfoaaOps
import Derived.Test.YtpccnpgigmcfoaaPlEP
import Derived.Test.YtpccnpgigmcfoaaPlEQ
namespace Go.Proofs.Ytpccnpgigmcfoaa.Pl
open Go.RowKit Go.Proofs.Ytpccnpgigmcfoaa.P Go.Proofs.YtpccnpgigmcfoaaW.PrintWords Go.Proofs.YtpccnpgigmcfoaaW.PrintLast Go.Proofs.YtpccnpgigmcfoaaW.PrintMore Go.Proofs.YtpccnpgigmcfoaaW.Hw
set_option linter.unusedSimpArgs false
set_option linter.unusedVariables false
theorem alive04 : Ev (fun k => law04_alive.f k) true := Ev.of (fun k => law04_alive.mono k) (k := 60) (by decide +kernel)
theorem inE {l : List E} (h : l.length ≤ maxLen ∧ l.length * 32 ≤ 140737488351232 ∧ ∀ x_ ∈ l, G30 x_) : l.length < 4611686018427387904 ∧ ∀ x ∈ l, x.f2.size ≤ 140737488351232 := ⟨by omega, fun x hx => (h.2.2 x hx).2.2⟩
theorem joins_fin {a b : List E} {x : E} (ha : RightE a) (hb : RightE b) (hx : MayE x) : Ev (fun k => law04_EntryJoins.j0 k a b false x.f0 x.f1 x.f2) true := by
 have la := right_len ha
 have lb := right_len hb
 refine Ev.step (fun k => by rw [law04_EntryJoins.j0]) ?_
 have h0 : ([] : List E).length + a.length < 4398046511104 := by simp; omega
 simp only [Bool.false_eq_true, ↓reduceIte]
 refine Ev.bind (Ev.nowk _) ?_
 simp only [h0, ↓reduceIte]
 refine Ev.bind (Ev.nowk _) ?_
 simp only [List.nil_append]
 refine Ev.bind (ev_Join a b (by omega)) (Ev.bind (ev_ref04_Join a b ha hb) ?_)
 have hj := right_len (right_join ha hb)
 refine Ev.bind (ev_same_true (by omega) rfl) ?_
 simp only [↓reduceIte, put_is ha hx (by omega), Option.bind_some]
 refine Ev.bind (ev_ref04_Put a x ha.1 (by omega)) ?_
 have hp := right_len (right_put ha hx)
 refine Ev.bind (ev_same_true (by omega) rfl) ?_
 simp only [↓reduceIte]
 obtain ⟨r, er, qr⟩ := over_is a b
 obtain ⟨s, es, qs⟩ := ev_ref04_Over a b ha hb
 have hrs : (r == s) = true := by rw [beq_iff_eq]; exact bool_iff qr qs
 simp only [er, Option.bind_some]
 refine Ev.bind es ?_
 simp only [hrs, ↓reduceIte]
 exact Ev.bind (ev_same_true (by omega) rfl) (Ev.now _)
theorem EntryJoins : ∀ (x0 : List S30) (x1 : List S30) (x2 : S30), (x0.length ≤ maxLen ∧ x0.length * 32 ≤ 140737488351232 ∧ ∀ x_ ∈ x0, G30 x_) → (x1.length ≤ maxLen ∧ x1.length * 32 ≤ 140737488351232 ∧ ∀ x_ ∈ x1, G30 x_) → G30 x2 → ∃ k, law04_EntryJoins.f k x0 x1 x2.f0 x2.f1 x2.f2 = some true := by
 intro a b x ia ib _
 obtain ⟨la, sa⟩ := inE ia
 obtain ⟨lb, sb⟩ := inE ib
 refine Ev.rounds (r := true) ?_
 unfold law04_EntryJoins.f
 refine Ev.bind alive04 ?_
 simp only [↓reduceIte]
 have out : Ev (fun k => law04_EntryJoins.j0 k a b true x.f0 x.f1 x.f2) true := by
  refine Ev.step (fun k => by rw [law04_EntryJoins.j0]) ?_
  simp only [↓reduceIte]
  exact Ev.now _
 obtain ⟨g0, e0, h0⟩ := ev_ref04_Great a la sa
 refine Ev.bind e0 ?_
 cases g0 with
 | true => simp only [↓reduceIte]; exact out
 | false =>
 simp only [Bool.false_eq_true, ↓reduceIte]
 obtain ⟨g1, e1, h1⟩ := ev_ref04_Great b lb sb
 refine Ev.bind e1 ?_
 cases g1 with
 | true => simp only [↓reduceIte]; exact out
 | false =>
 simp only [Bool.false_eq_true, ↓reduceIte]
 obtain ⟨r, er, qr⟩ := ev_ref04_Right a (by have := h0 rfl; omega)
 refine Ev.bind er ?_
 cases r with
 | false => simp only [Bool.false_eq_true, ↓reduceIte]; exact out
 | true =>
 simp only [↓reduceIte]
 obtain ⟨s, es, qs⟩ := ev_ref04_Right b (by have := h1 rfl; omega)
 refine Ev.bind es ?_
 cases s with
 | false => simp only [Bool.false_eq_true, ↓reduceIte]; exact out
 | true =>
 simp only [↓reduceIte]
 obtain ⟨m, em, qm⟩ := may04_is x
 simp only [em, Option.bind_some]
 cases m with
 | false => simp only [Bool.not_false]; exact out
 | true => simp only [Bool.not_true]; exact joins_fin (qr.1 rfl) (qs.1 rfl) (qm.1 rfl)
end Go.Proofs.Ytpccnpgigmcfoaa.Pl

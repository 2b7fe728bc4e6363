/- EntryLattice's plain law: joining in any order, and twice, is the same, and the least that is over both: for all tables that may be. No condition. -/
import Derived.Test.YtpccnpgigmcfoaaPLaw04EntryLattice
import Derived.Test.YtpccnpgigmcfoaaOps
import Derived.Test.YtpccnpgigmcfoaaPlEJ
namespace Go.Proofs.Ytpccnpgigmcfoaa.Pl
open Go.RowKit Go.Proofs.Ytpccnpgigmcfoaa.P Go.Proofs.YtpccnpgigmcfoaaW.PrintWords Go.Proofs.YtpccnpgigmcfoaaW.PrintLast Go.Proofs.YtpccnpgigmcfoaaW.PrintMore Go.Proofs.YtpccnpgigmcfoaaW.Hw
set_option linter.unusedSimpArgs false
set_option linter.unusedVariables false
theorem alive04 : Ev (fun k => law04_alive.f k) true := Ev.of (fun k => law04_alive.mono k) (k := 60) (by decide +kernel)
theorem inE {l : List E} (h : l.length ≤ maxLen ∧ l.length * 32 ≤ 140737488351232 ∧ ∀ x_ ∈ l, G30 x_) : l.length < 4611686018427387904 ∧ ∀ x ∈ l, x.f2.size ≤ 140737488351232 := ⟨by omega, fun x hx => (h.2.2 x hx).2.2⟩
theorem EntryLattice : ∀ (x0 : List S30) (x1 : List S30) (x2 : List S30), (x0.length ≤ maxLen ∧ x0.length * 32 ≤ 140737488351232 ∧ ∀ x_ ∈ x0, G30 x_) → (x1.length ≤ maxLen ∧ x1.length * 32 ≤ 140737488351232 ∧ ∀ x_ ∈ x1, G30 x_) → (x2.length ≤ maxLen ∧ x2.length * 32 ≤ 140737488351232 ∧ ∀ x_ ∈ x2, G30 x_) → ∃ k, law04_EntryLattice.f k x0 x1 x2 = some true := by
 intro a b c ia ib ic
 obtain ⟨la, sa⟩ := inE ia
 obtain ⟨lb, sb⟩ := inE ib
 obtain ⟨lc, sc⟩ := inE ic
 refine Ev.rounds (r := true) ?_
 unfold law04_EntryLattice.f
 refine Ev.bind alive04 ?_
 simp only [↓reduceIte]
 have out : Ev (fun k => law04_EntryLattice.j0 k a b c true) true := by
  refine Ev.step (fun k => by rw [law04_EntryLattice.j0]) ?_
  simp only [↓reduceIte]
  exact Ev.now _
 obtain ⟨g0, e0, h0⟩ := ev_ref04_Great a la sa
 refine Ev.bind e0 ?_
 cases g0 with
 | true => simp only [↓reduceIte]; exact out
 | false =>
 simp only [Bool.false_eq_true, ↓reduceIte]
 obtain ⟨g1, e1, h1⟩ := ev_ref04_Great b lb sb
 refine Ev.bind e1 ?_
 cases g1 with
 | true => simp only [↓reduceIte]; exact out
 | false =>
 simp only [Bool.false_eq_true, ↓reduceIte]
 obtain ⟨g2, e2, h2⟩ := ev_ref04_Great c lc sc
 refine Ev.bind e2 ?_
 cases g2 with
 | true => simp only [↓reduceIte]; exact out
 | false =>
 simp only [Bool.false_eq_true, ↓reduceIte]
 obtain ⟨r0, e3, q0⟩ := ev_ref04_Right a la
 refine Ev.bind e3 ?_
 cases r0 with
 | false => simp only [Bool.false_eq_true, ↓reduceIte]; exact out
 | true =>
 simp only [↓reduceIte]
 obtain ⟨r1, e4, q1⟩ := ev_ref04_Right b lb
 refine Ev.bind e4 ?_
 cases r1 with
 | false => simp only [Bool.false_eq_true, ↓reduceIte]; exact out
 | true =>
 simp only [↓reduceIte]
 obtain ⟨r2, e5, q2⟩ := ev_ref04_Right c lc
 refine Ev.bind e5 ?_
 cases r2 with
 | false => simp only [Bool.not_false]; exact out
 | true =>
 simp only [Bool.not_true]
 have ha := q0.1 rfl
 have hb := q1.1 rfl
 have hc := q2.1 rfl
 have na := right_len ha
 have nb := right_len hb
 have nc := right_len hc
 have hx := right_join ha hb
 have nx := right_len hx
 have hy := right_join hx hc
 have ny := right_len hy
 have hcb := right_join hc hb
 have ncb := right_len hcb
 have hz := right_join ha hcb
 have nz := right_len hz
 have hba := right_join hb ha
 refine Ev.step (fun k => by rw [law04_EntryLattice.j0]) ?_
 simp only [Bool.false_eq_true, ↓reduceIte]
 refine Ev.bind (ev_Join a b (by omega)) (Ev.bind (ev_Join a b (by omega)) (Ev.bind (ev_Join (joinE a b) c (by omega)) (Ev.bind (ev_Join c b (by omega)) (Ev.bind (ev_Join a (joinE c b) (by omega)) (Ev.bind (ev_Join b a (by omega)) ?_)))))
 have s1 : joinE a b = joinE b a := ris_ext hx.1 hba.1 (fun k => by rw [look_joinE ha.1 hb.1, look_joinE hb.1 ha.1, sup_comm])
 refine Ev.bind (ev_same_true (by omega) s1) ?_
 simp only [↓reduceIte]
 have s2 : joinE (joinE a b) c = joinE a (joinE c b) := ris_ext hy.1 hz.1 (fun k => by rw [look_joinE hx.1 hc.1, look_joinE ha.1 hb.1, look_joinE ha.1 hcb.1, look_joinE hc.1 hb.1, sup_assoc, sup_comm (l := b) (m := c)])
 refine Ev.bind (ev_same_true (by omega) s2) ?_
 simp only [↓reduceIte]
 refine Ev.bind (ev_Join (joinE a b) (joinE a b) (by omega)) ?_
 have hxx := right_join hx hx
 have nxx := right_len hxx
 have s3 : joinE (joinE a b) (joinE a b) = joinE a b := ris_ext hxx.1 hx.1 (fun k => by rw [look_joinE hx.1 hx.1, sup_self])
 refine Ev.bind (ev_same_true (by omega) s3) ?_
 have o1 : OverE (joinE a b) a := (over_iff ha.1).2 (fun k => by rw [look_joinE ha.1 hb.1]; exact ole_l _ _)
 have o2 : OverE (joinE a b) b := (over_iff hb.1).2 (fun k => by rw [look_joinE ha.1 hb.1]; exact ole_r _ _)
 have o3 : OverE (joinE (joinE a b) c) (joinE a b) := (over_iff hx.1).2 (fun k => by rw [look_joinE hx.1 hc.1]; exact ole_l _ _)
 simp only [↓reduceIte, over_true o1, over_true o2, over_true o3, Option.bind_some]
 obtain ⟨r, er, qr⟩ := ev_entry_Right (joinE a b) (by omega)
 rw [qr.2 hx] at er
 refine Ev.bind er ?_
 simp only [↓reduceIte]
 have ht := top_join ha.1 hb.1
 have fin : Ev (fun k => (entry_Top.f k (joinE a b)).bind fun t142 => ((entry_Top.f k a).bind fun t143 => ((entry_Top.f k b).bind fun t144 => (some (t142 == (mx t143 t144)))))) true := by
  refine Ev.bind (ev_entry_Top _ (by omega)) (Ev.bind (ev_entry_Top _ (by omega)) (Ev.bind (ev_entry_Top _ (by omega)) ?_))
  simp only [ht, beq_self_eq_true]
  exact Ev.now _
 obtain ⟨u, hu, qu⟩ := over_is c a
 obtain ⟨v, hv, qv⟩ := over_is c b
 simp only [hu, hv, Option.bind_some]
 cases u with
 | false => simp only [Bool.false_eq_true, ↓reduceIte]; exact fin
 | true =>
 cases v with
 | false => simp only [Bool.false_eq_true, ↓reduceIte]; exact fin
 | true =>
 have o4 : OverE c (joinE a b) := (over_iff hx.1).2 (fun k => by rw [look_joinE ha.1 hb.1]; exact ole_sup ((over_iff ha.1).1 (qu.1 rfl) k) ((over_iff hb.1).1 (qv.1 rfl) k))
 simp only [↓reduceIte, over_true o4, Option.bind_some]
 exact fin
end Go.Proofs.Ytpccnpgigmcfoaa.Pl

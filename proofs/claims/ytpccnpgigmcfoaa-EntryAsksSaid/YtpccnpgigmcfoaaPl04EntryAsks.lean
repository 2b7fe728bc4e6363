/- EntryAsks' plain law: any table is asked as the document says: for all tables. No condition. -/
import Derived.Test.YtpccnpgigmcfoaaPLaw04EntryAsks
import Derived.Test.YtpccnpgigmcfoaaOps
import Derived.Test.YtpccnpgigmcfoaaPlEA
namespace Go.Proofs.Ytpccnpgigmcfoaa.Pl
open Go.RowKit Go.Proofs.Ytpccnpgigmcfoaa.P Go.Proofs.YtpccnpgigmcfoaaW.PrintWords Go.Proofs.YtpccnpgigmcfoaaW.PrintLast Go.Proofs.YtpccnpgigmcfoaaW.PrintMore Go.Proofs.YtpccnpgigmcfoaaW.Hw
set_option linter.unusedSimpArgs false
set_option linter.unusedVariables false
theorem alive04 : Ev (fun k => law04_alive.f k) true := Ev.of (fun k => law04_alive.mono k) (k := 60) (by decide +kernel)
theorem inE {l : List E} (h : l.length ≤ maxLen ∧ l.length * 32 ≤ 140737488351232 ∧ ∀ x_ ∈ l, G30 x_) : l.length < 4611686018427387904 ∧ ∀ x ∈ l, x.f2.size ≤ 140737488351232 := ⟨by omega, fun x hx => (h.2.2 x hx).2.2⟩
theorem got_eq (o : Option E) : ((got o).1 == (got o).1 && ((got o).2.1 == (got o).2.1 && ((got o).2.2.1.toList == (got o).2.2.1.toList))) = true := by simp
theorem may_same (x : E) : ∃ r, entry_May.f x.f0 x.f1 x.f2 = some r ∧ ref04_May.f x.f0 x.f1 x.f2 = some r := by
 obtain ⟨r, h, _⟩ := may_is x
 exact ⟨r, h, h⟩
theorem asks_l (a b : List E) (v : Int) (p q : Bool) (x0 x1 : Int) (x2 : ByteArray) (hp : p = q) (na : a.length ≤ 4000) (nb : b.length < 4611686018427387904) : ∀ (suf pre : List E), pre ++ suf = a → Ev (fun k => law04_EntryAsks.l0 k a b v p q (pre.length : Int) x0 x1 x2 x0 x1 x2) true
 | [], pre, e => by
  have e' : pre = a := by simpa using e
  subst e'
  refine Ev.step (fun k => by rw [law04_EntryAsks.l0]) ?_
  have h1 : (x0 == x0 && (x1 == x1 && (x2.toList == x2.toList))) = true := by simp
  have h2 : (p == q) = true := by rw [hp]; simp
  simp only [Int.lt_irrefl, h1, h2, above_is pre v (by omega), Option.bind_some, ↓reduceIte]
  refine Ev.bind (ev_ref04_Above pre v (by omega)) ?_
  have hf : (pre.filter (fun x => !decide (x.f1 ≤ v))).length ≤ pre.length := List.length_filter_le _ _
  refine Ev.bind (ev_same_true (by omega) rfl) ?_
  simp only [↓reduceIte]
  refine Ev.bind (ev_entry_Top pre (by omega)) (Ev.bind (ev_ref04_Top pre (by omega)) ?_)
  simp only [↓reduceIte]
  obtain ⟨r, er, qr⟩ := ev_entry_Right pre (by omega)
  obtain ⟨s, es, qs⟩ := ev_ref04_Right pre (by omega)
  have hrs : (r == s) = true := by rw [beq_iff_eq]; exact bool_iff qr qs
  refine Ev.bind er (Ev.bind es ?_)
  simp only [hrs, ↓reduceIte]
  obtain ⟨t, et, qt⟩ := ev_entry_Same pre b (by omega)
  obtain ⟨u, eu, qu⟩ := ev_ref04_Same pre b (by omega)
  have htu : (t == u) = true := by rw [beq_iff_eq]; exact bool_iff qt qu
  refine Ev.bind et (Ev.bind eu ?_)
  simp only [htu, ↓reduceIte]
  obtain ⟨w, ew, qw⟩ := ev_entry_Same pre pre (by omega)
  rw [qw.2 rfl] at ew
  exact Ev.bind ew (Ev.now _)
 | x :: suf, pre, e => by
  subst e
  obtain ⟨r, h1, h2⟩ := may_same x
  have hr : ¬ ((r != r) = true) := by simp
  refine Ev.step (fun k => by rw [law04_EntryAsks.l0]) ?_
  simp only [mid_lt, nat_ge, rdE, h1, h2, Option.bind_some, hr, mid_next pre x suf (by omega), ↓reduceIte]
  exact asks_l (pre ++ x :: suf) b v p q x0 x1 x2 hp na nb suf (pre ++ [x]) (by simp)
theorem EntryAsks : ∀ (x0 : List S30) (x1 : List S30) (x2 : Int), (x0.length ≤ maxLen ∧ x0.length * 32 ≤ 140737488351232 ∧ ∀ x_ ∈ x0, G30 x_) → (x1.length ≤ maxLen ∧ x1.length * 32 ≤ 140737488351232 ∧ ∀ x_ ∈ x1, G30 x_) → (Lit.int .i64 x2).wf = true → ∃ k, law04_EntryAsks.f k x0 x1 x2 = some true := by
 intro a b v ia ib wv
 obtain ⟨la, sa⟩ := inE ia
 obtain ⟨lb, sb⟩ := inE ib
 refine Ev.rounds (r := true) ?_
 unfold law04_EntryAsks.f
 refine Ev.bind alive04 ?_
 simp only [↓reduceIte]
 have out : Ev (fun k => law04_EntryAsks.j0 k a b v true) true := by
  refine Ev.step (fun k => by rw [law04_EntryAsks.j0]) ?_
  simp only [↓reduceIte]
  exact Ev.now _
 obtain ⟨g0, e0, h0⟩ := ev_ref04_Great a la sa
 refine Ev.bind e0 ?_
 cases g0 with
 | true => simp only [↓reduceIte]; exact out
 | false =>
 simp only [Bool.false_eq_true, ↓reduceIte]
 obtain ⟨g1, e1, h1⟩ := ev_ref04_Great b lb sb
 refine Ev.bind e1 ?_
 cases g1 with
 | true => exact out
 | false =>
 have na := h0 rfl
 refine Ev.step (fun k => by rw [law04_EntryAsks.j0]) ?_
 simp only [Bool.false_eq_true, get_is, Option.bind_some, ↓reduceIte]
 refine Ev.bind (ev_ref04_Get a v la) ?_
 exact asks_l a b v _ _ _ _ _ rfl (by omega) lb a [] rfl
end Go.Proofs.Ytpccnpgigmcfoaa.Pl

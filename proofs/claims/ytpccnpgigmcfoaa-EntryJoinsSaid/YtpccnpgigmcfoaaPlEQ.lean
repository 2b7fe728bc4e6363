/- What the document's joining of tables comes to, in plain words. No program runs here. No condition. -/
import Derived.Test.YtpccnpgigmcfoaaPlEP
import Derived.Test.YtpccnpgigmcfoaaPlEA
import Derived.Test.YtpccnpgigmcfoaaPRef04Join
import Derived.Test.YtpccnpgigmcfoaaPRef04Over
namespace Go.Proofs.Ytpccnpgigmcfoaa.Pl
open Go.RowKit Go.Proofs.Ytpccnpgigmcfoaa.P Go.Proofs.YtpccnpgigmcfoaaW.PrintWords Go.Proofs.YtpccnpgigmcfoaaW.PrintLast Go.Proofs.YtpccnpgigmcfoaaW.PrintMore Go.Proofs.YtpccnpgigmcfoaaW.Hw
set_option linter.unusedSimpArgs false
set_option linter.unusedVariables false
theorem above_gt (y x : E) : ref04_above.f y.f0 y.f1 y.f2 x.f0 x.f1 x.f2 = some (decide (Gt y x)) := by
 unfold ref04_above.f
 by_cases h1 : y.f1 > x.f1
 ·rw [if_pos h1, decide_eq_true (show Gt y x from Or.inl h1)]
 ·rw [if_neg h1]
  by_cases h2 : y.f1 = x.f1
  ·rw [if_pos h2]
   cases h3 : Op.bytesLess x.f2.toList y.f2.toList with
   | true => rw [decide_eq_true (show Gt y x from Or.inr ⟨h2, h3⟩)]
   | false =>
    rw [decide_eq_false (show ¬ Gt y x from fun h => by
     rcases h with h | h
     ·exact h1 h
     ·rw [h3] at h; exact absurd h.2 (by decide))]
  ·rw [if_neg h2, decide_eq_false (show ¬ Gt y x from fun h => by
    rcases h with h | h
    ·exact h1 h
    ·exact h2 h.1)]
theorem ref_join_l0 (suf : List E) : ∀ (pre out : List E), (pre ++ suf).length < 4611686018427387904 → RightE out → RightE suf →
  Ev (fun k => ref04_Join.l0 k (pre ++ suf) out (pre.length : Int)) (joinE out suf) := by
 induction suf with
 | nil =>
  intro pre out h ho hs
  refine Ev.step (fun k => by rw [ref04_Join.l0]) ?_
  simp only [end_ge, ↓reduceIte, joinE_nil_r]
  exact Ev.now _
 | cons y suf ih =>
  intro pre out h ho hs
  have hys := ris_head hs.1
  have hsuf : RightE suf := ⟨ris_tail hs.1, fun z hz => hs.2 z (List.mem_cons_of_mem _ hz)⟩
  have hy : MayE y := hs.2 y (List.mem_cons_self)
  have hlo := right_len ho
  have hnone : look kE suf y.f0 = none := look_lt hys
  have go : ∀ o : List E, RightE o → (∀ k, look kE o k = if y.f0 = k then sup (look kE out k) (some y) else look kE out k) → Ev (fun k => ref04_Join.l0 k (pre ++ y :: suf) o (wrap64 ((pre.length : Int) + 1))) (joinE out (y :: suf)) := by
   intro o hro hlk
   have i := ih (pre ++ [y]) o (by rw [← List.append_cons]; exact h) hro hsuf
   rw [← List.append_cons pre y suf] at i
   rw [mid_next pre y suf (by omega)]
   refine Ev.cast i (ris_ext (key := kE) (ris_joinE hro.1 hsuf.1) (ris_joinE ho.1 hs.1) (fun k => ?_))
   rw [look_joinE hro.1 hsuf.1, look_joinE ho.1 hs.1, hlk, look_cons]
   by_cases hk : y.f0 = k
   ·subst hk
    rw [if_pos rfl, hnone, sup_none, if_pos (show kE y = y.f0 from rfl)]
   ·rw [if_neg hk, if_neg (show ¬ kE y = k from hk)]
  refine Ev.step (fun k => by rw [ref04_Join.l0]) ?_
  simp only [mid_lt, nat_ge, rdE, ↓reduceIte]
  refine Ev.bind (ev_ref04_Get out y.f0 (by omega)) ?_
  cases hg : look kE out y.f0 with
  | none =>
   simp only [got, Bool.false_eq_true, ↓reduceIte]
   refine Ev.bind (ev_ref04_Put out y ho.1 (by omega)) (go _ (right_put ho hy) (fun k => ?_))
   rw [look_putE]
   by_cases hk : y.f0 = k
   ·subst hk; rw [if_pos rfl, if_pos rfl, hg]; rfl
   ·rw [if_neg hk, if_neg hk]
  | some x =>
   simp only [got, ↓reduceIte, above_gt, Option.bind_some]
   by_cases hgt : Gt y x
   ·simp only [decide_eq_true hgt, ↓reduceIte]
    refine Ev.bind (ev_ref04_Put out y ho.1 (by omega)) (go _ (right_put ho hy) (fun k => ?_))
    rw [look_putE]
    by_cases hk : y.f0 = k
    ·subst hk; rw [if_pos rfl, if_pos rfl, hg]; show some y = some (hi x y); unfold hi; rw [if_pos hgt]
    ·rw [if_neg hk, if_neg hk]
   ·simp only [decide_eq_false hgt, Bool.false_eq_true, ↓reduceIte]
    refine go _ ho (fun k => ?_)
    by_cases hk : y.f0 = k
    ·subst hk; rw [if_pos rfl, hg]; show some x = some (hi x y); unfold hi; rw [if_neg hgt]
    ·rw [if_neg hk]
theorem ev_ref04_Join (a b : List E) (ha : RightE a) (hb : RightE b) : Ev (fun k => ref04_Join.f k a b) (joinE a b) := by
 have la := right_len ha
 have lb := right_len hb
 unfold ref04_Join.f
 have h0 : ([] : List E).length + a.length < 4398046511104 := by simp; omega
 simp only [Option.bind_some, h0, ↓reduceIte, List.nil_append]
 exact ref_join_l0 b [] a (by simp; omega) ha hb
theorem join_over {a b : List E} (ha : Ris kE a) (hb : Ris kE b) : joinE a b = a ↔ OverE a b := by
 rw [over_iff hb]
 constructor
 ·intro h k y hy
  have h1 := look_joinE ha hb k
  rw [h, hy] at h1
  cases hx : look kE a k with
  | none => rw [hx] at h1; exact absurd h1 (by simp [sup])
  | some x =>
   rw [hx] at h1
   refine ⟨x, rfl, fun hg => ?_⟩
   have h2 : some x = some (hi x y) := h1
   unfold hi at h2
   rw [if_pos hg] at h2
   injection h2 with h2
   subst h2
   exact gt_irrefl _ hg
 ·intro h
  refine ris_ext (key := kE) (ris_joinE ha hb) ha (fun k => ?_)
  rw [look_joinE ha hb]
  cases hy : look kE b k with
  | none => rw [sup_none]
  | some y =>
   obtain ⟨x, hx, hn⟩ := h k y hy
   rw [hx]
   show some (hi x y) = some x
   unfold hi
   rw [if_neg hn]
theorem ev_ref04_Over (a b : List E) (ha : RightE a) (hb : RightE b) : ∃ r, Ev (fun k => ref04_Over.f k a b) r ∧ (r = true ↔ OverE a b) := by
 have hj := right_len (right_join ha hb)
 obtain ⟨r, er, qr⟩ := ev_ref04_Same (joinE a b) a (by omega)
 refine ⟨r, ?_, by rw [qr, join_over ha.1 hb.1]⟩
 unfold ref04_Over.f
 exact Ev.bind (ev_ref04_Join a b ha hb) (Ev.bind er (Ev.now _))
end Go.Proofs.Ytpccnpgigmcfoaa.Pl

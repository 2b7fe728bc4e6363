/- What the printed asking functions of tables of entries come to, in plain words. No program runs here. No condition. -/
import Derived.Test.YtpccnpgigmcfoaaPlEJ
import Derived.Test.YtpccnpgigmcfoaaPEntryAbove
import Derived.Test.YtpccnpgigmcfoaaPEntrySame
import Derived.Test.YtpccnpgigmcfoaaPRef04Above
import Derived.Test.YtpccnpgigmcfoaaPRef04Get
import Derived.Test.YtpccnpgigmcfoaaPRef04Top
import Derived.Test.YtpccnpgigmcfoaaPApiEntry35
namespace Go.Proofs.Ytpccnpgigmcfoaa.Pl
open Go.RowKit Go.Proofs.Ytpccnpgigmcfoaa.P Go.Proofs.YtpccnpgigmcfoaaW.PrintWords Go.Proofs.YtpccnpgigmcfoaaW.PrintLast Go.Proofs.YtpccnpgigmcfoaaW.PrintMore Go.Proofs.YtpccnpgigmcfoaaW.Hw
set_option linter.unusedSimpArgs false
set_option linter.unusedVariables false
theorem ev_equal_l0 (sa : List E) : ∀ (sb pa pb : List E), pa.length = pb.length → sa.length = sb.length → (pa ++ sa).length < 4611686018427387904 →
  ∃ r, Ev (fun k => api_Entry_35.l0 k (pa ++ sa) (pb ++ sb) ((pa ++ sa).length : Int) (pa.length : Int)) r ∧ (r = true ↔ sa = sb) := by
 induction sa with
 | nil =>
  intro sb pa pb hp hs h
  have : sb = [] := List.eq_nil_of_length_eq_zero (by simpa using hs.symm)
  subst this
  refine ⟨true, Ev.step (fun k => by rw [api_Entry_35.l0]) ?_, by simp⟩
  simp only [end_ge, ↓reduceIte]
  exact Ev.now _
 | cons x sa ih =>
  intro sb pa pb hp hs h
  match sb, hs with
  | y :: sb, hs =>
   have r2 : rd_T30 (pb ++ y :: sb) (pa.length : Int) = y := by rw [hp]; exact rdE pb y sb
   have l2 : (pa.length : Int) < ((pb ++ y :: sb).length : Int) := by rw [hp]; exact mid_lt pb y sb
   by_cases hxy : x = y
   ·subst hxy
    obtain ⟨r, h1, h2⟩ := ih sb (pa ++ [x]) (pb ++ [x]) (by simp [hp]) (by simpa using hs) (by rw [← List.append_cons]; exact h)
    refine ⟨r, Ev.step (fun k => by rw [api_Entry_35.l0]) ?_, ?_⟩
    ·have hn : ¬ ((!(x.f0 == x.f0) || (!(x.f1 == x.f1) || (!(x.f2.toList == x.f2.toList)))) = true) := fun e => (ne_is x x).1 e rfl
     simp only [mid_lt, l2, nat_ge, ↓reduceIte, rdE, r2, hn, mid_next pa x sa (by omega)]
     rw [← List.append_cons pa x sa, ← List.append_cons pb x sb] at h1
     exact h1
    ·rw [h2]; simp
   ·refine ⟨false, Ev.step (fun k => by rw [api_Entry_35.l0]) ?_, ?_⟩
    ·have hn := (ne_is x y).2 hxy
     simp only [mid_lt, l2, nat_ge, ↓reduceIte, rdE, r2, hn]
     exact Ev.now _
    ·simp [hxy]
theorem ev_equal (a b : List E) (h : a.length < 4611686018427387904) : ∃ r, Ev (fun k => api_Entry_35.f k a b) r ∧ (r = true ↔ a = b) := by
 unfold api_Entry_35.f
 by_cases hl : (a.length : Int) = (b.length : Int)
 ·obtain ⟨r, h1, h2⟩ := ev_equal_l0 a b [] [] rfl (by omega) (by simpa using h)
  refine ⟨r, ?_, h2⟩
  simp only [hl, ↓reduceIte]
  simp only [List.nil_append, hl] at h1
  exact h1
 ·refine ⟨false, ?_, ?_⟩
  ·simp only [hl, ↓reduceIte]
   exact Ev.now _
  ·simp only [Bool.false_eq_true, false_iff]
   intro e
   exact hl (by rw [e])
theorem ev_ref04_Top_l0 (suf : List E) : ∀ (pre : List E) (t : Int), (pre ++ suf).length < 4611686018427387904 →
  Ev (fun k => ref04_Top.l0 k (pre ++ suf) t (pre.length : Int)) (suf.foldl (fun t x => mx t x.f1) t) := by
 induction suf with
 | nil =>
  intro pre t h
  refine Ev.step (fun k => by rw [ref04_Top.l0]) ?_
  simp only [end_ge, ↓reduceIte]
  exact Ev.now _
 | cons x suf ih =>
  intro pre t h
  refine Ev.step (fun k => by rw [ref04_Top.l0]) ?_
  simp only [mid_lt, nat_ge, ↓reduceIte, rdE, mid_next pre x suf (by omega)]
  have := ih (pre ++ [x]) (mx t x.f1) (by rw [← List.append_cons]; exact h)
  rw [← List.append_cons pre x suf] at this
  exact this
theorem ev_ref04_Top (l : List E) (h : l.length < 4611686018427387904) : Ev (fun k => ref04_Top.f k l) (TopE l) := ev_ref04_Top_l0 l [] 0 h
theorem ev_entry_Same (a b : List E) (h : a.length < 4611686018427387904) : ∃ r, Ev (fun k => entry_Same.f k a b) r ∧ (r = true ↔ a = b) := by
 obtain ⟨r, h1, h2⟩ := ev_equal a b h
 exact ⟨r, Ev.bind h1 (Ev.now _), h2⟩
theorem ev_ref04_Get_l0 (k0 : Int) (suf : List E) : ∀ (pre : List E), (pre ++ suf).length < 4611686018427387904 →
  Ev (fun k => ref04_Get.l0 k (pre ++ suf) k0 (pre.length : Int)) (got (look kE suf k0)) := by
 induction suf with
 | nil =>
  intro pre h
  refine Ev.step (fun k => by rw [ref04_Get.l0]) ?_
  simp only [end_ge, ↓reduceIte]
  exact Ev.now _
 | cons x suf ih =>
  intro pre h
  refine Ev.step (fun k => by rw [ref04_Get.l0]) ?_
  simp only [mid_lt, nat_ge, ↓reduceIte, rdE]
  rw [look_cons]
  by_cases hk : x.f0 = k0
  ·simp only [hk, ↓reduceIte, show kE x = k0 from hk, got]
   exact Ev.now _
  ·simp only [hk, ↓reduceIte, show ¬ kE x = k0 from hk, mid_next pre x suf (by omega)]
   have i := ih (pre ++ [x]) (by rw [← List.append_cons]; exact h)
   rw [← List.append_cons pre x suf] at i
   exact i
theorem ev_ref04_Get (l : List E) (k0 : Int) (h : l.length < 4611686018427387904) : Ev (fun k => ref04_Get.f k l k0) (got (look kE l k0)) := ev_ref04_Get_l0 k0 l [] h
theorem ev_ref04_Above_l0 (v : Int) (suf : List E) : ∀ (pre acc : List E), (pre ++ suf).length < 1099511627776 → acc.length ≤ pre.length →
  Ev (fun k => ref04_Above.l0 k (pre ++ suf) v acc (pre.length : Int)) (acc ++ suf.filter (fun x => !decide (x.f1 ≤ v))) := by
 induction suf with
 | nil =>
  intro pre acc h ha
  refine Ev.step (fun k => by rw [ref04_Above.l0]) ?_
  simp only [end_ge, ↓reduceIte]
  rw [List.filter_nil, List.append_nil]
  exact Ev.now _
 | cons x suf ih =>
  intro pre acc h ha
  have hl : pre.length + (suf.length + 1) < 1099511627776 := by simpa using h
  refine Ev.step (fun k => by rw [ref04_Above.l0]) ?_
  simp only [mid_lt, nat_ge, ↓reduceIte, rdE]
  by_cases hk : x.f1 > v
  ·have hd : (!decide (x.f1 ≤ v)) = true := by simp; omega
   simp only [hk, ↓reduceIte, show acc.length < 4398046511104 by omega, mid_next pre x suf (by omega)]
   rw [List.filter_cons, if_pos hd]
   have i := ih (pre ++ [x]) (acc ++ [x]) (by rw [← List.append_cons]; exact h) (by simp; omega)
   rw [← List.append_cons pre x suf, List.append_assoc, List.singleton_append] at i
   exact i
  ·have hd : ¬ (!decide (x.f1 ≤ v)) = true := by simp; omega
   simp only [hk, ↓reduceIte, mid_next pre x suf (by omega)]
   rw [List.filter_cons, if_neg hd]
   have i := ih (pre ++ [x]) acc (by rw [← List.append_cons]; exact h) (by simp; omega)
   rw [← List.append_cons pre x suf] at i
   exact i
theorem ev_ref04_Above (l : List E) (v : Int) (h : l.length < 1099511627776) : Ev (fun k => ref04_Above.f k l v) (l.filter (fun x => !decide (x.f1 ≤ v))) := ev_ref04_Above_l0 v l [] [] h (by simp)
theorem above_is (l : List E) (v : Int) (h : l.length < 1099511627776) : entry_Above.f l v = some (l.filter (fun x => !decide (x.f1 ≤ v))) := by
 unfold entry_Above.f
 rw [if_pos (by omega)]
end Go.Proofs.Ytpccnpgigmcfoaa.Pl

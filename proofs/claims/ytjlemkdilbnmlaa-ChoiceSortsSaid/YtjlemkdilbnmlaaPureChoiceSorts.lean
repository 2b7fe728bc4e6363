/- ChoiceSorts' plain law: what is made rising rises, and has just what there was; what goes is gone: for all lists. No condition. -/
import Derived.Test.YtjlemkdilbnmlaaPLaw14ChoiceSorts
import Derived.Test.YtjlemkdilbnmlaaPlCh
import Derived.Test.YtjlemkdilbnmlaaPl14
namespace Go.Proofs.Ytjlemkdilbnmlaa.Pure
open Go.RowKit Go.Proofs.Ytjlemkdilbnmlaa.P Go.Proofs.YtjlemkdilbnmlaaW.PrintWords Go.Proofs.YtjlemkdilbnmlaaW.PrintLast Go.Proofs.YtjlemkdilbnmlaaW.PrintMore Go.Proofs.Ytjlemkdilbnmlaa.Pl
set_option linter.unusedSimpArgs false
set_option linter.unusedVariables false
theorem Rising_is (l : List Int) (hl : l.length ≤ 1000000) : choice_Rising.f l = some (Pl14.risP l) := by
 unfold choice_Rising.f
 rw [if_pos hl]
 rfl
theorem ris_again (l : List Int) : Pl14.risP (Pl14.risP l) = Pl14.risP l :=
 Pl14.ris_unique (Pl14.ris_facts _).1 (Pl14.ris_facts l).1 (fun x => (Pl14.ris_facts _).2 x)
theorem filter_shorter (n : Int) : ∀ l : List Int, decide (n ∈ l) = decide ((l.filter (fun x => !(x == n))).length < l.length)
 | [] => rfl
 | x :: l => by
  have h1 := filter_shorter n l
  have h2 := List.length_filter_le (fun x => !(x == n)) l
  by_cases hx : x = n
  ·subst hx
   rw [decide_eq_true (by simp)]
   symm
   refine decide_eq_true ?_
   simp only [List.filter_cons, beq_self_eq_true, Bool.not_true, Bool.false_eq_true, ↓reduceIte, List.length_cons]
   omega
  ·have h3 : ¬ n = x := fun h => hx h.symm
   have h4 : (!(x == n)) = true := by simp [hx]
   simp only [List.filter_cons, h4, ↓reduceIte, List.length_cons, List.mem_cons, h3, false_or, Nat.add_lt_add_iff_right]
   exact h1
theorem fin_ (l : List Int) (a : Int) (hl : l.length ≤ 200) : Ev (fun k => (choice_Without.f l a).bind fun t113 => ((choice_Has.f k t113 a).bind fun t116 => (if t116 = true then (some false) else (if (t113.length : Int) ≤ (l.length : Int) then ((choice_Has.f k l a).bind fun t117 => (if (t117 == (decide ((t113.length : Int) < (l.length : Int)))) = true then ((choice_Rising.f (Pl14.risP l)).bind fun t118 => ((ref06_Ints.f k t118 (Pl14.risP l)).bind fun t121 => (some t121))) else (some false))) else (some false))))) true := by
 have hw : choice_Without.f l a = some (l.filter (fun x => !(x == a))) := by unfold choice_Without.f; rw [if_pos (by omega)]
 have hle := List.length_filter_le (fun x => !(x == a)) l
 have hn := Pl14.ris_len l
 rw [hw]
 simp only [Option.bind_some]
 refine Ev.bind (ev_Has _ a (by omega)) ?_
 have h1 : decide (a ∈ l.filter (fun x => !(x == a))) = false := by simp
 have h2 : ((l.filter (fun x => !(x == a))).length : Int) ≤ (l.length : Int) := by omega
 simp only [h1, h2, Bool.false_eq_true, ↓reduceIte]
 refine Ev.bind (ev_Has l a (by omega)) ?_
 have h3 : (decide (a ∈ l) == decide (((l.filter (fun x => !(x == a))).length : Int) < (l.length : Int))) = true := by
  rw [filter_shorter a l]
  simp
 simp only [h3, ↓reduceIte, Rising_is (Pl14.risP l) (by omega), ris_again, Option.bind_some]
 exact Ev.bind (ev_Ints _ (by omega)) (Ev.now _)
theorem there_l (l : List Int) (a : Int) (hl : l.length ≤ 200) : ∀ (suf pre : List Int), pre ++ suf = l →
  Ev (fun k => law14_ChoiceSorts.l1 k l a (Pl14.risP l) (pre.length : Int)) true
 | [], pre, e => by
  have e' : pre = l := by simpa using e
  subst e'
  refine Ev.step (fun k => by rw [law14_ChoiceSorts.l1]) ?_
  simp only [Int.lt_irrefl, ↓reduceIte]
  exact fin_ pre a hl
 | x :: suf, pre, e => by
  have h2 : ((pre.length : Nat) : Int) < (l.length : Int) := by rw [← e]; exact mid_lt pre x suf
  have h3 : rd l ((pre.length : Nat) : Int) = x := by rw [← e]; exact rdI pre x suf
  have h4 : wrap64 (((pre.length : Nat) : Int) + 1) = (((pre ++ [x]).length : Nat) : Int) := mid_next pre x suf (by rw [e]; omega)
  have h5 : decide (x ∈ Pl14.risP l) = true := decide_eq_true (((Pl14.ris_facts l).2 x).2 (by rw [← e]; simp))
  have hn := Pl14.ris_len l
  refine Ev.step (fun k => by rw [law14_ChoiceSorts.l1]) ?_
  simp only [h2, nat_ge pre, h3, h4, ↓reduceIte]
  refine Ev.bind (ev_Has (Pl14.risP l) x (by omega)) ?_
  simp only [h5, ↓reduceIte]
  exact there_l l a hl suf (pre ++ [x]) (by simp [← e])
theorem rises_l (l : List Int) (a : Int) (hl : l.length ≤ 200) : ∀ (suf pre : List Int), pre ++ suf = Pl14.risP l →
  Ev (fun k => law14_ChoiceSorts.l0 k l a (Pl14.risP l) (pre.length : Int)) true
 | [], pre, e => by
  have e' : pre = Pl14.risP l := by simpa using e
  rw [e']
  refine Ev.step (fun k => by rw [law14_ChoiceSorts.l0]) ?_
  simp only [Int.lt_irrefl, ↓reduceIte]
  exact there_l l a hl l [] rfl
 | x :: suf, pre, e => by
  have hn := Pl14.ris_len l
  have h2 : ((pre.length : Nat) : Int) < ((Pl14.risP l).length : Int) := by rw [← e]; exact mid_lt pre x suf
  have h3 : rd (Pl14.risP l) ((pre.length : Nat) : Int) = x := by rw [← e]; exact rdI pre x suf
  have h4 : wrap64 (((pre.length : Nat) : Int) + 1) = (((pre ++ [x]).length : Nat) : Int) := mid_next pre x suf (by rw [e]; omega)
  have h5 : decide (x ∈ l) = true := decide_eq_true (((Pl14.ris_facts l).2 x).1 (by rw [← e]; simp))
  have hr := (Pl14.ris_facts l).1
  refine Ev.step (fun k => by rw [law14_ChoiceSorts.l0]) ?_
  simp only [h2, ↓reduceIte]
  rcases List.eq_nil_or_concat pre with rfl | ⟨p, y, rfl⟩
  ·simp only [List.length_nil, Int.ofNat_eq_natCast, Int.natCast_zero, gt_iff_lt, Int.lt_irrefl, ↓reduceIte, Int.le_refl] at h3 h4 ⊢
   simp only [h3, h4]
   refine Ev.bind (ev_Has l x (by omega)) ?_
   simp only [h5, ↓reduceIte]
   exact rises_l l a hl suf ([] ++ [x]) (by simp [← e])
  ·have hlen : (p.concat y).length = p.length + 1 := by simp
   have h6 : wrap64 (((p.concat y).length : Int) - 1) = (p.length : Int) := by
    rw [hlen, wrap_id _ (by omega) (by omega)]
    omega
   have h7 : rd (Pl14.risP l) ((p.length : Nat) : Int) = y := by
    rw [← e, List.concat_eq_append, List.append_assoc]
    exact rdI p y _
   have h8 : y < x := by
    rw [← e, List.concat_eq_append, List.append_assoc, List.pairwise_append] at hr
    have := (List.pairwise_cons.1 hr.2.1).1 x (by simp)
    exact this
   have h9 : ((p.concat y).length : Int) > 0 := by omega
   have h10 : (0 : Int) ≤ (p.length : Int) := by omega
   have h11 : (p.length : Int) < ((Pl14.risP l).length : Int) := by omega
   have h12 : ¬ y ≥ x := by omega
   simp only [h6, h9, h10, h11, nat_ge (p.concat y), h7, h3, h12, h4, ↓reduceIte]
   refine Ev.bind (ev_Has l x (by omega)) ?_
   simp only [h5, ↓reduceIte]
   exact rises_l l a hl suf (p.concat y ++ [x]) (by simp [← e])
theorem ChoiceSorts : law14_ChoiceSorts.Pure := by
 intro l a hm hb hx wa
 refine Ev.rounds (r := true) ?_
 unfold law14_ChoiceSorts.f
 refine Ev.bind alive14 ?_
 simp only [↓reduceIte]
 by_cases hg : (l.length : Int) > 200
 ·simp only [hg, ↓reduceIte]
  exact Ev.now _
 ·simp only [hg, ↓reduceIte, Rising_is l (by omega), Option.bind_some]
  exact rises_l l a (by omega) (Pl14.risP l) [] rfl
end Go.Proofs.Ytjlemkdilbnmlaa.Pure

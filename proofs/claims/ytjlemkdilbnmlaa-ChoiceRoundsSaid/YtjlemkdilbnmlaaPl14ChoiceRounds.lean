/- ChoiceRounds' plain law: whom any round asks, and what lists have, are the document's: for all lists. No condition. -/
import Derived.Test.YtjlemkdilbnmlaaPLaw14ChoiceRounds
import Derived.Test.YtjlemkdilbnmlaaOps
import Derived.Test.YtjlemkdilbnmlaaPlRo
import Derived.Test.YtjlemkdilbnmlaaPl14
namespace Go.Proofs.Ytjlemkdilbnmlaa.Pl
open Go.RowKit Go.Proofs.Ytjlemkdilbnmlaa.P Go.Proofs.YtjlemkdilbnmlaaW.PrintWords Go.Proofs.YtjlemkdilbnmlaaW.PrintLast Go.Proofs.YtjlemkdilbnmlaaW.PrintMore Go.Proofs.YtjlemkdilbnmlaaW.Hw
set_option linter.unusedSimpArgs false
set_option linter.unusedVariables false
theorem rOne_nil (d : Int) : ref14_One.f [] d = some (0, false) := by unfold ref14_One.f; simp
theorem rOne_is (l : List Int) (d : Int) (h : l ≠ []) (hl : l.length ≤ 1000000) (h0 : 0 ≤ d) (h1 : d ≤ 4294967295) : ref14_One.f l d = some (pick l d, true) := by
 have hp : 0 < l.length := List.length_pos_iff.2 h; have hw : wrap64 d = d := wrap_id _ (by omega) (by omega); have h2 := Int.emod_nonneg d (b := (l.length : Int)) (by omega); have h3 := Int.emod_lt_of_pos d (b := (l.length : Int)) (by omega)
 have h4 : ¬ (l.length : Int) = 0 := by omega
 unfold ref14_One.f pick
 simp only [hw, Int.tmod_eq_emod_of_nonneg h0, h2, h3, h4, ↓reduceIte]
theorem ev_rAdd (s : List Int) (x : Int) (hs : s.length ≤ 1000) : Ev (fun k => ref14_add.f k s x) (addP s x) := by
 unfold ref14_add.f addP
 refine Ev.bind (ev_rHas s x (by omega)) ?_
 by_cases h : x ∈ s
 ·simp only [h, decide_true, ↓reduceIte]; exact Ev.now _
 ·have h1 : ([] : List Int).length + s.length < 17592186044416 := by simp only [List.length_nil]; omega
  have h2 : ([] ++ s : List Int).length < 17592186044416 := by simp only [List.nil_append]; omega
  simp only [h, decide_false, Bool.false_eq_true, ↓reduceIte, Option.bind_some, h1, h2]; exact Ev.now _
/-- The last question, as the document asks it. -/
theorem ev_j3 (l2 s : List Int) (b : Bool) (d0 d1 d2 : Int) (hs : s.length ≤ 1000) (hl : l2.length ≤ 1000000) (hb : b = true → l2 ≠ []) (h0 : 0 ≤ d2) (h1 : d2 ≤ 4294967295) :
  Ev (fun k => ref14_Round.j3 k l2 s b d0 d1 d2) (if b = true then askP s l2 d2 else s) := by
 refine Ev.step (fun k => by rw [ref14_Round.j3]) ?_
 cases b with
 | false =>
  simp only [Bool.false_eq_true, ↓reduceIte]; exact Ev.now _
 | true =>
  have hne := hb rfl; simp only [↓reduceIte, rOne_is l2 d2 hne hl h0 h1, Option.bind_some]
  unfold askP
  rw [if_neg hne]; exact Ev.bind (ev_rAdd s _ hs) (Ev.now _)
theorem ev_j2 (l0 l2 s : List Int) (f : Int) (some_ : Bool) (d0 d1 d2 : Int) (hs : s.length ≤ 1000) (hl : l2.length ≤ 1000000) (h0 : 0 ≤ d2) (h1 : d2 ≤ 4294967295) :
  Ev (fun k => ref14_Round.j2 k l0 l2 s f some_ d0 d1 d2) (if (some_ = true ∧ f ∈ l2) ∧ ¬ (l0.length : Int) < (l2.length : Int) then s else askP s l2 d2) := by
 refine Ev.step (fun k => by rw [ref14_Round.j2]) ?_
 by_cases hne : l2 = []
 ·subst hne; simp only [List.length_nil, Int.ofNat_eq_natCast, Int.natCast_zero, gt_iff_lt, Int.lt_irrefl, ↓reduceIte]; refine Ev.cast (ev_j3 [] s false d0 d1 d2 hs (by decide) (fun h => by cases h) h0 h1) ?_
  simp [askP]
 ·have hp : (l2.length : Int) > 0 := by have := List.length_pos_iff.2 hne; omega
  simp only [hp, ↓reduceIte]
  cases some_ with
  | false =>
   simp only [Bool.false_eq_true, ↓reduceIte, false_and]; exact Ev.cast (ev_j3 l2 s true d0 d1 d2 hs hl (fun _ => hne) h0 h1) (by simp)
  | true =>
   simp only [↓reduceIte, true_and]; refine Ev.bind (ev_rHas l2 f hl) ?_
   by_cases hf : f ∈ l2
   ·simp only [hf, decide_true, ↓reduceIte, true_and]; refine Ev.cast (ev_j3 l2 s _ d0 d1 d2 hs hl (fun _ => hne) h0 h1) ?_
    by_cases hc : (l0.length : Int) < (l2.length : Int)
    ·simp only [hc, decide_true, not_true_eq_false, ↓reduceIte]
    ·simp only [hc, decide_false, Bool.false_eq_true, not_false_eq_true, ↓reduceIte]
   ·simp only [hf, decide_false, Bool.false_eq_true, ↓reduceIte, false_and]; exact Ev.cast (ev_j3 l2 s true d0 d1 d2 hs hl (fun _ => hne) h0 h1) (by simp)
theorem ev_j1 (l0 l1 l2 s : List Int) (f : Int) (some_ b : Bool) (d0 d1 d2 : Int) (hs : s.length ≤ 999) (hl1 : l1.length ≤ 1000000) (hl : l2.length ≤ 1000000) (hb : b = true → l1 ≠ []) (g0 : 0 ≤ d1) (g1 : d1 ≤ 4294967295) (h0 : 0 ≤ d2) (h1 : d2 ≤ 4294967295) {u : List Int} (hu : u = if b = true then askP s l1 d1 else s) :
  Ev (fun k => ref14_Round.j1 k l0 l1 l2 s f some_ b d0 d1 d2) (if (some_ = true ∧ f ∈ l2) ∧ ¬ (l0.length : Int) < (l2.length : Int) then u else askP u l2 d2) := by
 subst hu; refine Ev.step (fun k => by rw [ref14_Round.j1]) ?_
 cases b with
 | false =>
  simp only [Bool.false_eq_true, ↓reduceIte]; exact ev_j2 l0 l2 s f some_ d0 d1 d2 (by omega) hl h0 h1
 | true =>
  have hne := hb rfl; have hlen := add_len s (pick l1 d1)
  have ha : askP s l1 d1 = addP s (pick l1 d1) := by unfold askP; rw [if_neg hne]
  simp only [↓reduceIte, rOne_is l1 d1 hne hl1 g0 g1, Option.bind_some, ha]; exact Ev.bind (ev_rAdd s _ (by omega)) (ev_j2 l0 l2 _ f some_ d0 d1 d2 (by omega) hl h0 h1)
theorem ev_j0 (l0 l1 l2 s : List Int) (f : Int) (some_ : Bool) (d0 d1 d2 : Int) (hs : s.length ≤ 999) (hl0 : l0.length ≤ 1000000) (hl1 : l1.length ≤ 1000000) (hl : l2.length ≤ 1000000) (g0 : 0 ≤ d1) (g1 : d1 ≤ 4294967295) (h0 : 0 ≤ d2) (h1 : d2 ≤ 4294967295) {u : List Int} (hu : u = if d1 % ((l0.length : Int) + 1) < (l1.length : Int) then askP s l1 d1 else s) :
  Ev (fun k => ref14_Round.j0 k l0 l1 l2 s f some_ d0 d1 d2) (if (some_ = true ∧ f ∈ l2) ∧ ¬ (l0.length : Int) < (l2.length : Int) then u else askP u l2 d2) := by
 have hw : wrap64 ((l0.length : Int) + 1) = (l0.length : Int) + 1 := wrap_id _ (by omega) (by omega); have hd : wrap64 d1 = d1 := wrap_id _ (by omega) (by omega)
 have hz : ¬ (l0.length : Int) + 1 = 0 := by omega
 refine Ev.step (fun k => by rw [ref14_Round.j0]) ?_
 by_cases hne : l1 = []
 ·subst hne; have hm := Int.emod_nonneg d1 (b := (l0.length : Int) + 1) (by omega)
  have hn : ¬ d1 % ((l0.length : Int) + 1) < (([] : List Int).length : Int) := by simp only [List.length_nil]; omega
  rw [if_neg hn] at hu; simp only [List.length_nil, Int.ofNat_eq_natCast, Int.natCast_zero, gt_iff_lt, Int.lt_irrefl, ↓reduceIte]; exact ev_j1 l0 [] l2 s f some_ false d0 d1 d2 hs (by decide) hl (fun h => by cases h) g0 g1 h0 h1 hu
 ·have hp : (l1.length : Int) > 0 := by have := List.length_pos_iff.2 hne; omega
  simp only [hp, hw, hd, hz, ↓reduceIte, Int.tmod_eq_emod_of_nonneg g0]; refine ev_j1 l0 l1 l2 s f some_ _ d0 d1 d2 hs hl1 hl (fun _ => hne) g0 g1 h0 h1 ?_; rw [hu]
  by_cases hc : d1 % ((l0.length : Int) + 1) < (l1.length : Int)
  ·simp only [hc, decide_true, ↓reduceIte]
  ·simp only [hc, decide_false, Bool.false_eq_true, ↓reduceIte]
theorem ev_rRound (l0 l1 l2 : List Int) (d0 d1 d2 : Int) (hl0 : l0.length ≤ 1000000) (hl1 : l1.length ≤ 1000000) (hl2 : l2.length ≤ 1000000) (a0 : 0 ≤ d0 ∧ d0 ≤ 4294967295) (a1 : 0 ≤ d1 ∧ d1 ≤ 4294967295) (a2 : 0 ≤ d2 ∧ d2 ≤ 4294967295) :
  Ev (fun k => ref14_Round.f k l0 l1 l2 d0 d1 d2) (roundP l0 l1 l2 d0 d1 d2) := by
 unfold ref14_Round.f
 by_cases hne : l0 = []
 ·subst hne; simp only [rOne_nil, Option.bind_some, Bool.false_eq_true, ↓reduceIte]; refine Ev.cast (ev_j0 [] l1 l2 [] 0 false d0 d1 d2 (by decide) hl0 hl1 hl2 a1.1 a1.2 a2.1 a2.2 rfl) ?_
  unfold roundP twoP
  rw [show oneP [] d0 = [] from rfl]; simp only [Bool.false_eq_true, false_and, sdP, ↓reduceIte]
 ·have ho : oneP l0 d0 = [pick l0 d0] := by
   unfold oneP askP addP
   rw [if_neg hne, if_neg (by simp)]; rfl
  have hs : addP [] (pick l0 d0) = oneP l0 d0 := by rw [ho]; rfl
  simp only [rOne_is l0 d0 hne hl0 a0.1 a0.2, Option.bind_some, ↓reduceIte]; refine Ev.bind (ev_rAdd [] _ (by decide)) ?_; rw [hs]; refine Ev.cast (ev_j0 l0 l1 l2 (oneP l0 d0) (pick l0 d0) true d0 d1 d2 (by rw [ho]; exact (by decide : (1 : Nat) ≤ 999)) hl0 hl1 hl2 a1.1 a1.2 a2.1 a2.2 (u := twoP l0 l1 d0 d1) rfl) ?_
  unfold roundP
  have hsd : sdP (oneP l0 d0) l2 = decide (pick l0 d0 ∈ l2) := by rw [ho]; rfl
  rw [hsd]
  by_cases hf : pick l0 d0 ∈ l2
  ·by_cases hc : (l0.length : Int) < (l2.length : Int)
   ·simp only [hf, hc, decide_true, not_true_eq_false, and_false, ↓reduceIte]
   ·simp only [hf, hc, decide_true, not_false_eq_true, and_self, ↓reduceIte]
  ·simp only [hf, decide_false, Bool.false_eq_true, and_false, false_and, ↓reduceIte]
theorem rwithout_l (l : List Int) (n : Int) (hl : l.length ≤ 1000000) : ∀ (suf pre acc : List Int), pre ++ suf = l → acc.length ≤ pre.length →
  Ev (fun k => ref14_Without.l0 k l n acc (pre.length : Int)) (acc ++ suf.filter (fun x => !(x == n)))
 | [], pre, acc, e, ha => by
  have e' : pre = l := by simpa using e
  subst e'; refine Ev.step (fun k => by rw [ref14_Without.l0]) ?_; simp only [Int.lt_irrefl, ↓reduceIte]; exact Ev.cast (Ev.now _) (by simp)
 | x :: suf, pre, acc, e, ha => by
  have hlen : pre.length + (suf.length + 1) = l.length := by rw [← e]; simp
  have h1 : ((pre.length : Nat) : Int) < (l.length : Int) := by rw [← e]; exact mid_lt pre x suf
  have h2 : rd l ((pre.length : Nat) : Int) = x := by rw [← e]; exact rdI pre x suf
  have h3 : wrap64 (((pre.length : Nat) : Int) + 1) = (((pre ++ [x]).length : Nat) : Int) := mid_next pre x suf (by rw [e]; omega)
  have h4 : acc.length < 17592186044416 := by omega
  refine Ev.step (fun k => by rw [ref14_Without.l0]) ?_; simp only [h1, nat_ge pre, h2, h3, h4, ↓reduceIte]
  by_cases hx : x = n
  ·simp only [hx, ↓reduceIte]; refine Ev.cast (rwithout_l l n hl suf (pre ++ [n]) acc (by simp [← e, hx]) (by simp only [List.length_append, List.length_singleton]; omega)) ?_
   simp
  ·simp only [hx, ↓reduceIte]; refine Ev.cast (rwithout_l l n hl suf (pre ++ [x]) (acc ++ [x]) (by simp [← e]) (by simp only [List.length_append, List.length_singleton]; omega)) ?_
   simp [hx]
theorem ev_rWithout (l : List Int) (n : Int) (hl : l.length ≤ 1000000) : Ev (fun k => ref14_Without.f k l n) (l.filter (fun x => !(x == n))) := by
 unfold ref14_Without.f
 exact rwithout_l l n hl l [] [] rfl (Nat.le_refl _)
theorem ins_app (x : Int) (q : List Int) : ∀ p : List Int, (∀ y ∈ p, y < x) → Pl14.insP (p ++ q) x = p ++ Pl14.insP q x
 | [], _ => rfl
 | y :: p, h => by
  have h1 : y < x := h y (by simp); rw [List.cons_append, Pl14.insP, if_pos h1, ins_app x q p (fun z hz => h z (by simp [hz])), List.cons_append]
theorem ins_len (x : Int) : ∀ q : List Int, (Pl14.insP q x).length ≤ q.length + 1
 | [] => by simp [Pl14.insP]
 | y :: q => by
  have := ins_len x q
  unfold Pl14.insP
  split
  ·simp only [List.length_cons]; omega
  ·split <;> simp only [List.length_cons] <;> omega
theorem place_l (l out : List Int) (i : Nat) (x : Int) (R : List Int) (hi : (i : Int) < (l.length : Int)) (hx : rd l (i : Int) = x) (hl : l.length ≤ 1000000) (ho : out.length ≤ 1000000)
  (next : Ev (fun k => ref14_Rising.l0 k l (Pl14.insP out x) (wrap64 ((i : Int) + 1))) R) : ∀ (q p : List Int), p ++ q = out → (∀ y ∈ p, y < x) →
  Ev (fun k => ref14_Rising.l1 k l out (i : Int) (p.length : Int)) R
 | [], p, e, hp => by
  have e' : p = out := by simpa using e
  have hins : Pl14.insP out x = p ++ [x] := by rw [← e, ins_app x [] p hp]; rfl
  rw [hins] at next
  have h5 : out.take (((p.length : Nat) : Int)).toNat = p := by rw [← e]; simp
  have h6 : out.drop (((p.length : Nat) : Int)).toNat = [] := by rw [← e]; simp
  have hpe : (p.length : Int) = (out.length : Int) := by rw [e']
  have h7 : ([] : List Int).length + p.length < 17592186044416 := by simp only [List.length_nil]; omega
  have h8 : ([] ++ p : List Int).length + [x].length < 17592186044416 := by simp only [List.nil_append, List.length_singleton]; omega
  have h9 : (([] ++ p) ++ [x] : List Int).length + ([] : List Int).length < 17592186044416 := by simp only [List.nil_append, List.length_append, List.length_singleton, List.length_nil]; omega
  have h10 : (p.length : Int) ≤ (out.length : Int) := by omega
  have hi0 : (0 : Int) ≤ (i : Int) := by omega
  have hlt : ¬ (p.length : Int) < (out.length : Int) := by omega
  refine Ev.step (fun k => by rw [ref14_Rising.l1]) ?_; simp only [hlt, hpe, ↓reduceIte, Option.bind_some]; simp only [← hpe, h5, h6, h7, h8, h9, h10, hi, hi0, hx, nat_ge p, ↓reduceIte, Option.bind_some, List.nil_append, List.append_nil]; simp only [List.nil_append, List.append_nil] at next h7 h8 h9
  have h11 : ¬ (p.length : Int) < (p.length : Int) := by omega
  have h12 : (p.length : Int) ≤ (p.length : Int) := by omega
  simp only [h7, h8, h9, h11, h12, ↓reduceIte, Option.bind_some]; exact next
 | y :: q, p, e, hp => by
  have h1 : ((p.length : Nat) : Int) < (out.length : Int) := by rw [← e]; exact mid_lt p y q
  have h2 : rd out ((p.length : Nat) : Int) = y := by rw [← e]; exact rdI p y q
  have h3 : wrap64 (((p.length : Nat) : Int) + 1) = (((p ++ [y]).length : Nat) : Int) := mid_next p y q (by rw [e]; omega)
  have hi0 : (0 : Int) ≤ (i : Int) := by omega
  refine Ev.step (fun k => by rw [ref14_Rising.l1]) ?_
  by_cases hy : y < x
  ·simp only [h1, nat_ge p, hi0, hi, h2, hx, hy, h3, ↓reduceIte]
   exact place_l l out i x R hi hx hl ho next q (p ++ [y]) (by simp [← e]) (fun z hz => by
    rcases List.mem_append.1 hz with hz | hz
    ·exact hp z hz
    ·rw [List.mem_singleton] at hz; subst hz; exact hy)
  ·have hne : ¬ (p.length : Int) = (out.length : Int) := by omega
   have h10 : (p.length : Int) ≤ (out.length : Int) := by omega
   by_cases hy2 : y = x
   ·have hins : Pl14.insP out x = out := by
     rw [← e, ins_app x (y :: q) p hp, Pl14.insP, if_neg hy, if_pos hy2]
    rw [hins] at next; simp only [h1, nat_ge p, hi0, hi, h2, hx, hy, hy2, hne, Int.lt_irrefl, ↓reduceIte]; exact next
   ·have hins : Pl14.insP out x = (([] ++ p) ++ [x]) ++ y :: q := by
     rw [← e, ins_app x (y :: q) p hp, Pl14.insP, if_neg hy, if_neg hy2]
     simp
    rw [hins] at next
    have h5 : out.take (((p.length : Nat) : Int)).toNat = p := by rw [← e]; simp
    have h6 : out.drop (((p.length : Nat) : Int)).toNat = y :: q := by rw [← e]; simp
    have hol : p.length + (q.length + 1) = out.length := by rw [← e]; simp
    have h7 : ([] : List Int).length + p.length < 17592186044416 := by simp only [List.length_nil]; omega
    have h8 : ([] ++ p : List Int).length + [x].length < 17592186044416 := by simp only [List.nil_append, List.length_singleton]; omega
    have h9 : (([] ++ p) ++ [x] : List Int).length + (y :: q).length < 17592186044416 := by simp only [List.nil_append, List.length_append, List.length_singleton, List.length_cons, List.length_nil]; omega
    simp only [h1, nat_ge p, hi0, hi, h2, hx, hy, hy2, hne, h10, h5, h6, h7, h8, h9, ↓reduceIte, Option.bind_some]; exact next
theorem rrising_l (l : List Int) (hl : l.length ≤ 1000000) : ∀ (suf pre out : List Int), pre ++ suf = l → out.length ≤ pre.length →
  Ev (fun k => ref14_Rising.l0 k l out (pre.length : Int)) (suf.foldl Pl14.insP out)
 | [], pre, out, e, ho => by
  have e' : pre = l := by simpa using e
  subst e'; refine Ev.step (fun k => by rw [ref14_Rising.l0]) ?_; simp only [Int.lt_irrefl, ↓reduceIte]; exact Ev.now _
 | x :: suf, pre, out, e, ho => by
  have hlen : pre.length + (suf.length + 1) = l.length := by rw [← e]; simp
  have h1 : ((pre.length : Nat) : Int) < (l.length : Int) := by rw [← e]; exact mid_lt pre x suf
  have h2 : rd l ((pre.length : Nat) : Int) = x := by rw [← e]; exact rdI pre x suf
  have h3 : wrap64 (((pre.length : Nat) : Int) + 1) = (((pre ++ [x]).length : Nat) : Int) := mid_next pre x suf (by rw [e]; omega); have hil := ins_len x out; refine Ev.step (fun k => by rw [ref14_Rising.l0]) ?_; simp only [h1, ↓reduceIte]; refine place_l l out pre.length x _ h1 h2 hl (by omega) ?_ out [] rfl (fun y hy => by cases hy); rw [h3]; exact rrising_l l hl suf (pre ++ [x]) (Pl14.insP out x) (by simp [← e]) (by simp only [List.length_append, List.length_singleton]; omega)
theorem ev_rRising (l : List Int) (hl : l.length ≤ 1000000) : Ev (fun k => ref14_Rising.f k l) (Pl14.risP l) := by
 unfold ref14_Rising.f
 exact Ev.cast (rrising_l l hl l [] [] rfl (Nat.le_refl _)) (Pl14.fold_is l)
theorem ChoiceRounds : ∀ (x0 : S24) (x1 : S26) (x2 : Int), G24 x0 → G26 x1 → (Lit.int .i64 x2).wf = true → ∃ k, law14_ChoiceRounds.f k x0.f0 x0.f1 x0.f2 x1.f0 x1.f1 x1.f2 x2 = some true := by
 intro x p n g0 g1 gn; refine Ev.rounds (r := true) ?_
 unfold law14_ChoiceRounds.f
 refine Ev.bind alive14 ?_; obtain ⟨q0, q1, q2⟩ := g0; obtain ⟨b0, b1, b2⟩ := g1; have c0 := u32_bd b0; simp only [ev_Great x.f0 x.f1 x.f2 (by omega) (by omega) (by omega), Option.bind_some, ↓reduceIte]
 by_cases hg : x.f0.length + x.f1.length + x.f2.length > 200
 ·simp only [hg, decide_true, ↓reduceIte]; exact Ev.now _
 ·simp only [hg, decide_false, Bool.false_eq_true, ↓reduceIte]
  have hone : ∃ v b, choice_One.f x.f0 p.f0 = some (v, b) ∧ ref14_One.f x.f0 p.f0 = some (v, b) := by
   by_cases hne : x.f0 = []
   ·rw [hne]; exact ⟨0, false, One_nil _, rOne_nil _⟩
   ·exact ⟨_, _, One_is _ _ hne (by omega) c0.1 c0.2, rOne_is _ _ hne (by omega) c0.1 c0.2⟩
  obtain ⟨v, b, ho1, ho2⟩ := hone; simp only [ho1, ho2, Option.bind_some, beq_self_eq_true, ↓reduceIte]; have hr := round_len x.f0 x.f1 x.f2 p.f0 p.f1 p.f2; refine Ev.bind (ev_Round x.f0 x.f1 x.f2 p.f0 p.f1 p.f2 (by omega) (by omega) (by omega) c0 (u32_bd b1) (u32_bd b2)) ?_; refine Ev.bind (ev_rRound x.f0 x.f1 x.f2 p.f0 p.f1 p.f2 (by omega) (by omega) (by omega) c0 (u32_bd b1) (u32_bd b2)) ?_; refine Ev.bind (ev_Ints _ (by omega)) ?_
  have hw : choice_Without.f x.f0 n = some (x.f0.filter (fun x => !(x == n))) := by unfold choice_Without.f; rw [if_pos (by omega)]
  have hfl := List.length_filter_le (fun x => !(x == n)) x.f0; simp only [↓reduceIte, hw, Option.bind_some]; refine Ev.bind (ev_rWithout x.f0 n (by omega)) ?_; refine Ev.bind (ev_Ints _ (by omega)) ?_; simp only [↓reduceIte]; refine Ev.bind (ev_Has x.f1 n (by omega)) (Ev.bind (ev_rHas x.f1 n (by omega)) ?_)
  have hri : choice_Rising.f x.f2 = some (Pl14.risP x.f2) := by unfold choice_Rising.f; rw [if_pos (by omega)]; rfl
  have hrl := Pl14.ris_len x.f2; simp only [beq_self_eq_true, ↓reduceIte, hri, Option.bind_some]; refine Ev.bind (ev_rRising x.f2 (by omega)) ?_; exact Ev.bind (ev_Ints _ (by omega)) (Ev.now _)
end Go.Proofs.Ytjlemkdilbnmlaa.Pl

/- What putting an entry comes to, in plain words. No program runs here. No condition. -/
import Derived.Test.YtpccnpgigmcfoaaPlEJ
import Derived.Test.YtpccnpgigmcfoaaPEntryPut
import Derived.Test.YtpccnpgigmcfoaaPRef04Put
namespace Go.Proofs.Ytpccnpgigmcfoaa.Pl
open Go.RowKit Go.Proofs.Ytpccnpgigmcfoaa.P Go.Proofs.YtpccnpgigmcfoaaW.PrintWords Go.Proofs.YtpccnpgigmcfoaaW.PrintLast Go.Proofs.YtpccnpgigmcfoaaW.PrintMore Go.Proofs.YtpccnpgigmcfoaaW.Hw
set_option linter.unusedSimpArgs false
set_option linter.unusedVariables false
/-! ### an element in its place -/
section
variable {α : Type} (key : α → Int)
/-- An element in its place of a rising list. -/
def putL (l : List α) (x : α) : List α := l.filter (fun y => decide (key y < key x)) ++ [x] ++ l.filter (fun y => decide (key x < key y))
theorem split_at {l : List α} (p : α → Bool) (z : α) {i : Nat} (hi : i ≤ l.length) (h1 : ∀ j, j < i → p (l.getD j z) = true) (h2 : ∀ j, i ≤ j → j < l.length → p (l.getD j z) = false) : l.filter p = l.take i ∧ l.filter (fun y => !p y) = l.drop i := by
 have e1 : ∀ y ∈ l.take i, p y = true := fun y hy => by
  obtain ⟨j, hj, rfl⟩ := List.getElem_of_mem hy
  rw [List.length_take] at hj
  have := h1 j (by omega)
  rw [List.getD_eq_getElem?_getD, List.getElem?_eq_getElem (by omega)] at this
  rw [List.getElem_take]
  exact this
 have e2 : ∀ y ∈ l.drop i, p y = false := fun y hy => by
  obtain ⟨j, hj, rfl⟩ := List.getElem_of_mem hy
  rw [List.length_drop] at hj
  have := h2 (i + j) (by omega) (by omega)
  rw [List.getD_eq_getElem?_getD, List.getElem?_eq_getElem (by omega)] at this
  rw [List.getElem_drop]
  exact this
 constructor
 ·conv => lhs; rw [← List.take_append_drop i l, List.filter_append]
  rw [List.filter_eq_self.2 e1, List.filter_eq_nil_iff.2 (fun y hy => by simp [e2 y hy]), List.append_nil]
 ·conv => lhs; rw [← List.take_append_drop i l, List.filter_append]
  rw [List.filter_eq_nil_iff.2 (fun y hy => by simp [e1 y hy]), List.filter_eq_self.2 (fun y hy => by simp [e2 y hy]), List.nil_append]
theorem put_at {l : List α} (x z : α) (hr : Ris key l) {i : Nat} (hi : i ≤ l.length) (h1 : ∀ j, j < i → key (l.getD j z) < key x) (h2 : ∀ j, i ≤ j → j < l.length → ¬ key (l.getD j z) < key x) :
  (i < l.length → key (l.getD i z) = key x → l.set i x = putL key l x) ∧ ((i < l.length → key (l.getD i z) ≠ key x) → l.take i ++ [x] ++ l.drop i = putL key l x) := by
 obtain ⟨a, b⟩ := split_at (fun y => decide (key y < key x)) z hi (fun j hj => decide_eq_true (h1 j hj)) (fun j hj hn => decide_eq_false (h2 j hj hn))
 unfold putL
 rw [a]
 constructor
 ·intro hl he
  rw [List.getD_eq_getElem?_getD, List.getElem?_eq_getElem hl] at he
  have he : key l[i] = key x := he
  rw [List.set_eq_take_append_cons_drop, if_pos hl, List.append_assoc, List.singleton_append]
  congr 2
  have hsplit : l = l.take (i + 1) ++ l.drop (i + 1) := (List.take_append_drop _ _).symm
  have hp := hr
  unfold Ris at hp
  rw [hsplit, List.take_succ_eq_append_getElem hl, List.pairwise_append] at hp
  obtain ⟨_, hd, hx⟩ := hp
  conv => rhs; rw [hsplit, List.take_succ_eq_append_getElem hl, List.filter_append, List.filter_append]
  rw [List.filter_eq_nil_iff.2 (fun y hy => ?_), List.filter_eq_nil_iff.2 (fun y hy => ?_), List.filter_eq_self.2 (fun y hy => ?_)]
  ·rfl
  ·have := hx l[i] (List.mem_append_right _ (List.mem_singleton_self _)) y hy
   exact decide_eq_true (by omega)
  ·simp only [List.mem_singleton] at hy
   subst hy
   simp [he]
  ·have hm : y ∈ l.filter (fun y => decide (key y < key x)) := by rw [a]; exact hy
   have := (List.mem_filter.1 hm).2
   simp only [decide_eq_true_eq] at this ⊢
   omega
 ·intro hne
  congr 1
  rw [← b]
  refine List.filter_congr (fun y hy => ?_)
  have : key y ≠ key x := by
   intro he
   obtain ⟨j, hj, rfl⟩ := List.getElem_of_mem hy
   have hij : i ≤ j := by
    rcases Nat.lt_or_ge j i with h | h
    ·have := h1 j h
     rw [List.getD_eq_getElem?_getD, List.getElem?_eq_getElem hj] at this
     have this : key l[j] < key x := this
     omega
    ·exact h
   have hil : i < l.length := by omega
   have h3 := hne hil
   have h4 := h2 i (Nat.le_refl _) hil
   rw [List.getD_eq_getElem?_getD, List.getElem?_eq_getElem hil] at h3 h4
   have h3 : key l[i] ≠ key x := h3
   have h4 : ¬ key l[i] < key x := h4
   rcases Nat.eq_or_lt_of_le hij with h | h
   ·subst h; exact h3 he
   ·have := (List.pairwise_iff_getElem.1 hr) i j hil hj h
    omega
  have hd : (key y < key x) ∨ (key x < key y) := by omega
  rcases hd with h | h
  ·simp [h]; omega
  ·simp [h]; omega
theorem ris_put {l : List α} (x : α) (hr : Ris key l) : Ris key (putL key l x) := by
 unfold putL Ris
 refine List.pairwise_append.2 ⟨List.pairwise_append.2 ⟨List.Pairwise.filter _ hr, List.pairwise_singleton _ _, fun a ha b hb => ?_⟩, List.Pairwise.filter _ hr, fun a ha b hb => ?_⟩
 ·simp only [List.mem_filter, List.mem_singleton, decide_eq_true_eq] at ha hb
  subst hb
  exact ha.2
 ·simp only [List.mem_append, List.mem_filter, List.mem_singleton, decide_eq_true_eq] at ha hb
  rcases ha with ha | ha
  ·omega
  ·subst ha; exact hb.2
theorem mem_put {l : List α} {x y : α} (h : y ∈ putL key l x) : y = x ∨ y ∈ l := by
 unfold putL at h
 simp only [List.mem_append, List.mem_filter, List.mem_singleton] at h
 rcases h with (h | h) | h
 ·exact Or.inr h.1
 ·exact Or.inl h
 ·exact Or.inr h.1
theorem look_app (a b : List α) (k : Int) : look key (a ++ b) k = (look key a k).or (look key b k) := by
 unfold look; rw [List.find?_append]
theorem look_filter (p : α → Bool) (l : List α) (k : Int) (h : ∀ x, key x = k → p x = true) : look key (l.filter p) k = look key l k := by
 induction l with
 | nil => rfl
 | cons x l ih =>
  rw [List.filter_cons]
  split
  ·rw [look_cons, look_cons, ih]
  ·rename_i hp
   rw [look_cons, ih, if_neg (fun e => hp (h x e))]
theorem look_filter_not (p : α → Bool) (l : List α) (k : Int) (h : ∀ x, key x = k → p x = false) : look key (l.filter p) k = none := by
 induction l with
 | nil => rfl
 | cons x l ih =>
  rw [List.filter_cons]
  split
  ·rename_i hp
   rw [look_cons, ih, if_neg (fun e => by rw [h x e] at hp; exact absurd hp (by decide))]
  ·exact ih
theorem look_put (l : List α) (x : α) (k : Int) : look key (putL key l x) k = if key x = k then some x else look key l k := by
 unfold putL
 rw [look_app, look_app, look_cons]
 by_cases h : key x = k
 ·rw [if_pos h, if_pos h, look_filter_not key _ _ _ (fun y hy => decide_eq_false (by omega))]
  rfl
 ·rw [if_neg h, if_neg h]
  rcases Int.lt_or_gt_of_ne h with h' | h'
  ·rw [look_filter_not key _ _ _ (fun y hy => decide_eq_false (by omega)), look_filter key _ _ _ (fun y hy => decide_eq_true (by omega))]
   rfl
  ·rw [look_filter key (fun y => decide (key y < key x)) _ _ (fun y hy => decide_eq_true (by omega)), look_filter_not key (fun y => decide (key x < key y)) _ _ (fun y hy => decide_eq_false (by omega))]
   show ((look key l k).or none).or none = _
   simp
end
theorem halve_is (less : Nat → Bool) (n : Nat) (hm : ∀ i j, i ≤ j → j < n → less j = true → less i = true) : ∀ (f lo hi : Nat), hi - lo ≤ f → lo ≤ hi → hi ≤ n → (∀ j, j < lo → less j = true) → (∀ j, hi ≤ j → j < n → less j = false) →
  halveE less f lo hi ≤ n ∧ (∀ j, j < halveE less f lo hi → less j = true) ∧ (∀ j, halveE less f lo hi ≤ j → j < n → less j = false) := by
 intro f
 induction f with
 | zero =>
  intro lo hi h1 h2 h3 h4 h5
  have : lo = hi := by omega
  subst this
  exact ⟨h3, h4, h5⟩
 | succ f ih =>
  intro lo hi h1 h2 h3 h4 h5
  unfold halveE
  split
  ·split
   ·rename_i hl
    refine ih _ _ (by omega) (by omega) h3 (fun j hj => ?_) h5
    exact hm j _ (by omega) (by omega) hl
   ·rename_i hl
    refine ih _ _ (by omega) (by omega) (by omega) h4 (fun j hj hjn => ?_)
    cases hb : less j with
    | false => rfl
    | true => exact absurd (hm _ j hj hjn hb) hl
  ·have : lo = hi := by omega
   subst this
   exact ⟨h3, h4, h5⟩
/-! ### entries -/
def putE (l : List E) (x : E) : List E := putL kE l x
theorem key_wrap {y x : E} (hy : MayE y) (hx : MayE x) : wrap64 (y.f0 - x.f0) = y.f0 - x.f0 := by
 unfold MayE at hy hx
 exact wrap_id _ (by omega) (by omega)
theorem right_put {l : List E} {x : E} (hl : RightE l) (hx : MayE x) : RightE (putE l x) := ⟨ris_put kE x hl.1, fun y hy => by
 rcases mem_put kE hy with rfl | h
 ·exact hx
 ·exact hl.2 y h⟩
theorem look_putE (l : List E) (x : E) (k : Int) : look kE (putE l x) k = if x.f0 = k then some x else look kE l k := look_put kE l x k
theorem getD_mem {α : Type} (l : List α) (z : α) {j : Nat} (h : j < l.length) : l.getD j z ∈ l := by
 rw [List.getD_eq_getElem?_getD, List.getElem?_eq_getElem h]
 exact List.getElem_mem h
theorem put_is {l : List E} {x : E} (hl : RightE l) (hx : MayE x) (hn : l.length < 1099511627776) : entry_Put.f l x.f0 x.f1 x.f2 = some (putE l x) := by
 have hw : ∀ j, j < l.length → wrap64 ((l.getD j z30).f0 - x.f0) = (l.getD j z30).f0 - x.f0 := fun j hj => key_wrap (hl.2 _ (getD_mem l _ hj)) hx
 have hmono : ∀ i j, i ≤ j → j < l.length → decide (wrap64 ((l.getD j z30).f0 - x.f0) < 0) = true → decide (wrap64 ((l.getD i z30).f0 - x.f0) < 0) = true := by
  intro i j hij hj h
  rw [decide_eq_true_eq, hw j hj] at h
  rw [decide_eq_true_eq, hw i (by omega)]
  rcases Nat.eq_or_lt_of_le hij with e | e
  ·subst e; exact h
  ·have := (List.pairwise_iff_getElem.1 hl.1) i j (by omega) hj e
   rw [List.getD_eq_getElem?_getD, List.getElem?_eq_getElem hj] at h
   rw [List.getD_eq_getElem?_getD, List.getElem?_eq_getElem (show i < l.length by omega)]
   have h : l[j].f0 - x.f0 < 0 := h
   show l[i].f0 - x.f0 < 0
   unfold kE at this
   omega
 obtain ⟨hle, h1, h2⟩ := halve_is (fun j => decide (wrap64 ((l.getD j z30).f0 - x.f0) < 0)) l.length hmono l.length 0 l.length (by omega) (by omega) (Nat.le_refl _) (fun j hj => absurd hj (by omega)) (fun j hj hj2 => absurd hj2 (by omega))
 unfold entry_Put.f entry_Put.hit entry_Put.pl
 rw [if_pos hn]
 generalize halveE (fun j => decide (wrap64 ((l.getD j z30).f0 - x.f0) < 0)) l.length 0 l.length = i at hle h1 h2
 obtain ⟨ha, hb⟩ := put_at kE x z30 hl.1 hle (fun j hj => by
  have := h1 j hj
  rw [decide_eq_true_eq, hw j (by omega)] at this
  unfold kE; omega) (fun j hj hjn => by
  have := h2 j hj hjn
  rw [decide_eq_false_iff_not, hw j hjn] at this
  unfold kE; omega)
 congr 1
 by_cases hil : i < l.length
 ·by_cases he : (l.getD i z30).f0 = x.f0
  ·rw [if_pos (by rw [decide_eq_true hil, hw i hil, Bool.true_and]; exact decide_eq_true (by omega))]
   exact ha hil he
  ·rw [if_neg (by rw [decide_eq_true hil, hw i hil, Bool.true_and, decide_eq_true_eq]; omega)]
   exact hb (fun _ => he)
 ·rw [if_neg (by rw [decide_eq_false hil, Bool.false_and]; decide)]
  exact hb (fun h => absurd h hil)
theorem put_true_l0 (x : E) (suf : List E) : ∀ (pre acc : List E), (pre ++ suf).length < 1099511627776 → acc.length ≤ pre.length + 1 →
  Ev (fun k => ref04_Put.l0 k (pre ++ suf) acc true (pre.length : Int) x.f0 x.f1 x.f2) (acc ++ suf.filter (fun y => !decide (y.f0 = x.f0))) := by
 induction suf with
 | nil =>
  intro pre acc h ha
  refine Ev.step (fun k => by rw [ref04_Put.l0]) ?_
  simp only [end_ge, ↓reduceIte]
  rw [List.filter_nil, List.append_nil]
  exact Ev.now _
 | cons y suf ih =>
  intro pre acc h ha
  have hl : pre.length + (suf.length + 1) < 1099511627776 := by simpa using h
  refine Ev.step (fun k => by rw [ref04_Put.l0]) ?_
  simp only [mid_lt, ↓reduceIte]
  refine Ev.step (fun k => by rw [ref04_Put.j1]) ?_
  simp only [mid_lt, nat_ge, rdE, ↓reduceIte, Bool.false_eq_true]
  by_cases hk : y.f0 = x.f0
  ·have hd : ¬ (!decide (y.f0 = x.f0)) = true := by simp [hk]
   simp only [hk, ↓reduceIte, mid_next pre y suf (by omega)]
   rw [List.filter_cons, if_neg hd]
   have i := ih (pre ++ [y]) acc (by rw [← List.append_cons]; exact h) (by simp; omega)
   rw [← List.append_cons pre y suf] at i
   exact i
  ·have hd : (!decide (y.f0 = x.f0)) = true := by simp [hk]
   simp only [hk, ↓reduceIte, show acc.length < 4398046511104 by omega, mid_next pre y suf (by omega)]
   rw [List.filter_cons, if_pos hd]
   have i := ih (pre ++ [y]) (acc ++ [y]) (by rw [← List.append_cons]; exact h) (by simp; omega)
   rw [← List.append_cons pre y suf, List.append_assoc, List.singleton_append] at i
   exact i
theorem put_false_l0 (x : E) (suf : List E) : ∀ (pre acc : List E), (pre ++ suf).length < 1099511627776 → acc.length ≤ pre.length → Ris kE suf →
  Ev (fun k => ref04_Put.l0 k (pre ++ suf) acc false (pre.length : Int) x.f0 x.f1 x.f2) (acc ++ putE suf x) := by
 induction suf with
 | nil =>
  intro pre acc h ha hr
  have hl : pre.length < 1099511627776 := by simpa using h
  refine Ev.step (fun k => by rw [ref04_Put.l0]) ?_
  simp only [end_ge, ↓reduceIte, Bool.false_eq_true, show acc.length < 4398046511104 by omega]
  exact Ev.now _
 | cons y suf ih =>
  intro pre acc h ha hr
  have hl : pre.length + (suf.length + 1) < 1099511627776 := by simpa using h
  have hys := ris_head hr
  have hrs := ris_tail hr
  refine Ev.step (fun k => by rw [ref04_Put.l0]) ?_
  simp only [mid_lt, nat_ge, rdE, ↓reduceIte, Bool.false_eq_true]
  refine Ev.step (fun k => by rw [ref04_Put.j1]) ?_
  by_cases hge : y.f0 ≥ x.f0
  ·have hf1 : (y :: suf).filter (fun y => decide (kE y < kE x)) = [] := List.filter_eq_nil_iff.2 (fun z hz => by
    rw [decide_eq_true_eq]
    rcases List.mem_cons.1 hz with rfl | hz
    ·unfold kE; omega
    ·have := hys z hz
     unfold kE at *; omega)
   have hf2 : suf.filter (fun y => decide (kE x < kE y)) = suf.filter (fun y => !decide (y.f0 = x.f0)) := List.filter_congr (fun z hz => by
    have := hys z hz
    unfold kE at this ⊢
    have h1 : x.f0 < z.f0 := by omega
    have h2 : ¬ z.f0 = x.f0 := by omega
    simp [h1, h2])
   simp only [decide_eq_true hge, show acc.length < 4398046511104 by omega, mid_lt, nat_ge, rdE, ↓reduceIte, Option.bind_some]
   unfold putE putL
   rw [hf1, List.filter_cons, List.nil_append]
   by_cases he : y.f0 = x.f0
   ·rw [if_neg (by show ¬ decide (kE x < kE y) = true; rw [decide_eq_true_eq]; unfold kE; omega), hf2]
    simp only [he, ↓reduceIte, mid_next pre y suf (by omega)]
    have i := put_true_l0 x suf (pre ++ [y]) (acc ++ [x]) (by rw [← List.append_cons]; exact h) (by simp; omega)
    rw [← List.append_cons pre y suf, List.append_assoc] at i
    exact i
   ·rw [if_pos (by show decide (kE x < kE y) = true; rw [decide_eq_true_eq]; unfold kE; omega), hf2]
    have hla : (acc ++ [x]).length < 4398046511104 := by rw [List.length_append, List.length_singleton]; omega
    have hla' : (acc ++ [(⟨x.f0, x.f1, x.f2⟩ : E)]).length < 4398046511104 := hla
    simp only [he, ↓reduceIte, mid_next pre y suf (by omega), hla']
    have i := put_true_l0 x suf (pre ++ [y]) (acc ++ [x] ++ [y]) (by rw [← List.append_cons]; exact h) (by simp; omega)
    rw [← List.append_cons pre y suf] at i
    exact Ev.cast i (by simp)
  ·have he : ¬ y.f0 = x.f0 := by omega
   simp only [decide_eq_false hge, Bool.false_eq_true, he, show acc.length < 4398046511104 by omega, mid_lt, nat_ge, rdE, ↓reduceIte, mid_next pre y suf (by omega)]
   have i := ih (pre ++ [y]) (acc ++ [y]) (by rw [← List.append_cons]; exact h) (by simp; omega) hrs
   rw [← List.append_cons pre y suf, List.append_assoc] at i
   have e : putE (y :: suf) x = y :: putE suf x := by
    unfold putE putL
    rw [List.filter_cons, if_pos (by show decide (kE y < kE x) = true; rw [decide_eq_true_eq]; unfold kE; omega), List.filter_cons, if_neg (by show ¬ decide (kE x < kE y) = true; rw [decide_eq_true_eq]; unfold kE; omega)]
    rfl
   rw [e]
   exact i
theorem ev_ref04_Put (l : List E) (x : E) (hr : Ris kE l) (hn : l.length < 1099511627776) : Ev (fun k => ref04_Put.f k l x.f0 x.f1 x.f2) (putE l x) := put_false_l0 x l [] [] hn (Nat.le_refl _) hr
end Go.Proofs.Ytpccnpgigmcfoaa.Pl

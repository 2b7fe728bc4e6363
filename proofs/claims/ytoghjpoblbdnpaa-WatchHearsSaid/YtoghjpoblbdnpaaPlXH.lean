/- Plain words of beats: where an endpoint stands, and what watch.Heard leaves. No program runs here. No condition. -/
import Derived.Test.YtoghjpoblbdnpaaPlX
import Derived.Test.YtoghjpoblbdnpaaPWatchHeard
namespace Go.Proofs.Ytoghjpoblbdnpaa.Pl
open Go.RowKit Go.Proofs.Ytoghjpoblbdnpaa.P Go.Proofs.YtoghjpoblbdnpaaW.PrintWords Go.Proofs.YtoghjpoblbdnpaaW.PrintLast Go.Proofs.YtoghjpoblbdnpaaW.PrintMore Go.Proofs.Ytoghjpoblbdnpaa.Pl09 Go.Proofs.Ytoghjpoblbdnpaa.Pl10
set_option linter.unusedSimpArgs false
set_option linter.unusedVariables false
theorem split22 (n : Int) : ∀ (l : List X), l.Pairwise (fun a b => a.f0 < b.f0) → ∃ lo hi, l = lo ++ hi ∧ (∀ x ∈ lo, x.f0 < n) ∧ (∀ x ∈ hi, n ≤ x.f0)
 | [], _ => ⟨[], [], rfl, by simp, by simp⟩
 | x :: l, h => by
  obtain ⟨h1, h2⟩ := List.pairwise_cons.1 h
  by_cases hx : x.f0 < n
  ·obtain ⟨lo, hi, rfl, hl, hh⟩ := split22 n l h2; exact ⟨x :: lo, hi, rfl, fun y hy => by rcases List.mem_cons.1 hy with rfl | hy; exact hx; exact hl y hy, hh⟩
  ·exact ⟨[], x :: l, rfl, by simp, fun y hy => by
    rcases List.mem_cons.1 hy with rfl | hy
    ·omega
    ·have := h1 y hy; omega⟩
/-- An endpoint is in a rising list, or it is not; and those ahead of its place are smaller, those behind it greater. -/
theorem parts22 {l : List X} (h : l.Pairwise (fun a b => a.f0 < b.f0)) (n : Int) :
  (∃ lo x hi, l = lo ++ x :: hi ∧ x.f0 = n ∧ (∀ y ∈ lo, y.f0 < n) ∧ (∀ y ∈ hi, n < y.f0)) ∨ (∃ lo hi, l = lo ++ hi ∧ (∀ y ∈ lo, y.f0 < n) ∧ (∀ y ∈ hi, n < y.f0)) := by
 obtain ⟨lo, hi, rfl, hl, hh⟩ := split22 n l h; have h2 := (List.pairwise_append.1 h).2.1
 match hi, h2, hh with
 | [], _, _ => exact .inr ⟨lo, [], rfl, hl, by simp⟩
 | x :: hi, h2, hh =>
  have h3 := (List.pairwise_cons.1 h2).1; have hx := hh x (by simp)
  by_cases he : x.f0 = n
  ·exact .inl ⟨lo, x, hi, rfl, he, hl, fun y hy => by have := h3 y hy; omega⟩
  ·exact .inr ⟨lo, x :: hi, rfl, hl, fun y hy => by
    rcases List.mem_cons.1 hy with rfl | hy
    ·omega
    ·have := h3 y hy; omega⟩
theorem halveX_is (less : Nat → Bool) (n : Nat) (hm : ∀ i j, i ≤ j → j < n → less j = true → less i = true) : ∀ (f lo hi : Nat), hi - lo ≤ f → lo ≤ hi → hi ≤ n → (∀ j, j < lo → less j = true) → (∀ j, hi ≤ j → j < n → less j = false) →
  halveX less f lo hi ≤ n ∧ (∀ j, j < halveX less f lo hi → less j = true) ∧ (∀ j, halveX less f lo hi ≤ j → j < n → less j = false) := by
 intro f
 induction f with
 | zero =>
  intro lo hi h1 h2 h3 h4 h5
  have : lo = hi := by omega
  subst this; exact ⟨h3, h4, h5⟩
 | succ f ih =>
  intro lo hi h1 h2 h3 h4 h5
  unfold halveX
  split
  ·split
   ·rename_i hl
    refine ih _ _ (by omega) (by omega) h3 (fun j hj => ?_) h5; exact hm j _ (by omega) (by omega) hl
   ·rename_i hl
    refine ih _ _ (by omega) (by omega) (by omega) h4 (fun j hj hjn => ?_)
    cases hb : less j with
    | false => rfl
    | true => exact absurd (hm _ j hj hjn hb) hl
  ·have : lo = hi := by omega
   subst this; exact ⟨h3, h4, h5⟩
theorem place_at (lo hi : List X) (n : Int) (hn : 0 ≤ n ∧ n < 8) (hb : ∀ x ∈ lo ++ hi, 0 ≤ x.f0 ∧ x.f0 < 8) (h1 : ∀ x ∈ lo, x.f0 < n) (h2 : ∀ x ∈ hi, n ≤ x.f0) : watch_place.at (lo ++ hi) n = lo.length := by
 have hw : ∀ j, j < (lo ++ hi).length → (decide (wrap64 (((lo ++ hi).getD j z36).f0 - n) < 0) = true ↔ j < lo.length) := by
  intro j hj; have hm := hb _ (x_mem hj); rw [decide_eq_true_eq, wrap_id _ (by omega) (by omega)]
  rcases Nat.lt_or_ge j lo.length with hjl | hjl
  ·have : (lo ++ hi).getD j z36 ∈ lo := by rw [x_get hj, List.getElem_append_left hjl]; exact List.getElem_mem hjl
   have := h1 _ this
   omega
  ·have : (lo ++ hi).getD j z36 ∈ hi := by rw [x_get hj, List.getElem_append_right hjl]; exact List.getElem_mem _
   have := h2 _ this
   omega
 unfold watch_place.at
 obtain ⟨g1, g2, g3⟩ := halveX_is (fun j => decide (wrap64 (((lo ++ hi).getD j z36).f0 - n) < 0)) (lo ++ hi).length (fun i j hij hj hl => (hw i (by omega)).2 (by have := (hw j hj).1 hl; omega)) (lo ++ hi).length 0 (lo ++ hi).length (by omega) (by omega) (Nat.le_refl _) (fun j hj => absurd hj (by omega)) (fun j hj hjn => absurd hjn (by omega)); generalize halveX (fun j => decide (wrap64 (((lo ++ hi).getD j z36).f0 - n) < 0)) (lo ++ hi).length 0 (lo ++ hi).length = p at g1 g2 g3 ⊢
 have hle : lo.length ≤ (lo ++ hi).length := by simp
 rcases Nat.lt_trichotomy p lo.length with h | h | h
 ·have h3 := g3 p (Nat.le_refl _) (by omega); have h4 := (hw p (by omega)).2 h; rw [h3] at h4; cases h4
 ·exact h
 ·have h3 := g2 lo.length h; have h4 := (hw lo.length (by omega)).1 h3
  omega
theorem place_hit (lo hi : List X) (x : X) (hl : (lo ++ x :: hi).length ≤ 1000) (hx : 0 ≤ x.f0 ∧ x.f0 < 8) (hb : ∀ y ∈ lo ++ x :: hi, 0 ≤ y.f0 ∧ y.f0 < 8) (h1 : ∀ y ∈ lo, y.f0 < x.f0) (h2 : ∀ y ∈ hi, x.f0 < y.f0) :
  watch_place.f (lo ++ x :: hi) x.f0 = some ((lo.length : Int), true) := by
 have ha := place_at lo (x :: hi) x.f0 hx hb h1 (fun y hy => by
  rcases List.mem_cons.1 hy with rfl | hy
  ·omega
  ·have := h2 y hy; omega)
 unfold watch_place.f
 rw [if_pos (by omega), ha]
 have hg : (lo ++ x :: hi).getD lo.length z36 = x := by simp [List.getD_eq_getElem?_getD]
 rw [hg, Int.sub_self, decide_eq_true (by simp), Bool.true_and, show wrap64 (0 : Int) = 0 from by unfold wrap64; omega]; rfl
theorem place_miss (lo hi : List X) (n : Int) (hl : (lo ++ hi).length ≤ 1000) (hn : 0 ≤ n ∧ n < 8) (hb : ∀ y ∈ lo ++ hi, 0 ≤ y.f0 ∧ y.f0 < 8) (h1 : ∀ y ∈ lo, y.f0 < n) (h2 : ∀ y ∈ hi, n < y.f0) :
  watch_place.f (lo ++ hi) n = some ((lo.length : Int), false) := by
 have ha := place_at lo hi n hn hb h1 (fun y hy => by have := h2 y hy; omega)
 unfold watch_place.f
 rw [if_pos (by omega), ha]
 congr 2
 rw [Bool.and_eq_false_iff, decide_eq_false_iff_not, decide_eq_false_iff_not]
 rcases Nat.lt_or_ge lo.length (lo ++ hi).length with h | h
 ·right
  have hm : (lo ++ hi).getD lo.length z36 ∈ hi := by rw [x_get h, List.getElem_append_right (Nat.le_refl _)]; exact List.getElem_mem _
  have hq := h2 _ hm; have hr := hb _ (x_mem h); rw [wrap_id _ (by omega) (by omega)]
  omega
 ·left; omega
def GoodD (d0 d1 d2 : Int) : Prop := (0 ≤ d0 ∧ d0 < 8) ∧ (1 ≤ d1 ∧ d1 ≤ 1099511627776) ∧ 0 ≤ d2 ∧ d2 ≤ 1099511627776
theorem dright (d0 d1 d2 : Int) : ∃ r, Ev (fun k => digest_Right.f k [(⟨d0, d1, d2⟩ : S42)]) r ∧ (r = true ↔ GoodD d0 d1 d2) := by
 unfold digest_Right.f GoodD
 have G := fun k => (show digest_Right.l0 (k + 1) (-1) [(⟨d0, d1, d2⟩ : S42)] (([(⟨d0, d1, d2⟩ : S42)].length : Nat) : Int) 0 = _ from by rw [digest_Right.l0])
 have e0 : rd_T42 [(⟨d0, d1, d2⟩ : S42)] 0 = ⟨d0, d1, d2⟩ := rfl
 have c1 : (0 : Int) < (([(⟨d0, d1, d2⟩ : S42)].length : Nat) : Int) := by simp
 have c2 : (0 : Int) ≤ 0 := by omega
 simp only [e0, c1, c2, ↓reduceIte] at G
 by_cases a0 : d0 ≤ -1
 ·exact ⟨false, Ev.step G (by simp only [a0, ↓reduceIte]; exact Ev.now _), by simp only [Bool.false_eq_true, false_iff]; omega⟩
 by_cases a1 : d0 ≥ 8
 ·exact ⟨false, Ev.step G (by simp only [a0, a1, ↓reduceIte]; exact Ev.now _), by simp only [Bool.false_eq_true, false_iff]; omega⟩
 by_cases a2 : d1 < 1
 ·exact ⟨false, Ev.step G (by simp only [a0, a1, a2, ↓reduceIte]; exact Ev.now _), by simp only [Bool.false_eq_true, false_iff]; omega⟩
 by_cases a3 : d1 > 1099511627776
 ·exact ⟨false, Ev.step G (by simp only [a0, a1, a2, a3, ↓reduceIte]; exact Ev.now _), by simp only [Bool.false_eq_true, false_iff]; omega⟩
 by_cases a4 : d2 < 0
 ·exact ⟨false, Ev.step G (by simp only [a0, a1, a2, a3, a4, ↓reduceIte]; exact Ev.now _), by simp only [Bool.false_eq_true, false_iff]; omega⟩
 by_cases a5 : d2 > 1099511627776
 ·exact ⟨false, Ev.step G (by simp only [a0, a1, a2, a3, a4, a5, ↓reduceIte]; exact Ev.now _), by simp only [Bool.false_eq_true, false_iff]; omega⟩
 refine ⟨true, Ev.step G ?_, by simp only [true_iff]; omega⟩; simp only [a0, a1, a2, a3, a4, a5, ↓reduceIte]; refine Ev.step (fun k => by rw [digest_Right.l0]) ?_
 have c3 : ¬ wrap64 (0 + 1) < (([(⟨d0, d1, d2⟩ : S42)].length : Nat) : Int) := by unfold wrap64; simp
 simp only [c3, ↓reduceIte]; exact Ev.now _
theorem arrive_no {last : Int} (l : List Int) (now most : Int) (h : 0 ≤ last) (hn : now < last) : Ev (fun k => window_Arrive.f k last l now most) (last, l, 1) := by
 unfold window_Arrive.f
 have c : now < mx 0 last := by unfold mx; split <;> omega
 simp only [c, ↓reduceIte]; refine Ev.step (fun k => by rw [window_Arrive.j0]) ?_; simp only [↓reduceIte]; exact Ev.now _
theorem goodW_none : GoodW (-1) ([] : List Int) := ⟨by omega, by omega, by simp, by simp⟩
/-- What stands for an endpoint that is heard. -/
def born (d0 d1 d2 now : Int) (gaps : List Int) : X := ⟨d0, d1, d2, ⟨now, gaps⟩, true, 0⟩
theorem set_mid (lo hi : List X) (x y : X) : (lo ++ x :: hi).set lo.length y = lo ++ y :: hi := by
 rw [List.set_append_right _ _ (Nat.le_refl _), Nat.sub_self, List.set_cons_zero]
theorem good_mid {lo hi : List X} {y : X} (h : GoodL (lo ++ hi)) (hy : GoodX y) (h1 : ∀ x ∈ lo, x.f0 < y.f0) (h2 : ∀ x ∈ hi, y.f0 < x.f0) : GoodL (lo ++ y :: hi) := by
 obtain ⟨hp, hg⟩ := h; obtain ⟨p1, p2, p3⟩ := List.pairwise_append.1 hp; refine ⟨List.pairwise_append.2 ⟨p1, List.pairwise_cons.2 ⟨h2, p2⟩, fun a ha b hb => ?_⟩, fun x hx => ?_⟩
 ·rcases List.mem_cons.1 hb with rfl | hb
  ·exact h1 a ha
  ·exact p3 a ha b hb
 ·rcases List.mem_append.1 hx with hx | hx
  ·exact hg x (List.mem_append.2 (.inl hx))
  ·rcases List.mem_cons.1 hx with rfl | hx
   ·exact hy
   ·exact hg x (List.mem_append.2 (.inr hx))
theorem good_out {lo hi : List X} {x : X} (h : GoodL (lo ++ x :: hi)) : GoodL (lo ++ hi) :=
 ⟨h.1.sublist (List.Sublist.append_left (List.sublist_cons_self x hi) lo), fun y hy => h.2 y (by
  rcases List.mem_append.1 hy with hy | hy
  ·exact List.mem_append.2 (.inl hy)
  ·exact List.mem_append.2 (.inr (List.mem_cons_of_mem _ hy)))⟩
theorem good_born {d0 d1 d2 now : Int} {gaps : List Int} (h : GoodD d0 d1 d2) (hw : GoodW now gaps) (hn : 0 ≤ now) : GoodX (born d0 d1 d2 now gaps) :=
 ⟨h.1.1, h.1.2, h.2.1.1, h.2.1.2, h.2.2.1, h.2.2.2, hw, hn, by show (0 : Int) ≤ 0; omega, by show (0 : Int) ≤ 1099511627776; omega, fun _ => rfl⟩
theorem heard_bad {l : List X} (hs : SmallL l) {d0 d1 d2 : Int} (hd : ¬ GoodD d0 d1 d2) (now most : Int) : Ev (fun k => watch_Heard.f k l d0 d1 d2 now most) (l, false) := by
 obtain ⟨r, er, qr⟩ := dright d0 d1 d2
 cases r with
 | true => exact absurd (qr.1 rfl) hd
 | false =>
  unfold watch_Heard.f
  simp only [own22 hs, Option.bind_some]; exact Ev.bind er (by simp only [Bool.false_eq_true, ↓reduceIte]; exact Ev.now _)
theorem dright_yes {d0 d1 d2 : Int} (hd : GoodD d0 d1 d2) : Ev (fun k => digest_Right.f k [(⟨d0, d1, d2⟩ : S42)]) true := by
 obtain ⟨r, er, qr⟩ := dright d0 d1 d2
 rwa [qr.2 hd] at er
theorem heard_known {lo hi : List X} {x : X} (hs : SmallL (lo ++ x :: hi)) (hg : GoodL (lo ++ x :: hi)) {d1 d2 : Int} (hd : GoodD x.f0 d1 d2) (now most : Int) {r : List X × Bool}
  (h : Ev (fun k => watch_Heard.known k (lo ++ x :: hi) (lo.length : Int) x.f0 d1 d2 now most) r) : Ev (fun k => watch_Heard.f k (lo ++ x :: hi) x.f0 d1 d2 now most) r := by
 unfold watch_Heard.f
 have hp := List.pairwise_append.1 hg.1; have pl := place_hit lo hi x (by have := hs.1; omega) hd.1 (good_bd hg) (fun y hy => hp.2.2 y hy x (by simp)) (fun y hy => (List.pairwise_cons.1 hp.2.1).1 y hy); simp only [own22 hs, Option.bind_some, pl]; exact Ev.bind (dright_yes hd) (by simp only [↓reduceIte]; exact h)
/-- What was heard before is no news. -/
theorem heard_old {lo hi : List X} {x : X} (hs : SmallL (lo ++ x :: hi)) (hg : GoodL (lo ++ x :: hi)) {d1 d2 : Int} (hd : GoodD x.f0 d1 d2) (now most : Int) (ho : x.f1 > d1 ∨ x.f1 = d1 ∧ x.f2 ≥ d2) :
  Ev (fun k => watch_Heard.f k (lo ++ x :: hi) x.f0 d1 d2 now most) (lo ++ x :: hi, false) := by
 refine heard_known hs hg hd now most ?_
 unfold watch_Heard.known
 simp only [x_mid]
 rcases ho with h | ⟨h, h2⟩
 ·simp only [h, ↓reduceIte]; exact Ev.now _
 ·have c : ¬ x.f1 > d1 := by omega
  simp only [c, h, h2, ↓reduceIte]; split <;> exact Ev.now _
theorem put_yes (l m : List X) (p : Nat) {d0 d1 d2 w0 : Int} {wl : List Int} (hw : GoodW w0 wl) (now most : Int) (h0 : 0 ≤ now) (h1 : w0 ≤ now) (h2 : now ≤ 1099511627776) :
  Ev (fun k => watch_Heard.put k l m (p : Int) d0 d1 d2 w0 wl now most) (m.set p (born d0 d1 d2 now (arr w0 wl now most)), true) := by
 unfold watch_Heard.put
 refine Ev.bind (arrive hw now most h0 h1 h2) ?_; simp only [↓reduceIte, Int.toNat_natCast]; exact Ev.now _
/-- The same life, a later beat. -/
theorem heard_same {lo hi : List X} {x : X} (hs : SmallL (lo ++ x :: hi)) (hg : GoodL (lo ++ x :: hi)) {d2 : Int} (hd : GoodD x.f0 x.f1 d2) (now most : Int) (ho : x.f2 < d2) (h0 : 0 ≤ now) (h2 : now ≤ 1099511627776) :
  Ev (fun k => watch_Heard.f k (lo ++ x :: hi) x.f0 x.f1 d2 now most) (if x.f3.f0 ≤ now then (lo ++ born x.f0 x.f1 d2 now (arr x.f3.f0 x.f3.f1 now most) :: hi, true) else (lo ++ x :: hi, false)) := by
 have hx := hg.2 x (by simp); refine heard_known hs hg hd now most ?_
 unfold watch_Heard.known
 have c1 : ¬ x.f1 > x.f1 := by omega
 have c2 : ¬ x.f2 ≥ d2 := by omega
 simp only [x_mid, c1, c2, ↓reduceIte]
 by_cases hn : x.f3.f0 ≤ now
 ·rw [if_pos hn]; have := put_yes (lo ++ x :: hi) (lo ++ x :: hi) lo.length (d0 := x.f0) (d1 := x.f1) (d2 := d2) hx.2.2.2.2.2.2.1 now most h0 hn h2; rw [set_mid] at this; exact this
 ·rw [if_neg hn]
  unfold watch_Heard.put
  refine Ev.bind (arrive_no x.f3.f1 now most hx.2.2.2.2.2.2.2.1 (by omega)) ?_; simp only [show ¬ ((1 : Int) = 0) from by omega, ↓reduceIte]; exact Ev.now _
/-- A greater life. -/
theorem heard_birth {lo hi : List X} {x : X} (hs : SmallL (lo ++ x :: hi)) (hg : GoodL (lo ++ x :: hi)) {d1 d2 : Int} (hd : GoodD x.f0 d1 d2) (now most : Int) (ho : x.f1 < d1) (h0 : 0 ≤ now) (h2 : now ≤ 1099511627776) :
  Ev (fun k => watch_Heard.f k (lo ++ x :: hi) x.f0 d1 d2 now most) (lo ++ born x.f0 d1 d2 now [] :: hi, true) := by
 refine heard_known hs hg hd now most ?_
 unfold watch_Heard.known
 have c1 : ¬ x.f1 > d1 := by omega
 have c2 : ¬ x.f1 = d1 := by omega
 simp only [x_mid, c1, c2, ↓reduceIte]; have := put_yes (lo ++ x :: hi) (lo ++ x :: hi) lo.length (d0 := x.f0) (d1 := d1) (d2 := d2) goodW_none now most h0 (by omega) h2; rw [set_mid] at this; exact this
/-- Who was not known. -/
theorem heard_new {lo hi : List X} {d0 d1 d2 : Int} (hs : SmallL (lo ++ hi)) (hg : GoodL (lo ++ hi)) (hd : GoodD d0 d1 d2) (now most : Int) (h0 : 0 ≤ now) (h2 : now ≤ 1099511627776) (hl : ∀ y ∈ lo, y.f0 < d0) (hh : ∀ y ∈ hi, d0 < y.f0) :
  Ev (fun k => watch_Heard.f k (lo ++ hi) d0 d1 d2 now most) (lo ++ born d0 d1 d2 now [] :: hi, true) := by
 unfold watch_Heard.f
 have pl := place_miss lo hi d0 (by have := hs.1; omega) hd.1 (good_bd hg) hl hh
 have c : (lo ++ hi).length < 1099511627776 := by have := hs.1; omega
 simp only [own22 hs, Option.bind_some, pl, Bool.false_eq_true, ↓reduceIte, c, Int.toNat_natCast, List.take_left, List.drop_left]; have := put_yes (lo ++ hi) (lo ++ [z36] ++ hi) lo.length (d0 := d0) (d1 := d1) (d2 := d2) goodW_none now most h0 (by omega) h2; rw [List.append_assoc, show [z36] ++ hi = z36 :: hi from rfl, set_mid] at this; rw [List.append_assoc, show [z36] ++ hi = z36 :: hi from rfl]; exact Ev.bind (dright_yes hd) (by simp only [↓reduceIte]; exact this)
end Go.Proofs.Ytoghjpoblbdnpaa.Pl

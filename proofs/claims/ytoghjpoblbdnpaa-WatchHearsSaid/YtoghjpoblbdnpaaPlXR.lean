/- Plain words of the reference's beats. No program runs here. No condition. -/
import Derived.Test.YtoghjpoblbdnpaaPlXH
import Derived.Test.YtoghjpoblbdnpaaPRef22Heard
namespace Go.Proofs.Ytoghjpoblbdnpaa.Pl
open Go.RowKit Go.Proofs.Ytoghjpoblbdnpaa.P Go.Proofs.YtoghjpoblbdnpaaW.PrintWords Go.Proofs.YtoghjpoblbdnpaaW.PrintLast Go.Proofs.YtoghjpoblbdnpaaW.PrintMore Go.Proofs.Ytoghjpoblbdnpaa.Pl09 Go.Proofs.Ytoghjpoblbdnpaa.Pl10
set_option linter.unusedSimpArgs false
set_option linter.unusedVariables false
theorem find_l (n : Int) (x : X) (hi : List X) (hx : x.f0 = n) : ∀ (suf pre : List X), (pre ++ suf ++ x :: hi).length ≤ 1000 → (∀ y ∈ suf, y.f0 ≠ n) →
  Ev (fun k => ref22_find.l0 k (pre ++ suf ++ x :: hi) n ((pre.length : Nat) : Int)) (((pre ++ suf).length : Nat) : Int) := by
 intro suf
 induction suf with
 | nil =>
  intro pre h _; rw [List.append_nil]; refine Ev.step (fun k => by rw [ref22_find.l0]) ?_; simp only [x_lt, x_ge, ↓reduceIte, x_mid, hx]; exact Ev.now _
 | cons y suf ih =>
  intro pre h hne; have i := ih (pre ++ [y]) (by rw [← List.append_cons]; exact h) (fun z hz => hne z (by simp [hz])); rw [← List.append_cons] at i; refine Ev.step (fun k => by rw [ref22_find.l0]) ?_; have hy := hne y (by simp); rw [List.append_assoc, List.cons_append] at h; rw [List.append_assoc, List.cons_append] at i ⊢; simp only [x_lt, x_ge, ↓reduceIte, x_mid, hy, x_next pre y _ (Nat.lt_of_le_of_lt h (by decide))]; exact i
theorem find_hit (lo hi : List X) (x : X) (h : (lo ++ x :: hi).length ≤ 1000) (hne : ∀ y ∈ lo, y.f0 ≠ x.f0) : Ev (fun k => ref22_find.f k (lo ++ x :: hi) x.f0) ((lo.length : Nat) : Int) := find_l x.f0 x hi rfl lo [] h hne
theorem find_miss_l (n : Int) : ∀ (suf pre : List X), (pre ++ suf).length ≤ 1000 → (∀ y ∈ suf, y.f0 ≠ n) → Ev (fun k => ref22_find.l0 k (pre ++ suf) n ((pre.length : Nat) : Int)) (-1) := by
 intro suf
 induction suf with
 | nil =>
  intro pre h _; refine Ev.step (fun k => by rw [ref22_find.l0]) ?_; simp only [x_end, ↓reduceIte]; exact Ev.now _
 | cons y suf ih =>
  intro pre h hne; have i := ih (pre ++ [y]) (by rw [← List.append_cons]; exact h) (fun z hz => hne z (by simp [hz])); rw [← List.append_cons] at i; have hy := hne y (by simp); refine Ev.step (fun k => by rw [ref22_find.l0]) ?_; simp only [x_lt, x_ge, ↓reduceIte, x_mid, hy, x_next pre y suf (Nat.lt_of_le_of_lt h (by decide))]; exact i
theorem find_miss (l : List X) (n : Int) (h : l.length ≤ 1000) (hne : ∀ y ∈ l, y.f0 ≠ n) : Ev (fun k => ref22_find.f k l n) (-1) := find_miss_l n l [] h hne
theorem without_l (n : Int) : ∀ (suf pre acc : List X), (pre ++ suf).length ≤ 1000 → acc.length + suf.length ≤ 1000 → (∀ y ∈ acc ++ suf, y.f3.f1.length ≤ 1000) →
  Ev (fun k => ref22_Without.l0 k (pre ++ suf) n acc ((pre.length : Nat) : Int)) (acc ++ suf.filter (fun y => !(y.f0 == n))) := by
 intro suf
 induction suf with
 | nil =>
  intro pre acc h ha hg; refine Ev.step (fun k => by rw [ref22_Without.l0]) ?_; simp only [x_end, ↓reduceIte]; rw [List.filter_nil, List.append_nil]; exact Ev.bind (copy22 acc (by simpa using ha) (fun y hy => hg y (by simp [hy]))) (Ev.now _)
 | cons y suf ih =>
  intro pre acc h ha hg
  have ha2 : acc.length + (suf.length + 1) ≤ 1000 := by simpa using ha
  have h2 : (pre ++ [y] ++ suf).length ≤ 1000 := by rw [← List.append_cons]; exact h
  refine Ev.step (fun k => by rw [ref22_Without.l0]) ?_
  by_cases hy : y.f0 = n
  ·simp only [x_lt, x_ge, ↓reduceIte, x_mid, hy, x_next pre y suf (Nat.lt_of_le_of_lt h (by decide))]
   have i := ih (pre ++ [y]) acc h2 (by omega) (fun z hz => hg z (by
    rcases List.mem_append.1 hz with hz | hz
    ·exact List.mem_append.2 (.inl hz)
    ·exact List.mem_append.2 (.inr (List.mem_cons_of_mem _ hz))))
   rw [← List.append_cons] at i; rw [List.filter_cons, if_neg (by simp [hy])]; exact i
  ·have c : acc.length < 1954687338268 := by omega
   simp only [x_lt, x_ge, ↓reduceIte, x_mid, hy, c, x_next pre y suf (Nat.lt_of_le_of_lt h (by decide))]; have i := ih (pre ++ [y]) (acc ++ [y]) h2 (by rw [List.length_append, List.length_singleton]; omega) (fun z hz => hg z (by rw [← List.append_cons] at hz; exact hz)); rw [← List.append_cons] at i; rw [List.filter_cons, if_pos (by simp [hy])]; rw [List.append_assoc] at i; exact i
theorem without22 (l : List X) (n : Int) (h : SmallL l) : Ev (fun k => ref22_Without.f k l n) (l.filter (fun y => !(y.f0 == n))) :=
 without_l n l [] [] (by have := h.1; simpa using Nat.le_trans this (by decide)) (by have := h.1; simpa using Nat.le_trans this (by decide)) (fun y hy => Nat.le_trans (h.2 y (by simpa using hy)) (by decide))
theorem put_l (d0 d1 d2 now : Int) (gaps : List Int) (hi : List X) (hh : ∀ y ∈ hi, d0 < y.f0) : ∀ (suf pre : List X), (pre ++ suf ++ hi).length ≤ 1000 → (∀ y ∈ suf, y.f0 < d0) →
  Ev (fun k => ref22_put.l0 k (pre ++ suf ++ hi) ((pre.length : Nat) : Int) d0 d1 d2 now gaps true 0) (pre ++ suf ++ born d0 d1 d2 now gaps :: hi) := by
 intro suf
 induction suf with
 | nil =>
  intro pre h _; rw [List.append_nil] at h ⊢
  have c4 : ((pre.length : Nat) : Int) ≤ ((pre ++ hi).length : Int) := by simp <;> omega
  have hl : pre.length + hi.length ≤ 1000 := by simpa using h
  have c5 : ([] : List X).length + ((pre ++ hi).take pre.length).length < 1954687338268 := by rw [List.take_left]; simp; omega
  have c6 : ([] ++ (pre ++ hi).take pre.length).length + ([born d0 d1 d2 now gaps] : List X).length < 1954687338268 := by rw [List.take_left]; simp; omega
  have c7 : ([] ++ (pre ++ hi).take pre.length ++ [born d0 d1 d2 now gaps]).length + ((pre ++ hi).drop pre.length).length < 1954687338268 := by rw [List.take_left, List.drop_left]; simp; omega
  unfold born at c6 c7
  refine Ev.step (fun k => by rw [ref22_put.l0]) ?_
  have out : ∀ r : List X, r = [] ++ (pre ++ hi).take pre.length ++ [born d0 d1 d2 now gaps] ++ (pre ++ hi).drop pre.length → r = pre ++ born d0 d1 d2 now gaps :: hi := by
   intro r hr; rw [hr, List.take_left, List.drop_left]; simp
  cases hi with
  | nil =>
   simp only [x_end, ↓reduceIte, Option.bind_some, x_ge, c4, Int.toNat_natCast, c5, c6, c7]; exact Ev.cast (Ev.now _) (out _ rfl)
  | cons x hi =>
   have c : ¬ x.f0 < d0 := by have := hh x (by simp); omega
   simp only [x_lt, x_ge, ↓reduceIte, x_mid, c, Option.bind_some, c4, Int.toNat_natCast, c5, c6, c7]; exact Ev.cast (Ev.now _) (out _ rfl)
 | cons y suf ih =>
  intro pre h hl; have i := ih (pre ++ [y]) (by rw [← List.append_cons]; exact h) (fun z hz => hl z (by simp [hz])); rw [← List.append_cons] at i; have hy := hl y (by simp); refine Ev.step (fun k => by rw [ref22_put.l0]) ?_; rw [List.append_assoc, List.cons_append] at h; rw [List.append_assoc, List.append_assoc, List.cons_append, List.cons_append] at i ⊢; simp only [x_lt, x_ge, ↓reduceIte, x_mid, hy, x_next pre y _ (Nat.lt_of_le_of_lt h (by decide))]; exact i
theorem put22 {l lo hi : List X} (hs : SmallL l) (d0 d1 d2 now : Int) (gaps : List Int) (hf : l.filter (fun y => !(y.f0 == d0)) = lo ++ hi) (hl : ∀ y ∈ lo, y.f0 < d0) (hh : ∀ y ∈ hi, d0 < y.f0) :
  Ev (fun k => ref22_put.f k l d0 d1 d2 now gaps true 0) (lo ++ born d0 d1 d2 now gaps :: hi) := by
 have h := without22 l d0 hs; have hle := List.length_filter_le (fun y : X => !(y.f0 == d0)) l; have hlen : (l.filter (fun y => !(y.f0 == d0))).length ≤ 1000 := Nat.le_trans hle (Nat.le_trans hs.1 (by decide)); rw [hf] at h hlen
 unfold ref22_put.f
 exact Ev.bind h (put_l d0 d1 d2 now gaps hi hh lo [] hlen hl)
theorem keep_all (l : List X) (n : Int) (h : ∀ y ∈ l, y.f0 ≠ n) : l.filter (fun y => !(y.f0 == n)) = l := by
 rw [List.filter_eq_self]; intro y hy; have := h y hy
 simp [this]
theorem rright (d0 d1 d2 : Int) : ∃ r, Ev (fun k => ref07_Right.f k [(⟨d0, d1, d2⟩ : S42)]) r ∧ (r = true ↔ GoodD d0 d1 d2) := by
 unfold ref07_Right.f GoodD
 have G := fun k => (show ref07_Right.l0 (k + 1) [(⟨d0, d1, d2⟩ : S42)] 0 = _ from by rw [ref07_Right.l0])
 have e0 : rd_T42 [(⟨d0, d1, d2⟩ : S42)] 0 = ⟨d0, d1, d2⟩ := rfl
 have c1 : (0 : Int) < (([(⟨d0, d1, d2⟩ : S42)].length : Nat) : Int) := by simp
 have c2 : (0 : Int) ≤ 0 := by omega
 have c3 : ¬ ((0 : Int) > 0) := by omega
 simp only [e0, c1, c2, c3, ↓reduceIte] at G
 by_cases a0 : d0 < 0
 ·exact ⟨false, Ev.step G (by simp only [a0, ↓reduceIte]; exact Ev.now _), by simp only [Bool.false_eq_true, false_iff]; omega⟩
 by_cases a1 : d0 ≥ 8
 ·exact ⟨false, Ev.step G (by simp only [a0, a1, ↓reduceIte]; exact Ev.now _), by simp only [Bool.false_eq_true, false_iff]; omega⟩
 by_cases a2 : d1 < 1
 ·exact ⟨false, Ev.step G (by simp only [a0, a1, a2, ↓reduceIte]; exact Ev.now _), by simp only [Bool.false_eq_true, false_iff]; omega⟩
 by_cases a3 : d1 > 1099511627776
 ·exact ⟨false, Ev.step G (by simp only [a0, a1, a2, a3, ↓reduceIte]; exact Ev.now _), by simp only [Bool.false_eq_true, false_iff]; omega⟩
 by_cases a4 : d2 < 0
 ·exact ⟨false, Ev.step G (by simp only [a0, a1, a2, a3, a4, ↓reduceIte]; exact Ev.now _), by simp only [Bool.false_eq_true, false_iff]; omega⟩
 by_cases a5 : d2 > 1099511627776
 ·exact ⟨false, Ev.step G (by simp only [a0, a1, a2, a3, a4, a5, ↓reduceIte]; exact Ev.now _), by simp only [Bool.false_eq_true, false_iff]; omega⟩
 refine ⟨true, Ev.step G ?_, by simp only [true_iff]; omega⟩; simp only [a0, a1, a2, a3, a4, a5, ↓reduceIte]; refine Ev.step (fun k => by rw [ref07_Right.l0]) ?_
 have c3 : ¬ wrap64 (0 + 1) < (([(⟨d0, d1, d2⟩ : S42)].length : Nat) : Int) := by unfold wrap64; simp
 simp only [c3, ↓reduceIte]; exact Ev.now _
theorem rright_yes {d0 d1 d2 : Int} (hd : GoodD d0 d1 d2) : Ev (fun k => ref07_Right.f k [(⟨d0, d1, d2⟩ : S42)]) true := by
 obtain ⟨r, er, qr⟩ := rright d0 d1 d2
 rwa [qr.2 hd] at er
theorem rarrive_no {last : Int} {l : List Int} (h : GoodW last l) (now most : Int) (h0 : 0 ≤ now) (hn : now < last) : Ev (fun k => ref10_Arrive.f k last l now most) (last, l, 1) := by
 unfold ref10_Arrive.f
 refine Ev.bind (ref_right_good h) ?_
 have c : ¬ now < 0 := by omega
 simp only [↓reduceIte, c, hn]; refine Ev.step (fun k => by rw [ref10_Arrive.j0]) ?_; simp only [↓reduceIte]; exact Ev.now _
theorem rno {l : List X} (hs : SmallL l) : Ev (fun k => ref22_Heard.no k l) (l, false) := by
 unfold ref22_Heard.no
 exact Ev.bind (copy22 l (Nat.le_trans hs.1 (by decide)) (fun y hy => Nat.le_trans (hs.2 y hy) (by decide))) (Ev.now _)
theorem rarr_yes {l lo hi : List X} (hs : SmallL l) {d0 d1 d2 w0 : Int} {wl : List Int} (hw : GoodW w0 wl) (now most : Int) (h0 : 0 ≤ now) (h1 : w0 ≤ now) (h2 : now ≤ 1099511627776)
  (hf : l.filter (fun y => !(y.f0 == d0)) = lo ++ hi) (hl : ∀ y ∈ lo, y.f0 < d0) (hh : ∀ y ∈ hi, d0 < y.f0) :
  Ev (fun k => ref22_Heard.arr k l d0 d1 d2 w0 wl now most) (lo ++ born d0 d1 d2 now (arr w0 wl now most) :: hi, true) := by
 unfold ref22_Heard.arr
 refine Ev.bind (ref_arrive hw now most h0 h1 h2) ?_; simp only [↓reduceIte]; rw [arr_is hw now most]; exact Ev.bind (put22 hs d0 d1 d2 now (rarr w0 wl now most) hf hl hh) (Ev.now _)
/-- What the reference hears, and the program: the same; and it is a list that may be. -/
theorem heard_both {l : List X} (hs : SmallL l) (hg : GoodL l) (d0 d1 d2 now most : Int) (h0 : 0 ≤ now) (h2 : now ≤ 1099511627776) :
  ∃ r : List X × Bool, GoodL r.1 ∧ Ev (fun k => watch_Heard.f k l d0 d1 d2 now most) r ∧ Ev (fun k => ref22_Heard.f k l d0 d1 d2 now most) r := by
 by_cases hd : GoodD d0 d1 d2
 case neg =>
  refine ⟨(l, false), hg, heard_bad hs hd now most, ?_⟩
  have hfi : ∃ i, Ev (fun k => ref22_find.f k l d0) i := by
   rcases parts22 hg.1 d0 with ⟨lo, x, hi, rfl, rfl, hlo, hhi⟩ | ⟨lo, hi, rfl, hlo, hhi⟩
   ·exact ⟨_, find_hit lo hi x (Nat.le_trans hs.1 (by decide)) (fun y hy => by have := hlo y hy; omega)⟩
   ·exact ⟨_, find_miss _ d0 (Nat.le_trans hs.1 (by decide)) (fun y hy => by
     rcases List.mem_append.1 hy with hy | hy
     ·have := hlo y hy; omega
     ·have := hhi y hy; omega)⟩
  obtain ⟨i, ei⟩ := hfi; obtain ⟨r, er, qr⟩ := rright d0 d1 d2
  unfold ref22_Heard.f
  refine Ev.bind ei ?_
  cases r with
  | true => exact absurd (qr.1 rfl) hd
  | false => exact Ev.bind er (by simp only [Bool.false_eq_true, ↓reduceIte]; exact rno hs)
 case pos =>
  have hw0 : GoodW now ([] : List Int) := ⟨by omega, h2, by simp, by simp⟩
  rcases parts22 hg.1 d0 with ⟨lo, x, hi, rfl, rfl, hlo, hhi⟩ | ⟨lo, hi, rfl, hlo, hhi⟩
  ·have hx := hg.2 x (by simp); have ef := find_hit lo hi x (Nat.le_trans hs.1 (by decide)) (fun y hy => by have := hlo y hy; omega)
   have ff : (lo ++ x :: hi).filter (fun y => !(y.f0 == x.f0)) = lo ++ hi := by
    rw [List.filter_append, List.filter_cons, if_neg (by simp), keep_all lo x.f0 (fun y hy => by have := hlo y hy; omega), keep_all hi x.f0 (fun y hy => by have := hhi y hy; omega)]
   have up : ∀ r : List X × Bool, Ev (fun k => ref22_Heard.known k (lo ++ x :: hi) ((lo.length : Nat) : Int) x.f0 d1 d2 now most) r → Ev (fun k => ref22_Heard.f k (lo ++ x :: hi) x.f0 d1 d2 now most) r := fun r h => by
    unfold ref22_Heard.f
    refine Ev.bind ef (Ev.bind (rright_yes hd) ?_); simp only [↓reduceIte, x_ge, x_lt]; exact h
   rcases Int.lt_trichotomy x.f1 d1 with hlt | heq | hgt
   ·refine ⟨(lo ++ born x.f0 d1 d2 now [] :: hi, true), good_mid (good_out hg) (good_born hd hw0 h0) hlo hhi, heard_birth hs hg hd now most hlt h0 h2, up _ ?_⟩
    unfold ref22_Heard.known
    have c1 : ¬ d1 < x.f1 := by omega
    have c2 : ¬ d1 = x.f1 := by omega
    simp only [x_mid, c1, c2, ↓reduceIte]; exact rarr_yes hs goodW_none now most h0 (by omega) h2 ff hlo hhi
   ·subst heq
    by_cases hb : x.f2 < d2
    ·have c1 : ¬ x.f1 < x.f1 := by omega
     have c3 : ¬ d2 ≤ x.f2 := by omega
     have hsame := heard_same hs hg hd now most hb h0 h2
     by_cases hn : x.f3.f0 ≤ now
     ·rw [if_pos hn] at hsame; refine ⟨_, good_mid (good_out hg) (good_born hd (arr_good hx.2.2.2.2.2.2.1 h0 hn h2) h0) hlo hhi, hsame, up _ ?_⟩
      unfold ref22_Heard.known
      simp only [x_mid, c1, c3, ↓reduceIte]; exact rarr_yes hs hx.2.2.2.2.2.2.1 now most h0 hn h2 ff hlo hhi
     ·rw [if_neg hn] at hsame; refine ⟨_, hg, hsame, up _ ?_⟩
      unfold ref22_Heard.known ref22_Heard.arr
      simp only [x_mid, c1, c3, ↓reduceIte]; refine Ev.bind (rarrive_no hx.2.2.2.2.2.2.1 now most h0 (by omega)) ?_; simp only [show ¬ ((1 : Int) = 0) from by omega, ↓reduceIte]; exact rno hs
    ·refine ⟨(lo ++ x :: hi, false), hg, heard_old hs hg hd now most (.inr ⟨rfl, by omega⟩), up _ ?_⟩
     unfold ref22_Heard.known
     have c1 : ¬ x.f1 < x.f1 := by omega
     have c3 : d2 ≤ x.f2 := by omega
     simp only [x_mid, c1, c3, ↓reduceIte]; exact rno hs
   ·refine ⟨(lo ++ x :: hi, false), hg, heard_old hs hg hd now most (.inl hgt), up _ ?_⟩
    unfold ref22_Heard.known
    have c1 : d1 < x.f1 := by omega
    simp only [x_mid, c1, ↓reduceIte]; exact rno hs
  ·have hne : ∀ y ∈ lo ++ hi, y.f0 ≠ d0 := fun y hy => by
    rcases List.mem_append.1 hy with hy | hy
    ·have := hlo y hy; omega
    ·have := hhi y hy; omega
   refine ⟨(lo ++ born d0 d1 d2 now [] :: hi, true), good_mid hg (good_born hd hw0 h0) hlo hhi, heard_new hs hg hd now most h0 h2 hlo hhi, ?_⟩
   unfold ref22_Heard.f
   refine Ev.bind (find_miss _ d0 (Nat.le_trans hs.1 (by decide)) hne) (Ev.bind (rright_yes hd) ?_); simp only [↓reduceIte, show ¬ (0 : Int) ≤ -1 from by omega]; exact rarr_yes hs goodW_none now most h0 (by omega) h2 (keep_all _ d0 hne) hlo hhi
end Go.Proofs.Ytoghjpoblbdnpaa.Pl

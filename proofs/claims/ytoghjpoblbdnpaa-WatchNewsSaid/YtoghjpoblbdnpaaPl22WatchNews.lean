/- Who has news is alive, and the same is no news again: the law's plain function answers true. No program runs here. No condition. -/
import Derived.Test.YtoghjpoblbdnpaaPlXH
import Derived.Test.YtoghjpoblbdnpaaPLaw22WatchNews
import Derived.Test.YtoghjpoblbdnpaaOps
namespace Go.Proofs.Ytoghjpoblbdnpaa.Pl
open Go.RowKit Go.Proofs.Ytoghjpoblbdnpaa.P Go.Proofs.YtoghjpoblbdnpaaW.PrintWords Go.Proofs.YtoghjpoblbdnpaaW.PrintLast Go.Proofs.YtoghjpoblbdnpaaW.PrintMore Go.Proofs.Ytoghjpoblbdnpaa.Pl09 Go.Proofs.Ytoghjpoblbdnpaa.Pl10
set_option linter.unusedSimpArgs false
set_option linter.unusedVariables false
theorem alive22 : Ev (fun k => law22_alive.f k) true := Ev.of (fun k => law22_alive.mono k) (k := 60) (by decide +kernel)
theorem u16_22 {a : Int} (h : (Lit.int .u16 a).wf = true) : 0 ≤ a ∧ a ≤ 65535 := by
 simp [Lit.wf, IntKind.min, IntKind.max, IntKind.bits, IntKind.signed] at h
 omega
theorem u32_22 {a : Int} (h : (Lit.int .u32 a).wf = true) : 0 ≤ a ∧ a ≤ 4294967295 := by
 simp [Lit.wf, IntKind.min, IntKind.max, IntKind.bits, IntKind.signed] at h
 omega
theorem mod8 (a : Int) (h : 0 ≤ a ∧ a ≤ 65535) : 0 ≤ Int.tmod (wrap64 a) 8 ∧ Int.tmod (wrap64 a) 8 < 8 := by
 rw [wrap_id a (by omega) (by omega), Int.tmod_eq_emod_of_nonneg h.1]
 omega
theorem news_l {a : List X} (hg : GoodL a) (n d1 d2 : Int) (suf : List Int) : ∀ (pre : List Int) (b : Bool), (pre ++ suf).length ≤ 1000 → (b = true ∨ n ∈ suf) →
  Ev (fun k => law22_WatchNews.l0 k a a false b (pre ++ suf) (pre.length : Int) n d1 d2) true := by
 induction suf with
 | nil =>
  intro pre b h hb; refine Ev.step (fun k => by rw [law22_WatchNews.l0]) ?_
  have c : ¬ ((pre.length : Nat) : Int) < ((pre ++ ([] : List Int)).length : Int) := by simp
  have hb : b = true := hb.elim id (fun h => by simp at h); simp only [c, hb, Bool.false_eq_true, ↓reduceIte]; refine Ev.bind (same_yes hg) ?_; simp only [↓reduceIte]; exact Ev.bind (wright_good (by have := good_len hg; omega) hg) (Ev.now _)
 | cons v suf ih =>
  intro pre b h hb; refine Ev.step (fun k => by rw [law22_WatchNews.l0]) ?_
  have c : ((pre.length : Nat) : Int) < ((pre ++ v :: suf).length : Int) := by simp <;> omega
  have c0 : (0 : Int) ≤ ((pre.length : Nat) : Int) := by omega
  have hw : wrap64 (((pre.length : Nat) : Int) + 1) = (((pre ++ [v]).length : Nat) : Int) := by
   rw [x_wrap _ (by simp at h; omega), List.length_append]; rfl
  have e : pre ++ v :: suf = (pre ++ [v]) ++ suf := List.append_cons _ _ _; simp only [c, c0, ↓reduceIte, rd_mid, hw]
  cases b with
  | true =>
   simp only [↓reduceIte]; rw [e]; exact ih (pre ++ [v]) true (by rw [← e]; exact h) (.inl rfl)
  | false =>
   simp only [Bool.false_eq_true, ↓reduceIte]; rw [e]; refine ih (pre ++ [v]) (v == n) (by rw [← e]; exact h) ?_
   rcases hb with hb | hb
   ·cases hb
   ·rcases List.mem_cons.1 hb with rfl | hb
    ·left; simp
    ·exact .inr hb
theorem news_again {lo hi : List X} {n d1 d2 now : Int} {gaps : List Int} (hg : GoodL (lo ++ born n d1 d2 now gaps :: hi)) (hd : GoodD n d1 d2) :
  Ev (fun k => (watch_Heard.f k (lo ++ born n d1 d2 now gaps :: hi) n d1 d2 now 50).bind fun bt110 => ((watch_Alive.f (lo ++ born n d1 d2 now gaps :: hi)).bind fun t114 => (law22_WatchNews.l0 k (lo ++ born n d1 d2 now gaps :: hi) bt110.1 bt110.2 false t114 0 n d1 d2))) true := by
 refine Ev.bind (heard_old (x := born n d1 d2 now gaps) (d1 := d1) (d2 := d2) (good_small hg) hg hd now 50 (.inr ⟨rfl, Int.le_refl _⟩)) ?_; have hlen := good_len hg; have hmem : n ∈ ((lo ++ born n d1 d2 now gaps :: hi).filter (fun x => x.f4)).map (fun x => x.f0) := List.mem_map.2 ⟨born n d1 d2 now gaps, List.mem_filter.2 ⟨by simp, rfl⟩, rfl⟩; have hle := List.length_filter_le (fun x : X => x.f4) (lo ++ born n d1 d2 now gaps :: hi)
 unfold watch_Alive.f
 rw [if_pos (by omega)]; simp only [Option.bind_some]; exact news_l hg n d1 d2 _ [] false (by rw [List.nil_append, List.length_map]; exact Nat.le_trans hle (by omega)) (.inr hmem)
theorem WatchNews : ∀ (x0 : List S36) (x1 : S39) (x2 : Int), (x0.length ≤ maxLen ∧ x0.length * 72 ≤ 140737488351232 ∧ ∀ x_ ∈ x0, G36 x_) → G39 x1 → (Lit.int .u32 x2).wf = true → ∃ k, law22_WatchNews.f k x0 x1.f0 x1.f1 x1.f2 x2 = some true := by
 intro l d now hl hd hn; have hn := u32_22 hn; have d0 := u16_22 hd.1; have d1 := u16_22 hd.2.1; have d2 := u16_22 hd.2.2; refine Ev.rounds (?_ : Ev (fun k => law22_WatchNews.f k l d.f0 d.f1 d.f2 now) true)
 unfold law22_WatchNews.f
 refine Ev.bind alive22 ?_; have hm := mod8 d.f0 d0; generalize Int.tmod (wrap64 d.f0) 8 = n at hm ⊢; have hwn : wrap64 now = now := wrap_id now (by omega) (by omega)
 have hw1 : wrap64 (1 + wrap64 d.f1) = 1 + d.f1 := by rw [wrap_id d.f1 (by omega) (by omega), wrap_id _ (by omega) (by omega)]
 have hw2 : wrap64 d.f2 = d.f2 := wrap_id _ (by omega) (by omega); simp only [↓reduceIte, hwn, hw1, hw2]; obtain ⟨e1, he1⟩ : ∃ e_, e_ = 1 + d.f1 := ⟨_, rfl⟩; obtain ⟨e2, he2⟩ : ∃ e_, e_ = d.f2 := ⟨_, rfl⟩; simp only [← he1, ← he2]; have hgd : GoodD n e1 e2 := ⟨hm, ⟨by omega, by omega⟩, by omega, by omega⟩; clear hw1 hw2 he1 he2; obtain ⟨o, eo, qo⟩ := out22 l now (by have := hl.2.1; omega); refine Ev.bind eo ?_
 cases o with
 | true =>
  simp only [↓reduceIte]; exact Ev.now _
 | false =>
  obtain ⟨hs, hg, h0, h1⟩ := qo rfl; simp only [Bool.false_eq_true, ↓reduceIte]
  have no : Ev (fun k => watch_Heard.f k l n e1 e2 now 50) (l, false) → Ev (fun k => (watch_Heard.f k l n e1 e2 now 50).bind fun bt105 => (if bt105.2 = true then ((watch_Heard.f k bt105.1 n e1 e2 now 50).bind fun bt110 => ((watch_Alive.f bt105.1).bind fun t114 => (law22_WatchNews.l0 k bt105.1 bt110.1 bt110.2 false t114 0 n e1 e2))) else ((ref22_Same.f k bt105.1 l).bind fun t109 => (some t109)))) true := fun h => by
   refine Ev.bind h ?_; simp only [Bool.false_eq_true, ↓reduceIte]; exact Ev.bind (same_yes hg) (Ev.now _)
  have yes : ∀ (lo hi : List X) (gaps : List Int), GoodL (lo ++ born n e1 e2 now gaps :: hi) → Ev (fun k => watch_Heard.f k l n e1 e2 now 50) (lo ++ born n e1 e2 now gaps :: hi, true) → Ev (fun k => (watch_Heard.f k l n e1 e2 now 50).bind fun bt105 => (if bt105.2 = true then ((watch_Heard.f k bt105.1 n e1 e2 now 50).bind fun bt110 => ((watch_Alive.f bt105.1).bind fun t114 => (law22_WatchNews.l0 k bt105.1 bt110.1 bt110.2 false t114 0 n e1 e2))) else ((ref22_Same.f k bt105.1 l).bind fun t109 => (some t109)))) true := fun lo hi gaps hga h => by
   refine Ev.bind h ?_; simp only [↓reduceIte]; exact news_again hga hgd
  have hw0 : GoodW now ([] : List Int) := ⟨by omega, h1, by simp, by simp⟩
  rcases parts22 hg.1 n with ⟨lo, x, hi, rfl, rfl, hlo, hhi⟩ | ⟨lo, hi, rfl, hlo, hhi⟩
  ·have hx := hg.2 x (by simp)
   rcases Int.lt_trichotomy x.f1 e1 with hlt | heq | hgt
   ·exact yes lo hi [] (good_mid (good_out hg) (good_born hgd hw0 h0) hlo hhi) (heard_birth hs hg hgd now 50 hlt h0 h1)
   ·subst heq
    by_cases hb : x.f2 < e2
    ·have := heard_same hs hg hgd now 50 hb h0 h1
     by_cases hn2 : x.f3.f0 ≤ now
     ·rw [if_pos hn2] at this; exact yes lo hi _ (good_mid (good_out hg) (good_born hgd (arr_good hx.2.2.2.2.2.2.1 h0 hn2 h1) h0) hlo hhi) this
     ·rw [if_neg hn2] at this; exact no this
    ·exact no (heard_old hs hg hgd now 50 (.inr ⟨rfl, by omega⟩))
   ·exact no (heard_old hs hg hgd now 50 (.inl hgt))
  ·exact yes lo hi [] (good_mid hg (good_born hgd hw0 h0) hlo hhi) (heard_new hs hg hgd now 50 h0 h1 hlo hhi)
end Go.Proofs.Ytoghjpoblbdnpaa.Pl

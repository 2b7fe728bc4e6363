/- Each endpoint is alive or down, and not both; who has expired is down; who goes is gone: the law's plain function answers true. No program runs here. No condition. -/
import Derived.Test.YtoghjpoblbdnpaaPlXH
import Derived.Test.YtoghjpoblbdnpaaPLaw22WatchParts
import Derived.Test.YtoghjpoblbdnpaaOps
namespace Go.Proofs.Ytoghjpoblbdnpaa.Pl
open Go.RowKit Go.Proofs.Ytoghjpoblbdnpaa.P Go.Proofs.YtoghjpoblbdnpaaW.PrintWords Go.Proofs.YtoghjpoblbdnpaaW.PrintLast Go.Proofs.YtoghjpoblbdnpaaW.PrintMore Go.Proofs.Ytoghjpoblbdnpaa.Pl09 Go.Proofs.Ytoghjpoblbdnpaa.Pl10
set_option linter.unusedSimpArgs false
set_option linter.unusedVariables false
theorem alive22 : Ev (fun k => law22_alive.f k) true := Ev.of (fun k => law22_alive.mono k) (k := 60) (by decide +kernel)
theorem u16_22 {a : Int} (h : (Lit.int .u16 a).wf = true) : 0 ≤ a ∧ a ≤ 65535 := by
 simp [Lit.wf, IntKind.min, IntKind.max, IntKind.bits, IntKind.signed] at h
 omega
theorem both22 {α : Type} (p : α → Bool) (l : List α) : (l.filter p).length + (l.filter (fun x => !p x)).length = l.length := by
 induction l with
 | nil => rfl
 | cons x l ih => cases h : p x <;> simp [h] <;> omega
theorem more22 {α : Type} (p q : α → Bool) (l : List α) (h : ∀ x ∈ l, p x = true → q x = true) : (l.filter p).length ≤ (l.filter q).length := by
 induction l with
 | nil => simp
 | cons x l ih =>
  have i := ih (fun y hy => h y (by simp [hy])); have hx := h x (by simp)
  cases hp : p x with
  | true => simp [hp, hx hp]; exact i
  | false => cases hq : q x <;> simp [hp, hq] <;> omega
theorem later22 (a f b : Int) (h0 : 0 ≤ a) (h1 : a ≤ 65535) (f0 : 0 ≤ f) (f1 : f ≤ 1099511627776) (h : wrap64 (a - f) ≥ b) : wrap64 (a + 1 - f) ≥ b := by
 rw [wrap_id _ (by omega) (by omega)] at h ⊢
 omega
theorem sum22 (a b c : Nat) (h : a + b = c) (hc : c ≤ 1000) : wrap64 ((a : Int) + (b : Int)) = (c : Int) := by
 rw [wrap_id _ (by omega) (by omega)]; omega
theorem rest22 (a b c : Nat) (h : a + b = c) (hc : c ≤ 1000) : (b : Int) = wrap64 ((c : Int) - (a : Int)) := by
 rw [wrap_id _ (by omega) (by omega)]; omega
section
variable (l : List X) (a d : List Int) (now : Int) (t0 t1 t2 : Int)
theorem parts_l1 (e pre : List Int) (v : Int) (suf : List Int) (he : e = pre ++ v :: suf) (hd : d.length ≤ 1000) (hn : Ev (fun k => law22_WatchParts.l0 k l a d now e (wrap64 ((pre.length : Nat) : Int) |> fun _ => (((pre ++ [v]).length : Nat) : Int)) t0 t1 t2) true) (hw : wrap64 (((pre.length : Nat) : Int) + 1) = (((pre ++ [v]).length : Nat) : Int)) :
  ∀ (sd pd : List Int) (b : Bool), d = pd ++ sd → (b = true ∨ v ∈ sd) → Ev (fun k => law22_WatchParts.l1 k l a d now e ((pre.length : Nat) : Int) b ((pd.length : Nat) : Int) t0 t1 t2) true := by
 intro sd
 induction sd with
 | nil =>
  intro pd b h hb; have hb : b = true := hb.elim id (fun h => by simp at h); refine Ev.step (fun k => by rw [law22_WatchParts.l1]) ?_
  have c : ¬ ((pd.length : Nat) : Int) < (d.length : Int) := by rw [h]; simp
  simp only [c, hb, ↓reduceIte, hw]; exact hn
 | cons u sd ih =>
  intro pd b h hb; refine Ev.step (fun k => by rw [law22_WatchParts.l1]) ?_
  have c : ((pd.length : Nat) : Int) < (d.length : Int) := by rw [h]; simp <;> omega
  have c0 : (0 : Int) ≤ ((pd.length : Nat) : Int) := by omega
  have c1 : (0 : Int) ≤ ((pre.length : Nat) : Int) := by omega
  have c2 : ((pre.length : Nat) : Int) < (e.length : Int) := by rw [he]; simp <;> omega
  have hl : d.length = pd.length + (sd.length + 1) := by rw [h]; simp
  have hw2 : wrap64 (((pd.length : Nat) : Int) + 1) = (((pd ++ [u]).length : Nat) : Int) := by
   rw [x_wrap _ (by omega), List.length_append]; rfl
  have e1 : d = (pd ++ [u]) ++ sd := h.trans (List.append_cons _ _ _)
  have r1 : rd d ((pd.length : Nat) : Int) = u := by rw [h]; exact rd_mid _ _ _
  have r2 : rd e ((pre.length : Nat) : Int) = v := by rw [he]; exact rd_mid _ _ _
  simp only [c, c0, c1, c2, ↓reduceIte, r1, r2, hw2]
  cases b with
  | true =>
   simp only [↓reduceIte]; exact ih (pd ++ [u]) true e1 (.inl rfl)
  | false =>
   simp only [Bool.false_eq_true, ↓reduceIte]; refine ih (pd ++ [u]) (u == v) e1 ?_
   rcases hb with hb | hb
   ·cases hb
   ·rcases List.mem_cons.1 hb with rfl | hb
    ·left; simp
    ·exact .inr hb
theorem parts_l0 (e : List Int) (hd : d.length ≤ 1000) (hel : e.length ≤ 1000) (hfin : Ev (fun k => (watch_Without.f l (Int.tmod (wrap64 (t2)) 8)).bind fun t115 => (law22_WatchParts.l2 k l a d now e t115 0 0 t0 t1 t2)) true) :
  ∀ (suf pre : List Int), e = pre ++ suf → (∀ v ∈ suf, v ∈ d) → Ev (fun k => law22_WatchParts.l0 k l a d now e ((pre.length : Nat) : Int) t0 t1 t2) true := by
 intro suf
 induction suf with
 | nil =>
  intro pre h _; refine Ev.step (fun k => by rw [law22_WatchParts.l0]) ?_
  have c : ¬ ((pre.length : Nat) : Int) < (e.length : Int) := by rw [h]; simp
  simp only [c, ↓reduceIte]; exact hfin
 | cons v suf ih =>
  intro pre h hm; refine Ev.step (fun k => by rw [law22_WatchParts.l0]) ?_
  have c : ((pre.length : Nat) : Int) < (e.length : Int) := by rw [h]; simp <;> omega
  have hl : e.length = pre.length + (suf.length + 1) := by rw [h]; simp
  simp only [c, ↓reduceIte]; exact parts_l1 l a d now t0 t1 t2 e pre v suf h hd (ih (pre ++ [v]) (h.trans (List.append_cons _ _ _)) (fun u hu => hm u (by simp [hu]))) (by rw [x_wrap _ (by omega), List.length_append]; rfl) d [] false rfl (.inr (hm v (by simp)))
theorem parts_l2 (e : List Int) (x : List X) (m : Int) (hm : Int.tmod (wrap64 (t2)) 8 = m) (hl : l.length ≤ 1000)
  (hfin : Ev (fun k => (if (wrap64 ((a.length : Int) + (d.length : Int))) = (l.length : Int) then ((watch_Expired.f l (wrap64 (now + 1)) (wrap64 (t1))).bind fun t119 => (if (e.length : Int) ≤ (t119.length : Int) then (if (x.length : Int) = (wrap64 ((l.length : Int) - ((l.filter (fun y => y.f0 == m)).length : Int))) then ((watch_Right.f k x).bind fun t122 => (some t122)) else (some false)) else (some false))) else (some false))) true) :
  ∀ (suf pre : List X), l = pre ++ suf → Ev (fun k => law22_WatchParts.l2 k l a d now e x ((pre.filter (fun y => y.f0 == m)).length : Int) ((pre.length : Nat) : Int) t0 t1 t2) true := by
 intro suf
 induction suf with
 | nil =>
  intro pre h; refine Ev.step (fun k => by rw [law22_WatchParts.l2]) ?_
  have c : ¬ ((pre.length : Nat) : Int) < (l.length : Int) := by rw [h]; simp
  have e1 : l = pre := by rw [h, List.append_nil]
  simp only [c, ↓reduceIte]; rw [← e1]; exact hfin
 | cons v suf ih =>
  intro pre h; refine Ev.step (fun k => by rw [law22_WatchParts.l2]) ?_
  have c : ((pre.length : Nat) : Int) < (l.length : Int) := by rw [h]; exact x_lt _ _ _
  have c0 : (0 : Int) ≤ ((pre.length : Nat) : Int) := by omega
  have hl2 : l.length = pre.length + (suf.length + 1) := by rw [h]; simp
  have hf : (pre.filter (fun y => y.f0 == m)).length ≤ pre.length := List.length_filter_le _ pre
  have hw : wrap64 (((pre.length : Nat) : Int) + 1) = (((pre ++ [v]).length : Nat) : Int) := by rw [x_wrap _ (by omega), List.length_append]; rfl
  have r1 : rd_T36 l ((pre.length : Nat) : Int) = v := by rw [h]; exact x_mid _ _ _
  have i := ih (pre ++ [v]) (h.trans (List.append_cons _ _ _)); simp only [c, c0, ↓reduceIte, r1, hm, hw]
  by_cases hv : v.f0 = m
  ·have hc : ((pre ++ [v]).filter (fun y => y.f0 == m)).length = (pre.filter (fun y => y.f0 == m)).length + 1 := by simp [List.filter_append, hv]
   have hw2 : wrap64 (((pre.filter (fun y => y.f0 == m)).length : Int) + 1) = (((pre ++ [v]).filter (fun y => y.f0 == m)).length : Int) := by rw [x_wrap _ (Nat.lt_of_le_of_lt hf (by omega)), hc]
   simp only [hv, ↓reduceIte, hw2]; exact i
  ·have hc : ((pre ++ [v]).filter (fun y => y.f0 == m)).length = (pre.filter (fun y => y.f0 == m)).length := by simp [List.filter_append, hv]
   simp only [hv, ↓reduceIte]; rw [hc] at i; exact i
end
theorem WatchParts : ∀ (x0 : List S36) (x1 : S39), (x0.length ≤ maxLen ∧ x0.length * 72 ≤ 140737488351232 ∧ ∀ x_ ∈ x0, G36 x_) → G39 x1 → ∃ k, law22_WatchParts.f k x0 x1.f0 x1.f1 x1.f2 = some true := by
 intro l t hl ht; have t0 := u16_22 ht.1; have t1 := u16_22 ht.2.1; have t2 := u16_22 ht.2.2; refine Ev.rounds (?_ : Ev (fun k => law22_WatchParts.f k l t.f0 t.f1 t.f2) true)
 unfold law22_WatchParts.f
 refine Ev.bind alive22 ?_; simp only [↓reduceIte]; obtain ⟨o, eo, qo⟩ := out22 l 0 (by have := hl.2.1; omega); refine Ev.bind eo ?_
 cases o with
 | true =>
  simp only [↓reduceIte]; exact Ev.now _
 | false =>
  obtain ⟨hs, hg, _, _⟩ := qo rfl; simp only [Bool.false_eq_true, ↓reduceIte]; have hlen := good_len hg; have hw0 : wrap64 t.f0 = t.f0 := wrap_id _ (by omega) (by omega); have hw1 : wrap64 t.f1 = t.f1 := wrap_id _ (by omega) (by omega); have hw3 : wrap64 (t.f0 + 1) = t.f0 + 1 := wrap_id _ (by omega) (by omega); have hA := List.length_filter_le (fun x : S36 => x.f4) l; have hD := List.length_filter_le (fun x : S36 => !x.f4) l; have hE := List.length_filter_le (fun x : S36 => !x.f4 && decide (wrap64 (t.f0 - x.f5) ≥ t.f1)) l
  have lt : l.length < 17592186044416 := by omega
  unfold watch_Alive.f watch_Down.f watch_Expired.f
  simp only [lt, ↓reduceIte, Option.bind_some, hw0, hw1]; refine parts_l0 l _ _ t.f0 t.f0 t.f1 t.f2 _ (by rw [List.length_map]; exact Nat.le_trans hD (by omega)) (by rw [List.length_map]; exact Nat.le_trans hE (by omega)) ?_ _ [] rfl (fun v hv => ?_)
  ·unfold watch_Without.f
   simp only [own22 hs, Option.bind_some]; generalize hm : Int.tmod (wrap64 t.f2) 8 = m; refine parts_l2 l _ _ t.f0 t.f0 t.f1 t.f2 _ _ m hm (by omega) ?_ l [] rfl; have hAD := both22 (fun x : S36 => x.f4) l; have hMN := both22 (fun x : S36 => x.f0 == m) l
   have c1 : wrap64 ((((l.filter (fun x => x.f4)).map (fun x => x.f0)).length : Int) + (((l.filter (fun x => !x.f4)).map (fun x => x.f0)).length : Int)) = (l.length : Int) := by
    rw [List.length_map, List.length_map]; exact sum22 _ _ _ hAD (Nat.le_trans hlen (by decide))
   have hmore := more22 (fun x : S36 => !x.f4 && decide (wrap64 (t.f0 - x.f5) ≥ t.f1)) (fun x : S36 => !x.f4 && decide (wrap64 (t.f0 + 1 - x.f5) ≥ t.f1)) l (fun x hx hp => by
    have hgx := hg.2 x hx; rw [Bool.and_eq_true, decide_eq_true_eq] at hp ⊢
    exact ⟨hp.1, later22 _ _ _ t0.1 t0.2 hgx.2.2.2.2.2.2.2.2.1 hgx.2.2.2.2.2.2.2.2.2.1 hp.2⟩)
   have c2 : (((l.filter (fun x => !x.f4 && decide (wrap64 (t.f0 - x.f5) ≥ t.f1))).map (fun x => x.f0)).length : Int) ≤ (((l.filter (fun x => !x.f4 && decide (wrap64 (t.f0 + 1 - x.f5) ≥ t.f1))).map (fun x => x.f0)).length : Int) := by
    rw [List.length_map, List.length_map]; exact Int.ofNat_le.2 hmore
   have c3 : ((l.filter (fun x => !(x.f0 == m))).length : Int) = wrap64 ((l.length : Int) - ((l.filter (fun y => y.f0 == m)).length : Int)) := by
    exact rest22 _ _ _ hMN (Nat.le_trans hlen (by decide))
   unfold watch_Expired.f
   simp only [c1, lt, ↓reduceIte, Option.bind_some, hw3, hw1, c2, c3]; have hgf : GoodL (l.filter (fun x => !(x.f0 == m))) := ⟨hg.1.filter _, fun x hx => hg.2 x (List.mem_filter.1 hx).1⟩; exact Ev.bind (wright_good (Nat.lt_of_le_of_lt (good_len hgf) (by decide)) hgf) (Ev.now _)
  ·obtain ⟨x, hx, rfl⟩ := List.mem_map.1 hv; obtain ⟨hx1, hx2⟩ := List.mem_filter.1 hx; rw [Bool.and_eq_true] at hx2; exact List.mem_map.2 ⟨x, List.mem_filter.2 ⟨hx1, hx2.1⟩, rfl⟩
end Go.Proofs.Ytoghjpoblbdnpaa.Pl

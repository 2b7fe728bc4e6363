/- Who is silent is down just when the level is above the threshold, since then, and stays so: the law's plain function answers true. No program runs here. No condition. -/
import Derived.Test.YtoghjpoblbdnpaaPlXJ
import Derived.Test.YtoghjpoblbdnpaaPLaw22WatchSilence
import Derived.Test.YtoghjpoblbdnpaaOps
namespace Go.Proofs.Ytoghjpoblbdnpaa.Pl
open Go.RowKit Go.Proofs.Ytoghjpoblbdnpaa.P Go.Proofs.YtoghjpoblbdnpaaW.PrintWords Go.Proofs.YtoghjpoblbdnpaaW.PrintLast Go.Proofs.YtoghjpoblbdnpaaW.PrintMore Go.Proofs.Ytoghjpoblbdnpaa.Pl09 Go.Proofs.Ytoghjpoblbdnpaa.Pl10
set_option linter.unusedSimpArgs false
set_option linter.unusedVariables false
theorem alive22 : Ev (fun k => law22_alive.f k) true := Ev.of (fun k => law22_alive.mono k) (k := 60) (by decide +kernel)
theorem u16_22 {a : Int} (h : (Lit.int .u16 a).wf = true) : 0 ≤ a ∧ a ≤ 65535 := by
 simp [Lit.wf, IntKind.min, IntKind.max, IntKind.bits, IntKind.signed] at h
 omega
theorem len_lt (a b : Nat) (h : a < b) : ((a : Nat) : Int) < ((b : Nat) : Int) := Int.ofNat_lt.2 h
section
variable (l : List X) (th now boot : Int)
/-- The step behind the questions. -/
theorem silence_j3 (hg : GoodL l) (h0 : 0 ≤ now) (h1 : now ≤ 65535) (hb : boot ≤ 65535) (hw2 : wrap64 th = th) (pre : List X) (x : X) (suf : List X) (hl : l = pre ++ x :: suf) (hlen : l.length ≤ 8) (c : Int) (k12 : Int)
  (hk : k12 = ((pre.length : Nat) : Int)) (hn : Ev (fun k => law22_WatchSilence.l0 k l th now boot (l.map (jx now boot th)) ((l.filter (fb now boot th)).map (fun x => x.f0)) c (((pre ++ [x]).length : Nat) : Int)) true) :
  Ev (fun k => law22_WatchSilence.j3 k l th now boot (l.map (jx now boot th)) ((l.filter (fb now boot th)).map (fun x => x.f0)) c k12 (fb now boot th x)) true := by
 subst hk; have hs := good_small hg
 have hga : ∀ y ∈ l.map (jx now boot th), GoodX y := fun y hy => by
  obtain ⟨z, hz, rfl⟩ := List.mem_map.1 hy; exact jx_good h0 (Int.le_trans h1 (by decide)) (hg.2 z hz)
 have hj := judge22 (now := now + 1) (boot := boot) (th := th) (small_map hs now boot th) hga (Int.le_trans (Int.add_le_add_right h1 1) (by decide)) (Int.le_trans hb (by decide)); have hw : wrap64 (now + 1) = now + 1 := wrap_id _ (by omega) (by omega)
 have hwn : wrap64 (((pre.length : Nat) : Int) + 1) = (((pre ++ [x]).length : Nat) : Int) := by
  have hl2 : l.length = pre.length + (suf.length + 1) := by rw [hl]; simp
  rw [x_wrap _ (by omega), List.length_append]; rfl
 refine Ev.step (fun k => by rw [law22_WatchSilence.j3]) ?_; simp only [hw, hw2]; refine Ev.bind hj ?_
 cases hfx : fb now boot th x with
 | false =>
  simp only [Bool.false_eq_true, ↓reduceIte, hwn]; exact hn
 | true =>
  have hlen2 : (((l.map (jx now boot th)).map (jx (now + 1) boot th)).length : Int) = ((l.map (jx now boot th)).length : Int) := by rw [List.length_map]
  have c0 : (0 : Int) ≤ ((pre.length : Nat) : Int) := Int.natCast_nonneg _
  have hm2 : (l.map (jx now boot th)).map (jx (now + 1) boot th) = (pre.map (jx now boot th)).map (jx (now + 1) boot th) ++ jx (now + 1) boot th (jx now boot th x) :: (suf.map (jx now boot th)).map (jx (now + 1) boot th) := by rw [hl]; simp
  have hpl : pre.length = ((pre.map (jx now boot th)).map (jx (now + 1) boot th)).length := by simp
  have c1 : ((pre.length : Nat) : Int) < (((l.map (jx now boot th)).map (jx (now + 1) boot th)).length : Int) := by
   rw [List.length_map, List.length_map, hl]; exact x_lt _ _ _
  have hr : rd_T36 ((l.map (jx now boot th)).map (jx (now + 1) boot th)) ((pre.length : Nat) : Int) = jx (now + 1) boot th (jx now boot th x) := by
   rw [hm2, hpl]; exact x_mid _ _ _
  have hd := jx_down now boot th hfx; have hr2 : jx (now + 1) boot th (jx now boot th x) = jx now boot th x := jx_same _ _ _ (fb_down _ _ _ hd)
  have hne : ((l.map (jx now boot th)).filter (fb (now + 1) boot th)).map (fun x => x.f0) ≠ (l.filter (fb now boot th)).map (fun x => x.f0) := by
   intro he
   have hxm : x ∈ l := by rw [hl]; simp
   have hx1 : x.f0 ∈ (l.filter (fb now boot th)).map (fun x => x.f0) := List.mem_map.2 ⟨x, List.mem_filter.2 ⟨hxm, hfx⟩, rfl⟩; rw [← he] at hx1; obtain ⟨y, hy, hyf⟩ := List.mem_map.1 hx1; obtain ⟨hy1, hy2⟩ := List.mem_filter.1 hy; obtain ⟨z, hz, rfl⟩ := List.mem_map.1 hy1; rw [jx_f0] at hyf; obtain rfl := uniq22 hg.1 hz hxm hyf; rw [fb_down _ _ _ hd] at hy2; cases hy2
  have hle := List.length_filter_le (fb (now + 1) boot th) (l.map (jx now boot th)); rw [List.length_map] at hle; have hi := ints (((l.map (jx now boot th)).filter (fb (now + 1) boot th)).map (fun x => x.f0)) ((l.filter (fb now boot th)).map (fun x => x.f0)) (by rw [List.length_map]; exact Nat.lt_of_le_of_lt (Nat.le_trans hle hlen) (by decide)); rw [decide_eq_false hne] at hi
  have c2 : ((pre.length : Nat) : Int) < ((l.map (jx now boot th)).length : Int) := by rw [List.length_map, hl]; exact x_lt _ _ _
  simp only [↓reduceIte, hlen2, c0, c1, c2, hr, hr2, hd, Bool.false_eq_true]; refine Ev.bind hi ?_; simp only [Bool.false_eq_true, ↓reduceIte, hwn]; exact hn
theorem silence_l0 (hg : GoodL l) (h0 : 0 ≤ now) (h1 : now ≤ 65535) (hb : boot ≤ 65535) (hw2 : wrap64 th = th) (hlen : l.length ≤ 8) :
  ∀ (suf pre : List X), l = pre ++ suf → Ev (fun k => law22_WatchSilence.l0 k l th now boot (l.map (jx now boot th)) ((l.filter (fb now boot th)).map (fun x => x.f0)) ((pre.filter (fb now boot th)).length : Int) ((pre.length : Nat) : Int)) true := by
 intro suf
 induction suf with
 | nil =>
  intro pre hl; refine Ev.step (fun k => by rw [law22_WatchSilence.l0]) ?_
  have c : ¬ ((pre.length : Nat) : Int) < (l.length : Int) := by rw [hl]; simp
  have e : l = pre := by rw [hl, List.append_nil]
  simp only [c, ↓reduceIte]; rw [List.length_map, e, beq_self_eq_true]; exact Ev.now _
 | cons x suf ih =>
  intro pre hl; have i := ih (pre ++ [x]) (hl.trans (List.append_cons _ _ _)); have hx := hg.2 x (by rw [hl]; simp)
  have c : ((pre.length : Nat) : Int) < (l.length : Int) := by rw [hl]; exact x_lt _ _ _
  have ca : ((pre.length : Nat) : Int) < ((l.map (jx now boot th)).length : Int) := by rw [List.length_map]; exact c
  have c0 : (0 : Int) ≤ ((pre.length : Nat) : Int) := Int.natCast_nonneg _
  have r1 : rd_T36 l ((pre.length : Nat) : Int) = x := by rw [hl]; exact x_mid _ _ _
  have r2 : rd_T36 (l.map (jx now boot th)) ((pre.length : Nat) : Int) = jx now boot th x := by
   rw [hl, List.map_append, List.map_cons, show pre.length = (pre.map (jx now boot th)).length from by simp]; exact x_mid _ _ _
  have hlv := ref_level_any hx.2.2.2.2.2.2.1 hx.2.2.2.2.2.2.2.1 now boot h0 (Int.le_trans h1 (by decide)) (Int.le_trans hb (by decide))
  -- behind the question whether x falls
  have main : Ev (fun k => law22_WatchSilence.j1 k l th now boot (l.map (jx now boot th)) ((l.filter (fb now boot th)).map (fun x => x.f0)) ((pre.filter (fb now boot th)).length : Int) ((pre.length : Nat) : Int) (fb now boot th x)) true := by
   have hpf := List.length_filter_le (fb now boot th) pre
   have hpl : pre.length ≤ 8 := by have hl2 : l.length = pre.length + (suf.length + 1) := (by rw [hl]; simp); omega
   have j2 : ∀ c' : Int, c' = (((pre ++ [x]).filter (fb now boot th)).length : Int) → (if fb now boot th x = true then wrap64 (((pre.filter (fb now boot th)).length : Int) + 1) else ((pre.filter (fb now boot th)).length : Int)) = c' → Ev (fun k => law22_WatchSilence.j2 k l th now boot (l.map (jx now boot th)) ((l.filter (fb now boot th)).map (fun x => x.f0)) ((pre.filter (fb now boot th)).length : Int) ((pre.length : Nat) : Int) (fb now boot th x) false) true := by
    intro c' hc' hc2; have hj3 := silence_j3 l th now boot hg h0 h1 hb hw2 pre x suf hl hlen c' _ rfl (by rw [hc']; exact i); refine Ev.step (fun k => by rw [law22_WatchSilence.j2]) ?_; simp only [Bool.false_eq_true, ↓reduceIte]
    cases hfx : fb now boot th x with
    | true => rw [hfx] at hj3 hc2; rw [if_pos rfl] at hc2; simp only [↓reduceIte, hc2]; exact hj3
    | false => rw [hfx] at hj3 hc2; rw [if_neg (by decide)] at hc2; simp only [Bool.false_eq_true, ↓reduceIte, hc2]; exact hj3
   refine Ev.step (fun k => by rw [law22_WatchSilence.j1]) ?_; simp only [c0, c, ca, ↓reduceIte, r1, r2]
   cases hfx : fb now boot th x with
   | true =>
    have hal : x.f4 = true := by
     cases h : x.f4 with
     | true => rfl
     | false => rw [fb_down _ _ _ h] at hfx; cases hfx
    have hcn : (((pre ++ [x]).filter (fb now boot th)).length : Int) = ((pre.filter (fb now boot th)).length : Int) + 1 := by rw [List.filter_append, List.length_append, List.filter_cons, if_pos hfx]; simp
    have hgone : (l.filter (fb now boot th)).map (fun x => x.f0) = (pre.filter (fb now boot th)).map (fun x => x.f0) ++ x.f0 :: (suf.filter (fb now boot th)).map (fun x => x.f0) := by rw [hl, List.filter_append, List.filter_cons, if_pos hfx]; simp
    have hpl2 : (pre.filter (fb now boot th)).length = ((pre.filter (fb now boot th)).map (fun x : X => x.f0)).length := by simp
    have g1 : ((pre.filter (fb now boot th)).length : Int) < (((l.filter (fb now boot th)).map (fun x => x.f0)).length : Int) := by rw [hgone, hpl2]; simp <;> omega
    have g2 : rd ((l.filter (fb now boot th)).map (fun x => x.f0)) ((pre.filter (fb now boot th)).length : Int) = x.f0 := by rw [hgone, hpl2]; exact rd_mid _ _ _
    have g0 : (0 : Int) ≤ ((pre.filter (fb now boot th)).length : Int) := Int.natCast_nonneg _
    have g3 : ¬ ((pre.filter (fb now boot th)).length : Int) ≥ (((l.filter (fb now boot th)).map (fun x => x.f0)).length : Int) := by omega
    have hd := jx_down now boot th hfx; have hsn := jx_since now boot th hfx; have hgo := j2 _ rfl (by rw [if_pos hfx, hcn]; exact wrap_id _ (by omega) (by omega)); rw [hfx] at hgo; simp only [hal, hd, ↓reduceIte, Bool.not_true, bne_self_eq_false, Bool.false_eq_true, g0, g1, g2, g3, hsn]; exact hgo
   | false =>
    have hcn : (((pre ++ [x]).filter (fb now boot th)).length : Int) = ((pre.filter (fb now boot th)).length : Int) := by rw [List.filter_append, List.length_append, List.filter_cons, if_neg (by rw [hfx]; decide)]; simp
    have hgo := j2 _ rfl (by rw [if_neg (by rw [hfx]; decide), hcn]); rw [hfx] at hgo; rw [jx_same now boot th hfx]
    cases hal : x.f4 with
    | true => simp only [↓reduceIte, Bool.not_false, bne_self_eq_false, Bool.false_eq_true]; exact hgo
    | false => simp only [↓reduceIte, bne_self_eq_false, Bool.false_eq_true]; exact hgo
  refine Ev.step (fun k => by rw [law22_WatchSilence.l0]) ?_; simp only [c, c0, ↓reduceIte, r1, hw2]; refine Ev.bind hlv ?_
  unfold fb at main
  cases hal : x.f4 with
  | false =>
   simp only [Bool.false_eq_true, ↓reduceIte]; rw [hal, Bool.false_and] at main; exact main
  | true =>
   rw [hal, Bool.true_and] at main; simp only [↓reduceIte]
   by_cases hz : (lv x.f3.f0 x.f3.f1 now boot).2 = 0
   ·simp only [hz, ↓reduceIte]; rw [show decide ((lv x.f3.f0 x.f3.f1 now boot).2 = 0 ∧ (lv x.f3.f0 x.f3.f1 now boot).1 > th) = decide ((lv x.f3.f0 x.f3.f1 now boot).1 > th) from decide_eq_decide.2 ⟨fun h => h.2, fun h => ⟨hz, h⟩⟩] at main; exact main
   ·simp only [hz, ↓reduceIte]; rw [show decide ((lv x.f3.f0 x.f3.f1 now boot).2 = 0 ∧ (lv x.f3.f0 x.f3.f1 now boot).1 > th) = false from decide_eq_false (fun h => hz h.1)] at main; exact main
end
theorem WatchSilence : ∀ (x0 : List S36) (x1 : S24) (x2 : Int), (x0.length ≤ maxLen ∧ x0.length * 72 ≤ 140737488351232 ∧ ∀ x_ ∈ x0, G36 x_) → G24 x1 → (Lit.int .u16 x2).wf = true → ∃ k, law22_WatchSilence.f k x0 x1.f0 x1.f1 x2 = some true := by
 intro l two th hl ht hth; have t0 := u16_22 ht.1; have t1 := u16_22 ht.2; have t2 := u16_22 hth; refine Ev.rounds (?_ : Ev (fun k => law22_WatchSilence.f k l two.f0 two.f1 th) true)
 unfold law22_WatchSilence.f
 refine Ev.bind alive22 ?_; simp only [↓reduceIte]; obtain ⟨o, eo, qo⟩ := out22 l 0 (by have := hl.2.1; omega); refine Ev.bind eo ?_
 cases o with
 | true =>
  simp only [↓reduceIte]; exact Ev.now _
 | false =>
  obtain ⟨hs, hg, _, _⟩ := qo rfl; have hw0 : wrap64 two.f0 = two.f0 := wrap_id _ (by omega) (by omega); have hw1 : wrap64 two.f1 = two.f1 := wrap_id _ (by omega) (by omega); have hw2 : wrap64 th = th := wrap_id _ (by omega) (by omega); simp only [Bool.false_eq_true, ↓reduceIte, hw0, hw1, hw2]; refine Ev.bind (judge22 (now := two.f0) (boot := two.f1) (th := th) hs hg.2 (by omega) (by omega)) ?_
  have hlen : ((l.map (jx two.f0 two.f1 th)).length : Int) = (l.length : Int) := by rw [List.length_map]
  simp only [hlen, ↓reduceIte]; exact silence_l0 l th two.f0 two.f1 hg t0.1 t0.2 t1.2 hw2 (good_len hg) l [] rfl
end Go.Proofs.Ytoghjpoblbdnpaa.Pl

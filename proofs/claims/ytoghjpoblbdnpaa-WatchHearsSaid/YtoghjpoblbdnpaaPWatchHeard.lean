/- What printed functions come to, and that the machine's calls do it. No condition. -/
import Derived.Test.YtoghjpoblbdnpaaPRef22Without
import Derived.Test.YtoghjpoblbdnpaaPApiWatch44
import Derived.Test.YtoghjpoblbdnpaaPRef22Copy
import Derived.Test.YtoghjpoblbdnpaaPWatchWithout
namespace Go.Proofs.Ytoghjpoblbdnpaa.P
set_option maxHeartbeats 16000000
set_option maxRecDepth 100000
open Go.RowKit Go.Proofs.YtoghjpoblbdnpaaW.PrintWords Go.Proofs.YtoghjpoblbdnpaaW.PrintLast Go.Proofs.YtoghjpoblbdnpaaW.PrintMore
attribute [local go_sem] qt_ qr_ qx_ qw_ qn_ qm_ qs_ qq_ Go.Proofs.YtoghjpoblbdnpaaW.Hw.string_gtr
set_option linter.unusedVariables false
set_option linter.unusedSimpArgs false
/-- What is put in place of an endpoint's watch, when its window takes what came. -/
def watch_Heard.put (k : Nat) (l m : List S36) (i : Int) (d0 d1 d2 : Int) (w0 : Int) (wl : List Int) (now most : Int) : Option (List S36 × Bool) :=
 (window_Arrive.f k w0 wl now most).bind fun x => if x.2.2 = 0 then some (m.set i.toNat ⟨d0, d1, d2, ⟨x.1, x.2.1⟩, true, 0⟩, true) else some (l, false)
def watch_Heard.known (k : Nat) (l : List S36) (i : Int) (d0 d1 d2 : Int) (now most : Int) : Option (List S36 × Bool) :=
 if (rd_T36 l i).f1 > d1 then some (l, false) else if (rd_T36 l i).f1 = d1 then (if (rd_T36 l i).f2 ≥ d2 then some (l, false) else watch_Heard.put k l l i d0 d1 d2 (rd_T36 l i).f3.f0 (rd_T36 l i).f3.f1 now most) else watch_Heard.put k l l i d0 d1 d2 (-1) [] now most
def watch_Heard.f (k : Nat) (l0 : List S36) (aF : Int) (aB : Int) (aE : Int) (a2 : Int) (a3 : Int) : Option (List S36 × Bool) :=
 (watch_own.f l0).bind fun l => (digest_Right.f k [(⟨aF, aB, aE⟩ : S42)]).bind fun g => if g = true then (watch_place.f l aF).bind fun p => (if p.2 = true then watch_Heard.known k l p.1 aF aB aE a2 a3
  else if l.length < 1099511627776 then watch_Heard.put k l (l.take p.1.toNat ++ [z36] ++ l.drop p.1.toNat) p.1 aF aB aE (-1) [] a2 a3 else none) else some (l, false)
theorem watch_Heard.put_mono (l m : List S36) (i d0 d1 d2 w0 : Int) (wl : List Int) (now most : Int) (k : Nat) : LeO (watch_Heard.put k l m i d0 d1 d2 w0 wl now most) (watch_Heard.put (k + 1) l m i d0 d1 d2 w0 wl now most) := by
 unfold watch_Heard.put
 exact LeO.bind (window_Arrive.mono _ _ _ _ _) (fun _ => LeO.refl _)
theorem watch_Heard.mono : ∀ a0 a1 a2 a3 a4 a5 k, LeO (watch_Heard.f k a0 a1 a2 a3 a4 a5) (watch_Heard.f (k + 1) a0 a1 a2 a3 a4 a5) := by
 intro a0 a1 a2 a3 a4 a5 k
 unfold watch_Heard.f watch_Heard.known
 exact LeO.bind (LeO.refl _) (fun _ => LeO.bind (digest_Right.mono _ _) (fun _ => LeO.ite (LeO.bind (LeO.refl _) (fun _ => LeO.ite (LeO.ite (LeO.refl _) (LeO.ite (LeO.ite (LeO.refl _) (watch_Heard.put_mono _ _ _ _ _ _ _ _ _ _ _)) (watch_Heard.put_mono _ _ _ _ _ _ _ _ _ _ _))) (LeO.ite (watch_Heard.put_mono _ _ _ _ _ _ _ _ _ _ _) (LeO.refl _)))) (LeO.refl _)))
theorem halveX_le (less : Nat → Bool) : ∀ (f lo hi : Nat), lo ≤ hi → halveX less f lo hi ≤ hi
 | 0, lo, hi, h => by simpa [halveX] using h
 | f + 1, lo, hi, h => by
  unfold halveX
  split
  ·split
   ·exact halveX_le less f _ _ (by omega)
   ·exact Nat.le_trans (halveX_le less f _ _ (by omega)) (by omega)
  ·exact h
/-- What watch.place answers: a place in the list, or behind it. -/
theorem watch_Heard.place_in {l : List S36} {n r1 : Int} {r2 : Bool} (h : watch_place.f l n = some (r1, r2)) : ∃ p : Nat, r1 = (p : Int) ∧ p ≤ l.length ∧ (r2 = true → p < l.length) ∧ l.length < 1954687338268 := by
 unfold watch_place.f at h
 by_cases hl : l.length < 1954687338268
 ·rw [if_pos hl] at h; have e := Option.some.inj h; refine ⟨watch_place.at l n, (congrArg Prod.fst e).symm, halveX_le _ _ _ _ (Nat.zero_le _), fun ht => ?_, hl⟩; have e2 : (decide (watch_place.at l n < l.length) && decide (wrap64 ((l.getD (watch_place.at l n) z36).f0 - n) = 0)) = r2 := congrArg Prod.snd e; rw [ht, Bool.and_eq_true] at e2; exact of_decide_eq_true e2.1
 ·rw [if_neg hl] at h; cases h
/-- A literal of one digest. -/
theorem watch_Heard.litC {W : World} {g : Nat} {t : TypeId} (d0 d1 d2 : Int) (hb : W.heap[g]? = some (.cells #[.int .i64 d0, .int .i64 d1, .int .i64 d2] t (0, 0))) : Kd.C k42 W (some ⟨g, 0, none⟩) 1 [⟨d0, d1, d2⟩] :=
 ⟨rfl, by simp, fun _ => ⟨_, rfl, fun j p hj => by
  match j, hj with
  | 0, hj =>
   obtain rfl : (⟨d0, d1, d2⟩ : S42) = p := by simpa using hj
   refine ⟨[.int .i64 d0, .int .i64 d1, .int .i64 d2], rfl, k42_mk W ⟨d0, d1, d2⟩, fun i u hu => ?_⟩; rw [Nat.zero_mul, Nat.zero_add, add_at, Nat.zero_add, World.cell?]
   dsimp only
   rw [hb]
   simpa using hu
  | j + 1, hj => simp at hj⟩⟩
/-- How the window's box lies behind watch.place. -/
def watch_Heard.St (P0_ : Nat → Prop) (w wp W : World) (g12 : Nat) (ob : Option Nat) (w0 : Int) (v : Value) (wl : List Int) : Prop :=
 W.heap[g12]? = some (.cells #[.int .i64 w0, v] 34 (0, 0)) ∧ wp.heap.size ≤ g12 ∧ Kd.V (Kd.int .i64) 3 W w.heap.size (fun k_ => ((P0_ k_ ∨ w.heap.size ≤ k_) ∧ some k_ ≠ ob) ∧ k_ ≠ g12) v wl ∧ Below wp.heap.size wp W
theorem watch_Heard.far2 {W : World} {b : Nat} {ok : Nat → Prop} {v : Value} {xs : List Int} (g : Nat) (h : Kd.V (Kd.int .i64) 3 W b ok v xs) (hne : ∀ k_, ok k_ → k_ ≠ g) (x y : Value) : Kd.V (Kd.int .i64) 3 ((W.setCell ⟨g, 0, none⟩ x).setCell ⟨g, 1, none⟩ y) b ok v xs :=
 Kd.V_step h (fun k_ hk _ => (Below.heap_setCell _ _ _ _ (hne k_ hk)).trans (Below.heap_setCell _ _ _ _ (hne k_ hk)))
theorem watch_Heard.St.step {P0_ : Nat → Prop} {w wp W W' : World} {g12 : Nat} {ob : Option Nat} {w0 : Int} {v : Value} {wl : List Int} (h : watch_Heard.St P0_ w wp W g12 ob w0 v wl) (hb : Below W.heap.size W W') : watch_Heard.St P0_ w wp W' g12 ob w0 v wl :=
 ⟨Go.Proofs.YtoghjpoblbdnpaaW.Hw.blk_bel h.1 hb, h.2.1, Kd.V_below h.2.2.1 hb, qe_ h.2.2.2 hb⟩
open Go.Proofs.YtoghjpoblbdnpaaW.Hw in
theorem watch_Heard.St.set {P0_ : Nat → Prop} {w wp W : World} {g12 : Nat} {ob : Option Nat} {w0 : Int} {v : Value} {wl : List Int} (h : watch_Heard.St P0_ w wp W g12 ob w0 v wl) (w1 : Int) {v' : Value} {wl' : List Int} (hv : Kd.V (Kd.int .i64) 3 W w.heap.size (fun k_ => ((P0_ k_ ∨ w.heap.size ≤ k_) ∧ some k_ ≠ ob) ∧ k_ ≠ g12) v' wl') :
  watch_Heard.St P0_ w wp ((W.setCell ⟨g12, 0, none⟩ (.int .i64 w1)).setCell ⟨g12, 1, none⟩ v') g12 ob w1 v' wl' :=
 ⟨qv_ (qv_ h.1 0 _) 1 _, h.2.1, watch_Heard.far2 g12 hv (fun _ hk => hk.2) _ _, qj_ (qj_ h.2.2.2 h.2.1) h.2.1⟩
open Go.Proofs.YtoghjpoblbdnpaaW.Hw in
/-- What is new to W touches neither the box nor the list. -/
theorem watch_Heard.St.news {P0_ : Nat → Prop} {w wp W W' : World} {g12 : Nat} {ob : Option Nat} {w0 : Int} {v : Value} {wl : List Int} (h : watch_Heard.St P0_ w wp W g12 ob w0 v wl) (hw : w.heap.size ≤ wp.heap.size) (ho : ∀ k_, ob = some k_ → k_ < wp.heap.size) {v' : Value} {xs : List Int}
  (hv : Kd.V (Kd.int .i64) 3 W' W.heap.size (fun k_ => (((P0_ k_ ∨ w.heap.size ≤ k_) ∧ some k_ ≠ ob) ∧ k_ ≠ g12) ∨ W.heap.size ≤ k_) v' xs) : Kd.V (Kd.int .i64) 3 W' w.heap.size (fun k_ => ((P0_ k_ ∨ w.heap.size ≤ k_) ∧ some k_ ≠ ob) ∧ k_ ≠ g12) v' xs := by
 have hz := h.2.2.2.size; have hl := blk_lt h.1; refine Kd.V_mono (Kd.V_lower hv (Nat.le_trans hw hz)) (fun k_ hk => hk.elim id (fun hk => ⟨⟨.inr (Nat.le_trans hw (Nat.le_trans hz hk)), fun e_ => ?_⟩, Nat.ne_of_gt (Nat.lt_of_lt_of_le hl hk)⟩)); exact Nat.lt_irrefl _ (Nat.lt_of_lt_of_le (ho k_ e_.symm) (Nat.le_trans hz hk))
open Go.Proofs.YtoghjpoblbdnpaaW.Hw in
theorem watch_Heard.St.fresh {P0_ : Nat → Prop} {w wp wn W : World} {g12 : Nat} {ob : Option Nat} {a b vn : Value} (hw : w.heap.size ≤ wp.heap.size) (ho : ∀ k_, ob = some k_ → k_ < wp.heap.size) (hn : Kd.R (Kd.int .i64) 3 wn wp.heap.size (fun _ => True) vn []) (hbn : Below wp.heap.size wp wn)
  (hb : W.heap[g12]? = some (.cells #[a, b] 34 (0, 0))) (hg : wn.heap.size ≤ g12) (hbx : Below wn.heap.size wn W) :
  watch_Heard.St P0_ w wp ((W.setCell ⟨g12, 0, none⟩ (.int .i64 (-1))).setCell ⟨g12, 1, none⟩ vn) g12 ob (-1) vn [] := by
 have hge := Nat.le_trans hbn.size hg; refine ⟨qv_ (qv_ hb 0 _) 1 _, hge, ?_, qj_ (qj_ (qe_ hbn hbx) hge) hge⟩; have hV := Kd.V_below (Kd.V_bound (Kd.V_mono (Kd.R_V (base' := w.heap.size) (Kd.R_tight rfl hn)) (ok' := fun k_ => wp.heap.size ≤ k_) (fun k_ hk => Kd.R_base hn k_ hk.symm))) hbx; refine Kd.V_mono (watch_Heard.far2 g12 hV (fun k_ hk => Nat.ne_of_lt (Nat.lt_of_lt_of_le hk.2 hg)) _ _) (fun k_ hk => ⟨⟨.inr (Nat.le_trans hw hk.1), fun e_ => ?_⟩, Nat.ne_of_lt (Nat.lt_of_lt_of_le hk.2 hg)⟩); exact Nat.lt_irrefl _ (Nat.lt_of_lt_of_le (ho k_ e_.symm) hk.1)
/-- The window's row behind the inserting. -/
theorem watch_Heard.V_ins {P0_ : Nat → Prop} {w wp W wi : World} {g12 : Nat} {ob : Option Nat} {w0 : Int} {v u u1 : Value} {wl : List Int} (h : watch_Heard.St P0_ w wp W g12 ob w0 v wl) (ho : ob = u.ownBlock) (hg : W.grownBy wi u.ownBlock) (hat : u1.ownBlock = u.ownBlock ∨ ∃ b, u1.ownBlock = some b ∧ W.heap.size ≤ b) :
  Kd.V (Kd.int .i64) 3 wi w.heap.size (fun k_ => (P0_ k_ ∨ w.heap.size ≤ k_) ∧ some k_ ≠ u1.ownBlock) v wl := by
 refine Kd.V_mono (Kd.V_step (Kd.V_bound h.2.2.1) (fun k_ hk hlt => hg.block k_ hlt (by rw [← ho]; exact hk.1.1.2))) (fun k_ hk => ⟨hk.1.1.1, fun e_ => ?_⟩)
 rcases hat with e2 | ⟨b, e2, hb⟩
 ·exact hk.1.1.2 (by rw [ho, ← e2]; exact e_)
 ·rw [e2] at e_; obtain rfl := Option.some.inj e_; exact Nat.lt_irrefl _ (Nat.lt_of_lt_of_le hk.2 hb)
open Go.Proofs.YtoghjpoblbdnpaaW.Hw in
theorem watch_Heard.calls (k : Nat) (P0_ : Nat → Prop) (A0 : Option Addr) (c0 : Nat) (l0 : List S36) (aF : Int) (aB : Int) (aE : Int) (a2 : Int) (a3 : Int) (r1 : List S36) (r2 : Bool) (w : World) (hs0 : Kd.V k36 36 w w.heap.size (fun k_ => P0_ k_) (.slice A0 l0.length c0) l0) (h : watch_Heard.f k l0 aF aB aE a2 a3 = some (r1, r2)) :
  Calls Try.prog 13 #[.slice A0 l0.length c0, .agg #[.int .i64 aF, .int .i64 aB, .int .i64 aE], .int .i64 a2, .int .i64 a3] w fun e w' => ∃ v0_ : Value, e = .returned (.tuple #[v0_, .bool r2]) ∧ Kd.N k36 36 w' w.heap.size (fun k_ => (P0_ k_ ∨ w.heap.size ≤ k_)) v0_ r1 ∧ Below w.heap.size w w' := by
 have hu34 := Try.underlying34; have hu36 := Try.underlying36; have hu42 := Try.underlying42
 unfold watch_Heard.f at h
 obtain ⟨l, h1, h2⟩ := Option.bind_eq_some_iff.1 h; clear h; obtain ⟨g, h3, h⟩ := Option.bind_eq_some_iff.1 h2; clear h2; have A1 := Zq_.mk h1; have A2 := Zq_.mk h3; have HV := Zq_.mk hs0; clear h1 h3 hs0; have HB := Zq_.mk (Below.refl w.heap.size w)
 cases g with
 | false =>
  rw [if_neg (by decide)] at h; have e := Option.some.inj h; obtain ⟨rfl, rfl⟩ : l = r1 ∧ false = r2 := ⟨congrArg Prod.fst e, congrArg Prod.snd e⟩; clear h e
  go_enter Try.func13, Try.ntmps13
  go_wp2_with (first | ((with_reducible refine qc_ (N := 5) rfl ?_); (try (refine qo_ (by rfl) ?_; dsimp only)); refine bE_ 5 #[.int .i64 aF, .int .i64 aB, .int .i64 aE] 42 ?_; intro aD hg_ aK hbox_ hb_; have n0_ := Zq_.mk (qe_ (hB_ HB) hb_); have bL := Zq_.mk ((by rw [hg_]; exact (qb_ (hB_ HB)) : w.heap.size ≤ aD)); have n1_ := Zq_.mk (hbox_); clear HB; have HB := n0_; have aA := n1_; clear n0_ n1_; clear hb_ hbox_ hg_; obtain ⟨aQ, aP, aO⟩ := c3_ aA; obtain ⟨aN, aM, aL⟩ := f3_ aA) | (go_at_call 25; refine (watch_own.calls P0_ A0 c0 l0 l _ (show Kd.V k36 36 aK aK.heap.size (fun k_ => P0_ k_) _ l0 from Kd.V_below HV.out HB.out) A1.out).mono ?_; rintro e w5 ⟨v5, rfl, hn_, hb_⟩; obtain ⟨A5, c5, rfl⟩ := Kd.vp_ hn_; have HN := Zq_.mk (Kd.N_mono (Kd.vi_ hn_ HB.out.size) (ok' := fun k_ => P0_ k_ ∨ w.heap.size ≤ k_) (fun k_ hk => hk.imp id (fun h_ => Nat.le_trans HB.out.size h_))); clear hn_; have n0_ := Zq_.mk (qe_ (hB_ HB) hb_); have m101_ := Zq_.mk (blk_bel (by exact bK_ aA) hb_); clear HB; have HB := n0_; clear n0_; clear aA; have aA := m101_; clear m101_; clear hb_; have hcw5_101_0 : w5.cell? ⟨aD, 0, none⟩ = some (.int .i64 aF) := (qa_ aA.out 0).trans rfl; have hcw5_101_1 : w5.cell? ⟨aD, 1, none⟩ = some (.int .i64 aB) := (qa_ aA.out 1).trans rfl; have hcw5_101_2 : w5.cell? ⟨aD, 2, none⟩ = some (.int .i64 aE) := (qa_ aA.out 2).trans rfl) | ((with_reducible refine qc_ (N := 18) rfl ?_); refine lit_event (n := 1) ?hg (N := 18) ?hd (cs := #[.int .i64 aF, .int .i64 aB, .int .i64 aE]) (t := 42) ?hr ?_; (case hd => rfl); (case hg => rfl); (case hr => first | (go_simp; done) | (go_simp; rfl)); intro gl hg_ wl hbox_ hb_; have BKL := Zq_.mk hbox_; have n9_ := Zq_.mk (Kd.va_ HN.out hb_); clear HN; have HN := n9_; clear n9_ hbox_ hg_; have n0_ := Zq_.mk (qe_ (hB_ HB) hb_); have m101_ := Zq_.mk (blk_bel (by exact bK_ aA) hb_); clear HB; have HB := n0_; clear n0_; clear aA; have aA := m101_; clear m101_; clear hb_) | (go_at_call 31; refine (digest_Right.calls k (some ⟨gl, 0, none⟩) 1 [⟨aF, aB, aE⟩] false _ (watch_Heard.litC aF aB aE BKL.out) (Nat.le_refl 1) A2.out).mono ?_; rintro e w6 ⟨rfl, hb_⟩; have n9_ := Zq_.mk (Kd.va_ HN.out hb_); clear HN BKL; have HN := n9_; clear n9_; have n0_ := Zq_.mk (qe_ (hB_ HB) hb_); have m101_ := Zq_.mk (blk_bel (by exact bK_ aA) hb_); clear HB; have HB := n0_; clear n0_; clear aA; have aA := m101_; clear m101_; clear hb_; have hcw6_101_0 : w6.cell? ⟨aD, 0, none⟩ = some (.int .i64 aF) := (qa_ aA.out 0).trans rfl; have hcw6_101_1 : w6.cell? ⟨aD, 1, none⟩ = some (.int .i64 aB) := (qa_ aA.out 1).trans rfl; have hcw6_101_2 : w6.cell? ⟨aD, 2, none⟩ = some (.int .i64 aE) := (qa_ aA.out 2).trans rfl))
  go_ret2
  exact ⟨_, rfl, HN.out, HB.out⟩
 | true =>
  rw [if_pos rfl] at h; obtain ⟨⟨pi, kn⟩, h5, h6⟩ := Option.bind_eq_some_iff.1 h; clear h
  dsimp only at h6
  obtain ⟨p, rfl, hp, hkp, hlm⟩ := watch_Heard.place_in h5; have A3 := Zq_.mk h5; have HP := Zq_.mk hp; have HKP := Zq_.mk hkp; have HLM := Zq_.mk hlm; have H6 := Zq_.mk h6; obtain ⟨m, hm⟩ : ∃ m_, m_ = (if kn = true then l else l.take p ++ [z36] ++ l.drop p) := ⟨_, rfl⟩; have HM := Zq_.mk hm
  have HML := Zq_.mk (show p < m.length from by
   rw [hm]
   cases kn with
   | true => rw [if_pos rfl]; exact hkp rfl
   | false => rw [if_neg (by decide)]; simp only [List.length_append, List.length_take, List.length_drop, List.length_cons, List.length_nil]; omega)
  have HL40 := Zq_.mk (show kn = false → l.length < 1099511627776 from fun e_ => by
   rw [e_, if_neg (by decide)] at h6
   by_cases hl : l.length < 1099511627776
   ·exact hl
   ·rw [if_neg hl] at h6; cases h6)
  clear h5 h6 hp hkp hlm hm
  go_enter Try.func13, Try.ntmps13
  go_upto_region 6 with (first | ((with_reducible refine qc_ (N := 5) rfl ?_); (try (refine qo_ (by rfl) ?_; dsimp only)); refine bE_ 5 #[.int .i64 aF, .int .i64 aB, .int .i64 aE] 42 ?_; intro aD hg_ aK hbox_ hb_; have n0_ := Zq_.mk (qe_ (hB_ HB) hb_); have bL := Zq_.mk ((by rw [hg_]; exact (qb_ (hB_ HB)) : w.heap.size ≤ aD)); have n1_ := Zq_.mk (hbox_); clear HB; have HB := n0_; have aA := n1_; clear n0_ n1_; clear hb_ hbox_ hg_; obtain ⟨aQ, aP, aO⟩ := c3_ aA; obtain ⟨aN, aM, aL⟩ := f3_ aA) | (go_at_call 25; refine (watch_own.calls P0_ A0 c0 l0 l _ (show Kd.V k36 36 aK aK.heap.size (fun k_ => P0_ k_) _ l0 from Kd.V_below HV.out HB.out) A1.out).mono ?_; rintro e w5 ⟨v5, rfl, hn_, hb_⟩; obtain ⟨A5, c5, rfl⟩ := Kd.vp_ hn_; have HN := Zq_.mk (Kd.N_mono (Kd.vi_ hn_ HB.out.size) (ok' := fun k_ => P0_ k_ ∨ w.heap.size ≤ k_) (fun k_ hk => hk.imp id (fun h_ => Nat.le_trans HB.out.size h_))); clear hn_; have n0_ := Zq_.mk (qe_ (hB_ HB) hb_); have m101_ := Zq_.mk (blk_bel (by exact bK_ aA) hb_); clear HB; have HB := n0_; clear n0_; clear aA; have aA := m101_; clear m101_; clear hb_; have hcw5_101_0 : w5.cell? ⟨aD, 0, none⟩ = some (.int .i64 aF) := (qa_ aA.out 0).trans rfl; have hcw5_101_1 : w5.cell? ⟨aD, 1, none⟩ = some (.int .i64 aB) := (qa_ aA.out 1).trans rfl; have hcw5_101_2 : w5.cell? ⟨aD, 2, none⟩ = some (.int .i64 aE) := (qa_ aA.out 2).trans rfl) | ((with_reducible refine qc_ (N := 18) rfl ?_); refine lit_event (n := 1) ?hg (N := 18) ?hd (cs := #[.int .i64 aF, .int .i64 aB, .int .i64 aE]) (t := 42) ?hr ?_; (case hd => rfl); (case hg => rfl); (case hr => first | (go_simp; done) | (go_simp; rfl)); intro gl hg_ wl hbox_ hb_; have BKL := Zq_.mk hbox_; have n9_ := Zq_.mk (Kd.va_ HN.out hb_); clear HN; have HN := n9_; clear n9_ hbox_ hg_; have n0_ := Zq_.mk (qe_ (hB_ HB) hb_); have m101_ := Zq_.mk (blk_bel (by exact bK_ aA) hb_); clear HB; have HB := n0_; clear n0_; clear aA; have aA := m101_; clear m101_; clear hb_) | (go_at_call 31; refine (digest_Right.calls k (some ⟨gl, 0, none⟩) 1 [⟨aF, aB, aE⟩] true _ (watch_Heard.litC aF aB aE BKL.out) (Nat.le_refl 1) A2.out).mono ?_; rintro e w6 ⟨rfl, hb_⟩; have n9_ := Zq_.mk (Kd.va_ HN.out hb_); clear HN BKL; have HN := n9_; clear n9_; have n0_ := Zq_.mk (qe_ (hB_ HB) hb_); have m101_ := Zq_.mk (blk_bel (by exact bK_ aA) hb_); clear HB; have HB := n0_; clear n0_; clear aA; have aA := m101_; clear m101_; clear hb_; have hcw6_101_0 : w6.cell? ⟨aD, 0, none⟩ = some (.int .i64 aF) := (qa_ aA.out 0).trans rfl; have hcw6_101_1 : w6.cell? ⟨aD, 1, none⟩ = some (.int .i64 aB) := (qa_ aA.out 1).trans rfl; have hcw6_101_2 : w6.cell? ⟨aD, 2, none⟩ = some (.int .i64 aE) := (qa_ aA.out 2).trans rfl) | (go_at_call 32; refine (watch_place.calls A5 c5 l aF (p : Int) kn _ (Kd.N_reads' HN.out).2.2 (Kd.N_reads' HN.out).2.1 A3.out).mono ?_; rintro e wp ⟨rfl, hb_⟩; have HNP := Zq_.mk (Kd.va_ HN.out hb_); clear HN; have n0_ := Zq_.mk (qe_ (hB_ HB) hb_); have m101_ := Zq_.mk (blk_bel (by exact bK_ aA) hb_); clear HB; have HB := n0_; clear n0_; clear aA; have aA := m101_; clear m101_; clear hb_; have HBP := HB; have D5 := aA) | (go_at_call 33; refine (window_New.calls (-1) [] _ rfl).mono ?_; rintro e wn ⟨vn, rfl, hon_, hb_⟩; obtain ⟨An, cn, hvn_⟩ := Kd.ve_ hon_; have hvn_ : vn = .slice An 0 cn := hvn_; subst hvn_; have HNV := Zq_.mk hon_; have HBN := Zq_.mk hb_; clear hon_; have n0_ := Zq_.mk (qe_ (hB_ HB) hb_); have m101_ := Zq_.mk (blk_bel (by exact bK_ aA) hb_); clear HB; have HB := n0_; clear n0_; clear aA; have aA := m101_; clear m101_; clear hb_) | ((with_reducible refine qc_ (N := 12) rfl ?_); (try (refine qo_ (by rfl) ?_; dsimp only)); refine bE_ 12 #[.int .i64 0, .slice none 0 0] 34 ?_; intro aC hg_ w102 hbox_ hb_; have n0_ := Zq_.mk (qe_ (hB_ HB) hb_); have bK := Zq_.mk ((by rw [hg_]; exact (qb_ (hB_ HB)) : w.heap.size ≤ aC)); have n1_ := Zq_.mk (hbox_); have aJ : Zq_ (aD ≠ aC) := ⟨fun e_ => by have h1 := blk_lt (by exact bK_ aA); rw [e_, hg_] at h1; exact absurd h1 (Nat.lt_irrefl _)⟩; have m101_ := Zq_.mk (blk_bel (by exact bK_ aA) hb_); clear aA; have aA := m101_; clear m101_; have GX102 := Zq_.mk (Nat.le_of_eq hg_.symm); have BX102 := Zq_.mk hb_; clear HB; have HB := n0_; have aI := n1_; clear n0_ n1_; clear hb_ hbox_ hg_; obtain ⟨bI, bH⟩ := c2_ aI; obtain ⟨aZ, aY⟩ := f2_ aI))
  obtain ⟨ob, hob⟩ : ∃ o_, o_ = (Value.slice A5 l.length c5).ownBlock := ⟨_, rfl⟩; have HOB := Zq_.mk (show ∀ k_, ob = some k_ → k_ < wp.heap.size from fun k_ e_ => Kd.N_lt HNP.out k_ (by rw [← hob]; exact e_)); have HWP := Zq_.mk HBP.out.size; have SS := Zq_.mk (watch_Heard.St.fresh (P0_ := P0_) (w := w) HWP.out HOB.out HNV.out HBN.out aI.out GX102.out BX102.out); have HO := Zq_.mk hob; clear hob; generalize hw6 : (w102.setCell ⟨aC, 0, none⟩ (.int .i64 (-1))).setCell ⟨aC, 1, none⟩ (.slice An 0 cn) = W6 at SS ⊢; clear hw6 HB aA aI HNV HBN GX102 BX102 bK aJ
  go_upto_if 30 with fail
  go_cut [10] (fun v10 wc => v10 = .int .i64 (p : Int) ∧ Zq_ (∃ (w0 : Int) (v : Value) (wl : List Int), watch_Heard.put k l m (p : Int) aF aB aE w0 wl a2 a3 = some (r1, r2) ∧ watch_Heard.St P0_ w wp wc aC ob w0 v wl))
  case first =>
   cases kn with
   | false =>
    have h := H6.out; have hm := HM.out; rw [if_neg (by decide)] at h hm
    by_cases hl : l.length < 1099511627776
    case neg => rw [if_neg hl] at h; cases h
    rw [if_pos hl, Int.toNat_natCast, ← hm] at h; have HM7 := Zq_.mk h; clear h hl hm H6 HM
    go_wp2
    go_meet
    case rel => exact ⟨by first | rfl | (simp; done), ⟨-1, _, [], HM7.out, SS.out⟩⟩
   | true =>
    have hpl := HKP.out rfl; obtain ⟨g, cap, e5, hg0, hg1, hgc⟩ := Kd.N_form HNP.out (by omega)
    injection e5 with e6 e8 e7
    clear e8; subst e6; subst e7; obtain ⟨x, hx⟩ : ∃ x_, x_ = l.getD p z36 := ⟨_, rfl⟩; obtain ⟨c, hcl, hF, hcc, hfr⟩ := Kd.N_elem HNP.out z36 (p : Int) (by omega) (by omega); rw [Int.toNat_natCast, ← hx] at hF; have hF := Kd.FK_bound hF; obtain ⟨A4, c4, rfl, l4, g4⟩ := k36_openF hF; have h := H6.out; rw [if_pos rfl] at h
    unfold watch_Heard.known at h
    rw [show rd_T36 l (p : Int) = x from by rw [hx]; rfl] at h; have hm := HM.out; rw [if_pos rfl] at hm; rw [show watch_Heard.put k l l = watch_Heard.put k l m from by rw [hm]] at h; have HF := Zq_.mk (Kd.F_below g4 SS.out.2.2.2); have L4 := Zq_.mk l4; have H7 := Zq_.mk h; have HG := Zq_.mk (And.intro hg0 hg1); have hx0 : W6.cell? ⟨g, p * 7, none⟩ = some (.int .i64 x.f0) := vb_ SS.out.2.2.2 (by have := hcc 0 _ rfl; simpa only [show (k36).sz = 7 from rfl, Int.toNat_natCast, Nat.add_zero] using this); have hx1 : W6.cell? ⟨g, p * 7 + 1, none⟩ = some (.int .i64 x.f1) := vb_ SS.out.2.2.2 (by have := hcc 1 _ rfl; simpa only [show (k36).sz = 7 from rfl, Int.toNat_natCast, Nat.add_zero] using this); have hx2 : W6.cell? ⟨g, p * 7 + 2, none⟩ = some (.int .i64 x.f2) := vb_ SS.out.2.2.2 (by have := hcc 2 _ rfl; simpa only [show (k36).sz = 7 from rfl, Int.toNat_natCast, Nat.add_zero] using this); have hx3 : W6.cell? ⟨g, p * 7 + 3, none⟩ = some (.int .i64 x.f3.f0) := vb_ SS.out.2.2.2 (by have := hcc 3 _ rfl; simpa only [show (k36).sz = 7 from rfl, Int.toNat_natCast, Nat.add_zero] using this); have hx4 : W6.cell? ⟨g, p * 7 + 4, none⟩ = some (.slice A4 x.f3.f1.length c4) := vb_ SS.out.2.2.2 (by have := hcc 4 _ rfl; simpa only [show (k36).sz = 7 from rfl, Int.toNat_natCast, Nat.add_zero] using this); have hx5 : W6.cell? ⟨g, p * 7 + 5, none⟩ = some (.bool x.f4) := vb_ SS.out.2.2.2 (by have := hcc 5 _ rfl; simpa only [show (k36).sz = 7 from rfl, Int.toNat_natCast, Nat.add_zero] using this); have hx6 : W6.cell? ⟨g, p * 7 + 6, none⟩ = some (.int .i64 x.f5) := vb_ SS.out.2.2.2 (by have := hcc 6 _ rfl; simpa only [show (k36).sz = 7 from rfl, Int.toNat_natCast, Nat.add_zero] using this); have j1 : decide ((p : Int) < (l.length : Int)) = true := decide_eq_true (by omega); have j2 : ((p : Int) < (l.length : Int)) = True := eq_true (by omega); have j3 : (p < l.length) = True := eq_true hpl; have j4 : decide (p < l.length) = true := decide_eq_true hpl; clear hpl hg0 hg1 hgc hx hcl hF hcc hfr l4 g4 h hm HM; have HB := Zq_.mk (qe_ HBP.out SS.out.2.2.2)
    go_upto_region 8 with (first | ((with_reducible refine qc_ (N := 13) rfl ?_); (try (refine qo_ (by rfl) ?_; dsimp only)); refine bE_ 13 #[.int .i64 0, .int .i64 0, .int .i64 0, .int .i64 0, .slice none 0 0, .bool false, .int .i64 0] 36 ?_; intro aG hg_ w103 hbox_ hb_; have n0_ := Zq_.mk (qe_ (hB_ HB) hb_); have bJ := Zq_.mk ((by rw [hg_]; exact (qb_ (hB_ HB)) : w.heap.size ≤ aG)); have n1_ := Zq_.mk (hbox_); have GX103 := Zq_.mk (Nat.le_of_eq hg_.symm); have BX103 := Zq_.mk hb_; clear HB; have HB := n0_; have aH := n1_; clear n0_ n1_; clear hb_ hbox_ hg_; obtain ⟨bG, bF, bE, bD, bC, bB, bA⟩ := c7_ aH; obtain ⟨aX, aW, aV, aU, aT, aS, aR⟩ := f7_ aH))
    have HX := Zq_.mk (qj_ (qj_ (qj_ (qj_ (qj_ (qj_ (qj_ BX103.out GX103.out (j := 0) (v := .int .i64 x.f0)) GX103.out (j := 1) (v := .int .i64 x.f1)) GX103.out (j := 2) (v := .int .i64 x.f2)) GX103.out (j := 3) (v := .int .i64 x.f3.f0)) GX103.out (j := 4) (v := .slice A4 x.f3.f1.length c4)) GX103.out (j := 5) (v := .bool x.f4)) GX103.out (j := 6) (v := .int .i64 x.f5)); have BK1 := Zq_.mk (show _ = some (Obj.cells #[.int .i64 x.f0, .int .i64 x.f1, .int .i64 x.f2, .int .i64 x.f3.f0, .slice A4 x.f3.f1.length c4, .bool x.f4, .int .i64 x.f5] 36 (0, 0)) from (qv_ (qv_ (qv_ (qv_ (qv_ (qv_ (qv_ aH.out 0 (.int .i64 x.f0)) 1 (.int .i64 x.f1)) 2 (.int .i64 x.f2)) 3 (.int .i64 x.f3.f0)) 4 (.slice A4 x.f3.f1.length c4)) 5 (.bool x.f4)) 6 (.int .i64 x.f5))); generalize hw7 : (((((((w103.setCell ⟨aG, 0, none⟩ (.int .i64 x.f0)).setCell ⟨aG, 1, none⟩ (.int .i64 x.f1)).setCell ⟨aG, 2, none⟩ (.int .i64 x.f2)).setCell ⟨aG, 3, none⟩ (.int .i64 x.f3.f0)).setCell ⟨aG, 4, none⟩ (.slice A4 x.f3.f1.length c4)).setCell ⟨aG, 5, none⟩ (.bool x.f4)).setCell ⟨aG, 6, none⟩ (.int .i64 x.f5)) = w7 at HX BK1 ⊢; have SS7 := Zq_.mk (SS.out.step HX.out); have HF7 := Zq_.mk (Kd.F_below HF.out HX.out); have D7 := Zq_.mk (blk_bel D5.out SS7.out.2.2.2); clear hw7 HB aH BX103 GX103 bJ HX HF SS hx0 hx1 hx2 hx3 hx4 hx5 hx6; have hd1 : w7.cell? ⟨aD, 1, none⟩ = some (.int .i64 aB) := (qa_ D7.out 1).trans rfl; have hd2 : w7.cell? ⟨aD, 2, none⟩ = some (.int .i64 aE) := (qa_ D7.out 2).trans rfl; have hy1 : w7.cell? ⟨aG, 1, none⟩ = some (.int .i64 x.f1) := (qa_ BK1.out 1).trans rfl; have hy2 : w7.cell? ⟨aG, 2, none⟩ = some (.int .i64 x.f2) := (qa_ BK1.out 2).trans rfl; have hy3 : w7.cell? ⟨aG, 3, none⟩ = some (.int .i64 x.f3.f0) := (qa_ BK1.out 3).trans rfl; have hy4 : w7.cell? ⟨aG, 4, none⟩ = some (.slice A4 x.f3.f1.length c4) := (qa_ BK1.out 4).trans rfl; have HEX := Zq_.mk (Kd.va_ HNP.out SS7.out.2.2.2); have HEB := Zq_.mk (qe_ HBP.out SS7.out.2.2.2)
    by_cases c1 : x.f1 > aB
    ·have h := H7.out; rw [if_pos c1] at h; have e := Option.some.inj h; obtain ⟨rfl, rfl⟩ : l = r1 ∧ false = r2 := ⟨congrArg Prod.fst e, congrArg Prod.snd e⟩; have q1 : decide (aB < x.f1) = true := decide_eq_true c1; have q2 : (aB < x.f1) = True := eq_true c1; clear h e c1 H7 H6
     go_wp2
     go_ret2
     exact ⟨_, rfl, HEX.out, HEB.out⟩
    ·have q1 : decide (aB < x.f1) = false := decide_eq_false c1; have q2 : (aB < x.f1) = False := eq_false c1
     by_cases c2 : x.f1 = aB
     ·have q3 : (x.f1 == aB) = true := beq_iff_eq.mpr c2
      by_cases c3 : x.f2 ≥ aE
      ·have h := H7.out; rw [if_neg c1, if_pos c2, if_pos c3] at h; have e := Option.some.inj h; obtain ⟨rfl, rfl⟩ : l = r1 ∧ false = r2 := ⟨congrArg Prod.fst e, congrArg Prod.snd e⟩; have q4 : (x.f1 = aB) = True := eq_true c2; have q5 : decide (aE ≤ x.f2) = true := decide_eq_true c3; have q6 : (aE ≤ x.f2) = True := eq_true c3; clear h e c1 c2 c3 H7 H6
       go_wp2
       go_ret2
       exact ⟨_, rfl, HEX.out, HEB.out⟩
      ·have h := H7.out; rw [if_neg c1, if_pos c2, if_neg c3] at h; have H8 := Zq_.mk h; have q4 : (x.f1 = aB) = True := eq_true c2; have q5 : decide (aE ≤ x.f2) = false := decide_eq_false c3; have q6 : (aE ≤ x.f2) = False := eq_false c3; have hz0 : ∃ u_, w7.cell? ⟨aC, 0, none⟩ = some u_ := ⟨_, (qa_ SS7.out.1 0).trans rfl⟩; have z0 : w7.cell? ⟨aC, 0, none⟩ = some (.int .i64 (-1)) := (qa_ SS7.out.1 0).trans rfl; have z1 : w7.cell? ⟨aC, 1, none⟩ = some (.slice An 0 cn) := (qa_ SS7.out.1 1).trans rfl; have f0 := qf_ SS7.out.1 0; have f1 := qf_ SS7.out.1 1
       have VW := Zq_.mk (show Kd.V (Kd.int .i64) 3 w7 w.heap.size (fun k_ => ((P0_ k_ ∨ w.heap.size ≤ k_) ∧ some k_ ≠ ob) ∧ k_ ≠ aC) (.slice A4 x.f3.f1.length c4) x.f3.f1 from
        Kd.V_mk L4.out (Kd.F_mono HF7.out (fun k_ hk => ⟨⟨hk.1.1, fun e_ => hk.1.2 (by rw [HO.out] at e_; simpa [Value.ownBlock] using e_)⟩, Nat.ne_of_lt (Nat.lt_of_lt_of_le hk.2 SS7.out.2.1)⟩)))
       have S8 := Zq_.mk (SS7.out.set x.f3.f0 VW.out); clear h c1 c2 c3 H7 H6 VW hz0
       go_wp2
       go_meet
       case rel => exact ⟨by first | rfl | (simp; done), ⟨x.f3.f0, _, x.f3.f1, H8.out, S8.out⟩⟩
     ·have h := H7.out; rw [if_neg c1, if_neg c2] at h; have H8 := Zq_.mk h; have q3 : (x.f1 == aB) = false := beq_eq_false_iff_ne.mpr c2; have q4 : (x.f1 = aB) = False := eq_false c2; clear h c1 c2 H7 H6
      go_wp2
      go_meet
      case rel => exact ⟨by first | rfl | (simp; done), ⟨-1, _, [], H8.out, SS7.out⟩⟩
  case rest =>
   clear SS H6 A2 A3; obtain ⟨rfl, HQ⟩ := hcut; obtain ⟨w0, v, wl, hput, hSt⟩ := HQ.out; obtain ⟨Aw, cw, rfl⟩ := Kd.V_slice hSt.2.2.1; have SS := Zq_.mk hSt
   unfold watch_Heard.put at hput
   obtain ⟨⟨y1, y2, y3⟩, hA, h⟩ := Option.bind_eq_some_iff.1 hput
   dsimp only at h
   have A4 := Zq_.mk hA; have z0 : wc.cell? ⟨aC, 0, none⟩ = some (.int .i64 w0) := (qa_ SS.out.1 0).trans rfl; have z1 : wc.cell? ⟨aC, 1, none⟩ = some (.slice Aw wl.length cw) := (qa_ SS.out.1 1).trans rfl; have f0 := qf_ SS.out.1 0; have f1 := qf_ SS.out.1 1; clear HQ hput hSt hA
   by_cases hy3 : y3 = 0
   case neg =>
    rw [if_neg hy3] at h; have e := Option.some.inj h; obtain ⟨rfl, rfl⟩ : l = r1 ∧ false = r2 := ⟨congrArg Prod.fst e, congrArg Prod.snd e⟩; have q1 : (y3 == 0) = false := beq_eq_false_iff_ne.mpr hy3; have q2 : (y3 = 0) = False := eq_false hy3; have q3 : (y3 != 0) = true := bne_iff_ne.mpr hy3; clear h e hy3
    go_upto_if 70 with ((go_at_call 34; refine (window_Arrive.calls k w0 (fun k_ => ((P0_ k_ ∨ w.heap.size ≤ k_) ∧ some k_ ≠ ob) ∧ k_ ≠ aC) Aw cw wl a2 a3 y1 y2 y3 _ SS.out.2.2.1 A4.out).mono ?_; rintro e wa ⟨va, rfl, hv_, hb_⟩; obtain ⟨Aa, ca, rfl⟩ := Kd.V_slice hv_; have VA := Zq_.mk (SS.out.news HWP.out HOB.out hv_); have SA := Zq_.mk (SS.out.step hb_); have SB := Zq_.mk (SA.out.set y1 VA.out); have z0a : wa.cell? ⟨aC, 0, none⟩ = some (.int .i64 w0) := (qa_ SA.out.1 0).trans rfl; have z1a : wa.cell? ⟨aC, 1, none⟩ = some (.slice Aw wl.length cw) := (qa_ SA.out.1 1).trans rfl; have f0a := qf_ SA.out.1 0; have f1a := qf_ SA.out.1 1; clear hv_ hb_ VA SA))
    have HEX := Zq_.mk (Kd.va_ HNP.out SB.out.2.2.2); have HEB := Zq_.mk (qe_ HBP.out SB.out.2.2.2)
    go_wp2
    go_ret2
    exact ⟨_, rfl, HEX.out, HEB.out⟩
   rw [if_pos hy3] at h; subst hy3; rw [Int.toNat_natCast] at h; have e := Option.some.inj h; obtain ⟨rfl, rfl⟩ : m.set p ⟨aF, aB, aE, ⟨y1, y2⟩, true, 0⟩ = r1 ∧ true = r2 := ⟨congrArg Prod.fst e, congrArg Prod.snd e⟩; clear h e
   go_upto_if 73 with ((go_at_call 34; refine (window_Arrive.calls k w0 (fun k_ => ((P0_ k_ ∨ w.heap.size ≤ k_) ∧ some k_ ≠ ob) ∧ k_ ≠ aC) Aw cw wl a2 a3 y1 y2 0 _ SS.out.2.2.1 A4.out).mono ?_; rintro e wa ⟨va, rfl, hv_, hb_⟩; obtain ⟨Aa, ca, rfl⟩ := Kd.V_slice hv_; have VA := Zq_.mk (SS.out.news HWP.out HOB.out hv_); have SA := Zq_.mk (SS.out.step hb_); have SB := Zq_.mk (SA.out.set y1 VA.out); have z0a : wa.cell? ⟨aC, 0, none⟩ = some (.int .i64 w0) := (qa_ SA.out.1 0).trans rfl; have z1a : wa.cell? ⟨aC, 1, none⟩ = some (.slice Aw wl.length cw) := (qa_ SA.out.1 1).trans rfl; have f0a := qf_ SA.out.1 0; have f1a := qf_ SA.out.1 1; clear hv_ hb_ VA SA))
   generalize hwb : (wa.setCell ⟨aC, 0, none⟩ (.int .i64 y1)).setCell ⟨aC, 1, none⟩ (.slice Aa y2.length ca) = wb at SB ⊢; clear hwb z0 z1 f0 f1
   go_cut [0] (fun v0 wd => ∃ (A8 : Option Addr) (c8 : Nat), v0 = .slice A8 m.length c8 ∧ Zq_ (Kd.N k36 36 wd w.heap.size (fun k_ => P0_ k_ ∨ w.heap.size ≤ k_) (.slice A8 m.length c8) m) ∧ Zq_ (Kd.V (Kd.int .i64) 3 wd w.heap.size (fun k_ => (P0_ k_ ∨ w.heap.size ≤ k_) ∧ some k_ ≠ (Value.slice A8 m.length c8).ownBlock) (.slice Aa y2.length ca) y2)
    ∧ Zq_ (wd.heap[aC]? = some (.cells #[.int .i64 y1, .slice Aa y2.length ca] 34 (0, 0))) ∧ Zq_ (wd.heap[aD]? = some (.cells #[.int .i64 aF, .int .i64 aB, .int .i64 aE] 42 (0, 0))) ∧ Zq_ (Below w.heap.size w wd))
   case first =>
    cases kn with
    | true =>
     have hm := HM.out; rw [if_pos rfl] at hm; subst hm
     go_wp2
     go_meet
     case rel => exact ⟨A5, c5, rfl, ⟨Kd.va_ HNP.out SB.out.2.2.2⟩, ⟨Kd.V_mono SB.out.2.2.1 (fun k_ hk => ⟨hk.1.1, by rw [← HO.out]; exact hk.1.2⟩)⟩, ⟨SB.out.1⟩, ⟨blk_bel D5.out SB.out.2.2.2⟩, ⟨qe_ HBP.out SB.out.2.2.2⟩⟩
    | false =>
     have HB := Zq_.mk (qe_ HBP.out SB.out.2.2.2); have HN := Zq_.mk (Kd.va_ HNP.out SB.out.2.2.2)
     go_wp2_with (first | ((with_reducible refine qc_ (N := 77) rfl ?_); refine lit_event (n := 1) ?hg (N := 77) ?hd (cs := #[.int .i64 0, .int .i64 0, .int .i64 0, .int .i64 0, .slice none 0 0, .bool false, .int .i64 0]) (t := 36) ?hr ?_; (case hd => rfl); (case hg => rfl); (case hr => first | (go_simp; done) | (go_simp; rfl)); intro gl hg_ wl8 hbox_ hb_; have NE := Zq_.mk (show some gl ≠ (Value.slice A5 l.length c5).ownBlock from fun e_ => by have h1 := Kd.N_lt HN.out gl e_.symm; omega); have BKL := Zq_.mk hbox_; have n9_ := Zq_.mk (Kd.va_ HN.out hb_); have SL := Zq_.mk (SB.out.step hb_); clear HN HB; have HN := n9_; have HB := Zq_.mk (qe_ HBP.out SL.out.2.2.2); clear n9_ hbox_ hg_ hb_) | (go_at_call 35; refine (InsertX.keeps (.slice A5 l.length c5) l p HP.out gl w.heap.size (fun k_ => P0_ k_ ∨ w.heap.size ≤ k_) _ HN.out HB.out.size (HL40.out rfl) (fun k_ hk => .inr (Nat.le_trans HB.out.size hk)) NE.out BKL.out).mono ?_; rintro e wi ⟨vi, rfl, hni, hgi, hat⟩; have hni : Kd.N k36 36 wi w.heap.size (fun k_ => P0_ k_ ∨ w.heap.size ≤ k_) vi m := (by rw [HM.out, if_neg (by decide)]; exact hni); obtain ⟨A8, c8, rfl⟩ := Kd.vp_ hni; have HN8 := Zq_.mk hni; have V8 := Zq_.mk (watch_Heard.V_ins SL.out HO.out hgi hat); have B8 := Zq_.mk ((hgi.block aC (blk_lt SL.out.1) (fun e_ => Nat.lt_irrefl _ (Nat.lt_of_lt_of_le (HOB.out aC (by rw [HO.out]; exact e_.symm)) SL.out.2.1))).trans SL.out.1); have D8 := Zq_.mk (show wi.heap[aD]? = _ from (hgi.block aD (blk_lt (blk_bel D5.out SL.out.2.2.2)) (Kd.N_ne HN.out (blk_bel D5.out SL.out.2.2.2) (by decide))).trans (blk_bel D5.out SL.out.2.2.2)); have HB8 := Zq_.mk (HB.out.grown hgi HB.out.size (Kd.N_base HN.out)); clear hni hgi hat))
     go_meet
     case rel => exact ⟨A8, c8, rfl, ⟨HN8.out⟩, ⟨V8.out⟩, ⟨B8.out⟩, ⟨D8.out⟩, ⟨HB8.out⟩⟩
   case rest =>
    clear SB HNP SS; obtain ⟨A8, c8, rfl, HN, VY, B2, D, HB⟩ := hcut; have hml := HML.out; obtain ⟨g, cap, e5, hg0, hg1, hgc⟩ := Kd.N_form HN.out (by omega)
    injection e5 with e6 e8 e7
    clear e8; subst e6; subst e7; obtain ⟨c, hcl, hF, hcc, hfr⟩ := Kd.N_elem HN.out z36 (p : Int) (by omega) (by omega); obtain ⟨Ax, cx, rfl, _, _⟩ := k36_openF hF; have HCC := Zq_.mk hcc; have F2 := Zq_.mk (k36_mkF wc _ ⟨aF, aB, aE, ⟨y1, y2⟩, true, 0⟩ (Kd.V_at VY.out).2.1 (Kd.V_F VY.out))
    have q1 : (0 : Int) ≤ (p : Int) := by omega
    have q2 : (p : Int) < (m.length : Int) := by omega
    have Q1 := Zq_.mk q1; have Q2 := Zq_.mk q2; have j1 : decide ((p : Int) < (m.length : Int)) = true := decide_eq_true (by omega); have j2 : ((p : Int) < (m.length : Int)) = True := eq_true (by omega); have j3 : (p < m.length) = True := eq_true hml; have j4 : decide (p < m.length) = true := decide_eq_true hml; have hd0 : wc.cell? ⟨aD, 0, none⟩ = some (.int .i64 aF) := (qa_ D.out 0).trans rfl; have hd1 : wc.cell? ⟨aD, 1, none⟩ = some (.int .i64 aB) := (qa_ D.out 1).trans rfl; have hd2 : wc.cell? ⟨aD, 2, none⟩ = some (.int .i64 aE) := (qa_ D.out 2).trans rfl; have z0 : wc.cell? ⟨aC, 0, none⟩ = some (.int .i64 y1) := (qa_ B2.out 0).trans rfl; have z1 : wc.cell? ⟨aC, 1, none⟩ = some (.slice Aa y2.length ca) := (qa_ B2.out 1).trans rfl; clear hg0 hg1 hgc hcl hF hcc hfr hml q1 q2
    go_wp2_with ((with_reducible refine gate_store (t := 36) (p := 89) rfl ?_); refine Kd.N_store k36 (w0 := w) (W := wc) w.heap.size rfl rfl 36 (.tmp 89) (.tmp 88) rfl 36 (g := g) (n := m.length) (cap := c8) (o' := p * 7) (p : Int) 0 m ⟨aF, aB, aE, ⟨y1, y2⟩, true, 0⟩ (.agg #[.int .i64 aF, .int .i64 aB, .int .i64 aE, .int .i64 y1, .slice Aa y2.length ca, .bool true, .int .i64 0]) [.int .i64 aF, .int .i64 aB, .int .i64 aE, .int .i64 y1, .slice Aa y2.length ca, .bool true, .int .i64 0] [.int .i64 (m.getD (p : Int).toNat z36).f0, .int .i64 (m.getD (p : Int).toNat z36).f1, .int .i64 (m.getD (p : Int).toNat z36).f2, .int .i64 (m.getD (p : Int).toNat z36).f3.f0, .slice Ax (m.getD (p : Int).toNat z36).f3.f1.length cx, .bool (m.getD (p : Int).toNat z36).f4, .int .i64 (m.getD (p : Int).toNat z36).f5] (fun k_ => P0_ k_ ∨ w.heap.size ≤ k_) (fun k_ => (P0_ k_ ∨ w.heap.size ≤ k_) ∧ some k_ ≠ (Value.slice (some ⟨g, 0, none⟩) m.length c8).ownBlock) ?ha ?ho ?hx rfl (by kernel_rfl) ?h1 HN.out Q1.out Q2.out rfl ?hcc (show (7 : Nat) ≤ 7 from Nat.le_refl 7) F2.out (fun k_ hk => ⟨hk.1, fun e_ => hk.2 (by rw [e_]; rfl)⟩) HB.out ?_; (case ha => first | rfl | (go_simp; done) | (go_simp; rfl)); (case ho => first | rfl | (simp; done)); (case hx => first | rfl | (go_simp; done) | (go_simp; rfl)); (case h1 => intro q hq_; simp only [List.mem_cons, List.not_mem_nil, or_false] at hq_; rcases hq_ with rfl | rfl | rfl | rfl | rfl | rfl | rfl <;> rfl); (case hcc => exact HCC.out); intro w9 hN9 hB9 hg9; have HN9 := Zq_.mk (show Kd.N k36 36 w9 _ _ _ (m.set p _) from hN9); have HB9 := Zq_.mk hB9; clear hN9 hB9 hg9)
    go_ret2
    exact ⟨_, rfl, HN9.out, HB9.out⟩
end Go.Proofs.Ytoghjpoblbdnpaa.P

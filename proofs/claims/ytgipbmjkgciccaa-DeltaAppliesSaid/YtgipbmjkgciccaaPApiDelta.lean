/- What printed functions come to, and that the machine's calls do it. No condition. -/
import Derived.Test.YtgipbmjkgciccaaP0
import Derived.Test.YtgipbmjkgciccaaHw
namespace Go.Proofs.Ytgipbmjkgciccaa.P
set_option maxHeartbeats 16000000
set_option maxRecDepth 100000
open Go.RowKit Go.Proofs.YtgipbmjkgciccaaW.PrintWords Go.Proofs.YtgipbmjkgciccaaW.PrintLast Go.Proofs.YtgipbmjkgciccaaW.PrintMore
attribute [local go_sem] qv_ qt_ vb_ va_ qm_ ql_ qu_ qs_ Go.Proofs.YtgipbmjkgciccaaW.Hw.string_gtr
set_option linter.unusedVariables false
set_option linter.unusedSimpArgs false
/-- Two lists, one beside the other. -/
def eqfD (q : S53 → S53 → Bool) (l0 l1 : List S53) : Bool := decide (l0.length = l1.length) && (List.range l0.length).all (fun j => q (l0.getD j z53) (l1.getD j z53))
theorem eqfD_hit {q : S53 → S53 → Bool} {l0 l1 : List S53} (j : Nat) (hj : j < l0.length) (h : q (l0.getD j z53) (l1.getD j z53) = false) : eqfD q l0 l1 = false := by
 unfold eqfD
 rw [Bool.and_eq_false_iff]; refine Or.inr ?_; rw [Bool.eq_false_iff]; intro ha; have := (List.all_eq_true.1 ha) j (List.mem_range.2 hj); rw [h] at this; cases this
theorem eqfD_miss {q : S53 → S53 → Bool} {l0 l1 : List S53} (hl : l0.length = l1.length) (h : ∀ j, j < l0.length → q (l0.getD j z53) (l1.getD j z53) = true) : eqfD q l0 l1 = true := by
 unfold eqfD
 rw [decide_eq_true hl, Bool.true_and]; exact List.all_eq_true.2 (fun j hj => h j (List.mem_range.1 hj))
theorem eqfD_len {q : S53 → S53 → Bool} {l0 l1 : List S53} (hl : ¬ l0.length = l1.length) : eqfD q l0 l1 = false := by
 unfold eqfD
 rw [decide_eq_false hl, Bool.false_and]
open Go.Proofs.YtgipbmjkgciccaaW.Hw in
theorem EqualFuncD.calls (q : S53 → S53 → Bool) (g : Nat) (eg : ∀ args w, (callFunc g args).run Try.prog w = .ok (.enter g args) w) (A0 : Option Addr) (c0 : Nat) (l0 : List S53) (A1 : Option Addr) (c1 : Nat) (l1 : List S53) (w : World)
  (hp : ∀ (V : World) (x y : S53) (cx cy : List Value), Below w.heap.size w V → (k53).K V x cx → (k53).K V y cy → Calls Try.prog g #[aggOf cx, aggOf cy] V fun e w' => e = .returned (.bool (q x y)) ∧ Below V.heap.size V w')
  (hr0 : Kd.C k53 w A0 l0.length l0) (hr1 : Kd.C k53 w A1 l1.length l1) :
  Calls Try.prog 50 #[.slice A0 l0.length c0, .slice A1 l1.length c1, .func (.func g) #[] #[]] w fun e w' => e = .returned (.bool (eqfD q l0 l1)) ∧ Below w.heap.size w w' := by
 have hu_ := Try.underlying53
 by_cases hlen : l0.length = l1.length
 ·have hme : ((l0.length : Int) == (l1.length : Int)) = true := by rw [hlen]; simp
  have hmn : ((l0.length : Int) != (l1.length : Int)) = false := by rw [hlen]; simp
  have hmb : decide ((l0.length : Int) = (l1.length : Int)) = true := decide_eq_true (by rw [hlen]); have HLE := Zq_.mk hlen; have HR := Zq_.mk hr0; have HR1 := Zq_.mk hr1; have HP := Zq_.mk hp; have HM := Zq_.mk (Kd.C_max hr0); have hn := eq_true hlen; clear hr0 hr1 hp hlen
  go_enter Try.func50, Try.ntmps50
  go_wp2
  go_loopg [7, 8, 9, 17] l0.length (fun gg _ _ _ s17 W => ∃ i : Int, s17 = .int .i64 i ∧ Zq_ (0 ≤ i ∧ i ≤ (l0.length : Int) ∧ l0.length - i.toNat ≤ gg) ∧ Zq_ (Below w.heap.size w W) ∧ Zq_ (∀ j, j < i.toNat → q (l0.getD j z53) (l1.getD j z53) = true))
  case atStart => exact ⟨0, rfl, ⟨by omega⟩, ⟨Below.refl _ _⟩, ⟨fun j hj => absurd hj (Nat.not_lt_zero _)⟩⟩
  case round =>
   obtain ⟨i, rfl, HI, BW, A⟩ := hrel; obtain ⟨W, rfl⟩ : ∃ W, W = wr := ⟨_, rfl⟩
   by_cases hlt : i < (l0.length : Int)
   ·have hltb : decide (i < (l0.length : Int)) = true := decide_eq_true hlt; have p1 := HI.out.1
    have hlt1 : i < (l1.length : Int) := by have := HLE.out; omega
    obtain ⟨ad, A3, c3, e_, hx_0, hx_1, hx_2, hx_3, hx_4, l3, g3⟩ := at_T53 HR.out i p1 hlt; cases e_; obtain ⟨ae, A4, c4, e_, hy_0, hy_1, hy_2, hy_3, hy_4, l4, g4⟩ := at_T53 HR1.out i p1 hlt1; cases e_; replace hx_0 := (BW.out.cell (wb_ w _ hx_0)).trans hx_0; replace hx_1 := (BW.out.cell (wb_ w _ hx_1)).trans hx_1; replace hx_2 := (BW.out.cell (wb_ w _ hx_2)).trans hx_2; replace hx_3 := (BW.out.cell (wb_ w _ hx_3)).trans hx_3; replace hx_4 := (BW.out.cell (wb_ w _ hx_4)).trans hx_4; replace hy_0 := (BW.out.cell (wb_ w _ hy_0)).trans hy_0; replace hy_1 := (BW.out.cell (wb_ w _ hy_1)).trans hy_1; replace hy_2 := (BW.out.cell (wb_ w _ hy_2)).trans hy_2; replace hy_3 := (BW.out.cell (wb_ w _ hy_3)).trans hy_3; replace hy_4 := (BW.out.cell (wb_ w _ hy_4)).trans hy_4; have HG3 := Zq_.mk (Kd.qg_ g3 BW.out); have HG4 := Zq_.mk (Kd.qg_ g4 BW.out); have HL3 := Zq_.mk l3; have HL4 := Zq_.mk l4; have HX := Zq_.mk (show rd_T53 l0 i = l0.getD i.toNat z53 from rfl); have HY := Zq_.mk (show rd_T53 l1 i = l1.getD i.toNat z53 from rfl); generalize rd_T53 l0 i = x at hx_0 hx_1 hx_2 hx_3 hx_4 HG3 HL3 HX; generalize rd_T53 l1 i = y at hy_0 hy_1 hy_2 hy_3 hy_4 HG4 HL4 HY; have HL := Zq_.mk hlt; replace p1 := eq_true p1; replace hlt := eq_true hlt; replace hlt1 := eq_true hlt1; have HB := Zq_.mk (Below.refl W.heap.size W); have hwr := Zq_.mk (show wrap64 (i + 1) = i + 1 by have := HI.out; have := HM.out; have := HL.out; unfold wrap64; omega); have HYY := Zq_.mk (And.intro hy_0 (And.intro hy_1 (And.intro hy_2 (And.intro hy_3 hy_4)))); clear g3 g4 l3 l4 hy_0 hy_1 hy_2 hy_3 hy_4
    go_upto_region 6 with (first | ((with_reducible refine qd_ (N := 8) rfl ?_); (try (refine qj_ (by rfl) ?_; dsimp only)); refine bE_ 8 #[.int .i64 0, .int .i64 0, .int .i64 0, .int .i64 0, .slice none 0 0] 53 ?_; intro aD hg_ w102 hbox_ hb_; have n0_ := Zq_.mk (qo_ (hB_ HB) hb_); have aG := Zq_.mk ((by rw [hg_]; exact (qa_ (hB_ HB)) : W.heap.size ≤ aD)); have n1_ := Zq_.mk (hbox_); clear HB; have HB := n0_; have aB := n1_; clear n0_ n1_; clear hb_ hbox_ hg_; obtain ⟨bA, aZ, aY, aX, aW⟩ := c5_ aB; obtain ⟨aQ, aP, aO, aN, aM⟩ := f5_ aB))
    have HB5 := Zq_.mk (below_set (below_set (below_set (below_set (below_set HB.out aG.out (j := 0) (v := .int .i64 x.f0)) aG.out (j := 1) (v := .int .i64 x.f1)) aG.out (j := 2) (v := .int .i64 x.f2.f0)) aG.out (j := 3) (v := .int .i64 x.f2.f1)) aG.out (j := 4) (v := .slice A3 x.f2.f2.length c3)); have BK5 := Zq_.mk (show _ = some (Obj.cells #[.int .i64 x.f0, .int .i64 x.f1, .int .i64 x.f2.f0, .int .i64 x.f2.f1, .slice A3 x.f2.f2.length c3] 53 (0, 0)) from blk_set (blk_set (blk_set (blk_set (blk_set aB.out 0 (.int .i64 x.f0)) 1 (.int .i64 x.f1)) 2 (.int .i64 x.f2.f0)) 3 (.int .i64 x.f2.f1)) 4 (.slice A3 x.f2.f2.length c3)); generalize hw5 : ((((w102.setCell ⟨aD, 0, none⟩ (.int .i64 x.f0)).setCell ⟨aD, 1, none⟩ (.int .i64 x.f1)).setCell ⟨aD, 2, none⟩ (.int .i64 x.f2.f0)).setCell ⟨aD, 3, none⟩ (.int .i64 x.f2.f1)).setCell ⟨aD, 4, none⟩ (.slice A3 x.f2.f2.length c3) = w5 at HB5 BK5 ⊢; clear hw5 HB aB hx_0 hx_1 hx_2 hx_3 hx_4; have HB := HB5; have aB := BK5; clear HB5 BK5; have hy_0 := pw_cell_below HB.out HYY.out.1; have hy_1 := pw_cell_below HB.out HYY.out.2.1; have hy_2 := pw_cell_below HB.out HYY.out.2.2.1; have hy_3 := pw_cell_below HB.out HYY.out.2.2.2.1; have hy_4 := pw_cell_below HB.out HYY.out.2.2.2.2
    go_upto_region 7 with (first | ((with_reducible refine qd_ (N := 9) rfl ?_); (try (refine qj_ (by rfl) ?_; dsimp only)); refine bE_ 9 #[.int .i64 0, .int .i64 0, .int .i64 0, .int .i64 0, .slice none 0 0] 53 ?_; intro aA hg_ w103 hbox_ hb_; have n0_ := Zq_.mk (qo_ (hB_ HB) hb_); have aF := Zq_.mk ((by rw [hg_]; exact (qa_ (hB_ HB)) : W.heap.size ≤ aA)); have n1_ := Zq_.mk (hbox_); have aC : Zq_ (aD ≠ aA) := ⟨fun e_ => by have h1 := blk_lt (by exact bK_ aB); rw [e_, hg_] at h1; exact absurd h1 (Nat.lt_irrefl _)⟩; have m102_ := Zq_.mk (blk_bel (by exact bK_ aB) hb_); clear aB; have aB := m102_; clear m102_; clear HB; have HB := n0_; have aE := n1_; clear n0_ n1_; clear hb_ hbox_ hg_; obtain ⟨aV, aU, aT, aS, aR⟩ := c5_ aE; obtain ⟨aL, aK, aJ, aI, aH⟩ := f5_ aE))
    have HB5 := Zq_.mk (below_set (below_set (below_set (below_set (below_set HB.out aF.out (j := 0) (v := .int .i64 y.f0)) aF.out (j := 1) (v := .int .i64 y.f1)) aF.out (j := 2) (v := .int .i64 y.f2.f0)) aF.out (j := 3) (v := .int .i64 y.f2.f1)) aF.out (j := 4) (v := .slice A4 y.f2.f2.length c4)); have BK5 := Zq_.mk (show _ = some (Obj.cells #[.int .i64 y.f0, .int .i64 y.f1, .int .i64 y.f2.f0, .int .i64 y.f2.f1, .slice A4 y.f2.f2.length c4] 53 (0, 0)) from blk_set (blk_set (blk_set (blk_set (blk_set aE.out 0 (.int .i64 y.f0)) 1 (.int .i64 y.f1)) 2 (.int .i64 y.f2.f0)) 3 (.int .i64 y.f2.f1)) 4 (.slice A4 y.f2.f2.length c4)); have BK6 := Zq_.mk (blk_far (p := ⟨aA, 4, none⟩) (blk_far (p := ⟨aA, 3, none⟩) (blk_far (p := ⟨aA, 2, none⟩) (blk_far (p := ⟨aA, 1, none⟩) (blk_far (p := ⟨aA, 0, none⟩) aB.out aC.out (.int .i64 y.f0)) aC.out (.int .i64 y.f1)) aC.out (.int .i64 y.f2.f0)) aC.out (.int .i64 y.f2.f1)) aC.out (.slice A4 y.f2.f2.length c4)); generalize hw5 : ((((w103.setCell ⟨aA, 0, none⟩ (.int .i64 y.f0)).setCell ⟨aA, 1, none⟩ (.int .i64 y.f1)).setCell ⟨aA, 2, none⟩ (.int .i64 y.f2.f0)).setCell ⟨aA, 3, none⟩ (.int .i64 y.f2.f1)).setCell ⟨aA, 4, none⟩ (.slice A4 y.f2.f2.length c4) = w6 at HB5 BK5 BK6 ⊢; clear hw5 HB aB aE hy_0 hy_1 hy_2 hy_3 hy_4; have HB := HB5; have aE := BK5; have aB := BK6; clear HB5 BK5 BK6; have hcw6_102_0 : w6.cell? ⟨aD, 0, none⟩ = some (.int .i64 x.f0) := (qb_ aB.out 0).trans rfl; have hcw6_102_1 : w6.cell? ⟨aD, 1, none⟩ = some (.int .i64 x.f1) := (qb_ aB.out 1).trans rfl; have hcw6_102_2 : w6.cell? ⟨aD, 2, none⟩ = some (.int .i64 x.f2.f0) := (qb_ aB.out 2).trans rfl; have hcw6_102_3 : w6.cell? ⟨aD, 3, none⟩ = some (.int .i64 x.f2.f1) := (qb_ aB.out 3).trans rfl; have hcw6_102_4 : w6.cell? ⟨aD, 4, none⟩ = some (.slice A3 x.f2.f2.length c3) := (qb_ aB.out 4).trans rfl; have hcw6_103_0 : w6.cell? ⟨aA, 0, none⟩ = some (.int .i64 y.f0) := (qb_ aE.out 0).trans rfl; have hcw6_103_1 : w6.cell? ⟨aA, 1, none⟩ = some (.int .i64 y.f1) := (qb_ aE.out 1).trans rfl; have hcw6_103_2 : w6.cell? ⟨aA, 2, none⟩ = some (.int .i64 y.f2.f0) := (qb_ aE.out 2).trans rfl; have hcw6_103_3 : w6.cell? ⟨aA, 3, none⟩ = some (.int .i64 y.f2.f1) := (qb_ aE.out 3).trans rfl; have hcw6_103_4 : w6.cell? ⟨aA, 4, none⟩ = some (.slice A4 y.f2.f2.length c4) := (qb_ aE.out 4).trans rfl; have hcall : Calls Try.prog g #[.agg #[.int .i64 x.f0, .int .i64 x.f1, .int .i64 x.f2.f0, .int .i64 x.f2.f1, .slice A3 x.f2.f2.length c3], .agg #[.int .i64 y.f0, .int .i64 y.f1, .int .i64 y.f2.f0, .int .i64 y.f2.f1, .slice A4 y.f2.f2.length c4]] w6 (fun e w1 => e = .returned (.bool (q x y)) ∧ Below w6.heap.size w6 w1) := HP.out w6 x y [.int .i64 x.f0, .int .i64 x.f1, .int .i64 x.f2.f0, .int .i64 x.f2.f1, .slice A3 x.f2.f2.length c3] [.int .i64 y.f0, .int .i64 y.f1, .int .i64 y.f2.f0, .int .i64 y.f2.f1, .slice A4 y.f2.f2.length c4] (qo_ BW.out HB.out) (k53_mk w6 x HL3.out (Kd.qg_ HG3.out HB.out)) (k53_mk w6 y HL4.out (Kd.qg_ HG4.out HB.out))
    cases hq : q x y with
    | true =>
     rw [hq] at hcall; have HQ := Zq_.mk hq; clear hq
     go_wp2_with fail
     refine hcall.mono ?_; rintro e w1 ⟨rfl, hb1⟩
     go_wp2_with fail
     go_roundg (l0.length - (i.toNat + 1))
     case measure => have h1 := HI.out; have h2 := HL.out; omega
     case rel => exact ⟨wrap64 (i + 1), eS_, ⟨by rw [hwr.out]; have h1 := HI.out; have h2 := HL.out; omega⟩, ⟨qo_ (qo_ BW.out HB.out) hb1⟩, ⟨fun j hj => by
      rw [hwr.out] at hj; have h1 := HI.out
      by_cases e : j = i.toNat
      ·subst e; rw [← HX.out, ← HY.out]; exact HQ.out
      ·exact A.out j (by omega)⟩⟩
    | false =>
     rw [hq] at hcall; have HQ := Zq_.mk hq; clear hq
     go_wp2_with fail
     refine hcall.mono ?_; rintro e w1 ⟨rfl, hb1⟩
     go_wp2_with fail
     go_ret
     refine ⟨?_, (by have hb2 := qo_ (qo_ BW.out HB.out) hb1; exact hb2)⟩; have h1 := HI.out; have h2 := HL.out; rw [eqfD_hit i.toNat (by omega) (by rw [← HX.out, ← HY.out]; exact HQ.out)]; rfl
   ·have hltb : decide (i < (l0.length : Int)) = false := decide_eq_false hlt; have HL := Zq_.mk hlt; clear hlt
    go_wp2
    go_ret
    refine ⟨?_, BW.out⟩; have h1 := HI.out; have h2 := HL.out; rw [eqfD_miss HLE.out (fun j hj => A.out j (by omega))]; rfl
 ·have hme : ((l0.length : Int) == (l1.length : Int)) = false := beq_false_of_ne (by omega); have hmb : decide ((l0.length : Int) = (l1.length : Int)) = false := decide_eq_false (by omega); have hn := eq_false hlen; have HLE := Zq_.mk hlen; clear hr0 hr1 hp hlen
  go_enter Try.func50, Try.ntmps50
  go_wp2
  go_ret
  exact ⟨by rw [eqfD_len HLE.out]; rfl, Below.refl _ _⟩
def api_Entry_61.f (l0 : List S58) : Option (List S58) := if l0.length < 4398046511104 then some l0 else none
open Go.Proofs.YtgipbmjkgciccaaW.Hw in
theorem api_Entry_61.calls (A0 : Option Addr) (c0 : Nat) (l0 : List S58) (r : List S58) (w : World) (hr0 : Kd.C k58 w A0 l0.length l0) (hc0 : l0.length ≤ c0) (h : api_Entry_61.f l0 = some r) :
  Calls Try.prog 61 #[.slice A0 l0.length c0] w fun e w' => ∃ v0_ : Value, e = .returned v0_ ∧ Kd.R k58 58 w' w.heap.size (fun _ => True) v0_ r ∧ Below w.heap.size w w' := by
 unfold api_Entry_61.f at h
 by_cases hl : l0.length < 4398046511104
 case neg => rw [if_neg hl] at h; cases h
 rw [if_pos hl] at h; obtain rfl := Option.some.inj h; clear h; have LM := Zq_.mk hl; clear hl
 have hnil : ∀ (W : World) (a : Option Addr) (n c n' c' : Nat), (binOp .eql 33 (.slice a n c) (.slice none n' c')).run Try.prog W = .ok (.bool a.isNone) W := fun W a n c n' c' => Lib.run_eql_slice_nil W _ _ a n c n' c' Try.underlying33
 have HB := Zq_.mk (Below.refl w.heap.size w)
 cases A0 with
 | none =>
  have e0 : l0 = [] := by
   rcases Nat.eq_zero_or_pos l0.length with e | e
   ·exact List.eq_nil_of_length_eq_zero e
   ·obtain ⟨ad, e1, _⟩ := hr0.2.2 e; cases e1
  subst e0; clear hr0 hc0 LM
  go_enter Try.func61, Try.ntmps61
  go_wp2
  go_ret
  exact ⟨_, rfl, Kd.R_nil _ _ _ _ _, Below.refl _ _⟩
 | some ad =>
  have HR := Zq_.mk hr0; have HC := Zq_.mk hc0; clear hr0 hc0
  go_enter Try.func61, Try.ntmps61
  go_wp2_with (first
   | ((with_reducible refine qd_ (N := 5) rfl ?_); refine Kd.R_lit k58 _ 58 ?hg (N := 5) ?hd (xs := ([] : List S58)) (inner := []) (ok := fun _ => True) (okp := fun _ => True) ?hr ?hp (fun _ hk => hk) trivial (Below.refl _ _) (Nat.le_refl _) (by simp) ?_; (case hd => rfl); (case hg => rfl); (case hr => first | (go_simp; done) | (go_simp; rfl)); (case hp => exact (Reps.none _ _)); intro v5 w5 ho hb hg_ hnew_; clear hg_ hnew_; have HO := Zq_.mk (Kd.vd_ ho (qa_ (hB_ HB))); replace HB := sB_ HB hb; clear hb ho)
   | ((with_reducible refine qw_ (b := .append) (xs := #[.tmp 5, .tmp 6]) rfl ?_); at_builtin; refine Kd.R_append_rows k58 (w0 := w) w.heap.size rfl (.tmp 5) (.tmp 6) 33 58 (.agg #[(.int .i64 0), (.int .i64 0), (.string ⟨#[]⟩)]) 32 rfl Try.underlying33 info58 rfl (by decide) (by omega) v5 ([] : List S58) l0 _ _ _ (fun _ => True) (fun _ => False) rfl rfl ?aO ?aR (fun _ _ h => h) (fun _ h => h.elim) ?aF ?aB ?aS ?aL ?_; (case aR => exact cX_ (Kd.qg_ HR.out HB.out)); (case aB => exact (hB_ HB)); (case aF => exact (fun _ _ => trivial)); (case aO => exact (vX_ HO)); (case aS => exact (qa_ (hB_ HB))); (case aL => have := LM.out; simp only [List.length_nil]; omega); intro v7 w9 ho hb hg hat; rw [List.nil_append] at ho; replace HB := Zq_.mk hb; replace HO := Zq_.mk ho; clear ho hb hg hat))
  go_ret
  exact ⟨_, rfl, by (with_reducible repeat (first | apply Kd.qq_ | apply Kd.qp_ | apply Kd.R_drew)); exact HO.out, (hB_ HB)⟩
open Go.Proofs.YtgipbmjkgciccaaW.Hw in
theorem IndexFuncE.calls (p : S58 → Bool) (g : Nat) (lb : Array Value) (eg : ∀ args w, (callFunc g args).run Try.prog w = .ok (.enter g args) w) (A0 : Option Addr) (c0 : Nat) (l0 : List S58) (w : World)
  (hp : PredK Try.prog k58 g lb aggOf p w) (hr0 : Kd.C k58 w A0 l0.length l0) :
  Calls Try.prog 77 #[.slice A0 l0.length c0, .func (.func g) #[] lb] w fun e w' => e = .returned (.int .i64 (idxI p l0)) ∧ Below w.heap.size w w' := by
 have hu_ := Try.underlying58; have HR := Zq_.mk hr0; have HP := Zq_.mk hp; have HM := Zq_.mk (Kd.C_max hr0); clear hr0 hp; have HB := Zq_.mk (Below.refl w.heap.size w)
 go_enter Try.func77, Try.ntmps77
 go_wp2
 go_loopg [5, 8] l0.length (fun gg _ s8 wr => ∃ i : Int, s8 = .int .i64 i ∧ Zq_ (0 ≤ i ∧ i ≤ (l0.length : Int) ∧ l0.length - i.toNat ≤ gg) ∧ Zq_ (Below w.heap.size w wr) ∧ Zq_ (∀ j, j < i.toNat → p (l0.getD j z58) = false))
 case atStart => exact ⟨0, rfl, ⟨by omega⟩, HB, ⟨fun j hj => absurd hj (Nat.not_lt_zero _)⟩⟩
 case round =>
  obtain ⟨i, rfl, HI, BW, A⟩ := hrel
  by_cases hlt : i < (l0.length : Int)
  ·have hltb : decide (i < (l0.length : Int)) = true := decide_eq_true hlt; have p1 := HI.out.1; obtain ⟨ad, e_, hx_0, hx_1, hx_2⟩ := at_T58 HR.out i p1 hlt; cases e_; replace hx_0 := (BW.out.cell (wb_ w _ hx_0)).trans hx_0; replace hx_1 := (BW.out.cell (wb_ w _ hx_1)).trans hx_1; replace hx_2 := (BW.out.cell (wb_ w _ hx_2)).trans hx_2; have hcall : Calls Try.prog g (#[.agg #[.int .i64 (rd_T58 l0 i).f0, .int .i64 (rd_T58 l0 i).f1, .string (rd_T58 l0 i).f2]] ++ lb) wr (fun e w1 => e = .returned (.bool (p (rd_T58 l0 i))) ∧ Below wr.heap.size wr w1) := HP.out wr (rd_T58 l0 i) [.int .i64 (rd_T58 l0 i).f0, .int .i64 (rd_T58 l0 i).f1, .string (rd_T58 l0 i).f2] BW.out (k58_mk wr (rd_T58 l0 i)); have HL := Zq_.mk hlt; replace p1 := eq_true p1; replace hlt := eq_true hlt; have hwr := Zq_.mk (show wrap64 (i + 1) = i + 1 by have := HI.out; have := HM.out; have := HL.out; unfold wrap64; omega)
   cases hq : p (rd_T58 l0 i) with
   | true =>
    rw [hq] at hcall; have HQ := Zq_.mk hq; clear hq
    go_wp2_with fail
    refine hcall.mono ?_; rintro e w1 ⟨rfl, hb1⟩
    go_wp2_with fail
    go_ret
    refine ⟨?_, (by have hb2 := qo_ BW.out hb1; exact hb2)⟩; have h1 := HI.out; have h2 := HL.out; rw [idxI_hit p l0 z58 i.toNat (by omega) HQ.out A.out, Int.toNat_of_nonneg h1.1]; rfl
   | false =>
    rw [hq] at hcall; have HQ := Zq_.mk hq; clear hq
    go_wp2_with fail
    refine hcall.mono ?_; rintro e w1 ⟨rfl, hb1⟩
    go_wp2_with fail
    go_roundg (l0.length - (i.toNat + 1))
    case measure => have h1 := HI.out; have h2 := HL.out; omega
    case rel => exact ⟨wrap64 (i + 1), eS_, ⟨by rw [hwr.out]; have h1 := HI.out; have h2 := HL.out; omega⟩, ⟨qo_ BW.out hb1⟩, ⟨fun j hj => by
     rw [hwr.out] at hj; have h1 := HI.out
     by_cases e : j = i.toNat
     ·subst e; exact HQ.out
     ·exact A.out j (by omega)⟩⟩
  ·have hltb : decide (i < (l0.length : Int)) = false := decide_eq_false hlt; have HL := Zq_.mk hlt; clear hlt
   go_wp2
   go_ret
   refine ⟨?_, BW.out⟩; have h1 := HI.out; have h2 := HL.out; rw [idxI_miss p l0 z58 (fun j hj => A.out j (by omega))]; rfl
open Go.Proofs.YtgipbmjkgciccaaW.Hw in
theorem IndexFuncN.calls (p : S39 → Bool) (g : Nat) (lb : Array Value) (eg : ∀ args w, (callFunc g args).run Try.prog w = .ok (.enter g args) w) (A0 : Option Addr) (c0 : Nat) (l0 : List S39) (w : World)
  (hp : PredK Try.prog k39 g lb aggOf p w) (hr0 : Kd.C k39 w A0 l0.length l0) :
  Calls Try.prog 72 #[.slice A0 l0.length c0, .func (.func g) #[] lb] w fun e w' => e = .returned (.int .i64 (idxI p l0)) ∧ Below w.heap.size w w' := by
 have hu_ := Try.underlying39; have HR := Zq_.mk hr0; have HP := Zq_.mk hp; have HM := Zq_.mk (Kd.C_max hr0); clear hr0 hp; have HB := Zq_.mk (Below.refl w.heap.size w)
 go_enter Try.func72, Try.ntmps72
 go_wp2
 go_loopg [5, 8] l0.length (fun gg _ s8 wr => ∃ i : Int, s8 = .int .i64 i ∧ Zq_ (0 ≤ i ∧ i ≤ (l0.length : Int) ∧ l0.length - i.toNat ≤ gg) ∧ Zq_ (Below w.heap.size w wr) ∧ Zq_ (∀ j, j < i.toNat → p (l0.getD j z39) = false))
 case atStart => exact ⟨0, rfl, ⟨by omega⟩, HB, ⟨fun j hj => absurd hj (Nat.not_lt_zero _)⟩⟩
 case round =>
  obtain ⟨i, rfl, HI, BW, A⟩ := hrel
  by_cases hlt : i < (l0.length : Int)
  ·have hltb : decide (i < (l0.length : Int)) = true := decide_eq_true hlt; have p1 := HI.out.1; obtain ⟨ad, A3_, c3_, e_, hx_0, hx_1, hx_2, hx_3, l3_, g3_⟩ := at_T39 HR.out i p1 hlt; cases e_; replace hx_0 := (BW.out.cell (wb_ w _ hx_0)).trans hx_0; replace hx_1 := (BW.out.cell (wb_ w _ hx_1)).trans hx_1; replace hx_2 := (BW.out.cell (wb_ w _ hx_2)).trans hx_2; replace hx_3 := (BW.out.cell (wb_ w _ hx_3)).trans hx_3; have hcall : Calls Try.prog g (#[.agg #[.int .i64 (rd_T39 l0 i).f0, .int .i64 (rd_T39 l0 i).f1.f0, .int .i64 (rd_T39 l0 i).f1.f1, .slice A3_ (rd_T39 l0 i).f1.f2.length c3_]] ++ lb) wr (fun e w1 => e = .returned (.bool (p (rd_T39 l0 i))) ∧ Below wr.heap.size wr w1) := HP.out wr (rd_T39 l0 i) [.int .i64 (rd_T39 l0 i).f0, .int .i64 (rd_T39 l0 i).f1.f0, .int .i64 (rd_T39 l0 i).f1.f1, .slice A3_ (rd_T39 l0 i).f1.f2.length c3_] BW.out (k39_mk wr (rd_T39 l0 i) l3_ (Kd.qg_ g3_ BW.out)); have HL := Zq_.mk hlt; replace p1 := eq_true p1; replace hlt := eq_true hlt; have hwr := Zq_.mk (show wrap64 (i + 1) = i + 1 by have := HI.out; have := HM.out; have := HL.out; unfold wrap64; omega)
   cases hq : p (rd_T39 l0 i) with
   | true =>
    rw [hq] at hcall; have HQ := Zq_.mk hq; clear hq
    go_wp2_with fail
    refine hcall.mono ?_; rintro e w1 ⟨rfl, hb1⟩
    go_wp2_with fail
    go_ret
    refine ⟨?_, (by have hb2 := qo_ BW.out hb1; exact hb2)⟩; have h1 := HI.out; have h2 := HL.out; rw [idxI_hit p l0 z39 i.toNat (by omega) HQ.out A.out, Int.toNat_of_nonneg h1.1]; rfl
   | false =>
    rw [hq] at hcall; have HQ := Zq_.mk hq; clear hq
    go_wp2_with fail
    refine hcall.mono ?_; rintro e w1 ⟨rfl, hb1⟩
    go_wp2_with fail
    go_roundg (l0.length - (i.toNat + 1))
    case measure => have h1 := HI.out; have h2 := HL.out; omega
    case rel => exact ⟨wrap64 (i + 1), eS_, ⟨by rw [hwr.out]; have h1 := HI.out; have h2 := HL.out; omega⟩, ⟨qo_ BW.out hb1⟩, ⟨fun j hj => by
     rw [hwr.out] at hj; have h1 := HI.out
     by_cases e : j = i.toNat
     ·subst e; exact HQ.out
     ·exact A.out j (by omega)⟩⟩
  ·have hltb : decide (i < (l0.length : Int)) = false := decide_eq_false hlt; have HL := Zq_.mk hlt; clear hlt
   go_wp2
   go_ret
   refine ⟨?_, BW.out⟩; have h1 := HI.out; have h2 := HL.out; rw [idxI_miss p l0 z39 (fun j hj => A.out j (by omega))]; rfl
open Go.Proofs.YtgipbmjkgciccaaW.Hw in
theorem GrowN.calls (n : Nat) (hn : n < 1099511627776) (w : World) : Calls Try.prog 84 #[.slice none 0 0, .int .i64 (n : Int)] w fun e w' => ∃ v0_ : Value, e = .returned v0_ ∧ Kd.R k39 39 w' w.heap.size (fun _ => True) v0_ ([] : List S39) ∧ Below w.heap.size w w' := by
 have hneg : decide ((n : Int) < 0) = false := decide_eq_false (by omega)
 rcases Nat.eq_zero_or_pos n with rfl | hp
 ·clear hn hneg
  go_enter Try.func84, Try.ntmps84
  go_wp2
  go_ret
  exact ⟨_, rfl, Kd.R_nil _ _ _ _ _, Below.refl _ _⟩
 ·have hw1 : wrap64 ((n : Int) - 0) = (n : Int) := by unfold wrap64; omega
  have hw2 : IntKind.i64.wrap ((n : Int)) = (n : Int) := by rw [IntKind.wrap_i64]; omega
  have hpos : decide ((0 : Int) < (n : Int)) = true := decide_eq_true (by omega); have hpn := decide_eq_true hp; obtain ⟨v1, w1, hrun, hR1, hg1, _⟩ := Kd.R_zeros_run (P := Try.prog) k39 w.heap.size 22 3 22 39 (.agg #[.int .i64 0, .int .i64 0, .int .i64 0, .slice none 0 0]) 48 Try.underlying22 Try.underlying3 info39 rfl (by decide) (by omega) (.slice none 0 0) ([] : List S39) z39 (ok := fun _ => True) (k39_mkM w _ _ z39 (Kd.R_nil _ _ w _ _)) (fun _ _ => trivial) (Kd.R_nil _ _ w _ _) .i64 (n : Int) (by omega) (by simp; omega) (Nat.le_refl _)
  have hlen : 0 < (([] : List S39) ++ List.replicate (n : Int).toNat z39).length := by simp; omega
  obtain ⟨g1, c1, rfl, hb1, hlt1, _⟩ := Kd.R_form hR1 hlen; have HR := Zq_.mk (Kd.R_take (m := 0) hR1 (Nat.zero_le _)); have HB := Zq_.mk ((Below.refl w.heap.size w).grown hg1 (Nat.le_refl _) (fun k hk => by simp [Value.ownBlock] at hk)); clear hlen hR1 hg1 hb1 hlt1 hp hn
  go_enter Try.func84, Try.ntmps84
  go_wp2_with (at_builtin; refine wpList_append_run _ rfl _ _ 22 3 rfl _ _ rfl rfl hrun ?_)
  go_ret
  exact ⟨_, rfl, by simpa using HR.out, HB.out⟩
def entry_higher.f (aF : Int) (aC : Int) (aE : ByteArray) (aK : Int) (aH : Int) (aJ : ByteArray) : Option (Int × Int × ByteArray) := if aH > aC then (some (aK, aH, aJ)) else (if aH = aC then (if (Op.bytesLess aE.toList aJ.toList) = true then (some (aK, aH, aJ)) else (some (aF, aC, aE))) else (some (aF, aC, aE)))
theorem entry_higher.calls (aF : Int) (aC : Int) (aE : ByteArray) (aK : Int) (aH : Int) (aJ : ByteArray) (r1 : Int) (r2 : Int) (r3 : ByteArray) (w : World) (h : entry_higher.f aF aC aE aK aH aJ = some (r1, r2, r3)) :
  Calls Try.prog 85 #[.agg #[.int .i64 aF, .int .i64 aC, .string aE], .agg #[.int .i64 aK, .int .i64 aH, .string aJ]] w fun e w' => e = .returned (.agg #[.int .i64 r1, .int .i64 r2, .string r3]) ∧ Below w.heap.size w w' := by
 have hu58 := Try.underlying58; have HB := Zq_.mk (Below.refl w.heap.size w); have H : (if aH > aC then (some (aK, aH, aJ)) else (if aH = aC then (if (Op.bytesLess aE.toList aJ.toList) = true then (some (aK, aH, aJ)) else (some (aF, aC, aE))) else (some (aF, aC, aE)))) = some (r1, r2, r3) := h; clear h
 by_cases c3 : aH > aC
 ·rw [if_pos c3] at H; have c3b0 : decide (aC < aH) = true := decide_eq_true c3; clear c3; simp only [Option.some.injEq, Prod.mk.injEq] at H; obtain ⟨rfl, rfl, rfl⟩ := H
  go_enter Try.func85, Try.ntmps85
  go_wp2_with (first | ((with_reducible refine qd_ (N := 2) rfl ?_); refine bE_ 2 #[.int .i64 aF, .int .i64 aC, .string aE] 58 ?_; intro aA hg w4 hbox hb; have aB := Zq_.mk (hbox); have aU := gW_ (w := w) hg (hB_ HB); have aX := gW_ (w := w) hg (hB_ HB); replace HB := sB_ HB hb; clear hb hbox hg) | ((with_reducible refine qd_ (N := 3) rfl ?_); refine bE_ 3 #[.int .i64 aK, .int .i64 aH, .string aJ] 58 ?_; intro aD hg w5 hbox hb; have aG := Zq_.mk (hbox); have aT := gW_ (w := w) hg (by exact hSet_ HB); have aW := gW_ (w := w) hg (by exact hSet_ HB); replace HB := sB_ HB hb; have aQ := Zq_.mk ((by rw [hg]; exact Nat.ne_of_lt (blk_lt (g := aA) (o := .cells #[.int .i64 aF, .int .i64 aC, .string aE] 58 (0, 0)) (by exact bK_ aB)) : aA ≠ aD)); have aO := Zq_.mk ((by rw [hg]; exact Nat.ne_of_gt (blk_lt (g := aA) (o := .cells #[.int .i64 aF, .int .i64 aC, .string aE] 58 (0, 0)) (by exact bK_ aB)) : aD ≠ aA)); replace aB := Zq_.mk (qc_ (g := aA) (o := .cells #[.int .i64 aF, .int .i64 aC, .string aE] 58 (0, 0)) (by exact bK_ aB) hb); clear hb hbox hg) | ((with_reducible refine qd_ (N := 4) rfl ?_); refine bE_ 4 #[.int .i64 0, .int .i64 0, .string (⟨#[]⟩ : ByteArray)] 58 ?_; intro aI hg w6 hbox hb; have aR := Zq_.mk (hbox); have aS := gW_ (w := w) hg (by exact hSet_ HB); have aV := gW_ (w := w) hg (by exact hSet_ HB); replace HB := sB_ HB hb; have aP := Zq_.mk ((by rw [hg]; exact Nat.ne_of_lt (blk_lt (g := aA) (o := .cells #[.int .i64 aF, .int .i64 aC, .string aE] 58 (0, 0)) (by exact bK_ aB)) : aA ≠ aI)); have aM := Zq_.mk ((by rw [hg]; exact Nat.ne_of_gt (blk_lt (g := aA) (o := .cells #[.int .i64 aF, .int .i64 aC, .string aE] 58 (0, 0)) (by exact bK_ aB)) : aI ≠ aA)); replace aB := Zq_.mk (qc_ (g := aA) (o := .cells #[.int .i64 aF, .int .i64 aC, .string aE] 58 (0, 0)) (by exact bK_ aB) hb); have aN := Zq_.mk ((by rw [hg]; exact Nat.ne_of_lt (blk_lt (g := aD) (o := .cells #[.int .i64 aK, .int .i64 aH, .string aJ] 58 (0, 0)) (by exact bK_ aG)) : aD ≠ aI)); have aL := Zq_.mk ((by rw [hg]; exact Nat.ne_of_gt (blk_lt (g := aD) (o := .cells #[.int .i64 aK, .int .i64 aH, .string aJ] 58 (0, 0)) (by exact bK_ aG)) : aI ≠ aD)); replace aG := Zq_.mk (qc_ (g := aD) (o := .cells #[.int .i64 aK, .int .i64 aH, .string aJ] 58 (0, 0)) (by exact bK_ aG) hb); clear hb hbox hg; have hnb7 := aO.out; have hnc7 := aQ.out; have hnb8 := aN.out; have hnc8 := aL.out; obtain ⟨hcz9_0, hcz9_1, hcz9_2⟩ := c3_ aG; obtain ⟨hfz9_0, hfz9_1, hfz9_2⟩ := f3_ aG; have hnb10 := aP.out; have hnc10 := aM.out; obtain ⟨hcz11_0, hcz11_1, hcz11_2⟩ := c3_ aB; obtain ⟨hfz11_0, hfz11_1, hfz11_2⟩ := f3_ aB; obtain ⟨hcz12_0, hcz12_1, hcz12_2⟩ := c3_ aR; obtain ⟨hfz12_0, hfz12_1, hfz12_2⟩ := f3_ aR))
  refine bodyPost_ret (results_cell_row rfl _ _ aI 58 #[.int .i64 aK, .int .i64 aH, .string aJ] (0, 0) _ rfl (by refine bP_ (cs := #[.int .i64 aK, .int .i64 aH, .string (⟨#[]⟩ : ByteArray)]) 2 ?_; refine bP_ (cs := #[.int .i64 aK, .int .i64 0, .string (⟨#[]⟩ : ByteArray)]) 1 ?_; refine bP_ (cs := #[.int .i64 0, .int .i64 0, .string (⟨#[]⟩ : ByteArray)]) 0 ?_; exact bK_ aR) Try.underlying58 rfl (by kernel_rfl)) rfl ?_; exact ⟨by exact eW_, by exact hSet_ HB⟩
 ·rw [if_neg c3] at H; have c3b0 : decide (aC < aH) = false := decide_eq_false c3; clear c3
  by_cases c13 : aH = aC
  ·rw [if_pos c13] at H; have bA : (aH == aC) = true := beq_iff_eq.mpr c13; have aZ : (aH != aC) = false := bne_eq_false_iff_eq.mpr c13; clear c13
   by_cases c14 : (Op.bytesLess aE.toList aJ.toList) = true
   ·rw [if_pos c14] at H; have aY : (Op.bytesLess aE.toList aJ.toList) = true := c14; clear c14; simp only [Option.some.injEq, Prod.mk.injEq] at H; obtain ⟨rfl, rfl, rfl⟩ := H
    go_enter Try.func85, Try.ntmps85
    go_wp2_with (first | ((with_reducible refine qd_ (N := 2) rfl ?_); refine bE_ 2 #[.int .i64 aF, .int .i64 aC, .string aE] 58 ?_; intro aA hg w15 hbox hb; have aB := Zq_.mk (hbox); have aU := gW_ (w := w) hg (hB_ HB); have aX := gW_ (w := w) hg (hB_ HB); replace HB := sB_ HB hb; clear hb hbox hg) | ((with_reducible refine qd_ (N := 3) rfl ?_); refine bE_ 3 #[.int .i64 aK, .int .i64 aH, .string aJ] 58 ?_; intro aD hg w16 hbox hb; have aG := Zq_.mk (hbox); have aT := gW_ (w := w) hg (by exact hSet_ HB); have aW := gW_ (w := w) hg (by exact hSet_ HB); replace HB := sB_ HB hb; have aQ := Zq_.mk ((by rw [hg]; exact Nat.ne_of_lt (blk_lt (g := aA) (o := .cells #[.int .i64 aF, .int .i64 aC, .string aE] 58 (0, 0)) (by exact bK_ aB)) : aA ≠ aD)); have aO := Zq_.mk ((by rw [hg]; exact Nat.ne_of_gt (blk_lt (g := aA) (o := .cells #[.int .i64 aF, .int .i64 aC, .string aE] 58 (0, 0)) (by exact bK_ aB)) : aD ≠ aA)); replace aB := Zq_.mk (qc_ (g := aA) (o := .cells #[.int .i64 aF, .int .i64 aC, .string aE] 58 (0, 0)) (by exact bK_ aB) hb); clear hb hbox hg) | ((with_reducible refine qd_ (N := 4) rfl ?_); refine bE_ 4 #[.int .i64 0, .int .i64 0, .string (⟨#[]⟩ : ByteArray)] 58 ?_; intro aI hg w17 hbox hb; have aR := Zq_.mk (hbox); have aS := gW_ (w := w) hg (by exact hSet_ HB); have aV := gW_ (w := w) hg (by exact hSet_ HB); replace HB := sB_ HB hb; have aP := Zq_.mk ((by rw [hg]; exact Nat.ne_of_lt (blk_lt (g := aA) (o := .cells #[.int .i64 aF, .int .i64 aC, .string aE] 58 (0, 0)) (by exact bK_ aB)) : aA ≠ aI)); have aM := Zq_.mk ((by rw [hg]; exact Nat.ne_of_gt (blk_lt (g := aA) (o := .cells #[.int .i64 aF, .int .i64 aC, .string aE] 58 (0, 0)) (by exact bK_ aB)) : aI ≠ aA)); replace aB := Zq_.mk (qc_ (g := aA) (o := .cells #[.int .i64 aF, .int .i64 aC, .string aE] 58 (0, 0)) (by exact bK_ aB) hb); have aN := Zq_.mk ((by rw [hg]; exact Nat.ne_of_lt (blk_lt (g := aD) (o := .cells #[.int .i64 aK, .int .i64 aH, .string aJ] 58 (0, 0)) (by exact bK_ aG)) : aD ≠ aI)); have aL := Zq_.mk ((by rw [hg]; exact Nat.ne_of_gt (blk_lt (g := aD) (o := .cells #[.int .i64 aK, .int .i64 aH, .string aJ] 58 (0, 0)) (by exact bK_ aG)) : aI ≠ aD)); replace aG := Zq_.mk (qc_ (g := aD) (o := .cells #[.int .i64 aK, .int .i64 aH, .string aJ] 58 (0, 0)) (by exact bK_ aG) hb); clear hb hbox hg; have hnb18 := aO.out; have hnc18 := aQ.out; have hnb19 := aN.out; have hnc19 := aL.out; obtain ⟨hcz20_0, hcz20_1, hcz20_2⟩ := c3_ aG; obtain ⟨hfz20_0, hfz20_1, hfz20_2⟩ := f3_ aG; have hnb21 := aP.out; have hnc21 := aM.out; obtain ⟨hcz22_0, hcz22_1, hcz22_2⟩ := c3_ aB; obtain ⟨hfz22_0, hfz22_1, hfz22_2⟩ := f3_ aB; obtain ⟨hcz23_0, hcz23_1, hcz23_2⟩ := c3_ aR; obtain ⟨hfz23_0, hfz23_1, hfz23_2⟩ := f3_ aR))
    refine bodyPost_ret (results_cell_row rfl _ _ aI 58 #[.int .i64 aK, .int .i64 aH, .string aJ] (0, 0) _ rfl (by refine bP_ (cs := #[.int .i64 aK, .int .i64 aH, .string (⟨#[]⟩ : ByteArray)]) 2 ?_; refine bP_ (cs := #[.int .i64 aK, .int .i64 0, .string (⟨#[]⟩ : ByteArray)]) 1 ?_; refine bP_ (cs := #[.int .i64 0, .int .i64 0, .string (⟨#[]⟩ : ByteArray)]) 0 ?_; exact bK_ aR) Try.underlying58 rfl (by kernel_rfl)) rfl ?_; exact ⟨by exact eW_, by exact hSet_ HB⟩
   ·rw [if_neg c14] at H
    have aY : (Op.bytesLess aE.toList aJ.toList) = false := by simpa using c14
    clear c14; simp only [Option.some.injEq, Prod.mk.injEq] at H; obtain ⟨rfl, rfl, rfl⟩ := H
    go_enter Try.func85, Try.ntmps85
    go_wp2_with (first | ((with_reducible refine qd_ (N := 2) rfl ?_); refine bE_ 2 #[.int .i64 aF, .int .i64 aC, .string aE] 58 ?_; intro aA hg w24 hbox hb; have aB := Zq_.mk (hbox); have aU := gW_ (w := w) hg (hB_ HB); have aX := gW_ (w := w) hg (hB_ HB); replace HB := sB_ HB hb; clear hb hbox hg) | ((with_reducible refine qd_ (N := 3) rfl ?_); refine bE_ 3 #[.int .i64 aK, .int .i64 aH, .string aJ] 58 ?_; intro aD hg w25 hbox hb; have aG := Zq_.mk (hbox); have aT := gW_ (w := w) hg (by exact hSet_ HB); have aW := gW_ (w := w) hg (by exact hSet_ HB); replace HB := sB_ HB hb; have aQ := Zq_.mk ((by rw [hg]; exact Nat.ne_of_lt (blk_lt (g := aA) (o := .cells #[.int .i64 aF, .int .i64 aC, .string aE] 58 (0, 0)) (by exact bK_ aB)) : aA ≠ aD)); have aO := Zq_.mk ((by rw [hg]; exact Nat.ne_of_gt (blk_lt (g := aA) (o := .cells #[.int .i64 aF, .int .i64 aC, .string aE] 58 (0, 0)) (by exact bK_ aB)) : aD ≠ aA)); replace aB := Zq_.mk (qc_ (g := aA) (o := .cells #[.int .i64 aF, .int .i64 aC, .string aE] 58 (0, 0)) (by exact bK_ aB) hb); clear hb hbox hg) | ((with_reducible refine qd_ (N := 4) rfl ?_); refine bE_ 4 #[.int .i64 0, .int .i64 0, .string (⟨#[]⟩ : ByteArray)] 58 ?_; intro aI hg w26 hbox hb; have aR := Zq_.mk (hbox); have aS := gW_ (w := w) hg (by exact hSet_ HB); have aV := gW_ (w := w) hg (by exact hSet_ HB); replace HB := sB_ HB hb; have aP := Zq_.mk ((by rw [hg]; exact Nat.ne_of_lt (blk_lt (g := aA) (o := .cells #[.int .i64 aF, .int .i64 aC, .string aE] 58 (0, 0)) (by exact bK_ aB)) : aA ≠ aI)); have aM := Zq_.mk ((by rw [hg]; exact Nat.ne_of_gt (blk_lt (g := aA) (o := .cells #[.int .i64 aF, .int .i64 aC, .string aE] 58 (0, 0)) (by exact bK_ aB)) : aI ≠ aA)); replace aB := Zq_.mk (qc_ (g := aA) (o := .cells #[.int .i64 aF, .int .i64 aC, .string aE] 58 (0, 0)) (by exact bK_ aB) hb); have aN := Zq_.mk ((by rw [hg]; exact Nat.ne_of_lt (blk_lt (g := aD) (o := .cells #[.int .i64 aK, .int .i64 aH, .string aJ] 58 (0, 0)) (by exact bK_ aG)) : aD ≠ aI)); have aL := Zq_.mk ((by rw [hg]; exact Nat.ne_of_gt (blk_lt (g := aD) (o := .cells #[.int .i64 aK, .int .i64 aH, .string aJ] 58 (0, 0)) (by exact bK_ aG)) : aI ≠ aD)); replace aG := Zq_.mk (qc_ (g := aD) (o := .cells #[.int .i64 aK, .int .i64 aH, .string aJ] 58 (0, 0)) (by exact bK_ aG) hb); clear hb hbox hg; have hnb27 := aO.out; have hnc27 := aQ.out; have hnb28 := aN.out; have hnc28 := aL.out; obtain ⟨hcz29_0, hcz29_1, hcz29_2⟩ := c3_ aG; obtain ⟨hfz29_0, hfz29_1, hfz29_2⟩ := f3_ aG; have hnb30 := aP.out; have hnc30 := aM.out; obtain ⟨hcz31_0, hcz31_1, hcz31_2⟩ := c3_ aB; obtain ⟨hfz31_0, hfz31_1, hfz31_2⟩ := f3_ aB; obtain ⟨hcz32_0, hcz32_1, hcz32_2⟩ := c3_ aR; obtain ⟨hfz32_0, hfz32_1, hfz32_2⟩ := f3_ aR))
    refine bodyPost_ret (results_cell_row rfl _ _ aI 58 #[.int .i64 aF, .int .i64 aC, .string aE] (0, 0) _ rfl (by refine bP_ (cs := #[.int .i64 aF, .int .i64 aC, .string (⟨#[]⟩ : ByteArray)]) 2 ?_; refine bP_ (cs := #[.int .i64 aF, .int .i64 0, .string (⟨#[]⟩ : ByteArray)]) 1 ?_; refine bP_ (cs := #[.int .i64 0, .int .i64 0, .string (⟨#[]⟩ : ByteArray)]) 0 ?_; exact bK_ aR) Try.underlying58 rfl (by kernel_rfl)) rfl ?_; exact ⟨by exact eW_, by exact hSet_ HB⟩
  ·rw [if_neg c13] at H; have bA : (aH == aC) = false := beq_eq_false_iff_ne.mpr c13; have aZ : (aH != aC) = true := bne_iff_ne.mpr c13; simp only [Option.some.injEq, Prod.mk.injEq] at H; obtain ⟨rfl, rfl, rfl⟩ := H
   go_enter Try.func85, Try.ntmps85
   go_wp2_with (first | ((with_reducible refine qd_ (N := 2) rfl ?_); refine bE_ 2 #[.int .i64 aF, .int .i64 aC, .string aE] 58 ?_; intro aA hg w33 hbox hb; have aB := Zq_.mk (hbox); have aU := gW_ (w := w) hg (hB_ HB); have aX := gW_ (w := w) hg (hB_ HB); replace HB := sB_ HB hb; clear hb hbox hg) | ((with_reducible refine qd_ (N := 3) rfl ?_); refine bE_ 3 #[.int .i64 aK, .int .i64 aH, .string aJ] 58 ?_; intro aD hg w34 hbox hb; have aG := Zq_.mk (hbox); have aT := gW_ (w := w) hg (by exact hSet_ HB); have aW := gW_ (w := w) hg (by exact hSet_ HB); replace HB := sB_ HB hb; have aQ := Zq_.mk ((by rw [hg]; exact Nat.ne_of_lt (blk_lt (g := aA) (o := .cells #[.int .i64 aF, .int .i64 aC, .string aE] 58 (0, 0)) (by exact bK_ aB)) : aA ≠ aD)); have aO := Zq_.mk ((by rw [hg]; exact Nat.ne_of_gt (blk_lt (g := aA) (o := .cells #[.int .i64 aF, .int .i64 aC, .string aE] 58 (0, 0)) (by exact bK_ aB)) : aD ≠ aA)); replace aB := Zq_.mk (qc_ (g := aA) (o := .cells #[.int .i64 aF, .int .i64 aC, .string aE] 58 (0, 0)) (by exact bK_ aB) hb); clear hb hbox hg) | ((with_reducible refine qd_ (N := 4) rfl ?_); refine bE_ 4 #[.int .i64 0, .int .i64 0, .string (⟨#[]⟩ : ByteArray)] 58 ?_; intro aI hg w35 hbox hb; have aR := Zq_.mk (hbox); have aS := gW_ (w := w) hg (by exact hSet_ HB); have aV := gW_ (w := w) hg (by exact hSet_ HB); replace HB := sB_ HB hb; have aP := Zq_.mk ((by rw [hg]; exact Nat.ne_of_lt (blk_lt (g := aA) (o := .cells #[.int .i64 aF, .int .i64 aC, .string aE] 58 (0, 0)) (by exact bK_ aB)) : aA ≠ aI)); have aM := Zq_.mk ((by rw [hg]; exact Nat.ne_of_gt (blk_lt (g := aA) (o := .cells #[.int .i64 aF, .int .i64 aC, .string aE] 58 (0, 0)) (by exact bK_ aB)) : aI ≠ aA)); replace aB := Zq_.mk (qc_ (g := aA) (o := .cells #[.int .i64 aF, .int .i64 aC, .string aE] 58 (0, 0)) (by exact bK_ aB) hb); have aN := Zq_.mk ((by rw [hg]; exact Nat.ne_of_lt (blk_lt (g := aD) (o := .cells #[.int .i64 aK, .int .i64 aH, .string aJ] 58 (0, 0)) (by exact bK_ aG)) : aD ≠ aI)); have aL := Zq_.mk ((by rw [hg]; exact Nat.ne_of_gt (blk_lt (g := aD) (o := .cells #[.int .i64 aK, .int .i64 aH, .string aJ] 58 (0, 0)) (by exact bK_ aG)) : aI ≠ aD)); replace aG := Zq_.mk (qc_ (g := aD) (o := .cells #[.int .i64 aK, .int .i64 aH, .string aJ] 58 (0, 0)) (by exact bK_ aG) hb); clear hb hbox hg; have hnb36 := aO.out; have hnc36 := aQ.out; have hnb37 := aN.out; have hnc37 := aL.out; obtain ⟨hcz38_0, hcz38_1, hcz38_2⟩ := c3_ aG; obtain ⟨hfz38_0, hfz38_1, hfz38_2⟩ := f3_ aG; have hnb39 := aP.out; have hnc39 := aM.out; obtain ⟨hcz40_0, hcz40_1, hcz40_2⟩ := c3_ aB; obtain ⟨hfz40_0, hfz40_1, hfz40_2⟩ := f3_ aB; obtain ⟨hcz41_0, hcz41_1, hcz41_2⟩ := c3_ aR; obtain ⟨hfz41_0, hfz41_1, hfz41_2⟩ := f3_ aR))
   refine bodyPost_ret (results_cell_row rfl _ _ aI 58 #[.int .i64 aF, .int .i64 aC, .string aE] (0, 0) _ rfl (by refine bP_ (cs := #[.int .i64 aF, .int .i64 aC, .string (⟨#[]⟩ : ByteArray)]) 2 ?_; refine bP_ (cs := #[.int .i64 aF, .int .i64 0, .string (⟨#[]⟩ : ByteArray)]) 1 ?_; refine bP_ (cs := #[.int .i64 0, .int .i64 0, .string (⟨#[]⟩ : ByteArray)]) 0 ?_; exact bK_ aR) Try.underlying58 rfl (by kernel_rfl)) rfl ?_; exact ⟨by exact eW_, by exact hSet_ HB⟩
theorem eqA58 (d : Nat) (w : World) (x0 y0 : Int) (x1 y1 : Int) (x2 y2 : ByteArray) :
  (Op.equalIn (d + 2) 58 (.agg #[.int .i64 x0, .int .i64 x1, .string x2]) (.agg #[.int .i64 y0, .int .i64 y1, .string y2])).run Try.prog w = .ok (x0 == y0 && (x1 == y1 && (x2.toList == y2.toList))) w := by
 refine eqA_of Try.underlying58 (by kernel_rfl) ?_; refine eqf_cons (by rfl) (by go_simp; rfl) (by go_simp; rfl) (by go_simp) ?_; refine eqf_cons (by rfl) (by go_simp; rfl) (by go_simp; rfl) (by go_simp) ?_; exact eqf_last (by rfl) (by go_simp; rfl) (by go_simp; rfl) (by go_simp)
def ref04_above.f (aH : Int) (aB : Int) (aG : ByteArray) (aL : Int) (aF : Int) (aK : ByteArray) : Option (Bool) := if aB > aF then (some true) else (if aB = aF then (some (Op.bytesLess aK.toList aG.toList)) else (some false))
theorem ref04_above.calls (aH : Int) (aB : Int) (aG : ByteArray) (aL : Int) (aF : Int) (aK : ByteArray) (r : Bool) (w : World) (h : ref04_above.f aH aB aG aL aF aK = some r) :
  Calls Try.prog 80 #[.agg #[.int .i64 aH, .int .i64 aB, .string aG], .agg #[.int .i64 aL, .int .i64 aF, .string aK]] w fun e w' => e = .returned (.bool r) ∧ Below w.heap.size w w' := by
 have hu58 := Try.underlying58; have HB := Zq_.mk (Below.refl w.heap.size w); have H : (if aB > aF then (some true) else (if aB = aF then (some (Op.bytesLess aK.toList aG.toList)) else (some false))) = some r := h; clear h
 by_cases c3 : aB > aF
 ·rw [if_pos c3] at H; have c3b0 : decide (aF < aB) = true := decide_eq_true c3; clear c3; obtain rfl := Option.some.inj H
  go_enter Try.func80, Try.ntmps80
  go_wp2_with (first | ((with_reducible refine qd_ (N := 2) rfl ?_); refine bE_ 2 #[.int .i64 aH, .int .i64 aB, .string aG] 58 ?_; intro aC hg w4 hbox hb; have aA := Zq_.mk (hbox); have aN := gW_ (w := w) hg (hB_ HB); have aP := gW_ (w := w) hg (hB_ HB); replace HB := sB_ HB hb; clear hb hbox hg) | ((with_reducible refine qd_ (N := 3) rfl ?_); refine bE_ 3 #[.int .i64 aL, .int .i64 aF, .string aK] 58 ?_; intro aI hg w5 hbox hb; have aJ := Zq_.mk (hbox); have aM := gW_ (w := w) hg (by exact hSet_ HB); have aO := gW_ (w := w) hg (by exact hSet_ HB); replace HB := sB_ HB hb; have aE := Zq_.mk ((by rw [hg]; exact Nat.ne_of_lt (blk_lt (g := aC) (o := .cells #[.int .i64 aH, .int .i64 aB, .string aG] 58 (0, 0)) (by exact bK_ aA)) : aC ≠ aI)); have aD := Zq_.mk ((by rw [hg]; exact Nat.ne_of_gt (blk_lt (g := aC) (o := .cells #[.int .i64 aH, .int .i64 aB, .string aG] 58 (0, 0)) (by exact bK_ aA)) : aI ≠ aC)); replace aA := Zq_.mk (qc_ (g := aC) (o := .cells #[.int .i64 aH, .int .i64 aB, .string aG] 58 (0, 0)) (by exact bK_ aA) hb); clear hb hbox hg; have hnb6 := aE.out; have hnc6 := aD.out; obtain ⟨hcz7_0, hcz7_1, hcz7_2⟩ := c3_ aA; obtain ⟨hfz7_0, hfz7_1, hfz7_2⟩ := f3_ aA; obtain ⟨hcz8_0, hcz8_1, hcz8_2⟩ := c3_ aJ; obtain ⟨hfz8_0, hfz8_1, hfz8_2⟩ := f3_ aJ))
  go_ret
  exact ⟨by exact eW_, by exact hSet_ HB⟩
 ·rw [if_neg c3] at H; have c3b0 : decide (aF < aB) = false := decide_eq_false c3; clear c3
  by_cases c9 : aB = aF
  ·rw [if_pos c9] at H; have c9b0 : (aB == aF) = true := beq_iff_eq.mpr c9; have c9b1 : (aB != aF) = false := bne_eq_false_iff_eq.mpr c9; clear c9; obtain rfl := Option.some.inj H
   go_enter Try.func80, Try.ntmps80
   go_wp2_with (first | ((with_reducible refine qd_ (N := 2) rfl ?_); refine bE_ 2 #[.int .i64 aH, .int .i64 aB, .string aG] 58 ?_; intro aC hg w10 hbox hb; have aA := Zq_.mk (hbox); have aN := gW_ (w := w) hg (hB_ HB); have aP := gW_ (w := w) hg (hB_ HB); replace HB := sB_ HB hb; clear hb hbox hg) | ((with_reducible refine qd_ (N := 3) rfl ?_); refine bE_ 3 #[.int .i64 aL, .int .i64 aF, .string aK] 58 ?_; intro aI hg w11 hbox hb; have aJ := Zq_.mk (hbox); have aM := gW_ (w := w) hg (by exact hSet_ HB); have aO := gW_ (w := w) hg (by exact hSet_ HB); replace HB := sB_ HB hb; have aE := Zq_.mk ((by rw [hg]; exact Nat.ne_of_lt (blk_lt (g := aC) (o := .cells #[.int .i64 aH, .int .i64 aB, .string aG] 58 (0, 0)) (by exact bK_ aA)) : aC ≠ aI)); have aD := Zq_.mk ((by rw [hg]; exact Nat.ne_of_gt (blk_lt (g := aC) (o := .cells #[.int .i64 aH, .int .i64 aB, .string aG] 58 (0, 0)) (by exact bK_ aA)) : aI ≠ aC)); replace aA := Zq_.mk (qc_ (g := aC) (o := .cells #[.int .i64 aH, .int .i64 aB, .string aG] 58 (0, 0)) (by exact bK_ aA) hb); clear hb hbox hg; have hnb12 := aE.out; have hnc12 := aD.out; obtain ⟨hcz13_0, hcz13_1, hcz13_2⟩ := c3_ aA; obtain ⟨hfz13_0, hfz13_1, hfz13_2⟩ := f3_ aA; obtain ⟨hcz14_0, hcz14_1, hcz14_2⟩ := c3_ aJ; obtain ⟨hfz14_0, hfz14_1, hfz14_2⟩ := f3_ aJ))
   go_ret
   exact ⟨by exact eW_, by exact hSet_ HB⟩
  ·rw [if_neg c9] at H; have c9b0 : (aB == aF) = false := beq_eq_false_iff_ne.mpr c9; have c9b1 : (aB != aF) = true := bne_iff_ne.mpr c9; obtain rfl := Option.some.inj H
   go_enter Try.func80, Try.ntmps80
   go_wp2_with (first | ((with_reducible refine qd_ (N := 2) rfl ?_); refine bE_ 2 #[.int .i64 aH, .int .i64 aB, .string aG] 58 ?_; intro aC hg w15 hbox hb; have aA := Zq_.mk (hbox); have aN := gW_ (w := w) hg (hB_ HB); have aP := gW_ (w := w) hg (hB_ HB); replace HB := sB_ HB hb; clear hb hbox hg) | ((with_reducible refine qd_ (N := 3) rfl ?_); refine bE_ 3 #[.int .i64 aL, .int .i64 aF, .string aK] 58 ?_; intro aI hg w16 hbox hb; have aJ := Zq_.mk (hbox); have aM := gW_ (w := w) hg (by exact hSet_ HB); have aO := gW_ (w := w) hg (by exact hSet_ HB); replace HB := sB_ HB hb; have aE := Zq_.mk ((by rw [hg]; exact Nat.ne_of_lt (blk_lt (g := aC) (o := .cells #[.int .i64 aH, .int .i64 aB, .string aG] 58 (0, 0)) (by exact bK_ aA)) : aC ≠ aI)); have aD := Zq_.mk ((by rw [hg]; exact Nat.ne_of_gt (blk_lt (g := aC) (o := .cells #[.int .i64 aH, .int .i64 aB, .string aG] 58 (0, 0)) (by exact bK_ aA)) : aI ≠ aC)); replace aA := Zq_.mk (qc_ (g := aC) (o := .cells #[.int .i64 aH, .int .i64 aB, .string aG] 58 (0, 0)) (by exact bK_ aA) hb); clear hb hbox hg; have hnb17 := aE.out; have hnc17 := aD.out; obtain ⟨hcz18_0, hcz18_1, hcz18_2⟩ := c3_ aA; obtain ⟨hfz18_0, hfz18_1, hfz18_2⟩ := f3_ aA; obtain ⟨hcz19_0, hcz19_1, hcz19_2⟩ := c3_ aJ; obtain ⟨hfz19_0, hfz19_1, hfz19_2⟩ := f3_ aJ))
   go_ret
   exact ⟨by exact eW_, by exact hSet_ HB⟩
def ref04_Get.l0 : Nat → List (S58) → Int → Int → Option (Int × Int × ByteArray × Bool)
 | 0, _, _, _ => none
 | k + 1, x0, x1, x6 => if x6 < (x0.length : Int) then (if 0 ≤ x6 then (if ((rd_T58 x0 x6).f0) = x1 then (some ((rd_T58 x0 x6).f0, (rd_T58 x0 x6).f1, (rd_T58 x0 x6).f2, true)) else (ref04_Get.l0 k x0 x1 (wrap64 (x6 + 1)))) else (none)) else (some (0, 0, (⟨#[]⟩ : ByteArray), false))
def ref04_Get.f (k : Nat) (l0 : List (S58)) (a1 : Int) : Option (Int × Int × ByteArray × Bool) := ref04_Get.l0 k l0 a1 0
theorem ref04_Get.mono_l : ∀ k, (∀ y0 y1 y2, LeO (ref04_Get.l0 k y0 y1 y2) (ref04_Get.l0 (k + 1) y0 y1 y2))
 | 0 => fun _ _ _ r h => by simp [ref04_Get.l0] at h
 | k + 1 => by
  have ih0 := ref04_Get.mono_l k
  ·intro y0 y1 y2
   unfold ref04_Get.l0
   with_reducible repeat' first | exact ih0 _ _ _ | exact LeO.refl _ | exact LeO.none _ | refine LeO.ite ?_ ?_ | refine LeO.bind ?_ (fun _ => ?_)
theorem ref04_Get.mono : ∀ a0 a1 k, LeO (ref04_Get.f k a0 a1) (ref04_Get.f (k + 1) a0 a1) := by
 intro a0 a1 k; have ih0 := ref04_Get.mono_l k
 unfold ref04_Get.f
 with_reducible repeat' first | exact ih0 _ _ _ | exact LeO.refl _ | exact LeO.none _ | refine LeO.ite ?_ ?_ | refine LeO.bind ?_ (fun _ => ?_)
theorem ref04_Get.calls (k : Nat) (A0 : Option Addr) (c0 : Nat) (l0 : List (S58)) (a1 : Int) (r1 : Int) (r2 : Int) (r3 : ByteArray) (r4 : Bool) (w : World) (hr0 : Kd.C k58 w A0 l0.length l0) (hc0 : l0.length ≤ c0) (h : ref04_Get.f k l0 a1 = some (r1, r2, r3, r4)) :
  Calls Try.prog 44 #[.slice A0 l0.length c0, .int .i64 a1] w fun e w' => e = .returned (.tuple #[.agg #[.int .i64 r1, .int .i64 r2, .string r3], .bool r4]) ∧ Below w.heap.size w w' := by
 have hu58 := Try.underlying58; have HR0 := Zq_.mk hr0; have HC0 := Zq_.mk hc0; clear hr0 hc0; have HB := Zq_.mk (Below.refl w.heap.size w); have H : (ref04_Get.l0 k l0 a1 0) = some (r1, r2, r3, r4) := h; clear h; have H' := Zq_.mk H; clear H
 go_enter Try.func44, Try.ntmps44
 go_wp2_with (first | ((with_reducible refine qd_ (N := 4) rfl ?_); refine bE_ 4 #[.int .i64 0, .int .i64 0, .string (⟨#[]⟩ : ByteArray)] 58 ?_; intro aI hg w3 hbox hb; have aE := Zq_.mk (hbox); have GW101 := gW_ (w := w) hg (hB_ HB); have GE101 := gW_ (w := w) hg (hB_ HB); replace HB := sB_ HB hb; clear hb hbox hg))
 go_loopg [6] k (fun kq v6 w' => ∃ (aA : Int) (aD : Int) (aC : Int) (aB : ByteArray), v6 = .int .i64 aA ∧ Zq_ (ref04_Get.l0 kq l0 a1 aA = some (r1, r2, r3, r4)) ∧ Zq_ (kq ≤ k) ∧ Zq_ (w'.heap[aI]? = some (.cells #[.int .i64 aD, .int .i64 aC, .string aB] 58 (0, 0))) ∧ Zq_ (Below w.heap.size w w'))
 case atStart => exact ⟨(0), (0), (0), ((⟨#[]⟩ : ByteArray)), eS_, H', ⟨Nat.le_refl _⟩, ⟨by (with_reducible repeat (first | refine blk_drewN ?_ _ | refine qi_ ?_ | refine qy_ ?_ _)); exact aE.out⟩, ⟨by exact hSet_ HB⟩⟩
 case round =>
  clear H'
  try clear p2
  obtain ⟨aA, aD, aC, aB, rfl, HA, HK1, aE, HB⟩ := hrel
  cases gk with
  | zero => exact absurd HA.out (by simp [ref04_Get.l0])
  | succ k1 =>
   have H := HA.out; clear HA; simp only [ref04_Get.l0] at H
   by_cases c4 : aA < (l0.length : Int)
   ·rw [if_pos c4] at H; have c4b0 : decide (aA < (l0.length : Int)) = true := decide_eq_true c4; clear c4
    by_cases c5 : 0 ≤ aA
    ·rw [if_pos c5] at H; have c5b0 : decide (0 ≤ aA) = true := decide_eq_true c5; clear c5
     by_cases c6 : ((rd_T58 l0 aA).f0) = a1
     ·rw [if_pos c6] at H; have c6b0 : (((rd_T58 l0 aA).f0) == a1) = true := beq_iff_eq.mpr c6; have c6b1 : (((rd_T58 l0 aA).f0) != a1) = false := bne_eq_false_iff_eq.mpr c6; clear c6; simp only [Option.some.injEq, Prod.mk.injEq] at H; obtain ⟨rfl, rfl, rfl, rfl⟩ := H; have aK : 0 ≤ (aA : Int) := dA_; have aJ : aA < (l0.length : Int) := dA_; obtain ⟨aO, aR, aH, aG, aF⟩ := at_T58 HR0.out aA aK aJ; cases aR; replace aH := hC_ HB aH; replace aG := hC_ HB aG; replace aF := hC_ HB aF; replace aK := eq_true aK; replace aJ := eq_true aJ; have aQ : 0 ≤ (aA : Int) := dA_; have aP : aA < (l0.length : Int) := dA_; obtain ⟨aS, e103, aN, aM, aL⟩ := at_T58 HR0.out aA aQ aP; obtain rfl : aO = aS := (by injection e103); replace aN := hC_ HB aN; replace aM := hC_ HB aM; replace aL := hC_ HB aL; replace aQ := eq_true aQ; replace aP := eq_true aP; have hcz7_0 : wr.cell? ⟨aI, 0, none⟩ = some (.int .i64 aD) := (qb_ aE.out 0).trans rfl; have hcz7_1 : wr.cell? ⟨aI, 1, none⟩ = some (.int .i64 aC) := (qb_ aE.out 1).trans rfl; have hcz7_2 : wr.cell? ⟨aI, 2, none⟩ = some (.string aB) := (qb_ aE.out 2).trans rfl; obtain ⟨hfz7_0, hfz7_1, hfz7_2⟩ := f3_ aE
      go_wp2
      refine bodyPost_ret (results_ct rfl _ _ aI 58 #[.int .i64 ((rd_T58 l0 aA).f0), .int .i64 ((rd_T58 l0 aA).f1), .string ((rd_T58 l0 aA).f2)] (0, 0) _ rfl (by exact bW3_ (bK_ aE)) Try.underlying58 rfl (by kernel_rfl)) rfl ?_; exact ⟨by exact eW_, by exact hSet_ HB⟩
     ·rw [if_neg c6] at H; have c6b0 : (((rd_T58 l0 aA).f0) == a1) = false := beq_eq_false_iff_ne.mpr c6; have c6b1 : (((rd_T58 l0 aA).f0) != a1) = true := bne_iff_ne.mpr c6; have H' := Zq_.mk H; clear H; have aK : 0 ≤ (aA : Int) := dA_; have aJ : aA < (l0.length : Int) := dA_; obtain ⟨aO, aR, aH, aG, aF⟩ := at_T58 HR0.out aA aK aJ; cases aR; replace aH := hC_ HB aH; replace aG := hC_ HB aG; replace aF := hC_ HB aF; replace aK := eq_true aK; replace aJ := eq_true aJ
      go_wp2
      go_roundg k1
      case measure => have := HK1.out; omega
      case rel => exact ⟨(wrap64 (aA + 1)), (aD), (aC), (aB), eS_, H', ⟨by have := HK1.out; omega⟩, ⟨by (with_reducible repeat (first | refine blk_drewN ?_ _ | refine qi_ ?_ | refine qy_ ?_ _)); exact aE.out⟩, ⟨by exact hSet_ HB⟩⟩
    ·rw [if_neg c5] at H; exact absurd H (by simp)
   ·rw [if_neg c4] at H; have c4b0 : decide (aA < (l0.length : Int)) = false := decide_eq_false c4; clear c4; simp only [Option.some.injEq, Prod.mk.injEq] at H; obtain ⟨rfl, rfl, rfl, rfl⟩ := H; have hcz8_0 : wr.cell? ⟨aI, 0, none⟩ = some (.int .i64 aD) := (qb_ aE.out 0).trans rfl; have hcz8_1 : wr.cell? ⟨aI, 1, none⟩ = some (.int .i64 aC) := (qb_ aE.out 1).trans rfl; have hcz8_2 : wr.cell? ⟨aI, 2, none⟩ = some (.string aB) := (qb_ aE.out 2).trans rfl; obtain ⟨hfz8_0, hfz8_1, hfz8_2⟩ := f3_ aE
    go_wp2
    refine bodyPost_ret (results_ct rfl _ _ aI 58 #[.int .i64 0, .int .i64 0, .string (⟨#[]⟩ : ByteArray)] (0, 0) _ rfl (by exact bW3_ (bK_ aE)) Try.underlying58 rfl (by kernel_rfl)) rfl ?_; exact ⟨by exact eW_, by exact hSet_ HB⟩
def ref04_Top.l0 : Nat → List (S58) → Int → Int → Option (Int)
 | 0, _, _, _ => none
 | k + 1, x0, x3, x4 => if x4 < (x0.length : Int) then (if 0 ≤ x4 then (ref04_Top.l0 k x0 (mx x3 ((rd_T58 x0 x4).f1)) (wrap64 (x4 + 1))) else (none)) else (some x3)
def ref04_Top.f (k : Nat) (l0 : List (S58)) : Option (Int) := ref04_Top.l0 k l0 0 0
theorem ref04_Top.mono_l : ∀ k, (∀ y0 y1 y2, LeO (ref04_Top.l0 k y0 y1 y2) (ref04_Top.l0 (k + 1) y0 y1 y2))
 | 0 => fun _ _ _ r h => by simp [ref04_Top.l0] at h
 | k + 1 => by
  have ih0 := ref04_Top.mono_l k
  ·intro y0 y1 y2
   unfold ref04_Top.l0
   with_reducible repeat' first | exact ih0 _ _ _ | exact LeO.refl _ | exact LeO.none _ | refine LeO.ite ?_ ?_ | refine LeO.bind ?_ (fun _ => ?_)
theorem ref04_Top.mono : ∀ a0 k, LeO (ref04_Top.f k a0) (ref04_Top.f (k + 1) a0) := by
 intro a0 k; have ih0 := ref04_Top.mono_l k
 unfold ref04_Top.f
 with_reducible repeat' first | exact ih0 _ _ _ | exact LeO.refl _ | exact LeO.none _ | refine LeO.ite ?_ ?_ | refine LeO.bind ?_ (fun _ => ?_)
theorem ref04_Top.calls (k : Nat) (A0 : Option Addr) (c0 : Nat) (l0 : List (S58)) (r : Int) (w : World) (hr0 : Kd.C k58 w A0 l0.length l0) (hc0 : l0.length ≤ c0) (h : ref04_Top.f k l0 = some r) :
  Calls Try.prog 65 #[.slice A0 l0.length c0] w fun e w' => e = .returned (.int .i64 r) ∧ Below w.heap.size w w' := by
 have HR0 := Zq_.mk hr0; have HC0 := Zq_.mk hc0; clear hr0 hc0; have HB := Zq_.mk (Below.refl w.heap.size w); have H : (ref04_Top.l0 k l0 0 0) = some r := h; clear h; have H' := Zq_.mk H; clear H
 go_enter Try.func65, Try.ntmps65
 go_wp2
 go_loopg [3, 4] k (fun kq v3 v4 w' => ∃ (aE : Int) (aA : Int), v3 = .int .i64 aE ∧ v4 = .int .i64 aA ∧ Zq_ (ref04_Top.l0 kq l0 aE aA = some r) ∧ Zq_ (kq ≤ k) ∧ Zq_ (Below w.heap.size w w'))
 case atStart => exact ⟨(0), (0), eS_, eS_, H', ⟨Nat.le_refl _⟩, ⟨hB_ HB⟩⟩
 case round =>
  clear H'; obtain ⟨aE, aA, rfl, rfl, HA, HK1, HB⟩ := hrel
  cases gk with
  | zero => exact absurd HA.out (by simp [ref04_Top.l0])
  | succ k1 =>
   have H := HA.out; clear HA; simp only [ref04_Top.l0] at H
   by_cases c2 : aA < (l0.length : Int)
   ·rw [if_pos c2] at H; have c2b0 : decide (aA < (l0.length : Int)) = true := decide_eq_true c2; clear c2
    by_cases c3 : 0 ≤ aA
    ·rw [if_pos c3] at H; have c3b0 : decide (0 ≤ aA) = true := decide_eq_true c3; clear c3; obtain ⟨ji4, aF⟩ : ∃ j_ : Int, (mx aE ((rd_T58 l0 aA).f1)) = j_ := ⟨_, rfl⟩
     replace H : (ref04_Top.l0 k1 l0 ji4 (wrap64 (aA + 1))) = some r := by first | (rw [aF] at H; exact H) | (simp only [aF] at H ⊢; exact H)
     have hji4_ : (if aE < ((rd_T58 l0 aA).f1) then ((rd_T58 l0 aA).f1) else aE) = ji4 := aF; have H' := Zq_.mk H; clear H; have aH : 0 ≤ (aA : Int) := dA_; have aG : aA < (l0.length : Int) := dA_; obtain ⟨ad101, e101, aD, aC, aB⟩ := at_T58 HR0.out aA aH aG; cases e101; replace aD := hC_ HB aD; replace aC := hC_ HB aC; replace aB := hC_ HB aB; replace aH := eq_true aH; replace aG := eq_true aG
     go_wp2
     go_roundg k1
     case measure => have := HK1.out; omega
     case rel => exact ⟨(ji4), (wrap64 (aA + 1)), (by first | rfl | (simp; done) | (simp only [← aF] <;> (first | rfl | simp)) | (simp [*]; done)), eS_, H', ⟨by have := HK1.out; omega⟩, ⟨hB_ HB⟩⟩
    ·rw [if_neg c3] at H; exact absurd H (by simp)
   ·rw [if_neg c2] at H; have c2b0 : decide (aA < (l0.length : Int)) = false := decide_eq_false c2; clear c2; obtain rfl := Option.some.inj H
    go_wp2
    go_ret
    exact ⟨by exact eW_, hB_ HB⟩
def ref04_Above.l0 : Nat → List (S58) → Int → List (S58) → Int → Option ((List (S58)))
 | 0, _, _, _, _ => none
 | k + 1, x0, x1, x5, x6 => if x6 < (x0.length : Int) then (if 0 ≤ x6 then (if ((rd_T58 x0 x6).f1) > x1 then (if x5.length < 4398046511104 then (ref04_Above.l0 k x0 x1 (x5 ++ [(⟨(rd_T58 x0 x6).f0, (rd_T58 x0 x6).f1, (rd_T58 x0 x6).f2⟩ : S58)]) (wrap64 (x6 + 1))) else (none)) else (ref04_Above.l0 k x0 x1 x5 (wrap64 (x6 + 1)))) else (none)) else (some x5)
def ref04_Above.f (k : Nat) (l0 : List (S58)) (a1 : Int) : Option ((List (S58))) := ref04_Above.l0 k l0 a1 ([] : List (S58)) 0
theorem ref04_Above.mono_l : ∀ k, (∀ y0 y1 y2 y3, LeO (ref04_Above.l0 k y0 y1 y2 y3) (ref04_Above.l0 (k + 1) y0 y1 y2 y3))
 | 0 => fun _ _ _ _ r h => by simp [ref04_Above.l0] at h
 | k + 1 => by
  have ih0 := ref04_Above.mono_l k
  ·intro y0 y1 y2 y3
   unfold ref04_Above.l0
   with_reducible repeat' first | exact ih0 _ _ _ _ | exact LeO.refl _ | exact LeO.none _ | refine LeO.ite ?_ ?_ | refine LeO.bind ?_ (fun _ => ?_)
theorem ref04_Above.mono : ∀ a0 a1 k, LeO (ref04_Above.f k a0 a1) (ref04_Above.f (k + 1) a0 a1) := by
 intro a0 a1 k; have ih0 := ref04_Above.mono_l k
 unfold ref04_Above.f
 with_reducible repeat' first | exact ih0 _ _ _ _ | exact LeO.refl _ | exact LeO.none _ | refine LeO.ite ?_ ?_ | refine LeO.bind ?_ (fun _ => ?_)
theorem ref04_Above.calls (k : Nat) (A0 : Option Addr) (c0 : Nat) (l0 : List (S58)) (a1 : Int) (r : List (S58)) (w : World) (hr0 : Kd.C k58 w A0 l0.length l0) (hc0 : l0.length ≤ c0) (h : ref04_Above.f k l0 a1 = some r) :
  Calls Try.prog 60 #[.slice A0 l0.length c0, .int .i64 a1] w fun e w' => ∃ v0_ : Value, e = .returned (v0_) ∧ Kd.R k58 58 w' w.heap.size (fun _ => True) v0_ r ∧ Below w.heap.size w w' := by
 have hu58 := Try.underlying58; have HR0 := Zq_.mk hr0; have HC0 := Zq_.mk hc0; clear hr0 hc0; have HB := Zq_.mk (Below.refl w.heap.size w); have H : (ref04_Above.l0 k l0 a1 ([] : List (S58)) 0) = some r := h; clear h; have H' := Zq_.mk H; clear H
 go_enter Try.func60, Try.ntmps60
 go_wp2
 go_loopg [5, 6] k (fun kq v5 v6 w' => ∃ (aU : List (S58)) (aA : Int), v6 = .int .i64 aA ∧ Zq_ (ref04_Above.l0 kq l0 a1 aU aA = some r) ∧ Zq_ (kq ≤ k) ∧ Zq_ (Kd.R k58 58 w' w.heap.size (fun _ => True) v5 aU) ∧ Zq_ (Below w.heap.size w w'))
 case atStart => exact ⟨(([] : List (S58))), (0), eS_, H', ⟨Nat.le_refl _⟩, ⟨by first | exact Kd.R_nil _ _ _ _ _ | exact Kd.N_nil _ _ _ _ _ | exact Kd.V_nil _ _ _ _ _ | exact Kd.Q_nil _ _ _ _ _ | exact Kd.S_nil _ _ _ _ _⟩, ⟨hB_ HB⟩⟩
 case round =>
  clear H'
  try clear p2
  obtain ⟨aU, aA, rfl, HA, HK1, bE, HB⟩ := hrel
  cases gk with
  | zero => exact absurd HA.out (by simp [ref04_Above.l0])
  | succ k1 =>
   have H := HA.out; clear HA; simp only [ref04_Above.l0] at H
   by_cases c3 : aA < (l0.length : Int)
   ·rw [if_pos c3] at H; have c3b0 : decide (aA < (l0.length : Int)) = true := decide_eq_true c3; clear c3
    by_cases c4 : 0 ≤ aA
    ·rw [if_pos c4] at H; have c4b0 : decide (0 ≤ aA) = true := decide_eq_true c4; clear c4
     by_cases c5 : ((rd_T58 l0 aA).f1) > a1
     ·rw [if_pos c5] at H; have c5b0 : decide (a1 < ((rd_T58 l0 aA).f1)) = true := decide_eq_true c5; clear c5
      by_cases c6 : aU.length < 4398046511104
      ·rw [if_pos c6] at H; have LMc6 := Zq_.mk c6; clear c6; obtain ⟨bL, aQ⟩ : ∃ y_ : List (S58), y_ = (aU ++ [(⟨(rd_T58 l0 aA).f0, (rd_T58 l0 aA).f1, (rd_T58 l0 aA).f2⟩ : S58)]) := ⟨_, rfl⟩
       replace H : (ref04_Above.l0 k1 l0 a1 bL (wrap64 (aA + 1))) = some r := by first | (rw [aQ]; with_reducible exact H) | (have H2_ := (Option.bind_some _ _).symm.trans H; rw [aQ]; with_reducible exact H2_) | (have H2_ := (Option.bind_some _ _).symm.trans H; with_reducible exact H2_) | with_reducible exact H | (rw [aQ]; exact H) | exact H
       have bN := Zq_.mk aQ; clear aQ; have H' := Zq_.mk H; clear H; have aX : 0 ≤ (aA : Int) := dA_; have aW : aA < (l0.length : Int) := dA_; obtain ⟨bH, bK, aH, aG, aE⟩ := at_T58 HR0.out aA aX aW; cases bK; replace aH := hC_ HB aH; replace aG := hC_ HB aG; replace aE := hC_ HB aE; replace aX := eq_true aX; replace aW := eq_true aW; have bJ : 0 ≤ (aA : Int) := dA_; have bI : aA < (l0.length : Int) := dA_; obtain ⟨bM, e102, bA, aZ, aY⟩ := at_T58 HR0.out aA bJ bI; obtain rfl : bH = bM := (by injection e102); replace bA := hC_ HB bA; replace aZ := hC_ HB aZ; replace aY := hC_ HB aY; replace bJ := eq_true bJ; replace bI := eq_true bI
       go_wp2_with (first | ((with_reducible refine qw_ (b := .append) (xs := #[.tmp 20, .tmp 25]) rfl ?_); at_builtin; refine Kd.R_append k58 (w0 := w) w.heap.size rfl (.tmp 20) (.tmp 25) 33 58 (.agg #[(.int .i64 0), (.int .i64 0), (.string ⟨#[]⟩)]) 32 rfl Try.underlying33 info58 rfl (by decide) (by omega) u5 aU (⟨(rd_T58 l0 aA).f0, (rd_T58 l0 aA).f1, (rd_T58 l0 aA).f2⟩ : S58) [.int .i64 ((rd_T58 l0 aA).f0), .int .i64 ((rd_T58 l0 aA).f1), .string ((rd_T58 l0 aA).f2)] (fun _ => True) (fun _ => False) rfl rfl ?aP (fun _ hk => hk.elim) ?aF ?aO ?aB ?aS ?aL ?_; (case aP => exact k58_mkM _ _ _ (⟨(rd_T58 l0 aA).f0, (rd_T58 l0 aA).f1, (rd_T58 l0 aA).f2⟩ : S58)); (case aB => exact (hB_ HB)); (case aF => exact (fun _ _ => trivial)); (case aO => exact (vX_ bE)); (case aS => exact (qa_ (hB_ HB))); (case aL => have := LMc6.out; omega); intro v104 w7 ho hb hg hat; rw [← bN.out] at ho; replace HB := Zq_.mk (hb); have bC := Zq_.mk (ho); clear bE; clear ho hb hg hat))
       go_roundg k1
       case measure => have := HK1.out; omega
       case rel => exact ⟨(bL), (wrap64 (aA + 1)), eS_, H', ⟨by have := HK1.out; omega⟩, ⟨by (with_reducible repeat (first | apply Kd.qq_ | apply Kd.qp_ | apply Kd.R_drew)); exact bC.out⟩, ⟨hB_ HB⟩⟩
      ·rw [if_neg c6] at H; exact absurd H (by simp)
     ·rw [if_neg c5] at H; have c5b0 : decide (a1 < ((rd_T58 l0 aA).f1)) = false := decide_eq_false c5; clear c5; have H' := Zq_.mk H; clear H; have aX : 0 ≤ (aA : Int) := dA_; have aW : aA < (l0.length : Int) := dA_; obtain ⟨bH, bK, aH, aG, aE⟩ := at_T58 HR0.out aA aX aW; cases bK; replace aH := hC_ HB aH; replace aG := hC_ HB aG; replace aE := hC_ HB aE; replace aX := eq_true aX; replace aW := eq_true aW
      go_wp2
      go_roundg k1
      case measure => have := HK1.out; omega
      case rel => exact ⟨(aU), (wrap64 (aA + 1)), eS_, H', ⟨by have := HK1.out; omega⟩, ⟨by (with_reducible repeat (first | apply Kd.qq_ | apply Kd.qp_ | apply Kd.R_drew)); exact bE.out⟩, ⟨hB_ HB⟩⟩
    ·rw [if_neg c4] at H; exact absurd H (by simp)
   ·rw [if_neg c3] at H; have c3b0 : decide (aA < (l0.length : Int)) = false := decide_eq_false c3; clear c3; obtain rfl := Option.some.inj H
    go_wp2
    go_ret
    exact ⟨_, by exact eW_, by (with_reducible repeat (first | apply Kd.qq_ | apply Kd.qp_ | apply Kd.R_drew)); exact bE.out, hB_ HB⟩
def ref05_Above.f (k : Nat) (aI : Int) (aJ : Int) (aD : List (S58)) (a1 : Int) : Option (Int × Int × (List (S58))) := (ref04_Above.f k aD a1).bind fun aV => (some (aI, aJ, aV))
theorem ref05_Above.mono : ∀ a0 a1 a2 a3 k, LeO (ref05_Above.f k a0 a1 a2 a3) (ref05_Above.f (k + 1) a0 a1 a2 a3) := by
 intro a0 a1 a2 a3 k
 unfold ref05_Above.f
 with_reducible repeat' first | exact ref04_Above.mono _ _ _ | exact LeO.refl _ | exact LeO.none _ | refine LeO.ite ?_ ?_ | refine LeO.bind ?_ (fun _ => ?_)
theorem ref05_Above.calls (k : Nat) (aI : Int) (aJ : Int) (aT : Option Addr) (aR : Nat) (aD : List (S58)) (a1 : Int) (r1 : Int) (r2 : Int) (r3 : List (S58)) (w : World) (bF : Kd.C k58 w aT aD.length aD) (bG : aD.length ≤ aR) (h : ref05_Above.f k aI aJ aD a1 = some (r1, r2, r3)) :
  Calls Try.prog 39 #[.agg #[.int .i64 aI, .int .i64 aJ, .slice aT aD.length aR], .int .i64 a1] w fun e w' => ∃ v2_ : Value, e = .returned (.agg #[.int .i64 r1, .int .i64 r2, v2_]) ∧ Kd.R k58 58 w' w.heap.size (fun _ => True) v2_ r3 ∧ Below w.heap.size w w' := by
 have hu35 := Try.underlying35; have bO := Zq_.mk bF; have bP := Zq_.mk bG; clear bF bG; have HB := Zq_.mk (Below.refl w.heap.size w); have H : ((ref04_Above.f k aD a1).bind fun aV => (some (aI, aJ, aV))) = some (r1, r2, r3) := h; clear h; replace H := ob_ H; obtain ⟨aV, A30, H⟩ := H; replace H : (some (aI, aJ, aV)) = some (r1, r2, r3) := H; have A3 := Zq_.mk A30; clear A30; simp only [Option.some.injEq, Prod.mk.injEq] at H; obtain ⟨rfl, rfl, rfl⟩ := H
 go_enter Try.func39, Try.ntmps39
 go_wp2_with (first | ((with_reducible refine qd_ (N := 2) rfl ?_); refine bE_ 2 #[.int .i64 aI, .int .i64 aJ, .slice aT aD.length aR] 35 ?_; intro aK hg w4 hbox hb; have aC := Zq_.mk (hbox); have GW101 := gW_ (w := w) hg (hB_ HB); have GE101 := gW_ (w := w) hg (hB_ HB); replace HB := sB_ HB hb; clear hb hbox hg) | ((with_reducible refine qd_ (N := 4) rfl ?_); refine bE_ 4 #[.int .i64 0, .int .i64 0, .slice none 0 0] 35 ?_; intro bB hg w5 hbox hb; have aN := Zq_.mk (hbox); have GW102 := gW_ (w := w) hg (by exact hSet_ HB); have GE102 := gW_ (w := w) hg (by exact hSet_ HB); replace HB := sB_ HB hb; have bD := Zq_.mk ((by rw [hg]; exact Nat.ne_of_lt (blk_lt (g := aK) (o := .cells #[.int .i64 aI, .int .i64 aJ, .slice aT aD.length aR] 35 (0, 0)) (by exact bK_ aC)) : aK ≠ bB)); have aM := Zq_.mk ((by rw [hg]; exact Nat.ne_of_gt (blk_lt (g := aK) (o := .cells #[.int .i64 aI, .int .i64 aJ, .slice aT aD.length aR] 35 (0, 0)) (by exact bK_ aC)) : bB ≠ aK)); replace aC := Zq_.mk (qc_ (g := aK) (o := .cells #[.int .i64 aI, .int .i64 aJ, .slice aT aD.length aR] 35 (0, 0)) (by exact bK_ aC) hb); clear hb hbox hg; have hnb6 := bD.out; have hnc6 := aM.out; obtain ⟨hcz7_0, hcz7_1, hcz7_2⟩ := c3_ aC; obtain ⟨hfz7_0, hfz7_1, hfz7_2⟩ := f3_ aC) | ((with_reducible refine qf_ (f := 60) rfl ?_); refine goesL_ (some 8) rfl rfl Try.func60 (by kernel_rfl) rfl #[.slice aT aD.length aR, .int .i64 a1] rfl aR_ ?_; (with_reducible refine (ref04_Above.calls k _ _ aD a1 aV _ ?side1 ?side2 A3.out).mono ?_); (case side1 => exact cX_ (Kd.qg_ bO.out HB.out)); (case side2 => exact bP.out); rintro e w8 ⟨v104, rfl, ho0, hb⟩; refine ⟨_, rfl, ?_⟩; have bC := Zq_.mk (Kd.vd_ ho0 (qa_ (by exact hSet_ HB))); replace aC := Zq_.mk (qc_ (g := aK) (o := .cells #[.int .i64 aI, .int .i64 aJ, .slice aT aD.length aR] 35 (0, 0)) (by exact bK_ aC) hb); replace aN := Zq_.mk (qc_ (g := bB) (o := .cells #[.int .i64 0, .int .i64 0, .slice none 0 0] 35 (0, 0)) (by exact bK_ aN) hb); replace HB := sB_ HB hb; (try clear hb); (try clear ho0); obtain ⟨Ao9, co9, eo9⟩ := Kd.vh_ bC.out; subst eo9; obtain ⟨hcz10_0, hcz10_1, hcz10_2⟩ := c3_ aC; obtain ⟨hfz10_0, hfz10_1, hfz10_2⟩ := f3_ aC; obtain ⟨hcz11_0, hcz11_1, hcz11_2⟩ := c3_ aN; obtain ⟨hfz11_0, hfz11_1, hfz11_2⟩ := f3_ aN))
 refine bodyPost_ret (results_cell_row rfl _ _ bB 35 #[.int .i64 aI, .int .i64 aJ, .slice Ao9 aV.length co9] (0, 0) _ rfl (by refine bP_ (cs := #[.int .i64 aI, .int .i64 aJ, .slice none 0 0]) 2 ?_; refine bP_ (cs := #[.int .i64 aI, .int .i64 0, .slice none 0 0]) 1 ?_; refine bP_ (cs := #[.int .i64 0, .int .i64 0, .slice none 0 0]) 0 ?_; refine bF_ aM ?_; exact bK_ aN) Try.underlying35 rfl (by kernel_rfl)) rfl ?_; exact ⟨_, by exact eW_, by (with_reducible repeat (first | apply Kd.qq_ | apply Kd.qp_ | apply Kd.R_drew)); exact Kd.R_mono (Kd.R_far (Kd.R_far (Kd.R_far (Kd.R_far (Kd.ve_ (Kd.ve_ bC.out aC.out (by decide)) aN.out (by decide)) (fun _ hk => hk.1.2) _) (fun _ hk => hk.2) _) (fun _ hk => hk.2) _) (fun _ hk => hk.2) _) (fun _ hk => trivial), by exact hSet_ HB⟩
def entry_Top.l0 : Nat → Int → List (S58) → Int → Int → Option (Int)
 | 0, _, _, _, _ => none
 | k + 1, x3, x6, x7, x8 => if x8 < x7 then (if 0 ≤ x8 then (if x8 < (x6.length : Int) then (entry_Top.l0 k (mx x3 ((rd_T58 x6 x8).f1)) x6 x7 (wrap64 (x8 + 1))) else (none)) else (none)) else (some x3)
def entry_Top.f (k : Nat) (l0 : List (S58)) : Option (Int) := entry_Top.l0 k 0 l0 (l0.length : Int) 0
theorem entry_Top.mono_l : ∀ k, (∀ y0 y1 y2 y3, LeO (entry_Top.l0 k y0 y1 y2 y3) (entry_Top.l0 (k + 1) y0 y1 y2 y3))
 | 0 => fun _ _ _ _ r h => by simp [entry_Top.l0] at h
 | k + 1 => by
  have ih0 := entry_Top.mono_l k
  ·intro y0 y1 y2 y3
   unfold entry_Top.l0
   with_reducible repeat' first | exact ih0 _ _ _ _ | exact LeO.refl _ | exact LeO.none _ | refine LeO.ite ?_ ?_ | refine LeO.bind ?_ (fun _ => ?_)
theorem entry_Top.mono : ∀ a0 k, LeO (entry_Top.f k a0) (entry_Top.f (k + 1) a0) := by
 intro a0 k; have ih0 := entry_Top.mono_l k
 unfold entry_Top.f
 with_reducible repeat' first | exact ih0 _ _ _ _ | exact LeO.refl _ | exact LeO.none _ | refine LeO.ite ?_ ?_ | refine LeO.bind ?_ (fun _ => ?_)
theorem entry_Top.calls (k : Nat) (A0 : Option Addr) (c0 : Nat) (l0 : List (S58)) (r : Int) (w : World) (hr0 : Kd.C k58 w A0 l0.length l0) (hc0 : l0.length ≤ c0) (h : entry_Top.f k l0 = some r) :
  Calls Try.prog 70 #[.slice A0 l0.length c0] w fun e w' => e = .returned (.int .i64 r) ∧ Below w.heap.size w w' := by
 have hu58 := Try.underlying58; have HR0 := Zq_.mk hr0; have HC0 := Zq_.mk hc0; clear hr0 hc0; have HB := Zq_.mk (Below.refl w.heap.size w); have H : (entry_Top.l0 k 0 l0 (l0.length : Int) 0) = some r := h; clear h; have H' := Zq_.mk H; clear H
 go_enter Try.func70, Try.ntmps70
 go_wp2
 go_loopg [3, 8] k (fun kq v3 v8 w' => ∃ (aI : Int) (aA : Int), v3 = .int .i64 aI ∧ v8 = .int .i64 aA ∧ Zq_ (entry_Top.l0 kq aI l0 (l0.length : Int) aA = some r) ∧ Zq_ (kq ≤ k) ∧ Zq_ (Below w.heap.size w w'))
 case atStart => exact ⟨(0), (0), eS_, eS_, H', ⟨Nat.le_refl _⟩, ⟨hB_ HB⟩⟩
 case round =>
  clear H'; obtain ⟨aI, aA, rfl, rfl, HA, HK1, HB⟩ := hrel
  cases gk with
  | zero => exact absurd HA.out (by simp [entry_Top.l0])
  | succ k1 =>
   have H := HA.out; clear HA; simp only [entry_Top.l0] at H
   by_cases c2 : aA < (l0.length : Int)
   ·rw [if_pos c2] at H; have c2b0 : decide (aA < (l0.length : Int)) = true := decide_eq_true c2; clear c2
    by_cases c3 : 0 ≤ aA
    ·rw [if_pos c3] at H; have c3b0 : decide (0 ≤ aA) = true := decide_eq_true c3; clear c3
     by_cases c4 : aA < (l0.length : Int)
     ·rw [if_pos c4] at H; have c4b0 : decide (aA < (l0.length : Int)) = true := decide_eq_true c4; clear c4; obtain ⟨ji5, aN⟩ : ∃ j_ : Int, (mx aI ((rd_T58 l0 aA).f1)) = j_ := ⟨_, rfl⟩
      replace H : (entry_Top.l0 k1 ji5 l0 (l0.length : Int) (wrap64 (aA + 1))) = some r := by first | (rw [aN] at H; exact H) | (simp only [aN] at H ⊢; exact H)
      have hji5_ : (if aI < ((rd_T58 l0 aA).f1) then ((rd_T58 l0 aA).f1) else aI) = ji5 := aN; have H' := Zq_.mk H; clear H; have aS : 0 ≤ (aA : Int) := dA_; have aR : aA < (l0.length : Int) := dA_; obtain ⟨ad101, e101, aH, aG, aF⟩ := at_T58 HR0.out aA aS aR; cases e101; replace aH := hC_ HB aH; replace aG := hC_ HB aG; replace aF := hC_ HB aF; replace aS := eq_true aS; replace aR := eq_true aR
      go_wp2_with (first | ((with_reducible refine qd_ (N := 5) rfl ?_); refine bE_ 5 #[.int .i64 0, .int .i64 0, .string (⟨#[]⟩ : ByteArray)] 58 ?_; intro gb102 hg w6 hbox hb; have aQ := Zq_.mk (hbox); have GW102 := gW_ (w := w) hg (hB_ HB); have GE102 := gW_ (w := w) hg (hB_ HB); replace HB := sB_ HB hb; clear hb hbox hg; obtain ⟨hcz7_0, hcz7_1, hcz7_2⟩ := c3_ aQ; obtain ⟨hfz7_0, hfz7_1, hfz7_2⟩ := f3_ aQ))
      go_roundg k1
      case measure => have := HK1.out; omega
      case rel => exact ⟨(ji5), (wrap64 (aA + 1)), (by first | rfl | (simp; done) | (simp only [← aN] <;> (first | rfl | simp)) | (simp [*]; done)), eS_, H', ⟨by have := HK1.out; omega⟩, ⟨by exact hSet_ HB⟩⟩
     ·rw [if_neg c4] at H; exact absurd H (by simp)
    ·rw [if_neg c3] at H; exact absurd H (by simp)
   ·rw [if_neg c2] at H; have c2b0 : decide (aA < (l0.length : Int)) = false := decide_eq_false c2; clear c2; obtain rfl := Option.some.inj H
    go_wp2
    go_ret
    exact ⟨by exact eW_, hB_ HB⟩
def state_Top.f (k : Nat) (aL : Int) (aD : Int) (aC : List (S58)) : Option (Int) := (entry_Top.f k aC).bind fun aE => (some (mx aD aE))
theorem state_Top.mono : ∀ a0 a1 a2 k, LeO (state_Top.f k a0 a1 a2) (state_Top.f (k + 1) a0 a1 a2) := by
 intro a0 a1 a2 k
 unfold state_Top.f
 with_reducible repeat' first | exact entry_Top.mono _ _ | exact LeO.refl _ | exact LeO.none _ | refine LeO.ite ?_ ?_ | refine LeO.bind ?_ (fun _ => ?_)
theorem state_Top.calls (k : Nat) (aL : Int) (aD : Int) (aM : Option Addr) (aK : Nat) (aC : List (S58)) (r : Int) (w : World) (aO : Kd.C k58 w aM aC.length aC) (aP : aC.length ≤ aK) (h : state_Top.f k aL aD aC = some r) :
  Calls Try.prog 53 #[.agg #[.int .i64 aL, .int .i64 aD, .slice aM aC.length aK]] w fun e w' => e = .returned (.int .i64 r) ∧ Below w.heap.size w w' := by
 have hu35 := Try.underlying35; have aU := Zq_.mk aO; have aV := Zq_.mk aP; clear aO aP; have HB := Zq_.mk (Below.refl w.heap.size w); have H : ((entry_Top.f k aC).bind fun aE => (some (mx aD aE))) = some r := h; clear h; replace H := ob_ H; obtain ⟨aE, A20, H⟩ := H; replace H : (some (mx aD aE)) = some r := H; have A2 := Zq_.mk A20; clear A20; obtain ⟨ji3, aJ⟩ : ∃ j_ : Int, (mx aD aE) = j_ := ⟨_, rfl⟩
 replace H : (some ji3) = some r := by first | (rw [aJ] at H; exact H) | (simp only [aJ] at H ⊢; exact H)
 (try rw [aJ] at A2); have hji3_ : (if aD < aE then aE else aD) = ji3 := aJ; obtain rfl := Option.some.inj H
 go_enter Try.func53, Try.ntmps53
 try go_wp2_with (first | ((with_reducible refine qd_ (N := 1) rfl ?_); refine bE_ 1 #[.int .i64 aL, .int .i64 aD, .slice aM aC.length aK] 35 ?_; intro aT hg w4 hbox hb; have aB := Zq_.mk (hbox); have GW101 := gW_ (w := w) hg (hB_ HB); have GE101 := gW_ (w := w) hg (hB_ HB); replace HB := sB_ HB hb; clear hb hbox hg))
 replace aB := Zq_.mk (qi_ aB.out); replace HB := Zq_.mk (qe_ HB.out); refine gS_ 7 (hA_ (b0_ aB) (hA_ (b1_ aB) (hZ_ (b2_ aB)))) (fun hHeld => ?_); generalize w4.drew = w5 at aB HB hHeld ⊢; refine pure_ (i := 0) (N := some 3) (v := ?_) (a' := ?_) (bz_ 7 1) rfl rfl (by kernel_rfl) (fun _ _ _ h => h) (Or.inl ⟨by rfl, ?_⟩) ?_ ?_; rotate_left; (focus intro w'; go_simp; (with_reducible rfl)); rotate_left; (focus simp only [Act.put, sa_, sb_, sc_, i64_w, i32_w]; rfl); refine pure_ (i := 2) (N := some 5) (v := ?_) (a' := ?_) (bz_ 7 5) rfl rfl (by kernel_rfl) (fun _ _ _ h => h) (Or.inl ⟨by rfl, ?_⟩) ?_ ?_; rotate_left; (focus intro w'; go_simp; (with_reducible rfl)); rotate_left; (focus simp only [Act.put, sa_, sb_, sc_, i64_w, i32_w]; rfl); refine take_ (i := 1) (N := some 4) (v := ?_) (a' := ?_) (bz_ 7 7) rfl rfl (by kernel_rfl) (fun _ _ _ h => h) (Or.inl ⟨by rfl, ?_⟩) hHeld ?_ ?_; rotate_left; (focus rintro w' ⟨s0, s1, s2⟩; go_simp; (with_reducible rfl)); rotate_left; (focus simp only [Act.put, sa_, sb_, sc_, i64_w, i32_w]; rfl); refine take_ (i := 3) (N := some 6) (v := ?_) (a' := ?_) (bz_ 7 15) rfl rfl (by kernel_rfl) (fun _ _ _ h => h) (Or.inl ⟨by rfl, ?_⟩) hHeld ?_ ?_; rotate_left; (focus rintro w' ⟨s0, s1, s2⟩; go_simp; (with_reducible rfl)); rotate_left; (focus simp only [Act.put, sa_, sb_, sc_, i64_w, i32_w]; rfl); refine one_ (i := 4) (N := some 7) (bz_ 7 31) rfl rfl (by kernel_rfl) (by decide) (fun K hK => ?_); refine goes_ Try.func70 (by kernel_rfl) rfl #[.slice aM aC.length aK] (by rfl) rfl rfl aR_ ?_
 with_reducible refine (entry_Top.calls k _ _ aC aE _ ?side1 ?side2 A2.out).mono ?_
 (case side1 => exact cX_ (Kd.qg_ aU.out HB.out)); (case side2 => exact aV.out); rintro e w6 ⟨rfl, hb⟩; refine ⟨_, rfl, ?_⟩; replace aB := Zq_.mk (qc_ (g := aT) (o := .cells #[.int .i64 aL, .int .i64 aD, .slice aM aC.length aK] 35 (0, 0)) (by exact bK_ aB) hb); replace HB := sB_ HB hb; (try clear hb); refine hK.out _ _ (c3_ aB) (fun hHeld => ?_); clear hK K; refine norm_ (a' := ?_) ?_ ?_; rotate_left
 ·show Act.put _ (some 7) _ = _
  simp only [Act.put, sa_, sb_, sc_, i64_w, i32_w]; rfl
 refine pure_ (i := 5) (N := some 8) (v := ?_) (a' := ?_) (bz_ 7 63) rfl rfl (by kernel_rfl) (fun _ _ _ h => h) (Or.inl ⟨by rfl, ?_⟩) ?_ ?_; rotate_left; (focus intro w'; go_simp; (with_reducible rfl)); rotate_left; (focus simp only [Act.put, sa_, sb_, sc_, i64_w, i32_w]; rfl); refine pure_ (i := 6) (N := some 2) (v := ?_) (a' := ?_) (bz_ 7 127) rfl rfl (by kernel_rfl) (fun _ _ _ h => h) (Or.inl ⟨by rfl, ?_⟩) ?_ ?_; rotate_left; (focus intro w'; go_simp; (with_reducible rfl)); rotate_left; (focus simp only [Act.put, sa_, sb_, sc_, i64_w, i32_w]; rfl); refine done_ (by kernel_rfl) ?_; (try go_wp2)
 go_ret
 exact ⟨by first | rfl | (simp [errW_none, errW_some] <;> rfl) | (simp only [← aJ]; first | rfl | (simp [errW_none, errW_some] <;> rfl)) | (simp [*, errW_none, errW_some] <;> rfl), by exact hSet_ HB⟩
section
attribute [local go_sem high] eqA58
def api_Entry_69.l0 : Nat → List (S58) → List (S58) → Int → Int → Option (Bool)
 | 0, _, _, _, _ => none
 | k + 1, x0, x1, x12, x13 => if x13 < x12 then (if 0 ≤ x13 then (if x13 < (x0.length : Int) then (if x13 < (x1.length : Int) then (if (!(((rd_T58 x0 x13).f0) == ((rd_T58 x1 x13).f0)) || (!(((rd_T58 x0 x13).f1) == ((rd_T58 x1 x13).f1)) || (!((((rd_T58 x0 x13).f2).toList) == (((rd_T58 x1 x13).f2).toList))))) = true then (some false) else (api_Entry_69.l0 k x0 x1 x12 (wrap64 (x13 + 1)))) else (none)) else (none)) else (none)) else (some true)
def api_Entry_69.f (k : Nat) (l0 : List (S58)) (l1 : List (S58)) : Option (Bool) := if (l0.length : Int) = (l1.length : Int) then (api_Entry_69.l0 k l0 l1 (l0.length : Int) 0) else (some false)
theorem api_Entry_69.mono_l : ∀ k, (∀ y0 y1 y2 y3, LeO (api_Entry_69.l0 k y0 y1 y2 y3) (api_Entry_69.l0 (k + 1) y0 y1 y2 y3))
 | 0 => fun _ _ _ _ r h => by simp [api_Entry_69.l0] at h
 | k + 1 => by
  have ih0 := api_Entry_69.mono_l k
  ·intro y0 y1 y2 y3
   unfold api_Entry_69.l0
   with_reducible repeat' first | exact ih0 _ _ _ _ | exact LeO.refl _ | exact LeO.none _ | refine LeO.ite ?_ ?_ | refine LeO.bind ?_ (fun _ => ?_)
theorem api_Entry_69.mono : ∀ a0 a1 k, LeO (api_Entry_69.f k a0 a1) (api_Entry_69.f (k + 1) a0 a1) := by
 intro a0 a1 k; have ih0 := api_Entry_69.mono_l k
 unfold api_Entry_69.f
 with_reducible repeat' first | exact ih0 _ _ _ _ | exact LeO.refl _ | exact LeO.none _ | refine LeO.ite ?_ ?_ | refine LeO.bind ?_ (fun _ => ?_)
theorem api_Entry_69.calls (k : Nat) (A0 : Option Addr) (c0 : Nat) (l0 : List (S58)) (A1 : Option Addr) (c1 : Nat) (l1 : List (S58)) (r : Bool) (w : World) (hr0 : Kd.C k58 w A0 l0.length l0) (hc0 : l0.length ≤ c0) (hr1 : Kd.C k58 w A1 l1.length l1) (hc1 : l1.length ≤ c1) (h : api_Entry_69.f k l0 l1 = some r) :
  Calls Try.prog 69 #[.slice A0 l0.length c0, .slice A1 l1.length c1] w fun e w' => e = .returned (.bool r) ∧ Drawn0 w w' := by
 have hu58 := Try.underlying58; have HR0 := Zq_.mk hr0; have HC0 := Zq_.mk hc0; clear hr0 hc0; have HR1 := Zq_.mk hr1; have HC1 := Zq_.mk hc1; clear hr1 hc1; have H : (if (l0.length : Int) = (l1.length : Int) then (api_Entry_69.l0 k l0 l1 (l0.length : Int) 0) else (some false)) = some r := h; clear h
 by_cases c3 : (l0.length : Int) = (l1.length : Int)
 ·rw [if_pos c3] at H; have aP : ((l0.length : Int) == (l1.length : Int)) = true := beq_iff_eq.mpr c3; have aO : ((l0.length : Int) != (l1.length : Int)) = false := bne_eq_false_iff_eq.mpr c3
  have aN : (l0.length == l1.length) = true := by first | simpa using c3 | (simp at c3 ⊢; omega)
  clear c3; have H' := Zq_.mk H; clear H
  go_enter Try.func69, Try.ntmps69
  go_wp2
  repeat (go_quiet (fail); try go_wp2)
  go_loopg [13] k (fun kq v13 w' => ∃ (aA : Int), v13 = .int .i64 aA ∧ Zq_ (api_Entry_69.l0 kq l0 l1 (l0.length : Int) aA = some r) ∧ Zq_ (kq ≤ k) ∧ Drawn0 w w')
  case atStart => exact ⟨(0), eS_, H', ⟨Nat.le_refl _⟩, by repeat (first | exact Drawn0.refl _ | apply Drawn0.step)⟩
  case round =>
   clear H'
   try clear c1
   try clear p2
   try clear c3
   try clear aP
   try clear aO
   try clear aN
   obtain ⟨aA, rfl, HA, HK1, ⟨m1, rfl⟩⟩ := hrel
   cases gk with
   | zero => exact absurd HA.out (by simp [api_Entry_69.l0])
   | succ k1 =>
    have H := HA.out; clear HA; simp only [api_Entry_69.l0] at H
    by_cases c4 : aA < (l0.length : Int)
    ·rw [if_pos c4] at H; have c4b0 : decide (aA < (l0.length : Int)) = true := decide_eq_true c4; clear c4
     by_cases c5 : 0 ≤ aA
     ·rw [if_pos c5] at H; have c5b0 : decide (0 ≤ aA) = true := decide_eq_true c5; clear c5
      by_cases c6 : aA < (l0.length : Int)
      ·rw [if_pos c6] at H; have c6b0 : decide (aA < (l0.length : Int)) = true := decide_eq_true c6; clear c6
       by_cases c7 : aA < (l1.length : Int)
       ·rw [if_pos c7] at H; have c7b0 : decide (aA < (l1.length : Int)) = true := decide_eq_true c7; clear c7
        by_cases c8 : (!(((rd_T58 l0 aA).f0) == ((rd_T58 l1 aA).f0)) || (!(((rd_T58 l0 aA).f1) == ((rd_T58 l1 aA).f1)) || (!((((rd_T58 l0 aA).f2).toList) == (((rd_T58 l1 aA).f2).toList))))) = true
        ·rw [if_pos c8] at H; have c8b0 : (!(((rd_T58 l0 aA).f0) == ((rd_T58 l1 aA).f0)) || (!(((rd_T58 l0 aA).f1) == ((rd_T58 l1 aA).f1)) || (!((((rd_T58 l0 aA).f2).toList) == (((rd_T58 l1 aA).f2).toList))))) = true := c8; clear c8; obtain rfl := Option.some.inj H; have aE : 0 ≤ (aA : Int) := dA_; have aC : aA < (l0.length : Int) := dA_; obtain ⟨aR, aM, aK, aJ, aI⟩ := at_T58 HR0.out aA aE aC; cases aM; replace aE := eq_true aE; replace aC := eq_true aC; have aD : 0 ≤ (aA : Int) := dA_; have aB : aA < (l1.length : Int) := dA_; obtain ⟨aQ, aL, aH, aG, aF⟩ := at_T58 HR1.out aA aD aB; cases aL; replace aD := eq_true aD; replace aB := eq_true aB
         go_wp2
         repeat (go_quiet (fail); try go_wp2)
         go_ret
         exact ⟨by first | rfl | (simp; done) | (simp [*]; done), by repeat (first | exact Drawn0.refl _ | apply Drawn0.step)⟩
        ·rw [if_neg c8] at H
         have c8b0 : (!(((rd_T58 l0 aA).f0) == ((rd_T58 l1 aA).f0)) || (!(((rd_T58 l0 aA).f1) == ((rd_T58 l1 aA).f1)) || (!((((rd_T58 l0 aA).f2).toList) == (((rd_T58 l1 aA).f2).toList))))) = false := by simpa using c8
         clear c8; have H' := Zq_.mk H; clear H; have aE : 0 ≤ (aA : Int) := dA_; have aC : aA < (l0.length : Int) := dA_; obtain ⟨aR, aM, aK, aJ, aI⟩ := at_T58 HR0.out aA aE aC; cases aM; replace aE := eq_true aE; replace aC := eq_true aC; have aD : 0 ≤ (aA : Int) := dA_; have aB : aA < (l1.length : Int) := dA_; obtain ⟨aQ, aL, aH, aG, aF⟩ := at_T58 HR1.out aA aD aB; cases aL; replace aD := eq_true aD; replace aB := eq_true aB
         go_wp2
         repeat (go_quiet (fail); try go_wp2)
         go_roundg k1
         case measure => have := HK1.out; omega
         case rel => exact ⟨(wrap64 (aA + 1)), eS_, H', ⟨by have := HK1.out; omega⟩, by repeat (first | exact Drawn0.refl _ | apply Drawn0.step)⟩
       ·rw [if_neg c7] at H; exact absurd H (by simp)
      ·rw [if_neg c6] at H; exact absurd H (by simp)
     ·rw [if_neg c5] at H; exact absurd H (by simp)
    ·rw [if_neg c4] at H; have c4b0 : decide (aA < (l0.length : Int)) = false := decide_eq_false c4; clear c4; obtain rfl := Option.some.inj H
     go_wp2
     repeat (go_quiet (fail); try go_wp2)
     go_ret
     exact ⟨by first | rfl | (simp; done) | (simp [*]; done), by repeat (first | exact Drawn0.refl _ | apply Drawn0.step)⟩
 ·rw [if_neg c3] at H; have aP : ((l0.length : Int) == (l1.length : Int)) = false := beq_eq_false_iff_ne.mpr c3; have aO : ((l0.length : Int) != (l1.length : Int)) = true := bne_iff_ne.mpr c3
  have aN : (l0.length == l1.length) = false := by first | simpa using c3 | (simp at c3 ⊢; omega)
  obtain rfl := Option.some.inj H
  go_enter Try.func69, Try.ntmps69
  go_wp2
  repeat (go_quiet (fail); try go_wp2)
  go_ret
  exact ⟨by first | rfl | (simp; done) | (simp [*]; done), by repeat (first | exact Drawn0.refl _ | apply Drawn0.step)⟩
end
end Go.Proofs.Ytgipbmjkgciccaa.P

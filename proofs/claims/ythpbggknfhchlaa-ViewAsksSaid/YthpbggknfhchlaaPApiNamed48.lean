/- What this function of the program comes to, and that the machine's call does it: written by a program (wip/tool). No condition. -/
import Derived.Test.YthpbggknfhchlaaP0
import Derived.Test.YthpbggknfhchlaaHw
namespace Go.Proofs.Ythpbggknfhchlaa.P
set_option maxHeartbeats 16000000
set_option maxRecDepth 100000
open Go.RowKit Go.Proofs.YthpbggknfhchlaaW.PrintWords Go.Proofs.YthpbggknfhchlaaW.PrintLast Go.Proofs.YthpbggknfhchlaaW.PrintMore
attribute [local go_sem] max2_int min2_int max_two min_two ve_ vd_ max_four min_four Go.Proofs.YthpbggknfhchlaaW.Hw.string_gtr   -- for this text's walks alone
set_option linter.unusedVariables false
set_option linter.unusedSimpArgs false
/-! ### api_Named_48: function 48 -/
/-- Two lists, one beside the other. -/
def eqfN (q : S41 → S41 → Bool) (l0 l1 : List S41) : Bool := decide (l0.length = l1.length) && (List.range l0.length).all (fun j => q (l0.getD j z41) (l1.getD j z41))
theorem eqfN_hit {q : S41 → S41 → Bool} {l0 l1 : List S41} (j : Nat) (hj : j < l0.length) (h : q (l0.getD j z41) (l1.getD j z41) = false) : eqfN q l0 l1 = false := by
 unfold eqfN
 rw [Bool.and_eq_false_iff]; refine Or.inr ?_; rw [Bool.eq_false_iff]; intro ha; have := (List.all_eq_true.1 ha) j (List.mem_range.2 hj); rw [h] at this; cases this
theorem eqfN_miss {q : S41 → S41 → Bool} {l0 l1 : List S41} (hl : l0.length = l1.length) (h : ∀ j, j < l0.length → q (l0.getD j z41) (l1.getD j z41) = true) : eqfN q l0 l1 = true := by
 unfold eqfN
 rw [decide_eq_true hl, Bool.true_and]; exact List.all_eq_true.2 (fun j hj => h j (List.mem_range.1 hj))
theorem eqfN_len {q : S41 → S41 → Bool} {l0 l1 : List S41} (hl : ¬ l0.length = l1.length) : eqfN q l0 l1 = false := by
 unfold eqfN
 rw [decide_eq_false hl, Bool.false_and]
open Go.Proofs.YthpbggknfhchlaaW.Hw in
theorem EqualFuncN.calls (q : S41 → S41 → Bool) (g : Nat) (eg : ∀ args w, (callFunc g args).run Try.prog w = .ok (.enter g args) w) (A0 : Option Addr) (c0 : Nat) (l0 : List S41) (A1 : Option Addr) (c1 : Nat) (l1 : List S41) (w : World)
  (hp : ∀ (V : World) (x y : S41) (cx cy : List Value), Below w.heap.size w V → (k41).K V x cx → (k41).K V y cy → Calls Try.prog g #[aggOf cx, aggOf cy] V fun e w' => e = .returned (.bool (q x y)) ∧ Below V.heap.size V w')
  (hr0 : Kd.C k41 w A0 l0.length l0) (hr1 : Kd.C k41 w A1 l1.length l1) :
  Calls Try.prog 48 #[.slice A0 l0.length c0, .slice A1 l1.length c1, .func (.func g) #[] #[]] w fun e w' => e = .returned (.bool (eqfN q l0 l1)) ∧ Below w.heap.size w w' := by
 have hu_ := Try.underlying41
 by_cases hlen : l0.length = l1.length
 ·have hme : ((l0.length : Int) == (l1.length : Int)) = true := by rw [hlen]; simp
  have hmn : ((l0.length : Int) != (l1.length : Int)) = false := by rw [hlen]; simp
  have hmb : decide ((l0.length : Int) = (l1.length : Int)) = true := decide_eq_true (by rw [hlen]); have HLE := Zq_.mk hlen; have HR := Zq_.mk hr0; have HR1 := Zq_.mk hr1; have HP := Zq_.mk hp; have HM := Zq_.mk (Kd.C_max hr0); have hn := eq_true hlen; clear hr0 hr1 hp hlen
  go_enter Try.func48, Try.ntmps48
  go_wp2
  go_loopg [7, 8, 9, 17] l0.length (fun gg _ _ _ s17 W => ∃ i : Int, s17 = .int .i64 i ∧ Zq_ (0 ≤ i ∧ i ≤ (l0.length : Int) ∧ l0.length - i.toNat ≤ gg) ∧ Zq_ (Below w.heap.size w W) ∧ Zq_ (∀ j, j < i.toNat → q (l0.getD j z41) (l1.getD j z41) = true))
  case atStart => exact ⟨0, rfl, ⟨by omega⟩, ⟨Below.refl _ _⟩, ⟨fun j hj => absurd hj (Nat.not_lt_zero _)⟩⟩
  case round =>
   obtain ⟨i, rfl, HI, BW, A⟩ := hrel; obtain ⟨W, rfl⟩ : ∃ W, W = wr := ⟨_, rfl⟩
   by_cases hlt : i < (l0.length : Int)
   ·have hltb : decide (i < (l0.length : Int)) = true := decide_eq_true hlt; have p1 := HI.out.1
    have hlt1 : i < (l1.length : Int) := by have := HLE.out; omega
    obtain ⟨ad, A3, c3, e_, hx_0, hx_1, hx_2, hx_3, l3, g3⟩ := at_T41 HR.out i p1 hlt; cases e_; obtain ⟨ae, A4, c4, e_, hy_0, hy_1, hy_2, hy_3, l4, g4⟩ := at_T41 HR1.out i p1 hlt1; cases e_; replace hx_0 := (BW.out.cell (wb_ w _ hx_0)).trans hx_0; replace hx_1 := (BW.out.cell (wb_ w _ hx_1)).trans hx_1; replace hx_2 := (BW.out.cell (wb_ w _ hx_2)).trans hx_2; replace hx_3 := (BW.out.cell (wb_ w _ hx_3)).trans hx_3; replace hy_0 := (BW.out.cell (wb_ w _ hy_0)).trans hy_0; replace hy_1 := (BW.out.cell (wb_ w _ hy_1)).trans hy_1; replace hy_2 := (BW.out.cell (wb_ w _ hy_2)).trans hy_2; replace hy_3 := (BW.out.cell (wb_ w _ hy_3)).trans hy_3; have HG3 := Zq_.mk (Kd.vb_ g3 BW.out); have HG4 := Zq_.mk (Kd.vb_ g4 BW.out); have HL3 := Zq_.mk l3; have HL4 := Zq_.mk l4; have HX := Zq_.mk (show rd_T41 l0 i = l0.getD i.toNat z41 from rfl); have HY := Zq_.mk (show rd_T41 l1 i = l1.getD i.toNat z41 from rfl); generalize rd_T41 l0 i = x at hx_0 hx_1 hx_2 hx_3 HG3 HL3 HX; generalize rd_T41 l1 i = y at hy_0 hy_1 hy_2 hy_3 HG4 HL4 HY; have HL := Zq_.mk hlt; replace p1 := eq_true p1; replace hlt := eq_true hlt; replace hlt1 := eq_true hlt1; have HB := Zq_.mk (Below.refl W.heap.size W); have hwr := Zq_.mk (show wrap64 (i + 1) = i + 1 by have := HI.out; have := HM.out; have := HL.out; unfold wrap64; omega); have HYY := Zq_.mk (And.intro hy_0 (And.intro hy_1 (And.intro hy_2 hy_3))); clear g3 g4 l3 l4 hy_0 hy_1 hy_2 hy_3
    go_upto_region 6 with (first | ((with_reducible refine qt_ (N := 8) rfl ?_); (try (refine gate_guard (by rfl) ?_; dsimp only)); refine qr_ ?hg (N := 8) ?hd (cs := #[.int .i64 0, .int .i64 0, .int .i64 0, .slice none 0 0]) (t := 41) ?hr ?_; (case hd => rfl); (case hg => rfl); (case hr => first | (go_simp; done) | (go_simp; rfl)); intro gb102 hg_ w102 hbox_ hb_; have n0_ := Zq_.mk (qm_ (hB_ HB) hb_); have GE102 := Zq_.mk ((by rw [hg_]; exact (qi_ (hB_ HB)) : W.heap.size ≤ gb102)); have n1_ := Zq_.mk (hbox_); clear HB; have HB := n0_; have BK102 := n1_; clear n0_ n1_; clear hb_ hbox_ hg_; have hcz102_0 : w102.cell? ⟨gb102, 0, none⟩ = some (.int .i64 0) := (qh_ BK102.out 0).trans rfl; have hcz102_1 : w102.cell? ⟨gb102, 1, none⟩ = some (.int .i64 0) := (qh_ BK102.out 1).trans rfl; have hcz102_2 : w102.cell? ⟨gb102, 2, none⟩ = some (.int .i64 0) := (qh_ BK102.out 2).trans rfl; have hcz102_3 : w102.cell? ⟨gb102, 3, none⟩ = some (.slice none 0 0) := (qh_ BK102.out 3).trans rfl; have hfz102_0 := qe_ BK102.out 0; have hfz102_1 := qe_ BK102.out 1; have hfz102_2 := qe_ BK102.out 2; have hfz102_3 := qe_ BK102.out 3))
    have HB5 := Zq_.mk (qf_ (qf_ (qf_ (qf_ HB.out GE102.out (j := 0) (v := .int .i64 x.f0)) GE102.out (j := 1) (v := .int .i64 x.f1.f0)) GE102.out (j := 2) (v := .int .i64 x.f1.f1)) GE102.out (j := 3) (v := .slice A3 x.f1.f2.length c3)); have BK5 := Zq_.mk (show _ = some (Obj.cells #[.int .i64 x.f0, .int .i64 x.f1.f0, .int .i64 x.f1.f1, .slice A3 x.f1.f2.length c3] 41 (0, 0)) from blk_set (blk_set (blk_set (blk_set BK102.out 0 (.int .i64 x.f0)) 1 (.int .i64 x.f1.f0)) 2 (.int .i64 x.f1.f1)) 3 (.slice A3 x.f1.f2.length c3)); generalize hw5 : (((w102.setCell ⟨gb102, 0, none⟩ (.int .i64 x.f0)).setCell ⟨gb102, 1, none⟩ (.int .i64 x.f1.f0)).setCell ⟨gb102, 2, none⟩ (.int .i64 x.f1.f1)).setCell ⟨gb102, 3, none⟩ (.slice A3 x.f1.f2.length c3) = w5 at HB5 BK5 ⊢; clear hw5 HB BK102 hx_0 hx_1 hx_2 hx_3; have HB := HB5; have BK102 := BK5; clear HB5 BK5; have hy_0 := pw_cell_below HB.out HYY.out.1; have hy_1 := pw_cell_below HB.out HYY.out.2.1; have hy_2 := pw_cell_below HB.out HYY.out.2.2.1; have hy_3 := pw_cell_below HB.out HYY.out.2.2.2
    go_upto_region 7 with (first | ((with_reducible refine qt_ (N := 9) rfl ?_); (try (refine gate_guard (by rfl) ?_; dsimp only)); refine qr_ ?hg (N := 9) ?hd (cs := #[.int .i64 0, .int .i64 0, .int .i64 0, .slice none 0 0]) (t := 41) ?hr ?_; (case hd => rfl); (case hg => rfl); (case hr => first | (go_simp; done) | (go_simp; rfl)); intro gb103 hg_ w103 hbox_ hb_; have n0_ := Zq_.mk (qm_ (hB_ HB) hb_); have GE103 := Zq_.mk ((by rw [hg_]; exact (qi_ (hB_ HB)) : W.heap.size ≤ gb103)); have n1_ := Zq_.mk (hbox_); have NB102_103 : Zq_ (gb102 ≠ gb103) := ⟨fun e_ => by have h1 := blk_lt (by exact bK_ BK102); rw [e_, hg_] at h1; exact absurd h1 (Nat.lt_irrefl _)⟩; have m102_ := Zq_.mk (blk_bel (by exact bK_ BK102) hb_); clear BK102; have BK102 := m102_; clear m102_; clear HB; have HB := n0_; have BK103 := n1_; clear n0_ n1_; clear hb_ hbox_ hg_; have hcz103_0 : w103.cell? ⟨gb103, 0, none⟩ = some (.int .i64 0) := (qh_ BK103.out 0).trans rfl; have hcz103_1 : w103.cell? ⟨gb103, 1, none⟩ = some (.int .i64 0) := (qh_ BK103.out 1).trans rfl; have hcz103_2 : w103.cell? ⟨gb103, 2, none⟩ = some (.int .i64 0) := (qh_ BK103.out 2).trans rfl; have hcz103_3 : w103.cell? ⟨gb103, 3, none⟩ = some (.slice none 0 0) := (qh_ BK103.out 3).trans rfl; have hfz103_0 := qe_ BK103.out 0; have hfz103_1 := qe_ BK103.out 1; have hfz103_2 := qe_ BK103.out 2; have hfz103_3 := qe_ BK103.out 3))
    have HB5 := Zq_.mk (qf_ (qf_ (qf_ (qf_ HB.out GE103.out (j := 0) (v := .int .i64 y.f0)) GE103.out (j := 1) (v := .int .i64 y.f1.f0)) GE103.out (j := 2) (v := .int .i64 y.f1.f1)) GE103.out (j := 3) (v := .slice A4 y.f1.f2.length c4)); have BK5 := Zq_.mk (show _ = some (Obj.cells #[.int .i64 y.f0, .int .i64 y.f1.f0, .int .i64 y.f1.f1, .slice A4 y.f1.f2.length c4] 41 (0, 0)) from blk_set (blk_set (blk_set (blk_set BK103.out 0 (.int .i64 y.f0)) 1 (.int .i64 y.f1.f0)) 2 (.int .i64 y.f1.f1)) 3 (.slice A4 y.f1.f2.length c4)); have BK6 := Zq_.mk (blk_far (p := ⟨gb103, 3, none⟩) (blk_far (p := ⟨gb103, 2, none⟩) (blk_far (p := ⟨gb103, 1, none⟩) (blk_far (p := ⟨gb103, 0, none⟩) BK102.out NB102_103.out (.int .i64 y.f0)) NB102_103.out (.int .i64 y.f1.f0)) NB102_103.out (.int .i64 y.f1.f1)) NB102_103.out (.slice A4 y.f1.f2.length c4)); generalize hw5 : (((w103.setCell ⟨gb103, 0, none⟩ (.int .i64 y.f0)).setCell ⟨gb103, 1, none⟩ (.int .i64 y.f1.f0)).setCell ⟨gb103, 2, none⟩ (.int .i64 y.f1.f1)).setCell ⟨gb103, 3, none⟩ (.slice A4 y.f1.f2.length c4) = w6 at HB5 BK5 BK6 ⊢; clear hw5 HB BK102 BK103 hy_0 hy_1 hy_2 hy_3; have HB := HB5; have BK103 := BK5; have BK102 := BK6; clear HB5 BK5 BK6; have hcw6_102_0 : w6.cell? ⟨gb102, 0, none⟩ = some (.int .i64 x.f0) := (qh_ BK102.out 0).trans rfl; have hcw6_102_1 : w6.cell? ⟨gb102, 1, none⟩ = some (.int .i64 x.f1.f0) := (qh_ BK102.out 1).trans rfl; have hcw6_102_2 : w6.cell? ⟨gb102, 2, none⟩ = some (.int .i64 x.f1.f1) := (qh_ BK102.out 2).trans rfl; have hcw6_102_3 : w6.cell? ⟨gb102, 3, none⟩ = some (.slice A3 x.f1.f2.length c3) := (qh_ BK102.out 3).trans rfl; have hcw6_103_0 : w6.cell? ⟨gb103, 0, none⟩ = some (.int .i64 y.f0) := (qh_ BK103.out 0).trans rfl; have hcw6_103_1 : w6.cell? ⟨gb103, 1, none⟩ = some (.int .i64 y.f1.f0) := (qh_ BK103.out 1).trans rfl; have hcw6_103_2 : w6.cell? ⟨gb103, 2, none⟩ = some (.int .i64 y.f1.f1) := (qh_ BK103.out 2).trans rfl; have hcw6_103_3 : w6.cell? ⟨gb103, 3, none⟩ = some (.slice A4 y.f1.f2.length c4) := (qh_ BK103.out 3).trans rfl; have hcall : Calls Try.prog g #[.agg #[.int .i64 x.f0, .int .i64 x.f1.f0, .int .i64 x.f1.f1, .slice A3 x.f1.f2.length c3], .agg #[.int .i64 y.f0, .int .i64 y.f1.f0, .int .i64 y.f1.f1, .slice A4 y.f1.f2.length c4]] w6 (fun e w1 => e = .returned (.bool (q x y)) ∧ Below w6.heap.size w6 w1) := HP.out w6 x y [.int .i64 x.f0, .int .i64 x.f1.f0, .int .i64 x.f1.f1, .slice A3 x.f1.f2.length c3] [.int .i64 y.f0, .int .i64 y.f1.f0, .int .i64 y.f1.f1, .slice A4 y.f1.f2.length c4] (qm_ BW.out HB.out) (k41_mk w6 x HL3.out (Kd.vb_ HG3.out HB.out)) (k41_mk w6 y HL4.out (Kd.vb_ HG4.out HB.out))
    cases hq : q x y with
    | true =>
     rw [hq] at hcall; have HQ := Zq_.mk hq; clear hq
     go_wp2_with fail
     refine hcall.mono ?_; rintro e w1 ⟨rfl, hb1⟩
     go_wp2_with fail
     go_roundg (l0.length - (i.toNat + 1))
     case measure => have h1 := HI.out; have h2 := HL.out; omega
     case rel => exact ⟨wrap64 (i + 1), (by first | rfl | (simp; done) | (simp [*]; done)), ⟨by rw [hwr.out]; have h1 := HI.out; have h2 := HL.out; omega⟩, ⟨qm_ (qm_ BW.out HB.out) hb1⟩, ⟨fun j hj => by
      rw [hwr.out] at hj; have h1 := HI.out
      by_cases e : j = i.toNat
      ·subst e; rw [← HX.out, ← HY.out]; exact HQ.out
      ·exact A.out j (by omega)⟩⟩
    | false =>
     rw [hq] at hcall; have HQ := Zq_.mk hq; clear hq
     go_wp2_with fail
     refine hcall.mono ?_; rintro e w1 ⟨rfl, hb1⟩
     go_wp2_with fail
     go_ret
     refine ⟨?_, (by have hb2 := qm_ (qm_ BW.out HB.out) hb1; exact hb2)⟩; have h1 := HI.out; have h2 := HL.out; rw [eqfN_hit i.toNat (by omega) (by rw [← HX.out, ← HY.out]; exact HQ.out)]; rfl
   ·have hltb : decide (i < (l0.length : Int)) = false := decide_eq_false hlt; have HL := Zq_.mk hlt; clear hlt
    go_wp2
    go_ret
    refine ⟨?_, BW.out⟩; have h1 := HI.out; have h2 := HL.out; rw [eqfN_miss HLE.out (fun j hj => A.out j (by omega))]; rfl
 ·have hme : ((l0.length : Int) == (l1.length : Int)) = false := beq_false_of_ne (by omega); have hmb : decide ((l0.length : Int) = (l1.length : Int)) = false := decide_eq_false (by omega); have hn := eq_false hlen; have HLE := Zq_.mk hlen; clear hr0 hr1 hp hlen
  go_enter Try.func48, Try.ntmps48
  go_wp2
  go_ret
  exact ⟨by rw [eqfN_len HLE.out]; rfl, Below.refl _ _⟩
end Go.Proofs.Ythpbggknfhchlaa.P

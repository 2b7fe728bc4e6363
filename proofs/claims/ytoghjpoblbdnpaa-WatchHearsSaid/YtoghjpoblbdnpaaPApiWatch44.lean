/- What printed functions come to, and that the machine's calls do it. No condition. -/
import Derived.Test.YtoghjpoblbdnpaaP0
import Derived.Test.YtoghjpoblbdnpaaHw
namespace Go.Proofs.Ytoghjpoblbdnpaa.P
set_option maxHeartbeats 8000000
set_option maxRecDepth 100000
open Go.RowKit Go.Proofs.YtoghjpoblbdnpaaW.PrintWords Go.Proofs.YtoghjpoblbdnpaaW.PrintLast Go.Proofs.YtoghjpoblbdnpaaW.PrintMore
attribute [local go_sem] qt_ qr_ qx_ qw_ qn_ qm_ qs_ qq_ Go.Proofs.YtoghjpoblbdnpaaW.Hw.string_gtr
set_option linter.unusedVariables false
set_option linter.unusedSimpArgs false
def eqfX (q : S36 → S36 → Bool) (l0 l1 : List S36) : Bool := decide (l0.length = l1.length) && (List.range l0.length).all (fun j => q (l0.getD j z36) (l1.getD j z36))
theorem eqfX_hit {q : S36 → S36 → Bool} {l0 l1 : List S36} (j : Nat) (hj : j < l0.length) (h : q (l0.getD j z36) (l1.getD j z36) = false) : eqfX q l0 l1 = false := by
 unfold eqfX
 rw [Bool.and_eq_false_iff]; refine .inr ?_; rw [List.all_eq_false]; exact ⟨j, List.mem_range.2 hj, by rw [h]; simp⟩
theorem eqfX_miss {q : S36 → S36 → Bool} {l0 l1 : List S36} (hl : l0.length = l1.length) (h : ∀ j, j < l0.length → q (l0.getD j z36) (l1.getD j z36) = true) : eqfX q l0 l1 = true := by
 unfold eqfX
 rw [decide_eq_true hl, Bool.true_and, List.all_eq_true]
 exact fun j hj => h j (List.mem_range.1 hj)
theorem eqfX_len {q : S36 → S36 → Bool} {l0 l1 : List S36} (hl : ¬ l0.length = l1.length) : eqfX q l0 l1 = false := by
 unfold eqfX
 rw [decide_eq_false hl, Bool.false_and]
open Go.Proofs.YtoghjpoblbdnpaaW.Hw in
theorem EqualFuncX.calls (q : S36 → S36 → Bool) (g : Nat) (eg : ∀ args w, (callFunc g args).run Try.prog w = .ok (.enter g args) w) (A0 : Option Addr) (c0 : Nat) (l0 : List S36) (A1 : Option Addr) (c1 : Nat) (l1 : List S36) (w : World)
  (hp : ∀ (W : World) (x y : S36) (cx cy : List Value), (k36).K W x cx → (k36).K W y cy → Calls Try.prog g #[aggOf cx, aggOf cy] W fun e w' => e = .returned (.bool (q x y)) ∧ Below W.heap.size W w')
  (hr0 : Kd.C k36 w A0 l0.length l0) (hr1 : Kd.C k36 w A1 l1.length l1) :
  Calls Try.prog 44 #[.slice A0 l0.length c0, .slice A1 l1.length c1, .func (.func g) #[] #[]] w fun e w' => e = .returned (.bool (eqfX q l0 l1)) ∧ Below w.heap.size w w' := by
 have HR0 := Zq_.mk hr0; have HR1 := Zq_.mk hr1; have HP := Zq_.mk hp; have HM := Zq_.mk (Kd.C_max hr0); clear hr0 hr1 hp; have HB0 := Zq_.mk (Below.refl w.heap.size w)
 by_cases hll : l0.length = l1.length
 case neg =>
  have e1 : ((l0.length : Int) != (l1.length : Int)) = true := bne_iff_ne.mpr (by omega); have e2 : (l0.length != l1.length) = true := bne_iff_ne.mpr hll; have e3 : ((l0.length : Int) = (l1.length : Int)) = False := eq_false (by omega); have e4 : (l0.length = l1.length) = False := eq_false hll; have HQ := Zq_.mk (eqfX_len (q := q) hll); clear hll
  go_enter Try.func44, Try.ntmps44
  go_wp2
  go_ret
  exact ⟨by rw [HQ.out]; rfl, HB0.out⟩
 case pos =>
  have HLL := Zq_.mk hll
  have e1 : ((l0.length : Int) != (l1.length : Int)) = false := by rw [hll]; simp
  have e2 : (l0.length != l1.length) = false := by rw [hll]; simp
  have e3 : ((l0.length : Int) = (l1.length : Int)) = True := eq_true (by omega); have e4 : (l0.length = l1.length) = True := eq_true hll; clear hll
  go_enter Try.func44, Try.ntmps44
  go_wp2
  go_loopg [17] (l0.length + 1) (fun kq v17 w' => ∃ i : Nat, v17 = .int .i64 (i : Int) ∧ Zq_ (i ≤ l0.length ∧ kq + i = l0.length + 1) ∧ Zq_ (∀ j, j < i → q (l0.getD j z36) (l1.getD j z36) = true) ∧ Zq_ (Below w.heap.size w w'))
  case atStart => exact ⟨0, rfl, ⟨by omega, by omega⟩, ⟨fun j hj => absurd hj (Nat.not_lt_zero _)⟩, HB0⟩
  case round =>
   clear HB0; obtain ⟨i, rfl, HI, HA, HB⟩ := hrel
   by_cases hi : i < l0.length
   ·have hi1 : i < l1.length := by have := HLL.out; omega
    obtain ⟨ad, A4, c4, e_, hx_0, hx_1, hx_2, hx_3, hx_4, hx_5, hx_6, l4, g4⟩ := at_T36 HR0.out (i : Int) (by omega) (by omega); cases e_; obtain ⟨ae, A5, c5, e_, hy_0, hy_1, hy_2, hy_3, hy_4, hy_5, hy_6, l5, g5⟩ := at_T36 HR1.out (i : Int) (by omega) (by omega); cases e_; obtain ⟨x, hx⟩ : ∃ x_, x_ = rd_T36 l0 (i : Int) := ⟨_, rfl⟩; obtain ⟨y, hy⟩ : ∃ y_, y_ = rd_T36 l1 (i : Int) := ⟨_, rfl⟩; rw [← hx] at hx_0 hx_1 hx_2 hx_3 hx_4 hx_5 hx_6 l4 g4; rw [← hy] at hy_0 hy_1 hy_2 hy_3 hy_4 hy_5 hy_6 l5 g5; replace hx_0 := hC_ HB hx_0; replace hy_0 := hC_ HB hy_0; replace hx_1 := hC_ HB hx_1; replace hy_1 := hC_ HB hy_1; replace hx_2 := hC_ HB hx_2; replace hy_2 := hC_ HB hy_2; replace hx_3 := hC_ HB hx_3; replace hy_3 := hC_ HB hy_3; replace hx_4 := hC_ HB hx_4; replace hy_4 := hC_ HB hy_4; replace hx_5 := hC_ HB hx_5; replace hy_5 := hC_ HB hy_5; replace hx_6 := hC_ HB hx_6; replace hy_6 := hC_ HB hy_6; have HX := Zq_.mk (show x = l0.getD i z36 by rw [hx]; rfl); have HY := Zq_.mk (show y = l1.getD i z36 by rw [hy]; rfl); have HII := Zq_.mk hi; have L4 := Zq_.mk l4; have G4 := Zq_.mk g4; have L5 := Zq_.mk l5; have G5 := Zq_.mk g5; have HWR := Zq_.mk (show wrap64 ((i : Int) + 1) = ((i + 1 : Nat) : Int) by have := HM.out; unfold wrap64; omega); have j1 : decide ((i : Int) < (l0.length : Int)) = true := decide_eq_true (by omega); have j2 : ((i : Int) < (l0.length : Int)) = True := eq_true (by omega); have j3 : (i < l0.length) = True := eq_true hi; have j4 : decide (i < l0.length) = true := decide_eq_true hi; have k2 : ((i : Int) < (l1.length : Int)) = True := eq_true (by omega); have k3 : (i < l1.length) = True := eq_true hi1; clear hx hy hi hi1 l4 g4 l5 g5; simp only [Int.toNat_natCast] at hx_0 hx_1 hx_2 hx_3 hx_4 hx_5 hx_6 hy_0 hy_1 hy_2 hy_3 hy_4 hy_5 hy_6
    go_upto_region 6 with (first | ((with_reducible refine qc_ (N := 8) rfl ?_); refine bE_ 8 #[.int .i64 0, .int .i64 0, .int .i64 0, .int .i64 0, .slice none 0 0, .bool false, .int .i64 0] 36 ?_; intro gx hg_ w1 hbox_ hb_; have GXa := Zq_.mk (Nat.le_of_eq hg_.symm); have BXa := Zq_.mk hb_; have BKa := Zq_.mk hbox_; clear hb_ hbox_ hg_; have hza0 : w1.cell? ⟨gx, 0, none⟩ = some (.int .i64 0) := (qa_ BKa.out 0).trans rfl; have hfa0 := qf_ BKa.out 0; have hza1 : w1.cell? ⟨gx, 1, none⟩ = some (.int .i64 0) := (qa_ BKa.out 1).trans rfl; have hfa1 := qf_ BKa.out 1; have hza2 : w1.cell? ⟨gx, 2, none⟩ = some (.int .i64 0) := (qa_ BKa.out 2).trans rfl; have hfa2 := qf_ BKa.out 2; have hza3 : w1.cell? ⟨gx, 3, none⟩ = some (.int .i64 0) := (qa_ BKa.out 3).trans rfl; have hfa3 := qf_ BKa.out 3; have hza4 : w1.cell? ⟨gx, 4, none⟩ = some (.slice none 0 0) := (qa_ BKa.out 4).trans rfl; have hfa4 := qf_ BKa.out 4; have hza5 : w1.cell? ⟨gx, 5, none⟩ = some (.bool false) := (qa_ BKa.out 5).trans rfl; have hfa5 := qf_ BKa.out 5; have hza6 : w1.cell? ⟨gx, 6, none⟩ = some (.int .i64 0) := (qa_ BKa.out 6).trans rfl; have hfa6 := qf_ BKa.out 6))
    have HXB := Zq_.mk (qj_ (qj_ (qj_ (qj_ (qj_ (qj_ (qj_ BXa.out GXa.out (j := 0) (v := .int .i64 x.f0)) GXa.out (j := 1) (v := .int .i64 x.f1)) GXa.out (j := 2) (v := .int .i64 x.f2)) GXa.out (j := 3) (v := .int .i64 x.f3.f0)) GXa.out (j := 4) (v := .slice A4 x.f3.f1.length c4)) GXa.out (j := 5) (v := .bool x.f4)) GXa.out (j := 6) (v := .int .i64 x.f5)); have BK1 := Zq_.mk (show _ = some (Obj.cells #[.int .i64 x.f0, .int .i64 x.f1, .int .i64 x.f2, .int .i64 x.f3.f0, .slice A4 x.f3.f1.length c4, .bool x.f4, .int .i64 x.f5] 36 (0, 0)) from (qv_ (qv_ (qv_ (qv_ (qv_ (qv_ (qv_ BKa.out 0 (.int .i64 x.f0)) 1 (.int .i64 x.f1)) 2 (.int .i64 x.f2)) 3 (.int .i64 x.f3.f0)) 4 (.slice A4 x.f3.f1.length c4)) 5 (.bool x.f4)) 6 (.int .i64 x.f5))); generalize hw2 : (((((((w1.setCell ⟨gx, 0, none⟩ (.int .i64 x.f0)).setCell ⟨gx, 1, none⟩ (.int .i64 x.f1)).setCell ⟨gx, 2, none⟩ (.int .i64 x.f2)).setCell ⟨gx, 3, none⟩ (.int .i64 x.f3.f0)).setCell ⟨gx, 4, none⟩ (.slice A4 x.f3.f1.length c4)).setCell ⟨gx, 5, none⟩ (.bool x.f4)).setCell ⟨gx, 6, none⟩ (.int .i64 x.f5)) = w2 at HXB BK1 ⊢; clear hw2 BKa BXa GXa hx_0 hx_1 hx_2 hx_3 hx_4 hx_5 hx_6; replace hy_0 := (HXB.out.cell (wb_ _ _ hy_0)).trans hy_0; replace hy_1 := (HXB.out.cell (wb_ _ _ hy_1)).trans hy_1; replace hy_2 := (HXB.out.cell (wb_ _ _ hy_2)).trans hy_2; replace hy_3 := (HXB.out.cell (wb_ _ _ hy_3)).trans hy_3; replace hy_4 := (HXB.out.cell (wb_ _ _ hy_4)).trans hy_4; replace hy_5 := (HXB.out.cell (wb_ _ _ hy_5)).trans hy_5; replace hy_6 := (HXB.out.cell (wb_ _ _ hy_6)).trans hy_6; have HB2 := Zq_.mk (qe_ HB.out HXB.out); clear HB HXB
    go_upto_region 7 with (first | ((with_reducible refine qc_ (N := 9) rfl ?_); refine bE_ 9 #[.int .i64 0, .int .i64 0, .int .i64 0, .int .i64 0, .slice none 0 0, .bool false, .int .i64 0] 36 ?_; intro gy hg_ w3 hbox_ hb_; have GXb := Zq_.mk (Nat.le_of_eq hg_.symm); have BXb := Zq_.mk hb_; have BKb := Zq_.mk hbox_; clear hb_ hbox_ hg_; have hzb0 : w3.cell? ⟨gy, 0, none⟩ = some (.int .i64 0) := (qa_ BKb.out 0).trans rfl; have hfb0 := qf_ BKb.out 0; have hzb1 : w3.cell? ⟨gy, 1, none⟩ = some (.int .i64 0) := (qa_ BKb.out 1).trans rfl; have hfb1 := qf_ BKb.out 1; have hzb2 : w3.cell? ⟨gy, 2, none⟩ = some (.int .i64 0) := (qa_ BKb.out 2).trans rfl; have hfb2 := qf_ BKb.out 2; have hzb3 : w3.cell? ⟨gy, 3, none⟩ = some (.int .i64 0) := (qa_ BKb.out 3).trans rfl; have hfb3 := qf_ BKb.out 3; have hzb4 : w3.cell? ⟨gy, 4, none⟩ = some (.slice none 0 0) := (qa_ BKb.out 4).trans rfl; have hfb4 := qf_ BKb.out 4; have hzb5 : w3.cell? ⟨gy, 5, none⟩ = some (.bool false) := (qa_ BKb.out 5).trans rfl; have hfb5 := qf_ BKb.out 5; have hzb6 : w3.cell? ⟨gy, 6, none⟩ = some (.int .i64 0) := (qa_ BKb.out 6).trans rfl; have hfb6 := qf_ BKb.out 6))
    have HXB := Zq_.mk (qj_ (qj_ (qj_ (qj_ (qj_ (qj_ (qj_ BXb.out GXb.out (j := 0) (v := .int .i64 y.f0)) GXb.out (j := 1) (v := .int .i64 y.f1)) GXb.out (j := 2) (v := .int .i64 y.f2)) GXb.out (j := 3) (v := .int .i64 y.f3.f0)) GXb.out (j := 4) (v := .slice A5 y.f3.f1.length c5)) GXb.out (j := 5) (v := .bool y.f4)) GXb.out (j := 6) (v := .int .i64 y.f5)); have BK2 := Zq_.mk (show _ = some (Obj.cells #[.int .i64 y.f0, .int .i64 y.f1, .int .i64 y.f2, .int .i64 y.f3.f0, .slice A5 y.f3.f1.length c5, .bool y.f4, .int .i64 y.f5] 36 (0, 0)) from (qv_ (qv_ (qv_ (qv_ (qv_ (qv_ (qv_ BKb.out 0 (.int .i64 y.f0)) 1 (.int .i64 y.f1)) 2 (.int .i64 y.f2)) 3 (.int .i64 y.f3.f0)) 4 (.slice A5 y.f3.f1.length c5)) 5 (.bool y.f4)) 6 (.int .i64 y.f5))); generalize hw4 : (((((((w3.setCell ⟨gy, 0, none⟩ (.int .i64 y.f0)).setCell ⟨gy, 1, none⟩ (.int .i64 y.f1)).setCell ⟨gy, 2, none⟩ (.int .i64 y.f2)).setCell ⟨gy, 3, none⟩ (.int .i64 y.f3.f0)).setCell ⟨gy, 4, none⟩ (.slice A5 y.f3.f1.length c5)).setCell ⟨gy, 5, none⟩ (.bool y.f4)).setCell ⟨gy, 6, none⟩ (.int .i64 y.f5)) = w4 at HXB BK2 ⊢; clear hw4 BKb BXb GXb hy_0 hy_1 hy_2 hy_3 hy_4 hy_5 hy_6; have HB4 := Zq_.mk (qe_ HB2.out HXB.out); have BK3 := Zq_.mk (blk_bel BK1.out HXB.out); clear HB2 HXB BK1; have hs0 : w4.cell? ⟨gx, 0, none⟩ = some (.int .i64 x.f0) := (qa_ BK3.out 0).trans rfl; have ht0 : w4.cell? ⟨gy, 0, none⟩ = some (.int .i64 y.f0) := (qa_ BK2.out 0).trans rfl; have hs1 : w4.cell? ⟨gx, 1, none⟩ = some (.int .i64 x.f1) := (qa_ BK3.out 1).trans rfl; have ht1 : w4.cell? ⟨gy, 1, none⟩ = some (.int .i64 y.f1) := (qa_ BK2.out 1).trans rfl; have hs2 : w4.cell? ⟨gx, 2, none⟩ = some (.int .i64 x.f2) := (qa_ BK3.out 2).trans rfl; have ht2 : w4.cell? ⟨gy, 2, none⟩ = some (.int .i64 y.f2) := (qa_ BK2.out 2).trans rfl; have hs3 : w4.cell? ⟨gx, 3, none⟩ = some (.int .i64 x.f3.f0) := (qa_ BK3.out 3).trans rfl; have ht3 : w4.cell? ⟨gy, 3, none⟩ = some (.int .i64 y.f3.f0) := (qa_ BK2.out 3).trans rfl; have hs4 : w4.cell? ⟨gx, 4, none⟩ = some (.slice A4 x.f3.f1.length c4) := (qa_ BK3.out 4).trans rfl; have ht4 : w4.cell? ⟨gy, 4, none⟩ = some (.slice A5 y.f3.f1.length c5) := (qa_ BK2.out 4).trans rfl; have hs5 : w4.cell? ⟨gx, 5, none⟩ = some (.bool x.f4) := (qa_ BK3.out 5).trans rfl; have ht5 : w4.cell? ⟨gy, 5, none⟩ = some (.bool y.f4) := (qa_ BK2.out 5).trans rfl; have hs6 : w4.cell? ⟨gx, 6, none⟩ = some (.int .i64 x.f5) := (qa_ BK3.out 6).trans rfl; have ht6 : w4.cell? ⟨gy, 6, none⟩ = some (.int .i64 y.f5) := (qa_ BK2.out 6).trans rfl; have HCALL := Zq_.mk (show Calls Try.prog g #[.agg #[.int .i64 x.f0, .int .i64 x.f1, .int .i64 x.f2, .int .i64 x.f3.f0, .slice A4 x.f3.f1.length c4, .bool x.f4, .int .i64 x.f5], .agg #[.int .i64 y.f0, .int .i64 y.f1, .int .i64 y.f2, .int .i64 y.f3.f0, .slice A5 y.f3.f1.length c5, .bool y.f4, .int .i64 y.f5]] w4 (fun e w1 => e = .returned (.bool (q x y)) ∧ Below w4.heap.size w4 w1) from HP.out w4 x y [.int .i64 x.f0, .int .i64 x.f1, .int .i64 x.f2, .int .i64 x.f3.f0, .slice A4 x.f3.f1.length c4, .bool x.f4, .int .i64 x.f5] [.int .i64 y.f0, .int .i64 y.f1, .int .i64 y.f2, .int .i64 y.f3.f0, .slice A5 y.f3.f1.length c5, .bool y.f4, .int .i64 y.f5] (k36_mk w4 x L4.out (Kd.qi_ G4.out HB4.out)) (k36_mk w4 y L5.out (Kd.qi_ G5.out HB4.out)))
    cases hq : q x y with
    | false =>
     have hcall := HCALL.out; rw [hq] at hcall; have HQ := Zq_.mk hq; clear hq
     go_wp2_with fail
     refine hcall.mono ?_; rintro e w5 ⟨rfl, hb5⟩; have HB5 := Zq_.mk hb5; clear hb5 hcall
     go_wp2_with fail
     go_ret
     exact ⟨by rw [eqfX_hit (q := q) i HII.out (by rw [← HX.out, ← HY.out]; exact HQ.out)]; rfl, qe_ HB4.out HB5.out⟩
    | true =>
     have hcall := HCALL.out; rw [hq] at hcall; have HQ := Zq_.mk hq; clear hq
     go_wp2_with fail
     refine hcall.mono ?_; rintro e w5 ⟨rfl, hb5⟩; have HB5 := Zq_.mk hb5; clear hb5 hcall
     go_wp2_with fail
     go_roundg (l0.length - i)
     case measure => have := HI.out.2; have := HII.out; omega
     case rel => exact ⟨i + 1, by first | rfl | exact congrArg (Value.int .i64) HWR.out, ⟨by have := HII.out; omega, by have := HI.out.2; have := HII.out; omega⟩, ⟨fun j hj => by
      by_cases e : j = i
      ·subst e; rw [← HX.out, ← HY.out]; exact HQ.out
      ·exact HA.out j (by omega)⟩, ⟨qe_ HB4.out HB5.out⟩⟩
   ·have hi2 : i = l0.length := by have := HI.out.1; omega
    subst hi2; have HQ := Zq_.mk (eqfX_miss (q := q) HLL.out HA.out); clear hi
    go_wp2
    go_ret
    exact ⟨by rw [HQ.out]; rfl, HB.out⟩
def api_Watch_52.f (l0 : List S36) : Option (List S36) := if l0.length < 1954687338268 then some l0 else none
open Go.Proofs.YtoghjpoblbdnpaaW.Hw in
theorem api_Watch_52.calls (P0_ : Nat → Prop) (A0 : Option Addr) (c0 : Nat) (l0 : List S36) (r : List S36) (w : World) (hs0 : Kd.V k36 36 w w.heap.size (fun k_ => P0_ k_) (.slice A0 l0.length c0) l0) (h : api_Watch_52.f l0 = some r) :
  Calls Try.prog 52 #[.slice A0 l0.length c0] w fun e w' => ∃ v0_ : Value, e = .returned v0_ ∧ Kd.N k36 36 w' w.heap.size (fun k_ => (P0_ k_ ∨ w.heap.size ≤ k_)) v0_ r ∧ Below w.heap.size w w' := by
 unfold api_Watch_52.f at h
 by_cases hl : l0.length < 1954687338268
 case neg => rw [if_neg hl] at h; cases h
 rw [if_pos hl] at h; obtain rfl := Option.some.inj h; clear h; have LM := Zq_.mk hl; clear hl
 have hnil : ∀ (W : World) (a : Option Addr) (n c n' c' : Nat), (binOp .eql 22 (.slice a n c) (.slice none n' c')).run Try.prog W = .ok (.bool a.isNone) W := fun W a n c n' c' => Lib.run_eql_slice_nil W _ _ a n c n' c' Try.underlying22
 have HB := Zq_.mk (Below.refl w.heap.size w)
 cases A0 with
 | none =>
  have e0 : l0 = [] := by
   rcases Nat.eq_zero_or_pos l0.length with e | e
   ·exact List.eq_nil_of_length_eq_zero e
   ·obtain ⟨ad, e1, _⟩ := (Kd.V_reads' hs0).2.2.2.2 e; cases e1
  subst e0; clear hs0 LM
  go_enter Try.func52, Try.ntmps52
  go_wp2
  go_ret
  exact ⟨_, rfl, Kd.N_nil _ _ _ _ _, Below.refl _ _⟩
 | some ad =>
  have HR := Zq_.mk hs0; clear hs0
  go_enter Try.func52, Try.ntmps52
  go_wp2_with (first
   | ((with_reducible refine qc_ (N := 5) rfl ?_); refine Kd.N_lit k36 _ 36 ?hg (N' := 5) ?hd (xs := ([] : List S36)) (inner := []) (ok := (fun k_ => (P0_ k_ ∨ w.heap.size ≤ k_))) (okp := (fun k_ => (P0_ k_ ∨ w.heap.size ≤ k_))) ?hr ?hp (fun _ hk => hk) (.inr (qb_ (hB_ HB))) (Below.refl _ _) (Nat.le_refl _) (by simp) ?_; (case hd => rfl); (case hg => rfl); (case hr => first | (go_simp; done) | (go_simp; rfl)); (case hp => exact (Reps.none _ _)); intro v5 w5 ho hb hg_ hnew_; clear hg_ hnew_; have HO := Zq_.mk (Kd.vi_ ho (qb_ (hB_ HB))); replace HB := sB_ HB hb; clear hb ho)
   | ((with_reducible refine vq_ (b := .append) (xs := #[.tmp 5, .tmp 6]) rfl ?_); at_builtin; refine Kd.N_append_rows k36 (w0 := w) w.heap.size rfl (.tmp 5) (.tmp 6) 22 36 (.agg #[(.int .i64 0), (.int .i64 0), (.int .i64 0), (.int .i64 0), (.slice none 0 0), (.bool false), (.int .i64 0)]) 72 rfl Try.underlying22 info36 rfl (by decide) (by omega) v5 ([] : List S36) l0 _ _ _ (fun k_ => (P0_ k_ ∨ w.heap.size ≤ k_)) (fun k_ => (fun k_ => (P0_ k_ ∨ w.heap.size ≤ k_)) k_ ∧ some k_ ≠ (v5 : Value).ownBlock) rfl rfl ?aO ?aR (fun _ hk => hk) ?aF ?aB ?aS ?aL ?_; (case aR => exact Kd.F_mono (Kd.F_below (Kd.F_bound (Kd.V_F HR.out)) HB.out) (fun k_ hk => ⟨.inl hk.1, fun e_ => absurd (Kd.N_base HO.out k_ e_.symm) (Nat.not_le.2 hk.2)⟩)); (case aB => exact (hB_ HB)); (case aF => exact (fun k_ hk => .inr (Nat.le_trans (qb_ (hB_ HB)) hk))); (case aO => exact (vX_ HO)); (case aS => exact (qb_ (hB_ HB))); (case aL => have := LM.out; simp only [List.length_nil]; omega); intro v7 w9 ho hb hg hat; rw [List.nil_append] at ho; replace HB := Zq_.mk hb; replace HO := Zq_.mk ho; clear ho hb hg hat))
  go_ret
  exact ⟨_, rfl, by (with_reducible repeat (first | apply Kd.qz_ | apply Kd.qy_ | apply Kd.N_drew)); exact HO.out, (hB_ HB)⟩
open Go.Proofs.YtoghjpoblbdnpaaW.Hw in
theorem IndexFuncX.calls (p : S36 → Bool) (g : Nat) (lb : Array Value) (eg : ∀ args w, (callFunc g args).run Try.prog w = .ok (.enter g args) w) (A0 : Option Addr) (c0 : Nat) (l0 : List S36) (w : World)
  (hp : PredK Try.prog k36 g lb aggOf p w) (hr0 : Kd.C k36 w A0 l0.length l0) :
  Calls Try.prog 65 #[.slice A0 l0.length c0, .func (.func g) #[] lb] w fun e w' => e = .returned (.int .i64 (idxI p l0)) ∧ Below w.heap.size w w' := by
 have hu_ := Try.underlying36; have HR := Zq_.mk hr0; have HP := Zq_.mk hp; have HM := Zq_.mk (Kd.C_max hr0); clear hr0 hp; have HB := Zq_.mk (Below.refl w.heap.size w)
 go_enter Try.func65, Try.ntmps65
 go_wp2
 go_loopg [5, 8] l0.length (fun gg _ s8 wr => ∃ i : Int, s8 = .int .i64 i ∧ Zq_ (0 ≤ i ∧ i ≤ (l0.length : Int) ∧ l0.length - i.toNat ≤ gg) ∧ Zq_ (Below w.heap.size w wr) ∧ Zq_ (∀ j, j < i.toNat → p (l0.getD j z36) = false))
 case atStart => exact ⟨0, rfl, ⟨by omega⟩, HB, ⟨fun j hj => absurd hj (Nat.not_lt_zero _)⟩⟩
 case round =>
  obtain ⟨i, rfl, HI, BW, A⟩ := hrel
  by_cases hlt : i < (l0.length : Int)
  ·have hltb : decide (i < (l0.length : Int)) = true := decide_eq_true hlt; have p1 := HI.out.1; obtain ⟨ad, A3_, c3_, e_, hx_0, hx_1, hx_2, hx_3, hx_4, hx_5, hx_6, l3_, g3_⟩ := at_T36 HR.out i p1 hlt; cases e_; replace hx_0 := (BW.out.cell (wb_ w _ hx_0)).trans hx_0; replace hx_1 := (BW.out.cell (wb_ w _ hx_1)).trans hx_1; replace hx_2 := (BW.out.cell (wb_ w _ hx_2)).trans hx_2; replace hx_3 := (BW.out.cell (wb_ w _ hx_3)).trans hx_3; replace hx_4 := (BW.out.cell (wb_ w _ hx_4)).trans hx_4; replace hx_5 := (BW.out.cell (wb_ w _ hx_5)).trans hx_5; replace hx_6 := (BW.out.cell (wb_ w _ hx_6)).trans hx_6; have hcall : Calls Try.prog g (#[.agg #[.int .i64 (rd_T36 l0 i).f0, .int .i64 (rd_T36 l0 i).f1, .int .i64 (rd_T36 l0 i).f2, .int .i64 (rd_T36 l0 i).f3.f0, .slice A3_ (rd_T36 l0 i).f3.f1.length c3_, .bool (rd_T36 l0 i).f4, .int .i64 (rd_T36 l0 i).f5]] ++ lb) wr (fun e w1 => e = .returned (.bool (p (rd_T36 l0 i))) ∧ Below wr.heap.size wr w1) := HP.out wr (rd_T36 l0 i) [.int .i64 (rd_T36 l0 i).f0, .int .i64 (rd_T36 l0 i).f1, .int .i64 (rd_T36 l0 i).f2, .int .i64 (rd_T36 l0 i).f3.f0, .slice A3_ (rd_T36 l0 i).f3.f1.length c3_, .bool (rd_T36 l0 i).f4, .int .i64 (rd_T36 l0 i).f5] BW.out (k36_mk wr (rd_T36 l0 i) l3_ (Kd.qi_ g3_ BW.out)); have HL := Zq_.mk hlt; replace p1 := eq_true p1; replace hlt := eq_true hlt; have hwr := Zq_.mk (show wrap64 (i + 1) = i + 1 by have := HI.out; have := HM.out; have := HL.out; unfold wrap64; omega)
   cases hq : p (rd_T36 l0 i) with
   | true =>
    rw [hq] at hcall; have HQ := Zq_.mk hq; clear hq
    go_wp2_with fail
    refine hcall.mono ?_; rintro e w1 ⟨rfl, hb1⟩
    go_wp2_with fail
    go_ret
    refine ⟨?_, (by have hb2 := qe_ BW.out hb1; exact hb2)⟩; have h1 := HI.out; have h2 := HL.out; rw [idxI_hit p l0 z36 i.toNat (by omega) HQ.out A.out, Int.toNat_of_nonneg h1.1]; rfl
   | false =>
    rw [hq] at hcall; have HQ := Zq_.mk hq; clear hq
    go_wp2_with fail
    refine hcall.mono ?_; rintro e w1 ⟨rfl, hb1⟩
    go_wp2_with fail
    go_roundg (l0.length - (i.toNat + 1))
    case measure => have h1 := HI.out; have h2 := HL.out; omega
    case rel => exact ⟨wrap64 (i + 1), eS_, ⟨by rw [hwr.out]; have h1 := HI.out; have h2 := HL.out; omega⟩, ⟨qe_ BW.out hb1⟩, ⟨fun j hj => by
     rw [hwr.out] at hj; have h1 := HI.out
     by_cases e : j = i.toNat
     ·subst e; exact HQ.out
     ·exact A.out j (by omega)⟩⟩
  ·have hltb : decide (i < (l0.length : Int)) = false := decide_eq_false hlt; have HL := Zq_.mk hlt; clear hlt
   go_wp2
   go_ret
   refine ⟨?_, BW.out⟩; have h1 := HI.out; have h2 := HL.out; rw [idxI_miss p l0 z36 (fun j hj => A.out j (by omega))]; rfl
/-- The halving: the place where `less` ends. -/
def halveX (less : Nat → Bool) : Nat → Nat → Nat → Nat
 | 0, lo, _ => lo
 | f + 1, lo, hi => if lo < hi then (if less ((lo + hi) / 2) then halveX less f ((lo + hi) / 2 + 1) hi else halveX less f lo ((lo + hi) / 2)) else lo
theorem halveX_end (less : Nat → Bool) (f lo : Nat) : halveX less f lo lo = lo := by cases f <;> simp [halveX]
theorem halveX_up (less : Nat → Bool) {f lo hi : Nat} (h : lo < hi) (hl : less ((lo + hi) / 2) = true) : halveX less (f + 1) lo hi = halveX less f ((lo + hi) / 2 + 1) hi := by simp [halveX, h, hl]
theorem halveX_down (less : Nat → Bool) {f lo hi : Nat} (h : lo < hi) (hl : less ((lo + hi) / 2) = false) : halveX less (f + 1) lo hi = halveX less f lo ((lo + hi) / 2) := by simp [halveX, h, hl]
open Go.Proofs.YtoghjpoblbdnpaaW.Hw in
theorem SearchX.calls (c : S36 → Int) (t : Int) (g : Nat) (lb : Array Value) (eg : ∀ args w, (callFunc g args).run Try.prog w = .ok (.enter g args) w) (A0 : Option Addr) (c0 : Nat) (l0 : List S36) (w : World)
  (hp : ∀ (W : World) (x : S36) (cs : List Value), Below w.heap.size w W → (k36).K W x cs → Calls Try.prog g (#[aggOf cs, .int .i64 t] ++ lb) W fun e w' => e = .returned (.int .i64 (c x)) ∧ Below W.heap.size W w') (hr0 : Kd.C k36 w A0 l0.length l0) (hlen : l0.length < 1954687338268) :
  Calls Try.prog 58 #[.slice A0 l0.length c0, .int .i64 t, .func (.func g) #[] lb] w fun e w' =>
   e = .returned (.tuple #[.int .i64 (halveX (fun j => decide (c (l0.getD j z36) < 0)) l0.length 0 l0.length : Nat), .bool (decide (halveX (fun j => decide (c (l0.getD j z36) < 0)) l0.length 0 l0.length < l0.length) && decide (c (l0.getD (halveX (fun j => decide (c (l0.getD j z36) < 0)) l0.length 0 l0.length) z36) = 0))]) ∧ Below w.heap.size w w' := by
 have hu_ := Try.underlying36; have HR := Zq_.mk hr0; have HP := Zq_.mk hp; have HM := Zq_.mk hlen; clear hr0 hp hlen; generalize hres : halveX (fun j => decide (c (l0.getD j z36) < 0)) l0.length 0 l0.length = res; have HE := Zq_.mk hres; clear hres
 go_enter Try.func58, Try.ntmps58
 go_wp2
 go_loopg [9, 10] l0.length (fun kx s9 s10 wr => ∃ lo hi : Nat, s9 = .int .i64 lo ∧ s10 = .int .i64 hi ∧ Zq_ (lo ≤ hi ∧ hi ≤ l0.length ∧ hi - lo ≤ kx) ∧ Zq_ (Below w.heap.size w wr) ∧ Zq_ (∃ f, hi - lo ≤ f ∧ halveX (fun j => decide (c (l0.getD j z36) < 0)) f lo hi = res))
 case atStart => exact ⟨0, l0.length, rfl, rfl, ⟨by omega⟩, ⟨Below.refl _ w⟩, ⟨l0.length, by omega, HE.out⟩⟩
 case round =>
  obtain ⟨lo, hi, rfl, rfl, HI, BW, HF⟩ := hrel
  by_cases hlt : lo < hi
  ·have hhi := HI.out.2.1; have hM := HM.out
   have v1 : wrap64 ((lo : Int) + (hi : Int)) = (lo : Int) + (hi : Int) := by unfold wrap64; omega
   have v2 : IntKind.u64.wrap ((lo : Int) + (hi : Int)) = (lo : Int) + (hi : Int) := by first | (rw [IntKind.wrap_u64]; omega) | (simp [IntKind.wrap]; omega)
   have v3 : wrap64 (((lo : Int) + (hi : Int)) / 2) = ((lo : Int) + (hi : Int)) / 2 := by unfold wrap64; omega
   have p1 : (0 : Int) ≤ ((lo : Int) + (hi : Int)) / 2 := by omega
   have p2 : ((lo : Int) + (hi : Int)) / 2 < (l0.length : Int) := by omega
   obtain ⟨ad, A4, c4, e_, hx_0, hx_1, hx_2, hx_3, hx_4, hx_5, hx_6, l4, g4⟩ := at_T36 HR.out (((lo : Int) + (hi : Int)) / 2) p1 p2; cases e_; replace hx_0 := (BW.out.cell (wb_ w _ hx_0)).trans hx_0; replace hx_1 := (BW.out.cell (wb_ w _ hx_1)).trans hx_1; replace hx_2 := (BW.out.cell (wb_ w _ hx_2)).trans hx_2; replace hx_3 := (BW.out.cell (wb_ w _ hx_3)).trans hx_3; replace hx_4 := (BW.out.cell (wb_ w _ hx_4)).trans hx_4; replace hx_5 := (BW.out.cell (wb_ w _ hx_5)).trans hx_5; replace hx_6 := (BW.out.cell (wb_ w _ hx_6)).trans hx_6; rw [show (((lo : Int) + (hi : Int)) / 2).toNat = (lo + hi) / 2 by omega] at hx_0 hx_1 hx_2 hx_3 hx_4 hx_5 hx_6; have HD0 := Zq_.mk (show (rd_T36 l0 (((lo : Int) + (hi : Int)) / 2)) = l0.getD ((lo + hi) / 2) z36 by unfold rd_T36; congr 1); generalize (rd_T36 l0 (((lo : Int) + (hi : Int)) / 2)) = y at hx_0 hx_1 hx_2 hx_3 hx_4 hx_5 hx_6 l4 g4 HD0; have hcall : Calls Try.prog g (#[.agg #[.int .i64 y.f0, .int .i64 y.f1, .int .i64 y.f2, .int .i64 y.f3.f0, .slice A4 y.f3.f1.length c4, .bool y.f4, .int .i64 y.f5], .int .i64 t] ++ lb) wr (fun e w1 => e = .returned (.int .i64 (c y)) ∧ Below wr.heap.size wr w1) := HP.out wr y [.int .i64 y.f0, .int .i64 y.f1, .int .i64 y.f2, .int .i64 y.f3.f0, .slice A4 y.f3.f1.length c4, .bool y.f4, .int .i64 y.f5] BW.out (k36_mk wr y l4 (Kd.qi_ g4 BW.out)); have HCALL := Zq_.mk hcall; clear hcall l4 g4 hM; have p3 := decide_eq_true p2; have p4 := decide_eq_true p1; replace p1 := eq_true p1; replace p2 := eq_true p2
   by_cases hyx : c y < 0
   ·have hd := decide_eq_true hyx; have HD := Zq_.mk hd; have q1 := eq_true hyx; clear hyx
    go_wp2_with fail
    refine HCALL.out.mono ?_; rintro e w6 ⟨rfl, hb6⟩; have HB6 := Zq_.mk hb6; clear hb6
    go_wp2_with fail
    go_roundg (hi - ((lo + hi) / 2 + 1))
    case measure => have := HI.out; omega
    case rel =>
     have hlo := HI.out; have hM := HM.out; obtain ⟨f, hf, hres⟩ := HF.out; obtain ⟨f', rfl⟩ : ∃ f', f = f' + 1 := ⟨f - 1, by omega⟩; refine ⟨(lo + hi) / 2 + 1, hi, ?_, rfl, ⟨by omega⟩, ⟨qe_ BW.out HB6.out⟩, ⟨f', by omega, ?_⟩⟩
     ·rw [show wrap64 (((lo : Int) + (hi : Int)) / 2 + 1) = (((lo + hi) / 2 + 1 : Nat) : Int) by unfold wrap64; omega]
     ·rw [← hres, halveX_up _ hlt (by show decide (c (l0.getD ((lo + hi) / 2) z36) < 0) = true; rw [← HD0.out]; exact HD.out)]
   ·have hd := decide_eq_false hyx; have HD := Zq_.mk hd; have q1 := eq_false hyx; clear hyx
    go_wp2_with fail
    refine HCALL.out.mono ?_; rintro e w6 ⟨rfl, hb6⟩; have HB6 := Zq_.mk hb6; clear hb6
    go_wp2_with fail
    go_roundg ((lo + hi) / 2 - lo)
    case measure => have := HI.out; omega
    case rel =>
     have hlo := HI.out; have hM := HM.out; obtain ⟨f, hf, hres⟩ := HF.out; obtain ⟨f', rfl⟩ : ∃ f', f = f' + 1 := ⟨f - 1, by omega⟩; refine ⟨lo, (lo + hi) / 2, rfl, ?_, ⟨by omega⟩, ⟨qe_ BW.out HB6.out⟩, ⟨f', by omega, ?_⟩⟩
     ·rw [show ((lo : Int) + (hi : Int)) / 2 = (((lo + hi) / 2 : Nat) : Int) by omega]
     ·rw [← hres, halveX_down _ hlt (by show decide (c (l0.getD ((lo + hi) / 2) z36) < 0) = false; rw [← HD0.out]; exact HD.out)]
  ·obtain ⟨f, hf, hres⟩ := HF.out
   obtain rfl : lo = hi := by have := HI.out; omega
   rw [halveX_end] at hres; subst hres; clear hlt; have hhi := HI.out.2.1
   by_cases hn : lo < l0.length
   ·have p1 : (0 : Int) ≤ (lo : Int) := by omega
    have p2 : (lo : Int) < (l0.length : Int) := by omega
    obtain ⟨ad, A4, c4, e_, hx_0, hx_1, hx_2, hx_3, hx_4, hx_5, hx_6, l4, g4⟩ := at_T36 HR.out ((lo : Int)) p1 p2; cases e_; replace hx_0 := (BW.out.cell (wb_ w _ hx_0)).trans hx_0; replace hx_1 := (BW.out.cell (wb_ w _ hx_1)).trans hx_1; replace hx_2 := (BW.out.cell (wb_ w _ hx_2)).trans hx_2; replace hx_3 := (BW.out.cell (wb_ w _ hx_3)).trans hx_3; replace hx_4 := (BW.out.cell (wb_ w _ hx_4)).trans hx_4; replace hx_5 := (BW.out.cell (wb_ w _ hx_5)).trans hx_5; replace hx_6 := (BW.out.cell (wb_ w _ hx_6)).trans hx_6; have HD0 := Zq_.mk (show rd_T36 l0 (lo : Int) = l0.getD lo z36 by unfold rd_T36; congr 1); have HN := Zq_.mk (show decide (lo < l0.length) = true from decide_eq_true hn); have p3 := decide_eq_true p2; have p4 := decide_eq_true p1; have p5 := decide_eq_true hn; have p6 := eq_true hn; replace p1 := eq_true p1; replace p2 := eq_true p2; clear hn hhi; simp only [Int.toNat_natCast] at hx_0 hx_1 hx_2 hx_3 hx_4 hx_5 hx_6; generalize rd_T36 l0 (lo : Int) = y at hx_0 hx_1 hx_2 hx_3 hx_4 hx_5 hx_6 l4 g4 HD0; have hcall : Calls Try.prog g (#[.agg #[.int .i64 y.f0, .int .i64 y.f1, .int .i64 y.f2, .int .i64 y.f3.f0, .slice A4 y.f3.f1.length c4, .bool y.f4, .int .i64 y.f5], .int .i64 t] ++ lb) wr (fun e w1 => e = .returned (.int .i64 (c y)) ∧ Below wr.heap.size wr w1) := HP.out wr y [.int .i64 y.f0, .int .i64 y.f1, .int .i64 y.f2, .int .i64 y.f3.f0, .slice A4 y.f3.f1.length c4, .bool y.f4, .int .i64 y.f5] BW.out (k36_mk wr y l4 (Kd.qi_ g4 BW.out)); have HCALL := Zq_.mk hcall; clear hcall l4 g4
    go_wp2_with fail
    refine HCALL.out.mono ?_; rintro e w6 ⟨rfl, hb6⟩; have HB6 := Zq_.mk hb6; clear hb6
    go_wp2_with fail
    go_ret2
    exact ⟨by rw [HN.out, ← HD0.out, Bool.true_and]; exact congrArg (fun b => Ending.returned (.tuple #[.int .i64 lo, .bool b])) (by by_cases h0 : c y = 0 <;> simp [h0]), qe_ BW.out HB6.out⟩
   ·have hnb : decide ((lo : Int) < (l0.length : Int)) = false := decide_eq_false (by omega); have HN := Zq_.mk (show decide (lo < l0.length) = false from decide_eq_false hn); have hnc := decide_eq_false hn; have hnd := eq_false hn; clear hn hhi
    go_wp2_with fail
    go_ret2
    exact ⟨by rw [HN.out]; simp, BW.out⟩
def bits_Add64.f (x y c : Int) : Option (Int × Int) := if c = 0 then some (((x.toNat + y.toNat) % 18446744073709551616 : Nat), ((x.toNat + y.toNat) / 18446744073709551616 : Nat)) else none
theorem bits_Add64.run (x y c t1 t2 : Int) (w : World) (h : bits_Add64.f x y c = some (t1, t2)) :
  (callFunc 80 #[.int .u64 x, .int .u64 y, .int .u64 c]).run Try.prog w = .ok (.value (.tuple #[.int .u64 t1, .int .u64 t2])) w := by
 unfold bits_Add64.f at h
 split at h
 ·rename_i hc
  subst hc; cases h; rw [run_callFunc_extern (fn := Try.f80) Try.func80 (by kernel_rfl) (by kernel_rfl) (by kernel_rfl) (e := add64Entry) (by kernel_rfl)]; rfl
 ·cases h
def bits_Len64.f (x : Int) : Option Int := if 0 ≤ x then (if x ≤ 18446744073709551615 then some (Lib.bitLen x.toNat : Int) else none) else none
theorem len_fin (x y : Int) (c p : Nat) (hc : c ≤ 56) (hy0 : 0 ≤ y) (hy1 : y ≤ 255) (e : y.toNat = x.toNat / p) (s : Lib.bitLen x.toNat = c + Lib.bitLen (x.toNat / p)) :
  wrap64 ((c : Int) + wrap64 (Lib.len8 y)) = (Lib.bitLen x.toNat : Int) := by
 have l := Lib.bitLen_le8' y hy0 hy1; rw [Lib.len8_of y hy0 hy1, s, ← e]; generalize Lib.bitLen y.toNat = L at l ⊢; clear s e
 unfold wrap64
 omega
theorem len_fin0 (y : Int) (hy0 : 0 ≤ y) (hy1 : y ≤ 255) : wrap64 (wrap64 (Lib.len8 y)) = (Lib.bitLen y.toNat : Int) := by
 have l := Lib.bitLen_le8' y hy0 hy1; rw [Lib.len8_of y hy0 hy1]; generalize Lib.bitLen y.toNat = L at l ⊢
 unfold wrap64
 omega
theorem len8tab_get (y : Int) (h : y.toNat < Lib.len8tab.size) : (((Lib.len8tab[y.toNat]'h).toNat : Nat) : Int) = Lib.len8 y := by
 simp only [Lib.len8, ByteArray.getElem?_lt' _ _ h, Option.getD_some]
theorem bits_Len64.calls (x r : Int) (w : World) (h : bits_Len64.f x = some r) :
  Calls Try.prog 81 #[.int .u64 x] w fun e w' => e = .returned (.int .i64 r) ∧ Drawn0 w w' := by
 unfold bits_Len64.f at h
 by_cases h0 : 0 ≤ x
 case neg => rw [if_neg h0] at h; cases h
 rw [if_pos h0] at h
 by_cases h1 : x ≤ 18446744073709551615
 case neg => rw [if_neg h1] at h; cases h
 rw [if_pos h1] at h; obtain rfl := Option.some.inj h; clear h
 go_enter Try.func81, Try.ntmps81
 go_wp2
 all_goals first
  | (exfalso; have hs := Lib.len8tab_size; omega)
  | skip
 all_goals (go_ret; refine ⟨congrArg Ending.returned (congrArg (Value.int IntKind.i64) ?_), Drawn0.refl _⟩)
 all_goals simp only [len8tab_get]
 all_goals first
  | exact len_fin x (x / 4294967296 / 65536 / 256) 56 72057594037927936 (by decide) (by omega) (by omega) (by omega) (Lib.bitLen_shift56 x.toNat (by omega) (by omega))
  | exact len_fin x (x / 4294967296 / 65536) 48 281474976710656 (by decide) (by omega) (by omega) (by omega) (Lib.bitLen_shift48 x.toNat (by omega) (by omega))
  | exact len_fin x (x / 4294967296 / 256) 40 1099511627776 (by decide) (by omega) (by omega) (by omega) (Lib.bitLen_shift40 x.toNat (by omega) (by omega))
  | exact len_fin x (x / 4294967296) 32 4294967296 (by decide) (by omega) (by omega) (by omega) (Lib.bitLen_shift32 x.toNat (by omega) (by omega))
  | exact len_fin x (x / 65536 / 256) 24 16777216 (by decide) (by omega) (by omega) (by omega) (Lib.bitLen_shift24 x.toNat (by omega) (by omega))
  | exact len_fin x (x / 65536) 16 65536 (by decide) (by omega) (by omega) (by omega) (Lib.bitLen_shift16 x.toNat (by omega) (by omega))
  | exact len_fin x (x / 256) 8 256 (by decide) (by omega) (by omega) (by omega) (Lib.bitLen_shift8 x.toNat (by omega) (by omega))
  | exact len_fin0 x (by omega) (by omega)
def bits_Mul64.f (a0 : Int) (a1 : Int) : Option (Int × Int) := some (IntKind.u64.wrap ((IntKind.u64.wrap ((IntKind.u64.wrap ((a0 / 4294967296) * (a1 / 4294967296))) + ((IntKind.u64.wrap ((IntKind.u64.wrap ((a0 / 4294967296) * (Go.bits .and .u64 a1 4294967295))) + ((IntKind.u64.wrap ((Go.bits .and .u64 a0 4294967295) * (Go.bits .and .u64 a1 4294967295))) / 4294967296))) / 4294967296))) + ((IntKind.u64.wrap ((Go.bits .and .u64 (IntKind.u64.wrap ((IntKind.u64.wrap ((a0 / 4294967296) * (Go.bits .and .u64 a1 4294967295))) + ((IntKind.u64.wrap ((Go.bits .and .u64 a0 4294967295) * (Go.bits .and .u64 a1 4294967295))) / 4294967296))) 4294967295) + (IntKind.u64.wrap ((Go.bits .and .u64 a0 4294967295) * (a1 / 4294967296))))) / 4294967296)), IntKind.u64.wrap (a0 * a1))
theorem bits_Mul64.calls (a0 : Int) (a1 : Int) (r1 : Int) (r2 : Int) (w : World) (h : bits_Mul64.f a0 a1 = some (r1, r2)) :
  Calls Try.prog 74 #[.int .u64 a0, .int .u64 a1] w fun e w' => e = .returned (.tuple #[.int .u64 r1, .int .u64 r2]) ∧ Drawn0 w w' := by
 have H : (some (IntKind.u64.wrap ((IntKind.u64.wrap ((IntKind.u64.wrap ((a0 / 4294967296) * (a1 / 4294967296))) + ((IntKind.u64.wrap ((IntKind.u64.wrap ((a0 / 4294967296) * (Go.bits .and .u64 a1 4294967295))) + ((IntKind.u64.wrap ((Go.bits .and .u64 a0 4294967295) * (Go.bits .and .u64 a1 4294967295))) / 4294967296))) / 4294967296))) + ((IntKind.u64.wrap ((Go.bits .and .u64 (IntKind.u64.wrap ((IntKind.u64.wrap ((a0 / 4294967296) * (Go.bits .and .u64 a1 4294967295))) + ((IntKind.u64.wrap ((Go.bits .and .u64 a0 4294967295) * (Go.bits .and .u64 a1 4294967295))) / 4294967296))) 4294967295) + (IntKind.u64.wrap ((Go.bits .and .u64 a0 4294967295) * (a1 / 4294967296))))) / 4294967296)), IntKind.u64.wrap (a0 * a1))) = some (r1, r2) := h; clear h; simp only [Option.some.injEq, Prod.mk.injEq] at H; obtain ⟨rfl, rfl⟩ := H
 go_enter Try.func74, Try.ntmps74
 go_wp2
 go_ret2
 exact ⟨by first | rfl | (simp; done) | (simp [*]; done), by repeat (first | exact Drawn0.refl _ | apply Drawn0.step)⟩
def digest_Right.l0 : Nat → Int → List (S42) → Int → Int → Option (Bool)
 | 0, _, _, _, _ => none
 | k + 1, x3, x6, x7, x8 => if x8 < x7 then (if 0 ≤ x8 then (if x8 < (x6.length : Int) then (if ((rd_T42 x6 x8).f0) ≤ x3 then (some false) else (if ((rd_T42 x6 x8).f0) ≥ 8 then (some false) else (if ((rd_T42 x6 x8).f1) < 1 then (some false) else (if ((rd_T42 x6 x8).f1) > 1099511627776 then (some false) else (if ((rd_T42 x6 x8).f2) < 0 then (some false) else (if ((rd_T42 x6 x8).f2) > 1099511627776 then (some false) else (digest_Right.l0 k ((rd_T42 x6 x8).f0) x6 x7 (wrap64 (x8 + 1))))))))) else (none)) else (none)) else (some true)
def digest_Right.f (k : Nat) (l0 : List (S42)) : Option (Bool) := digest_Right.l0 k (-1) l0 (l0.length : Int) 0
theorem digest_Right.mono_l : ∀ k, (∀ y0 y1 y2 y3, LeO (digest_Right.l0 k y0 y1 y2 y3) (digest_Right.l0 (k + 1) y0 y1 y2 y3))
 | 0 => fun _ _ _ _ r h => by simp [digest_Right.l0] at h
 | k + 1 => by
  have ih0 := digest_Right.mono_l k
  ·intro y0 y1 y2 y3
   unfold digest_Right.l0
   with_reducible repeat' first | exact ih0 _ _ _ _ | exact LeO.refl _ | exact LeO.none _ | refine LeO.ite ?_ ?_ | refine LeO.bind ?_ (fun _ => ?_)
theorem digest_Right.mono : ∀ a0 k, LeO (digest_Right.f k a0) (digest_Right.f (k + 1) a0) := by
 intro a0 k; have ih0 := digest_Right.mono_l k
 unfold digest_Right.f
 with_reducible repeat' first | exact ih0 _ _ _ _ | exact LeO.refl _ | exact LeO.none _ | refine LeO.ite ?_ ?_ | refine LeO.bind ?_ (fun _ => ?_)
theorem digest_Right.calls (k : Nat) (A0 : Option Addr) (c0 : Nat) (l0 : List (S42)) (r : Bool) (w : World) (hr0 : Kd.C k42 w A0 l0.length l0) (hc0 : l0.length ≤ c0) (h : digest_Right.f k l0 = some r) :
  Calls Try.prog 31 #[.slice A0 l0.length c0] w fun e w' => e = .returned (.bool r) ∧ Below w.heap.size w w' := by
 have hu42 := Try.underlying42; have HR0 := Zq_.mk hr0; have HC0 := Zq_.mk hc0; clear hr0 hc0; have HB := Zq_.mk (Below.refl w.heap.size w); have H : (digest_Right.l0 k (-1) l0 (l0.length : Int) 0) = some r := h; clear h; have H' := Zq_.mk H; clear H
 go_enter Try.func31, Try.ntmps31
 go_wp2
 go_loopg [3, 8] k (fun kq v3 v8 w' => ∃ (aM : Int) (aD : Int), v3 = .int .i64 aM ∧ v8 = .int .i64 aD ∧ Zq_ (digest_Right.l0 kq aM l0 (l0.length : Int) aD = some r) ∧ Zq_ (kq ≤ k) ∧ Zq_ (Below w.heap.size w w'))
 case atStart => exact ⟨((-1)), (0), eS_, eS_, H', ⟨Nat.le_refl _⟩, ⟨hB_ HB⟩⟩
 case round =>
  clear H'; obtain ⟨aM, aD, rfl, rfl, HA, HK1, HB⟩ := hrel
  cases gk with
  | zero => exact absurd HA.out (by simp [digest_Right.l0])
  | succ k1 =>
   have H := HA.out; clear HA; simp only [digest_Right.l0] at H
   by_cases c2 : aD < (l0.length : Int)
   ·rw [if_pos c2] at H; have c2b0 : decide (aD < (l0.length : Int)) = true := decide_eq_true c2; clear c2
    by_cases c3 : 0 ≤ aD
    ·rw [if_pos c3] at H; have c3b0 : decide (0 ≤ aD) = true := decide_eq_true c3; clear c3
     by_cases c4 : aD < (l0.length : Int)
     ·rw [if_pos c4] at H; have c4b0 : decide (aD < (l0.length : Int)) = true := decide_eq_true c4; clear c4
      by_cases c5 : ((rd_T42 l0 aD).f0) ≤ aM
      ·rw [if_pos c5] at H; have c5b0 : decide (((rd_T42 l0 aD).f0) ≤ aM) = true := decide_eq_true c5; clear c5; obtain rfl := Option.some.inj H; have aG : 0 ≤ (aD : Int) := dA_; have aF : aD < (l0.length : Int) := dA_; obtain ⟨aJ, aH, aC, aB, aA⟩ := at_T42 HR0.out aD aG aF; cases aH; replace aC := hC_ HB aC; replace aB := hC_ HB aB; replace aA := hC_ HB aA; replace aG := eq_true aG; replace aF := eq_true aF
       go_wp2_with (first | ((with_reducible refine qc_ (N := 5) rfl ?_); refine bE_ 5 #[.int .i64 0, .int .i64 0, .int .i64 0] 42 ?_; intro aI hg w6 hbox hb; have aE := Zq_.mk (hbox); have aK := gW_ (w := w) hg (hB_ HB); have aL := gW_ (w := w) hg (hB_ HB); replace HB := sB_ HB hb; clear hb hbox hg; obtain ⟨hcz7_0, hcz7_1, hcz7_2⟩ := c3_ aE; obtain ⟨hfz7_0, hfz7_1, hfz7_2⟩ := f3_ aE))
       go_ret
       exact ⟨by exact eW_, by exact hSet_ HB⟩
      ·rw [if_neg c5] at H; have c5b0 : decide (((rd_T42 l0 aD).f0) ≤ aM) = false := decide_eq_false c5; clear c5
       by_cases c8 : ((rd_T42 l0 aD).f0) ≥ 8
       ·rw [if_pos c8] at H; have c8b0 : decide (8 ≤ ((rd_T42 l0 aD).f0)) = true := decide_eq_true c8; clear c8; obtain rfl := Option.some.inj H; have aG : 0 ≤ (aD : Int) := dA_; have aF : aD < (l0.length : Int) := dA_; obtain ⟨aJ, aH, aC, aB, aA⟩ := at_T42 HR0.out aD aG aF; cases aH; replace aC := hC_ HB aC; replace aB := hC_ HB aB; replace aA := hC_ HB aA; replace aG := eq_true aG; replace aF := eq_true aF
        go_wp2_with (first | ((with_reducible refine qc_ (N := 5) rfl ?_); refine bE_ 5 #[.int .i64 0, .int .i64 0, .int .i64 0] 42 ?_; intro aI hg w9 hbox hb; have aE := Zq_.mk (hbox); have aK := gW_ (w := w) hg (hB_ HB); have aL := gW_ (w := w) hg (hB_ HB); replace HB := sB_ HB hb; clear hb hbox hg; obtain ⟨hcz10_0, hcz10_1, hcz10_2⟩ := c3_ aE; obtain ⟨hfz10_0, hfz10_1, hfz10_2⟩ := f3_ aE))
        go_ret
        exact ⟨by exact eW_, by exact hSet_ HB⟩
       ·rw [if_neg c8] at H; have c8b0 : decide (8 ≤ ((rd_T42 l0 aD).f0)) = false := decide_eq_false c8; clear c8
        by_cases c11 : ((rd_T42 l0 aD).f1) < 1
        ·rw [if_pos c11] at H; have aQ : decide (((rd_T42 l0 aD).f1) < 1) = true := decide_eq_true c11; clear c11; obtain rfl := Option.some.inj H; have aG : 0 ≤ (aD : Int) := dA_; have aF : aD < (l0.length : Int) := dA_; obtain ⟨aJ, aH, aC, aB, aA⟩ := at_T42 HR0.out aD aG aF; cases aH; replace aC := hC_ HB aC; replace aB := hC_ HB aB; replace aA := hC_ HB aA; replace aG := eq_true aG; replace aF := eq_true aF
         go_wp2_with (first | ((with_reducible refine qc_ (N := 5) rfl ?_); refine bE_ 5 #[.int .i64 0, .int .i64 0, .int .i64 0] 42 ?_; intro aI hg w12 hbox hb; have aE := Zq_.mk (hbox); have aK := gW_ (w := w) hg (hB_ HB); have aL := gW_ (w := w) hg (hB_ HB); replace HB := sB_ HB hb; clear hb hbox hg; obtain ⟨hcz13_0, hcz13_1, hcz13_2⟩ := c3_ aE; obtain ⟨hfz13_0, hfz13_1, hfz13_2⟩ := f3_ aE))
         go_ret
         exact ⟨by exact eW_, by exact hSet_ HB⟩
        ·rw [if_neg c11] at H; have aQ : decide (((rd_T42 l0 aD).f1) < 1) = false := decide_eq_false c11; clear c11
         by_cases c14 : ((rd_T42 l0 aD).f1) > 1099511627776
         ·rw [if_pos c14] at H; have aP : decide (1099511627776 < ((rd_T42 l0 aD).f1)) = true := decide_eq_true c14; clear c14; obtain rfl := Option.some.inj H; have aG : 0 ≤ (aD : Int) := dA_; have aF : aD < (l0.length : Int) := dA_; obtain ⟨aJ, aH, aC, aB, aA⟩ := at_T42 HR0.out aD aG aF; cases aH; replace aC := hC_ HB aC; replace aB := hC_ HB aB; replace aA := hC_ HB aA; replace aG := eq_true aG; replace aF := eq_true aF
          go_wp2_with (first | ((with_reducible refine qc_ (N := 5) rfl ?_); refine bE_ 5 #[.int .i64 0, .int .i64 0, .int .i64 0] 42 ?_; intro aI hg w15 hbox hb; have aE := Zq_.mk (hbox); have aK := gW_ (w := w) hg (hB_ HB); have aL := gW_ (w := w) hg (hB_ HB); replace HB := sB_ HB hb; clear hb hbox hg; obtain ⟨hcz16_0, hcz16_1, hcz16_2⟩ := c3_ aE; obtain ⟨hfz16_0, hfz16_1, hfz16_2⟩ := f3_ aE))
          go_ret
          exact ⟨by exact eW_, by exact hSet_ HB⟩
         ·rw [if_neg c14] at H; have aP : decide (1099511627776 < ((rd_T42 l0 aD).f1)) = false := decide_eq_false c14; clear c14
          by_cases c17 : ((rd_T42 l0 aD).f2) < 0
          ·rw [if_pos c17] at H; have aO : decide (((rd_T42 l0 aD).f2) < 0) = true := decide_eq_true c17; clear c17; obtain rfl := Option.some.inj H; have aG : 0 ≤ (aD : Int) := dA_; have aF : aD < (l0.length : Int) := dA_; obtain ⟨aJ, aH, aC, aB, aA⟩ := at_T42 HR0.out aD aG aF; cases aH; replace aC := hC_ HB aC; replace aB := hC_ HB aB; replace aA := hC_ HB aA; replace aG := eq_true aG; replace aF := eq_true aF
           go_wp2_with (first | ((with_reducible refine qc_ (N := 5) rfl ?_); refine bE_ 5 #[.int .i64 0, .int .i64 0, .int .i64 0] 42 ?_; intro aI hg w18 hbox hb; have aE := Zq_.mk (hbox); have aK := gW_ (w := w) hg (hB_ HB); have aL := gW_ (w := w) hg (hB_ HB); replace HB := sB_ HB hb; clear hb hbox hg; obtain ⟨hcz19_0, hcz19_1, hcz19_2⟩ := c3_ aE; obtain ⟨hfz19_0, hfz19_1, hfz19_2⟩ := f3_ aE))
           go_ret
           exact ⟨by exact eW_, by exact hSet_ HB⟩
          ·rw [if_neg c17] at H; have aO : decide (((rd_T42 l0 aD).f2) < 0) = false := decide_eq_false c17; clear c17
           by_cases c20 : ((rd_T42 l0 aD).f2) > 1099511627776
           ·rw [if_pos c20] at H; have aN : decide (1099511627776 < ((rd_T42 l0 aD).f2)) = true := decide_eq_true c20; clear c20; obtain rfl := Option.some.inj H; have aG : 0 ≤ (aD : Int) := dA_; have aF : aD < (l0.length : Int) := dA_; obtain ⟨aJ, aH, aC, aB, aA⟩ := at_T42 HR0.out aD aG aF; cases aH; replace aC := hC_ HB aC; replace aB := hC_ HB aB; replace aA := hC_ HB aA; replace aG := eq_true aG; replace aF := eq_true aF
            go_wp2_with (first | ((with_reducible refine qc_ (N := 5) rfl ?_); refine bE_ 5 #[.int .i64 0, .int .i64 0, .int .i64 0] 42 ?_; intro aI hg w21 hbox hb; have aE := Zq_.mk (hbox); have aK := gW_ (w := w) hg (hB_ HB); have aL := gW_ (w := w) hg (hB_ HB); replace HB := sB_ HB hb; clear hb hbox hg; obtain ⟨hcz22_0, hcz22_1, hcz22_2⟩ := c3_ aE; obtain ⟨hfz22_0, hfz22_1, hfz22_2⟩ := f3_ aE))
            go_ret
            exact ⟨by exact eW_, by exact hSet_ HB⟩
           ·rw [if_neg c20] at H; have aN : decide (1099511627776 < ((rd_T42 l0 aD).f2)) = false := decide_eq_false c20; clear c20; have H' := Zq_.mk H; clear H; have aG : 0 ≤ (aD : Int) := dA_; have aF : aD < (l0.length : Int) := dA_; obtain ⟨aJ, aH, aC, aB, aA⟩ := at_T42 HR0.out aD aG aF; cases aH; replace aC := hC_ HB aC; replace aB := hC_ HB aB; replace aA := hC_ HB aA; replace aG := eq_true aG; replace aF := eq_true aF
            go_wp2_with (first | ((with_reducible refine qc_ (N := 5) rfl ?_); refine bE_ 5 #[.int .i64 0, .int .i64 0, .int .i64 0] 42 ?_; intro aI hg w23 hbox hb; have aE := Zq_.mk (hbox); have aK := gW_ (w := w) hg (hB_ HB); have aL := gW_ (w := w) hg (hB_ HB); replace HB := sB_ HB hb; clear hb hbox hg; obtain ⟨hcz24_0, hcz24_1, hcz24_2⟩ := c3_ aE; obtain ⟨hfz24_0, hfz24_1, hfz24_2⟩ := f3_ aE))
            go_roundg k1
            case measure => have := HK1.out; omega
            case rel => exact ⟨((rd_T42 l0 aD).f0), (wrap64 (aD + 1)), eS_, eS_, H', ⟨by have := HK1.out; omega⟩, ⟨by exact hSet_ HB⟩⟩
     ·rw [if_neg c4] at H; exact absurd H (by simp)
    ·rw [if_neg c3] at H; exact absurd H (by simp)
   ·rw [if_neg c2] at H; have c2b0 : decide (aD < (l0.length : Int)) = false := decide_eq_false c2; clear c2; obtain rfl := Option.some.inj H
    go_wp2
    go_ret
    exact ⟨by exact eW_, hB_ HB⟩
def ratio_Clamp.f (a0 : Int) (a1 : Int) (a2 : Int) : Option (Int) := if a0 < a1 then (some a1) else (if a0 > a2 then (some a2) else (some a0))
theorem ratio_Clamp.calls (a0 : Int) (a1 : Int) (a2 : Int) (r : Int) (w : World) (h : ratio_Clamp.f a0 a1 a2 = some r) :
  Calls Try.prog 61 #[.int .i64 a0, .int .i64 a1, .int .i64 a2] w fun e w' => e = .returned (.int .i64 r) ∧ Drawn0 w w' := by
 have H : (if a0 < a1 then (some a1) else (if a0 > a2 then (some a2) else (some a0))) = some r := h; clear h
 by_cases c4 : a0 < a1
 ·rw [if_pos c4] at H; have c4b0 : decide (a0 < a1) = true := decide_eq_true c4; clear c4; obtain rfl := Option.some.inj H
  go_enter Try.func61, Try.ntmps61
  go_wp2
  go_ret
  exact ⟨by first | rfl | (simp; done) | (simp [*]; done), by repeat (first | exact Drawn0.refl _ | apply Drawn0.step)⟩
 ·rw [if_neg c4] at H; have c4b0 : decide (a0 < a1) = false := decide_eq_false c4; clear c4
  by_cases c5 : a0 > a2
  ·rw [if_pos c5] at H; have c5b0 : decide (a2 < a0) = true := decide_eq_true c5; clear c5; obtain rfl := Option.some.inj H
   go_enter Try.func61, Try.ntmps61
   go_wp2
   go_ret
   exact ⟨by first | rfl | (simp; done) | (simp [*]; done), by repeat (first | exact Drawn0.refl _ | apply Drawn0.step)⟩
  ·rw [if_neg c5] at H; have c5b0 : decide (a2 < a0) = false := decide_eq_false c5; clear c5; obtain rfl := Option.some.inj H
   go_enter Try.func61, Try.ntmps61
   go_wp2
   go_ret
   exact ⟨by first | rfl | (simp; done) | (simp [*]; done), by repeat (first | exact Drawn0.refl _ | apply Drawn0.step)⟩
def ref06_Ints.l0 : Nat → List Int → List Int → Int → Option (Bool)
 | 0, _, _, _ => none
 | k + 1, x0, x1, x5 => if x5 < (x0.length : Int) then (if 0 ≤ x5 then (if x5 < (x1.length : Int) then (if (rd x0 x5) = (rd x1 x5) then (ref06_Ints.l0 k x0 x1 (wrap64 (x5 + 1))) else (some false)) else (none)) else (none)) else (some true)
def ref06_Ints.f (k : Nat) (l0 : List Int) (l1 : List Int) : Option (Bool) := if (l0.length : Int) = (l1.length : Int) then (ref06_Ints.l0 k l0 l1 0) else (some false)
theorem ref06_Ints.mono_l : ∀ k, (∀ y0 y1 y2, LeO (ref06_Ints.l0 k y0 y1 y2) (ref06_Ints.l0 (k + 1) y0 y1 y2))
 | 0 => fun _ _ _ r h => by simp [ref06_Ints.l0] at h
 | k + 1 => by
  have ih0 := ref06_Ints.mono_l k
  ·intro y0 y1 y2
   unfold ref06_Ints.l0
   with_reducible repeat' first | exact ih0 _ _ _ | exact LeO.refl _ | exact LeO.none _ | refine LeO.ite ?_ ?_ | refine LeO.bind ?_ (fun _ => ?_)
theorem ref06_Ints.mono : ∀ a0 a1 k, LeO (ref06_Ints.f k a0 a1) (ref06_Ints.f (k + 1) a0 a1) := by
 intro a0 a1 k; have ih0 := ref06_Ints.mono_l k
 unfold ref06_Ints.f
 with_reducible repeat' first | exact ih0 _ _ _ | exact LeO.refl _ | exact LeO.none _ | refine LeO.ite ?_ ?_ | refine LeO.bind ?_ (fun _ => ?_)
theorem ref06_Ints.calls (k : Nat) (A0 : Option Addr) (c0 : Nat) (l0 : List Int) (A1 : Option Addr) (c1 : Nat) (l1 : List Int) (r : Bool) (w : World) (hr0 : Kd.C (Kd.int .i64) w A0 l0.length l0) (hc0 : l0.length ≤ c0) (hr1 : Kd.C (Kd.int .i64) w A1 l1.length l1) (hc1 : l1.length ≤ c1) (h : ref06_Ints.f k l0 l1 = some r) :
  Calls Try.prog 12 #[.slice A0 l0.length c0, .slice A1 l1.length c1] w fun e w' => e = .returned (.bool r) ∧ Drawn0 w w' := by
 have HR0 := Zq_.mk hr0; have HC0 := Zq_.mk hc0; clear hr0 hc0; have HR1 := Zq_.mk hr1; have HC1 := Zq_.mk hc1; clear hr1 hc1; have H : (if (l0.length : Int) = (l1.length : Int) then (ref06_Ints.l0 k l0 l1 0) else (some false)) = some r := h; clear h
 by_cases c3 : (l0.length : Int) = (l1.length : Int)
 ·rw [if_pos c3] at H; have aL : ((l0.length : Int) == (l1.length : Int)) = true := beq_iff_eq.mpr c3; have aK : ((l0.length : Int) != (l1.length : Int)) = false := bne_eq_false_iff_eq.mpr c3
  have aJ : (l0.length == l1.length) = true := by first | simpa using c3 | (simp at c3 ⊢; omega)
  clear c3; have H' := Zq_.mk H; clear H
  go_enter Try.func12, Try.ntmps12
  go_wp2
  repeat (go_quiet (fail); try go_wp2)
  go_loopg [5] k (fun kq v5 w' => ∃ (aA : Int), v5 = .int .i64 aA ∧ Zq_ (ref06_Ints.l0 kq l0 l1 aA = some r) ∧ Zq_ (kq ≤ k) ∧ Drawn0 w w')
  case atStart => exact ⟨(0), eS_, H', ⟨Nat.le_refl _⟩, by repeat (first | exact Drawn0.refl _ | apply Drawn0.step)⟩
  case round =>
   clear H'
   try clear c1
   try clear p2
   try clear c3
   try clear aL
   try clear aK
   try clear aJ
   obtain ⟨aA, rfl, HA, HK1, ⟨m1, rfl⟩⟩ := hrel
   cases gk with
   | zero => exact absurd HA.out (by simp [ref06_Ints.l0])
   | succ k1 =>
    have H := HA.out; clear HA; simp only [ref06_Ints.l0] at H
    by_cases c4 : aA < (l0.length : Int)
    ·rw [if_pos c4] at H; have c4b0 : decide (aA < (l0.length : Int)) = true := decide_eq_true c4; clear c4
     by_cases c5 : 0 ≤ aA
     ·rw [if_pos c5] at H; have c5b0 : decide (0 ≤ aA) = true := decide_eq_true c5; clear c5
      by_cases c6 : aA < (l1.length : Int)
      ·rw [if_pos c6] at H; have c6b0 : decide (aA < (l1.length : Int)) = true := decide_eq_true c6; clear c6
       by_cases c7 : (rd l0 aA) = (rd l1 aA)
       ·rw [if_pos c7] at H; have c7b0 : ((rd l0 aA) == (rd l1 aA)) = true := beq_iff_eq.mpr c7; have c7b1 : ((rd l0 aA) != (rd l1 aA)) = false := bne_eq_false_iff_eq.mpr c7; clear c7; have H' := Zq_.mk H; clear H; have aE : 0 ≤ (aA : Int) := dA_; have aC : aA < (l0.length : Int) := dA_; obtain ⟨aN, aI, aG⟩ := Kd.at_int HR0.out aA aE aC; cases aI; replace aE := eq_true aE; replace aC := eq_true aC; have aD : 0 ≤ (aA : Int) := dA_; have aB : aA < (l1.length : Int) := dA_; obtain ⟨aM, aH, aF⟩ := Kd.at_int HR1.out aA aD aB; cases aH; replace aD := eq_true aD; replace aB := eq_true aB
        go_wp2
        repeat (go_quiet (fail); try go_wp2)
        go_roundg k1
        case measure => have := HK1.out; omega
        case rel => exact ⟨(wrap64 (aA + 1)), eS_, H', ⟨by have := HK1.out; omega⟩, by repeat (first | exact Drawn0.refl _ | apply Drawn0.step)⟩
       ·rw [if_neg c7] at H; have c7b0 : ((rd l0 aA) == (rd l1 aA)) = false := beq_eq_false_iff_ne.mpr c7; have c7b1 : ((rd l0 aA) != (rd l1 aA)) = true := bne_iff_ne.mpr c7; obtain rfl := Option.some.inj H; have aE : 0 ≤ (aA : Int) := dA_; have aC : aA < (l0.length : Int) := dA_; obtain ⟨aN, aI, aG⟩ := Kd.at_int HR0.out aA aE aC; cases aI; replace aE := eq_true aE; replace aC := eq_true aC; have aD : 0 ≤ (aA : Int) := dA_; have aB : aA < (l1.length : Int) := dA_; obtain ⟨aM, aH, aF⟩ := Kd.at_int HR1.out aA aD aB; cases aH; replace aD := eq_true aD; replace aB := eq_true aB
        go_wp2
        repeat (go_quiet (fail); try go_wp2)
        go_ret
        exact ⟨by first | rfl | (simp; done) | (simp [*]; done), by repeat (first | exact Drawn0.refl _ | apply Drawn0.step)⟩
      ·rw [if_neg c6] at H; exact absurd H (by simp)
     ·rw [if_neg c5] at H; exact absurd H (by simp)
    ·rw [if_neg c4] at H; have c4b0 : decide (aA < (l0.length : Int)) = false := decide_eq_false c4; clear c4; obtain rfl := Option.some.inj H
     go_wp2
     repeat (go_quiet (fail); try go_wp2)
     go_ret
     exact ⟨by first | rfl | (simp; done) | (simp [*]; done), by repeat (first | exact Drawn0.refl _ | apply Drawn0.step)⟩
 ·rw [if_neg c3] at H; have aL : ((l0.length : Int) == (l1.length : Int)) = false := beq_eq_false_iff_ne.mpr c3; have aK : ((l0.length : Int) != (l1.length : Int)) = true := bne_iff_ne.mpr c3
  have aJ : (l0.length == l1.length) = false := by first | simpa using c3 | (simp at c3 ⊢; omega)
  obtain rfl := Option.some.inj H
  go_enter Try.func12, Try.ntmps12
  go_wp2
  repeat (go_quiet (fail); try go_wp2)
  go_ret
  exact ⟨by first | rfl | (simp; done) | (simp [*]; done), by repeat (first | exact Drawn0.refl _ | apply Drawn0.step)⟩
def ref09_Add.f (aL : Int) (aB : Int) (aK : Int) (aD : Int) : Option (Int × Int) := if (IntKind.u64.wrap (aB + aD)) < aB then (some (IntKind.u64.wrap ((IntKind.u64.wrap (aL + aK)) + 1), IntKind.u64.wrap (aB + aD))) else (some (IntKind.u64.wrap (aL + aK), IntKind.u64.wrap (aB + aD)))
theorem ref09_Add.calls (aL : Int) (aB : Int) (aK : Int) (aD : Int) (r1 : Int) (r2 : Int) (w : World) (h : ref09_Add.f aL aB aK aD = some (r1, r2)) :
  Calls Try.prog 70 #[.agg #[.int .u64 aL, .int .u64 aB], .agg #[.int .u64 aK, .int .u64 aD]] w fun e w' => e = .returned (.agg #[.int .u64 r1, .int .u64 r2]) ∧ Below w.heap.size w w' := by
 have hu81 := Try.underlying81; have HB := Zq_.mk (Below.refl w.heap.size w); have H : (if (IntKind.u64.wrap (aB + aD)) < aB then (some (IntKind.u64.wrap ((IntKind.u64.wrap (aL + aK)) + 1), IntKind.u64.wrap (aB + aD))) else (some (IntKind.u64.wrap (aL + aK), IntKind.u64.wrap (aB + aD)))) = some (r1, r2) := h; clear h
 by_cases c3 : (IntKind.u64.wrap (aB + aD)) < aB
 ·rw [if_pos c3] at H; have c3b0 : decide ((IntKind.u64.wrap (aB + aD)) < aB) = true := decide_eq_true c3; clear c3; simp only [Option.some.injEq, Prod.mk.injEq] at H; obtain ⟨rfl, rfl⟩ := H
  go_enter Try.func70, Try.ntmps70
  go_wp2_with (first | ((with_reducible refine qc_ (N := 2) rfl ?_); refine bE_ 2 #[.int .u64 aL, .int .u64 aB] 81 ?_; intro aP hg w4 hbox hb; have aA := Zq_.mk (hbox); have aS := gW_ (w := w) hg (hB_ HB); have aV := gW_ (w := w) hg (hB_ HB); replace HB := sB_ HB hb; clear hb hbox hg) | ((with_reducible refine qc_ (N := 3) rfl ?_); refine bE_ 3 #[.int .u64 aK, .int .u64 aD] 81 ?_; intro aO hg w5 hbox hb; have aC := Zq_.mk (hbox); have aR := gW_ (w := w) hg (by exact hSet_ HB); have aU := gW_ (w := w) hg (by exact hSet_ HB); replace HB := sB_ HB hb; have aJ := nL_ aA hg; have aH := nG_ aA hg; replace aA := kB_ aA hb; clear hb hbox hg) | ((with_reducible refine qc_ (N := 4) rfl ?_); refine bE_ 4 #[.int .u64 0, .int .u64 0] 81 ?_; intro aN hg w6 hbox hb; have aM := Zq_.mk (hbox); have aQ := gW_ (w := w) hg (by exact hSet_ HB); have aT := gW_ (w := w) hg (by exact hSet_ HB); replace HB := sB_ HB hb; have aI := nL_ aA hg; have aF := nG_ aA hg; replace aA := kB_ aA hb; have aG := nL_ aC hg; have aE := nG_ aC hg; replace aC := kB_ aC hb; clear hb hbox hg; have hnb7 := aJ.out; have hnc7 := aH.out; have hnb8 := aI.out; have hnc8 := aF.out; obtain ⟨hcz9_0, hcz9_1⟩ := c2_ aA; obtain ⟨hfz9_0, hfz9_1⟩ := f2_ aA; have hnb10 := aG.out; have hnc10 := aE.out; obtain ⟨hcz11_0, hcz11_1⟩ := c2_ aC; obtain ⟨hfz11_0, hfz11_1⟩ := f2_ aC; obtain ⟨hcz12_0, hcz12_1⟩ := c2_ aM; obtain ⟨hfz12_0, hfz12_1⟩ := f2_ aM))
  refine bodyPost_ret (results_cell_row rfl _ _ aN 81 #[.int .u64 (IntKind.u64.wrap ((IntKind.u64.wrap (aL + aK)) + 1)), .int .u64 (IntKind.u64.wrap (aB + aD))] (0, 0) _ rfl (by exact bW2_ (bK_ aM)) Try.underlying81 rfl (by kernel_rfl)) rfl ?_; exact ⟨by exact eW_, by exact hSet_ HB⟩
 ·rw [if_neg c3] at H; have c3b0 : decide ((IntKind.u64.wrap (aB + aD)) < aB) = false := decide_eq_false c3; clear c3; simp only [Option.some.injEq, Prod.mk.injEq] at H; obtain ⟨rfl, rfl⟩ := H
  go_enter Try.func70, Try.ntmps70
  go_wp2_with (first | ((with_reducible refine qc_ (N := 2) rfl ?_); refine bE_ 2 #[.int .u64 aL, .int .u64 aB] 81 ?_; intro aP hg w13 hbox hb; have aA := Zq_.mk (hbox); have aS := gW_ (w := w) hg (hB_ HB); have aV := gW_ (w := w) hg (hB_ HB); replace HB := sB_ HB hb; clear hb hbox hg) | ((with_reducible refine qc_ (N := 3) rfl ?_); refine bE_ 3 #[.int .u64 aK, .int .u64 aD] 81 ?_; intro aO hg w14 hbox hb; have aC := Zq_.mk (hbox); have aR := gW_ (w := w) hg (by exact hSet_ HB); have aU := gW_ (w := w) hg (by exact hSet_ HB); replace HB := sB_ HB hb; have aJ := nL_ aA hg; have aH := nG_ aA hg; replace aA := kB_ aA hb; clear hb hbox hg) | ((with_reducible refine qc_ (N := 4) rfl ?_); refine bE_ 4 #[.int .u64 0, .int .u64 0] 81 ?_; intro aN hg w15 hbox hb; have aM := Zq_.mk (hbox); have aQ := gW_ (w := w) hg (by exact hSet_ HB); have aT := gW_ (w := w) hg (by exact hSet_ HB); replace HB := sB_ HB hb; have aI := nL_ aA hg; have aF := nG_ aA hg; replace aA := kB_ aA hb; have aG := nL_ aC hg; have aE := nG_ aC hg; replace aC := kB_ aC hb; clear hb hbox hg; have hnb16 := aJ.out; have hnc16 := aH.out; have hnb17 := aI.out; have hnc17 := aF.out; obtain ⟨hcz18_0, hcz18_1⟩ := c2_ aA; obtain ⟨hfz18_0, hfz18_1⟩ := f2_ aA; have hnb19 := aG.out; have hnc19 := aE.out; obtain ⟨hcz20_0, hcz20_1⟩ := c2_ aC; obtain ⟨hfz20_0, hfz20_1⟩ := f2_ aC; obtain ⟨hcz21_0, hcz21_1⟩ := c2_ aM; obtain ⟨hfz21_0, hfz21_1⟩ := f2_ aM))
  refine bodyPost_ret (results_cell_row rfl _ _ aN 81 #[.int .u64 (IntKind.u64.wrap (aL + aK)), .int .u64 (IntKind.u64.wrap (aB + aD))] (0, 0) _ rfl (by exact bW2_ (bK_ aM)) Try.underlying81 rfl (by kernel_rfl)) rfl ?_; exact ⟨by exact eW_, by exact hSet_ HB⟩
def ref09_Below.f (aE : Int) (aH : Int) (aD : Int) (aG : Int) : Option (Bool) := if aE < aD then (some true) else (if aE = aD then (some (decide (aH < aG))) else (some false))
theorem ref09_Below.calls (aE : Int) (aH : Int) (aD : Int) (aG : Int) (r : Bool) (w : World) (h : ref09_Below.f aE aH aD aG = some r) :
  Calls Try.prog 56 #[.agg #[.int .u64 aE, .int .u64 aH], .agg #[.int .u64 aD, .int .u64 aG]] w fun e w' => e = .returned (.bool r) ∧ Below w.heap.size w w' := by
 have hu81 := Try.underlying81; have HB := Zq_.mk (Below.refl w.heap.size w); have H : (if aE < aD then (some true) else (if aE = aD then (some (decide (aH < aG))) else (some false))) = some r := h; clear h
 by_cases c3 : aE < aD
 ·rw [if_pos c3] at H; have c3b0 : decide (aE < aD) = true := decide_eq_true c3; clear c3; obtain rfl := Option.some.inj H
  go_enter Try.func56, Try.ntmps56
  go_wp2_with (first | ((with_reducible refine qc_ (N := 2) rfl ?_); refine bE_ 2 #[.int .u64 aE, .int .u64 aH] 81 ?_; intro aJ hg w4 hbox hb; have aA := Zq_.mk (hbox); have aL := gW_ (w := w) hg (hB_ HB); have aN := gW_ (w := w) hg (hB_ HB); replace HB := sB_ HB hb; clear hb hbox hg) | ((with_reducible refine qc_ (N := 3) rfl ?_); refine bE_ 3 #[.int .u64 aD, .int .u64 aG] 81 ?_; intro aI hg w5 hbox hb; have aF := Zq_.mk (hbox); have aK := gW_ (w := w) hg (by exact hSet_ HB); have aM := gW_ (w := w) hg (by exact hSet_ HB); replace HB := sB_ HB hb; have aC := nL_ aA hg; have aB := nG_ aA hg; replace aA := kB_ aA hb; clear hb hbox hg; have hnb6 := aC.out; have hnc6 := aB.out; obtain ⟨hcz7_0, hcz7_1⟩ := c2_ aA; obtain ⟨hfz7_0, hfz7_1⟩ := f2_ aA; obtain ⟨hcz8_0, hcz8_1⟩ := c2_ aF; obtain ⟨hfz8_0, hfz8_1⟩ := f2_ aF))
  go_ret
  exact ⟨by exact eW_, by exact hSet_ HB⟩
 ·rw [if_neg c3] at H; have c3b0 : decide (aE < aD) = false := decide_eq_false c3; clear c3
  by_cases c9 : aE = aD
  ·rw [if_pos c9] at H; have c9b0 : (aE == aD) = true := beq_iff_eq.mpr c9; have c9b1 : (aE != aD) = false := bne_eq_false_iff_eq.mpr c9; clear c9; obtain rfl := Option.some.inj H
   go_enter Try.func56, Try.ntmps56
   go_wp2_with (first | ((with_reducible refine qc_ (N := 2) rfl ?_); refine bE_ 2 #[.int .u64 aE, .int .u64 aH] 81 ?_; intro aJ hg w10 hbox hb; have aA := Zq_.mk (hbox); have aL := gW_ (w := w) hg (hB_ HB); have aN := gW_ (w := w) hg (hB_ HB); replace HB := sB_ HB hb; clear hb hbox hg) | ((with_reducible refine qc_ (N := 3) rfl ?_); refine bE_ 3 #[.int .u64 aD, .int .u64 aG] 81 ?_; intro aI hg w11 hbox hb; have aF := Zq_.mk (hbox); have aK := gW_ (w := w) hg (by exact hSet_ HB); have aM := gW_ (w := w) hg (by exact hSet_ HB); replace HB := sB_ HB hb; have aC := nL_ aA hg; have aB := nG_ aA hg; replace aA := kB_ aA hb; clear hb hbox hg; have hnb12 := aC.out; have hnc12 := aB.out; obtain ⟨hcz13_0, hcz13_1⟩ := c2_ aA; obtain ⟨hfz13_0, hfz13_1⟩ := f2_ aA; obtain ⟨hcz14_0, hcz14_1⟩ := c2_ aF; obtain ⟨hfz14_0, hfz14_1⟩ := f2_ aF))
   go_ret
   exact ⟨by exact eW_, by exact hSet_ HB⟩
  ·rw [if_neg c9] at H; have c9b0 : (aE == aD) = false := beq_eq_false_iff_ne.mpr c9; have c9b1 : (aE != aD) = true := bne_iff_ne.mpr c9; obtain rfl := Option.some.inj H
   go_enter Try.func56, Try.ntmps56
   go_wp2_with (first | ((with_reducible refine qc_ (N := 2) rfl ?_); refine bE_ 2 #[.int .u64 aE, .int .u64 aH] 81 ?_; intro aJ hg w15 hbox hb; have aA := Zq_.mk (hbox); have aL := gW_ (w := w) hg (hB_ HB); have aN := gW_ (w := w) hg (hB_ HB); replace HB := sB_ HB hb; clear hb hbox hg) | ((with_reducible refine qc_ (N := 3) rfl ?_); refine bE_ 3 #[.int .u64 aD, .int .u64 aG] 81 ?_; intro aI hg w16 hbox hb; have aF := Zq_.mk (hbox); have aK := gW_ (w := w) hg (by exact hSet_ HB); have aM := gW_ (w := w) hg (by exact hSet_ HB); replace HB := sB_ HB hb; have aC := nL_ aA hg; have aB := nG_ aA hg; replace aA := kB_ aA hb; clear hb hbox hg; have hnb17 := aC.out; have hnc17 := aB.out; obtain ⟨hcz18_0, hcz18_1⟩ := c2_ aA; obtain ⟨hfz18_0, hfz18_1⟩ := f2_ aA; obtain ⟨hcz19_0, hcz19_1⟩ := c2_ aF; obtain ⟨hfz19_0, hfz19_1⟩ := f2_ aF))
   go_ret
   exact ⟨by exact eW_, by exact hSet_ HB⟩
def ref10_New.f  : Option (Int × List Int) := some ((-1), ([] : List Int))
theorem ref10_New.calls  (r1 : Int) (r2 : List Int) (w : World) (h : ref10_New.f  = some (r1, r2)) :
  Calls Try.prog 49 #[] w fun e w' => ∃ v1_ : Value, e = .returned (.agg #[.int .i64 r1, v1_]) ∧ Kd.R (Kd.int .i64) 3 w' w.heap.size (fun _ => True) v1_ r2 ∧ Below w.heap.size w w' := by
 have hu34 := Try.underlying34; have HB := Zq_.mk (Below.refl w.heap.size w); have H : (some ((-1), ([] : List Int))) = some (r1, r2) := h; clear h; simp only [Option.some.injEq, Prod.mk.injEq] at H; obtain ⟨rfl, rfl⟩ := H
 go_enter Try.func49, Try.ntmps49
 go_wp2_with (first | ((with_reducible refine qc_ (N := 0) rfl ?_); refine bE_ 0 #[.int .i64 0, .slice none 0 0] 34 ?_; intro aB hg w1 hbox hb; have aA := Zq_.mk (hbox); have GW101 := gW_ (w := w) hg (hB_ HB); have GE101 := gW_ (w := w) hg (hB_ HB); replace HB := sB_ HB hb; clear hb hbox hg; obtain ⟨hcz2_0, hcz2_1⟩ := c2_ aA; obtain ⟨hfz2_0, hfz2_1⟩ := f2_ aA))
 refine bodyPost_ret (results_cell_row rfl _ _ aB 34 #[.int .i64 (-1), .slice none 0 0] (0, 0) _ rfl (by exact bW2_ (bK_ aA)) Try.underlying34 rfl (by kernel_rfl)) rfl ?_; exact ⟨_, by exact eW_, by first | exact Kd.R_nil _ _ _ _ _ | exact Kd.N_nil _ _ _ _ _ | exact Kd.V_nil _ _ _ _ _ | exact Kd.Q_nil _ _ _ _ _ | exact Kd.S_nil _ _ _ _ _, by exact hSet_ HB⟩
mutual
def ref10_Right.l0 : Nat → Int → Int → List Int → Option (Bool)
 | 0, _, _, _ => none
 | k + 1, x3, aG, aD => if x3 < (aD.length : Int) then (ref10_Right.j1 k x3 (decide (x3 < 17)) aG aD) else (ref10_Right.j1 k x3 false aG aD)
def ref10_Right.j1 : Nat → Int → Bool → Int → List Int → Option (Bool)
 | 0, _, _, _, _ => none
 | k + 1, x3, x12, aG, aD => if x12 = true then (if 0 ≤ x3 then (if x3 < (aD.length : Int) then (if (rd aD x3) < 1 then (some false) else (if (rd aD x3) > 1099511627776 then (some false) else (ref10_Right.l0 k (wrap64 (x3 + 1)) aG aD))) else (none)) else (none)) else (if aG ≥ (-1) then (if aG ≤ 1099511627776 then (some (decide ((aD.length : Int) ≤ 16))) else (some false)) else (some false))
end
def ref10_Right.f (k : Nat) (aF : Int) (aC : List Int) : Option (Bool) := ref10_Right.l0 k 0 aF aC
theorem ref10_Right.mono_l : ∀ k, (∀ y0 y1 y2, LeO (ref10_Right.l0 k y0 y1 y2) (ref10_Right.l0 (k + 1) y0 y1 y2)) ∧ (∀ y0 y1 y2 y3, LeO (ref10_Right.j1 k y0 y1 y2 y3) (ref10_Right.j1 (k + 1) y0 y1 y2 y3))
 | 0 => ⟨fun _ _ _ r h => by simp [ref10_Right.l0] at h, fun _ _ _ _ r h => by simp [ref10_Right.j1] at h⟩
 | k + 1 => by
  obtain ⟨ih0, ih1⟩ := ref10_Right.mono_l k; refine ⟨?_, ?_⟩
  ·intro y0 y1 y2
   unfold ref10_Right.l0
   with_reducible repeat' first | exact ih0 _ _ _ | exact ih1 _ _ _ _ | exact LeO.refl _ | exact LeO.none _ | refine LeO.ite ?_ ?_ | refine LeO.bind ?_ (fun _ => ?_)
  ·intro y0 y1 y2 y3
   unfold ref10_Right.j1
   with_reducible repeat' first | exact ih0 _ _ _ | exact ih1 _ _ _ _ | exact LeO.refl _ | exact LeO.none _ | refine LeO.ite ?_ ?_ | refine LeO.bind ?_ (fun _ => ?_)
theorem ref10_Right.mono : ∀ a0 a1 k, LeO (ref10_Right.f k a0 a1) (ref10_Right.f (k + 1) a0 a1) := by
 intro a0 a1 k; obtain ⟨ih0, ih1⟩ := ref10_Right.mono_l k
 unfold ref10_Right.f
 with_reducible repeat' first | exact ih0 _ _ _ | exact ih1 _ _ _ _ | exact LeO.refl _ | exact LeO.none _ | refine LeO.ite ?_ ?_ | refine LeO.bind ?_ (fun _ => ?_)
theorem ref10_Right.calls (k : Nat) (aF : Int) (aT : Option Addr) (aR : Nat) (aC : List Int) (r : Bool) (w : World) (aU : Kd.C (Kd.int .i64) w aT aC.length aC) (aV : aC.length ≤ aR) (h : ref10_Right.f k aF aC = some r) :
  Calls Try.prog 28 #[.agg #[.int .i64 aF, .slice aT aC.length aR]] w fun e w' => e = .returned (.bool r) ∧ Below w.heap.size w w' := by
 have hu34 := Try.underlying34; have aK := Zq_.mk aU; have HC0_1 := Zq_.mk aV; clear aU aV; have HB := Zq_.mk (Below.refl w.heap.size w); have H : (ref10_Right.l0 k 0 aF aC) = some r := h; clear h; have H' := Zq_.mk H; clear H
 go_enter Try.func28, Try.ntmps28
 go_wp2_with (first | ((with_reducible refine qc_ (N := 1) rfl ?_); (try (refine qo_ (by rfl) ?_; dsimp only)); refine bE_ 1 #[.int .i64 aF, .slice aT aC.length aR] 34 ?_; intro aW hg w2 hbox hb; have aB := Zq_.mk (hbox); have GW101 := gW_ (w := w) hg (hB_ HB); have GE101 := gW_ (w := w) hg (hB_ HB); replace HB := sB_ HB hb; clear hb hbox hg))
 go_loopg [3] k (fun kq v3 w' => ∃ (aA : Int), v3 = .int .i64 aA ∧ Zq_ (ref10_Right.l0 kq aA aF aC = some r) ∧ Zq_ (kq ≤ k) ∧ Zq_ (w'.heap[aW]? = some (.cells #[.int .i64 aF, (.slice aT aC.length aR)] 34 (0, 0))) ∧ Zq_ (Below w.heap.size w w'))
 case atStart => exact ⟨(0), eS_, H', ⟨Nat.le_refl _⟩, ⟨by (with_reducible repeat (first | refine qk_ ?_ _ | refine qh_ ?_ | refine ql_ ?_ _)); exact aB.out⟩, ⟨by exact hSet_ HB⟩⟩
 case round =>
  clear H'
  try clear c2
  try clear p2
  obtain ⟨aA, rfl, HA, HK1, aB, HB⟩ := hrel
  cases gk with
  | zero => exact absurd HA.out (by simp [ref10_Right.l0])
  | succ k1 =>
   have H := HA.out; clear HA; simp only [ref10_Right.l0] at H; have HC3 := Zq_.mk H; clear H
   go_upto_region 2 with (fail)
   go_cut [12] (fun v12 wc => ∃ (kq : Nat) (aN : Bool), v12 = .bool aN ∧ Zq_ (ref10_Right.j1 kq aA aN aF aC = some r) ∧ Zq_ (kq ≤ k1) ∧ Zq_ (wc.heap[aW]? = some (.cells #[.int .i64 aF, (.slice aT aC.length aR)] 34 (0, 0))) ∧ Zq_ (Below w.heap.size w wc))
   case first =>
    have H := HC3.out; clear HC3
    by_cases c4 : aA < (aC.length : Int)
    ·rw [if_pos c4] at H; have aP : decide (aA < (aC.length : Int)) = true := decide_eq_true c4; clear c4; (first | rw [aP] | (simp only [i64_w, i32_w]; rw [aP]) | skip); have H' := Zq_.mk H; clear H; obtain ⟨bE, bD⟩ := c2_ aB; obtain ⟨bA, aZ⟩ := f2_ aB
     go_wp2
     go_meet
     case rel => exact ⟨_, (decide (aA < 17)), eS_, H', ⟨by have := HK1.out; first | omega | exact Nat.le_refl _⟩, ⟨by (with_reducible repeat (first | refine qk_ ?_ _ | refine qh_ ?_ | refine ql_ ?_ _)); exact aB.out⟩, ⟨by exact hSet_ HB⟩⟩
    ·rw [if_neg c4] at H; have aP : decide (aA < (aC.length : Int)) = false := decide_eq_false c4; clear c4; (first | rw [aP] | (simp only [i64_w, i32_w]; rw [aP]) | skip); have H' := Zq_.mk H; clear H; obtain ⟨bC, bB⟩ := c2_ aB; obtain ⟨aY, aX⟩ := f2_ aB
     go_wp2
     go_meet
     case rel => exact ⟨_, (false), eS_, H', ⟨by have := HK1.out; first | omega | exact Nat.le_refl _⟩, ⟨by (with_reducible repeat (first | refine qk_ ?_ _ | refine qh_ ?_ | refine ql_ ?_ _)); exact aB.out⟩, ⟨by exact hSet_ HB⟩⟩
   case rest =>
    clear HC3
    try clear c2
    try clear p2
    try clear c4
    try clear aP
    try clear bE
    try clear bD
    try clear bC
    try clear bB
    try clear bA
    try clear aZ
    try clear aY
    try clear aX
    try clear p2
    obtain ⟨kq, aN, rfl, HA, HJ2, aB, HB⟩ := hcut
    cases kq with
    | zero => exact absurd HA.out (by simp [ref10_Right.j1])
    | succ kj2 =>
     have H := HA.out; clear HA; simp only [ref10_Right.j1] at H
     by_cases c7 : aN = true
     ·subst c7
      rw [if_pos rfl] at H
      by_cases c8 : 0 ≤ aA
      ·rw [if_pos c8] at H; have c8b0 : decide (0 ≤ aA) = true := decide_eq_true c8; clear c8
       by_cases c9 : aA < (aC.length : Int)
       ·rw [if_pos c9] at H; have c9b0 : decide (aA < (aC.length : Int)) = true := decide_eq_true c9; clear c9
        by_cases c10 : (rd aC aA) < 1
        ·rw [if_pos c10] at H; have bJ : decide ((rd aC aA) < 1) = true := decide_eq_true c10; clear c10; obtain rfl := Option.some.inj H; obtain ⟨hcz11_0, hcz11_1⟩ := c2_ aB; obtain ⟨hfz11_0, hfz11_1⟩ := f2_ aB; have aJ : 0 ≤ (aA : Int) := dA_; have aI : aA < (aC.length : Int) := dA_; obtain ⟨aO, aQ, aE⟩ := Kd.at_int aK.out aA aJ aI; cases aQ; replace aE := hC_ HB aE; replace aJ := eq_true aJ; replace aI := eq_true aI
         go_wp2
         go_ret
         exact ⟨by exact eW_, by exact hSet_ HB⟩
        ·rw [if_neg c10] at H; have bJ : decide ((rd aC aA) < 1) = false := decide_eq_false c10; clear c10
         by_cases c12 : (rd aC aA) > 1099511627776
         ·rw [if_pos c12] at H; have bI : decide (1099511627776 < (rd aC aA)) = true := decide_eq_true c12; clear c12; obtain rfl := Option.some.inj H; obtain ⟨hcz13_0, hcz13_1⟩ := c2_ aB; obtain ⟨hfz13_0, hfz13_1⟩ := f2_ aB; have aJ : 0 ≤ (aA : Int) := dA_; have aI : aA < (aC.length : Int) := dA_; obtain ⟨aO, aQ, aE⟩ := Kd.at_int aK.out aA aJ aI; cases aQ; replace aE := hC_ HB aE; replace aJ := eq_true aJ; replace aI := eq_true aI; have aM : 0 ≤ (aA : Int) := dA_; have aL : aA < (aC.length : Int) := dA_; obtain ⟨aS, bF, aH⟩ := Kd.at_int aK.out aA aM aL; obtain rfl : aO = aS := (by injection bF); replace aH := hC_ HB aH; replace aM := eq_true aM; replace aL := eq_true aL
          go_wp2
          go_ret
          exact ⟨by exact eW_, by exact hSet_ HB⟩
         ·rw [if_neg c12] at H; have bI : decide (1099511627776 < (rd aC aA)) = false := decide_eq_false c12; clear c12; have H' := Zq_.mk H; clear H; obtain ⟨hcz14_0, hcz14_1⟩ := c2_ aB; obtain ⟨hfz14_0, hfz14_1⟩ := f2_ aB; have aJ : 0 ≤ (aA : Int) := dA_; have aI : aA < (aC.length : Int) := dA_; obtain ⟨aO, aQ, aE⟩ := Kd.at_int aK.out aA aJ aI; cases aQ; replace aE := hC_ HB aE; replace aJ := eq_true aJ; replace aI := eq_true aI; have aM : 0 ≤ (aA : Int) := dA_; have aL : aA < (aC.length : Int) := dA_; obtain ⟨aS, bF, aH⟩ := Kd.at_int aK.out aA aM aL; obtain rfl : aO = aS := (by injection bF); replace aH := hC_ HB aH; replace aM := eq_true aM; replace aL := eq_true aL
          go_wp2
          go_roundg kj2
          case measure => have := HK1.out; have := HJ2.out; omega
          case rel => exact ⟨(wrap64 (aA + 1)), eS_, H', ⟨by have := HK1.out; have := HJ2.out; omega⟩, ⟨by (with_reducible repeat (first | refine qk_ ?_ _ | refine qh_ ?_ | refine ql_ ?_ _)); exact aB.out⟩, ⟨by exact hSet_ HB⟩⟩
       ·rw [if_neg c9] at H; exact absurd H (by simp)
      ·rw [if_neg c8] at H; exact absurd H (by simp)
     ·replace c7 := Bool.eq_false_iff.mpr c7; subst c7
      have H1 : (if aF ≥ (-1) then (if aF ≤ 1099511627776 then (some (decide ((aC.length : Int) ≤ 16))) else (some false)) else (some false)) = some r := by rw [if_neg (show ¬ (false = true) by decide)] at H; exact H
      clear H; have H := H1; clear H1
      by_cases c15 : aF ≥ (-1)
      ·rw [if_pos c15] at H; have bH : decide ((-1) ≤ aF) = true := decide_eq_true c15; clear c15
       by_cases c16 : aF ≤ 1099511627776
       ·rw [if_pos c16] at H; have bG : decide (aF ≤ 1099511627776) = true := decide_eq_true c16; clear c16; obtain rfl := Option.some.inj H; obtain ⟨hcz17_0, hcz17_1⟩ := c2_ aB; obtain ⟨hfz17_0, hfz17_1⟩ := f2_ aB
        go_wp2
        go_ret
        exact ⟨by exact eW_, by exact hSet_ HB⟩
       ·rw [if_neg c16] at H; have bG : decide (aF ≤ 1099511627776) = false := decide_eq_false c16; clear c16; obtain rfl := Option.some.inj H; obtain ⟨hcz18_0, hcz18_1⟩ := c2_ aB; obtain ⟨hfz18_0, hfz18_1⟩ := f2_ aB
        go_wp2
        go_ret
        exact ⟨by exact eW_, by exact hSet_ HB⟩
      ·rw [if_neg c15] at H; have bH : decide ((-1) ≤ aF) = false := decide_eq_false c15; clear c15; obtain rfl := Option.some.inj H; obtain ⟨hcz19_0, hcz19_1⟩ := c2_ aB; obtain ⟨hfz19_0, hfz19_1⟩ := f2_ aB
       go_wp2
       go_ret
       exact ⟨by exact eW_, by exact hSet_ HB⟩
/-- Where a node's watch is, or would be. -/
def watch_place.at (l0 : List S36) (n : Int) : Nat := halveX (fun j => decide (wrap64 ((l0.getD j z36).f0 - n) < 0)) l0.length 0 l0.length
def watch_place.f (l0 : List S36) (a1 : Int) : Option (Int × Bool) := if l0.length < 1954687338268 then some ((watch_place.at l0 a1 : Int), decide (watch_place.at l0 a1 < l0.length) && decide (wrap64 ((l0.getD (watch_place.at l0 a1) z36).f0 - a1) = 0)) else none
open Go.Proofs.YtoghjpoblbdnpaaW.Hw in
theorem watch_place.pred (a1 : Int) (W : World) (x : S36) (cs : List Value) (hx : (k36).K W x cs) : Calls Try.prog 59 (#[aggOf cs, .int .i64 a1] ++ #[]) W fun e w' => e = .returned (.int .i64 (wrap64 (x.f0 - a1))) ∧ Below W.heap.size W w' := by
 obtain ⟨A4, c4, rfl, l4, g4⟩ := k36_open hx; clear hx l4 g4; have HB := Zq_.mk (Below.refl W.heap.size W)
 go_enter Try.func59, Try.ntmps59
 go_wp2_with (first | ((with_reducible refine qc_ (N := 2) rfl ?_); (try (refine qo_ (by rfl) ?_; dsimp only)); refine bE_ 2 #[.int .i64 x.f0, .int .i64 x.f1, .int .i64 x.f2, .int .i64 x.f3.f0, .slice A4 x.f3.f1.length c4, .bool x.f4, .int .i64 x.f5] 36 ?_; intro aP hg_ w102 hbox_ hb_; have n0_ := Zq_.mk (qe_ (hB_ HB) hb_); have GE102 := Zq_.mk ((by rw [hg_]; exact (qb_ (hB_ HB)) : W.heap.size ≤ aP)); have n1_ := Zq_.mk (hbox_); clear HB; have HB := n0_; have aA := n1_; clear n0_ n1_; clear hb_ hbox_ hg_; obtain ⟨aO, aN, aM, aL, aK, aJ, aI⟩ := c7_ aA; obtain ⟨aH, aG, aF, aE, aD, aC, aB⟩ := f7_ aA))
 go_ret
 exact ⟨by first | rfl | (simp; done) | (simp [*]; done), (hB_ HB)⟩
open Go.Proofs.YtoghjpoblbdnpaaW.Hw in
theorem watch_place.calls (A0 : Option Addr) (c0 : Nat) (l0 : List S36) (a1 : Int) (r1 : Int) (r2 : Bool) (w : World) (hr0 : Kd.C k36 w A0 l0.length l0) (hc0 : l0.length ≤ c0) (h : watch_place.f l0 a1 = some (r1, r2)) :
  Calls Try.prog 32 #[.slice A0 l0.length c0, .int .i64 a1] w fun e w' => e = .returned (.tuple #[.int .i64 r1, .bool r2]) ∧ Below w.heap.size w w' := by
 unfold watch_place.f at h
 by_cases hl : l0.length < 1954687338268
 case neg => rw [if_neg hl] at h; cases h
 rw [if_pos hl] at h
 injection h with h
 injection h with h1 h2
 subst h1; subst h2; have HC := Zq_.mk (SearchX.calls (fun x => wrap64 (x.f0 - a1)) a1 59 #[] (fun args w => by first | rfl | (simp [callFunc, Try.func59]; done)) A0 c0 l0 w (fun W x cs _ hx => watch_place.pred a1 W x cs hx) hr0 hl); clear hr0 hc0 hl
 go_enter Try.func32, Try.ntmps32
 go_wp2_with fail
 refine HC.out.mono ?_; rintro e w1 ⟨rfl, hb⟩; have HB := Zq_.mk hb; clear hb
 go_wp2_with fail
 go_ret2
 exact ⟨rfl, HB.out⟩
end Go.Proofs.Ytoghjpoblbdnpaa.P

/- What this function of the program comes to, and that the machine's call does it: written by a program (wip/tool). No condition. -/
import Derived.Test.YtfaiapmckimjeaaP0
import Derived.Test.YtfaiapmckimjeaaPSealSum
import Derived.Test.YtfaiapmckimjeaaPSealSeal
import Derived.Test.YtfaiapmckimjeaaPSealOpen
import Derived.Test.YtfaiapmckimjeaaPSealTurn
import Derived.Test.YtfaiapmckimjeaaHw
namespace Go.Proofs.Ytfaiapmckimjeaa.P
open Go.RowKit Go.Proofs.YtfaiapmckimjeaaW.PrintWords Go.Proofs.YtfaiapmckimjeaaW.PrintLast Go.Proofs.YtfaiapmckimjeaaW.PrintMore
attribute [local go_sem] max2_int min2_int max_two min_two max_three min_three max_four min_four Go.Proofs.YtfaiapmckimjeaaW.Hw.string_gtr   -- for this text's walks alone
set_option linter.unusedVariables false
set_option linter.unusedSimpArgs false
/-! ### law02_alive: function 7 -/
def law02_alive.f (k : Nat)  : Option (Bool) := (seal_Seal.f k ([97, 98, 99] : List Int)).bind fun t104 => ((seal_Open.f k t104).bind fun bt107 => ((seal_Turn.f t104 9).bind fun t117 => ((seal_Open.f k t117).bind fun bt120 => ((seal_Sum.f k ([49, 50, 51, 52, 53, 54, 55, 56, 57] : List Int)).bind fun t127 => (some (decide (t127 = 3808858755) && decide (bt107 = (([97, 98, 99] : List Int), (0 : Int))) && decide (bt120.2 = 5)))))))
theorem law02_alive.mono : ∀ k, LeO (law02_alive.f k ) (law02_alive.f (k + 1) ) := by
 intro k
 unfold law02_alive.f
 exact LeO.bind (seal_Seal.mono _ _) (fun _ => LeO.bind (seal_Open.mono _ _) (fun _ => LeO.bind (LeO.refl _) (fun _ => LeO.bind (seal_Open.mono _ _) (fun _ => LeO.bind (seal_Sum.mono _ _) (fun _ => LeO.refl _)))))
theorem law02_alive.same {α : Type} {g : Nat → Option α} (h : ∀ k, LeO (g k) (g (k + 1))) {k n : Nat} {a b : α} (ha : g k = some a) (hb : g n = some b) : a = b := by
 rcases Nat.le_total k n with hk | hk
 ·have := at_rounds h hk ha; rw [hb] at this; exact (Option.some.inj this).symm
 ·have := at_rounds h hk hb; rw [ha] at this; exact Option.some.inj this
open Go.Proofs.YtfaiapmckimjeaaW.Hw in
theorem law02_alive.yes (k : Nat) (r : Bool) (h : law02_alive.f k = some r) : r = true := by
 have h60 : law02_alive.f 200 = some true := by decide +kernel
 rcases Nat.le_total k 200 with hk | hk
 ·have := at_rounds (fun k => law02_alive.mono k) hk h; rw [h60] at this; exact (Option.some.inj this).symm
 ·have := at_rounds (fun k => law02_alive.mono k) hk h60; rw [h] at this; exact Option.some.inj this
set_option maxHeartbeats 16000000 in
set_option maxRecDepth 100000 in
theorem law02_alive.calls (k : Nat)  (r : Bool) (w : World) (h : law02_alive.f k  = some r) :
  Calls Try.prog 7 #[] w fun e w' => e = .returned (.bool r) ∧ Below w.heap.size w w' := by
 have HRT := Aside0.mk (law02_alive.yes k r h)
 obtain rfl := law02_alive.yes k r h
 unfold law02_alive.f at h
 obtain ⟨s1, a1, h⟩ := Option.bind_eq_some_iff.1 h
 obtain ⟨o1, a2, h⟩ := Option.bind_eq_some_iff.1 h
 obtain ⟨u1, a3, h⟩ := Option.bind_eq_some_iff.1 h
 obtain ⟨o2, a4, h⟩ := Option.bind_eq_some_iff.1 h
 obtain ⟨m1, a5, h⟩ := Option.bind_eq_some_iff.1 h
 obtain rfl := law02_alive.same (fun k => seal_Seal.mono _ k) a1 (show seal_Seal.f 200 [97, 98, 99] = some [97, 98, 99, 183, 63, 75, 54] by decide +kernel)
 obtain rfl := law02_alive.same (fun k => seal_Open.mono _ k) a2 (show seal_Open.f 200 [97, 98, 99, 183, 63, 75, 54] = some ([97, 98, 99], 0) by decide +kernel)
 obtain rfl := Option.some.inj (a3.symm.trans (show seal_Turn.f [97, 98, 99, 183, 63, 75, 54] 9 = some [97, 96, 99, 183, 63, 75, 54] by decide +kernel))
 obtain rfl := law02_alive.same (fun k => seal_Open.mono _ k) a4 (show seal_Open.f 200 [97, 96, 99, 183, 63, 75, 54] = some ([], 5) by decide +kernel)
 obtain rfl := law02_alive.same (fun k => seal_Sum.mono _ k) a5 (show seal_Sum.f 200 [49, 50, 51, 52, 53, 54, 55, 56, 57] = some 3808858755 by decide +kernel)
 have A1 := Aside0.mk a1
 have A2 := Aside0.mk a2
 have A3 := Aside0.mk a3
 have A4 := Aside0.mk a4
 have A5 := Aside0.mk a5
 clear a1 a2 a3 a4 a5
 have hst : strOfNums [97, 98, 99] = ⟨#[97, 98, 99]⟩ := by decide +kernel
 have HST := Aside0.mk hst
 clear h hst
 have HB := Aside0.mk (Below.refl w.heap.size w)
 go_enter Try.func7, Try.ntmps7
 go_wp2_with (first
  | ((with_reducible refine gate_dst (N := 7) rfl ?_); refine Go.Proofs.YtfaiapmckimjeaaW.Hw.const_event (n := 3) ?hg (N := 7) ?hd (t := 22) (e := 5) (x := .tmp 6) ?ho ([97, 98, 99] : List Int) ?hx Try.underlying22 Try.underlying5 (by decide) ?_; (case hd => rfl); (case hg => rfl); (case ho => rfl); (case hx => first | rfl | (go_simp; done) | (go_simp; rfl)); intro g1 w1 hg_ hc_ hb_; have HC1 := Aside0.mk hc_; have n0_ := Aside0.mk (below_step HB.out hb_); clear HB; have HB := n0_; clear n0_ hg_ hc_ hb_)
  | ((with_reducible refine gate_dst (N := 14) rfl ?_); refine Go.Proofs.YtfaiapmckimjeaaW.Hw.const_event (n := 3) ?hg (N := 14) ?hd (t := 22) (e := 5) (x := .tmp 13) ?ho ([97, 98, 99] : List Int) ?hx Try.underlying22 Try.underlying5 (by decide) ?_; (case hd => rfl); (case hg => rfl); (case ho => rfl); (case hx => first | rfl | (go_simp; done) | (go_simp; rfl)); intro g4 w4 hg_ hc_ hb_; have HC4 := Aside0.mk hc_; have k0_ := Aside0.mk (Kd.C_below HC3.out hb_); clear HC3; have HC3 := k0_; clear k0_; have n0_ := Aside0.mk (below_step HB.out hb_); clear HB; have HB := n0_; clear n0_ hg_ hc_ hb_)
  | ((with_reducible refine gate_dst (N := 21) rfl ?_); refine Go.Proofs.YtfaiapmckimjeaaW.Hw.const_event (n := 9) ?hg (N := 21) ?hd (t := 22) (e := 5) (x := .tmp 20) ?ho ([49, 50, 51, 52, 53, 54, 55, 56, 57] : List Int) ?hx Try.underlying22 Try.underlying5 (by decide) ?_; (case hd => rfl); (case hg => rfl); (case ho => rfl); (case hx => first | rfl | (go_simp; done) | (go_simp; rfl)); intro g8 w8 hg_ hc_ hb_; have HC8 := Aside0.mk hc_; have k0_ := Aside0.mk (Kd.C_below HC3.out hb_); clear HC3; have HC3 := k0_; clear k0_; have n0_ := Aside0.mk (below_step HB.out hb_); clear HB; have HB := n0_; clear n0_ hg_ hc_ hb_) | (go_at_call 13; first
    | ((with_reducible show Calls _ _ _ w1 _); refine (seal_Seal.calls k (fun k_ => k_ < w1.heap.size) _ 3 [97, 98, 99] [97, 98, 99, 183, 63, 75, 54] w1 (Kd.V_mk (by decide) (Kd.C_F (Kd.heap_int .u8) HC1.out)) A1.out).mono ?_; rintro e w2 ⟨v2, rfl, ho_, hb_⟩; obtain ⟨p2, c2, rfl, hl_, hc_⟩ := Kd.R_reads ho_; have HC2 := Aside0.mk hc_; have HL2 := Aside0.mk hl_; have n0_ := Aside0.mk (below_step HB.out hb_); clear HB; have HB := n0_; clear n0_ ho_ hb_ hc_ hl_)
    | ((with_reducible show Calls _ _ _ w4 _); refine (seal_Seal.calls k (fun k_ => k_ < w4.heap.size) _ 3 [97, 98, 99] [97, 98, 99, 183, 63, 75, 54] w4 (Kd.V_mk (by decide) (Kd.C_F (Kd.heap_int .u8) HC4.out)) A1.out).mono ?_; rintro e w5 ⟨v5, rfl, ho_, hb_⟩; obtain ⟨p5, c5, rfl, hl_, hc_⟩ := Kd.R_reads ho_; have HC5 := Aside0.mk hc_; have HL5 := Aside0.mk hl_; have k0_ := Aside0.mk (Kd.C_below HC3.out hb_); clear HC3; have HC3 := k0_; have n0_ := Aside0.mk (below_step HB.out hb_); clear HB; have HB := n0_; clear n0_ k0_ ho_ hb_ hc_ hl_)) | (go_at_call 8; first
    | ((with_reducible show Calls _ _ _ w2 _); refine (seal_Open.calls k (fun k_ => k_ < w2.heap.size) p2 c2 [97, 98, 99, 183, 63, 75, 54] [97, 98, 99] 0 w2 (Kd.V_mk HL2.out (Kd.C_F (Kd.heap_int .u8) HC2.out)) A2.out).mono ?_; rintro e w3 ⟨v3, rfl, ho_, hb_⟩; obtain ⟨p3, c3, rfl⟩ := Kd.V_slice ho_; have HC3 := Aside0.mk (Kd.V_reads' ho_).2.2; have n0_ := Aside0.mk (below_step HB.out hb_); clear HB; have HB := n0_; clear n0_ ho_ hb_)
    | ((with_reducible show Calls _ _ _ w6 _); refine (seal_Open.calls k (fun k_ => k_ < w6.heap.size) p6 c6 [97, 96, 99, 183, 63, 75, 54] [] 5 w6 (Kd.V_mk HL6.out (Kd.C_F (Kd.heap_int .u8) HC6.out)) A4.out).mono ?_; rintro e w7 ⟨v7, rfl, ho_, hb_⟩; obtain ⟨p7, c7, rfl⟩ := Kd.V_slice ho_; have k0_ := Aside0.mk (Kd.C_below HC3.out hb_); clear HC3; have HC3 := k0_; have n0_ := Aside0.mk (below_step HB.out hb_); clear HB; have HB := n0_; clear n0_ k0_ ho_ hb_)) | (go_at_call 15; refine (seal_Turn.calls p5 c5 [97, 98, 99, 183, 63, 75, 54] 9 [97, 96, 99, 183, 63, 75, 54] w5 HC5.out HL5.out A3.out).mono ?_; rintro e w6 ⟨v6, rfl, ho_, hb_⟩; obtain ⟨p6, c6, rfl, hl_, hc_⟩ := Kd.R_reads ho_; have HC6 := Aside0.mk hc_; have HL6 := Aside0.mk hl_; have k0_ := Aside0.mk (Kd.C_below HC3.out hb_); clear HC3; have HC3 := k0_; have n0_ := Aside0.mk (below_step HB.out hb_); clear HB; have HB := n0_; clear n0_ k0_ ho_ hb_ hc_ hl_) | (go_at_call 10; refine (seal_Sum.calls k _ 9 [49, 50, 51, 52, 53, 54, 55, 56, 57] 3808858755 w8 HC8.out (by decide) A5.out).mono ?_; rintro e w9 ⟨rfl, ⟨nd, rfl⟩⟩; have hcv := Kd.C_string (P := Try.prog) (A := p3) (c := c3) Try.underlying22 Try.underlying5 Try.underlying9 (Kd.C_drewN HC3.out nd); rw [HST.out] at hcv; simp only [List.length_cons, List.length_nil, Nat.reduceAdd, Nat.zero_add] at hcv; have n0_ := Aside0.mk (qa_ HB.out nd); clear HB; have HB := n0_; clear n0_))
 go_ret
 exact ⟨by first | rfl | (simp; done) | (simp [*]; done), HB.out⟩
end Go.Proofs.Ytfaiapmckimjeaa.P

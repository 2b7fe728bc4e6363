/- What this function of the program comes to, and that the machine's call does it: written by a program (wip/tool). No condition. -/
import Derived.Test.YthpbggknfhchlaaPApiNamed48
import Derived.Test.YthpbggknfhchlaaPStateSame
namespace Go.Proofs.Ythpbggknfhchlaa.P
set_option maxHeartbeats 8000000
set_option maxRecDepth 100000
open Go.RowKit Go.Proofs.YthpbggknfhchlaaW.PrintWords Go.Proofs.YthpbggknfhchlaaW.PrintLast Go.Proofs.YthpbggknfhchlaaW.PrintMore
attribute [local go_sem] max2_int min2_int max_two min_two ve_ vd_ max_four min_four Go.Proofs.YthpbggknfhchlaaW.Hw.string_gtr   -- for this text's walks alone
set_option linter.unusedVariables false
set_option linter.unusedSimpArgs false
/-! ### view_Same: function 29 -/
theorem eqE_total (l m : List S60) (hl : (l.length : Int) = (m.length : Int)) (hM : (l.length : Int) ≤ 9223372036854775807) : ∀ (d k : Nat) (i : Int), 0 ≤ i → l.length - i.toNat ≤ d → d < k → ∃ b, api_Entry_71.l0 k l m (l.length : Int) i = some b := by
 intro d
 induction d with
 | zero =>
  intro k i h0 hd hk; obtain ⟨k, rfl⟩ : ∃ j, k = j + 1 := ⟨k - 1, by omega⟩
  unfold api_Entry_71.l0
  rw [if_neg (by omega)]; exact ⟨_, rfl⟩
 | succ d ih =>
  intro k i h0 hd hk; obtain ⟨k, rfl⟩ : ∃ j, k = j + 1 := ⟨k - 1, by omega⟩
  unfold api_Entry_71.l0
  by_cases hi : i < (l.length : Int)
  ·have hw : wrap64 (i + 1) = i + 1 := by unfold wrap64; omega
   rw [if_pos hi, if_pos h0, if_pos hi, if_pos (by omega), hw]
   split
   ·exact ⟨_, rfl⟩
   ·exact ih k (i + 1) (by omega) (by omega) (by omega)
  ·rw [if_neg hi]; exact ⟨_, rfl⟩
theorem state_Same.total (a0 a1 : Int) (l : List S60) (b0 b1 : Int) (m : List S60) (hM : l.length ≤ 9223372036854775807) : ∃ b, state_Same.f (l.length + 1) a0 a1 l b0 b1 m = some b := by
 unfold state_Same.f entry_Same.f api_Entry_71.f
 by_cases h0 : a0 = b0
 ·rw [if_pos h0]
  by_cases h1 : a1 = b1
  ·rw [if_pos h1]
   by_cases hl : (l.length : Int) = (m.length : Int)
   ·rw [if_pos hl]; obtain ⟨b, hb⟩ := eqE_total l m hl (by omega) l.length (l.length + 1) 0 (by omega) (by omega) (by omega); rw [hb]; exact ⟨b, rfl⟩
   ·rw [if_neg hl]; exact ⟨false, rfl⟩
  ·rw [if_neg h1]; exact ⟨_, rfl⟩
 ·rw [if_neg h0]; exact ⟨_, rfl⟩
/-- The same states? -/
def view_Same.st (x y : S25) : Bool := match state_Same.f (x.f2.length + 1) x.f0 x.f1 x.f2 y.f0 y.f1 y.f2 with | some b => b | none => false
def view_Same.q (x y : S41) : Bool := (x.f0 == y.f0) && view_Same.st x.f1 y.f1
def view_Same.f (l0 l1 : List S41) : Option Bool := some (eqfN view_Same.q l0 l1)
open Go.Proofs.YthpbggknfhchlaaW.Hw in
theorem view_Same.pred (W : World) (x y : S41) (cx cy : List Value) (hx : (k41).K W x cx) (hy : (k41).K W y cy) : Calls Try.prog 49 #[aggOf cx, aggOf cy] W fun e w' => e = .returned (.bool (view_Same.q x y)) ∧ Below W.heap.size W w' := by
 obtain ⟨A3, c3, rfl, l3, g3⟩ := k41_open hx; obtain ⟨A4, c4, rfl, l4, g4⟩ := k41_open hy; have HB := Zq_.mk (Below.refl W.heap.size W)
 by_cases hk : x.f0 = y.f0
 ·have hkb : (x.f0 == y.f0) = true := beq_iff_eq.2 hk; obtain ⟨b, hb⟩ := state_Same.total x.f1.f0 x.f1.f1 x.f1.f2 y.f1.f0 y.f1.f1 y.f1.f2 (Kd.C_max g3)
  have e : view_Same.q x y = b := by unfold view_Same.q view_Same.st; rw [hkb, Bool.true_and, hb]
  rw [e]; have HS := Zq_.mk hb; have HG3 := Zq_.mk g3; have HG4 := Zq_.mk g4; have HL3 := Zq_.mk l3; have HL4 := Zq_.mk l4; clear hb hx hy g3 g4 l3 l4 hk e
  go_enter Try.func49, Try.ntmps49
  go_wp2_with (first | ((with_reducible refine qt_ (N := 2) rfl ?_); (try (refine gate_guard (by rfl) ?_; dsimp only)); refine qr_ ?hg (N := 2) ?hd (cs := #[.int .i64 x.f0, .int .i64 x.f1.f0, .int .i64 x.f1.f1, .slice A3 x.f1.f2.length c3]) (t := 41) ?hr ?_; (case hd => rfl); (case hg => rfl); (case hr => first | (go_simp; done) | (go_simp; rfl)); intro gb102 hg_ w102 hbox_ hb_; have n0_ := Zq_.mk (qm_ (hB_ HB) hb_); have GE102 := Zq_.mk ((by rw [hg_]; exact (qi_ (hB_ HB)) : W.heap.size ≤ gb102)); have n1_ := Zq_.mk (hbox_); clear HB; have HB := n0_; have BK102 := n1_; clear n0_ n1_; clear hb_ hbox_ hg_; have hcz102_0 : w102.cell? ⟨gb102, 0, none⟩ = some (.int .i64 x.f0) := (qh_ BK102.out 0).trans rfl; have hcz102_1 : w102.cell? ⟨gb102, 1, none⟩ = some (.int .i64 x.f1.f0) := (qh_ BK102.out 1).trans rfl; have hcz102_2 : w102.cell? ⟨gb102, 2, none⟩ = some (.int .i64 x.f1.f1) := (qh_ BK102.out 2).trans rfl; have hcz102_3 : w102.cell? ⟨gb102, 3, none⟩ = some (.slice A3 x.f1.f2.length c3) := (qh_ BK102.out 3).trans rfl; have hfz102_0 := qe_ BK102.out 0; have hfz102_1 := qe_ BK102.out 1; have hfz102_2 := qe_ BK102.out 2; have hfz102_3 := qe_ BK102.out 3) | ((with_reducible refine qt_ (N := 3) rfl ?_); (try (refine gate_guard (by rfl) ?_; dsimp only)); refine qr_ ?hg (N := 3) ?hd (cs := #[.int .i64 y.f0, .int .i64 y.f1.f0, .int .i64 y.f1.f1, .slice A4 y.f1.f2.length c4]) (t := 41) ?hr ?_; (case hd => rfl); (case hg => rfl); (case hr => first | (go_simp; done) | (go_simp; rfl)); intro gb103 hg_ w103 hbox_ hb_; have n0_ := Zq_.mk (qm_ (hB_ HB) hb_); have GE103 := Zq_.mk ((by rw [hg_]; exact (qi_ (hB_ HB)) : W.heap.size ≤ gb103)); have n1_ := Zq_.mk (hbox_); have NB102_103 : Zq_ (gb102 ≠ gb103) := ⟨fun e_ => by have h1 := blk_lt (by exact bK_ BK102); rw [e_, hg_] at h1; exact absurd h1 (Nat.lt_irrefl _)⟩; have m102_ := Zq_.mk (blk_bel (by exact bK_ BK102) hb_); clear BK102; have BK102 := m102_; clear m102_; clear HB; have HB := n0_; have BK103 := n1_; clear n0_ n1_; clear hb_ hbox_ hg_; have hcz103_0 : w103.cell? ⟨gb103, 0, none⟩ = some (.int .i64 y.f0) := (qh_ BK103.out 0).trans rfl; have hcz103_1 : w103.cell? ⟨gb103, 1, none⟩ = some (.int .i64 y.f1.f0) := (qh_ BK103.out 1).trans rfl; have hcz103_2 : w103.cell? ⟨gb103, 2, none⟩ = some (.int .i64 y.f1.f1) := (qh_ BK103.out 2).trans rfl; have hcz103_3 : w103.cell? ⟨gb103, 3, none⟩ = some (.slice A4 y.f1.f2.length c4) := (qh_ BK103.out 3).trans rfl; have hfz103_0 := qe_ BK103.out 0; have hfz103_1 := qe_ BK103.out 1; have hfz103_2 := qe_ BK103.out 2; have hfz103_3 := qe_ BK103.out 3; have hcw103_102_0 : w103.cell? ⟨gb102, 0, none⟩ = some (.int .i64 x.f0) := (qh_ BK102.out 0).trans rfl; have hcw103_102_1 : w103.cell? ⟨gb102, 1, none⟩ = some (.int .i64 x.f1.f0) := (qh_ BK102.out 1).trans rfl; have hcw103_102_2 : w103.cell? ⟨gb102, 2, none⟩ = some (.int .i64 x.f1.f1) := (qh_ BK102.out 2).trans rfl; have hcw103_102_3 : w103.cell? ⟨gb102, 3, none⟩ = some (.slice A3 x.f1.f2.length c3) := (qh_ BK102.out 3).trans rfl) | (go_at_call 50; refine (state_Same.calls _ x.f1.f0 x.f1.f1 A3 c3 x.f1.f2 y.f1.f0 y.f1.f1 A4 c4 y.f1.f2 b _ (Kd.vb_ HG3.out (hB_ HB)) HL3.out (Kd.vb_ HG4.out (hB_ HB)) HL4.out HS.out).mono ?_; rintro e w6 ⟨rfl, hb6⟩; have n0_ := Zq_.mk (qm_ (hB_ HB) hb6); have m102_ := Zq_.mk (blk_bel (by exact bK_ BK102) hb6); have m103_ := Zq_.mk (blk_bel (by exact bK_ BK103) hb6); clear HB; have HB := n0_; clear n0_; clear BK102; have BK102 := m102_; clear m102_; clear BK103; have BK103 := m103_; clear m103_; clear hb6))
  go_ret
  exact ⟨by first | rfl | (simp; done) | (simp [*]; done), (hB_ HB)⟩
 ·have hkb : (x.f0 == y.f0) = false := beq_false_of_ne hk
  have e : view_Same.q x y = false := by unfold view_Same.q; rw [hkb, Bool.false_and]
  rw [e]; clear hx hy g3 g4 l3 l4 hk e
  go_enter Try.func49, Try.ntmps49
  go_wp2_with (first | ((with_reducible refine qt_ (N := 2) rfl ?_); (try (refine gate_guard (by rfl) ?_; dsimp only)); refine qr_ ?hg (N := 2) ?hd (cs := #[.int .i64 x.f0, .int .i64 x.f1.f0, .int .i64 x.f1.f1, .slice A3 x.f1.f2.length c3]) (t := 41) ?hr ?_; (case hd => rfl); (case hg => rfl); (case hr => first | (go_simp; done) | (go_simp; rfl)); intro gb102 hg_ w102 hbox_ hb_; have n0_ := Zq_.mk (qm_ (hB_ HB) hb_); have GE102 := Zq_.mk ((by rw [hg_]; exact (qi_ (hB_ HB)) : W.heap.size ≤ gb102)); have n1_ := Zq_.mk (hbox_); clear HB; have HB := n0_; have BK102 := n1_; clear n0_ n1_; clear hb_ hbox_ hg_; have hcz102_0 : w102.cell? ⟨gb102, 0, none⟩ = some (.int .i64 x.f0) := (qh_ BK102.out 0).trans rfl; have hcz102_1 : w102.cell? ⟨gb102, 1, none⟩ = some (.int .i64 x.f1.f0) := (qh_ BK102.out 1).trans rfl; have hcz102_2 : w102.cell? ⟨gb102, 2, none⟩ = some (.int .i64 x.f1.f1) := (qh_ BK102.out 2).trans rfl; have hcz102_3 : w102.cell? ⟨gb102, 3, none⟩ = some (.slice A3 x.f1.f2.length c3) := (qh_ BK102.out 3).trans rfl; have hfz102_0 := qe_ BK102.out 0; have hfz102_1 := qe_ BK102.out 1; have hfz102_2 := qe_ BK102.out 2; have hfz102_3 := qe_ BK102.out 3) | ((with_reducible refine qt_ (N := 3) rfl ?_); (try (refine gate_guard (by rfl) ?_; dsimp only)); refine qr_ ?hg (N := 3) ?hd (cs := #[.int .i64 y.f0, .int .i64 y.f1.f0, .int .i64 y.f1.f1, .slice A4 y.f1.f2.length c4]) (t := 41) ?hr ?_; (case hd => rfl); (case hg => rfl); (case hr => first | (go_simp; done) | (go_simp; rfl)); intro gb103 hg_ w103 hbox_ hb_; have n0_ := Zq_.mk (qm_ (hB_ HB) hb_); have GE103 := Zq_.mk ((by rw [hg_]; exact (qi_ (hB_ HB)) : W.heap.size ≤ gb103)); have n1_ := Zq_.mk (hbox_); have NB102_103 : Zq_ (gb102 ≠ gb103) := ⟨fun e_ => by have h1 := blk_lt (by exact bK_ BK102); rw [e_, hg_] at h1; exact absurd h1 (Nat.lt_irrefl _)⟩; have m102_ := Zq_.mk (blk_bel (by exact bK_ BK102) hb_); clear BK102; have BK102 := m102_; clear m102_; clear HB; have HB := n0_; have BK103 := n1_; clear n0_ n1_; clear hb_ hbox_ hg_; have hcz103_0 : w103.cell? ⟨gb103, 0, none⟩ = some (.int .i64 y.f0) := (qh_ BK103.out 0).trans rfl; have hcz103_1 : w103.cell? ⟨gb103, 1, none⟩ = some (.int .i64 y.f1.f0) := (qh_ BK103.out 1).trans rfl; have hcz103_2 : w103.cell? ⟨gb103, 2, none⟩ = some (.int .i64 y.f1.f1) := (qh_ BK103.out 2).trans rfl; have hcz103_3 : w103.cell? ⟨gb103, 3, none⟩ = some (.slice A4 y.f1.f2.length c4) := (qh_ BK103.out 3).trans rfl; have hfz103_0 := qe_ BK103.out 0; have hfz103_1 := qe_ BK103.out 1; have hfz103_2 := qe_ BK103.out 2; have hfz103_3 := qe_ BK103.out 3; have hcw103_102_0 : w103.cell? ⟨gb102, 0, none⟩ = some (.int .i64 x.f0) := (qh_ BK102.out 0).trans rfl; have hcw103_102_1 : w103.cell? ⟨gb102, 1, none⟩ = some (.int .i64 x.f1.f0) := (qh_ BK102.out 1).trans rfl; have hcw103_102_2 : w103.cell? ⟨gb102, 2, none⟩ = some (.int .i64 x.f1.f1) := (qh_ BK102.out 2).trans rfl; have hcw103_102_3 : w103.cell? ⟨gb102, 3, none⟩ = some (.slice A3 x.f1.f2.length c3) := (qh_ BK102.out 3).trans rfl))
  go_ret
  exact ⟨by first | rfl | (simp; done) | (simp [*]; done), (hB_ HB)⟩
open Go.Proofs.YthpbggknfhchlaaW.Hw in
theorem view_Same.calls (A0 : Option Addr) (c0 : Nat) (l0 : List S41) (A1 : Option Addr) (c1 : Nat) (l1 : List S41) (r : Bool) (w : World) (hr0 : Kd.C k41 w A0 l0.length l0) (hc0 : l0.length ≤ c0) (hr1 : Kd.C k41 w A1 l1.length l1) (hc1 : l1.length ≤ c1) (h : view_Same.f l0 l1 = some r) :
  Calls Try.prog 29 #[.slice A0 l0.length c0, .slice A1 l1.length c1] w fun e w' => e = .returned (.bool r) ∧ Below w.heap.size w w' := by
 unfold view_Same.f at h
 obtain rfl := Option.some.inj h; have HC := Zq_.mk (EqualFuncN.calls view_Same.q 49 (fun args w => enters Try.prog Try.func49 (by kernel_rfl) (by kernel_rfl) args w) A0 c0 l0 A1 c1 l1 w (fun V x y cx cy _ hx hy => view_Same.pred V x y cx cy hx hy) hr0 hr1); generalize eqfN view_Same.q l0 l1 = b at HC ⊢; clear hr0 hc0 hr1 hc1 h
 go_enter Try.func29, Try.ntmps29
 go_wp2_with (go_at_call 48; refine HC.out.mono ?_; rintro e w3 ⟨rfl, hb3⟩)
 go_ret
 exact ⟨rfl, hb3⟩
end Go.Proofs.Ythpbggknfhchlaa.P

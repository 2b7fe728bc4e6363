/- What printed functions come to, and that the machine's calls do it. No condition. -/
import Derived.Test.YtoghjpoblbdnpaaPRef22Copy
import Derived.Test.YtoghjpoblbdnpaaPRef22Right
import Derived.Test.YtoghjpoblbdnpaaPApiWatch44
namespace Go.Proofs.Ytoghjpoblbdnpaa.P
set_option maxHeartbeats 16000000
set_option maxRecDepth 100000
open Go.RowKit Go.Proofs.YtoghjpoblbdnpaaW.PrintWords Go.Proofs.YtoghjpoblbdnpaaW.PrintLast Go.Proofs.YtoghjpoblbdnpaaW.PrintMore
attribute [local go_sem] qt_ qr_ qx_ qw_ qn_ qm_ qs_ qq_ Go.Proofs.YtoghjpoblbdnpaaW.Hw.string_gtr
set_option linter.unusedVariables false
set_option linter.unusedSimpArgs false
def ref22_Without.l0 : Nat → List (S36) → Int → List (S36) → Int → Option ((List (S36)))
 | 0, _, _, _, _ => none
 | k + 1, x0, x1, x5, x6 => if x6 < (x0.length : Int) then (if 0 ≤ x6 then (if ((rd_T36 x0 x6).f0) = x1 then (ref22_Without.l0 k x0 x1 x5 (wrap64 (x6 + 1))) else (if x5.length < 1954687338268 then (ref22_Without.l0 k x0 x1 (x5 ++ [(⟨(rd_T36 x0 x6).f0, (rd_T36 x0 x6).f1, (rd_T36 x0 x6).f2, (⟨(rd_T36 x0 x6).f3.f0, (rd_T36 x0 x6).f3.f1⟩ : S34), (rd_T36 x0 x6).f4, (rd_T36 x0 x6).f5⟩ : S36)]) (wrap64 (x6 + 1))) else (none))) else (none)) else ((ref22_Copy.f k x5).bind fun bR => (some bR))
def ref22_Without.f (k : Nat) (l0 : List (S36)) (a1 : Int) : Option ((List (S36))) := ref22_Without.l0 k l0 a1 ([] : List (S36)) 0
theorem ref22_Without.mono_l : ∀ k, (∀ y0 y1 y2 y3, LeO (ref22_Without.l0 k y0 y1 y2 y3) (ref22_Without.l0 (k + 1) y0 y1 y2 y3))
 | 0 => fun _ _ _ _ r h => by simp [ref22_Without.l0] at h
 | k + 1 => by
  have ih0 := ref22_Without.mono_l k
  ·intro y0 y1 y2 y3
   unfold ref22_Without.l0
   with_reducible repeat' first | exact ih0 _ _ _ _ | exact ref22_Copy.mono _ _ | exact LeO.refl _ | exact LeO.none _ | refine LeO.ite ?_ ?_ | refine LeO.bind ?_ (fun _ => ?_)
theorem ref22_Without.mono : ∀ a0 a1 k, LeO (ref22_Without.f k a0 a1) (ref22_Without.f (k + 1) a0 a1) := by
 intro a0 a1 k; have ih0 := ref22_Without.mono_l k
 unfold ref22_Without.f
 with_reducible repeat' first | exact ih0 _ _ _ _ | exact ref22_Copy.mono _ _ | exact LeO.refl _ | exact LeO.none _ | refine LeO.ite ?_ ?_ | refine LeO.bind ?_ (fun _ => ?_)
theorem ref22_Without.calls (k : Nat) (P0_ : Nat → Prop) (A0 : Option Addr) (c0 : Nat) (l0 : List (S36)) (a1 : Int) (r : List (S36)) (w : World) (hs0 : Kd.V k36 36 w w.heap.size (fun k_ => P0_ k_) (.slice A0 l0.length c0) l0) (h : ref22_Without.f k l0 a1 = some r) :
  Calls Try.prog 67 #[.slice A0 l0.length c0, .int .i64 a1] w fun e w' => ∃ v0_ : Value, e = .returned (v0_) ∧ Kd.N k36 36 w' w.heap.size (fun k_ => (P0_ k_ ∨ w.heap.size ≤ k_)) v0_ r ∧ Below w.heap.size w w' := by
 have hu36 := Try.underlying36; have HO0 := Zq_.mk (show Kd.V k36 36 w w.heap.size (fun k_ => (P0_ k_ ∨ w.heap.size ≤ k_)) (.slice A0 l0.length c0) l0 from Kd.V_mono hs0 (fun k_ hk => .inl hk)); have HB := Zq_.mk (Below.refl w.heap.size w); have H : (ref22_Without.l0 k l0 a1 ([] : List (S36)) 0) = some r := h; clear h; have H' := Zq_.mk H; clear H
 go_enter Try.func67, Try.ntmps67
 go_wp2
 go_loopg [5, 6] k (fun kq v5 v6 w' => ∃ (aQ : List (S36)) (aA : Int), v6 = .int .i64 aA ∧ Zq_ (ref22_Without.l0 kq l0 a1 aQ aA = some r) ∧ Zq_ (kq ≤ k) ∧ Zq_ (Kd.V k36 36 w' w.heap.size (fun k_ => (P0_ k_ ∨ w.heap.size ≤ k_) ∧ some k_ ≠ (v5 : Value).ownBlock) (.slice A0 l0.length c0) l0) ∧ Zq_ (Kd.N k36 36 w' w.heap.size (fun k_ => (P0_ k_ ∨ w.heap.size ≤ k_)) v5 aQ) ∧ Zq_ (Below w.heap.size w w'))
 case atStart => exact ⟨(([] : List (S36))), (0), eS_, H', ⟨Nat.le_refl _⟩, ⟨by refine vM_ ?_; exact Kd.V_mono HO0.out (fun _ hk => ⟨hk, (by simp [Value.ownBlock])⟩)⟩, ⟨by first | exact Kd.S_nil _ _ _ _ _ | exact Kd.N_nil _ _ _ _ _ | exact Kd.V_nil _ _ _ _ _ | exact Kd.Q_nil _ _ _ _ _ | exact Kd.R_nil _ _ _ _ _⟩, ⟨hB_ HB⟩⟩
 case round =>
  clear H'
  try clear p2
  obtain ⟨aQ, aA, rfl, HA, HK1, aG, aW, HB⟩ := hrel
  cases gk with
  | zero => exact absurd HA.out (by simp [ref22_Without.l0])
  | succ k1 =>
   have H := HA.out; clear HA; simp only [ref22_Without.l0] at H
   by_cases c3 : aA < (l0.length : Int)
   ·rw [if_pos c3] at H; have c3b0 : decide (aA < (l0.length : Int)) = true := decide_eq_true c3; clear c3
    by_cases c4 : 0 ≤ aA
    ·rw [if_pos c4] at H; have c4b0 : decide (0 ≤ aA) = true := decide_eq_true c4; clear c4
     by_cases c5 : ((rd_T36 l0 aA).f0) = a1
     ·rw [if_pos c5] at H; have c5b0 : (((rd_T36 l0 aA).f0) == a1) = true := beq_iff_eq.mpr c5; have c5b1 : (((rd_T36 l0 aA).f0) != a1) = false := bne_eq_false_iff_eq.mpr c5; clear c5; have H' := Zq_.mk H; clear H; have aU : 0 ≤ (aA : Int) := dA_; have aT : aA < (l0.length : Int) := dA_; obtain ⟨bQ, bF, bE, bT, bN, bM, bL, bK, aJ, bJ, bI, aH, aI⟩ := at_T36 (Kd.V_reads' aG.out).2.2 aA aU aT; cases bT; obtain ⟨ce101, aY, hMe101, aN⟩ := Kd.V_get aG.out z36 aA aU (by first | exact aT | exact dA_ | (have e_ := (Kd.V_reads' aG.out).1; omega)); obtain ⟨ua101_4, uc101_4, rfl, aD, aE⟩ := k36_openF hMe101; have aC := aN 4 _ rfl; rw [vg_ _ _ 4 (by omega)] at aC; replace aC := Option.some.inj (aC.symm.trans aJ)
      injection aC with hva_ hvn_ hvc_
      rw [hva_] at aE; rw [hvc_] at aD; have aX := Zq_.mk (show Kd.V (Kd.int .i64) 3 _ w.heap.size _ _ ((rd_T36 l0 aA).f3.f1) from Kd.V_mk aD aE); clear hva_ hvn_ hvc_ aE aD; clear aN aY; have bO := Zq_.mk aI; have bP := Zq_.mk aH; clear aI aH; replace aU := eq_true aU; replace aT := eq_true aT
      go_wp2
      go_roundg k1
      case measure => have := HK1.out; omega
      case rel => exact ⟨(aQ), (wrap64 (aA + 1)), eS_, H', ⟨by have := HK1.out; omega⟩, ⟨by refine vM_ ?_; exact aG.out⟩, ⟨by (with_reducible repeat (first | apply Kd.qz_ | apply Kd.qy_ | apply Kd.N_drew)); exact aW.out⟩, ⟨hB_ HB⟩⟩
     ·rw [if_neg c5] at H; have c5b0 : (((rd_T36 l0 aA).f0) == a1) = false := beq_eq_false_iff_ne.mpr c5; have c5b1 : (((rd_T36 l0 aA).f0) != a1) = true := bne_iff_ne.mpr c5
      by_cases c6 : aQ.length < 1954687338268
      ·rw [if_pos c6] at H; have LMc6 := Zq_.mk c6; clear c6; obtain ⟨bU, bC⟩ : ∃ y_ : List (S36), y_ = (aQ ++ [(⟨(rd_T36 l0 aA).f0, (rd_T36 l0 aA).f1, (rd_T36 l0 aA).f2, (⟨(rd_T36 l0 aA).f3.f0, (rd_T36 l0 aA).f3.f1⟩ : S34), (rd_T36 l0 aA).f4, (rd_T36 l0 aA).f5⟩ : S36)]) := ⟨_, rfl⟩
       replace H : (ref22_Without.l0 k1 l0 a1 bU (wrap64 (aA + 1))) = some r := hY_ bC H
       have bW := Zq_.mk bC; clear bC; have H' := Zq_.mk H; clear H; have aU : 0 ≤ (aA : Int) := dA_; have aT : aA < (l0.length : Int) := dA_; obtain ⟨bQ, bF, bE, bT, bN, bM, bL, bK, aJ, bJ, bI, aH, aI⟩ := at_T36 (Kd.V_reads' aG.out).2.2 aA aU aT; cases bT; obtain ⟨ce101, aY, hMe101, aN⟩ := Kd.V_get aG.out z36 aA aU (by first | exact aT | exact dA_ | (have e_ := (Kd.V_reads' aG.out).1; omega)); obtain ⟨ua101_4, uc101_4, rfl, aD, aE⟩ := k36_openF hMe101; have aC := aN 4 _ rfl; rw [vg_ _ _ 4 (by omega)] at aC; replace aC := Option.some.inj (aC.symm.trans aJ)
       injection aC with hva_ hvn_ hvc_
       rw [hva_] at aE; rw [hvc_] at aD; have aX := Zq_.mk (show Kd.V (Kd.int .i64) 3 _ w.heap.size _ _ ((rd_T36 l0 aA).f3.f1) from Kd.V_mk aD aE); clear hva_ hvn_ hvc_ aE aD; clear aN aY; have bO := Zq_.mk aI; have bP := Zq_.mk aH; clear aI aH; replace aU := eq_true aU; replace aT := eq_true aT; have bH : 0 ≤ (aA : Int) := dA_; have bG : aA < (l0.length : Int) := dA_; obtain ⟨bV, A102_4, c102_4, e102, hx102_0, hx102_1, hx102_2, hx102_3, aZ, hx102_5, hx102_6, bA, bB⟩ := at_T36 (Kd.V_reads' aG.out).2.2 aA bH bG; obtain rfl : bQ = bV := (by injection e102); obtain ⟨ce102, bS, hMe102, bD⟩ := Kd.V_get aG.out z36 aA bH (by first | exact bG | exact dA_ | (have e_ := (Kd.V_reads' aG.out).1; omega)); obtain ⟨ua102_4, uc102_4, rfl, aR, aV⟩ := k36_openF hMe102; have aK := bD 4 _ rfl; rw [vg_ _ _ 4 (by omega)] at aK; replace aK := Option.some.inj (aK.symm.trans aZ)
       injection aK with hva_ hvn_ hvc_
       rw [hva_] at aV; rw [hvc_] at aR; have aM := Zq_.mk (show Kd.V (Kd.int .i64) 3 _ w.heap.size _ _ ((rd_T36 l0 aA).f3.f1) from Kd.V_mk aR aV); clear hva_ hvn_ hvc_ aV aR; clear bD bS; have HR102_4 := Zq_.mk bB; have HC102_4 := Zq_.mk bA; clear bB bA; replace bH := eq_true bH; replace bG := eq_true bG; have ea_ := Option.some.inj (aJ.symm.trans aZ)
       injection ea_ with ea_ en_ ec_
       subst ea_; subst ec_; clear en_
       go_wp2_with (first | ((with_reducible refine vq_ (b := .append) (xs := #[.tmp 20, .tmp 25]) rfl ?_); at_builtin; refine Kd.N_append k36 (w0 := w) w.heap.size rfl (.tmp 20) (.tmp 25) 22 36 (.agg #[(.int .i64 0), (.int .i64 0), (.int .i64 0), (.int .i64 0), (.slice none 0 0), (.bool false), (.int .i64 0)]) 72 rfl Try.underlying22 info36 rfl (by decide) (by omega) u5 aQ (⟨(rd_T36 l0 aA).f0, (rd_T36 l0 aA).f1, (rd_T36 l0 aA).f2, (⟨(rd_T36 l0 aA).f3.f0, (rd_T36 l0 aA).f3.f1⟩ : S34), (rd_T36 l0 aA).f4, (rd_T36 l0 aA).f5⟩ : S36) [.int .i64 ((rd_T36 l0 aA).f0), .int .i64 ((rd_T36 l0 aA).f1), .int .i64 ((rd_T36 l0 aA).f2), .int .i64 ((rd_T36 l0 aA).f3.f0), .slice bF ((rd_T36 l0 aA).f3.f1).length bE, .bool ((rd_T36 l0 aA).f4), .int .i64 ((rd_T36 l0 aA).f5)] (fun k_ => (P0_ k_ ∨ w.heap.size ≤ k_)) (fun k_ => ((fun k_ => (P0_ k_ ∨ w.heap.size ≤ k_))) k_ ∧ some k_ ≠ (u5 : Value).ownBlock) rfl rfl ?aP (fun _ hk => hk) ?aF ?aO ?aB ?aS ?aL ?_; (case aP => exact (k36_mkF _ _ (⟨(rd_T36 l0 aA).f0, (rd_T36 l0 aA).f1, (rd_T36 l0 aA).f2, (⟨(rd_T36 l0 aA).f3.f0, (rd_T36 l0 aA).f3.f1⟩ : S34), (rd_T36 l0 aA).f4, (rd_T36 l0 aA).f5⟩ : S36) (Kd.V_reads' (Kd.V_mono (ok' := (fun k_ => ((fun k_ => (P0_ k_ ∨ w.heap.size ≤ k_))) k_ ∧ some k_ ≠ (u5 : Value).ownBlock)) (aM.out) (fun k_ hk => ⟨hk.1, hk.2⟩))).2.1 (Kd.V_F (Kd.V_mono (ok' := (fun k_ => ((fun k_ => (P0_ k_ ∨ w.heap.size ≤ k_))) k_ ∧ some k_ ≠ (u5 : Value).ownBlock)) (aM.out) (fun k_ hk => ⟨hk.1, hk.2⟩))))); (case aB => exact (hB_ HB)); (case aF => exact (fun k_ hk => (.inr (Nat.le_trans (qb_ (hB_ HB)) hk)))); (case aO => exact (vX_ aW)); (case aS => exact (qb_ (hB_ HB))); (case aL => have := LMc6.out; omega); intro v104 w7 ho hb hg hat; rw [← bW.out] at ho; replace aG := Zq_.mk (Kd.vf_ (ok := (fun k_ => (P0_ k_ ∨ w.heap.size ≤ k_))) (by (with_reducible repeat (first | apply Kd.V_alloc | apply Kd.V_drewN | apply Kd.V_drew)); first | exact aG.out | exact Kd.V_mono aG.out (fun _ hk => ⟨⟨hk.1, hk.2.2⟩, hk.2.1⟩)) hg hat); replace aX := Zq_.mk (Kd.vf_ (ok := (fun k_ => (P0_ k_ ∨ w.heap.size ≤ k_))) (vX_ aX) hg hat); replace aM := Zq_.mk (Kd.vf_ (ok := (fun k_ => (P0_ k_ ∨ w.heap.size ≤ k_))) (vX_ aM) hg hat); replace HB := Zq_.mk (hb); have bY := Zq_.mk (ho); clear aW; clear ho hb hg hat))
       go_roundg k1
       case measure => have := HK1.out; omega
       case rel => exact ⟨(bU), (wrap64 (aA + 1)), eS_, H', ⟨by have := HK1.out; omega⟩, ⟨by refine vM_ ?_; exact aG.out⟩, ⟨by (with_reducible repeat (first | apply Kd.qz_ | apply Kd.qy_ | apply Kd.N_drew)); exact bY.out⟩, ⟨hB_ HB⟩⟩
      ·rw [if_neg c6] at H; exact absurd H (by simp)
    ·rw [if_neg c4] at H; exact absurd H (by simp)
   ·rw [if_neg c3] at H; have c3b0 : decide (aA < (l0.length : Int)) = false := decide_eq_false c3; clear c3; replace H := ob_ H; obtain ⟨bR, A80, H⟩ := H; (try dsimp only at H); have A8 := Zq_.mk A80; clear A80; obtain rfl := Option.some.inj H; obtain ⟨Ao9, co9, eo9⟩ := Kd.vp_ aW.out; subst eo9
    go_wp2_with (first | ((with_reducible refine qg_ (f := 23) rfl ?_); refine goesL_ (some 28) rfl rfl Try.func23 (by kernel_rfl) rfl #[.slice Ao9 aQ.length co9] rfl aR_ ?_; (with_reducible refine (ref22_Copy.calls k1 _ _ aQ bR _ ?side1 ?side2 A8.out).mono ?_); (case side1 => exact cX_ ((Kd.N_reads' aW.out).2.2)); (case side2 => exact (Kd.N_reads' aW.out).2.1); rintro e w10 ⟨v107, rfl, ho0, hb⟩; refine ⟨_, rfl, ?_⟩; replace aG := Zq_.mk (Kd.V_elder' (vX_ aG) (by first | exact Kd.N_base ho0 | exact Kd.S_base ho0) hb); have bX := Zq_.mk (Kd.vi_ (Kd.N_mono (ok' := fun k_ => (P0_ k_ ∨ w.heap.size ≤ k_) ∧ some k_ ≠ (.slice Ao9 aQ.length co9 : Value).ownBlock) (Kd.S_N (Kd.S_bound ho0)) (fun k_ hk_ => ⟨(.inr (Nat.le_trans (qb_ (hB_ HB)) hk_.2.1)), (Kd.fresh' (Kd.N_lt (vX_ aW)) k_ hk_.2.1)⟩)) (qb_ (hB_ HB))); replace aW := Zq_.mk (Kd.N_elder' (vX_ aW) (by first | exact Kd.N_base ho0 | exact Kd.S_base ho0) hb); replace HB := sB_ HB hb; (try clear hb); (try clear ho0)))
    go_ret
    exact ⟨_, by exact eW_, by (with_reducible repeat (first | apply Kd.qz_ | apply Kd.qy_ | apply Kd.N_drew)); exact Kd.N_mono bX.out (fun _ hk => hk.1), hB_ HB⟩
def watch_Down.f (l0 : List S36) : Option (List Int) := if l0.length < 17592186044416 then some ((l0.filter (fun x => !x.f4)).map (fun x => x.f0)) else none
open Go.Proofs.YtoghjpoblbdnpaaW.Hw in
theorem watch_Down.pred (w : World) : PredK Try.prog k36 40 #[] aggOf (fun x => !x.f4) w := by
 intro W x cs hb hx; obtain ⟨A4, c4, rfl, l4, g4⟩ := k36_open hx; clear hx hb l4 g4; have HB := Zq_.mk (Below.refl W.heap.size W)
 go_enter Try.func40, Try.ntmps40
 go_wp2_with (first | ((with_reducible refine qc_ (N := 1) rfl ?_); (try (refine qo_ (by rfl) ?_; dsimp only)); refine bE_ 1 #[.int .i64 x.f0, .int .i64 x.f1, .int .i64 x.f2, .int .i64 x.f3.f0, .slice A4 x.f3.f1.length c4, .bool x.f4, .int .i64 x.f5] 36 ?_; intro aP hg_ w102 hbox_ hb_; have n0_ := Zq_.mk (qe_ (hB_ HB) hb_); have GE102 := Zq_.mk ((by rw [hg_]; exact (qb_ (hB_ HB)) : W.heap.size ≤ aP)); have n1_ := Zq_.mk (hbox_); clear HB; have HB := n0_; have aA := n1_; clear n0_ n1_; clear hb_ hbox_ hg_; obtain ⟨aO, aN, aM, aL, aK, aJ, aI⟩ := c7_ aA; obtain ⟨aH, aG, aF, aE, aD, aC, aB⟩ := f7_ aA))
 go_ret
 exact ⟨by first | rfl | (simp; done) | (simp [*]; done), (hB_ HB)⟩
open Go.Proofs.YtoghjpoblbdnpaaW.Hw in
theorem watch_Down.calls (A0 : Option Addr) (c0 : Nat) (l0 : List S36) (r : List Int) (w : World) (hr0 : Kd.C k36 w A0 l0.length l0) (hc0 : l0.length ≤ c0) (h : watch_Down.f l0 = some r) :
  Calls Try.prog 17 #[.slice A0 l0.length c0] w fun e w' => ∃ v0_ : Value, e = .returned v0_ ∧ Kd.R (Kd.int .i64) 3 w' w.heap.size (fun _ => True) v0_ r ∧ Below w.heap.size w w' := by
 unfold watch_Down.f at h
 by_cases hl : l0.length < 17592186044416
 case neg => rw [if_neg hl] at h; cases h
 rw [if_pos hl] at h; obtain rfl := Option.some.inj h; clear h; have HC := Zq_.mk (watch_nodes.calls (fun x => !x.f4) 40 #[] (fun args w => by first | rfl | (simp [callFunc, Try.func40]; done)) A0 c0 l0 w (watch_Down.pred w) hr0 hl); clear hr0 hc0 hl
 go_enter Try.func17, Try.ntmps17
 go_wp2_with fail
 refine HC.out.mono ?_; rintro e w1 ⟨v1, rfl, ho, hb⟩; have HO := Zq_.mk ho; have HB := Zq_.mk hb; clear ho hb
 go_wp2_with fail
 go_ret
 exact ⟨_, rfl, HO.out, HB.out⟩
def watch_Expired.f (l0 : List S36) (a1 : Int) (a2 : Int) : Option (List Int) := if l0.length < 17592186044416 then some ((l0.filter (fun x => !x.f4 && decide (wrap64 (a1 - x.f5) ≥ a2))).map (fun x => x.f0)) else none
open Go.Proofs.YtoghjpoblbdnpaaW.Hw in
theorem watch_Expired.pred (a1 a2 : Int) (g1 g2 : Nat) (w : World) (hc1 : w.cell? ⟨g1, 0, none⟩ = some (.int .i64 a1)) (hc2 : w.cell? ⟨g2, 0, none⟩ = some (.int .i64 a2)) : PredK Try.prog k36 41 #[.pointer (some ⟨g1, 0, none⟩), .pointer (some ⟨g2, 0, none⟩)] aggOf (fun x => !x.f4 && decide (wrap64 (a1 - x.f5) ≥ a2)) w := by
 intro W x cs hb hx; have hcW1 := (hb.cell (wb_ w _ hc1)).trans hc1; have hcW2 := (hb.cell (wb_ w _ hc2)).trans hc2; obtain ⟨A4, c4, rfl, l4, g4⟩ := k36_open hx; clear hx hb l4 g4 hc1 hc2; have HB := Zq_.mk (Below.refl W.heap.size W)
 cases hal : x.f4 with
 | true =>
  go_enter Try.func41, Try.ntmps41
  go_wp2_with (first | ((with_reducible refine qc_ (N := 3) rfl ?_); (try (refine qo_ (by rfl) ?_; dsimp only)); refine bE_ 3 #[.int .i64 x.f0, .int .i64 x.f1, .int .i64 x.f2, .int .i64 x.f3.f0, .slice A4 x.f3.f1.length c4, .bool x.f4, .int .i64 x.f5] 36 ?_; intro aB hg_ aU hbox_ hb_; have n0_ := Zq_.mk (qe_ (hB_ HB) hb_); have aS := Zq_.mk ((by rw [hg_]; exact (qb_ (hB_ HB)) : W.heap.size ≤ aB)); have n1_ := Zq_.mk (hbox_); clear HB; have HB := n0_; have aA := n1_; clear n0_ n1_; clear hb_ hbox_ hg_; obtain ⟨aE, aQ, aP, aO, aN, aM, aL⟩ := c7_ aA; obtain ⟨aD, aK, aJ, aI, aH, aG, aF⟩ := f7_ aA; have hcw_ := vb_ HB.out hcW1; have hcw2_ := vb_ HB.out hcW2))
  go_ret
  exact ⟨by first | rfl | (simp; done) | (simp [*]; done), (hB_ HB)⟩
 | false =>
  go_enter Try.func41, Try.ntmps41
  go_wp2_with (first | ((with_reducible refine qc_ (N := 3) rfl ?_); (try (refine qo_ (by rfl) ?_; dsimp only)); refine bE_ 3 #[.int .i64 x.f0, .int .i64 x.f1, .int .i64 x.f2, .int .i64 x.f3.f0, .slice A4 x.f3.f1.length c4, .bool x.f4, .int .i64 x.f5] 36 ?_; intro aB hg_ aU hbox_ hb_; have n0_ := Zq_.mk (qe_ (hB_ HB) hb_); have aS := Zq_.mk ((by rw [hg_]; exact (qb_ (hB_ HB)) : W.heap.size ≤ aB)); have n1_ := Zq_.mk (hbox_); clear HB; have HB := n0_; have aA := n1_; clear n0_ n1_; clear hb_ hbox_ hg_; obtain ⟨aE, aQ, aP, aO, aN, aM, aL⟩ := c7_ aA; obtain ⟨aD, aK, aJ, aI, aH, aG, aF⟩ := f7_ aA; have hcw_ := vb_ HB.out hcW1; have hcw2_ := vb_ HB.out hcW2))
  go_ret
  exact ⟨by first | rfl | (simp; done) | (simp [*]; done), (hB_ HB)⟩
open Go.Proofs.YtoghjpoblbdnpaaW.Hw in
theorem watch_Expired.calls (A0 : Option Addr) (c0 : Nat) (l0 : List S36) (a1 : Int) (a2 : Int) (r : List Int) (w : World) (hr0 : Kd.C k36 w A0 l0.length l0) (hc0 : l0.length ≤ c0) (h : watch_Expired.f l0 a1 a2 = some r) :
  Calls Try.prog 18 #[.slice A0 l0.length c0, .int .i64 a1, .int .i64 a2] w fun e w' => ∃ v0_ : Value, e = .returned v0_ ∧ Kd.R (Kd.int .i64) 3 w' w.heap.size (fun _ => True) v0_ r ∧ Below w.heap.size w w' := by
 unfold watch_Expired.f at h
 by_cases hl : l0.length < 17592186044416
 case neg => rw [if_neg hl] at h; cases h
 rw [if_pos hl] at h; obtain rfl := Option.some.inj h; clear h; have HC := Zq_.mk (fun (W : World) (g1 g2 : Nat) (hW : Below w.heap.size w W) (hc1 : W.cell? ⟨g1, 0, none⟩ = some (.int .i64 a1)) (hc2 : W.cell? ⟨g2, 0, none⟩ = some (.int .i64 a2)) => watch_nodes.calls (fun x => !x.f4 && decide (wrap64 (a1 - x.f5) ≥ a2)) 41 #[.pointer (some ⟨g1, 0, none⟩), .pointer (some ⟨g2, 0, none⟩)] (fun args w => by first | rfl | (simp [callFunc, Try.func41]; done)) A0 c0 l0 W (watch_Expired.pred a1 a2 g1 g2 W hc1 hc2) (Kd.qi_ hr0 hW) hl); clear hr0 hc0 hl; have HB := Zq_.mk (Below.refl w.heap.size w)
 go_enter Try.func18, Try.ntmps18
 go_wp2_with (first | ((with_reducible refine qc_ (N := 4) rfl ?_); (try (refine qo_ (by rfl) ?_; dsimp only)); refine bE_ 4 #[.int .i64 a1] 3 ?_; intro aR hg_ w101 hbox_ hb_; have n0_ := Zq_.mk (qe_ (hB_ HB) hb_); have GE101 := Zq_.mk ((by rw [hg_]; exact (qb_ (hB_ HB)) : w.heap.size ≤ aR)); have n1_ := Zq_.mk (hbox_); clear HB; have HB := n0_; have aC := n1_; clear n0_ n1_; clear hb_ hbox_ hg_; have aW := cz_ aC 0 (.int .i64 a1); have aV := qf_ aC.out 0) | ((with_reducible refine qc_ (N := 5) rfl ?_); (try (refine qo_ (by rfl) ?_; dsimp only)); refine bE_ 5 #[.int .i64 a2] 3 ?_; intro aB hg_ aU hbox_ hb_; have n0_ := Zq_.mk (qe_ (hB_ HB) hb_); have aS := Zq_.mk ((by rw [hg_]; exact (qb_ (hB_ HB)) : w.heap.size ≤ aB)); have n1_ := Zq_.mk (hbox_); have aT : Zq_ (aR ≠ aB) := ⟨fun e_ => by have h1 := blk_lt (by exact bK_ aC); rw [e_, hg_] at h1; exact absurd h1 (Nat.lt_irrefl _)⟩; have m101_ := Zq_.mk (blk_bel (by exact bK_ aC) hb_); clear aC; have aC := m101_; clear m101_; clear HB; have HB := n0_; have aA := n1_; clear n0_ n1_; clear hb_ hbox_ hg_; have aE := cz_ aA 0 (.int .i64 a2); have aD := qf_ aA.out 0) | (go_at_call 37; refine (HC.out _ aR aB (hB_ HB) ((qa_ (by exact bK_ aC) 0).trans rfl) ((qa_ (by exact bK_ aA) 0).trans rfl)).mono ?_; rintro e w3 ⟨v3, rfl, ho3, hb3⟩; have HO := Zq_.mk (Kd.vj_ ho3 (qb_ (hB_ HB))); replace HB := Zq_.mk (qe_ (hB_ HB) hb3); clear hb3; clear ho3))
 go_ret
 exact ⟨_, rfl, (vX_ HO), (hB_ HB)⟩
def window_Same.f (k : Nat) (aE : Int) (aG : List Int) (aD : Int) (aF : List Int) : Option (Bool) := if aE = aD then ((slices_Equal_int_int.f k aG aF).bind fun aI => (some aI)) else (some false)
theorem window_Same.mono : ∀ a0 a1 a2 a3 k, LeO (window_Same.f k a0 a1 a2 a3) (window_Same.f (k + 1) a0 a1 a2 a3) := by
 intro a0 a1 a2 a3 k
 unfold window_Same.f
 with_reducible repeat' first | exact slices_Equal_int_int.mono _ _ _ | exact LeO.refl _ | exact LeO.none _ | refine LeO.ite ?_ ?_ | refine LeO.bind ?_ (fun _ => ?_)
theorem window_Same.calls (k : Nat) (aE : Int) (aM : Option Addr) (aK : Nat) (aG : List Int) (aD : Int) (aL : Option Addr) (aJ : Nat) (aF : List Int) (r : Bool) (w : World) (aO : Kd.C (Kd.int .i64) w aM aG.length aG) (aQ : aG.length ≤ aK) (aN : Kd.C (Kd.int .i64) w aL aF.length aF) (aP : aF.length ≤ aJ) (h : window_Same.f k aE aG aD aF = some r) :
  Calls Try.prog 46 #[.agg #[.int .i64 aE, .slice aM aG.length aK], .agg #[.int .i64 aD, .slice aL aF.length aJ]] w fun e w' => e = .returned (.bool r) ∧ Below w.heap.size w w' := by
 have hu34 := Try.underlying34; have aU := Zq_.mk aO; have aW := Zq_.mk aQ; clear aO aQ; have aT := Zq_.mk aN; have aV := Zq_.mk aP; clear aN aP; have HB := Zq_.mk (Below.refl w.heap.size w); have H : (if aE = aD then ((slices_Equal_int_int.f k aG aF).bind fun aI => (some aI)) else (some false)) = some r := h; clear h
 by_cases c3 : aE = aD
 ·rw [if_pos c3] at H; have c3b0 : (aE == aD) = true := beq_iff_eq.mpr c3; have c3b1 : (aE != aD) = false := bne_eq_false_iff_eq.mpr c3; clear c3; replace H := ob_ H; obtain ⟨aI, A40, H⟩ := H; (try dsimp only at H); have A4 := Zq_.mk A40; clear A40; obtain rfl := Option.some.inj H
  go_enter Try.func46, Try.ntmps46
  go_wp2_with (first | ((with_reducible refine qc_ (N := 2) rfl ?_); refine bE_ 2 #[.int .i64 aE, .slice aM aG.length aK] 34 ?_; intro aS hg w5 hbox hb; have aA := Zq_.mk (hbox); have aY := gW_ (w := w) hg (hB_ HB); have bA := gW_ (w := w) hg (hB_ HB); replace HB := sB_ HB hb; clear hb hbox hg) | ((with_reducible refine qc_ (N := 3) rfl ?_); refine bE_ 3 #[.int .i64 aD, .slice aL aF.length aJ] 34 ?_; intro aR hg w6 hbox hb; have aH := Zq_.mk (hbox); have aX := gW_ (w := w) hg (by exact hSet_ HB); have aZ := gW_ (w := w) hg (by exact hSet_ HB); replace HB := sB_ HB hb; have aC := nL_ aA hg; have aB := nG_ aA hg; replace aA := kB_ aA hb; clear hb hbox hg; have hnb7 := aC.out; have hnc7 := aB.out; obtain ⟨hcz8_0, hcz8_1⟩ := c2_ aA; obtain ⟨hfz8_0, hfz8_1⟩ := f2_ aA; obtain ⟨hcz9_0, hcz9_1⟩ := c2_ aH; obtain ⟨hfz9_0, hfz9_1⟩ := f2_ aH) | (go_at_call 66; (with_reducible refine (slices_Equal_int_int.calls k _ _ aG _ _ aF aI _ ?side1 ?side2 ?side3 ?side4 A4.out).mono ?_); (case side1 => exact cX_ (Kd.qi_ aU.out HB.out)); (case side2 => exact aW.out); (case side3 => exact cX_ (Kd.qi_ aT.out HB.out)); (case side4 => exact aV.out); rintro e w' ⟨rfl, ⟨nd, rfl⟩⟩))
  go_ret
  exact ⟨by exact eW_, by exact hSet_ HB⟩
 ·rw [if_neg c3] at H; have c3b0 : (aE == aD) = false := beq_eq_false_iff_ne.mpr c3; have c3b1 : (aE != aD) = true := bne_iff_ne.mpr c3; obtain rfl := Option.some.inj H
  go_enter Try.func46, Try.ntmps46
  go_wp2_with (first | ((with_reducible refine qc_ (N := 2) rfl ?_); refine bE_ 2 #[.int .i64 aE, .slice aM aG.length aK] 34 ?_; intro aS hg w10 hbox hb; have aA := Zq_.mk (hbox); have aY := gW_ (w := w) hg (hB_ HB); have bA := gW_ (w := w) hg (hB_ HB); replace HB := sB_ HB hb; clear hb hbox hg) | ((with_reducible refine qc_ (N := 3) rfl ?_); refine bE_ 3 #[.int .i64 aD, .slice aL aF.length aJ] 34 ?_; intro aR hg w11 hbox hb; have aH := Zq_.mk (hbox); have aX := gW_ (w := w) hg (by exact hSet_ HB); have aZ := gW_ (w := w) hg (by exact hSet_ HB); replace HB := sB_ HB hb; have aC := nL_ aA hg; have aB := nG_ aA hg; replace aA := kB_ aA hb; clear hb hbox hg; have hnb12 := aC.out; have hnc12 := aB.out; obtain ⟨hcz13_0, hcz13_1⟩ := c2_ aA; obtain ⟨hfz13_0, hfz13_1⟩ := f2_ aA; obtain ⟨hcz14_0, hcz14_1⟩ := c2_ aH; obtain ⟨hfz14_0, hfz14_1⟩ := f2_ aH))
  go_ret
  exact ⟨by exact eW_, by exact hSet_ HB⟩
open Go.Proofs.YtoghjpoblbdnpaaW.Hw in
theorem InsertX.end (v : Value) (l0 : List (List Value)) (gv : Nat) (base : Nat) (ok : Nat → Prop) (w : World) (hR : Kd.R (Kd.raw 7) 36 w base ok v l0) (hbase : base ≤ w.heap.size) (hlen : l0.length < 1099511627776) (hfresh : ∀ k, w.heap.size ≤ k → ok k)
  (hv : w.heap[gv]? = some (.cells #[.int .i64 0, .int .i64 0, .int .i64 0, .int .i64 0, .slice none 0 0, .bool false, .int .i64 0] 36 (0, 0))) :
  Calls Try.prog 35 #[v, .int .i64 (l0.length : Int), .slice (some ⟨gv, 0, none⟩) 1 1] w fun e w' => ∃ v', e = .returned v' ∧ Kd.R (Kd.raw 7) 36 w' base ok v' (l0 ++ [([.int .i64 0, .int .i64 0, .int .i64 0, .int .i64 0, .slice none 0 0, .bool false, .int .i64 0] : List Value)]) ∧ w.grownBy w' v.ownBlock := by
 obtain ⟨A0, c0, rfl, hlc, hC⟩ := Kd.R_reads hR; have HR := Zq_.mk hR
 have HRow : Zq_ (∀ W : World, w.grownBy W none → ReadsRow (((Kd.raw 7)).M W base (fun _ => False)) ((Kd.raw 7)).sz W (some ⟨gv, 0, none⟩) 1 [([.int .i64 0, .int .i64 0, .int .i64 0, .int .i64 0, .slice none 0 0, .bool false, .int .i64 0] : List Value)]) := ⟨fun W hW => ⟨rfl, by decide, fun _ => ⟨⟨gv, 0, none⟩, rfl, fun j p hj => by
  have hW2 : W.heap[gv]? = some (.cells #[.int .i64 0, .int .i64 0, .int .i64 0, .int .i64 0, .slice none 0 0, .bool false, .int .i64 0] 36 (0, 0)) := (hW.block gv (blk_lt hv) (by simp)).trans hv
  match j, hj with
  | 0, hj =>
   have hp : ([.int .i64 0, .int .i64 0, .int .i64 0, .int .i64 0, .slice none 0 0, .bool false, .int .i64 0] : List Value) = p := by simpa using hj
   subst hp; refine ⟨[.int .i64 0, .int .i64 0, .int .i64 0, .int .i64 0, .slice none 0 0, .bool false, .int .i64 0], rfl, (show (Kd.raw 7).M W base _ ([.int .i64 0, .int .i64 0, .int .i64 0, .int .i64 0, .slice none 0 0, .bool false, .int .i64 0] : List Value) [.int .i64 0, .int .i64 0, .int .i64 0, .int .i64 0, .slice none 0 0, .bool false, .int .i64 0] from ⟨rfl, rfl, by decide⟩), fun q u hu => ?_⟩
   have : (⟨gv, 0, none⟩ : Addr).add (0 * ((Kd.raw 7)).sz + q) = ⟨gv, q, none⟩ := by rw [Nat.zero_mul, Nat.zero_add, add_plain]
   rw [this, qa_ hW2]
   simpa using hu
  | j + 1, hj => simp at hj⟩⟩⟩
 have HL := Zq_.mk hlen; have HF := Zq_.mk hfresh; have HB := Zq_.mk hbase; have hcap : ((l0.length : Int) ≤ (c0 : Int)) = True := eq_true (by omega); have h0 : ((0 : Int) ≤ (l0.length : Int)) = True := eq_true (by omega); clear hR hbase hlen hfresh hv hC hlc
 cases A0 with
 | none =>
  go_enter Try.func35, Try.ntmps35
  go_wp2_with (first | ((with_reducible refine vq_ (b := .append) (xs := #[.tmp 23, .tmp 24]) rfl ?_); at_builtin; refine Kd.R_append_rows (Kd.raw 7) (w0 := w) base rfl (.tmp 23) (.tmp 24) 22 36 (.agg #[.int .i64 0, .int .i64 0, .int .i64 0, .int .i64 0, .slice none 0 0, .bool false, .int .i64 0]) 72 rfl Try.underlying22 info36 rfl (by decide) (by omega) _ l0 [([.int .i64 0, .int .i64 0, .int .i64 0, .int .i64 0, .slice none 0 0, .bool false, .int .i64 0] : List Value)] _ _ _ ok (fun _ => False) rfl rfl HR.out (HRow.out _ (grown_self _ _)) (fun _ _ h => h) (fun _ h => h.elim) HF.out (Below.refl _ _) HB.out (by have := HL.out; omega) ?_; intro v7 w9 ho hb hg hat; have HO := Zq_.mk ho; have HG := Zq_.mk hg; clear ho hb hg hat))
  all_goals go_ret
  all_goals exact ⟨_, rfl, HO.out, HG.out⟩
 | some ad =>
  go_enter Try.func35, Try.ntmps35
  go_wp2_with (first | ((with_reducible refine vq_ (b := .append) (xs := #[.tmp 23, .tmp 24]) rfl ?_); at_builtin; refine Kd.R_append_rows (Kd.raw 7) (w0 := w) base rfl (.tmp 23) (.tmp 24) 22 36 (.agg #[.int .i64 0, .int .i64 0, .int .i64 0, .int .i64 0, .slice none 0 0, .bool false, .int .i64 0]) 72 rfl Try.underlying22 info36 rfl (by decide) (by omega) _ l0 [([.int .i64 0, .int .i64 0, .int .i64 0, .int .i64 0, .slice none 0 0, .bool false, .int .i64 0] : List Value)] _ _ _ ok (fun _ => False) rfl rfl HR.out (HRow.out _ (grown_self _ _)) (fun _ _ h => h) (fun _ h => h.elim) HF.out (Below.refl _ _) HB.out (by have := HL.out; omega) ?_; intro v7 w9 ho hb hg hat; have HO := Zq_.mk ho; have HG := Zq_.mk hg; clear ho hb hg hat))
  all_goals go_ret
  all_goals exact ⟨_, rfl, HO.out, HG.out⟩
open Go.Proofs.YtoghjpoblbdnpaaW.Hw in
theorem InsertX.room (g n cap : Nat) (l0 : List (List Value)) (i : Nat) (gv : Nat) (base : Nat) (ok : Nat → Prop) (w : World) (hR : Kd.R (Kd.raw 7) 36 w base ok (.slice (some ⟨g, 0, none⟩) n cap) l0) (hbase : base ≤ w.heap.size) (hlen : l0.length < 1099511627776) (hi : i < n) (hcap : n + 1 ≤ cap) (hne : gv ≠ g)
  (hv : w.heap[gv]? = some (.cells #[.int .i64 0, .int .i64 0, .int .i64 0, .int .i64 0, .slice none 0 0, .bool false, .int .i64 0] 36 (0, 0))) :
  Calls Try.prog 35 #[.slice (some ⟨g, 0, none⟩) n cap, .int .i64 (i : Int), .slice (some ⟨gv, 0, none⟩) 1 1] w fun e w' => ∃ v', e = .returned v' ∧ Kd.R (Kd.raw 7) 36 w' base ok v' (l0.take i ++ [([.int .i64 0, .int .i64 0, .int .i64 0, .int .i64 0, .slice none 0 0, .bool false, .int .i64 0] : List Value)] ++ l0.drop i) ∧ w.grownBy w' (some g) := by
 obtain ⟨hn, _, _⟩ := Kd.R_reads' hR
 obtain ⟨hnc, aB⟩ : n ≤ cap ∧ cap ≤ 9223372036854775807 := by obtain ⟨_, _, _, h1, h2⟩ := Kd.R_block hR; exact ⟨h1, h2⟩
 have hz2 : ((i : Int) == (n : Int)) = false := beq_false_of_ne (by omega)
 have hw1 : IntKind.i64.wrap ((i : Int) + 1) = (i : Int) + 1 := by rw [IntKind.wrap_i64]; omega
 have hw2 : wrap64 ((i : Int) + 1) = (i : Int) + 1 := by unfold wrap64; omega
 have hw3 : wrap64 ((n : Int) + 1) = (n : Int) + 1 := by unfold wrap64; omega
 have hw4 : IntKind.i64.wrap ((n : Int) + 1) = (n : Int) + 1 := by rw [IntKind.wrap_i64]; omega
 have ht1 : ((i : Int) + 1).toNat = i + 1 := by omega
 have ht2 : ((n : Int) + 1).toNat = n + 1 := by omega
 have hb1 : (0 : Int) ≤ (i : Int) + 1 := by omega
 have hb2 : (0 : Int) ≤ (n : Int) + 1 := by omega
 have hb3 : ((n : Int) + 1 ≤ (cap : Int)) = True := eq_true (by omega); have hb4 : decide ((cap : Int) < (n : Int) + 1) = false := decide_eq_false (by omega); have hb5 : ((i : Int) ≤ (n : Int)) = True := eq_true (by omega); have hb6 : ((i : Int) ≤ (n : Int) + 1) = True := eq_true (by omega); have hb7 : ((i : Int) + 1 ≤ (n : Int) + 1) = True := eq_true (by omega); have hb8 : (cap = i) = False := eq_false (by omega); have hb9 : (cap = i + 1) = False := eq_false (by omega); have hb10 : ((n : Int) ≤ (cap : Int)) = True := eq_true (by omega); have hR0 := Kd.R_drew hR
 obtain ⟨cur, hcur, hcur3⟩ : ∃ cur : Array Value, w.drew.heap[g]? = some (.cells cur 36 (0, 0)) ∧ cur.size = cap * 7 := by obtain ⟨c, h1, h2, _, _⟩ := Kd.R_block hR0; exact ⟨c, h1, h2⟩
 obtain ⟨cs, hcl, hcc, hrep, hR2, hg2⟩ := Kd.R_shift hR0 i hi hcap; have h1c := Kd.reps_one hrep (by decide) (fun q c hp u hu => ((Kd.raw 7)).K_one (((Kd.raw 7)).K_of_M hp) u hu); have hcl3 : cs.length = (n - i) * 7 := hcl; clear hcl
 have hfitc : n * 7 + 7 ≤ cap * 7 := by omega
 have hvd : (w.drew).heap[gv]? = some (.cells #[.int .i64 0, .int .i64 0, .int .i64 0, .int .i64 0, .slice none 0 0, .bool false, .int .i64 0] 36 (0, 0)) := hv; have hw0 : w.heap[g]? = some (.cells cur 36 (0, 0)) := hcur
 have hsa : w.shape? gv = some (36, 7) := by unfold World.shape?; rw [hv]; rfl
 have hsb : w.shape? g = some (36, cur.size) := by unfold World.shape?; rw [hw0]
 have hov : ∀ lb cb, (callFunc 62 #[.slice (some ⟨gv, 0, none⟩) 1 1, .slice (some ⟨g, (i + 1) * 7, none⟩) lb cb]).run Try.prog w = .ok (.value (.bool false)) w := fun lb cb => by
  rw [run_callFunc_extern Try.func62 (by kernel_rfl) (by kernel_rfl) (by kernel_rfl) (e := Extern.SlicesOverlaps.overlaps #[22, 22] #[4]) (by kernel_rfl),
   Lib.run_overlaps_apart w 22 4 36 Try.underlying22 7 (fun _ => by kernel_rfl) ⟨gv, 0, none⟩ ⟨g, (i + 1) * 7, none⟩ 1 1 lb cb hne 36 36 7 cur.size hsa hsb (by omega) (qf_ hv 0) (qf_ hv 7)]
  rfl
 have hcp1 : ∀ ty dl dc sc, dl = n - i → (Builtin.copy_ #[22, 22] ty #[.slice (some ⟨g, (i + 1) * 7, none⟩) dl dc, .slice (some ⟨g, i * 7, none⟩) (n + 1 - i) sc]).run Try.prog w.drew = .ok (goInt (n - i : Nat)) (w.drew.setCells g ((i + 1) * 7) cs) := fun ty dl dc sc hdl =>
  run_copy_rows w.drew 22 22 ty 36 7 g ((i + 1) * 7) dl dc ⟨g, i * 7, none⟩ (n + 1 - i) sc (n - i) cur 36 cs Try.underlying22 (by kernel_rfl) hcur (by simp only [Nat.min_def]; split <;> omega) hcl3 (fun j v hj => by rw [Addr.add_lit]; exact hcc j v hj) (by omega) h1c
 obtain ⟨W1, hW1⟩ : ∃ W1, W1 = w.drew.setCells g ((i + 1) * 7) cs := ⟨_, rfl⟩
 have hR1 : Kd.R (Kd.raw 7) 36 W1 base ok (.slice (some ⟨g, 0, none⟩) (n + 1) cap) (l0.take (i + 1) ++ l0.drop i) := by rw [hW1]; exact hR2
 have hg1 : w.drew.grownBy W1 (some g) := by rw [hW1]; exact hg2
 obtain ⟨cur1, hcur1, hcur13⟩ : ∃ cur : Array Value, W1.heap[g]? = some (.cells cur 36 (0, 0)) ∧ cur.size = cap * 7 := by obtain ⟨c, h1, h2, _, _⟩ := Kd.R_block hR1; exact ⟨c, h1, h2⟩
 have hv1 : W1.heap[gv]? = some (.cells #[.int .i64 0, .int .i64 0, .int .i64 0, .int .i64 0, .slice none 0 0, .bool false, .int .i64 0] 36 (0, 0)) := by rw [hW1, setCells_far cs _ gv hne]; exact hvd
 have hcp2 : ∀ ty dc, (Builtin.copy_ #[22, 22] ty #[.slice (some ⟨g, i * 7, none⟩) (n + 1 - i) dc, .slice (some ⟨gv, 0, none⟩) 1 1]).run Try.prog W1 = .ok (goInt (1 : Nat)) (W1.setCells g (i * 7) [.int .i64 0, .int .i64 0, .int .i64 0, .int .i64 0, .slice none 0 0, .bool false, .int .i64 0]) := fun ty dc =>
  run_copy_rows W1 22 22 ty 36 7 g (i * 7) (n + 1 - i) dc ⟨gv, 0, none⟩ 1 1 1 cur1 36 [.int .i64 0, .int .i64 0, .int .i64 0, .int .i64 0, .slice none 0 0, .bool false, .int .i64 0] Try.underlying22 (by kernel_rfl) hcur1 (by simp only [Nat.min_def]; split <;> omega) rfl (fun j v hj => by rw [add_plain, qa_ hv1]; simpa using hj) (by simp only [List.length_cons, List.length_nil]; omega) (by intro q hq_; simp only [List.mem_cons, List.not_mem_nil, or_false] at hq_; rcases hq_ with rfl | rfl | rfl | rfl | rfl | rfl | rfl <;> rfl)
 have hx1 : Reps (((Kd.raw 7)).M W1 base (fun k => ok k ∧ k ≠ g)) ((Kd.raw 7)).sz [([.int .i64 0, .int .i64 0, .int .i64 0, .int .i64 0, .slice none 0 0, .bool false, .int .i64 0] : List Value)] [.int .i64 0, .int .i64 0, .int .i64 0, .int .i64 0, .slice none 0 0, .bool false, .int .i64 0] := Reps.c7 (show (Kd.raw 7).M W1 base _ ([.int .i64 0, .int .i64 0, .int .i64 0, .int .i64 0, .slice none 0 0, .bool false, .int .i64 0] : List Value) [.int .i64 0, .int .i64 0, .int .i64 0, .int .i64 0, .slice none 0 0, .bool false, .int .i64 0] from ⟨rfl, rfl, by decide⟩) (Reps.none _ _); have HFIN := Zq_.mk (Kd.R_cp hR1 i [.int .i64 0, .int .i64 0, .int .i64 0, .int .i64 0, .slice none 0 0, .bool false, .int .i64 0] [([.int .i64 0, .int .i64 0, .int .i64 0, .int .i64 0, .slice none 0 0, .bool false, .int .i64 0] : List Value)] hx1 (by simp; omega)); have HG1 := Zq_.mk hg1; rw [← hW1] at hcp1
 have HL := Zq_.mk (show (l0.take (i + 1) ++ l0.drop i).take i ++ [([.int .i64 0, .int .i64 0, .int .i64 0, .int .i64 0, .slice none 0 0, .bool false, .int .i64 0] : List Value)] ++ (l0.take (i + 1) ++ l0.drop i).drop (i + [([.int .i64 0, .int .i64 0, .int .i64 0, .int .i64 0, .slice none 0 0, .bool false, .int .i64 0] : List Value)].length) = l0.take i ++ [([.int .i64 0, .int .i64 0, .int .i64 0, .int .i64 0, .slice none 0 0, .bool false, .int .i64 0] : List Value)] ++ l0.drop i by
  have hlt : (l0.take (i + 1)).length = i + 1 := by rw [List.length_take]; omega
  rw [List.take_append_of_le_length (by omega), List.take_take, Nat.min_eq_left (by omega), List.length_singleton, List.drop_append_of_le_length (by omega), List.drop_eq_nil_of_le (by omega), List.nil_append])
 clear hn hR hR0 hR1 hR2 hg1 hg2 hrep hcc h1c hbase hlen hcur hcur1 hw0 hsa hsb hx1 hv1 hvd hv hnc aB hcl3 hcur3 hfitc hcur13 hne hi hcap hW1
 go_enter Try.func35, Try.ntmps35
 go_wp2_with (simp only [hov])
 go_region_law (refine step_copy_run rfl _ _ 22 22 rfl _ _ (by simp [Act.eval, Act.put]) (by simp [Act.eval, Act.put]) (hcp1 _ _ _ _ (by omega)) ?_)
 go_wp2_with (at_builtin; refine wpList_copy_run _ rfl _ _ 22 22 rfl _ _ rfl rfl (hcp2 _ _) ?_)
 go_ret
 have h1 := HFIN.out.1; rw [HL.out] at h1; exact ⟨_, rfl, h1, World.grownBy.trans (show w.grownBy w.drew (some g) from ⟨rfl, rfl, rfl, Nat.le_refl _, fun _ _ _ => rfl⟩) (World.grownBy.trans HG1.out HFIN.out.2)⟩
open Go.Proofs.YtoghjpoblbdnpaaW.Hw in
theorem InsertX.grow (g n cap : Nat) (l0 : List (List Value)) (i : Nat) (gv : Nat) (base : Nat) (ok : Nat → Prop) (w : World) (hR : Kd.R (Kd.raw 7) 36 w base ok (.slice (some ⟨g, 0, none⟩) n cap) l0) (hbase : base ≤ w.heap.size) (hlen : l0.length < 1099511627776) (hfresh : ∀ k, w.heap.size ≤ k → ok k) (hi : i < n) (hcap : cap < n + 1) (hne : gv ≠ g)
  (hv : w.heap[gv]? = some (.cells #[.int .i64 0, .int .i64 0, .int .i64 0, .int .i64 0, .slice none 0 0, .bool false, .int .i64 0] 36 (0, 0))) :
  Calls Try.prog 35 #[.slice (some ⟨g, 0, none⟩) n cap, .int .i64 (i : Int), .slice (some ⟨gv, 0, none⟩) 1 1] w fun e w' => ∃ v', e = .returned v' ∧ Kd.R (Kd.raw 7) 36 w' base ok v' (l0.take i ++ [([.int .i64 0, .int .i64 0, .int .i64 0, .int .i64 0, .slice none 0 0, .bool false, .int .i64 0] : List Value)] ++ l0.drop i) ∧ w.grownBy w' (some g) := by
 obtain ⟨hn, hnc0, _⟩ := Kd.R_reads' hR
 obtain ⟨hnc, aB⟩ : n ≤ cap ∧ cap ≤ 9223372036854775807 := by obtain ⟨_, _, _, h1, h2⟩ := Kd.R_block hR; exact ⟨h1, h2⟩
 have hz2 : ((i : Int) == (n : Int)) = false := beq_false_of_ne (by omega)
 have hw1 : IntKind.i64.wrap ((i : Int) + 1) = (i : Int) + 1 := by rw [IntKind.wrap_i64]; omega
 have hw2 : wrap64 ((i : Int) + 1) = (i : Int) + 1 := by unfold wrap64; omega
 have hw3 : wrap64 ((n : Int) + 1) = (n : Int) + 1 := by unfold wrap64; omega
 have hw4 : IntKind.i64.wrap ((n : Int) + 1) = (n : Int) + 1 := by rw [IntKind.wrap_i64]; omega
 have hw5 : IntKind.i64.wrap ((n : Int) + 1 - (i : Int)) = (n : Int) + 1 - (i : Int) := by rw [IntKind.wrap_i64]; omega
 have hw6 : wrap64 ((n : Int) + 1 - (i : Int)) = (n : Int) + 1 - (i : Int) := by unfold wrap64; omega
 have hm : (n : Int) + 1 - (i : Int) = ((n + 1 - i : Nat) : Int) := by omega
 have ht1 : ((i : Int) + 1).toNat = i + 1 := by omega
 have hb1 : (0 : Int) ≤ (i : Int) + 1 := by omega
 have hb3 : ((n : Int) + 1 ≤ (cap : Int)) = False := eq_false (by omega); have hb4 : decide ((cap : Int) < (n : Int) + 1) = true := decide_eq_true (by omega); have hb5 : ((i : Int) ≤ (n : Int)) = True := eq_true (by omega); have hb6 : ((i : Int) ≤ (n : Int) + 1) = True := eq_true (by omega); have hb7 : ((i : Int) + 1 ≤ (n : Int) + 1) = True := eq_true (by omega); have hb8 : (cap = i) = False := eq_false (by omega); have hb9 : ((i : Int) ≤ (cap : Int)) = True := eq_true (by omega); have hb10 : ((n : Int) ≤ (cap : Int)) = True := eq_true (by omega)
 have him : i + (n + 1 - i) = n + 1 := by omega
 have hsz3 : ((Kd.raw 7)).sz = 7 := rfl; obtain ⟨c', W1, hrun, hR1, hg1⟩ := Kd.R_zeros_grow (P := Try.prog) (Kd.raw 7) base 22 3 22 36 (.agg #[.int .i64 0, .int .i64 0, .int .i64 0, .int .i64 0, .slice none 0 0, .bool false, .int .i64 0]) 72 Try.underlying22 Try.underlying3 info36 rfl (by decide) (by omega) g i cap (l0.take i) ([.int .i64 0, .int .i64 0, .int .i64 0, .int .i64 0, .slice none 0 0, .bool false, .int .i64 0] : List Value) (show (Kd.raw 7).M w base _ ([.int .i64 0, .int .i64 0, .int .i64 0, .int .i64 0, .slice none 0 0, .bool false, .int .i64 0] : List Value) [.int .i64 0, .int .i64 0, .int .i64 0, .int .i64 0, .slice none 0 0, .bool false, .int .i64 0] from ⟨rfl, rfl, by decide⟩) hfresh (Kd.R_take hR (by omega)) .i64 (n + 1 - i) (by omega) (by rw [List.length_take]; omega) hbase (by omega); rw [him, ← hm] at hrun; rw [him] at hR1; have hcn : n + 1 ≤ c' := (Kd.R_reads' hR1).2.1
 have hc63' : c' ≤ 9223372036854775807 := by obtain ⟨_, _, _, _, h2⟩ := Kd.R_block hR1; exact h2
 have hgvl : gv < w.heap.size := blk_lt hv; have hv1 : W1.heap[gv]? = some (.cells #[.int .i64 0, .int .i64 0, .int .i64 0, .int .i64 0, .slice none 0 0, .bool false, .int .i64 0] 36 (0, 0)) := (hg1.block gv hgvl (by simp)).trans hv; have hx1 : Reps (((Kd.raw 7)).M W1 base (fun k => ok k ∧ k ≠ w.heap.size)) ((Kd.raw 7)).sz [([.int .i64 0, .int .i64 0, .int .i64 0, .int .i64 0, .slice none 0 0, .bool false, .int .i64 0] : List Value)] [.int .i64 0, .int .i64 0, .int .i64 0, .int .i64 0, .slice none 0 0, .bool false, .int .i64 0] := Reps.c7 (show (Kd.raw 7).M W1 base _ ([.int .i64 0, .int .i64 0, .int .i64 0, .int .i64 0, .slice none 0 0, .bool false, .int .i64 0] : List Value) [.int .i64 0, .int .i64 0, .int .i64 0, .int .i64 0, .slice none 0 0, .bool false, .int .i64 0] from ⟨rfl, rfl, by decide⟩) (Reps.none _ _)
 obtain ⟨cur1, hcur1, hcur13⟩ : ∃ cur : Array Value, W1.heap[w.heap.size]? = some (.cells cur 36 (0, 0)) ∧ cur.size = c' * 7 := by obtain ⟨c, h1, h2, _, _⟩ := Kd.R_block hR1; exact ⟨c, h1, h2⟩
 obtain ⟨cs, hcl, hcc, hrep, hR3, hg3, hcur⟩ := Kd.R_grow_in hR hR1 hg1 hi rfl hx1; obtain ⟨cur, hcur, hcur3⟩ : ∃ cur : Array Value, (W1.setCells w.heap.size (i * 7) [.int .i64 0, .int .i64 0, .int .i64 0, .int .i64 0, .slice none 0 0, .bool false, .int .i64 0]).drew.heap[w.heap.size]? = some (.cells cur 36 (0, 0)) ∧ cur.size = c' * 7 := hcur; have h1c := Kd.reps_one hrep (by decide) (fun q c hp u hu => ((Kd.raw 7)).K_one (((Kd.raw 7)).K_of_M hp) u hu); have hcl3 : cs.length = (n - i) * 7 := hcl; clear hcl; have aA : ∀ j u, cs[j]? = some u → (W1.setCells w.heap.size (i * 7) [.int .i64 0, .int .i64 0, .int .i64 0, .int .i64 0, .slice none 0 0, .bool false, .int .i64 0]).cell? ⟨g, i * 7 + j, none⟩ = some u := hcc; clear hcc
 have hcp1 : ∀ ty dl dc, dl = n + 1 - i → (Builtin.copy_ #[22, 22] ty #[.slice (some ⟨w.heap.size, i * 7, none⟩) dl dc, .slice (some ⟨gv, 0, none⟩) 1 1]).run Try.prog W1 = .ok (goInt (1 : Nat)) (W1.setCells w.heap.size (i * 7) [.int .i64 0, .int .i64 0, .int .i64 0, .int .i64 0, .slice none 0 0, .bool false, .int .i64 0]) := fun ty dl dc hdl =>
  run_copy_rows W1 22 22 ty 36 7 w.heap.size (i * 7) dl dc ⟨gv, 0, none⟩ 1 1 1 cur1 36 [.int .i64 0, .int .i64 0, .int .i64 0, .int .i64 0, .slice none 0 0, .bool false, .int .i64 0] Try.underlying22 (by kernel_rfl) hcur1 (by simp only [Nat.min_def]; split <;> omega) rfl (fun j v hj => by rw [add_plain, qa_ hv1]; simpa using hj) (by simp only [List.length_cons, List.length_nil]; omega) (by intro q hq_; simp only [List.mem_cons, List.not_mem_nil, or_false] at hq_; rcases hq_ with rfl | rfl | rfl | rfl | rfl | rfl | rfl <;> rfl)
 obtain ⟨W2, hW2⟩ : ∃ W2, W2 = W1.setCells w.heap.size (i * 7) [.int .i64 0, .int .i64 0, .int .i64 0, .int .i64 0, .slice none 0 0, .bool false, .int .i64 0] := ⟨_, rfl⟩; rw [← hW2] at hcp1 aA hcur
 have hcp2 : ∀ ty dl dc sl sc, dl = n - i → sl = n - i → (Builtin.copy_ #[22, 22] ty #[.slice (some ⟨w.heap.size, (i + 1) * 7, none⟩) dl dc, .slice (some ⟨g, i * 7, none⟩) sl sc]).run Try.prog W2.drew = .ok (goInt (n - i : Nat)) (W2.drew.setCells w.heap.size ((i + 1) * 7) cs) := fun ty dl dc sl sc hdl hsl =>
  run_copy_rows W2.drew 22 22 ty 36 7 w.heap.size ((i + 1) * 7) dl dc ⟨g, i * 7, none⟩ sl sc (n - i) cur 36 cs Try.underlying22 (by kernel_rfl) hcur (by simp only [Nat.min_def]; split <;> omega) hcl3 (fun j v hj => by rw [Addr.add_lit]; exact aA j v hj) (by omega) h1c
 have HR3 : Zq_ (Kd.R (Kd.raw 7) 36 (W2.drew.setCells w.heap.size ((i + 1) * 7) cs) base ok (.slice (some ⟨w.heap.size, 0, none⟩) (n + 1) c') (l0.take i ++ [([.int .i64 0, .int .i64 0, .int .i64 0, .int .i64 0, .slice none 0 0, .bool false, .int .i64 0] : List Value)] ++ l0.drop i)) := Zq_.mk (by rw [hW2]; exact hR3); have HG3 : Zq_ (w.grownBy (W2.drew.setCells w.heap.size ((i + 1) * 7) cs) none) := Zq_.mk (by rw [hW2]; exact hg3); obtain ⟨b, hb⟩ : ∃ b, b = w.heap.size := ⟨_, rfl⟩; rw [← hb] at hrun hcp1 hcp2 HR3 HG3; have hd8 : (c' = i) = False := eq_false (by omega); have hd9 : (c' = i + 1) = False := eq_false (by omega); have hd10 : ((n : Int) + 1 ≤ (c' : Int)) = True := eq_true (by omega); clear hm him hn hnc0 hR hR1 hR3 hg1 hg3 hrep aA h1c hbase hlen hcur hcur1 hx1 hv1 hv hnc aB hcl3 hcur3 hcur13 hne hi hcap hW2 hb hfresh hgvl hcn hc63' hsz3
 go_enter Try.func35, Try.ntmps35
 go_wp2_with (at_builtin; first | refine wpList_append_run _ rfl _ _ 22 3 rfl _ _ rfl rfl hrun ?_ | refine wpList_copy_run _ rfl _ _ 22 22 rfl _ _ rfl rfl (hcp1 _ _ _ (by omega)) ?_)
 go_region_law (refine step_copy_run rfl _ _ 22 22 rfl _ _ (by simp [Act.eval, Act.put]) (by simp [Act.eval, Act.put]) (hcp2 _ _ _ _ _ (by omega) (by omega)) ?_)
 go_wp2_with fail
 go_ret
 exact ⟨_, rfl, HR3.out, ⟨HG3.out.os, HG3.out.tape, HG3.out.output, HG3.out.size, fun k hk _ => HG3.out.block k hk (by simp)⟩⟩
open Go.Proofs.YtoghjpoblbdnpaaW.Hw in
theorem InsertX.calls (v : Value) (l0 : List (List Value)) (i : Nat) (hi : i ≤ l0.length) (gv : Nat) (base : Nat) (ok : Nat → Prop) (w : World) (hR : Kd.R (Kd.raw 7) 36 w base ok v l0) (hbase : base ≤ w.heap.size) (hlen : l0.length < 1099511627776) (hfresh : ∀ k, w.heap.size ≤ k → ok k) (hne : some gv ≠ v.ownBlock)
  (hv : w.heap[gv]? = some (.cells #[.int .i64 0, .int .i64 0, .int .i64 0, .int .i64 0, .slice none 0 0, .bool false, .int .i64 0] 36 (0, 0))) :
  Calls Try.prog 35 #[v, .int .i64 (i : Int), .slice (some ⟨gv, 0, none⟩) 1 1] w fun e w' => ∃ v', e = .returned v' ∧ Kd.R (Kd.raw 7) 36 w' base ok v' (l0.take i ++ [([.int .i64 0, .int .i64 0, .int .i64 0, .int .i64 0, .slice none 0 0, .bool false, .int .i64 0] : List Value)] ++ l0.drop i) ∧ w.grownBy w' v.ownBlock := by
 rcases Nat.lt_or_ge i l0.length with hlt | hge
 ·obtain ⟨g, cap, rfl⟩ : ∃ g cap, v = .slice (some ⟨g, 0, none⟩) l0.length cap := by
   obtain ⟨_, inner, ⟨_, ho2⟩, _⟩ := hR
   rcases ho2 with ⟨rfl, h0⟩ | ⟨g1, cap1, _, hx1, _⟩
   ·exact absurd h0 (by omega)
   ·exact ⟨g1, cap1, hx1⟩
  have hg : gv ≠ g := fun he => hne (by rw [he]; rfl)
  rcases Nat.lt_or_ge cap (l0.length + 1) with hc | hc
  ·exact InsertX.grow g l0.length cap l0 i gv base ok w hR hbase hlen hfresh hlt hc hg hv
  ·exact InsertX.room g l0.length cap l0 i gv base ok w hR hbase hlen hlt hc hg hv
 ·have he : i = l0.length := by omega
  subst he; rw [List.take_length, List.drop_length, List.append_nil]; exact InsertX.end v l0 gv base ok w hR hbase hlen hfresh hv
open Go.Proofs.YtoghjpoblbdnpaaW.Hw in
/-- The same over a row whose elements are only read. -/
theorem InsertX.keeps (v : Value) (l0 : List S36) (i : Nat) (hi : i ≤ l0.length) (gv : Nat) (base : Nat) (ok : Nat → Prop) (w : World) (hN : Kd.N k36 36 w base ok v l0) (hbase : base ≤ w.heap.size) (hlen : l0.length < 1099511627776) (hfresh : ∀ k, w.heap.size ≤ k → ok k) (hne : some gv ≠ v.ownBlock)
  (hv : w.heap[gv]? = some (.cells #[.int .i64 0, .int .i64 0, .int .i64 0, .int .i64 0, .slice none 0 0, .bool false, .int .i64 0] 36 (0, 0))) :
  Calls Try.prog 35 #[v, .int .i64 (i : Int), .slice (some ⟨gv, 0, none⟩) 1 1] w fun e w' => ∃ v', e = .returned v' ∧ Kd.N k36 36 w' base ok v' (l0.take i ++ [z36] ++ l0.drop i) ∧ w.grownBy w' v.ownBlock ∧ (v'.ownBlock = v.ownBlock ∨ ∃ b, v'.ownBlock = some b ∧ w.heap.size ≤ b) := by
 obtain ⟨hown, rows, hl, hR, hf⟩ := hN; refine (InsertX.calls v rows i (by omega) gv base (fun k => some k = v.ownBlock ∨ w.heap.size ≤ k) w (Kd.R_mono hR (fun k hk => .inl hk)) hbase (by omega) (fun k hk => .inr hk) hne hv).mono ?_; rintro e w' ⟨v', rfl, hR', hg⟩
 have key : ∀ (j' : Nat) (x : S36) (c : List Value), l0[j']? = some x → rows[j']? = some c → Kd.FK k36 w' (fun k => ok k ∧ some k ≠ v'.ownBlock) x c := fun j' x c hx hc =>
  Kd.FK_mono (Kd.FK_grown (Kd.FK_bound (hf j' x c hx hc)) hg (fun k hk => hk.1.2)) (fun k hk => ⟨hk.1.1, fun e_ => (hR'.1 k e_.symm).elim (fun h1 => hk.1.2 h1) (fun h2 => absurd hk.2 (Nat.not_lt.2 h2))⟩)
 refine ⟨v', rfl, ⟨fun k hk => (hR'.1 k hk).elim (fun h1 => hown k h1.symm) (fun h2 => hfresh k h2), rows.take i ++ [([.int .i64 0, .int .i64 0, .int .i64 0, .int .i64 0, .slice none 0 0, .bool false, .int .i64 0] : List Value)] ++ rows.drop i, by simp only [List.length_append, List.length_take, List.length_drop, List.length_cons, List.length_nil, hl], Kd.raw_tight hR', fun j x c hx hc => ?_⟩, hg, ?_⟩
 ·have ht1 : (l0.take i).length = i := by rw [List.length_take]; omega
  have ht2 : (rows.take i).length = i := by rw [List.length_take]; omega
  rw [List.append_assoc] at hx hc
  by_cases hj : j < i
  ·rw [List.getElem?_append_left (by omega), List.getElem?_take, if_pos hj] at hx hc; exact key j x c hx hc
  ·rw [List.getElem?_append_right (by omega)] at hx hc; rw [ht1] at hx; rw [ht2] at hc
   cases hq : j - i with
   | zero =>
    rw [hq] at hx hc
    obtain rfl : z36 = x := by simpa using hx
    obtain rfl : ([.int .i64 0, .int .i64 0, .int .i64 0, .int .i64 0, .slice none 0 0, .bool false, .int .i64 0] : List Value) = c := by simpa using hc
    exact k36_mkF w' _ z36 (A4 := none) (c4 := 0) (Nat.le_refl _) (Kd.F_nil _ _ _)
   | succ q =>
    rw [hq] at hx hc
    have hx2 : (l0.drop i)[q]? = some x := by simpa using hx
    have hc2 : (rows.drop i)[q]? = some c := by simpa using hc
    rw [List.getElem?_drop] at hx2 hc2; exact key (i + q) x c hx2 hc2
 ·cases hb : v'.ownBlock with
  | none =>
   exfalso
   have h1 := (Kd.R_form hR' (by simp only [List.length_append, List.length_cons, List.length_nil]; omega)); obtain ⟨g_, cap_, e_, _⟩ := h1; rw [e_] at hb
   simp [Value.ownBlock] at hb
  | some k =>
   rcases hR'.1 k hb with h1 | h2
   ·exact .inl h1
   ·exact .inr ⟨k, rfl, h2⟩
def watch_own.f (l0 : List S36) : Option (List S36) := if l0.length < 1954687338268 then (if l0.all (fun x => decide (x.f3.f1.length < 17592186044416)) = true then some l0 else none) else none
open Go.Proofs.YtoghjpoblbdnpaaW.Hw in
theorem watch_own.calls (P0_ : Nat → Prop) (A0 : Option Addr) (c0 : Nat) (l0 : List S36) (r : List S36) (w : World) (hs0 : Kd.V k36 36 w w.heap.size (fun k_ => P0_ k_) (.slice A0 l0.length c0) l0) (h : watch_own.f l0 = some r) :
  Calls Try.prog 25 #[.slice A0 l0.length c0] w fun e w' => ∃ v0_ : Value, e = .returned v0_ ∧ Kd.N k36 36 w' w.heap.size (fun k_ => (P0_ k_ ∨ w.heap.size ≤ k_)) v0_ r ∧ Below w.heap.size w w' := by
 unfold watch_own.f at h
 by_cases hl : l0.length < 1954687338268
 case neg => rw [if_neg hl] at h; cases h
 rw [if_pos hl] at h
 by_cases ha : l0.all (fun x => decide (x.f3.f1.length < 17592186044416)) = true
 case neg => rw [if_neg ha] at h; cases h
 rw [if_pos ha] at h; obtain rfl := Option.some.inj h; clear h; have LM := Zq_.mk hl; have LA := Zq_.mk ha; have HV := Zq_.mk hs0; clear hl ha hs0
 have hcl : api_Watch_52.f l0 = some l0 := by unfold api_Watch_52.f; rw [if_pos LM.out]
 have HCL := Zq_.mk hcl; clear hcl
 go_enter Try.func25, Try.ntmps25
 go_wp2_with (go_at_call 52; refine (api_Watch_52.calls P0_ A0 c0 l0 l0 _ HV.out HCL.out).mono ?_; rintro e w5 ⟨v5, rfl, hn, hb⟩; have HN := Zq_.mk hn; have HB := Zq_.mk hb; obtain ⟨A5, c5, rfl⟩ := Kd.vp_ hn; clear hn hb)
 go_loopg [8] (l0.length + 1) (fun kq v8 w' => ∃ i : Nat, v8 = .int .i64 (i : Int) ∧ Zq_ (i ≤ l0.length ∧ kq + i = l0.length + 1) ∧ Zq_ (Kd.N k36 36 w' w.heap.size (fun k_ => (P0_ k_ ∨ w.heap.size ≤ k_)) (.slice A5 l0.length c5) l0) ∧ Zq_ (Below w.heap.size w w'))
 case atStart => exact ⟨0, rfl, ⟨by omega, by omega⟩, HN, HB⟩
 case round =>
  clear HN HB; obtain ⟨i, rfl, HI, HN, HB⟩ := hrel
  by_cases hi : i < l0.length
  ·obtain ⟨g, cap, e5, hg0, hg1, hgc⟩ := Kd.N_form HN.out (by omega)
   injection e5 with e6 _ e7
   subst e6; subst e7; obtain ⟨c, hcl, hF, hcc, hfr⟩ := Kd.N_elem HN.out z36 (i : Int) (by omega) (by omega); obtain ⟨x, hx⟩ : ∃ x_, x_ = l0.getD ((i : Int)).toNat z36 := ⟨_, rfl⟩; rw [← hx] at hF; obtain ⟨A4, c4, rfl, l4, g4⟩ := k36_openF hF; have hx4 := hcc 4 _ rfl; have hf4 := hfr 4; simp only [show (k36).sz = 7 from rfl, Int.toNat_natCast] at hx4 hf4; have HF := Zq_.mk g4; have HCC := Zq_.mk hcc; have L4 := Zq_.mk l4; have HG := Zq_.mk (And.intro hg0 hg1); have j1 : decide ((i : Int) < (l0.length : Int)) = true := decide_eq_true (by omega); have j2 : ((i : Int) < (l0.length : Int)) = True := eq_true (by omega); have j3 : (i < l0.length) = True := eq_true hi; have j4 : decide (i < l0.length) = true := decide_eq_true hi; clear hF g4 hcc hfr l4 hg0 hg1 hgc hcl; have HX := Zq_.mk hx
   have HXM := Zq_.mk (show x.f3.f1.length < 17592186044416 from by
    have h1 := List.all_eq_true.1 LA.out x (by rw [hx, List.getD_eq_getElem?_getD, List.getElem?_eq_getElem (by omega)]; exact List.getElem_mem _)
    exact of_decide_eq_true h1)
   clear hx hi
   go_wp2_with (go_at_call 53; refine (slices_Clone_int_int.calls A4 c4 x.f3.f1 x.f3.f1 _ (Kd.F_now HF.out) L4.out (by unfold slices_Clone_int_int.f; rw [if_pos HXM.out])).mono ?_; rintro e w7 ⟨v7, rfl, ho, hb7⟩; have HO := Zq_.mk ho; have HB7 := Zq_.mk hb7; obtain ⟨A7, c7, rfl⟩ := Kd.ve_ ho; replace hf4 : w7.frozen? ⟨g, i * 7 + 3 + 1, none⟩ = false := (Kd.N_elem (Kd.va_ HN.out hb7) z36 (i : Int) (by omega) (by have := j2; simpa using this)).choose_spec.2.2.2 4; replace hx4 := (hb7.cell (wb_ _ _ hx4)).trans hx4; clear ho hb7)
   have HII := Zq_.mk (show i < l0.length from by have := j2; simpa using this); have HN7 := Zq_.mk (Kd.va_ HN.out HB7.out); obtain ⟨c9, hcl9, hF9, aA, hfr9⟩ := Kd.N_elem HN7.out z36 (i : Int) (by omega) (by have := HII.out; omega); obtain ⟨A9, d9, rfl, l9, g9⟩ := k36_openF hF9
   have hseg := Kd.N_seg HN7.out (i : Int) (by omega) (by have := HII.out; omega) (seg := [.slice A7 x.f3.f1.length c7]) (j := 4) hcl9 aA (show (4 + 1 : Nat) ≤ 7 by decide) (x' := x) (okp := fun k_ => wr.heap.size ≤ k_ ∧ some k_ = (Value.slice A7 x.f3.f1.length c7).ownBlock)
    (show Kd.FK k36 w7 _ x _ from by rw [show l0.getD ((i : Int)).toNat z36 = x from HX.out.symm]; exact k36_mkF w7 _ x (Kd.R_reads' HO.out).2.1 (Kd.F_mono (Kd.R_F (Kd.R_tight rfl HO.out)) (fun k_ hk => ⟨Kd.R_base HO.out k_ hk.symm, hk⟩)))
    (fun k_ hk => ⟨.inr (Nat.le_trans HB.out.size hk.1), Nat.ne_of_gt (Nat.lt_of_lt_of_le HG.out.2 hk.1)⟩)
   have hset : l0.set ((i : Int)).toNat x = l0 := by
    have := HII.out; rw [HX.out, Int.toNat_natCast, List.getD_eq_getElem?_getD, List.getElem?_eq_getElem this]; exact List.set_getElem_self this
   have HS := Zq_.mk (hset ▸ hseg.1); clear hseg hset hcl9 hF9 aA hfr9 l9 g9
   have hwr : wrap64 ((i : Int) + 1) = ((i + 1 : Nat) : Int) := by have := HII.out; have := LM.out; unfold wrap64; omega
   have HWR := Zq_.mk hwr; clear hwr
   go_roundg (l0.length - i)
   case measure => have := HI.out; have := HII.out; omega
   case rel => exact ⟨i + 1, by first | rfl | exact congrArg (Value.int .i64) HWR.out, ⟨by have := HII.out; omega, by have := HII.out; omega⟩, ⟨HS.out⟩, ⟨qj_ (qe_ HB.out HB7.out) (Nat.le_trans HG.out.1 (Nat.le_refl _))⟩⟩
  ·have hi2 : i = l0.length := by have := HI.out; omega
   subst hi2; clear hi
   go_wp2
   go_ret
   exact ⟨_, rfl, HN.out, HB.out⟩
/-- A gap that may not be. -/
def window_Right.odd (n : Int) : Bool := decide (n < 1) || decide (n > 1099511627776)
def window_Right.f (a0 : Int) (l0 : List Int) : Option Bool := some (decide (a0 ≥ -1) && decide (a0 ≤ 1099511627776) && decide ((l0.length : Int) ≤ 16) && !(l0.any window_Right.odd))
open Go.Proofs.YtoghjpoblbdnpaaW.Hw in
theorem window_Right.pred (w : World) : PredI Try.prog 71 #[] window_Right.odd w := by
 intro W x hb
 by_cases h1 : x < 1
 ·have e : window_Right.odd x = true := by simp [window_Right.odd, h1]
  rw [e]; have h1b : decide (x < 1) = true := decide_eq_true h1; clear h1 hb e
  go_enter Try.func71, Try.ntmps71
  go_wp2
  go_ret
  exact ⟨by first | rfl | (simp; done) | (simp [*]; done), Below.refl _ _⟩
 ·have e : window_Right.odd x = decide (1099511627776 < x) := by simp [window_Right.odd, h1]
  rw [e]; have h1b : decide (x < 1) = false := decide_eq_false h1; clear h1 hb e
  go_enter Try.func71, Try.ntmps71
  go_wp2
  go_ret
  exact ⟨by first | rfl | (simp; done) | (simp [*]; done), Below.refl _ _⟩
open Go.Proofs.YtoghjpoblbdnpaaW.Hw in
theorem window_Right.calls (a0 : Int) (A0 : Option Addr) (c0 : Nat) (l0 : List Int) (r : Bool) (w : World) (hr0 : Kd.C (Kd.int .i64) w A0 l0.length l0) (hc0 : l0.length ≤ c0) (h : window_Right.f a0 l0 = some r) :
  Calls Try.prog 60 #[.agg #[.int .i64 a0, .slice A0 l0.length c0]] w fun e w' => e = .returned (.bool r) ∧ Below w.heap.size w w' := by
 have hu27 := Try.underlying34
 unfold window_Right.f at h
 obtain rfl := Option.some.inj h; clear h; have HR := Zq_.mk hr0; clear hr0 hc0; have HB := Zq_.mk (Below.refl w.heap.size w)
 by_cases c1 : -1 ≤ a0
 case neg =>
  have c1b : decide (-1 ≤ a0) = false := decide_eq_false c1; have e : decide (a0 ≥ -1) = false := c1b; rw [e]; clear c1 e
  go_enter Try.func60, Try.ntmps60
  go_wp2_with (((with_reducible refine qc_ (N := 1) rfl ?_); (try (refine qo_ (by rfl) ?_; dsimp only)); refine bE_ 1 #[.int .i64 a0, .slice A0 l0.length c0] 34 ?_; intro aF hg w2 hbox hb; replace HB := sB_ HB hb; have aA := Zq_.mk (hbox); clear hb hbox hg; obtain ⟨aE, aD⟩ := c2_ aA; obtain ⟨aC, aB⟩ := f2_ aA))
  go_ret
  exact ⟨by first | rfl | (simp; done) | (simp [*]; done), (hB_ HB)⟩
 have c1b : decide (-1 ≤ a0) = true := decide_eq_true c1; have e : decide (a0 ≥ -1) = true := c1b; rw [e]; clear c1 e
 by_cases c2 : a0 ≤ 1099511627776
 case neg =>
  have c2b : decide (a0 ≤ 1099511627776) = false := decide_eq_false c2; rw [c2b]; clear c2
  go_enter Try.func60, Try.ntmps60
  go_wp2_with (((with_reducible refine qc_ (N := 1) rfl ?_); (try (refine qo_ (by rfl) ?_; dsimp only)); refine bE_ 1 #[.int .i64 a0, .slice A0 l0.length c0] 34 ?_; intro aF hg w2 hbox hb; replace HB := sB_ HB hb; have aA := Zq_.mk (hbox); clear hb hbox hg; obtain ⟨aE, aD⟩ := c2_ aA; obtain ⟨aC, aB⟩ := f2_ aA))
  go_ret
  exact ⟨by first | rfl | (simp; done) | (simp [*]; done), (hB_ HB)⟩
 have c2b : decide (a0 ≤ 1099511627776) = true := decide_eq_true c2; rw [c2b]; clear c2
 by_cases c3 : (l0.length : Int) ≤ 16
 case neg =>
  have c3b : decide ((l0.length : Int) ≤ 16) = false := decide_eq_false c3; have c3c : decide (l0.length ≤ 16) = false := decide_eq_false (by omega); rw [c3b]; clear c3
  go_enter Try.func60, Try.ntmps60
  go_wp2_with (((with_reducible refine qc_ (N := 1) rfl ?_); (try (refine qo_ (by rfl) ?_; dsimp only)); refine bE_ 1 #[.int .i64 a0, .slice A0 l0.length c0] 34 ?_; intro aF hg w2 hbox hb; replace HB := sB_ HB hb; have aA := Zq_.mk (hbox); clear hb hbox hg; obtain ⟨aE, aD⟩ := c2_ aA; obtain ⟨aC, aB⟩ := f2_ aA))
  go_ret
  exact ⟨by first | rfl | (simp; done) | (simp [*]; done), (hB_ HB)⟩
 have c3b : decide ((l0.length : Int) ≤ 16) = true := decide_eq_true c3; have c3c : decide (l0.length ≤ 16) = true := decide_eq_true (by omega); rw [c3b]; clear c3
 have hcall := fun (W : World) (hW : Below w.heap.size w W) => ContainsFuncI.calls window_Right.odd 71 #[] (fun args w => enters Try.prog Try.func71 (by kernel_rfl) (by kernel_rfl) args w) A0 c0 l0 W (window_Right.pred W) (Kd.qi_ HR.out hW)
 generalize hb_ : l0.any window_Right.odd = b at hcall ⊢; clear hb_; have HC := Zq_.mk hcall; clear hcall
 go_enter Try.func60, Try.ntmps60
 go_wp2_with (first | ((with_reducible refine qc_ (N := 1) rfl ?_); (try (refine qo_ (by rfl) ?_; dsimp only)); refine bE_ 1 #[.int .i64 a0, .slice A0 l0.length c0] 34 ?_; intro aF hg w2 hbox hb; replace HB := sB_ HB hb; have aA := Zq_.mk (hbox); clear hb hbox hg; obtain ⟨aE, aD⟩ := c2_ aA; obtain ⟨aC, aB⟩ := f2_ aA) | (go_at_call 72; refine (HC.out _ (hB_ HB)).mono ?_; rintro e w3 ⟨rfl, hb3⟩; have n0_ := Zq_.mk (qe_ (hB_ HB) hb3); clear HB; have HB := n0_; clear n0_ hb3))
 go_ret
 exact ⟨by first | rfl | (simp; done) | (simp [*]; done), (hB_ HB)⟩
def law22_out.f (k : Nat) (l0 : List (S36)) (a1 : Int) : Option (Bool) := (ref22_Great.f k l0).bind fun aB => (if aB = true then (some true) else ((ref22_Right.f k l0).bind fun aA => (if aA = true then (if a1 < 0 then (some true) else (some (decide (a1 > 1099511627776)))) else (some true))))
theorem law22_out.mono : ∀ a0 a1 k, LeO (law22_out.f k a0 a1) (law22_out.f (k + 1) a0 a1) := by
 intro a0 a1 k
 unfold law22_out.f
 with_reducible repeat' first | exact ref22_Great.mono _ _ | exact ref22_Right.mono _ _ | exact LeO.refl _ | exact LeO.none _ | refine LeO.ite ?_ ?_ | refine LeO.bind ?_ (fun _ => ?_)
theorem law22_out.calls (k : Nat) (A0 : Option Addr) (c0 : Nat) (l0 : List (S36)) (a1 : Int) (r : Bool) (w : World) (hr0 : Kd.C k36 w A0 l0.length l0) (hc0 : l0.length ≤ c0) (h : law22_out.f k l0 a1 = some r) :
  Calls Try.prog 9 #[.slice A0 l0.length c0, .int .i64 a1] w fun e w' => e = .returned (.bool r) ∧ Below w.heap.size w w' := by
 have HR0 := Zq_.mk hr0; have HC0 := Zq_.mk hc0; clear hr0 hc0; have HB := Zq_.mk (Below.refl w.heap.size w); have H : ((ref22_Great.f k l0).bind fun aB => (if aB = true then (some true) else ((ref22_Right.f k l0).bind fun aA => (if aA = true then (if a1 < 0 then (some true) else (some (decide (a1 > 1099511627776)))) else (some true))))) = some r := h; clear h; replace H := ob_ H; obtain ⟨aB, A30, H⟩ := H; (try dsimp only at H); have A3 := Zq_.mk A30; clear A30
 by_cases c4 : aB = true
 ·subst c4
  rw [if_pos rfl] at H; obtain rfl := Option.some.inj H
  go_enter Try.func9, Try.ntmps9
  go_wp2_with (first | ((with_reducible refine qg_ (f := 20) rfl ?_); refine goesL_ (some 6) rfl rfl Try.func20 (by kernel_rfl) rfl #[.slice A0 l0.length c0] rfl aR_ ?_; (with_reducible refine (ref22_Great.calls k _ _ l0 true _ ?side1 ?side2 A3.out).mono ?_); (case side1 => exact cX_ HR0.out); (case side2 => exact HC0.out); rintro e w' ⟨rfl, ⟨nd, rfl⟩⟩; refine ⟨_, rfl, ?_⟩))
  go_ret
  exact ⟨by exact eW_, hB_ HB⟩
 ·replace c4 := Bool.eq_false_iff.mpr c4; subst c4
  have H1 : ((ref22_Right.f k l0).bind fun aA => (if aA = true then (if a1 < 0 then (some true) else (some (decide (a1 > 1099511627776)))) else (some true))) = some r := by rw [if_neg (show ¬ (false = true) by decide)] at H; exact H
  clear H; have H := H1; clear H1; replace H := ob_ H; obtain ⟨aA, A50, H⟩ := H; (try dsimp only at H); have A5 := Zq_.mk A50; clear A50
  by_cases c6 : aA = true
  ·subst c6
   rw [if_pos rfl] at H
   by_cases c7 : a1 < 0
   ·rw [if_pos c7] at H; have c7b0 : decide (a1 < 0) = true := decide_eq_true c7; clear c7; obtain rfl := Option.some.inj H
    go_enter Try.func9, Try.ntmps9
    go_wp2_with (first | ((with_reducible refine qg_ (f := 20) rfl ?_); refine goesL_ (some 6) rfl rfl Try.func20 (by kernel_rfl) rfl #[.slice A0 l0.length c0] rfl aR_ ?_; (with_reducible refine (ref22_Great.calls k _ _ l0 false _ ?side1 ?side2 A3.out).mono ?_); (case side1 => exact cX_ HR0.out); (case side2 => exact HC0.out); rintro e w' ⟨rfl, ⟨nd, rfl⟩⟩; refine ⟨_, rfl, ?_⟩) | (go_at_call 21; (with_reducible refine (ref22_Right.calls k _ _ l0 true _ ?side1 ?side2 A5.out).mono ?_); (case side1 => exact cX_ HR0.out); (case side2 => exact HC0.out); rintro e w8 ⟨rfl, hb⟩; replace HB := sB_ HB hb; (try clear hb)))
    go_ret
    exact ⟨by exact eW_, hB_ HB⟩
   ·rw [if_neg c7] at H; have c7b0 : decide (a1 < 0) = false := decide_eq_false c7; clear c7; obtain rfl := Option.some.inj H
    go_enter Try.func9, Try.ntmps9
    go_wp2_with (first | ((with_reducible refine qg_ (f := 20) rfl ?_); refine goesL_ (some 6) rfl rfl Try.func20 (by kernel_rfl) rfl #[.slice A0 l0.length c0] rfl aR_ ?_; (with_reducible refine (ref22_Great.calls k _ _ l0 false _ ?side1 ?side2 A3.out).mono ?_); (case side1 => exact cX_ HR0.out); (case side2 => exact HC0.out); rintro e w' ⟨rfl, ⟨nd, rfl⟩⟩; refine ⟨_, rfl, ?_⟩) | (go_at_call 21; (with_reducible refine (ref22_Right.calls k _ _ l0 true _ ?side1 ?side2 A5.out).mono ?_); (case side1 => exact cX_ HR0.out); (case side2 => exact HC0.out); rintro e w9 ⟨rfl, hb⟩; replace HB := sB_ HB hb; (try clear hb)))
    go_ret
    exact ⟨by exact eW_, hB_ HB⟩
  ·replace c6 := Bool.eq_false_iff.mpr c6; subst c6
   have H1 : (some true) = some r := by rw [if_neg (show ¬ (false = true) by decide)] at H; exact H
   clear H; have H := H1; clear H1; obtain rfl := Option.some.inj H
   go_enter Try.func9, Try.ntmps9
   go_wp2_with (first | ((with_reducible refine qg_ (f := 20) rfl ?_); refine goesL_ (some 6) rfl rfl Try.func20 (by kernel_rfl) rfl #[.slice A0 l0.length c0] rfl aR_ ?_; (with_reducible refine (ref22_Great.calls k _ _ l0 false _ ?side1 ?side2 A3.out).mono ?_); (case side1 => exact cX_ HR0.out); (case side2 => exact HC0.out); rintro e w' ⟨rfl, ⟨nd, rfl⟩⟩; refine ⟨_, rfl, ?_⟩) | (go_at_call 21; (with_reducible refine (ref22_Right.calls k _ _ l0 false _ ?side1 ?side2 A5.out).mono ?_); (case side1 => exact cX_ HR0.out); (case side2 => exact HC0.out); rintro e w10 ⟨rfl, hb⟩; replace HB := sB_ HB hb; (try clear hb)))
   go_ret
   exact ⟨by exact eW_, hB_ HB⟩
mutual
def ref09_Mean.l0 : Nat → List Int → Int → Int → Int → Option (Int)
 | 0, _, _, _, _ => none
 | k + 1, x0, x4, aF, aE => if x4 < (x0.length : Int) then (if 0 ≤ x4 then ((ref09_Add.f aF aE 0 (mn (mx (rd x0 x4) 0) 1125899906842624)).bind fun aM => (ref09_Mean.l0 k x0 (wrap64 (x4 + 1)) aM.1 aM.2)) else (none)) else (if (x0.length : Int) = 0 then (some 0) else (ref09_Mean.l1 k x0 0 50 aF aE))
def ref09_Mean.l1 : Nat → List Int → Int → Int → Int → Int → Option (Int)
 | 0, _, _, _, _, _ => none
 | k + 1, x0, x5, x6, aF, aE => if x6 ≥ 0 then (if 0 ≤ (IntKind.u64.wrap (x6)) then ((ref09_Mul.f k (x0.length : Int) (wrap64 (x5 + (shl .i64 1 (IntKind.u64.wrap (x6)))))).bind fun aL => ((ref09_Below.f aF aE aL.1 aL.2).bind fun aO => (if aO = true then (ref09_Mean.l1 k x0 x5 (wrap64 (x6 - 1)) aF aE) else (ref09_Mean.l1 k x0 (wrap64 (x5 + (shl .i64 1 (IntKind.u64.wrap (x6))))) (wrap64 (x6 - 1)) aF aE)))) else (none)) else (some x5)
end
def ref09_Mean.f (k : Nat) (l0 : List Int) : Option (Int) := ref09_Mean.l0 k l0 0 0 0
theorem ref09_Mean.mono_l : ∀ k, (∀ y0 y1 y2 y3, LeO (ref09_Mean.l0 k y0 y1 y2 y3) (ref09_Mean.l0 (k + 1) y0 y1 y2 y3)) ∧ (∀ y0 y1 y2 y3 y4, LeO (ref09_Mean.l1 k y0 y1 y2 y3 y4) (ref09_Mean.l1 (k + 1) y0 y1 y2 y3 y4))
 | 0 => ⟨fun _ _ _ _ r h => by simp [ref09_Mean.l0] at h, fun _ _ _ _ _ r h => by simp [ref09_Mean.l1] at h⟩
 | k + 1 => by
  obtain ⟨ih0, ih1⟩ := ref09_Mean.mono_l k; refine ⟨?_, ?_⟩
  ·intro y0 y1 y2 y3
   unfold ref09_Mean.l0
   with_reducible repeat' first | exact ih0 _ _ _ _ | exact ih1 _ _ _ _ _ | exact ref09_Mul.mono _ _ _ | exact LeO.refl _ | exact LeO.none _ | refine LeO.ite ?_ ?_ | refine LeO.bind ?_ (fun _ => ?_)
  ·intro y0 y1 y2 y3 y4
   unfold ref09_Mean.l1
   with_reducible repeat' first | exact ih0 _ _ _ _ | exact ih1 _ _ _ _ _ | exact ref09_Mul.mono _ _ _ | exact LeO.refl _ | exact LeO.none _ | refine LeO.ite ?_ ?_ | refine LeO.bind ?_ (fun _ => ?_)
theorem ref09_Mean.mono : ∀ a0 k, LeO (ref09_Mean.f k a0) (ref09_Mean.f (k + 1) a0) := by
 intro a0 k; obtain ⟨ih0, ih1⟩ := ref09_Mean.mono_l k
 unfold ref09_Mean.f
 with_reducible repeat' first | exact ih0 _ _ _ _ | exact ih1 _ _ _ _ _ | exact ref09_Mul.mono _ _ _ | exact LeO.refl _ | exact LeO.none _ | refine LeO.ite ?_ ?_ | refine LeO.bind ?_ (fun _ => ?_)
def ref09_Mean.T5 : Bool × List (List Nat × List Nat) := (true, [([], []), ([], []), ([], []), ([1, 2], [1, 2]), ([3], [3]), ([4], [4]), ([5], [5]), ([6], [6]), ([7], [7]), ([0, 8], [0, 8]), ([9, 9, 0, 1, 2, 3, 4, 5, 6, 7, 8, 9], [9])])
def ref09_Mean.B5 : List Nat := [0, 0, 0, 6, 14, 30, 62, 126, 254, 511, 1023]
theorem ref09_Mean.tab5 : rtab .any (opsOf Try.f57 5) = ref09_Mean.T5 := by kernel_rfl
theorem ref09_Mean.bits5 : waitsOk ref09_Mean.T5.2 ref09_Mean.B5 = true := by kernel_rfl
theorem ref09_Mean.calls (k : Nat) (A0 : Option Addr) (c0 : Nat) (l0 : List Int) (r : Int) (w : World) (hr0 : Kd.C (Kd.int .i64) w A0 l0.length l0) (hc0 : l0.length ≤ c0) (h : ref09_Mean.f k l0 = some r) :
  Calls Try.prog 57 #[.slice A0 l0.length c0] w fun e w' => e = .returned (.int .i64 r) ∧ Below w.heap.size w w' := by
 have hu81 := Try.underlying81; have HR0 := Zq_.mk hr0; have HC0 := Zq_.mk hc0; clear hr0 hc0; have HB := Zq_.mk (Below.refl w.heap.size w); have H : (ref09_Mean.l0 k l0 0 0 0) = some r := h; clear h; have H' := Zq_.mk H; clear H
 go_enter Try.func57, Try.ntmps57
 go_wp2_with (first | ((with_reducible refine qc_ (N := 3) rfl ?_); refine bE_ 3 #[.int .u64 0, .int .u64 0] 81 ?_; intro aQ hg w2 hbox hb; have aC := Zq_.mk (hbox); have GW101 := gW_ (w := w) hg (hB_ HB); have GE101 := gW_ (w := w) hg (hB_ HB); replace HB := sB_ HB hb; clear hb hbox hg; obtain ⟨aX, aW⟩ := c2_ aC; obtain ⟨aV, aU⟩ := f2_ aC))
 go_loopg [4] k (fun kq v4 w' => ∃ (aD : Int) (aB : Int) (aA : Int), v4 = .int .i64 aD ∧ Zq_ (ref09_Mean.l0 kq l0 aD aB aA = some r) ∧ Zq_ (kq ≤ k) ∧ Zq_ (w'.heap[aQ]? = some (.cells #[.int .u64 aB, .int .u64 aA] 81 (0, 0))) ∧ Zq_ (Below w.heap.size w w'))
 case atStart => exact ⟨(0), (0), (0), eS_, H', ⟨Nat.le_refl _⟩, ⟨by exact bW2_ (bK_ aC)⟩, ⟨by exact hSet_ HB⟩⟩
 case round =>
  clear H'
  try clear p2
  try clear aX
  try clear aW
  try clear aV
  try clear aU
  obtain ⟨aD, aB, aA, rfl, HA, HK1, aC, HB⟩ := hrel
  cases gk with
  | zero => exact absurd HA.out (by simp [ref09_Mean.l0])
  | succ k1 =>
   have H := HA.out; clear HA; simp only [ref09_Mean.l0] at H
   by_cases c4 : aD < (l0.length : Int)
   ·rw [if_pos c4] at H; have bH : decide (aD < (l0.length : Int)) = true := decide_eq_true c4; clear c4
    by_cases c5 : 0 ≤ aD
    ·rw [if_pos c5] at H; have c5b0 : decide (0 ≤ aD) = true := decide_eq_true c5; clear c5; obtain ⟨ji6, bB⟩ : ∃ j_ : Int, (mx (rd l0 aD) 0) = j_ := ⟨_, rfl⟩
     replace H : ((ref09_Add.f aB aA 0 (mn (ji6) 1125899906842624)).bind fun aM => (ref09_Mean.l0 k1 l0 (wrap64 (aD + 1)) aM.1 aM.2)) = some r := by first | (rw [bB] at H; exact H) | (simp only [bB] at H ⊢; exact H)
     have hji6_ : (if (rd l0 aD) < 0 then 0 else (rd l0 aD)) = ji6 := bB; obtain ⟨ji7, bA⟩ : ∃ j_ : Int, (mn (ji6) 1125899906842624) = j_ := ⟨_, rfl⟩
     replace H : ((ref09_Add.f aB aA 0 (ji7)).bind fun aM => (ref09_Mean.l0 k1 l0 (wrap64 (aD + 1)) aM.1 aM.2)) = some r := by first | (rw [bA] at H; exact H) | (simp only [bA] at H ⊢; exact H)
     have hji7_ : (if 1125899906842624 < (ji6) then 1125899906842624 else (ji6)) = ji7 := bA; replace H := ob_ H; obtain ⟨⟨bG, bF⟩, A80, H⟩ := H; (try dsimp only at H); have A8 := Zq_.mk A80; clear A80; have H' := Zq_.mk H; clear H; (try go_wp2); replace aC := Zq_.mk (qh_ aC.out); replace HB := Zq_.mk (qu_ HB.out); have aZ : 0 ≤ (aD : Int) := dA_; have aY : aD < (l0.length : Int) := dA_; obtain ⟨ad102, e102, aK⟩ := Kd.at_int HR0.out aD aZ aY; have aP := aK; cases e102; replace aK := hC_ HB aK; replace aZ := eq_true aZ; replace aY := eq_true aY; refine gD_ 11 [10] (hA_ (b0_ aC) (hA_ (b1_ aC) (hZ_ (hC_ HB aP)))) (fun hHeld => ?_); refine vn_ ref09_Mean.tab5 ref09_Mean.bits5 (fun HT_ HW_ => ?_); generalize wr.drew = w9 at aC HB aK hHeld ⊢; refine pQ_ 1 HT_ ?_; refine pQ_ 2 HT_ ?_; refine pQ_ 3 HT_ ?_; refine tL_ 0 HT_ HW_ hHeld ?_; refine up0_ 4 ?_; (iterate 5 first | refine pN_ ?_ | refine tN_ ?_); refine oN_ 9 24 11 1023 HT_ (fun K hK => ?_); refine goes_ Try.func70 (by kernel_rfl) rfl #[.agg #[.int .u64 aB, .int .u64 aA], .agg #[.int .u64 0, .int .u64 ji7]] (by rfl) rfl rfl (by (try simp only [List.map_toArray, List.map_cons, List.map_nil]); first | done | (rw [show IntKind.u64.wrap ji7 = ji7 by rw [← bA, ← bB, IntKind.wrap_u64]; unfold mn mx; (repeat' split) <;> omega]; rfl) | rfl | (simp only [List.length_drop, List.length_take]; rfl)) ?_
     with_reducible refine (ref09_Add.calls aB aA 0 ji7 bG bF _ A8.out).mono ?_
     rintro e w10 ⟨rfl, hb⟩; refine ⟨_, rfl, ?_⟩; replace aC := kB_ aC hb; replace HB := sB_ HB hb; (try clear hb); refine hK.out _ _ ⟨b0_ aC, b1_ aC, (hC_ HB aP)⟩ (fun hHeld => ?_); clear hK K; refine norm_ (a' := ?_) ?_ ?_; rotate_left
     ·show Act.put _ (some 24) _ = _
      simp only [Act.put, sa_, sb_, sc_, i64_w, i32_w]; rfl
     refine last_ (i := 10) (N := none) (bz_ 11 2047) rfl rfl (one_of HT_.out (by kernel_rfl)) (by decide) (fun K hK => ?_); have hs11 : w10.cell? ⟨aQ, 0, none⟩ = some (.int .u64 aB) := (qa_ aC.out 0).trans rfl; have hfs11 := qf_ aC.out 0; have hs12 : w10.cell? ⟨aQ, 1, none⟩ = some (.int .u64 aA) := (qa_ aC.out 1).trans rfl; have hfs12 := qf_ aC.out 1; refine skip_ (w1 := ?_) (by rfl) rfl ?_ ?_; rotate_left; (focus go_simp; rfl); refine hK.out _ _ ?_; clear hK K; refine dN_ HT_ ?_; (try go_wp2)
     go_roundg k1
     case measure => have := HK1.out; omega
     case rel => exact ⟨(wrap64 (aD + 1)), (bG), (bF), eS_, H', ⟨by have := HK1.out; omega⟩, ⟨by exact bW2_ (bK_ aC)⟩, ⟨by exact hSet_ HB⟩⟩
    ·rw [if_neg c5] at H; exact absurd H (by simp)
   ·rw [if_neg c4] at H; have bH : decide (aD < (l0.length : Int)) = false := decide_eq_false c4; clear c4
    by_cases c13 : (l0.length : Int) = 0
    ·rw [if_pos c13] at H; have bE : ((l0.length : Int) == 0) = true := beq_iff_eq.mpr c13; have bD : ((l0.length : Int) != 0) = false := bne_eq_false_iff_eq.mpr c13; clear c13; obtain rfl := Option.some.inj H
     go_wp2
     go_ret
     exact ⟨by exact eW_, by exact hSet_ HB⟩
    ·rw [if_neg c13] at H; have bE : ((l0.length : Int) == 0) = false := beq_eq_false_iff_ne.mpr c13; have bD : ((l0.length : Int) != 0) = true := bne_iff_ne.mpr c13
     have bJ : ¬ (l0 = []) := fun h_ => c13 (by rw [h_]; rfl)
     have H' := Zq_.mk H; clear H
     go_wp2
     go_loopg [5, 6] k1 (fun kq v5 v6 w' => ∃ (aG : Int) (aI : Int), v5 = .int .i64 aG ∧ v6 = .int .i64 aI ∧ Zq_ (ref09_Mean.l1 kq l0 aG aI aB aA = some r) ∧ Zq_ (kq ≤ k1) ∧ Zq_ (w'.heap[aQ]? = some (.cells #[.int .u64 aB, .int .u64 aA] 81 (0, 0))) ∧ Zq_ (Below w.heap.size w w'))
     case atStart => exact ⟨(0), (50), eS_, eS_, H', ⟨Nat.le_refl _⟩, ⟨by (with_reducible repeat (first | refine qk_ ?_ _ | refine qh_ ?_ | refine ql_ ?_ _)); exact aC.out⟩, ⟨by exact hSet_ HB⟩⟩
     case round =>
      clear H'
      try clear c1
      try clear p1
      try clear q1
      try clear hx1
      try clear p2
      try clear c4
      try clear bH
      try clear c5
      try clear c5b0
      try clear p6
      try clear c7
      try clear p10
      try clear q10
      try clear hx10
      try clear c13
      try clear bE
      try clear bD
      try clear bJ
      try clear aX
      try clear aW
      try clear aV
      try clear aU
      try clear aK
      try clear aZ
      try clear p2
      try clear aY
      obtain ⟨aG, aI, rfl, rfl, HA, HK2, aC, HB⟩ := hrel
      cases gk with
      | zero => exact absurd HA.out (by simp [ref09_Mean.l1])
      | succ k2 =>
       have H := HA.out; clear HA; simp only [ref09_Mean.l1] at H
       by_cases c14 : aI ≥ 0
       ·rw [if_pos c14] at H; have bI : decide (0 ≤ aI) = true := decide_eq_true c14; clear c14; obtain ⟨aH, bC⟩ : ∃ j_ : Int, (IntKind.u64.wrap (aI)) = j_ := ⟨_, rfl⟩
        replace H : (if 0 ≤ (aH) then ((ref09_Mul.f k2 (l0.length : Int) (wrap64 (aG + (shl .i64 1 (aH))))).bind fun aL => ((ref09_Below.f aB aA aL.1 aL.2).bind fun aO => (if aO = true then (ref09_Mean.l1 k2 l0 aG (wrap64 (aI - 1)) aB aA) else (ref09_Mean.l1 k2 l0 (wrap64 (aG + (shl .i64 1 (aH)))) (wrap64 (aI - 1)) aB aA)))) else (none)) = some r := by first | (rw [bC] at H; exact H) | (simp only [bC] at H ⊢; exact H)
        by_cases c16 : 0 ≤ (aH)
        ·rw [if_pos c16] at H; have c16b0 := eq_true c16; have c16b1 : decide (0 ≤ (aH)) = true := decide_eq_true c16; clear c16; obtain ⟨aJ, aN⟩ : ∃ j_ : Int, (shl .i64 1 (aH)) = j_ := ⟨_, rfl⟩
         replace H : ((ref09_Mul.f k2 (l0.length : Int) (wrap64 (aG + (aJ)))).bind fun aL => ((ref09_Below.f aB aA aL.1 aL.2).bind fun aO => (if aO = true then (ref09_Mean.l1 k2 l0 aG (wrap64 (aI - 1)) aB aA) else (ref09_Mean.l1 k2 l0 (wrap64 (aG + (aJ))) (wrap64 (aI - 1)) aB aA)))) = some r := by first | (rw [aN] at H; exact H) | (simp only [aN] at H ⊢; exact H)
         have aT : (IntKind.i64.wrap (1 * 2 ^ min (aH).toNat 64)) = aJ := aN; have hji17z : (aH) ≤ 64 → (IntKind.i64.wrap (1 * 2 ^ (aH).toNat)) = aJ := shl_small aN
         have hji17u : (IntKind.i64.wrap (2 ^ min (aH).toNat 64)) = aJ := by have h_ := aT; rw [Int.one_mul] at h_; exact h_
         have hji17v : (aH) ≤ 64 → (IntKind.i64.wrap (2 ^ (aH).toNat)) = aJ := fun hle_ => by have h_ := hji17z hle_; rw [Int.one_mul] at h_; exact h_
         have hji17y : (wrap64 (1 * 2 ^ min (aH).toNat 64)) = aJ := (i64_w _).symm.trans aT
         have hji17x : (aH) ≤ 64 → (wrap64 (1 * 2 ^ (aH).toNat)) = aJ := fun h_ => (i64_w _).symm.trans (hji17z h_)
         replace H := ob_ H; obtain ⟨⟨aS, aR⟩, bL, H⟩ := H; (try dsimp only at H); have A18 := Zq_.mk bL; clear bL; replace H := ob_ H; obtain ⟨aO, bK, H⟩ := H; (try dsimp only at H); have A19 := Zq_.mk bK; clear bK
         by_cases c20 : aO = true
         ·subst c20
          rw [if_pos rfl] at H; have H' := Zq_.mk H; clear H; (try go_wp2); replace aC := Zq_.mk (qh_ aC.out); replace HB := Zq_.mk (qu_ HB.out); refine gS_ 7 (hA_ (b0_ aC) (hZ_ (b1_ aC))) (fun hHeld => ?_); generalize wr.drew = w21 at aC HB hHeld ⊢; refine pure_ (i := 1) (N := some 38) (v := ?_) (a' := ?_) (bz_ 7 2) rfl rfl (by kernel_rfl) (fun _ _ _ h => h) (Or.inl ⟨by rfl, ?_⟩) ?_ ?_; rotate_left; (focus intro w'; go_simp; (with_reducible rfl)); rotate_left; (focus simp only [Act.put, sa_, sb_, sc_, i64_w, i32_w]; rfl); refine pure_ (i := 2) (N := some 39) (v := ?_) (a' := ?_) (bz_ 7 6) rfl rfl (by kernel_rfl) (fun _ _ _ h => h) (Or.inl ⟨by rfl, ?_⟩) ?_ ?_; rotate_left; (focus intro w'; go_simp; (with_reducible rfl)); rotate_left; (focus simp only [Act.put, sa_, sb_, sc_, i64_w, i32_w]; rfl); refine pure_ (i := 3) (N := some 40) (v := ?_) (a' := ?_) (bz_ 7 14) rfl rfl (by kernel_rfl) (fun _ _ _ h => h) (Or.inl ⟨by rfl, ?_⟩) ?_ ?_; rotate_left; (focus intro w'; go_simp; (with_reducible rfl)); rotate_left; (focus simp only [Act.put, sa_, sb_, sc_, i64_w, i32_w]; rfl); refine take_ (i := 0) (N := some 37) (v := ?_) (a' := ?_) (bz_ 7 15) rfl rfl (by kernel_rfl) (fun _ _ _ h => h) (Or.inl ⟨by rfl, ?_⟩) hHeld ?_ ?_; rotate_left; (focus rintro w' ⟨s0, s1⟩; go_simp; (with_reducible rfl)); rotate_left; (focus simp only [Act.put, sa_, sb_, sc_, i64_w, i32_w]; rfl); refine one_ (i := 4) (N := some 41) (bz_ 7 31) rfl rfl (by kernel_rfl) (by decide) (fun K hK => ?_); refine goes_ Try.func55 (by kernel_rfl) rfl #[.int .i64 (l0.length : Int), .int .i64 (wrap64 (aG + (aJ)))] (by rfl) rfl rfl (by (try simp only [List.map_toArray, List.map_cons, List.map_nil]); first | done | (simp only [aN]; rfl) | rfl | (simp only [List.length_drop, List.length_take]; rfl)) ?_
          with_reducible refine (ref09_Mul.calls k2 (l0.length : Int) (wrap64 (aG + (aJ))) aS aR _ A18.out).mono ?_
          rintro e w22 ⟨rfl, hb⟩; refine ⟨_, rfl, ?_⟩; replace aC := kB_ aC hb; replace HB := sB_ HB hb; (try clear hb); refine hK.out _ _ (c2_ aC) (fun hHeld => ?_); clear hK K; refine norm_ (a' := ?_) ?_ ?_; rotate_left
          ·show Act.put _ (some 41) _ = _
           simp only [Act.put, sa_, sb_, sc_, i64_w, i32_w]; rfl
          refine one_ (i := 5) (N := some 42) (bz_ 7 63) rfl rfl (by kernel_rfl) (by decide) (fun K hK => ?_); refine goes_ Try.func56 (by kernel_rfl) rfl #[.agg #[.int .u64 aB, .int .u64 aA], .agg #[.int .u64 aS, .int .u64 aR]] (by rfl) rfl rfl aR_ ?_
          with_reducible refine (ref09_Below.calls aB aA aS aR true _ A19.out).mono ?_
          rintro e w23 ⟨rfl, hb⟩; refine ⟨_, rfl, ?_⟩; replace aC := kB_ aC hb; replace HB := sB_ HB hb; (try clear hb); refine hK.out _ _ (c2_ aC) (fun hHeld => ?_); clear hK K; refine norm_ (a' := ?_) ?_ ?_; rotate_left
          ·show Act.put _ (some 42) _ = _
           simp only [Act.put, sa_, sb_, sc_, i64_w, i32_w]; rfl
          refine pure_ (i := 6) (N := some 43) (v := ?_) (a' := ?_) (bz_ 7 127) rfl rfl (by kernel_rfl) (fun _ _ _ h => h) (Or.inl ⟨by rfl, ?_⟩) ?_ ?_; rotate_left; (focus intro w'; go_simp; (with_reducible rfl)); rotate_left; (focus simp only [Act.put, sa_, sb_, sc_, i64_w, i32_w]; rfl); refine done_ (by kernel_rfl) ?_; (try go_wp2)
          go_roundg k2
          case measure => have := HK1.out; have := HK2.out; omega
          case rel => exact ⟨(aG), (wrap64 (aI - 1)), eS_, eS_, H', ⟨by have := HK1.out; have := HK2.out; omega⟩, ⟨by (with_reducible repeat (first | refine qk_ ?_ _ | refine qh_ ?_ | refine ql_ ?_ _)); exact aC.out⟩, ⟨by exact hSet_ HB⟩⟩
         ·replace c20 := Bool.eq_false_iff.mpr c20; subst c20
          have H1 : (ref09_Mean.l1 k2 l0 (wrap64 (aG + (aJ))) (wrap64 (aI - 1)) aB aA) = some r := by rw [if_neg (show ¬ (false = true) by decide)] at H; exact H
          clear H; have H := H1; clear H1; have H' := Zq_.mk H; clear H; (try go_wp2); replace aC := Zq_.mk (qh_ aC.out); replace HB := Zq_.mk (qu_ HB.out); refine gS_ 7 (hA_ (b0_ aC) (hZ_ (b1_ aC))) (fun hHeld => ?_); generalize wr.drew = w24 at aC HB hHeld ⊢; refine pure_ (i := 1) (N := some 38) (v := ?_) (a' := ?_) (bz_ 7 2) rfl rfl (by kernel_rfl) (fun _ _ _ h => h) (Or.inl ⟨by rfl, ?_⟩) ?_ ?_; rotate_left; (focus intro w'; go_simp; (with_reducible rfl)); rotate_left; (focus simp only [Act.put, sa_, sb_, sc_, i64_w, i32_w]; rfl); refine pure_ (i := 2) (N := some 39) (v := ?_) (a' := ?_) (bz_ 7 6) rfl rfl (by kernel_rfl) (fun _ _ _ h => h) (Or.inl ⟨by rfl, ?_⟩) ?_ ?_; rotate_left; (focus intro w'; go_simp; (with_reducible rfl)); rotate_left; (focus simp only [Act.put, sa_, sb_, sc_, i64_w, i32_w]; rfl); refine pure_ (i := 3) (N := some 40) (v := ?_) (a' := ?_) (bz_ 7 14) rfl rfl (by kernel_rfl) (fun _ _ _ h => h) (Or.inl ⟨by rfl, ?_⟩) ?_ ?_; rotate_left; (focus intro w'; go_simp; (with_reducible rfl)); rotate_left; (focus simp only [Act.put, sa_, sb_, sc_, i64_w, i32_w]; rfl); refine take_ (i := 0) (N := some 37) (v := ?_) (a' := ?_) (bz_ 7 15) rfl rfl (by kernel_rfl) (fun _ _ _ h => h) (Or.inl ⟨by rfl, ?_⟩) hHeld ?_ ?_; rotate_left; (focus rintro w' ⟨s0, s1⟩; go_simp; (with_reducible rfl)); rotate_left; (focus simp only [Act.put, sa_, sb_, sc_, i64_w, i32_w]; rfl); refine one_ (i := 4) (N := some 41) (bz_ 7 31) rfl rfl (by kernel_rfl) (by decide) (fun K hK => ?_); refine goes_ Try.func55 (by kernel_rfl) rfl #[.int .i64 (l0.length : Int), .int .i64 (wrap64 (aG + (aJ)))] (by rfl) rfl rfl (by (try simp only [List.map_toArray, List.map_cons, List.map_nil]); first | done | (simp only [aN]; rfl) | rfl | (simp only [List.length_drop, List.length_take]; rfl)) ?_
          with_reducible refine (ref09_Mul.calls k2 (l0.length : Int) (wrap64 (aG + (aJ))) aS aR _ A18.out).mono ?_
          rintro e w25 ⟨rfl, hb⟩; refine ⟨_, rfl, ?_⟩; replace aC := kB_ aC hb; replace HB := sB_ HB hb; (try clear hb); refine hK.out _ _ (c2_ aC) (fun hHeld => ?_); clear hK K; refine norm_ (a' := ?_) ?_ ?_; rotate_left
          ·show Act.put _ (some 41) _ = _
           simp only [Act.put, sa_, sb_, sc_, i64_w, i32_w]; rfl
          refine one_ (i := 5) (N := some 42) (bz_ 7 63) rfl rfl (by kernel_rfl) (by decide) (fun K hK => ?_); refine goes_ Try.func56 (by kernel_rfl) rfl #[.agg #[.int .u64 aB, .int .u64 aA], .agg #[.int .u64 aS, .int .u64 aR]] (by rfl) rfl rfl aR_ ?_
          with_reducible refine (ref09_Below.calls aB aA aS aR false _ A19.out).mono ?_
          rintro e w26 ⟨rfl, hb⟩; refine ⟨_, rfl, ?_⟩; replace aC := kB_ aC hb; replace HB := sB_ HB hb; (try clear hb); refine hK.out _ _ (c2_ aC) (fun hHeld => ?_); clear hK K; refine norm_ (a' := ?_) ?_ ?_; rotate_left
          ·show Act.put _ (some 42) _ = _
           simp only [Act.put, sa_, sb_, sc_, i64_w, i32_w]; rfl
          refine pure_ (i := 6) (N := some 43) (v := ?_) (a' := ?_) (bz_ 7 127) rfl rfl (by kernel_rfl) (fun _ _ _ h => h) (Or.inl ⟨by rfl, ?_⟩) ?_ ?_; rotate_left; (focus intro w'; go_simp; (with_reducible rfl)); rotate_left; (focus simp only [Act.put, sa_, sb_, sc_, i64_w, i32_w]; rfl); refine done_ (by kernel_rfl) ?_; (try go_wp2)
          go_roundg k2
          case measure => have := HK1.out; have := HK2.out; omega
          case rel => exact ⟨(wrap64 (aG + (aJ))), (wrap64 (aI - 1)), (by first | rfl | (simp; done) | (simp only [← aN] <;> (first | rfl | simp)) | (simp [*]; done)), eS_, H', ⟨by have := HK1.out; have := HK2.out; omega⟩, ⟨by (with_reducible repeat (first | refine qk_ ?_ _ | refine qh_ ?_ | refine ql_ ?_ _)); exact aC.out⟩, ⟨by exact hSet_ HB⟩⟩
        ·rw [if_neg c16] at H; exact absurd H (by simp)
       ·rw [if_neg c14] at H; have bI : decide (0 ≤ aI) = false := decide_eq_false c14; clear c14; obtain rfl := Option.some.inj H
        go_wp2
        go_ret
        exact ⟨by exact eW_, by exact hSet_ HB⟩
end Go.Proofs.Ytoghjpoblbdnpaa.P

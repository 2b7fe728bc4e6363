/- What printed functions come to, and that the machine's calls do it. No condition. -/
import Derived.Test.YtoghjpoblbdnpaaP0
import Derived.Test.YtoghjpoblbdnpaaHw
import Derived.Test.YtoghjpoblbdnpaaPApiWatch44
namespace Go.Proofs.Ytoghjpoblbdnpaa.P
set_option maxHeartbeats 16000000
set_option maxRecDepth 100000
open Go.RowKit Go.Proofs.YtoghjpoblbdnpaaW.PrintWords Go.Proofs.YtoghjpoblbdnpaaW.PrintLast Go.Proofs.YtoghjpoblbdnpaaW.PrintMore
attribute [local go_sem] qt_ qr_ qx_ qw_ qn_ qm_ qs_ qq_ Go.Proofs.YtoghjpoblbdnpaaW.Hw.string_gtr
set_option linter.unusedVariables false
set_option linter.unusedSimpArgs false
def ref22_Copy.l0 : Nat → List (S36) → List (S36) → Int → Option ((List (S36)))
 | 0, _, _, _ => none
 | k + 1, x0, x3, x4 => if x4 < (x0.length : Int) then (if 0 ≤ x4 then ((some (([] : List Int) : List Int)).bind fun aM => (if aM.length + ((rd_T36 x0 x4).f3.f1).length < 17592186044416 then (if x3.length < 1954687338268 then (ref22_Copy.l0 k x0 (x3 ++ [(⟨(rd_T36 x0 x4).f0, (rd_T36 x0 x4).f1, (rd_T36 x0 x4).f2, (⟨(rd_T36 x0 x4).f3.f0, (aM ++ ((rd_T36 x0 x4).f3.f1))⟩ : S34), (rd_T36 x0 x4).f4, (rd_T36 x0 x4).f5⟩ : S36)]) (wrap64 (x4 + 1))) else (none)) else (none))) else (none)) else (some x3)
def ref22_Copy.f (k : Nat) (l0 : List (S36)) : Option ((List (S36))) := ref22_Copy.l0 k l0 ([] : List (S36)) 0
theorem ref22_Copy.mono_l : ∀ k, (∀ y0 y1 y2, LeO (ref22_Copy.l0 k y0 y1 y2) (ref22_Copy.l0 (k + 1) y0 y1 y2))
 | 0 => fun _ _ _ r h => by simp [ref22_Copy.l0] at h
 | k + 1 => by
  have ih0 := ref22_Copy.mono_l k
  ·intro y0 y1 y2
   unfold ref22_Copy.l0
   with_reducible repeat' first | exact ih0 _ _ _ | exact LeO.refl _ | exact LeO.none _ | refine LeO.ite ?_ ?_ | refine LeO.bind ?_ (fun _ => ?_)
theorem ref22_Copy.mono : ∀ a0 k, LeO (ref22_Copy.f k a0) (ref22_Copy.f (k + 1) a0) := by
 intro a0 k; have ih0 := ref22_Copy.mono_l k
 unfold ref22_Copy.f
 with_reducible repeat' first | exact ih0 _ _ _ | exact LeO.refl _ | exact LeO.none _ | refine LeO.ite ?_ ?_ | refine LeO.bind ?_ (fun _ => ?_)
theorem ref22_Copy.calls (k : Nat) (A0 : Option Addr) (c0 : Nat) (l0 : List (S36)) (r : List (S36)) (w : World) (hr0 : Kd.C k36 w A0 l0.length l0) (hc0 : l0.length ≤ c0) (h : ref22_Copy.f k l0 = some r) :
  Calls Try.prog 23 #[.slice A0 l0.length c0] w fun e w' => ∃ v0_ : Value, e = .returned (v0_) ∧ Kd.S k36 36 w' w.heap.size (fun _ => True) v0_ r ∧ Below w.heap.size w w' := by
 have hu36 := Try.underlying36; have HR0 := Zq_.mk hr0; have HC0 := Zq_.mk hc0; clear hr0 hc0; have HB := Zq_.mk (Below.refl w.heap.size w); have H : (ref22_Copy.l0 k l0 ([] : List (S36)) 0) = some r := h; clear h; have H' := Zq_.mk H; clear H
 go_enter Try.func23, Try.ntmps23
 go_wp2
 go_loopg [3, 4] k (fun kq v3 v4 w' => ∃ (aH : List (S36)) (aA : Int), v4 = .int .i64 aA ∧ Zq_ (ref22_Copy.l0 kq l0 aH aA = some r) ∧ Zq_ (kq ≤ k) ∧ Zq_ (Kd.S k36 36 w' w.heap.size (fun _ => True) v3 aH) ∧ Zq_ (Below w.heap.size w w'))
 case atStart => exact ⟨(([] : List (S36))), (0), eS_, H', ⟨Nat.le_refl _⟩, ⟨by first | exact Kd.S_nil _ _ _ _ _ | exact Kd.N_nil _ _ _ _ _ | exact Kd.V_nil _ _ _ _ _ | exact Kd.Q_nil _ _ _ _ _ | exact Kd.R_nil _ _ _ _ _⟩, ⟨hB_ HB⟩⟩
 case round =>
  clear H'; obtain ⟨aH, aA, rfl, HA, HK1, aE, HB⟩ := hrel
  cases gk with
  | zero => exact absurd HA.out (by simp [ref22_Copy.l0])
  | succ k1 =>
   have H := HA.out; clear HA; simp only [ref22_Copy.l0] at H
   by_cases c2 : aA < (l0.length : Int)
   ·rw [if_pos c2] at H; have c2b0 : decide (aA < (l0.length : Int)) = true := decide_eq_true c2; clear c2
    by_cases c3 : 0 ≤ aA
    ·rw [if_pos c3] at H; have c3b0 : decide (0 ≤ aA) = true := decide_eq_true c3; clear c3; obtain ⟨aM, bE⟩ : ∃ y_ : List Int, y_ = (([] : List Int)) := ⟨_, rfl⟩
     replace H : (if aM.length + ((rd_T36 l0 aA).f3.f1).length < 17592186044416 then (if aH.length < 1954687338268 then (ref22_Copy.l0 k1 l0 (aH ++ [(⟨(rd_T36 l0 aA).f0, (rd_T36 l0 aA).f1, (rd_T36 l0 aA).f2, (⟨(rd_T36 l0 aA).f3.f0, (aM ++ ((rd_T36 l0 aA).f3.f1))⟩ : S34), (rd_T36 l0 aA).f4, (rd_T36 l0 aA).f5⟩ : S36)]) (wrap64 (aA + 1))) else (none)) else (none)) = some r := hY_ bE H
     have bH := Zq_.mk bE; clear bE
     by_cases c4 : aM.length + ((rd_T36 l0 aA).f3.f1).length < 17592186044416
     ·rw [if_pos c4] at H; have LMc4 := Zq_.mk c4; clear c4; obtain ⟨aG, bD⟩ : ∃ y_ : List Int, y_ = (aM ++ ((rd_T36 l0 aA).f3.f1)) := ⟨_, rfl⟩
      replace H : (if aH.length < 1954687338268 then (ref22_Copy.l0 k1 l0 (aH ++ [(⟨(rd_T36 l0 aA).f0, (rd_T36 l0 aA).f1, (rd_T36 l0 aA).f2, (⟨(rd_T36 l0 aA).f3.f0, aG⟩ : S34), (rd_T36 l0 aA).f4, (rd_T36 l0 aA).f5⟩ : S36)]) (wrap64 (aA + 1))) else (none)) = some r := hY_ bD H
      have bM := Zq_.mk bD; clear bD
      by_cases c5 : aH.length < 1954687338268
      ·rw [if_pos c5] at H; have LMc5 := Zq_.mk c5; clear c5; obtain ⟨bK, bC⟩ : ∃ y_ : List (S36), y_ = (aH ++ [(⟨(rd_T36 l0 aA).f0, (rd_T36 l0 aA).f1, (rd_T36 l0 aA).f2, (⟨(rd_T36 l0 aA).f3.f0, aG⟩ : S34), (rd_T36 l0 aA).f4, (rd_T36 l0 aA).f5⟩ : S36)]) := ⟨_, rfl⟩
       replace H : (ref22_Copy.l0 k1 l0 bK (wrap64 (aA + 1))) = some r := hY_ bC H
       have bL := Zq_.mk bC; clear bC; have H' := Zq_.mk H; clear H; have bJ : 0 ≤ (aA : Int) := dA_; have bI : aA < (l0.length : Int) := dA_; obtain ⟨ad101, aK, aI, e101, aZ, aY, aX, aW, aV, aU, aT, bA, bB⟩ := at_T36 HR0.out aA bJ bI; cases e101; replace aZ := hC_ HB aZ; replace aY := hC_ HB aY; replace aX := hC_ HB aX; replace aW := hC_ HB aW; replace aV := hC_ HB aV; replace aU := hC_ HB aU; replace aT := hC_ HB aT; have bG := Zq_.mk bB; have HC101_4 := Zq_.mk bA; clear bB bA; replace bJ := eq_true bJ; replace bI := eq_true bI
       go_wp2_with (first | ((with_reducible refine qc_ (N := 5) rfl ?_); refine bE_ 5 #[.int .i64 0, .int .i64 0, .int .i64 0, .int .i64 0, .slice none 0 0, .bool false, .int .i64 0] 36 ?_; intro aD hg w6 hbox hb; replace aE := Zq_.mk (Kd.S_below (Kd.S_elderB (vX_ aE) aD (Nat.le_of_eq hg.symm)) hb); have aC := Zq_.mk (hbox); have GW102 := gW_ (w := w) hg (hB_ HB); have GE102 := gW_ (w := w) hg (hB_ HB); replace HB := sB_ HB hb; clear hb hbox hg; obtain ⟨hcz7_0, hcz7_1, hcz7_2, hcz7_3, hcz7_4, hcz7_5, hcz7_6⟩ := c7_ aC; obtain ⟨hfz7_0, hfz7_1, hfz7_2, hfz7_3, hfz7_4, hfz7_5, hfz7_6⟩ := f7_ aC) | ((with_reducible refine qc_ (N := 16) rfl ?_); refine Kd.R_lit (Kd.int .i64) _ 3 ?hg (N := 16) ?hd (xs := ([] : List Int)) (inner := []) (ok := fun _ => True) (okp := fun _ => True) ?hr ?hp (fun _ hk => hk) trivial (Below.refl _ _) (Nat.le_refl _) (by simp) ?_; (case hd => rfl); (case hg => rfl); (case hr => first | (go_simp; done) | (go_simp; rfl)); (case hp => exact (Reps.none _ _)); intro v104 w8 ho9 hb hg_ hnew_; clear hg_ hnew_; (first | rw [← bH.out] at ho9 | (simp only [Int.reduceToNat] at ho9; rw [← bH.out] at ho9)); replace aE := Zq_.mk (Kd.S_elder' (by (with_reducible repeat (first | apply Kd.S_alloc | apply Kd.S_drewN | apply Kd.S_drew)); exact (Kd.S_mono (Kd.S_far (Kd.S_far (Kd.S_far (Kd.S_far (Kd.S_far (Kd.S_far (Kd.S_far (Kd.S_mono aE.out (fun k_ hk => (⟨hk, hk.2⟩ : _ ∧ k_ ≠ aD))) (fun _ hk => hk.2) _) (fun _ hk => hk.2) _) (fun _ hk => hk.2) _) (fun _ hk => hk.2) _) (fun _ hk => hk.2) _) (fun _ hk => hk.2) _) (fun _ hk => hk.2) _) (fun _ h_ => h_.1))) (Kd.R_base ho9) hb); have bF := Zq_.mk (Kd.vj_ ho9 (qb_ (by exact hSet_ HB))); replace aC := Zq_.mk (blk_below (g := aD) (o := .cells #[.int .i64 ((rd_T36 l0 aA).f0), .int .i64 ((rd_T36 l0 aA).f1), .int .i64 ((rd_T36 l0 aA).f2), .int .i64 ((rd_T36 l0 aA).f3.f0), .slice aK ((rd_T36 l0 aA).f3.f1).length aI, .bool ((rd_T36 l0 aA).f4), .int .i64 ((rd_T36 l0 aA).f5)] 36 (0, 0)) (by refine bP_ (cs := #[.int .i64 ((rd_T36 l0 aA).f0), .int .i64 ((rd_T36 l0 aA).f1), .int .i64 ((rd_T36 l0 aA).f2), .int .i64 ((rd_T36 l0 aA).f3.f0), .slice aK ((rd_T36 l0 aA).f3.f1).length aI, .bool ((rd_T36 l0 aA).f4), .int .i64 0]) 6 ?_; refine bP_ (cs := #[.int .i64 ((rd_T36 l0 aA).f0), .int .i64 ((rd_T36 l0 aA).f1), .int .i64 ((rd_T36 l0 aA).f2), .int .i64 ((rd_T36 l0 aA).f3.f0), .slice aK ((rd_T36 l0 aA).f3.f1).length aI, .bool false, .int .i64 0]) 5 ?_; refine bP_ (cs := #[.int .i64 ((rd_T36 l0 aA).f0), .int .i64 ((rd_T36 l0 aA).f1), .int .i64 ((rd_T36 l0 aA).f2), .int .i64 ((rd_T36 l0 aA).f3.f0), .slice none 0 0, .bool false, .int .i64 0]) 4 ?_; refine bP_ (cs := #[.int .i64 ((rd_T36 l0 aA).f0), .int .i64 ((rd_T36 l0 aA).f1), .int .i64 ((rd_T36 l0 aA).f2), .int .i64 0, .slice none 0 0, .bool false, .int .i64 0]) 3 ?_; refine bP_ (cs := #[.int .i64 ((rd_T36 l0 aA).f0), .int .i64 ((rd_T36 l0 aA).f1), .int .i64 0, .int .i64 0, .slice none 0 0, .bool false, .int .i64 0]) 2 ?_; refine bP_ (cs := #[.int .i64 ((rd_T36 l0 aA).f0), .int .i64 0, .int .i64 0, .int .i64 0, .slice none 0 0, .bool false, .int .i64 0]) 1 ?_; refine bP_ (cs := #[.int .i64 0, .int .i64 0, .int .i64 0, .int .i64 0, .slice none 0 0, .bool false, .int .i64 0]) 0 ?_; exact bK_ aC) hb); replace HB := sB_ HB hb; clear hb ho9; obtain ⟨hcz10_0, hcz10_1, hcz10_2, hcz10_3, hcz10_4, hcz10_5, hcz10_6⟩ := c7_ aC; obtain ⟨hfz10_0, hfz10_1, hfz10_2, hfz10_3, hfz10_4, hfz10_5, hfz10_6⟩ := f7_ aC) | ((with_reducible refine vq_ (b := .append) (xs := #[.tmp 16, .tmp 19]) rfl ?_); at_builtin; refine Kd.R_append_rows (Kd.int .i64) (w0 := w) w.heap.size rfl (.tmp 16) (.tmp 19) 27 3 (.int .i64 0) 8 rfl Try.underlying27 info3 rfl (by decide) (by omega) v104 aM ((rd_T36 l0 aA).f3.f1) _ _ _ (fun _ => True) (fun _ => False) rfl rfl ?aO ?aR (fun _ _ h => h) (fun _ h => h.elim) ?aF ?aB ?aS ?aL ?_; (case aR => exact cX_ (Kd.qi_ bG.out HB.out)); (case aB => exact (by exact hSet_ HB)); (case aF => exact (fun _ _ => trivial)); (case aO => exact (vX_ bF)); (case aS => exact (qb_ (by exact hSet_ HB))); (case aL => have := LMc4.out; omega); intro v107 w11 ho hb hg hat; rw [← bM.out] at ho; replace aE := Zq_.mk (Kd.S_after (ok := (fun k_ => k_ ≠ aD)) (by (with_reducible repeat (first | apply Kd.S_alloc | apply Kd.S_drewN | apply Kd.S_drew)); exact Kd.S_mono aE.out (fun _ hk => ⟨hk.1.2, hk.2⟩)) hg hat); replace aC := Zq_.mk (vl_ (g := aD) (o := .cells #[.int .i64 ((rd_T36 l0 aA).f0), .int .i64 ((rd_T36 l0 aA).f1), .int .i64 ((rd_T36 l0 aA).f2), .int .i64 ((rd_T36 l0 aA).f3.f0), .slice aK ((rd_T36 l0 aA).f3.f1).length aI, .bool ((rd_T36 l0 aA).f4), .int .i64 ((rd_T36 l0 aA).f5)] 36 (0, 0)) (by exact bK_ aC) hg (Kd.R_ne bF.out aC.out (by decide))); replace HB := Zq_.mk (hb); have aJ := Zq_.mk (ho); clear bF; clear ho hb hg hat; obtain ⟨aQ, aN, eo12⟩ := Kd.ve_ aJ.out; subst eo12; obtain ⟨hcz13_0, hcz13_1, hcz13_2, hcz13_3, hcz13_4, hcz13_5, hcz13_6⟩ := c7_ aC; obtain ⟨hfz13_0, hfz13_1, hfz13_2, hfz13_3, hfz13_4, hfz13_5, hfz13_6⟩ := f7_ aC) | ((with_reducible refine gate_store (t := 27) (p := 22) rfl ?_); refine store_event (t := 27) (p := 22) (v := ?vo_w14) (w1 := (w11.setCell ⟨aD, 4, none⟩ (.slice aQ aG.length aN))) ?hg ?ho ?hn ?hr ?_; (case ho => rfl); (case hg => rfl); (case hn => rfl); (case hr => first | (go_simp; done) | (go_simp; rfl)); intro w14 hw; have n0_ : Zq_ (Kd.S k36 36 w14 w.heap.size (fun k_ => some k_ ≠ (.slice aQ aG.length aN : Value).ownBlock ∧ k_ ≠ aD) u3 aH) := ⟨(by rw [hw]; exact (by (with_reducible repeat (first | apply Kd.S_alloc | apply Kd.S_drewN | apply Kd.S_drew)); exact Kd.S_mono (Kd.S_far (Kd.S_mono aE.out (fun k_ hk => (⟨hk, hk.1⟩ : _ ∧ k_ ≠ aD))) (fun _ hk => hk.2) _) (fun _ hk => ⟨hk.1.2, hk.1.1⟩)))⟩; have n1_ : Zq_ (Kd.R (Kd.int .i64) 3 w14 w.heap.size (fun _ => True) (.slice aQ aG.length aN) aG) := ⟨(by rw [hw]; exact (by (with_reducible repeat (first | apply Kd.vd_ | apply Kd.vc_ | apply Kd.R_drew)); exact Kd.R_mono (Kd.R_far (Kd.R_types aJ.out aC.out (by decide)) (fun _ hk => hk.2) _) (fun _ hk => trivial)))⟩; have n2_ : Zq_ (w14.heap[aD]? = some (.cells #[.int .i64 ((rd_T36 l0 aA).f0), .int .i64 ((rd_T36 l0 aA).f1), .int .i64 ((rd_T36 l0 aA).f2), .int .i64 ((rd_T36 l0 aA).f3.f0), .slice aQ aG.length aN, .bool ((rd_T36 l0 aA).f4), .int .i64 ((rd_T36 l0 aA).f5)] 36 (0, 0))) := ⟨(by rw [hw]; exact (by refine bP_ (cs := #[.int .i64 ((rd_T36 l0 aA).f0), .int .i64 ((rd_T36 l0 aA).f1), .int .i64 ((rd_T36 l0 aA).f2), .int .i64 ((rd_T36 l0 aA).f3.f0), .slice aK ((rd_T36 l0 aA).f3.f1).length aI, .bool ((rd_T36 l0 aA).f4), .int .i64 ((rd_T36 l0 aA).f5)]) 4 ?_; exact bK_ aC))⟩; have n3_ : Zq_ (Below w.heap.size w w14) := ⟨(by rw [hw]; exact (by exact hSet_ HB))⟩; clear hw; clear aE; clear aJ; clear aC; clear HB; have aE := n0_; have aJ := n1_; have aC := n2_; have HB := n3_; clear n0_ n1_ n2_ n3_; obtain ⟨hcz15_0, hcz15_1, hcz15_2, hcz15_3, hcz15_4, hcz15_5, hcz15_6⟩ := c7_ aC; obtain ⟨hfz15_0, hfz15_1, hfz15_2, hfz15_3, hfz15_4, hfz15_5, hfz15_6⟩ := f7_ aC) | ((with_reducible refine vq_ (b := .append) (xs := #[.tmp 23, .tmp 25]) rfl ?_); at_builtin; refine Kd.S_append k36 (w0 := w) w.heap.size rfl (.tmp 23) (.tmp 25) 22 36 (.agg #[(.int .i64 0), (.int .i64 0), (.int .i64 0), (.int .i64 0), (.slice none 0 0), (.bool false), (.int .i64 0)]) 72 rfl Try.underlying22 info36 rfl (by decide) (by omega) u3 aH (⟨(rd_T36 l0 aA).f0, (rd_T36 l0 aA).f1, (rd_T36 l0 aA).f2, (⟨(rd_T36 l0 aA).f3.f0, aG⟩ : S34), (rd_T36 l0 aA).f4, (rd_T36 l0 aA).f5⟩ : S36) [.int .i64 ((rd_T36 l0 aA).f0), .int .i64 ((rd_T36 l0 aA).f1), .int .i64 ((rd_T36 l0 aA).f2), .int .i64 ((rd_T36 l0 aA).f3.f0), .slice aQ aG.length aN, .bool ((rd_T36 l0 aA).f4), .int .i64 ((rd_T36 l0 aA).f5)] (fun k_ => k_ ≠ aD) (fun k_ => some k_ = (.slice aQ aG.length aN : Value).ownBlock) rfl rfl ?aP (fun k_ hk_ => ((Kd.R_mono (ok' := fun k_ => ((fun k_ => k_ ≠ aD)) k_ ∧ some k_ ≠ (u3 : Value).ownBlock) (Kd.R_types (Kd.R_apart' (aJ.out) (Kd.S_typed aE.out) (by decide)) aC.out (by decide)) (fun k_ hk => ⟨hk.2, hk.1.2⟩))).1 k_ hk_.symm) ?aF ?aO ?aB ?aS ?aL ?_; (case aP => exact k36_mkM _ _ _ (⟨(rd_T36 l0 aA).f0, (rd_T36 l0 aA).f1, (rd_T36 l0 aA).f2, (⟨(rd_T36 l0 aA).f3.f0, aG⟩ : S34), (rd_T36 l0 aA).f4, (rd_T36 l0 aA).f5⟩ : S36) (Kd.R_mono (Kd.R_tight rfl (Kd.R_mono (ok' := fun k_ => ((fun k_ => k_ ≠ aD)) k_ ∧ some k_ ≠ (u3 : Value).ownBlock) (Kd.R_types (Kd.R_apart' (aJ.out) (Kd.S_typed aE.out) (by decide)) aC.out (by decide)) (fun k_ hk => ⟨hk.2, hk.1.2⟩))) (fun _ h_ => h_))); (case aB => exact (by exact hSet_ HB)); (case aF => exact (fun k_ hk => Kd.freshB (g := aD) (o := .cells #[.int .i64 ((rd_T36 l0 aA).f0), .int .i64 ((rd_T36 l0 aA).f1), .int .i64 ((rd_T36 l0 aA).f2), .int .i64 ((rd_T36 l0 aA).f3.f0), .slice aQ aG.length aN, .bool ((rd_T36 l0 aA).f4), .int .i64 ((rd_T36 l0 aA).f5)] 36 (0, 0)) (by exact bK_ aC) k_ hk)); (case aO => exact (by (with_reducible repeat (first | apply Kd.S_alloc | apply Kd.S_drewN | apply Kd.S_drew)); exact Kd.S_mono aE.out (fun k_ hk => ⟨hk.2, fun e_ => hk.1 e_⟩))); (case aS => exact (qb_ (by exact hSet_ HB))); (case aL => have := LMc5.out; omega); intro v110 w16 ho hb hg hat; rw [← bL.out] at ho; replace aC := Zq_.mk (vl_ (g := aD) (o := .cells #[.int .i64 ((rd_T36 l0 aA).f0), .int .i64 ((rd_T36 l0 aA).f1), .int .i64 ((rd_T36 l0 aA).f2), .int .i64 ((rd_T36 l0 aA).f3.f0), .slice aQ aG.length aN, .bool ((rd_T36 l0 aA).f4), .int .i64 ((rd_T36 l0 aA).f5)] 36 (0, 0)) (by exact bK_ aC) hg (Kd.S_away aE.out (fun _ hk => hk.2))); replace HB := Zq_.mk (hb); have bN := Zq_.mk (ho); clear aE aJ; clear ho hb hg hat))
       go_roundg k1
       case measure => have := HK1.out; omega
       case rel => exact ⟨(bK), (wrap64 (aA + 1)), eS_, H', ⟨by have := HK1.out; omega⟩, ⟨by (with_reducible repeat (first | apply Kd.S_alloc | apply Kd.S_drewN | apply Kd.S_drew)); exact Kd.S_mono bN.out (fun _ hk => trivial)⟩, ⟨by exact hSet_ HB⟩⟩
      ·rw [if_neg c5] at H; exact absurd H (by simp)
     ·rw [if_neg c4] at H; exact absurd H (by simp)
    ·rw [if_neg c3] at H; exact absurd H (by simp)
   ·rw [if_neg c2] at H; have c2b0 : decide (aA < (l0.length : Int)) = false := decide_eq_false c2; clear c2; obtain rfl := Option.some.inj H
    go_wp2
    go_ret
    exact ⟨_, by exact eW_, by (with_reducible repeat (first | apply Kd.S_alloc | apply Kd.S_drewN | apply Kd.S_drew)); exact aE.out, hB_ HB⟩
def ref22_find.l0 : Nat → List (S36) → Int → Int → Option (Int)
 | 0, _, _, _ => none
 | k + 1, x0, x1, x5 => if x5 < (x0.length : Int) then (if 0 ≤ x5 then (if ((rd_T36 x0 x5).f0) = x1 then (some x5) else (ref22_find.l0 k x0 x1 (wrap64 (x5 + 1)))) else (none)) else (some (-1))
def ref22_find.f (k : Nat) (l0 : List (S36)) (a1 : Int) : Option (Int) := ref22_find.l0 k l0 a1 0
theorem ref22_find.mono_l : ∀ k, (∀ y0 y1 y2, LeO (ref22_find.l0 k y0 y1 y2) (ref22_find.l0 (k + 1) y0 y1 y2))
 | 0 => fun _ _ _ r h => by simp [ref22_find.l0] at h
 | k + 1 => by
  have ih0 := ref22_find.mono_l k
  ·intro y0 y1 y2
   unfold ref22_find.l0
   with_reducible repeat' first | exact ih0 _ _ _ | exact LeO.refl _ | exact LeO.none _ | refine LeO.ite ?_ ?_ | refine LeO.bind ?_ (fun _ => ?_)
theorem ref22_find.mono : ∀ a0 a1 k, LeO (ref22_find.f k a0 a1) (ref22_find.f (k + 1) a0 a1) := by
 intro a0 a1 k; have ih0 := ref22_find.mono_l k
 unfold ref22_find.f
 with_reducible repeat' first | exact ih0 _ _ _ | exact LeO.refl _ | exact LeO.none _ | refine LeO.ite ?_ ?_ | refine LeO.bind ?_ (fun _ => ?_)
theorem ref22_find.calls (k : Nat) (A0 : Option Addr) (c0 : Nat) (l0 : List (S36)) (a1 : Int) (r : Int) (w : World) (hr0 : Kd.C k36 w A0 l0.length l0) (hc0 : l0.length ≤ c0) (h : ref22_find.f k l0 a1 = some r) :
  Calls Try.prog 47 #[.slice A0 l0.length c0, .int .i64 a1] w fun e w' => e = .returned (.int .i64 r) ∧ Drawn0 w w' := by
 have HR0 := Zq_.mk hr0; have HC0 := Zq_.mk hc0; clear hr0 hc0; have H : (ref22_find.l0 k l0 a1 0) = some r := h; clear h; have H' := Zq_.mk H; clear H
 go_enter Try.func47, Try.ntmps47
 go_wp2
 go_loopg [5] k (fun kq v5 w' => ∃ (aA : Int), v5 = .int .i64 aA ∧ Zq_ (ref22_find.l0 kq l0 a1 aA = some r) ∧ Zq_ (kq ≤ k) ∧ Drawn0 w w')
 case atStart => exact ⟨(0), eS_, H', ⟨Nat.le_refl _⟩, by repeat (first | exact Drawn0.refl _ | apply Drawn0.step)⟩
 case round =>
  clear H'
  try clear p2
  obtain ⟨aA, rfl, HA, HK1, ⟨m1, rfl⟩⟩ := hrel
  cases gk with
  | zero => exact absurd HA.out (by simp [ref22_find.l0])
  | succ k1 =>
   have H := HA.out; clear HA; simp only [ref22_find.l0] at H
   by_cases c3 : aA < (l0.length : Int)
   ·rw [if_pos c3] at H; have c3b0 : decide (aA < (l0.length : Int)) = true := decide_eq_true c3; clear c3
    by_cases c4 : 0 ≤ aA
    ·rw [if_pos c4] at H; have c4b0 : decide (0 ≤ aA) = true := decide_eq_true c4; clear c4
     by_cases c5 : ((rd_T36 l0 aA).f0) = a1
     ·rw [if_pos c5] at H; have c5b0 : (((rd_T36 l0 aA).f0) == a1) = true := beq_iff_eq.mpr c5; have c5b1 : (((rd_T36 l0 aA).f0) != a1) = false := bne_eq_false_iff_eq.mpr c5; clear c5; obtain rfl := Option.some.inj H; have aE : 0 ≤ (aA : Int) := dA_; have aD : aA < (l0.length : Int) := dA_; obtain ⟨aR, aQ, aP, aO, aL, aK, aJ, aI, aH, aG, aF, aB, aC⟩ := at_T36 HR0.out aA aE aD; cases aO; have aM := Zq_.mk aC; have aN := Zq_.mk aB; clear aC aB; replace aE := eq_true aE; replace aD := eq_true aD
      go_wp2
      go_ret
      exact ⟨by first | rfl | (simp; done) | (simp [*]; done), by repeat (first | exact Drawn0.refl _ | apply Drawn0.step)⟩
     ·rw [if_neg c5] at H; have c5b0 : (((rd_T36 l0 aA).f0) == a1) = false := beq_eq_false_iff_ne.mpr c5; have c5b1 : (((rd_T36 l0 aA).f0) != a1) = true := bne_iff_ne.mpr c5; have H' := Zq_.mk H; clear H; have aE : 0 ≤ (aA : Int) := dA_; have aD : aA < (l0.length : Int) := dA_; obtain ⟨aR, aQ, aP, aO, aL, aK, aJ, aI, aH, aG, aF, aB, aC⟩ := at_T36 HR0.out aA aE aD; cases aO; have aM := Zq_.mk aC; have aN := Zq_.mk aB; clear aC aB; replace aE := eq_true aE; replace aD := eq_true aD
      go_wp2
      go_roundg k1
      case measure => have := HK1.out; omega
      case rel => exact ⟨(wrap64 (aA + 1)), eS_, H', ⟨by have := HK1.out; omega⟩, by repeat (first | exact Drawn0.refl _ | apply Drawn0.step)⟩
    ·rw [if_neg c4] at H; exact absurd H (by simp)
   ·rw [if_neg c3] at H; have c3b0 : decide (aA < (l0.length : Int)) = false := decide_eq_false c3; clear c3; obtain rfl := Option.some.inj H
    go_wp2
    go_ret
    exact ⟨by first | rfl | (simp; done) | (simp [*]; done), by repeat (first | exact Drawn0.refl _ | apply Drawn0.step)⟩
mutual
def ref22_Great.l0 : Nat → List (S36) → Int → Option (Bool)
 | 0, _, _ => none
 | k + 1, x0, x3 => if x3 < (x0.length : Int) then (ref22_Great.j1 k x0 x3 (decide (x3 < 41))) else (ref22_Great.j1 k x0 x3 false)
def ref22_Great.j1 : Nat → List (S36) → Int → Bool → Option (Bool)
 | 0, _, _, _ => none
 | k + 1, x0, x3, x11 => if x11 = true then (if 0 ≤ x3 then (if x3 < (x0.length : Int) then (if (((rd_T36 x0 x3).f3.f1).length : Int) > 100 then (some true) else (ref22_Great.l0 k x0 (wrap64 (x3 + 1)))) else (none)) else (none)) else (some (decide ((x0.length : Int) > 40)))
end
def ref22_Great.f (k : Nat) (l0 : List (S36)) : Option (Bool) := ref22_Great.l0 k l0 0
theorem ref22_Great.mono_l : ∀ k, (∀ y0 y1, LeO (ref22_Great.l0 k y0 y1) (ref22_Great.l0 (k + 1) y0 y1)) ∧ (∀ y0 y1 y2, LeO (ref22_Great.j1 k y0 y1 y2) (ref22_Great.j1 (k + 1) y0 y1 y2))
 | 0 => ⟨fun _ _ r h => by simp [ref22_Great.l0] at h, fun _ _ _ r h => by simp [ref22_Great.j1] at h⟩
 | k + 1 => by
  obtain ⟨ih0, ih1⟩ := ref22_Great.mono_l k; refine ⟨?_, ?_⟩
  ·intro y0 y1
   unfold ref22_Great.l0
   with_reducible repeat' first | exact ih0 _ _ | exact ih1 _ _ _ | exact LeO.refl _ | exact LeO.none _ | refine LeO.ite ?_ ?_ | refine LeO.bind ?_ (fun _ => ?_)
  ·intro y0 y1 y2
   unfold ref22_Great.j1
   with_reducible repeat' first | exact ih0 _ _ | exact ih1 _ _ _ | exact LeO.refl _ | exact LeO.none _ | refine LeO.ite ?_ ?_ | refine LeO.bind ?_ (fun _ => ?_)
theorem ref22_Great.mono : ∀ a0 k, LeO (ref22_Great.f k a0) (ref22_Great.f (k + 1) a0) := by
 intro a0 k; obtain ⟨ih0, ih1⟩ := ref22_Great.mono_l k
 unfold ref22_Great.f
 with_reducible repeat' first | exact ih0 _ _ | exact ih1 _ _ _ | exact LeO.refl _ | exact LeO.none _ | refine LeO.ite ?_ ?_ | refine LeO.bind ?_ (fun _ => ?_)
theorem ref22_Great.calls (k : Nat) (A0 : Option Addr) (c0 : Nat) (l0 : List (S36)) (r : Bool) (w : World) (hr0 : Kd.C k36 w A0 l0.length l0) (hc0 : l0.length ≤ c0) (h : ref22_Great.f k l0 = some r) :
  Calls Try.prog 20 #[.slice A0 l0.length c0] w fun e w' => e = .returned (.bool r) ∧ Drawn0 w w' := by
 have HR0 := Zq_.mk hr0; have HC0 := Zq_.mk hc0; clear hr0 hc0; have H : (ref22_Great.l0 k l0 0) = some r := h; clear h; have H' := Zq_.mk H; clear H
 go_enter Try.func20, Try.ntmps20
 go_wp2
 go_loopg [3] k (fun kq v3 w' => ∃ (aA : Int), v3 = .int .i64 aA ∧ Zq_ (ref22_Great.l0 kq l0 aA = some r) ∧ Zq_ (kq ≤ k) ∧ Drawn0 w w')
 case atStart => exact ⟨(0), eS_, H', ⟨Nat.le_refl _⟩, by repeat (first | exact Drawn0.refl _ | apply Drawn0.step)⟩
 case round =>
  clear H'; obtain ⟨aA, rfl, HA, HK1, ⟨m1, rfl⟩⟩ := hrel
  cases gk with
  | zero => exact absurd HA.out (by simp [ref22_Great.l0])
  | succ k1 =>
   have H := HA.out; clear HA; simp only [ref22_Great.l0] at H; have HC2 := Zq_.mk H; clear H
   go_upto_region 2 with (fail)
   go_cut [11] (fun v11 wc => ∃ (kq : Nat) (aF : Bool), v11 = .bool aF ∧ Zq_ (ref22_Great.j1 kq l0 aA aF = some r) ∧ Zq_ (kq ≤ k1) ∧ Drawn0 w wc)
   case first =>
    have H := HC2.out; clear HC2
    by_cases c3 : aA < (l0.length : Int)
    ·rw [if_pos c3] at H; have aG : decide (aA < (l0.length : Int)) = true := decide_eq_true c3; clear c3; (first | rw [aG] | (simp only [i64_w, i32_w]; rw [aG]) | skip); have H' := Zq_.mk H; clear H
     go_wp2
     go_meet
     case rel => exact ⟨_, (decide (aA < 41)), eS_, H', ⟨by have := HK1.out; first | omega | exact Nat.le_refl _⟩, by repeat (first | exact Drawn0.refl _ | apply Drawn0.step)⟩
    ·rw [if_neg c3] at H; have aG : decide (aA < (l0.length : Int)) = false := decide_eq_false c3; clear c3; (first | rw [aG] | (simp only [i64_w, i32_w]; rw [aG]) | skip); have H' := Zq_.mk H; clear H
     go_wp2
     go_meet
     case rel => exact ⟨_, (false), eS_, H', ⟨by have := HK1.out; first | omega | exact Nat.le_refl _⟩, by repeat (first | exact Drawn0.refl _ | apply Drawn0.step)⟩
   case rest =>
    clear HC2
    try clear c2
    try clear p2
    try clear c3
    try clear aG
    obtain ⟨kq, aF, rfl, HA, HJ1, ⟨mc1, rfl⟩⟩ := hcut
    cases kq with
    | zero => exact absurd HA.out (by simp [ref22_Great.j1])
    | succ kj1 =>
     have H := HA.out; clear HA; simp only [ref22_Great.j1] at H
     by_cases c4 : aF = true
     ·subst c4
      rw [if_pos rfl] at H
      by_cases c5 : 0 ≤ aA
      ·rw [if_pos c5] at H; have c5b0 : decide (0 ≤ aA) = true := decide_eq_true c5; clear c5
       by_cases c6 : aA < (l0.length : Int)
       ·rw [if_pos c6] at H; have c6b0 : decide (aA < (l0.length : Int)) = true := decide_eq_true c6; clear c6
        by_cases c7 : (((rd_T36 l0 aA).f3.f1).length : Int) > 100
        ·rw [if_pos c7] at H; have c7b0 : decide (100 < (((rd_T36 l0 aA).f3.f1).length : Int)) = true := decide_eq_true c7; have c7b1 : decide (100 < ((rd_T36 l0 aA).f3.f1).length) = true := decide_eq_true (by omega); clear c7; obtain rfl := Option.some.inj H; have aE : 0 ≤ (aA : Int) := dA_; have aD : aA < (l0.length : Int) := dA_; obtain ⟨aT, aS, aR, aQ, aN, aM, aL, aK, aJ, aI, aH, aB, aC⟩ := at_T36 HR0.out aA aE aD; cases aQ; have aO := Zq_.mk aC; have aP := Zq_.mk aB; clear aC aB; replace aE := eq_true aE; replace aD := eq_true aD
         go_wp2
         go_ret
         exact ⟨by first | rfl | (simp; done) | (simp [*]; done), by repeat (first | exact Drawn0.refl _ | apply Drawn0.step)⟩
        ·rw [if_neg c7] at H; have c7b0 : decide (100 < (((rd_T36 l0 aA).f3.f1).length : Int)) = false := decide_eq_false c7; have c7b1 : decide (100 < ((rd_T36 l0 aA).f3.f1).length) = false := decide_eq_false (by omega); clear c7; have H' := Zq_.mk H; clear H; have aE : 0 ≤ (aA : Int) := dA_; have aD : aA < (l0.length : Int) := dA_; obtain ⟨aT, aS, aR, aQ, aN, aM, aL, aK, aJ, aI, aH, aB, aC⟩ := at_T36 HR0.out aA aE aD; cases aQ; have aO := Zq_.mk aC; have aP := Zq_.mk aB; clear aC aB; replace aE := eq_true aE; replace aD := eq_true aD
         go_wp2
         go_roundg kj1
         case measure => have := HK1.out; have := HJ1.out; omega
         case rel => exact ⟨(wrap64 (aA + 1)), eS_, H', ⟨by have := HK1.out; have := HJ1.out; omega⟩, by repeat (first | exact Drawn0.refl _ | apply Drawn0.step)⟩
       ·rw [if_neg c6] at H; exact absurd H (by simp)
      ·rw [if_neg c5] at H; exact absurd H (by simp)
     ·replace c4 := Bool.eq_false_iff.mpr c4; subst c4
      have H1 : (some (decide ((l0.length : Int) > 40))) = some r := by rw [if_neg (show ¬ (false = true) by decide)] at H; exact H
      clear H; have H := H1; clear H1; obtain rfl := Option.some.inj H
      go_wp2
      go_ret
      exact ⟨by first | rfl | (simp; done) | (simp [*]; done), by repeat (first | exact Drawn0.refl _ | apply Drawn0.step)⟩
def slices_Clone_int_int.f (l0 : List Int) : Option (List Int) := if l0.length < 17592186044416 then some l0 else none
open Go.Proofs.YtoghjpoblbdnpaaW.Hw in
theorem slices_Clone_int_int.calls (A0 : Option Addr) (c0 : Nat) (l0 : List Int) (r : List Int) (w : World) (hr0 : Kd.C (Kd.int .i64) w A0 l0.length l0) (hc0 : l0.length ≤ c0) (h : slices_Clone_int_int.f l0 = some r) :
  Calls Try.prog 53 #[.slice A0 l0.length c0] w fun e w' => ∃ v0_ : Value, e = .returned v0_ ∧ Kd.R (Kd.int .i64) 3 w' w.heap.size (fun _ => True) v0_ r ∧ Below w.heap.size w w' := by
 unfold slices_Clone_int_int.f at h
 by_cases hl : l0.length < 17592186044416
 case neg => rw [if_neg hl] at h; cases h
 rw [if_pos hl] at h; obtain rfl := Option.some.inj h; clear h; have LM := Zq_.mk hl; clear hl
 have hnil : ∀ (W : World) (a : Option Addr) (n c n' c' : Nat), (binOp .eql 27 (.slice a n c) (.slice none n' c')).run Try.prog W = .ok (.bool a.isNone) W := fun W a n c n' c' => Lib.run_eql_slice_nil W _ _ a n c n' c' Try.underlying27
 have HB := Zq_.mk (Below.refl w.heap.size w)
 cases A0 with
 | none =>
  have e0 : l0 = [] := by
   rcases Nat.eq_zero_or_pos l0.length with e | e
   ·exact List.eq_nil_of_length_eq_zero e
   ·obtain ⟨ad, e1, _⟩ := hr0.2.2 e; cases e1
  subst e0; clear hr0 hc0 LM
  go_enter Try.func53, Try.ntmps53
  go_wp2
  go_ret
  exact ⟨_, rfl, Kd.R_nil _ _ _ _ _, Below.refl _ _⟩
 | some ad =>
  have HR := Zq_.mk hr0; have HC := Zq_.mk hc0; clear hr0 hc0
  go_enter Try.func53, Try.ntmps53
  go_wp2_with (first
   | ((with_reducible refine qc_ (N := 5) rfl ?_); refine Kd.R_lit (Kd.int .i64) _ 3 ?hg (N := 5) ?hd (xs := ([] : List Int)) (inner := []) (ok := fun _ => True) (okp := fun _ => True) ?hr ?hp (fun _ hk => hk) trivial (Below.refl _ _) (Nat.le_refl _) (by simp) ?_; (case hd => rfl); (case hg => rfl); (case hr => first | (go_simp; done) | (go_simp; rfl)); (case hp => exact (Reps.none _ _)); intro v5 w5 ho hb hg_ hnew_; clear hg_ hnew_; have HO := Zq_.mk (Kd.vj_ ho (qb_ (hB_ HB))); replace HB := sB_ HB hb; clear hb ho)
   | ((with_reducible refine vq_ (b := .append) (xs := #[.tmp 5, .tmp 6]) rfl ?_); at_builtin; refine Kd.R_append_rows (Kd.int .i64) (w0 := w) w.heap.size rfl (.tmp 5) (.tmp 6) 27 3 (.int .i64 0) 8 rfl Try.underlying27 info3 rfl (by decide) (by omega) v5 ([] : List Int) l0 _ _ _ (fun _ => True) (fun _ => False) rfl rfl ?aO ?aR (fun _ _ h => h) (fun _ h => h.elim) ?aF ?aB ?aS ?aL ?_; (case aR => exact cX_ (Kd.qi_ HR.out HB.out)); (case aB => exact (hB_ HB)); (case aF => exact (fun _ _ => trivial)); (case aO => exact (vX_ HO)); (case aS => exact (qb_ (hB_ HB))); (case aL => have := LM.out; simp only [List.length_nil]; omega); intro v7 w9 ho hb hg hat; rw [List.nil_append] at ho; replace HB := Zq_.mk hb; replace HO := Zq_.mk ho; clear ho hb hg hat))
  go_ret
  exact ⟨_, rfl, by (with_reducible repeat (first | apply Kd.vd_ | apply Kd.vc_ | apply Kd.R_drew)); exact HO.out, (hB_ HB)⟩
def slices_Equal_int_int.l0 : Nat → List Int → List Int → Int → Int → Option (Bool)
 | 0, _, _, _, _ => none
 | k + 1, x0, x1, x12, x13 => if x13 < x12 then (if 0 ≤ x13 then (if x13 < (x0.length : Int) then (if x13 < (x1.length : Int) then (if (rd x0 x13) = (rd x1 x13) then (slices_Equal_int_int.l0 k x0 x1 x12 (wrap64 (x13 + 1))) else (some false)) else (none)) else (none)) else (none)) else (some true)
def slices_Equal_int_int.f (k : Nat) (l0 : List Int) (l1 : List Int) : Option (Bool) := if (l0.length : Int) = (l1.length : Int) then (slices_Equal_int_int.l0 k l0 l1 (l0.length : Int) 0) else (some false)
theorem slices_Equal_int_int.mono_l : ∀ k, (∀ y0 y1 y2 y3, LeO (slices_Equal_int_int.l0 k y0 y1 y2 y3) (slices_Equal_int_int.l0 (k + 1) y0 y1 y2 y3))
 | 0 => fun _ _ _ _ r h => by simp [slices_Equal_int_int.l0] at h
 | k + 1 => by
  have ih0 := slices_Equal_int_int.mono_l k
  ·intro y0 y1 y2 y3
   unfold slices_Equal_int_int.l0
   with_reducible repeat' first | exact ih0 _ _ _ _ | exact LeO.refl _ | exact LeO.none _ | refine LeO.ite ?_ ?_ | refine LeO.bind ?_ (fun _ => ?_)
theorem slices_Equal_int_int.mono : ∀ a0 a1 k, LeO (slices_Equal_int_int.f k a0 a1) (slices_Equal_int_int.f (k + 1) a0 a1) := by
 intro a0 a1 k; have ih0 := slices_Equal_int_int.mono_l k
 unfold slices_Equal_int_int.f
 with_reducible repeat' first | exact ih0 _ _ _ _ | exact LeO.refl _ | exact LeO.none _ | refine LeO.ite ?_ ?_ | refine LeO.bind ?_ (fun _ => ?_)
theorem slices_Equal_int_int.calls (k : Nat) (A0 : Option Addr) (c0 : Nat) (l0 : List Int) (A1 : Option Addr) (c1 : Nat) (l1 : List Int) (r : Bool) (w : World) (hr0 : Kd.C (Kd.int .i64) w A0 l0.length l0) (hc0 : l0.length ≤ c0) (hr1 : Kd.C (Kd.int .i64) w A1 l1.length l1) (hc1 : l1.length ≤ c1) (h : slices_Equal_int_int.f k l0 l1 = some r) :
  Calls Try.prog 66 #[.slice A0 l0.length c0, .slice A1 l1.length c1] w fun e w' => e = .returned (.bool r) ∧ Drawn0 w w' := by
 have HR0 := Zq_.mk hr0; have HC0 := Zq_.mk hc0; clear hr0 hc0; have HR1 := Zq_.mk hr1; have HC1 := Zq_.mk hc1; clear hr1 hc1; have H : (if (l0.length : Int) = (l1.length : Int) then (slices_Equal_int_int.l0 k l0 l1 (l0.length : Int) 0) else (some false)) = some r := h; clear h
 by_cases c3 : (l0.length : Int) = (l1.length : Int)
 ·rw [if_pos c3] at H; have aL : ((l0.length : Int) == (l1.length : Int)) = true := beq_iff_eq.mpr c3; have aK : ((l0.length : Int) != (l1.length : Int)) = false := bne_eq_false_iff_eq.mpr c3
  have aJ : (l0.length == l1.length) = true := by first | simpa using c3 | (simp at c3 ⊢; omega)
  clear c3; have H' := Zq_.mk H; clear H
  go_enter Try.func66, Try.ntmps66
  go_wp2
  repeat (go_quiet (fail); try go_wp2)
  go_loopg [13] k (fun kq v13 w' => ∃ (aA : Int), v13 = .int .i64 aA ∧ Zq_ (slices_Equal_int_int.l0 kq l0 l1 (l0.length : Int) aA = some r) ∧ Zq_ (kq ≤ k) ∧ Drawn0 w w')
  case atStart => exact ⟨(0), eS_, H', ⟨Nat.le_refl _⟩, by repeat (first | exact Drawn0.refl _ | apply Drawn0.step)⟩
  case round =>
   clear H'
   try clear c1
   try clear p2
   try clear c3
   try clear aL
   try clear aK
   try clear aJ
   obtain ⟨aA, rfl, HA, HK1, ⟨m1, rfl⟩⟩ := hrel
   cases gk with
   | zero => exact absurd HA.out (by simp [slices_Equal_int_int.l0])
   | succ k1 =>
    have H := HA.out; clear HA; simp only [slices_Equal_int_int.l0] at H
    by_cases c4 : aA < (l0.length : Int)
    ·rw [if_pos c4] at H; have c4b0 : decide (aA < (l0.length : Int)) = true := decide_eq_true c4; clear c4
     by_cases c5 : 0 ≤ aA
     ·rw [if_pos c5] at H; have c5b0 : decide (0 ≤ aA) = true := decide_eq_true c5; clear c5
      by_cases c6 : aA < (l0.length : Int)
      ·rw [if_pos c6] at H; have c6b0 : decide (aA < (l0.length : Int)) = true := decide_eq_true c6; clear c6
       by_cases c7 : aA < (l1.length : Int)
       ·rw [if_pos c7] at H; have c7b0 : decide (aA < (l1.length : Int)) = true := decide_eq_true c7; clear c7
        by_cases c8 : (rd l0 aA) = (rd l1 aA)
        ·rw [if_pos c8] at H; have c8b0 : ((rd l0 aA) == (rd l1 aA)) = true := beq_iff_eq.mpr c8; have c8b1 : ((rd l0 aA) != (rd l1 aA)) = false := bne_eq_false_iff_eq.mpr c8; clear c8; have H' := Zq_.mk H; clear H; have aE : 0 ≤ (aA : Int) := dA_; have aC : aA < (l0.length : Int) := dA_; obtain ⟨aN, aI, aG⟩ := Kd.at_int HR0.out aA aE aC; cases aI; replace aE := eq_true aE; replace aC := eq_true aC; have aD : 0 ≤ (aA : Int) := dA_; have aB : aA < (l1.length : Int) := dA_; obtain ⟨aM, aH, aF⟩ := Kd.at_int HR1.out aA aD aB; cases aH; replace aD := eq_true aD; replace aB := eq_true aB
         go_wp2
         repeat (go_quiet (fail); try go_wp2)
         go_roundg k1
         case measure => have := HK1.out; omega
         case rel => exact ⟨(wrap64 (aA + 1)), eS_, H', ⟨by have := HK1.out; omega⟩, by repeat (first | exact Drawn0.refl _ | apply Drawn0.step)⟩
        ·rw [if_neg c8] at H; have c8b0 : ((rd l0 aA) == (rd l1 aA)) = false := beq_eq_false_iff_ne.mpr c8; have c8b1 : ((rd l0 aA) != (rd l1 aA)) = true := bne_iff_ne.mpr c8; obtain rfl := Option.some.inj H; have aE : 0 ≤ (aA : Int) := dA_; have aC : aA < (l0.length : Int) := dA_; obtain ⟨aN, aI, aG⟩ := Kd.at_int HR0.out aA aE aC; cases aI; replace aE := eq_true aE; replace aC := eq_true aC; have aD : 0 ≤ (aA : Int) := dA_; have aB : aA < (l1.length : Int) := dA_; obtain ⟨aM, aH, aF⟩ := Kd.at_int HR1.out aA aD aB; cases aH; replace aD := eq_true aD; replace aB := eq_true aB
         go_wp2
         repeat (go_quiet (fail); try go_wp2)
         go_ret
         exact ⟨by first | rfl | (simp; done) | (simp [*]; done), by repeat (first | exact Drawn0.refl _ | apply Drawn0.step)⟩
       ·rw [if_neg c7] at H; exact absurd H (by simp)
      ·rw [if_neg c6] at H; exact absurd H (by simp)
     ·rw [if_neg c5] at H; exact absurd H (by simp)
    ·rw [if_neg c4] at H; have c4b0 : decide (aA < (l0.length : Int)) = false := decide_eq_false c4; clear c4; obtain rfl := Option.some.inj H
     go_wp2
     repeat (go_quiet (fail); try go_wp2)
     go_ret
     exact ⟨by first | rfl | (simp; done) | (simp [*]; done), by repeat (first | exact Drawn0.refl _ | apply Drawn0.step)⟩
 ·rw [if_neg c3] at H; have aL : ((l0.length : Int) == (l1.length : Int)) = false := beq_eq_false_iff_ne.mpr c3; have aK : ((l0.length : Int) != (l1.length : Int)) = true := bne_iff_ne.mpr c3
  have aJ : (l0.length == l1.length) = false := by first | simpa using c3 | (simp at c3 ⊢; omega)
  obtain rfl := Option.some.inj H
  go_enter Try.func66, Try.ntmps66
  go_wp2
  repeat (go_quiet (fail); try go_wp2)
  go_ret
  exact ⟨by first | rfl | (simp; done) | (simp [*]; done), by repeat (first | exact Drawn0.refl _ | apply Drawn0.step)⟩
open Go.Proofs.YtoghjpoblbdnpaaW.Hw in
theorem IndexFuncI.calls (p : Int → Bool) (g : Nat) (lb : Array Value) (eg : ∀ args w, (callFunc g args).run Try.prog w = .ok (.enter g args) w) (A0 : Option Addr) (c0 : Nat) (l0 : List Int) (w : World)
  (hp : PredI Try.prog g lb p w) (hr0 : Kd.C (Kd.int .i64) w A0 l0.length l0) :
  Calls Try.prog 77 #[.slice A0 l0.length c0, .func (.func g) #[] lb] w fun e w' => e = .returned (.int .i64 (idxI p l0)) ∧ Below w.heap.size w w' := by
 have HR := Zq_.mk hr0; have HP := Zq_.mk hp; have HM := Zq_.mk (Kd.C_max hr0); clear hr0 hp; have HB := Zq_.mk (Below.refl w.heap.size w)
 go_enter Try.func77, Try.ntmps77
 go_wp2
 go_loopg [5, 8] l0.length (fun gg _ s8 wr => ∃ i : Int, s8 = .int .i64 i ∧ Zq_ (0 ≤ i ∧ i ≤ (l0.length : Int) ∧ l0.length - i.toNat ≤ gg) ∧ Zq_ (Below w.heap.size w wr) ∧ Zq_ (∀ j, j < i.toNat → p (l0.getD j 0) = false))
 case atStart => exact ⟨0, rfl, ⟨by omega⟩, HB, ⟨fun j hj => absurd hj (Nat.not_lt_zero _)⟩⟩
 case round =>
  obtain ⟨i, rfl, HI, BW, A⟩ := hrel
  by_cases hlt : i < (l0.length : Int)
  ·have hltb : decide (i < (l0.length : Int)) = true := decide_eq_true hlt; have p1 := HI.out.1; obtain ⟨ad, e_, hx_0⟩ := Kd.at_int HR.out i p1 hlt; cases e_; replace hx_0 := (BW.out.cell (wb_ w _ hx_0)).trans hx_0; have hcall : Calls Try.prog g (#[.int .i64 (rd l0 i)] ++ lb) wr (fun e w1 => e = .returned (.bool (p (rd l0 i))) ∧ Below wr.heap.size wr w1) := HP.out wr (rd l0 i) BW.out; have HL := Zq_.mk hlt; replace p1 := eq_true p1; replace hlt := eq_true hlt; have hwr := Zq_.mk (show wrap64 (i + 1) = i + 1 by have := HI.out; have := HM.out; have := HL.out; unfold wrap64; omega)
   cases hq : p (rd l0 i) with
   | true =>
    rw [hq] at hcall; have HQ := Zq_.mk hq; clear hq
    go_wp2_with fail
    refine hcall.mono ?_; rintro e w1 ⟨rfl, hb1⟩
    go_wp2_with fail
    go_ret
    refine ⟨?_, (by have hb2 := qe_ BW.out hb1; exact hb2)⟩; have h1 := HI.out; have h2 := HL.out; rw [idxI_hit p l0 0 i.toNat (by omega) HQ.out A.out, Int.toNat_of_nonneg h1.1]; rfl
   | false =>
    rw [hq] at hcall; have HQ := Zq_.mk hq; clear hq
    go_wp2_with fail
    refine hcall.mono ?_; rintro e w1 ⟨rfl, hb1⟩
    go_wp2_with fail
    go_roundg (l0.length - (i.toNat + 1))
    case measure => have h1 := HI.out; have h2 := HL.out; omega
    case rel => exact ⟨wrap64 (i + 1), eS_, ⟨by rw [hwr.out]; have h1 := HI.out; have h2 := HL.out; omega⟩, ⟨qe_ BW.out hb1⟩, ⟨fun j hj => by
     rw [hwr.out] at hj; have h1 := HI.out
     by_cases e : j = i.toNat
     ·subst e; exact HQ.out
     ·exact A.out j (by omega)⟩⟩
  ·have hltb : decide (i < (l0.length : Int)) = false := decide_eq_false hlt; have HL := Zq_.mk hlt; clear hlt
   go_wp2
   go_ret
   refine ⟨?_, BW.out⟩; have h1 := HI.out; have h2 := HL.out; rw [idxI_miss p l0 0 (fun j hj => A.out j (by omega))]; rfl
open Go.Proofs.YtoghjpoblbdnpaaW.Hw in
/-- Whom a test takes: the rows' nodes, in their order. -/
theorem watch_nodes.calls (p : S36 → Bool) (g : Nat) (lb : Array Value) (eg : ∀ args w, (callFunc g args).run Try.prog w = .ok (.enter g args) w) (A0 : Option Addr) (c0 : Nat) (l0 : List S36) (w : World)
  (hp : PredK Try.prog k36 g lb aggOf p w) (hr0 : Kd.C k36 w A0 l0.length l0) (hlm : l0.length < 17592186044416) :
  Calls Try.prog 37 #[.slice A0 l0.length c0, .func (.func g) #[] lb] w fun e w' => ∃ v_ : Value, e = .returned v_ ∧ Kd.R (Kd.int .i64) 3 w' w.heap.size (fun _ => True) v_ ((l0.filter p).map (fun x => x.f0)) ∧ Below w.heap.size w w' := by
 have hu_ := Try.underlying36; have HR := Zq_.mk hr0; have HP := Zq_.mk hp; have HLM := Zq_.mk hlm; clear hr0 hp hlm; have HB0 := Zq_.mk (Below.refl w.heap.size w)
 go_enter Try.func37, Try.ntmps37
 go_wp2
 go_loopg [5, 10] (l0.length + 1) (fun kq v5 v10 w' => ∃ (i : Nat) (ns : List Int), v10 = .int .i64 (i : Int) ∧ Zq_ (i ≤ l0.length ∧ kq + i = l0.length + 1) ∧ Zq_ (ns = ((l0.take i).filter p).map (fun x => x.f0)) ∧ Zq_ (Kd.R (Kd.int .i64) 3 w' w.heap.size (fun _ => True) v5 ns) ∧ Zq_ (Below w.heap.size w w'))
 case atStart => exact ⟨0, [], rfl, ⟨by omega, by omega⟩, ⟨rfl⟩, ⟨Kd.R_nil _ _ _ _ _⟩, HB0⟩
 case round =>
  clear HB0; obtain ⟨i, ns, rfl, HI, HNS, HO, HB⟩ := hrel
  by_cases hi : i < l0.length
  ·obtain ⟨ad, A4, c4, e_, hx_0, hx_1, hx_2, hx_3, hx_4, hx_5, hx_6, l4, g4⟩ := at_T36 HR.out (i : Int) (by omega) (by omega); cases e_; obtain ⟨x, hx⟩ : ∃ x_, x_ = rd_T36 l0 (i : Int) := ⟨_, rfl⟩; rw [← hx] at hx_0 hx_1 hx_2 hx_3 hx_4 hx_5 hx_6 l4 g4; replace hx_0 := hC_ HB hx_0; replace hx_1 := hC_ HB hx_1; replace hx_2 := hC_ HB hx_2; replace hx_3 := hC_ HB hx_3; replace hx_4 := hC_ HB hx_4; replace hx_5 := hC_ HB hx_5; replace hx_6 := hC_ HB hx_6; obtain ⟨Av, cv, rfl⟩ := Kd.ve_ HO.out
   have htk : l0.take (i + 1) = l0.take i ++ [x] := by
    rw [hx, List.take_succ_eq_append_getElem hi]
    simp [rd_T36, List.getD_eq_getElem?_getD, List.getElem?_eq_getElem hi]
   have HTK := Zq_.mk htk; have HII := Zq_.mk hi; have L4 := Zq_.mk l4; have G4 := Zq_.mk g4; have HWR := Zq_.mk (show wrap64 ((i : Int) + 1) = ((i + 1 : Nat) : Int) by have := HLM.out; unfold wrap64; omega)
   have HNL := Zq_.mk (show ns.length < 17592186044416 by
    rw [HNS.out, List.length_map]; have h1 := List.length_filter_le p (l0.take i); have h2 := HLM.out; simp only [List.length_take] at h1
    omega)
   have j1 : decide ((i : Int) < (l0.length : Int)) = true := decide_eq_true (by omega); have j2 : ((i : Int) < (l0.length : Int)) = True := eq_true (by omega); have j3 : (i < l0.length) = True := eq_true hi; have j4 : decide (i < l0.length) = true := decide_eq_true hi; clear hx hi l4 g4 htk; simp only [Int.toNat_natCast] at hx_0 hx_1 hx_2 hx_3 hx_4 hx_5 hx_6
   go_upto_region 5 with (first | ((with_reducible refine qc_ (N := 7) rfl ?_); refine bE_ 7 #[.int .i64 0, .int .i64 0, .int .i64 0, .int .i64 0, .slice none 0 0, .bool false, .int .i64 0] 36 ?_; intro gx hg_ w1 hbox_ hb_; have GX := Zq_.mk (Nat.le_of_eq hg_.symm); have BX := Zq_.mk hb_; have BK := Zq_.mk hbox_; clear hb_ hbox_ hg_; have hz0 : w1.cell? ⟨gx, 0, none⟩ = some (.int .i64 0) := (qa_ BK.out 0).trans rfl; have hy0 := qf_ BK.out 0; have hz1 : w1.cell? ⟨gx, 1, none⟩ = some (.int .i64 0) := (qa_ BK.out 1).trans rfl; have hy1 := qf_ BK.out 1; have hz2 : w1.cell? ⟨gx, 2, none⟩ = some (.int .i64 0) := (qa_ BK.out 2).trans rfl; have hy2 := qf_ BK.out 2; have hz3 : w1.cell? ⟨gx, 3, none⟩ = some (.int .i64 0) := (qa_ BK.out 3).trans rfl; have hy3 := qf_ BK.out 3; have hz4 : w1.cell? ⟨gx, 4, none⟩ = some (.slice none 0 0) := (qa_ BK.out 4).trans rfl; have hy4 := qf_ BK.out 4; have hz5 : w1.cell? ⟨gx, 5, none⟩ = some (.bool false) := (qa_ BK.out 5).trans rfl; have hy5 := qf_ BK.out 5; have hz6 : w1.cell? ⟨gx, 6, none⟩ = some (.int .i64 0) := (qa_ BK.out 6).trans rfl; have hy6 := qf_ BK.out 6))
   have HX := Zq_.mk (qj_ (qj_ (qj_ (qj_ (qj_ (qj_ (qj_ BX.out GX.out (j := 0) (v := .int .i64 x.f0)) GX.out (j := 1) (v := .int .i64 x.f1)) GX.out (j := 2) (v := .int .i64 x.f2)) GX.out (j := 3) (v := .int .i64 x.f3.f0)) GX.out (j := 4) (v := .slice A4 x.f3.f1.length c4)) GX.out (j := 5) (v := .bool x.f4)) GX.out (j := 6) (v := .int .i64 x.f5)); have BK1 := Zq_.mk (show _ = some (Obj.cells #[.int .i64 x.f0, .int .i64 x.f1, .int .i64 x.f2, .int .i64 x.f3.f0, .slice A4 x.f3.f1.length c4, .bool x.f4, .int .i64 x.f5] 36 (0, 0)) from (qv_ (qv_ (qv_ (qv_ (qv_ (qv_ (qv_ BK.out 0 (.int .i64 x.f0)) 1 (.int .i64 x.f1)) 2 (.int .i64 x.f2)) 3 (.int .i64 x.f3.f0)) 4 (.slice A4 x.f3.f1.length c4)) 5 (.bool x.f4)) 6 (.int .i64 x.f5))); generalize hw2 : (((((((w1.setCell ⟨gx, 0, none⟩ (.int .i64 x.f0)).setCell ⟨gx, 1, none⟩ (.int .i64 x.f1)).setCell ⟨gx, 2, none⟩ (.int .i64 x.f2)).setCell ⟨gx, 3, none⟩ (.int .i64 x.f3.f0)).setCell ⟨gx, 4, none⟩ (.slice A4 x.f3.f1.length c4)).setCell ⟨gx, 5, none⟩ (.bool x.f4)).setCell ⟨gx, 6, none⟩ (.int .i64 x.f5)) = w2 at HX BK1 ⊢; clear hw2 BK BX GX hx_0 hx_1 hx_2 hx_3 hx_4 hx_5 hx_6; have BK := BK1; clear BK1; have HO1 := Zq_.mk (Kd.vh_ HO.out HX.out); have HBB := Zq_.mk (qe_ HB.out HX.out); clear HO HB; have hz0 : w2.cell? ⟨gx, 0, none⟩ = some (.int .i64 x.f0) := (qa_ BK.out 0).trans rfl; have hz1 : w2.cell? ⟨gx, 1, none⟩ = some (.int .i64 x.f1) := (qa_ BK.out 1).trans rfl; have hz2 : w2.cell? ⟨gx, 2, none⟩ = some (.int .i64 x.f2) := (qa_ BK.out 2).trans rfl; have hz3 : w2.cell? ⟨gx, 3, none⟩ = some (.int .i64 x.f3.f0) := (qa_ BK.out 3).trans rfl; have hz4 : w2.cell? ⟨gx, 4, none⟩ = some (.slice A4 x.f3.f1.length c4) := (qa_ BK.out 4).trans rfl; have hz5 : w2.cell? ⟨gx, 5, none⟩ = some (.bool x.f4) := (qa_ BK.out 5).trans rfl; have hz6 : w2.cell? ⟨gx, 6, none⟩ = some (.int .i64 x.f5) := (qa_ BK.out 6).trans rfl; have hcall : Calls Try.prog g (#[.agg #[.int .i64 x.f0, .int .i64 x.f1, .int .i64 x.f2, .int .i64 x.f3.f0, .slice A4 x.f3.f1.length c4, .bool x.f4, .int .i64 x.f5]] ++ lb) w2 (fun e w1 => e = .returned (.bool (p x)) ∧ Below w2.heap.size w2 w1) := HP.out w2 x [.int .i64 x.f0, .int .i64 x.f1, .int .i64 x.f2, .int .i64 x.f3.f0, .slice A4 x.f3.f1.length c4, .bool x.f4, .int .i64 x.f5] HBB.out (k36_mk w2 x L4.out (Kd.qi_ G4.out HBB.out)); have HCALL := Zq_.mk hcall; clear hcall
   cases hq : p x with
   | false =>
    have hcall := HCALL.out; rw [hq] at hcall; have HQ := Zq_.mk hq; clear hq
    go_wp2_with fail
    refine hcall.mono ?_; rintro e w3 ⟨rfl, hb3⟩; have HB3 := Zq_.mk hb3; clear hb3 hcall
    go_wp2_with fail
    go_roundg (l0.length - i)
    case measure => have := HI.out.2; have := HII.out; omega
    case rel => exact ⟨i + 1, ns, by first | rfl | exact congrArg (Value.int .i64) HWR.out, ⟨by have := HII.out; omega, by have := HI.out.2; have := HII.out; omega⟩, ⟨by rw [HTK.out, List.filter_append, List.map_append, HNS.out]; simp [HQ.out]⟩, ⟨Kd.vh_ HO1.out HB3.out⟩, ⟨qe_ HBB.out HB3.out⟩⟩
   | true =>
    have hcall := HCALL.out; rw [hq] at hcall; have HQ := Zq_.mk hq; clear hq
    go_wp2_with fail
    refine hcall.mono ?_; rintro e w3 ⟨rfl, hb3⟩; have HO5 := Zq_.mk (Kd.vh_ HO1.out hb3); have HB4 := Zq_.mk (qe_ HBB.out hb3); have hq0 : w3.cell? ⟨gx, 0, none⟩ = some (.int .i64 x.f0) := (qa_ (blk_bel BK.out hb3) 0).trans rfl; clear hb3 hcall
    go_wp2_with ((with_reducible refine vq_ (b := .append) (xs := #[.tmp 17, .tmp 20]) rfl ?_); at_builtin; refine Kd.R_append (Kd.int .i64) (w0 := w) w.heap.size rfl (.tmp 17) (.tmp 20) 27 3 (.int .i64 0) 8 rfl Try.underlying27 info3 rfl (by decide) (by omega) (.slice Av ns.length cv) ns x.f0 [.int .i64 x.f0] (fun _ => True) (fun _ => False) rfl rfl ?aP (fun _ hk => hk.elim) ?aF ?aO ?aB ?aS ?aL ?_; (case aP => exact rfl); (case aB => exact (by repeat (first | (with_reducible first | exact HB4.out | apply vo_ | apply vk_ | apply qu_) | exact HB4.out))); (case aF => exact (fun _ _ => trivial)); (case aO => exact (vX_ HO5)); (case aS => exact (qb_ (by repeat (first | (with_reducible first | exact HB4.out | apply vo_ | apply vk_ | apply qu_) | exact HB4.out)))); (case aL => have := HNL.out; omega); intro v7 w7 ho hb hg hat; have HO7 := Zq_.mk ho; have HB7 := Zq_.mk hb; clear ho hb hg hat)
    go_roundg (l0.length - i)
    case measure => have := HI.out.2; have := HII.out; omega
    case rel => exact ⟨i + 1, ns ++ [x.f0], by first | rfl | exact congrArg (Value.int .i64) HWR.out, ⟨by have := HII.out; omega, by have := HI.out.2; have := HII.out; omega⟩, ⟨by rw [HTK.out, List.filter_append, List.map_append, HNS.out]; simp [HQ.out]⟩, ⟨HO7.out⟩, ⟨HB7.out⟩⟩
  ·have hi2 : i = l0.length := by have := HI.out.1; omega
   subst hi2; have hns := HNS.out; rw [List.take_length] at hns; subst hns; clear hi HNS
   go_wp2
   go_ret
   exact ⟨_, rfl, HO.out, HB.out⟩
def watch_within.f (a0 : Int) (a1 : Int) (a2 : Int) : Option (Bool) := if a0 ≥ a1 then (some (decide (a0 ≤ a2))) else (some false)
theorem watch_within.calls (a0 : Int) (a1 : Int) (a2 : Int) (r : Bool) (w : World) (h : watch_within.f a0 a1 a2 = some r) :
  Calls Try.prog 64 #[.int .i64 a0, .int .i64 a1, .int .i64 a2] w fun e w' => e = .returned (.bool r) ∧ Drawn0 w w' := by
 have H : (if a0 ≥ a1 then (some (decide (a0 ≤ a2))) else (some false)) = some r := h; clear h
 by_cases c4 : a0 ≥ a1
 ·rw [if_pos c4] at H; have c4b0 : decide (a1 ≤ a0) = true := decide_eq_true c4; clear c4; obtain rfl := Option.some.inj H
  go_enter Try.func64, Try.ntmps64
  go_wp2
  go_ret
  exact ⟨by first | rfl | (simp; done) | (simp [*]; done), by repeat (first | exact Drawn0.refl _ | apply Drawn0.step)⟩
 ·rw [if_neg c4] at H; have c4b0 : decide (a1 ≤ a0) = false := decide_eq_false c4; clear c4; obtain rfl := Option.some.inj H
  go_enter Try.func64, Try.ntmps64
  go_wp2
  go_ret
  exact ⟨by first | rfl | (simp; done) | (simp [*]; done), by repeat (first | exact Drawn0.refl _ | apply Drawn0.step)⟩
def window_New.f  : Option (Int × List Int) := some ((-1), ([] : List Int))
theorem window_New.calls  (r1 : Int) (r2 : List Int) (w : World) (h : window_New.f  = some (r1, r2)) :
  Calls Try.prog 33 #[] w fun e w' => ∃ v1_ : Value, e = .returned (.agg #[.int .i64 r1, v1_]) ∧ Kd.R (Kd.int .i64) 3 w' w.heap.size (fun _ => True) v1_ r2 ∧ Below w.heap.size w w' := by
 have hu34 := Try.underlying34; have HB := Zq_.mk (Below.refl w.heap.size w); have H : (some ((-1), ([] : List Int))) = some (r1, r2) := h; clear h; simp only [Option.some.injEq, Prod.mk.injEq] at H; obtain ⟨rfl, rfl⟩ := H
 go_enter Try.func33, Try.ntmps33
 go_wp2_with (first | ((with_reducible refine qc_ (N := 0) rfl ?_); refine bE_ 0 #[.int .i64 0, .slice none 0 0] 34 ?_; intro aB hg w1 hbox hb; have aA := Zq_.mk (hbox); have GW101 := gW_ (w := w) hg (hB_ HB); have GE101 := gW_ (w := w) hg (hB_ HB); replace HB := sB_ HB hb; clear hb hbox hg; obtain ⟨hcz2_0, hcz2_1⟩ := c2_ aA; obtain ⟨hfz2_0, hfz2_1⟩ := f2_ aA))
 refine bodyPost_ret (results_cell_row rfl _ _ aB 34 #[.int .i64 (-1), .slice none 0 0] (0, 0) _ rfl (by exact bW2_ (bK_ aA)) Try.underlying34 rfl (by kernel_rfl)) rfl ?_; exact ⟨_, by exact eW_, by first | exact Kd.R_nil _ _ _ _ _ | exact Kd.N_nil _ _ _ _ _ | exact Kd.V_nil _ _ _ _ _ | exact Kd.Q_nil _ _ _ _ _ | exact Kd.S_nil _ _ _ _ _, by exact hSet_ HB⟩
open Go.Proofs.YtoghjpoblbdnpaaW.Hw in
/-- What lies behind the i-th element is written over, and the row is shorter. -/
theorem DeleteFuncX.rest {α : Type} {d : Kd α} {e base g n cap : Nat} {ok : Nat → Prop} {W : World} {xs : List α} (h : Kd.N d e W base ok (.slice (some ⟨g, 0, none⟩) n cap) xs) (i : Nat) (hi : i ≤ xs.length) (vs : List Value) (hv : vs.length = (xs.length - i) * d.sz) :
  Kd.N d e (W.setCells g (i * d.sz) vs) base ok (.slice (some ⟨g, 0, none⟩) i cap) (xs.take i) ∧ W.grownBy (W.setCells g (i * d.sz) vs) (some g) := by
 obtain ⟨hown, rows, hl, hR, hf⟩ := h; obtain ⟨h1, h2⟩ := Kd.R_rest hR i (by omega) vs (by rw [hl]; exact hv); refine ⟨⟨hown, rows.take i, by rw [List.length_take, List.length_take, hl], h1, fun j x c hx hc => ?_⟩, h2⟩
 have hj : j < i := by
  by_cases hj : j < i
  ·exact hj
  ·rw [List.getElem?_eq_none (by rw [List.length_take]; omega)] at hx; cases hx
 rw [List.getElem?_take, if_pos hj] at hx hc; exact Kd.FK_grown (hf j x c hx hc) h2 (fun k hk => hk.2)
open Go.Proofs.YtoghjpoblbdnpaaW.Hw in
theorem DeleteFuncX.calls (p : S36 → Bool) (g : Nat) (lb : Array Value) (eg : ∀ args w, (callFunc g args).run Try.prog w = .ok (.enter g args) w) (v : Value) (l0 : List S36) (base : Nat) (ok : Nat → Prop) (w : World)
  (hp : PredR Try.prog k36 g lb aggOf p w v.ownBlock) (hR : Kd.N k36 36 w base ok v l0) (hbase : base ≤ w.heap.size) :
  Calls Try.prog 42 #[v, .func (.func g) #[] lb] w fun e w' => ∃ v', e = .returned v' ∧ Kd.N k36 36 w' base ok v' (l0.filter (fun x => !p x)) ∧ w.grownBy w' v.ownBlock ∧ v'.ownBlock = v.ownBlock := by
 obtain ⟨A0, c0, rfl⟩ := Kd.vp_ hR; obtain ⟨_, hlc, hC⟩ := Kd.N_reads' hR; have hcall := IndexFuncX.calls p g lb eg A0 c0 l0 w hp.k hC; have hrange := idxI_range p l0; generalize hix : idxI p l0 = ix at hcall hrange
 by_cases hm : ix = -1
 ·subst hm; have hfin := filter_miss hix; have HR := Zq_.mk hR; have HF := Zq_.mk hfin; clear hR hp hC hix hfin hlc hrange hbase
  go_enter Try.func42, Try.ntmps42
  go_wp2_with fail
  refine hcall.mono ?_; rintro e w1 ⟨rfl, hb1⟩
  go_wp2_with fail
  go_ret
  refine ⟨_, rfl, ?_, grown_of_below hb1 _, rfl⟩; rw [HF.out]; exact Kd.va_ HR.out hb1
 ·obtain ⟨i0, rfl⟩ := Int.eq_ofNat_of_zero_le (show 0 ≤ ix by omega); have hmb : decide ((i0 : Int) = -1) = false := decide_eq_false hm; have hme : ((i0 : Int) == -1) = false := beq_false_of_ne hm
  have hlen : 0 < l0.length := by omega
  obtain ⟨gr, cap, hv, hgb, hglt, _, _⟩ := Kd.N_form hR hlen
  injection hv with hA _ hc
  subst hA; subst hc; have HR0 := Zq_.mk hR; have HP := Zq_.mk hp; have HS := Zq_.mk (Filt.start hix); have HM := Zq_.mk (Kd.C_max hC); have HLC := Zq_.mk hlc; have HG := Zq_.mk hglt; have HGB := Zq_.mk hgb; have HBS := Zq_.mk hbase; have HI0 := Zq_.mk hrange; have hw0 := Zq_.mk (show wrap64 ((i0 : Int) + 1) = ((i0 + 1 : Nat) : Int) by have := HM.out; have := HI0.out; unfold wrap64; omega); clear hR hp hC hix hlc hrange hbase hglt hgb hlen hm
  go_enter Try.func42, Try.ntmps42
  go_wp2_with fail
  refine hcall.mono ?_; rintro e w1 ⟨rfl, hb1⟩; have HB1 := Zq_.mk hb1; clear hb1 hcall
  go_wp2_with fail
  go_loopg [5, 6, 7] l0.length (fun gg s5 s6 _ wr => ∃ (i j : Int) (cur : List S36), s5 = .int .i64 i ∧ s6 = .int .i64 j ∧ Zq_ (0 ≤ i ∧ 0 ≤ j ∧ l0.length - j.toNat ≤ gg) ∧ Zq_ (Filt (fun x => !p x) l0 cur i.toNat j.toNat) ∧ Zq_ (w.grownBy wr (some gr)) ∧ Zq_ (Kd.N k36 36 wr base ok (.slice (some ⟨gr, 0, none⟩) l0.length c0) cur))
  case atStart => exact ⟨(i0 : Int), wrap64 ((i0 : Int) + 1), l0, rfl, rfl, ⟨by rw [hw0.out]; omega⟩, ⟨by rw [hw0.out]; simpa using HS.out⟩, ⟨grown_of_below HB1.out _⟩, ⟨Kd.va_ HR0.out HB1.out⟩⟩
  case round =>
   obtain ⟨i, j, cur, rfl, rfl, HI, HF, HW, HR⟩ := hrel; have hlen := HF.out.len
   by_cases hlt : j < (l0.length : Int)
   ·have hltb : decide (j < (l0.length : Int)) = true := decide_eq_true hlt; have p1 := HI.out.2.1; have q1 := HI.out.1
    have hil : i < (l0.length : Int) := by have := HF.out.ij; have := HF.out.jn; omega
    obtain ⟨c, hcl, hM, hcc, hfr⟩ := Kd.N_elem HR.out z36 j p1 hlt; obtain ⟨x, hx⟩ : ∃ x, x = cur.getD j.toNat z36 := ⟨_, rfl⟩; rw [← hx] at hM; obtain ⟨Ax, cx, rfl, lx_, gx_⟩ := k36_openF hM; obtain ⟨co, hclo, hMo, hcco, hfro⟩ := Kd.N_elem HR.out z36 i q1 hil; obtain ⟨yo, hyo⟩ : ∃ y, y = cur.getD i.toNat z36 := ⟨_, rfl⟩; rw [← hyo] at hMo; obtain ⟨Ay, cy, rfl, ly_, gy_⟩ := k36_openF hMo; have HMX := Zq_.mk hM; have hx_0 := hcc 0 _ rfl; have hx_1 := hcc 1 _ rfl; have hx_2 := hcc 2 _ rfl; have hx_3 := hcc 3 _ rfl; have hx_4 := hcc 4 _ rfl; have hx_5 := hcc 5 _ rfl; have hx_6 := hcc 6 _ rfl; simp only [show (k36).sz = 7 from rfl, Nat.add_zero] at hx_0 hx_1 hx_2 hx_3 hx_4 hx_5 hx_6
    have hcl2 : ∀ W, Below wr.heap.size wr W → Calls Try.prog g (#[.agg #[.int .i64 x.f0, .int .i64 x.f1, .int .i64 x.f2, .int .i64 x.f3.f0, .slice Ax x.f3.f1.length cx, .bool x.f4, .int .i64 x.f5]] ++ lb) W (fun e w1 => e = .returned (.bool (p x)) ∧ Below W.heap.size W w1) := fun W hW => HP.out W x [.int .i64 x.f0, .int .i64 x.f1, .int .i64 x.f2, .int .i64 x.f3.f0, .slice Ax x.f3.f1.length cx, .bool x.f4, .int .i64 x.f5] (grown_bel HW.out hW) ((k36).K_below hW (Kd.FK_now HMX.out))
    have HL := Zq_.mk hlt; have HIL := Zq_.mk hil; have HX := Zq_.mk hx; have HN := Zq_.mk hlen; have HCC := Zq_.mk hcco; replace p1 := eq_true p1; replace q1 := eq_true q1; replace hlt := eq_true hlt; replace hil := eq_true hil; have hwj := Zq_.mk (show wrap64 (j + 1) = j + 1 by have := HI.out; have := HM.out; have := HL.out; unfold wrap64; omega); have hwi := Zq_.mk (show wrap64 (i + 1) = i + 1 by have := HI.out; have := HM.out; have := HIL.out; unfold wrap64; omega); clear hcl hM hcc hfr hclo hMo hcco hfro hx hlen lx_ gx_ ly_ gy_ hyo
    go_wp2_with (first | ((with_reducible refine qc_ (N := 7) rfl ?_); refine bE_ 7 #[.int .i64 0, .int .i64 0, .int .i64 0, .int .i64 0, .slice none 0 0, .bool false, .int .i64 0] 36 ?_; intro gb hgb w2 hbox hb2; have HBX := Zq_.mk hbox; have HB2 := Zq_.mk hb2; have HGE := Zq_.mk hgb; have hcz_0 : w2.cell? ⟨gb, 0, none⟩ = some (.int .i64 0) := (qa_ hbox 0).trans rfl; have hcz_1 : w2.cell? ⟨gb, 1, none⟩ = some (.int .i64 0) := (qa_ hbox 1).trans rfl; have hcz_2 : w2.cell? ⟨gb, 2, none⟩ = some (.int .i64 0) := (qa_ hbox 2).trans rfl; have hcz_3 : w2.cell? ⟨gb, 3, none⟩ = some (.int .i64 0) := (qa_ hbox 3).trans rfl; have hcz_4 : w2.cell? ⟨gb, 4, none⟩ = some (.slice none 0 0) := (qa_ hbox 4).trans rfl; have hcz_5 : w2.cell? ⟨gb, 5, none⟩ = some (.bool false) := (qa_ hbox 5).trans rfl; have hcz_6 : w2.cell? ⟨gb, 6, none⟩ = some (.int .i64 0) := (qa_ hbox 6).trans rfl; have hfz_0 := qf_ hbox 0; have hfz_1 := qf_ hbox 1; have hfz_2 := qf_ hbox 2; have hfz_3 := qf_ hbox 3; have hfz_4 := qf_ hbox 4; have hfz_5 := qf_ hbox 5; have hfz_6 := qf_ hbox 6; clear hgb hbox hb2))
    have hge : wr.heap.size ≤ gb := by rw [HGE.out]; exact Nat.le_refl _
    have HBT := (qj_ (qj_ (qj_ (qj_ (qj_ (qj_ (qj_ HB2.out hge (j := 0) (v := .int .i64 x.f0)) hge (j := 1) (v := .int .i64 x.f1)) hge (j := 2) (v := .int .i64 x.f2)) hge (j := 3) (v := .int .i64 x.f3.f0)) hge (j := 4) (v := .slice Ax x.f3.f1.length cx)) hge (j := 5) (v := .bool x.f4)) hge (j := 6) (v := .int .i64 x.f5)); have hcl3 := hcl2 _ HBT; have HB0 := Zq_.mk HBT; have BK0 := Zq_.mk (qv_ (qv_ (qv_ (qv_ (qv_ (qv_ (qv_ HBX.out 0 (.int .i64 x.f0)) 1 (.int .i64 x.f1)) 2 (.int .i64 x.f2)) 3 (.int .i64 x.f3.f0)) 4 (.slice Ax x.f3.f1.length cx)) 5 (.bool x.f4)) 6 (.int .i64 x.f5)); clear hcl2 HBT
    cases hq : p x with
    | true =>
     rw [hq] at hcl3; have HQ := Zq_.mk hq; clear hq; refine hcl3.mono ?_; rintro e w3 ⟨rfl, hb3⟩; have HB3 := Zq_.mk (qe_ HB0.out hb3); clear hb3 hcl3
     go_wp2_with fail
     go_roundg (l0.length - (j.toNat + 1))
     case measure => have h1 := HI.out; have h2 := HL.out; omega
     case rel => exact ⟨i, wrap64 (j + 1), cur, eS_, eS_, ⟨by rw [hwj.out]; have h1 := HI.out; have h2 := HL.out; omega⟩, ⟨by rw [hwj.out, show (j + 1).toNat = j.toNat + 1 by have h1 := HI.out; omega]; exact HF.out.skip z36 (by have h1 := HI.out; have h2 := HL.out; omega) (by simp only [← HX.out, HQ.out, Bool.not_true])⟩, ⟨grown_bel HW.out HB3.out⟩, ⟨Kd.va_ HR.out HB3.out⟩⟩
    | false =>
     rw [hq] at hcl3; have HQ := Zq_.mk hq; clear hq; refine hcl3.mono ?_; rintro e w3 ⟨rfl, hb3⟩; have HB3 := Zq_.mk (qe_ HB0.out hb3); have BK3 := Zq_.mk (blk_bel BK0.out hb3); have hy_0 : w3.cell? ⟨gb, 0, none⟩ = some (.int .i64 x.f0) := (qa_ BK3.out 0).trans rfl; have hy_1 : w3.cell? ⟨gb, 1, none⟩ = some (.int .i64 x.f1) := (qa_ BK3.out 1).trans rfl; have hy_2 : w3.cell? ⟨gb, 2, none⟩ = some (.int .i64 x.f2) := (qa_ BK3.out 2).trans rfl; have hy_3 : w3.cell? ⟨gb, 3, none⟩ = some (.int .i64 x.f3.f0) := (qa_ BK3.out 3).trans rfl; have hy_4 : w3.cell? ⟨gb, 4, none⟩ = some (.slice Ax x.f3.f1.length cx) := (qa_ BK3.out 4).trans rfl; have hy_5 : w3.cell? ⟨gb, 5, none⟩ = some (.bool x.f4) := (qa_ BK3.out 5).trans rfl; have hy_6 : w3.cell? ⟨gb, 6, none⟩ = some (.int .i64 x.f5) := (qa_ BK3.out 6).trans rfl; have HMX3 := Zq_.mk (Kd.FK_below HMX.out HB3.out); have HR3 := Zq_.mk (Kd.va_ HR.out HB3.out); have HW3 := Zq_.mk (grown_bel HW.out HB3.out); have HBb := Zq_.mk (show Below base w w3 from (Below.refl base w).grown HW3.out HBS.out (fun k hk => by cases hk; exact HGB.out)); clear hb3 hcl3
     go_wp2_with (first | ((with_reducible refine gate_store (t := 36) (p := 33) rfl ?_); refine Kd.N_store k36 (w0 := w) (W := w3) base rfl rfl 36 (.tmp 33) (.tmp 32) rfl 36 (g := gr) (n := l0.length) (cap := c0) (o' := i.toNat * 7) i 0 cur x (.agg #[.int .i64 x.f0, .int .i64 x.f1, .int .i64 x.f2, .int .i64 x.f3.f0, .slice Ax x.f3.f1.length cx, .bool x.f4, .int .i64 x.f5]) [.int .i64 x.f0, .int .i64 x.f1, .int .i64 x.f2, .int .i64 x.f3.f0, .slice Ax x.f3.f1.length cx, .bool x.f4, .int .i64 x.f5] [.int .i64 yo.f0, .int .i64 yo.f1, .int .i64 yo.f2, .int .i64 yo.f3.f0, .slice Ay yo.f3.f1.length cy, .bool yo.f4, .int .i64 yo.f5] ok (fun k => ok k ∧ k ≠ gr) ?ha ?ho ?hx rfl (by kernel_rfl) ?h1 HR3.out (of_eq_true q1) (of_eq_true hil) rfl ?hcc (show (7 : Nat) ≤ 7 from Nat.le_refl 7) HMX3.out (fun _ hk => hk) HBb.out ?_; (case ha => first | rfl | (go_simp; done) | (go_simp; rfl)); (case ho => first | rfl | (simp; done)); (case hx => first | rfl | (go_simp; done) | (go_simp; rfl)); (case h1 => intro q hq_; simp only [List.mem_cons, List.not_mem_nil, or_false] at hq_; rcases hq_ with rfl | rfl | rfl | rfl | rfl | rfl | rfl <;> rfl); (case hcc => intro jj u hu; rw [show w3.cell? ⟨gr, i.toNat * (k36).sz + jj, none⟩ = wr.cell? ⟨gr, i.toNat * (k36).sz + jj, none⟩ from HB3.out.cell (p := ⟨gr, i.toNat * (k36).sz + jj, none⟩) (wb_ wr _ (HCC.out jj u hu))]; exact HCC.out jj u hu); intro w4 hR4 hB4 hg4; have HR4 := Zq_.mk hR4; have HW4 := Zq_.mk (World.grownBy.trans HW3.out hg4); clear hR4 hB4 hg4))
     go_roundg (l0.length - (j.toNat + 1))
     case measure => have h1 := HI.out; have h2 := HL.out; omega
     case rel => exact ⟨wrap64 (i + 1), wrap64 (j + 1), cur.set i.toNat x, eS_, eS_, ⟨by rw [hwj.out, hwi.out]; have h1 := HI.out; have h2 := HL.out; omega⟩, ⟨by rw [hwj.out, hwi.out, show (j + 1).toNat = j.toNat + 1 by have h1 := HI.out; omega, show (i + 1).toNat = i.toNat + 1 by have h1 := HI.out; omega, HX.out]; exact HF.out.keep z36 (by have h1 := HI.out; have h2 := HL.out; omega) (by simp only [← HX.out, HQ.out, Bool.not_false])⟩, HW4, HR4⟩
   ·have hltb : decide (j < (l0.length : Int)) = false := decide_eq_false hlt; have HL := Zq_.mk hlt; have q1 := HI.out.1
    have hil : i < (l0.length : Int) := by have := HF.out.ij; have := HF.out.jn; have := HI.out; omega
    have hcap : (l0.length : Int) ≤ (c0 : Int) := by have := HLC.out; omega
    have HIL := Zq_.mk hil; have hlen := HF.out.len
    have hcells : ∀ q, q < (l0.length - i.toNat) * 7 → (wr.cell? ⟨gr, i.toNat * 7 + q, none⟩).isSome = true ∧ wr.frozen? ⟨gr, i.toNat * 7 + q, none⟩ = false := by
     intro q hq; obtain ⟨c, hcl, hM, hcc, hfr⟩ := Kd.N_elem HR.out z36 ((i.toNat + q / 7 : Nat) : Int) (by omega) (by omega); obtain ⟨Aq, cq, rfl, _, _⟩ := k36_openF hM
     have e : i.toNat * 7 + q = ((i.toNat + q / 7 : Nat) : Int).toNat * (k36).sz + q % 7 := by rw [Int.toNat_natCast, show (k36).sz = 7 from rfl]; omega
     rw [e]; refine ⟨?_, hfr _⟩
     have h3 : q % 7 = 0 ∨ q % 7 = 1 ∨ q % 7 = 2 ∨ q % 7 = 3 ∨ q % 7 = 4 ∨ q % 7 = 5 ∨ q % 7 = 6 := by omega
     rcases h3 with h3 | h3 | h3 | h3 | h3 | h3 | h3 <;> rw [h3, hcc _ _ rfl] <;> rfl
    have hcl : ∀ ty, (Builtin.clear_ #[22] ty #[.slice (some ⟨gr, i.toNat * 7, none⟩) (l0.length - i.toNat) (c0 - i.toNat)]).run Try.prog wr = .ok (.tuple #[]) (wr.setCells gr (i.toNat * 7) (Builtin.zeroCells #[.int .i64 0, .int .i64 0, .int .i64 0, .int .i64 0, .slice none 0 0, .bool false, .int .i64 0] (l0.length - i.toNat)).toList) := fun ty =>
     run_clear_rows wr 22 36 ty (.agg #[.int .i64 0, .int .i64 0, .int .i64 0, .int .i64 0, .slice none 0 0, .bool false, .int .i64 0]) Try.underlying22 (fun _ => by kernel_rfl) (by intro u hu; simp only [Value.cells, List.mem_cons, List.not_mem_nil, or_false] at hu; rcases hu with rfl | rfl | rfl | rfl | rfl | rfl | rfl <;> rfl) gr (i.toNat * 7) _ _ (by omega) (fun q hq => (hcells q hq).1) (fun q hq => (hcells q hq).2)
    have HFIN := Zq_.mk (DeleteFuncX.rest HR.out i.toNat (by omega) (Builtin.zeroCells #[.int .i64 0, .int .i64 0, .int .i64 0, .int .i64 0, .slice none 0 0, .bool false, .int .i64 0] (l0.length - i.toNat)).toList (by rw [zero_len]; show _ * 7 = _ * 7; rw [hlen])); have HN := Zq_.mk hlen
    have hi2 : i ≤ (l0.length : Int) := by omega
    have hi3 : i ≤ (c0 : Int) := by omega
    have hne : (c0 = i.toNat) = False := eq_false (by omega); clear hcells hlt hlen; replace q1 := eq_true q1; replace hil := eq_true hil; replace hi2 := eq_true hi2; replace hi3 := eq_true hi3; replace hcap := eq_true hcap
    go_wp2_with fail
    go_ret
    refine ⟨_, rfl, ?_, World.grownBy.trans HW.out HFIN.out.2, rfl⟩; have h1 := HFIN.out.1; rw [HF.out.done (by have := HL.out; have := HI.out; omega)] at h1; exact h1
def bits_LeadingZeros64.f (a0 : Int) : Option (Int) := (bits_Len64.f a0).bind fun aA => (some (wrap64 (64 - aA)))
theorem bits_LeadingZeros64.calls (a0 : Int) (r : Int) (w : World) (h : bits_LeadingZeros64.f a0 = some r) :
  Calls Try.prog 79 #[.int .u64 a0] w fun e w' => e = .returned (.int .i64 r) ∧ Drawn0 w w' := by
 have H : ((bits_Len64.f a0).bind fun aA => (some (wrap64 (64 - aA)))) = some r := h; clear h; replace H := ob_ H; obtain ⟨aA, A20, H⟩ := H; (try dsimp only at H); have A2 := Zq_.mk A20; clear A20; obtain rfl := Option.some.inj H
 go_enter Try.func79, Try.ntmps79
 go_wp2_with (first | ((with_reducible refine qg_ (f := 81) rfl ?_); refine goesL_ (some 4) rfl rfl Try.func81 (by kernel_rfl) rfl #[.int .u64 a0] rfl aR_ ?_; (with_reducible refine (bits_Len64.calls a0 aA _ A2.out).mono ?_); rintro e w' ⟨rfl, ⟨nd, rfl⟩⟩; refine ⟨_, rfl, ?_⟩))
 go_ret
 exact ⟨by first | rfl | (simp; done) | (simp [*]; done), by repeat (first | exact Drawn0.refl _ | apply Drawn0.step)⟩
def ref09_Mul.l0 : Nat → Int → Int → Int → Int → Int → Option (Int × Int)
 | 0, _, _, _, _, _ => none
 | k + 1, x1, aR, aQ, aO, aN => if x1 > 0 then (if (Int.tmod x1 2) = 1 then ((ref09_Add.f aR aQ aO aN).bind fun aZ => ((ref09_Add.f aO aN aO aN).bind fun aS => (ref09_Mul.l0 k (wrap64 (Int.tdiv x1 2)) aZ.1 aZ.2 aS.1 aS.2))) else ((ref09_Add.f aO aN aO aN).bind fun aY => (ref09_Mul.l0 k (wrap64 (Int.tdiv x1 2)) aR aQ aY.1 aY.2))) else (some (aR, aQ))
def ref09_Mul.f (k : Nat) (a0 : Int) (a1 : Int) : Option (Int × Int) := ref09_Mul.l0 k a1 0 0 0 (IntKind.u64.wrap (a0))
theorem ref09_Mul.mono_l : ∀ k, (∀ y0 y1 y2 y3 y4, LeO (ref09_Mul.l0 k y0 y1 y2 y3 y4) (ref09_Mul.l0 (k + 1) y0 y1 y2 y3 y4))
 | 0 => fun _ _ _ _ _ r h => by simp [ref09_Mul.l0] at h
 | k + 1 => by
  have ih0 := ref09_Mul.mono_l k
  ·intro y0 y1 y2 y3 y4
   unfold ref09_Mul.l0
   with_reducible repeat' first | exact ih0 _ _ _ _ _ | exact LeO.refl _ | exact LeO.none _ | refine LeO.ite ?_ ?_ | refine LeO.bind ?_ (fun _ => ?_)
theorem ref09_Mul.mono : ∀ a0 a1 k, LeO (ref09_Mul.f k a0 a1) (ref09_Mul.f (k + 1) a0 a1) := by
 intro a0 a1 k; have ih0 := ref09_Mul.mono_l k
 unfold ref09_Mul.f
 with_reducible repeat' first | exact ih0 _ _ _ _ _ | exact LeO.refl _ | exact LeO.none _ | refine LeO.ite ?_ ?_ | refine LeO.bind ?_ (fun _ => ?_)
theorem ref09_Mul.calls (k : Nat) (a0 : Int) (a1 : Int) (r1 : Int) (r2 : Int) (w : World) (h : ref09_Mul.f k a0 a1 = some (r1, r2)) :
  Calls Try.prog 55 #[.int .i64 a0, .int .i64 a1] w fun e w' => e = .returned (.agg #[.int .u64 r1, .int .u64 r2]) ∧ Below w.heap.size w w' := by
 have hu81 := Try.underlying81; have HB := Zq_.mk (Below.refl w.heap.size w); have H : (ref09_Mul.l0 k a1 0 0 0 (IntKind.u64.wrap (a0))) = some (r1, r2) := h; clear h; have H' := Zq_.mk H; clear H
 go_enter Try.func55, Try.ntmps55
 go_wp2_with (first | ((with_reducible refine qc_ (N := 4) rfl ?_); refine bE_ 4 #[.int .u64 0, .int .u64 0] 81 ?_; intro aV hg w3 hbox hb; have aF := Zq_.mk (hbox); have GW101 := gW_ (w := w) hg (hB_ HB); have GE101 := gW_ (w := w) hg (hB_ HB); replace HB := sB_ HB hb; clear hb hbox hg) | ((with_reducible refine qc_ (N := 5) rfl ?_); refine bE_ 5 #[.int .u64 0, .int .u64 0] 81 ?_; intro aX hg w4 hbox hb; have aI := Zq_.mk (hbox); have GW102 := gW_ (w := w) hg (by exact hSet_ HB); have GE102 := gW_ (w := w) hg (by exact hSet_ HB); replace HB := sB_ HB hb; have aL := nL_ aF hg; have aP := nG_ aF hg; replace aF := kB_ aF hb; clear hb hbox hg) | ((with_reducible refine qc_ (N := 6) rfl ?_); refine bE_ 6 #[.int .u64 0, .int .u64 0] 81 ?_; intro aW hg w5 hbox hb; have aE := Zq_.mk (hbox); have GW103 := gW_ (w := w) hg (by exact hSet_ HB); have GE103 := gW_ (w := w) hg (by exact hSet_ HB); replace HB := sB_ HB hb; have aD := nL_ aF hg; have aK := nG_ aF hg; replace aF := kB_ aF hb; have aC := nL_ aI hg; have aJ := nG_ aI hg; replace aI := kB_ aI hb; clear hb hbox hg; have hnb6 := aK.out; have hnc6 := aD.out; have hnb7 := aJ.out; have hnc7 := aC.out; obtain ⟨bH, bG⟩ := c2_ aE; obtain ⟨bF, bE⟩ := f2_ aE))
 go_loopg [1] k (fun kq v1 w' => ∃ (aM : Int) (aH : Int) (aG : Int) (aB : Int) (aA : Int), v1 = .int .i64 aM ∧ Zq_ (ref09_Mul.l0 kq aM aH aG aB aA = some (r1, r2)) ∧ Zq_ (kq ≤ k) ∧ Zq_ (w'.heap[aV]? = some (.cells #[.int .u64 0, .int .u64 0] 81 (0, 0))) ∧ Zq_ (w'.heap[aX]? = some (.cells #[.int .u64 aH, .int .u64 aG] 81 (0, 0))) ∧ Zq_ (w'.heap[aW]? = some (.cells #[.int .u64 aB, .int .u64 aA] 81 (0, 0))) ∧ Zq_ (Below w.heap.size w w'))
 case atStart => exact ⟨(a1), (0), (0), (0), (IntKind.u64.wrap (a0)), eS_, H', ⟨Nat.le_refl _⟩, ⟨by refine bF_ aD ?_; refine bF_ aD ?_; exact bK_ aF⟩, ⟨by refine bF_ aC ?_; refine bF_ aC ?_; exact bK_ aI⟩, ⟨by exact bW2_ (bK_ aE)⟩, ⟨by exact hSet_ HB⟩⟩
 case round =>
  clear H'
  try clear p2
  try clear c5
  try clear c6
  try clear c7
  try clear bH
  try clear bG
  try clear bF
  try clear bE
  obtain ⟨aM, aH, aG, aB, aA, rfl, HA, HK1, aF, aI, aE, HB⟩ := hrel
  cases gk with
  | zero => exact absurd HA.out (by simp [ref09_Mul.l0])
  | succ k1 =>
   have H := HA.out; clear HA; simp only [ref09_Mul.l0] at H
   by_cases c9 : aM > 0
   ·rw [if_pos c9] at H; have c9b0 : decide (0 < aM) = true := decide_eq_true c9; clear c9
    by_cases c10 : (Int.tmod aM 2) = 1
    ·rw [if_pos c10] at H; have bJ : ((Int.tmod aM 2) == 1) = true := beq_iff_eq.mpr c10; have bI : ((Int.tmod aM 2) != 1) = false := bne_eq_false_iff_eq.mpr c10; clear c10; replace H := ob_ H; obtain ⟨⟨aU, aT⟩, bM, H⟩ := H; replace H : ((ref09_Add.f aB aA aB aA).bind fun aS => (ref09_Mul.l0 k1 (wrap64 (Int.tdiv aM 2)) aU aT aS.1 aS.2)) = some (r1, r2) := H; have A11 := Zq_.mk bM; clear bM; replace H := ob_ H; obtain ⟨⟨bD, bC⟩, bL, H⟩ := H; replace H : (ref09_Mul.l0 k1 (wrap64 (Int.tdiv aM 2)) aU aT bD bC) = some (r1, r2) := H; have A12 := Zq_.mk bL; clear bL; have H' := Zq_.mk H; clear H; have hnb13 := aP.out; have hnc13 := aL.out; have hnb14 := aC.out; have hnc14 := aJ.out; obtain ⟨hcz15_0, hcz15_1⟩ := c2_ aI; obtain ⟨hfz15_0, hfz15_1⟩ := f2_ aI; have hnb16 := aK.out; have hnc16 := aD.out; obtain ⟨hcz17_0, hcz17_1⟩ := c2_ aE; obtain ⟨hfz17_0, hfz17_1⟩ := f2_ aE
     go_wp2_with (first | ((with_reducible refine qg_ (f := 70) rfl ?_); refine goesL_ (some 17) rfl rfl Try.func70 (by kernel_rfl) rfl #[.agg #[.int .u64 aH, .int .u64 aG], .agg #[.int .u64 aB, .int .u64 aA]] rfl aR_ ?_; (with_reducible refine (ref09_Add.calls aH aG aB aA aU aT _ A11.out).mono ?_); rintro e w18 ⟨rfl, hb⟩; refine ⟨_, rfl, ?_⟩; replace aF := kB_ aF hb; replace aI := kB_ aI hb; replace aE := kB_ aE hb; replace HB := sB_ HB hb; (try clear hb); obtain ⟨hcz19_0, hcz19_1⟩ := c2_ aI; obtain ⟨hfz19_0, hfz19_1⟩ := f2_ aI; obtain ⟨hcz20_0, hcz20_1⟩ := c2_ aE; obtain ⟨hfz20_0, hfz20_1⟩ := f2_ aE) | ((with_reducible refine qg_ (f := 70) rfl ?_); refine goesL_ (some 20) rfl rfl Try.func70 (by kernel_rfl) rfl #[.agg #[.int .u64 aB, .int .u64 aA], .agg #[.int .u64 aB, .int .u64 aA]] rfl aR_ ?_; (with_reducible refine (ref09_Add.calls aB aA aB aA bD bC _ A12.out).mono ?_); rintro e w21 ⟨rfl, hb⟩; refine ⟨_, rfl, ?_⟩; replace aF := Zq_.mk (blk_below (g := aV) (o := .cells #[.int .u64 0, .int .u64 0] 81 (0, 0)) (by refine bF_ aL ?_; refine bF_ aL ?_; exact bK_ aF) hb); replace aI := Zq_.mk (blk_below (g := aX) (o := .cells #[.int .u64 aU, .int .u64 aT] 81 (0, 0)) (by exact bW2_ (bK_ aI)) hb); replace aE := Zq_.mk (blk_below (g := aW) (o := .cells #[.int .u64 aB, .int .u64 aA] 81 (0, 0)) (by refine bF_ aJ ?_; refine bF_ aJ ?_; exact bK_ aE) hb); replace HB := sB_ HB hb; (try clear hb); obtain ⟨hcz22_0, hcz22_1⟩ := c2_ aE; obtain ⟨hfz22_0, hfz22_1⟩ := f2_ aE))
     go_roundg k1
     case measure => have := HK1.out; omega
     case rel => exact ⟨(wrap64 (Int.tdiv aM 2)), (aU), (aT), (bD), (bC), eS_, H', ⟨by have := HK1.out; omega⟩, ⟨by refine bF_ aD ?_; refine bF_ aD ?_; exact bK_ aF⟩, ⟨by refine bF_ aC ?_; refine bF_ aC ?_; exact bK_ aI⟩, ⟨by exact bW2_ (bK_ aE)⟩, ⟨by exact hSet_ HB⟩⟩
    ·rw [if_neg c10] at H; have bJ : ((Int.tmod aM 2) == 1) = false := beq_eq_false_iff_ne.mpr c10; have bI : ((Int.tmod aM 2) != 1) = true := bne_iff_ne.mpr c10; replace H := ob_ H; obtain ⟨⟨bB, bA⟩, bK, H⟩ := H; replace H : (ref09_Mul.l0 k1 (wrap64 (Int.tdiv aM 2)) aH aG bB bA) = some (r1, r2) := H; have A23 := Zq_.mk bK; clear bK; have H' := Zq_.mk H; clear H; have hnb24 := aK.out; have hnc24 := aD.out; have hnb25 := aJ.out; have hnc25 := aC.out; obtain ⟨hcz26_0, hcz26_1⟩ := c2_ aE; obtain ⟨hfz26_0, hfz26_1⟩ := f2_ aE
     go_wp2_with (first | ((with_reducible refine qg_ (f := 70) rfl ?_); refine goesL_ (some 20) rfl rfl Try.func70 (by kernel_rfl) rfl #[.agg #[.int .u64 aB, .int .u64 aA], .agg #[.int .u64 aB, .int .u64 aA]] rfl aR_ ?_; (with_reducible refine (ref09_Add.calls aB aA aB aA bB bA _ A23.out).mono ?_); rintro e w27 ⟨rfl, hb⟩; refine ⟨_, rfl, ?_⟩; replace aF := kB_ aF hb; replace aI := kB_ aI hb; replace aE := kB_ aE hb; replace HB := sB_ HB hb; (try clear hb); obtain ⟨hcz28_0, hcz28_1⟩ := c2_ aE; obtain ⟨hfz28_0, hfz28_1⟩ := f2_ aE))
     go_roundg k1
     case measure => have := HK1.out; omega
     case rel => exact ⟨(wrap64 (Int.tdiv aM 2)), (aH), (aG), (bB), (bA), eS_, H', ⟨by have := HK1.out; omega⟩, ⟨by refine bF_ aD ?_; refine bF_ aD ?_; exact bK_ aF⟩, ⟨by refine bF_ aC ?_; refine bF_ aC ?_; exact bK_ aI⟩, ⟨by exact bW2_ (bK_ aE)⟩, ⟨by exact hSet_ HB⟩⟩
   ·rw [if_neg c9] at H; have c9b0 : decide (0 < aM) = false := decide_eq_false c9; clear c9; simp only [Option.some.injEq, Prod.mk.injEq] at H; obtain ⟨rfl, rfl⟩ := H; have hnb29 := aP.out; have hnc29 := aL.out; have hnb30 := aC.out; have hnc30 := aJ.out; obtain ⟨hcz31_0, hcz31_1⟩ := c2_ aI; obtain ⟨hfz31_0, hfz31_1⟩ := f2_ aI; have hnb32 := aD.out; have hnc32 := aK.out; obtain ⟨hcz33_0, hcz33_1⟩ := c2_ aF; obtain ⟨hfz33_0, hfz33_1⟩ := f2_ aF
    go_wp2
    refine bodyPost_ret (results_cell_row rfl _ _ aV 81 #[.int .u64 aH, .int .u64 aG] (0, 0) _ rfl (by exact bW2_ (bK_ aF)) Try.underlying81 rfl (by kernel_rfl)) rfl ?_; exact ⟨by exact eW_, by exact hSet_ HB⟩
def ref10_Same.f (k : Nat) (aE : Int) (aG : List Int) (aD : Int) (aF : List Int) : Option (Bool) := if aE = aD then ((ref06_Ints.f k aG aF).bind fun aI => (some aI)) else (some false)
theorem ref10_Same.mono : ∀ a0 a1 a2 a3 k, LeO (ref10_Same.f k a0 a1 a2 a3) (ref10_Same.f (k + 1) a0 a1 a2 a3) := by
 intro a0 a1 a2 a3 k
 unfold ref10_Same.f
 with_reducible repeat' first | exact ref06_Ints.mono _ _ _ | exact LeO.refl _ | exact LeO.none _ | refine LeO.ite ?_ ?_ | refine LeO.bind ?_ (fun _ => ?_)
theorem ref10_Same.calls (k : Nat) (aE : Int) (aM : Option Addr) (aK : Nat) (aG : List Int) (aD : Int) (aL : Option Addr) (aJ : Nat) (aF : List Int) (r : Bool) (w : World) (aO : Kd.C (Kd.int .i64) w aM aG.length aG) (aQ : aG.length ≤ aK) (aN : Kd.C (Kd.int .i64) w aL aF.length aF) (aP : aF.length ≤ aJ) (h : ref10_Same.f k aE aG aD aF = some r) :
  Calls Try.prog 36 #[.agg #[.int .i64 aE, .slice aM aG.length aK], .agg #[.int .i64 aD, .slice aL aF.length aJ]] w fun e w' => e = .returned (.bool r) ∧ Below w.heap.size w w' := by
 have hu34 := Try.underlying34; have aU := Zq_.mk aO; have aW := Zq_.mk aQ; clear aO aQ; have aT := Zq_.mk aN; have aV := Zq_.mk aP; clear aN aP; have HB := Zq_.mk (Below.refl w.heap.size w); have H : (if aE = aD then ((ref06_Ints.f k aG aF).bind fun aI => (some aI)) else (some false)) = some r := h; clear h
 by_cases c3 : aE = aD
 ·rw [if_pos c3] at H; have c3b0 : (aE == aD) = true := beq_iff_eq.mpr c3; have c3b1 : (aE != aD) = false := bne_eq_false_iff_eq.mpr c3; clear c3; replace H := ob_ H; obtain ⟨aI, A40, H⟩ := H; (try dsimp only at H); have A4 := Zq_.mk A40; clear A40; obtain rfl := Option.some.inj H
  go_enter Try.func36, Try.ntmps36
  go_wp2_with (first | ((with_reducible refine qc_ (N := 2) rfl ?_); refine bE_ 2 #[.int .i64 aE, .slice aM aG.length aK] 34 ?_; intro aS hg w5 hbox hb; have aA := Zq_.mk (hbox); have aY := gW_ (w := w) hg (hB_ HB); have bA := gW_ (w := w) hg (hB_ HB); replace HB := sB_ HB hb; clear hb hbox hg) | ((with_reducible refine qc_ (N := 3) rfl ?_); refine bE_ 3 #[.int .i64 aD, .slice aL aF.length aJ] 34 ?_; intro aR hg w6 hbox hb; have aH := Zq_.mk (hbox); have aX := gW_ (w := w) hg (by exact hSet_ HB); have aZ := gW_ (w := w) hg (by exact hSet_ HB); replace HB := sB_ HB hb; have aC := nL_ aA hg; have aB := nG_ aA hg; replace aA := kB_ aA hb; clear hb hbox hg; have hnb7 := aC.out; have hnc7 := aB.out; obtain ⟨hcz8_0, hcz8_1⟩ := c2_ aA; obtain ⟨hfz8_0, hfz8_1⟩ := f2_ aA; obtain ⟨hcz9_0, hcz9_1⟩ := c2_ aH; obtain ⟨hfz9_0, hfz9_1⟩ := f2_ aH) | (go_at_call 12; (with_reducible refine (ref06_Ints.calls k _ _ aG _ _ aF aI _ ?side1 ?side2 ?side3 ?side4 A4.out).mono ?_); (case side1 => exact cX_ (Kd.qi_ aU.out HB.out)); (case side2 => exact aW.out); (case side3 => exact cX_ (Kd.qi_ aT.out HB.out)); (case side4 => exact aV.out); rintro e w' ⟨rfl, ⟨nd, rfl⟩⟩))
  go_ret
  exact ⟨by exact eW_, by exact hSet_ HB⟩
 ·rw [if_neg c3] at H; have c3b0 : (aE == aD) = false := beq_eq_false_iff_ne.mpr c3; have c3b1 : (aE != aD) = true := bne_iff_ne.mpr c3; obtain rfl := Option.some.inj H
  go_enter Try.func36, Try.ntmps36
  go_wp2_with (first | ((with_reducible refine qc_ (N := 2) rfl ?_); refine bE_ 2 #[.int .i64 aE, .slice aM aG.length aK] 34 ?_; intro aS hg w10 hbox hb; have aA := Zq_.mk (hbox); have aY := gW_ (w := w) hg (hB_ HB); have bA := gW_ (w := w) hg (hB_ HB); replace HB := sB_ HB hb; clear hb hbox hg) | ((with_reducible refine qc_ (N := 3) rfl ?_); refine bE_ 3 #[.int .i64 aD, .slice aL aF.length aJ] 34 ?_; intro aR hg w11 hbox hb; have aH := Zq_.mk (hbox); have aX := gW_ (w := w) hg (by exact hSet_ HB); have aZ := gW_ (w := w) hg (by exact hSet_ HB); replace HB := sB_ HB hb; have aC := nL_ aA hg; have aB := nG_ aA hg; replace aA := kB_ aA hb; clear hb hbox hg; have hnb12 := aC.out; have hnc12 := aB.out; obtain ⟨hcz13_0, hcz13_1⟩ := c2_ aA; obtain ⟨hfz13_0, hfz13_1⟩ := f2_ aA; obtain ⟨hcz14_0, hcz14_1⟩ := c2_ aH; obtain ⟨hfz14_0, hfz14_1⟩ := f2_ aH))
  go_ret
  exact ⟨by exact eW_, by exact hSet_ HB⟩
open Go.Proofs.YtoghjpoblbdnpaaW.Hw in
theorem ContainsFuncI.calls (p : Int → Bool) (g : Nat) (lb : Array Value) (eg : ∀ args w, (callFunc g args).run Try.prog w = .ok (.enter g args) w) (A0 : Option Addr) (c0 : Nat) (l0 : List Int) (w : World)
  (hp : PredI Try.prog g lb p w) (hr0 : Kd.C (Kd.int .i64) w A0 l0.length l0) :
  Calls Try.prog 72 #[.slice A0 l0.length c0, .func (.func g) #[] lb] w fun e w' => e = .returned (.bool (l0.any p)) ∧ Below w.heap.size w w' := by
 have hcall := IndexFuncI.calls p g lb eg A0 c0 l0 w hp hr0; rw [← idxI_any]; generalize idxI p l0 = r at hcall ⊢; clear hp hr0
 go_enter Try.func72, Try.ntmps72
 go_wp2_with fail
 refine hcall.mono ?_; rintro e w1 ⟨rfl, hb1⟩
 go_wp2_with fail
 go_ret
 exact ⟨rfl, hb1⟩
def watch_Alive.f (l0 : List S36) : Option (List Int) := if l0.length < 17592186044416 then some ((l0.filter (fun x => x.f4)).map (fun x => x.f0)) else none
open Go.Proofs.YtoghjpoblbdnpaaW.Hw in
theorem watch_Alive.pred (w : World) : PredK Try.prog k36 38 #[] aggOf (fun x => x.f4) w := by
 intro W x cs hb hx; obtain ⟨A4, c4, rfl, l4, g4⟩ := k36_open hx; clear hx hb l4 g4; have HB := Zq_.mk (Below.refl W.heap.size W)
 go_enter Try.func38, Try.ntmps38
 go_wp2_with (first | ((with_reducible refine qc_ (N := 1) rfl ?_); (try (refine qo_ (by rfl) ?_; dsimp only)); refine bE_ 1 #[.int .i64 x.f0, .int .i64 x.f1, .int .i64 x.f2, .int .i64 x.f3.f0, .slice A4 x.f3.f1.length c4, .bool x.f4, .int .i64 x.f5] 36 ?_; intro aP hg_ w102 hbox_ hb_; have n0_ := Zq_.mk (qe_ (hB_ HB) hb_); have GE102 := Zq_.mk ((by rw [hg_]; exact (qb_ (hB_ HB)) : W.heap.size ≤ aP)); have n1_ := Zq_.mk (hbox_); clear HB; have HB := n0_; have aA := n1_; clear n0_ n1_; clear hb_ hbox_ hg_; obtain ⟨aO, aN, aM, aL, aK, aJ, aI⟩ := c7_ aA; obtain ⟨aH, aG, aF, aE, aD, aC, aB⟩ := f7_ aA))
 go_ret
 exact ⟨by first | rfl | (simp; done) | (simp [*]; done), (hB_ HB)⟩
open Go.Proofs.YtoghjpoblbdnpaaW.Hw in
theorem watch_Alive.calls (A0 : Option Addr) (c0 : Nat) (l0 : List S36) (r : List Int) (w : World) (hr0 : Kd.C k36 w A0 l0.length l0) (hc0 : l0.length ≤ c0) (h : watch_Alive.f l0 = some r) :
  Calls Try.prog 15 #[.slice A0 l0.length c0] w fun e w' => ∃ v0_ : Value, e = .returned v0_ ∧ Kd.R (Kd.int .i64) 3 w' w.heap.size (fun _ => True) v0_ r ∧ Below w.heap.size w w' := by
 unfold watch_Alive.f at h
 by_cases hl : l0.length < 17592186044416
 case neg => rw [if_neg hl] at h; cases h
 rw [if_pos hl] at h; obtain rfl := Option.some.inj h; clear h; have HC := Zq_.mk (watch_nodes.calls (fun x => x.f4) 38 #[] (fun args w => by first | rfl | (simp [callFunc, Try.func38]; done)) A0 c0 l0 w (watch_Alive.pred w) hr0 hl); clear hr0 hc0 hl
 go_enter Try.func15, Try.ntmps15
 go_wp2_with fail
 refine HC.out.mono ?_; rintro e w1 ⟨v1, rfl, ho, hb⟩; have HO := Zq_.mk ho; have HB := Zq_.mk hb; clear ho hb
 go_wp2_with fail
 go_ret
 exact ⟨_, rfl, HO.out, HB.out⟩
end Go.Proofs.Ytoghjpoblbdnpaa.P

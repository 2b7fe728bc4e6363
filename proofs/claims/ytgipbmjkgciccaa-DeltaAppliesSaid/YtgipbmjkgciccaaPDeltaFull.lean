/- What printed functions come to, and that the machine's calls do it. No condition. -/
import Derived.Test.YtgipbmjkgciccaaPApiEntry74
import Derived.Test.YtgipbmjkgciccaaPApiDelta
namespace Go.Proofs.Ytgipbmjkgciccaa.P
set_option maxHeartbeats 8000000
set_option maxRecDepth 100000
open Go.RowKit Go.Proofs.YtgipbmjkgciccaaW.PrintWords Go.Proofs.YtgipbmjkgciccaaW.PrintLast Go.Proofs.YtgipbmjkgciccaaW.PrintMore
attribute [local go_sem] qv_ qt_ vb_ va_ qm_ ql_ qu_ qs_ Go.Proofs.YtgipbmjkgciccaaW.Hw.string_gtr
set_option linter.unusedVariables false
set_option linter.unusedSimpArgs false
def delta_Full.l0 : Nat → List (S53) → List (S39) → Int → Int → Option ((List (S53)))
 | 0, _, _, _, _ => none
 | k + 1, x3, x6, x7, x8 => if x8 < x7 then (if 0 ≤ x8 then (if x8 < (x6.length : Int) then ((state_Copy.f ((rd_T39 x6 x8).f1.f0) ((rd_T39 x6 x8).f1.f1) ((rd_T39 x6 x8).f1.f2)).bind fun aY => (if x3.length < 2513169434916 then (delta_Full.l0 k (x3 ++ [(⟨(rd_T39 x6 x8).f0, 0, (⟨aY.1, aY.2.1, aY.2.2⟩ : S35)⟩ : S53)]) x6 x7 (wrap64 (x8 + 1))) else (none))) else (none)) else (none)) else (some x3)
def delta_Full.f (k : Nat) (l0 : List (S39)) : Option ((List (S53))) := delta_Full.l0 k ([] : List (S53)) l0 (l0.length : Int) 0
theorem delta_Full.mono_l : ∀ k, (∀ y0 y1 y2 y3, LeO (delta_Full.l0 k y0 y1 y2 y3) (delta_Full.l0 (k + 1) y0 y1 y2 y3))
 | 0 => fun _ _ _ _ r h => by simp [delta_Full.l0] at h
 | k + 1 => by
  have ih0 := delta_Full.mono_l k
  ·intro y0 y1 y2 y3
   unfold delta_Full.l0
   with_reducible repeat' first | exact ih0 _ _ _ _ | exact LeO.refl _ | exact LeO.none _ | refine LeO.ite ?_ ?_ | refine LeO.bind ?_ (fun _ => ?_)
theorem delta_Full.mono : ∀ a0 k, LeO (delta_Full.f k a0) (delta_Full.f (k + 1) a0) := by
 intro a0 k; have ih0 := delta_Full.mono_l k
 unfold delta_Full.f
 with_reducible repeat' first | exact ih0 _ _ _ _ | exact LeO.refl _ | exact LeO.none _ | refine LeO.ite ?_ ?_ | refine LeO.bind ?_ (fun _ => ?_)
def delta_Full.T5 : Bool × List (List Nat × List Nat) := (true, [([], []), ([], []), ([1], [1]), ([], []), ([3], [3]), ([4], [4]), ([2, 5], [2, 5]), ([6], [6]), ([0, 7, 5], [0, 7]), ([8, 8, 0, 1, 2, 3, 4, 5, 6, 7, 8], [0, 8])])
def delta_Full.B5 : List Nat := [0, 0, 2, 0, 8, 24, 62, 126, 255, 511]
theorem delta_Full.tab5 : rtab .any (opsOf Try.f14 5) = delta_Full.T5 := by kernel_rfl
theorem delta_Full.bits5 : waitsOk delta_Full.T5.2 delta_Full.B5 = true := by kernel_rfl
theorem delta_Full.calls (k : Nat) (A0 : Option Addr) (c0 : Nat) (l0 : List (S39)) (r : List (S53)) (w : World) (hr0 : Kd.C k39 w A0 l0.length l0) (hc0 : l0.length ≤ c0) (h : delta_Full.f k l0 = some r) :
  Calls Try.prog 14 #[.slice A0 l0.length c0] w fun e w' => ∃ v0_ : Value, e = .returned (v0_) ∧ Kd.S k53 53 w' w.heap.size (fun _ => True) v0_ r ∧ Below w.heap.size w w' := by
 have hu39 := Try.underlying39; have hu35 := Try.underlying35; have hu53 := Try.underlying53; have HR0 := Zq_.mk hr0; have HC0 := Zq_.mk hc0; clear hr0 hc0; have HB := Zq_.mk (Below.refl w.heap.size w); have H : (delta_Full.l0 k ([] : List (S53)) l0 (l0.length : Int) 0) = some r := h; clear h; have H' := Zq_.mk H; clear H
 go_enter Try.func14, Try.ntmps14
 go_wp2
 go_loopg [3, 8] k (fun kq v3 v8 w' => ∃ (aI : List (S53)) (aA : Int), v8 = .int .i64 aA ∧ Zq_ (delta_Full.l0 kq aI l0 (l0.length : Int) aA = some r) ∧ Zq_ (kq ≤ k) ∧ Zq_ (Kd.S k53 53 w' w.heap.size (fun _ => True) v3 aI) ∧ Zq_ (Below w.heap.size w w'))
 case atStart => exact ⟨(([] : List (S53))), (0), eS_, H', ⟨Nat.le_refl _⟩, ⟨by first | exact Kd.S_nil _ _ _ _ _ | exact Kd.N_nil _ _ _ _ _ | exact Kd.V_nil _ _ _ _ _ | exact Kd.Q_nil _ _ _ _ _ | exact Kd.R_nil _ _ _ _ _⟩, ⟨hB_ HB⟩⟩
 case round =>
  clear H'
  try clear c1
  obtain ⟨aI, aA, rfl, HA, HK1, aD, HB⟩ := hrel
  cases gk with
  | zero => exact absurd HA.out (by simp [delta_Full.l0])
  | succ k1 =>
   have H := HA.out; clear HA; simp only [delta_Full.l0] at H
   by_cases c2 : aA < (l0.length : Int)
   ·rw [if_pos c2] at H; have c2b0 : decide (aA < (l0.length : Int)) = true := decide_eq_true c2; clear c2
    by_cases c3 : 0 ≤ aA
    ·rw [if_pos c3] at H; have c3b0 : decide (0 ≤ aA) = true := decide_eq_true c3; clear c3
     by_cases c4 : aA < (l0.length : Int)
     ·rw [if_pos c4] at H; have c4b0 : decide (aA < (l0.length : Int)) = true := decide_eq_true c4; clear c4; replace H := ob_ H; obtain ⟨⟨aX, aW, aK⟩, A50, H⟩ := H; replace H : (if aI.length < 2513169434916 then (delta_Full.l0 k1 (aI ++ [(⟨(rd_T39 l0 aA).f0, 0, (⟨aX, aW, aK⟩ : S35)⟩ : S53)]) l0 (l0.length : Int) (wrap64 (aA + 1))) else (none)) = some r := H; have A5 := Zq_.mk A50; clear A50
      by_cases c6 : aI.length < 2513169434916
      ·rw [if_pos c6] at H; have LMc6 := Zq_.mk c6; clear c6; obtain ⟨bD, aJ⟩ : ∃ y_ : List (S53), y_ = (aI ++ [(⟨(rd_T39 l0 aA).f0, 0, (⟨aX, aW, aK⟩ : S35)⟩ : S53)]) := ⟨_, rfl⟩
       replace H : (delta_Full.l0 k1 bD l0 (l0.length : Int) (wrap64 (aA + 1))) = some r := by first | (rw [aJ]; with_reducible exact H) | (have H2_ := (Option.bind_some _ _).symm.trans H; rw [aJ]; with_reducible exact H2_) | (have H2_ := (Option.bind_some _ _).symm.trans H; with_reducible exact H2_) | with_reducible exact H | (rw [aJ]; exact H) | exact H
       have bG := Zq_.mk aJ; clear aJ; have H' := Zq_.mk H; clear H; have bC : 0 ≤ (aA : Int) := dA_; have bB : aA < (l0.length : Int) := dA_; obtain ⟨ad101, aH, aG, e101, aR, aQ, aN, aM, aT, aU⟩ := at_T39 HR0.out aA bC bB; cases e101; replace aR := hC_ HB aR; replace aQ := hC_ HB aQ; replace aN := hC_ HB aN; replace aM := hC_ HB aM; have aZ := Zq_.mk aU; have bA := Zq_.mk aT; clear aU aT; replace bC := eq_true bC; replace bB := eq_true bB
       try go_wp2_with (first | ((with_reducible refine qd_ (N := 5) rfl ?_); refine bE_ 5 #[.int .i64 0, .int .i64 0, .int .i64 0, .slice none 0 0] 39 ?_; intro aE hg w7 hbox hb; replace aD := vV_ Kd.S_below aD hb; have aC := Zq_.mk (hbox); have GW102 := gW_ (w := w) hg (hB_ HB); have GE102 := gW_ (w := w) hg (hB_ HB); replace HB := sB_ HB hb; clear hb hbox hg; obtain ⟨hcz8_0, hcz8_1, hcz8_2, hcz8_3⟩ := c4_ aC; obtain ⟨hfz8_0, hfz8_1, hfz8_2, hfz8_3⟩ := f4_ aC))
       obtain ⟨w9, hW_⟩ : ∃ w_, w_ = ((((w7.setCell ⟨aE, 0, none⟩ (.int .i64 ((rd_T39 l0 aA).f0))).setCell ⟨aE, 1, none⟩ (.int .i64 ((rd_T39 l0 aA).f1.f0))).setCell ⟨aE, 2, none⟩ (.int .i64 ((rd_T39 l0 aA).f1.f1))).setCell ⟨aE, 3, none⟩ (.slice aH ((rd_T39 l0 aA).f1.f2).length aG)) := ⟨_, rfl⟩; have n0_ : Zq_ (Kd.S k53 53 w9 w.heap.size (fun _ => True) u3 aI) := (by subst hW_; exact ⟨by (with_reducible repeat (first | apply Kd.S_alloc | apply Kd.S_drewN | apply Kd.S_drew)); exact Kd.S_mono (Kd.S_far (Kd.S_far (Kd.S_far (Kd.S_far (Kd.S_types aD.out aC.out (by decide)) (fun _ hk => hk.2) _) (fun _ hk => hk.2) _) (fun _ hk => hk.2) _) (fun _ hk => hk.2) _) (fun _ hk => trivial)⟩); have n1_ : Zq_ (w9.heap[aE]? = some (.cells #[.int .i64 ((rd_T39 l0 aA).f0), .int .i64 ((rd_T39 l0 aA).f1.f0), .int .i64 ((rd_T39 l0 aA).f1.f1), .slice aH ((rd_T39 l0 aA).f1.f2).length aG] 39 (0, 0))) := (by subst hW_; exact ⟨by exact bW4_ (bK_ aC)⟩); have n2_ : Zq_ (Below w.heap.size w w9) := (by subst hW_; exact ⟨by exact hSet_ HB⟩); (try clear aD); (try clear aC); (try clear HB); rw [← hW_]; clear hW_; have aD := n0_; have aC := n1_; have HB := n2_; clear n0_ n1_ n2_; replace aD := Zq_.mk (Kd.S_drew aD.out); replace aC := Zq_.mk (qi_ aC.out); replace HB := Zq_.mk (qe_ HB.out); refine gS_ 10 (hA_ (b0_ aC) (hA_ (b1_ aC) (hA_ (b2_ aC) (hZ_ (b3_ aC))))) (fun hHeld => ?_); refine qh_ delta_Full.tab5 delta_Full.bits5 (fun HT_ HW_ => ?_); generalize w9.drew = w10 at aD aC HB hHeld ⊢; refine pQ_ 0 HT_ ?_; refine pQ_ 1 HT_ ?_; refine pQ_ 3 HT_ ?_; refine tL_ 2 HT_ HW_ hHeld ?_; refine tL_ 4 HT_ HW_ hHeld ?_; refine oN_ 5 17 10 63 HT_ (fun K hK => ?_); refine goes_ Try.func40 (by kernel_rfl) rfl #[.agg #[.int .i64 ((rd_T39 l0 aA).f1.f0), .int .i64 ((rd_T39 l0 aA).f1.f1), .slice aH ((rd_T39 l0 aA).f1.f2).length aG]] (by rfl) rfl rfl aR_ ?_
       with_reducible refine (state_Copy.calls ((rd_T39 l0 aA).f1.f0) ((rd_T39 l0 aA).f1.f1) _ _ ((rd_T39 l0 aA).f1.f2) aX aW aK _ ?side1 ?side2 A5.out).mono ?_
       (case side1 => exact cX_ (Kd.qg_ aZ.out HB.out)); (case side2 => exact bA.out); rintro e w11 ⟨v106, rfl, ho0, hb⟩; refine ⟨_, rfl, ?_⟩; replace aD := Zq_.mk (Kd.S_elder' (vX_ aD) (Kd.R_base ho0) hb); have aV := Zq_.mk (Kd.vd_ ho0 (qa_ (by exact hSet_ HB))); replace aC := Zq_.mk (qc_ (g := aE) (o := .cells #[.int .i64 ((rd_T39 l0 aA).f0), .int .i64 ((rd_T39 l0 aA).f1.f0), .int .i64 ((rd_T39 l0 aA).f1.f1), .slice aH ((rd_T39 l0 aA).f1.f2).length aG] 39 (0, 0)) (by exact bK_ aC) hb); replace HB := sB_ HB hb; (try clear hb); (try clear ho0); obtain ⟨bI, bF, bE⟩ := Kd.vh_ aV.out; (first | subst bE | (injection bE with f1_ f2_ f3_; have f4_ := f1_.symm; have f5_ := f3_.symm; clear f1_ f2_ f3_; subst f4_; subst f5_)); refine hK.out _ _ (c4_ aC) (fun hHeld => ?_); clear hK K; refine norm_ (a' := ?_) ?_ ?_; rotate_left
       ·show Act.put _ (some 17) _ = _
        simp only [Act.put, sa_, sb_, sc_, i64_w, i32_w]; rfl
       refine pQ_ 6 HT_ ?_; refine oN_ 7 19 10 255 HT_ (fun K hK => ?_); refine value_ (w1 := ?_) (v := ?_) (by rfl) rfl ?_ ?_; rotate_left 2
       ·go_simp
        constructor
        ·rfl
        ·rfl
       refine hK.out _ _ ⟨(qb_ (qy_ aC.out _) 0).trans rfl, (qb_ (qy_ aC.out _) 1).trans rfl, (qb_ (qy_ aC.out _) 2).trans rfl, (qb_ (qy_ aC.out _) 3).trans rfl⟩ (fun hHeld => ?_); clear hK K; refine norm_ (a' := ?_) ?_ ?_; rotate_left
       ·show Act.put _ (some 19) _ = _
        simp only [Act.put, sa_, sb_, sc_, i64_w, i32_w]; rfl
       refine oN_ 8 20 10 511 HT_ (fun K hK => ?_); refine Kd.S_append_step k53 (w0 := w) w.heap.size (by rfl) (.tmp 12) (.tmp 19) 27 53 (.agg #[(.int .i64 0), (.int .i64 0), (.int .i64 0), (.int .i64 0), (.slice none 0 0)]) 56 rfl Try.underlying27 info53 rfl (by decide) (by omega) u3 aI (⟨(rd_T39 l0 aA).f0, 0, (⟨aX, aW, aK⟩ : S35)⟩ : S53) [.int .i64 ((rd_T39 l0 aA).f0), .int .i64 0, .int .i64 aX, .int .i64 aW, .slice bI aK.length bF] (fun _ => True) (fun k_ => some k_ = (.slice bI aK.length bF : Value).ownBlock) rfl rfl ?aP (fun k_ hk_ => ((Kd.R_mono (ok' := fun k_ => ((fun _ => True)) k_ ∧ some k_ ≠ (u3 : Value).ownBlock) (Kd.R_apart' (aV.out) (Kd.S_typed aD.out) (by decide)) (fun k_ hk => ⟨trivial, hk.2⟩))).1 k_ hk_.symm) ?aF ?aO ?aB ?aS ?aL ?_; (case aP => exact k53_mkM _ _ _ (⟨(rd_T39 l0 aA).f0, 0, (⟨aX, aW, aK⟩ : S35)⟩ : S53) (Kd.R_mono (Kd.R_tight rfl (Kd.R_mono (ok' := fun k_ => ((fun _ => True)) k_ ∧ some k_ ≠ (u3 : Value).ownBlock) (Kd.R_apart' (aV.out) (Kd.S_typed aD.out) (by decide)) (fun k_ hk => ⟨trivial, hk.2⟩))) (fun _ h_ => h_))); (case aB => exact (by exact hSet_ HB)); (case aF => exact (fun _ _ => trivial)); (case aO => exact (by (with_reducible repeat (first | apply Kd.S_alloc | apply Kd.S_drewN | apply Kd.S_drew)); exact Kd.S_mono aD.out (fun k_ hk => ⟨trivial, fun e_ => hk.2 e_⟩))); (case aS => exact (qa_ (by exact hSet_ HB))); (case aL => have := LMc6.out; omega); intro v109 w13 ho hb hg hat; rw [← bG.out] at ho; replace aC := Zq_.mk (qz_ (g := aE) (o := .cells #[.int .i64 ((rd_T39 l0 aA).f0), .int .i64 ((rd_T39 l0 aA).f1.f0), .int .i64 ((rd_T39 l0 aA).f1.f1), .slice aH ((rd_T39 l0 aA).f1.f2).length aG] 39 (0, 0)) (by exact bK_ aC) hg (Kd.S_ne aD.out aC.out (by decide))); replace HB := Zq_.mk (hb); have bH := Zq_.mk (ho); clear aD aV; clear ho hb hg hat; refine hK.out _ _ (c4_ aC) (fun hHeld => ?_); clear hK K; refine norm_ (a' := ?_) ?_ ?_; rotate_left
       ·show Act.put _ (some 20) _ = _
        simp only [Act.put, sa_, sb_, sc_, i64_w, i32_w]; rfl
       refine pQ_ 9 HT_ ?_; refine dN_ HT_ ?_; (try go_wp2)
       go_roundg k1
       case measure => have := HK1.out; omega
       case rel => exact ⟨(bD), (wrap64 (aA + 1)), eS_, H', ⟨by have := HK1.out; omega⟩, ⟨by (with_reducible repeat (first | apply Kd.S_alloc | apply Kd.S_drewN | apply Kd.S_drew)); exact bH.out⟩, ⟨by exact hSet_ HB⟩⟩
      ·rw [if_neg c6] at H; exact absurd H (by simp)
     ·rw [if_neg c4] at H; exact absurd H (by simp)
    ·rw [if_neg c3] at H; exact absurd H (by simp)
   ·rw [if_neg c2] at H; have c2b0 : decide (aA < (l0.length : Int)) = false := decide_eq_false c2; clear c2; obtain rfl := Option.some.inj H
    go_wp2
    go_ret
    exact ⟨_, by exact eW_, by (with_reducible repeat (first | apply Kd.S_alloc | apply Kd.S_drewN | apply Kd.S_drew)); exact aD.out, hB_ HB⟩
def ref06_Same.l0 : Nat → List (S39) → List (S39) → Int → Option (Bool)
 | 0, _, _, _ => none
 | k + 1, x0, x1, x5 => if x5 < (x0.length : Int) then (if 0 ≤ x5 then (if x5 < (x1.length : Int) then (if ((rd_T39 x0 x5).f0) = ((rd_T39 x1 x5).f0) then ((ref05_Same.f k ((rd_T39 x0 x5).f1.f0) ((rd_T39 x0 x5).f1.f1) ((rd_T39 x0 x5).f1.f2) ((rd_T39 x1 x5).f1.f0) ((rd_T39 x1 x5).f1.f1) ((rd_T39 x1 x5).f1.f2)).bind fun cP => (if cP = true then (ref06_Same.l0 k x0 x1 (wrap64 (x5 + 1))) else (some false))) else (some false)) else (none)) else (none)) else (some true)
def ref06_Same.f (k : Nat) (l0 : List (S39)) (l1 : List (S39)) : Option (Bool) := if (l0.length : Int) = (l1.length : Int) then (ref06_Same.l0 k l0 l1 0) else (some false)
theorem ref06_Same.mono_l : ∀ k, (∀ y0 y1 y2, LeO (ref06_Same.l0 k y0 y1 y2) (ref06_Same.l0 (k + 1) y0 y1 y2))
 | 0 => fun _ _ _ r h => by simp [ref06_Same.l0] at h
 | k + 1 => by
  have ih0 := ref06_Same.mono_l k
  ·intro y0 y1 y2
   unfold ref06_Same.l0
   with_reducible repeat' first | exact ih0 _ _ _ | exact ref05_Same.mono _ _ _ _ _ _ _ | exact LeO.refl _ | exact LeO.none _ | refine LeO.ite ?_ ?_ | refine LeO.bind ?_ (fun _ => ?_)
theorem ref06_Same.mono : ∀ a0 a1 k, LeO (ref06_Same.f k a0 a1) (ref06_Same.f (k + 1) a0 a1) := by
 intro a0 a1 k; have ih0 := ref06_Same.mono_l k
 unfold ref06_Same.f
 with_reducible repeat' first | exact ih0 _ _ _ | exact ref05_Same.mono _ _ _ _ _ _ _ | exact LeO.refl _ | exact LeO.none _ | refine LeO.ite ?_ ?_ | refine LeO.bind ?_ (fun _ => ?_)
def ref06_Same.T6 : Bool × List (List Nat × List Nat) := (true, [([], []), ([], []), ([0, 1], [0, 1]), ([2], [2]), ([3], [3]), ([], []), ([], []), ([5, 6], [5, 6]), ([7], [7]), ([8], [8]), ([4, 9], [4, 9]), ([10], [10]), ([11], [11]), ([11], [11]), ([12, 13, 11], [11, 12, 13]), ([14, 11], [11, 14]), ([15, 11], [11, 15]), ([11], [11]), ([11], [11]), ([17, 18, 11], [11, 17, 18]), ([19, 11], [11, 19]), ([20, 11], [11, 20]), ([16, 21, 11, 11], [11, 16, 21]), ([22, 11], [11, 22]), ([11, 23], [11, 23])])
def ref06_Same.B6 : List Nat := [0, 0, 3, 7, 15, 0, 0, 96, 224, 480, 1023, 2047, 4095, 4095, 16383, 32767, 65535, 4095, 4095, 397311, 921599, 1970175, 4194303, 8388607, 16777215]
theorem ref06_Same.tab6 : rtab .any (opsOf Try.f22 6) = ref06_Same.T6 := by kernel_rfl
theorem ref06_Same.bits6 : waitsOk ref06_Same.T6.2 ref06_Same.B6 = true := by kernel_rfl
theorem ref06_Same.calls (k : Nat) (A0 : Option Addr) (c0 : Nat) (l0 : List (S39)) (A1 : Option Addr) (c1 : Nat) (l1 : List (S39)) (r : Bool) (w : World) (hr0 : Kd.C k39 w A0 l0.length l0) (hc0 : l0.length ≤ c0) (hr1 : Kd.C k39 w A1 l1.length l1) (hc1 : l1.length ≤ c1) (h : ref06_Same.f k l0 l1 = some r) :
  Calls Try.prog 22 #[.slice A0 l0.length c0, .slice A1 l1.length c1] w fun e w' => e = .returned (.bool r) ∧ Below w.heap.size w w' := by
 have hu35 := Try.underlying35; have HR0 := Zq_.mk hr0; have HC0 := Zq_.mk hc0; clear hr0 hc0; have HR1 := Zq_.mk hr1; have HC1 := Zq_.mk hc1; clear hr1 hc1; have HB := Zq_.mk (Below.refl w.heap.size w); have H : (if (l0.length : Int) = (l1.length : Int) then (ref06_Same.l0 k l0 l1 0) else (some false)) = some r := h; clear h
 by_cases c3 : (l0.length : Int) = (l1.length : Int)
 ·rw [if_pos c3] at H; have cY : ((l0.length : Int) == (l1.length : Int)) = true := beq_iff_eq.mpr c3; have cX : ((l0.length : Int) != (l1.length : Int)) = false := bne_eq_false_iff_eq.mpr c3
  have cW : (l0.length == l1.length) = true := by first | simpa using c3 | (simp at c3 ⊢; omega)
  clear c3; have H' := Zq_.mk H; clear H
  go_enter Try.func22, Try.ntmps22
  go_wp2
  go_loopg [5] k (fun kq v5 w' => ∃ (aA : Int), v5 = .int .i64 aA ∧ Zq_ (ref06_Same.l0 kq l0 l1 aA = some r) ∧ Zq_ (kq ≤ k) ∧ Zq_ (Below w.heap.size w w'))
  case atStart => exact ⟨(0), eS_, H', ⟨Nat.le_refl _⟩, ⟨hB_ HB⟩⟩
  case round =>
   clear H'
   try clear c1
   try clear c2
   try clear p2
   try clear c3
   try clear cY
   try clear cX
   try clear cW
   obtain ⟨aA, rfl, HA, HK1, HB⟩ := hrel
   cases gk with
   | zero => exact absurd HA.out (by simp [ref06_Same.l0])
   | succ k1 =>
    have H := HA.out; clear HA; simp only [ref06_Same.l0] at H
    by_cases c4 : aA < (l0.length : Int)
    ·rw [if_pos c4] at H; have c4b0 : decide (aA < (l0.length : Int)) = true := decide_eq_true c4; clear c4
     by_cases c5 : 0 ≤ aA
     ·rw [if_pos c5] at H; have c5b0 : decide (0 ≤ aA) = true := decide_eq_true c5; clear c5
      by_cases c6 : aA < (l1.length : Int)
      ·rw [if_pos c6] at H; have c6b0 : decide (aA < (l1.length : Int)) = true := decide_eq_true c6; clear c6
       by_cases c7 : ((rd_T39 l0 aA).f0) = ((rd_T39 l1 aA).f0)
       ·rw [if_pos c7] at H; have c7b0 : (((rd_T39 l0 aA).f0) == ((rd_T39 l1 aA).f0)) = true := beq_iff_eq.mpr c7; have c7b1 : (((rd_T39 l0 aA).f0) != ((rd_T39 l1 aA).f0)) = false := bne_eq_false_iff_eq.mpr c7; clear c7; replace H := ob_ H; obtain ⟨cP, A80, H⟩ := H; replace H : (if cP = true then (ref06_Same.l0 k1 l0 l1 (wrap64 (aA + 1))) else (some false)) = some r := H; have A8 := Zq_.mk A80; clear A80
        by_cases c9 : cP = true
        ·subst c9
         have H1 : (ref06_Same.l0 k1 l0 l1 (wrap64 (aA + 1))) = some r := by rw [if_pos rfl] at H; exact H
         clear H; have H := H1; clear H1; have H' := Zq_.mk H; clear H; (try go_wp2); replace HB := Zq_.mk (qe_ HB.out); have bW : 0 ≤ (aA : Int) := dA_; have bU : aA < (l0.length : Int) := dA_; obtain ⟨cI, cC, bY, cM, aI, aH, aG, aC, aS, aU⟩ := at_T39 HR0.out aA bW bU; have aZ := aC; have bA := aG; have bB := aH; have bC := aI; cases cM; replace aI := hC_ HB aI; replace aH := hC_ HB aH; replace aG := hC_ HB aG; replace aC := hC_ HB aC; have bS := Zq_.mk aU; have cK := Zq_.mk aS; clear aU aS; replace bW := eq_true bW; replace bU := eq_true bU; have bV : 0 ≤ (aA : Int) := dA_; have bT : aA < (l1.length : Int) := dA_; obtain ⟨cH, cB, bX, cL, aF, aE, aD, aB, aR, aT⟩ := at_T39 HR1.out aA bV bT; have aV := aB; have aW := aD; have aX := aE; have aY := aF; cases cL; replace aF := hC_ HB aF; replace aE := hC_ HB aE; replace aD := hC_ HB aD; replace aB := hC_ HB aB; have bR := Zq_.mk aT; have cJ := Zq_.mk aR; clear aT aR; replace bV := eq_true bV; replace bT := eq_true bT; have cG : 0 ≤ (aA : Int) := dA_; have cE : aA < (l0.length : Int) := dA_; obtain ⟨cO, cV, cT, cR, aQ, aP, aO, aK, bM, bO⟩ := at_T39 HR0.out aA cG cE; have bH := aK; have bI := aO; have bJ := aP; have bK := aQ; obtain rfl : cI = cO := (by injection cR); replace aQ := hC_ HB aQ; replace aP := hC_ HB aP; replace aO := hC_ HB aO; replace aK := hC_ HB aK; have bQ := Zq_.mk bO; have cA := Zq_.mk bM; clear bO bM; replace cG := eq_true cG; replace cE := eq_true cE; have ea_ := Option.some.inj (aC.symm.trans aK)
         injection ea_ with ea_ en_ ec_
         subst ea_; subst ec_; clear en_; have cF : 0 ≤ (aA : Int) := dA_; have cD : aA < (l1.length : Int) := dA_; obtain ⟨cN, cU, cS, cQ, aN, aM, aL, aJ, bL, bN⟩ := at_T39 HR1.out aA cF cD; have bD := aJ; have bE := aL; have bF := aM; have bG := aN; obtain rfl : cH = cN := (by injection cQ); replace aN := hC_ HB aN; replace aM := hC_ HB aM; replace aL := hC_ HB aL; replace aJ := hC_ HB aJ; have bP := Zq_.mk bN; have bZ := Zq_.mk bL; clear bN bL; replace cF := eq_true cF; replace cD := eq_true cD; have ea_ := Option.some.inj (aB.symm.trans aJ)
         injection ea_ with ea_ en_ ec_
         subst ea_; subst ec_; clear en_; refine gS_ 25 (hA_ (hC_ HB bC) (hA_ (hC_ HB bB) (hA_ (hC_ HB bA) (hA_ (hC_ HB aZ) (hA_ (hC_ HB aY) (hA_ (hC_ HB aX) (hA_ (hC_ HB aW) (hA_ (hC_ HB aV) (hA_ (hC_ HB bK) (hA_ (hC_ HB bJ) (hA_ (hC_ HB bI) (hA_ (hC_ HB bH) (hA_ (hC_ HB bG) (hA_ (hC_ HB bF) (hA_ (hC_ HB bE) (hZ_ (hC_ HB bD))))))))))))))))) (fun hHeld => ?_); refine qh_ ref06_Same.tab6 ref06_Same.bits6 (fun HT_ HW_ => ?_); generalize wr.drew = w10 at HB bS bR bQ bP aI aH aG aC aF aE aD aB aQ aP aO aK aN aM aL aJ hHeld ⊢; refine up0_ 0 ?_; (iterate 4 refine pN_ ?_); refine pQ_ 5 HT_ ?_; refine pQ_ 6 HT_ ?_; refine pQ_ 7 HT_ ?_; refine pQ_ 8 HT_ ?_; refine tL_ 4 HT_ HW_ hHeld ?_; refine up0_ 9 ?_; (iterate 7 first | refine pN_ ?_ | refine tN_ ?_); refine pQ_ 17 HT_ ?_; refine pQ_ 18 HT_ ?_; refine pQ_ 19 HT_ ?_; refine pQ_ 20 HT_ ?_; refine tL_ 16 HT_ HW_ hHeld ?_; refine tL_ 21 HT_ HW_ hHeld ?_; refine oN_ 22 39 25 8388607 HT_ (fun K hK => ?_); refine goes_ Try.func38 (by kernel_rfl) rfl #[.agg #[.int .i64 ((rd_T39 l0 aA).f1.f0), .int .i64 ((rd_T39 l0 aA).f1.f1), .slice cC ((rd_T39 l0 aA).f1.f2).length bY], .agg #[.int .i64 ((rd_T39 l1 aA).f1.f0), .int .i64 ((rd_T39 l1 aA).f1.f1), .slice cB ((rd_T39 l1 aA).f1.f2).length bX]] (by rfl) rfl rfl aR_ ?_
         with_reducible refine (ref05_Same.calls k1 ((rd_T39 l0 aA).f1.f0) ((rd_T39 l0 aA).f1.f1) _ _ ((rd_T39 l0 aA).f1.f2) ((rd_T39 l1 aA).f1.f0) ((rd_T39 l1 aA).f1.f1) _ _ ((rd_T39 l1 aA).f1.f2) true _ ?side1 ?side2 ?side3 ?side4 A8.out).mono ?_
         (case side1 => exact cX_ (Kd.qg_ bQ.out HB.out)); (case side2 => exact cA.out); (case side3 => exact cX_ (Kd.qg_ bP.out HB.out)); (case side4 => exact bZ.out); rintro e w11 ⟨rfl, hb⟩; refine ⟨_, rfl, ?_⟩; replace HB := sB_ HB hb; (try clear hb); refine hK.out _ _ ⟨(hC_ HB bC), (hC_ HB bB), (hC_ HB bA), (hC_ HB aZ), (hC_ HB aY), (hC_ HB aX), (hC_ HB aW), (hC_ HB aV), (hC_ HB bK), (hC_ HB bJ), (hC_ HB bI), (hC_ HB bH), (hC_ HB bG), (hC_ HB bF), (hC_ HB bE), (hC_ HB bD)⟩ (fun hHeld => ?_); clear hK K; refine norm_ (a' := ?_) ?_ ?_; rotate_left
         ·show Act.put _ (some 39) _ = _
          simp only [Act.put, sa_, sb_, sc_, i64_w, i32_w]; rfl
         refine pQ_ 23 HT_ ?_; refine pQ_ 24 HT_ ?_; refine dN_ HT_ ?_; (try go_wp2)
         go_roundg k1
         case measure => have := HK1.out; omega
         case rel => exact ⟨(wrap64 (aA + 1)), eS_, H', ⟨by have := HK1.out; omega⟩, ⟨hB_ HB⟩⟩
        ·replace c9 := Bool.eq_false_iff.mpr c9; subst c9
         have H1 : (some false) = some r := by rw [if_neg (show ¬ (false = true) by decide)] at H; exact H
         clear H; have H := H1; clear H1; obtain rfl := Option.some.inj H; (try go_wp2); replace HB := Zq_.mk (qe_ HB.out); have bW : 0 ≤ (aA : Int) := dA_; have bU : aA < (l0.length : Int) := dA_; obtain ⟨cI, cC, bY, cM, aI, aH, aG, aC, aS, aU⟩ := at_T39 HR0.out aA bW bU; have aZ := aC; have bA := aG; have bB := aH; have bC := aI; cases cM; replace aI := hC_ HB aI; replace aH := hC_ HB aH; replace aG := hC_ HB aG; replace aC := hC_ HB aC; have bS := Zq_.mk aU; have cK := Zq_.mk aS; clear aU aS; replace bW := eq_true bW; replace bU := eq_true bU; have bV : 0 ≤ (aA : Int) := dA_; have bT : aA < (l1.length : Int) := dA_; obtain ⟨cH, cB, bX, cL, aF, aE, aD, aB, aR, aT⟩ := at_T39 HR1.out aA bV bT; have aV := aB; have aW := aD; have aX := aE; have aY := aF; cases cL; replace aF := hC_ HB aF; replace aE := hC_ HB aE; replace aD := hC_ HB aD; replace aB := hC_ HB aB; have bR := Zq_.mk aT; have cJ := Zq_.mk aR; clear aT aR; replace bV := eq_true bV; replace bT := eq_true bT; have cG : 0 ≤ (aA : Int) := dA_; have cE : aA < (l0.length : Int) := dA_; obtain ⟨cO, cV, cT, cR, aQ, aP, aO, aK, bM, bO⟩ := at_T39 HR0.out aA cG cE; have bH := aK; have bI := aO; have bJ := aP; have bK := aQ; obtain rfl : cI = cO := (by injection cR); replace aQ := hC_ HB aQ; replace aP := hC_ HB aP; replace aO := hC_ HB aO; replace aK := hC_ HB aK; have bQ := Zq_.mk bO; have cA := Zq_.mk bM; clear bO bM; replace cG := eq_true cG; replace cE := eq_true cE; have ea_ := Option.some.inj (aC.symm.trans aK)
         injection ea_ with ea_ en_ ec_
         subst ea_; subst ec_; clear en_; have cF : 0 ≤ (aA : Int) := dA_; have cD : aA < (l1.length : Int) := dA_; obtain ⟨cN, cU, cS, cQ, aN, aM, aL, aJ, bL, bN⟩ := at_T39 HR1.out aA cF cD; have bD := aJ; have bE := aL; have bF := aM; have bG := aN; obtain rfl : cH = cN := (by injection cQ); replace aN := hC_ HB aN; replace aM := hC_ HB aM; replace aL := hC_ HB aL; replace aJ := hC_ HB aJ; have bP := Zq_.mk bN; have bZ := Zq_.mk bL; clear bN bL; replace cF := eq_true cF; replace cD := eq_true cD; have ea_ := Option.some.inj (aB.symm.trans aJ)
         injection ea_ with ea_ en_ ec_
         subst ea_; subst ec_; clear en_; refine gS_ 25 (hA_ (hC_ HB bC) (hA_ (hC_ HB bB) (hA_ (hC_ HB bA) (hA_ (hC_ HB aZ) (hA_ (hC_ HB aY) (hA_ (hC_ HB aX) (hA_ (hC_ HB aW) (hA_ (hC_ HB aV) (hA_ (hC_ HB bK) (hA_ (hC_ HB bJ) (hA_ (hC_ HB bI) (hA_ (hC_ HB bH) (hA_ (hC_ HB bG) (hA_ (hC_ HB bF) (hA_ (hC_ HB bE) (hZ_ (hC_ HB bD))))))))))))))))) (fun hHeld => ?_); refine qh_ ref06_Same.tab6 ref06_Same.bits6 (fun HT_ HW_ => ?_); generalize wr.drew = w12 at HB bS bR bQ bP aI aH aG aC aF aE aD aB aQ aP aO aK aN aM aL aJ hHeld ⊢; refine up0_ 0 ?_; (iterate 4 refine pN_ ?_); refine pQ_ 5 HT_ ?_; refine pQ_ 6 HT_ ?_; refine pQ_ 7 HT_ ?_; refine pQ_ 8 HT_ ?_; refine tL_ 4 HT_ HW_ hHeld ?_; refine up0_ 9 ?_; (iterate 7 first | refine pN_ ?_ | refine tN_ ?_); refine pQ_ 17 HT_ ?_; refine pQ_ 18 HT_ ?_; refine pQ_ 19 HT_ ?_; refine pQ_ 20 HT_ ?_; refine tL_ 16 HT_ HW_ hHeld ?_; refine tL_ 21 HT_ HW_ hHeld ?_; refine oN_ 22 39 25 8388607 HT_ (fun K hK => ?_); refine goes_ Try.func38 (by kernel_rfl) rfl #[.agg #[.int .i64 ((rd_T39 l0 aA).f1.f0), .int .i64 ((rd_T39 l0 aA).f1.f1), .slice cC ((rd_T39 l0 aA).f1.f2).length bY], .agg #[.int .i64 ((rd_T39 l1 aA).f1.f0), .int .i64 ((rd_T39 l1 aA).f1.f1), .slice cB ((rd_T39 l1 aA).f1.f2).length bX]] (by rfl) rfl rfl aR_ ?_
         with_reducible refine (ref05_Same.calls k1 ((rd_T39 l0 aA).f1.f0) ((rd_T39 l0 aA).f1.f1) _ _ ((rd_T39 l0 aA).f1.f2) ((rd_T39 l1 aA).f1.f0) ((rd_T39 l1 aA).f1.f1) _ _ ((rd_T39 l1 aA).f1.f2) false _ ?side1 ?side2 ?side3 ?side4 A8.out).mono ?_
         (case side1 => exact cX_ (Kd.qg_ bQ.out HB.out)); (case side2 => exact cA.out); (case side3 => exact cX_ (Kd.qg_ bP.out HB.out)); (case side4 => exact bZ.out); rintro e w13 ⟨rfl, hb⟩; refine ⟨_, rfl, ?_⟩; replace HB := sB_ HB hb; (try clear hb); refine hK.out _ _ ⟨(hC_ HB bC), (hC_ HB bB), (hC_ HB bA), (hC_ HB aZ), (hC_ HB aY), (hC_ HB aX), (hC_ HB aW), (hC_ HB aV), (hC_ HB bK), (hC_ HB bJ), (hC_ HB bI), (hC_ HB bH), (hC_ HB bG), (hC_ HB bF), (hC_ HB bE), (hC_ HB bD)⟩ (fun hHeld => ?_); clear hK K; refine norm_ (a' := ?_) ?_ ?_; rotate_left
         ·show Act.put _ (some 39) _ = _
          simp only [Act.put, sa_, sb_, sc_, i64_w, i32_w]; rfl
         refine pQ_ 23 HT_ ?_; refine pQ_ 24 HT_ ?_; refine dN_ HT_ ?_; (try go_wp2)
         go_ret
         exact ⟨by exact eW_, hB_ HB⟩
       ·rw [if_neg c7] at H; have c7b0 : (((rd_T39 l0 aA).f0) == ((rd_T39 l1 aA).f0)) = false := beq_eq_false_iff_ne.mpr c7; have c7b1 : (((rd_T39 l0 aA).f0) != ((rd_T39 l1 aA).f0)) = true := bne_iff_ne.mpr c7; obtain rfl := Option.some.inj H; (try go_wp2); replace HB := Zq_.mk (qe_ HB.out); have bW : 0 ≤ (aA : Int) := dA_; have bU : aA < (l0.length : Int) := dA_; obtain ⟨cI, cC, bY, cM, aI, aH, aG, aC, aS, aU⟩ := at_T39 HR0.out aA bW bU; have aZ := aC; have bA := aG; have bB := aH; have bC := aI; cases cM; replace aI := hC_ HB aI; replace aH := hC_ HB aH; replace aG := hC_ HB aG; replace aC := hC_ HB aC; have bS := Zq_.mk aU; have cK := Zq_.mk aS; clear aU aS; replace bW := eq_true bW; replace bU := eq_true bU; have bV : 0 ≤ (aA : Int) := dA_; have bT : aA < (l1.length : Int) := dA_; obtain ⟨cH, cB, bX, cL, aF, aE, aD, aB, aR, aT⟩ := at_T39 HR1.out aA bV bT; have aV := aB; have aW := aD; have aX := aE; have aY := aF; cases cL; replace aF := hC_ HB aF; replace aE := hC_ HB aE; replace aD := hC_ HB aD; replace aB := hC_ HB aB; have bR := Zq_.mk aT; have cJ := Zq_.mk aR; clear aT aR; replace bV := eq_true bV; replace bT := eq_true bT; refine gS_ 25 (hA_ (hC_ HB bC) (hA_ (hC_ HB bB) (hA_ (hC_ HB bA) (hA_ (hC_ HB aZ) (hA_ (hC_ HB aY) (hA_ (hC_ HB aX) (hA_ (hC_ HB aW) (hZ_ (hC_ HB aV))))))))) (fun hHeld => ?_); refine qh_ ref06_Same.tab6 ref06_Same.bits6 (fun HT_ HW_ => ?_); generalize wr.drew = w14 at HB bS bR aI aH aG aC aF aE aD aB hHeld ⊢; refine up0_ 0 ?_; (iterate 4 refine pN_ ?_); refine pQ_ 5 HT_ ?_; refine pQ_ 6 HT_ ?_; refine pQ_ 7 HT_ ?_; refine pQ_ 8 HT_ ?_; refine tL_ 4 HT_ HW_ hHeld ?_; refine up0_ 9 ?_; (iterate 16 first | refine vN_ ?_ | refine pN_ ?_ | refine tN_ ?_); refine dN_ HT_ ?_; (try go_wp2)
        go_ret
        exact ⟨by exact eW_, hB_ HB⟩
      ·rw [if_neg c6] at H; exact absurd H (by simp)
     ·rw [if_neg c5] at H; exact absurd H (by simp)
    ·rw [if_neg c4] at H; have c4b0 : decide (aA < (l0.length : Int)) = false := decide_eq_false c4; clear c4; obtain rfl := Option.some.inj H
     go_wp2
     go_ret
     exact ⟨by exact eW_, hB_ HB⟩
 ·rw [if_neg c3] at H; have cY : ((l0.length : Int) == (l1.length : Int)) = false := beq_eq_false_iff_ne.mpr c3; have cX : ((l0.length : Int) != (l1.length : Int)) = true := bne_iff_ne.mpr c3
  have cW : (l0.length == l1.length) = false := by first | simpa using c3 | (simp at c3 ⊢; omega)
  obtain rfl := Option.some.inj H
  go_enter Try.func22, Try.ntmps22
  go_wp2
  go_ret
  exact ⟨by exact eW_, hB_ HB⟩
def ref08_Same.l0 : Nat → List (S53) → List (S53) → Int → Option (Bool)
 | 0, _, _, _ => none
 | k + 1, x0, x1, x5 => if x5 < (x0.length : Int) then (if 0 ≤ x5 then (if x5 < (x1.length : Int) then (if ((rd_T53 x0 x5).f0) = ((rd_T53 x1 x5).f0) then (if ((rd_T53 x0 x5).f1) = ((rd_T53 x1 x5).f1) then ((ref05_Same.f k ((rd_T53 x0 x5).f2.f0) ((rd_T53 x0 x5).f2.f1) ((rd_T53 x0 x5).f2.f2) ((rd_T53 x1 x5).f2.f0) ((rd_T53 x1 x5).f2.f1) ((rd_T53 x1 x5).f2.f2)).bind fun eL => (if eL = true then (ref08_Same.l0 k x0 x1 (wrap64 (x5 + 1))) else (some false))) else (some false)) else (some false)) else (none)) else (none)) else (some true)
def ref08_Same.f (k : Nat) (l0 : List (S53)) (l1 : List (S53)) : Option (Bool) := if (l0.length : Int) = (l1.length : Int) then (ref08_Same.l0 k l0 l1 0) else (some false)
theorem ref08_Same.mono_l : ∀ k, (∀ y0 y1 y2, LeO (ref08_Same.l0 k y0 y1 y2) (ref08_Same.l0 (k + 1) y0 y1 y2))
 | 0 => fun _ _ _ r h => by simp [ref08_Same.l0] at h
 | k + 1 => by
  have ih0 := ref08_Same.mono_l k
  ·intro y0 y1 y2
   unfold ref08_Same.l0
   with_reducible repeat' first | exact ih0 _ _ _ | exact ref05_Same.mono _ _ _ _ _ _ _ | exact LeO.refl _ | exact LeO.none _ | refine LeO.ite ?_ ?_ | refine LeO.bind ?_ (fun _ => ?_)
theorem ref08_Same.mono : ∀ a0 a1 k, LeO (ref08_Same.f k a0 a1) (ref08_Same.f (k + 1) a0 a1) := by
 intro a0 a1 k; have ih0 := ref08_Same.mono_l k
 unfold ref08_Same.f
 with_reducible repeat' first | exact ih0 _ _ _ | exact ref05_Same.mono _ _ _ _ _ _ _ | exact LeO.refl _ | exact LeO.none _ | refine LeO.ite ?_ ?_ | refine LeO.bind ?_ (fun _ => ?_)
def ref08_Same.T6 : Bool × List (List Nat × List Nat) := (true, [([], []), ([], []), ([0, 1], [0, 1]), ([2], [2]), ([3], [3]), ([], []), ([], []), ([5, 6], [5, 6]), ([7], [7]), ([8], [8]), ([4, 9], [4, 9]), ([10], [10]), ([11], [11]), ([11], [11]), ([12, 13, 11], [11, 12, 13]), ([14, 11], [11, 14]), ([15, 11], [11, 15]), ([11], [11]), ([11], [11]), ([17, 18, 11], [11, 17, 18]), ([19, 11], [11, 19]), ([20, 11], [11, 20]), ([16, 21, 11], [11, 16, 21]), ([11, 22], [11, 22]), ([23, 11], [23]), ([24], [24]), ([24], [24]), ([25, 26, 24], [24, 25, 26]), ([27, 24], [24, 27]), ([28, 24], [24, 28]), ([24], [24]), ([24], [24]), ([30, 31, 24], [24, 30, 31]), ([32, 24], [24, 32]), ([33, 24], [24, 33]), ([29, 34, 24, 24], [24, 29, 34]), ([35, 24], [24, 35]), ([24, 36], [24, 36])])
def ref08_Same.B6 : List Nat := [0, 0, 3, 7, 15, 0, 0, 96, 224, 480, 1023, 2047, 4095, 4095, 16383, 32767, 65535, 4095, 4095, 397311, 921599, 1970175, 4194303, 8388607, 16777215, 33554431, 33554431, 134217727, 268435455, 536870911, 33554431, 33554431, 3254779903, 7549747199, 16139681791, 34359738367, 68719476735, 137438953471]
theorem ref08_Same.tab6 : rtab .any (opsOf Try.f12 6) = ref08_Same.T6 := by kernel_rfl
theorem ref08_Same.bits6 : waitsOk ref08_Same.T6.2 ref08_Same.B6 = true := by kernel_rfl
theorem ref08_Same.calls (k : Nat) (A0 : Option Addr) (c0 : Nat) (l0 : List (S53)) (A1 : Option Addr) (c1 : Nat) (l1 : List (S53)) (r : Bool) (w : World) (hr0 : Kd.C k53 w A0 l0.length l0) (hc0 : l0.length ≤ c0) (hr1 : Kd.C k53 w A1 l1.length l1) (hc1 : l1.length ≤ c1) (h : ref08_Same.f k l0 l1 = some r) :
  Calls Try.prog 12 #[.slice A0 l0.length c0, .slice A1 l1.length c1] w fun e w' => e = .returned (.bool r) ∧ Below w.heap.size w w' := by
 have hu35 := Try.underlying35; have HR0 := Zq_.mk hr0; have HC0 := Zq_.mk hc0; clear hr0 hc0; have HR1 := Zq_.mk hr1; have HC1 := Zq_.mk hc1; clear hr1 hc1; have HB := Zq_.mk (Below.refl w.heap.size w); have H : (if (l0.length : Int) = (l1.length : Int) then (ref08_Same.l0 k l0 l1 0) else (some false)) = some r := h; clear h
 by_cases c3 : (l0.length : Int) = (l1.length : Int)
 ·rw [if_pos c3] at H; have eU : ((l0.length : Int) == (l1.length : Int)) = true := beq_iff_eq.mpr c3; have eT : ((l0.length : Int) != (l1.length : Int)) = false := bne_eq_false_iff_eq.mpr c3
  have eS : (l0.length == l1.length) = true := by first | simpa using c3 | (simp at c3 ⊢; omega)
  clear c3; have H' := Zq_.mk H; clear H
  go_enter Try.func12, Try.ntmps12
  go_wp2
  go_loopg [5] k (fun kq v5 w' => ∃ (aA : Int), v5 = .int .i64 aA ∧ Zq_ (ref08_Same.l0 kq l0 l1 aA = some r) ∧ Zq_ (kq ≤ k) ∧ Zq_ (Below w.heap.size w w'))
  case atStart => exact ⟨(0), eS_, H', ⟨Nat.le_refl _⟩, ⟨hB_ HB⟩⟩
  case round =>
   clear H'
   try clear c1
   try clear p2
   try clear c3
   try clear eU
   try clear eT
   try clear eS
   obtain ⟨aA, rfl, HA, HK1, HB⟩ := hrel
   cases gk with
   | zero => exact absurd HA.out (by simp [ref08_Same.l0])
   | succ k1 =>
    have H := HA.out; clear HA; simp only [ref08_Same.l0] at H
    by_cases c4 : aA < (l0.length : Int)
    ·rw [if_pos c4] at H; have c4b0 : decide (aA < (l0.length : Int)) = true := decide_eq_true c4; clear c4
     by_cases c5 : 0 ≤ aA
     ·rw [if_pos c5] at H; have c5b0 : decide (0 ≤ aA) = true := decide_eq_true c5; clear c5
      by_cases c6 : aA < (l1.length : Int)
      ·rw [if_pos c6] at H; have c6b0 : decide (aA < (l1.length : Int)) = true := decide_eq_true c6; clear c6
       by_cases c7 : ((rd_T53 l0 aA).f0) = ((rd_T53 l1 aA).f0)
       ·rw [if_pos c7] at H; have c7b0 : (((rd_T53 l0 aA).f0) == ((rd_T53 l1 aA).f0)) = true := beq_iff_eq.mpr c7; have c7b1 : (((rd_T53 l0 aA).f0) != ((rd_T53 l1 aA).f0)) = false := bne_eq_false_iff_eq.mpr c7; clear c7
        by_cases c8 : ((rd_T53 l0 aA).f1) = ((rd_T53 l1 aA).f1)
        ·rw [if_pos c8] at H; have c8b0 : (((rd_T53 l0 aA).f1) == ((rd_T53 l1 aA).f1)) = true := beq_iff_eq.mpr c8; have c8b1 : (((rd_T53 l0 aA).f1) != ((rd_T53 l1 aA).f1)) = false := bne_eq_false_iff_eq.mpr c8; clear c8; replace H := ob_ H; obtain ⟨eL, A90, H⟩ := H; replace H : (if eL = true then (ref08_Same.l0 k1 l0 l1 (wrap64 (aA + 1))) else (some false)) = some r := H; have A9 := Zq_.mk A90; clear A90
         by_cases c10 : eL = true
         ·subst c10
          have H1 : (ref08_Same.l0 k1 l0 l1 (wrap64 (aA + 1))) = some r := by rw [if_pos rfl] at H; exact H
          clear H; have H := H1; clear H1; have H' := Zq_.mk H; clear H; (try go_wp2); replace HB := Zq_.mk (qe_ HB.out); have cM : 0 ≤ (aA : Int) := dA_; have cK : aA < (l0.length : Int) := dA_; obtain ⟨dG, dO, dM, eA, aK, aJ, aI, aH, aC, aY, bA⟩ := at_T53 HR0.out aA cM cK; have bO := aC; have bP := aH; have bQ := aI; have bR := aJ; have bS := aK; cases eA; replace aK := hC_ HB aK; replace aJ := hC_ HB aJ; replace aI := hC_ HB aI; replace aH := hC_ HB aH; replace aC := hC_ HB aC; have cI := Zq_.mk bA; have dS := Zq_.mk aY; clear bA aY; replace cM := eq_true cM; replace cK := eq_true cK; have cL : 0 ≤ (aA : Int) := dA_; have cJ : aA < (l1.length : Int) := dA_; obtain ⟨dF, dN, dL, dZ, aG, aF, aE, aD, aB, aX, aZ⟩ := at_T53 HR1.out aA cL cJ; have bJ := aB; have bK := aD; have bL := aE; have bM := aF; have bN := aG; cases dZ; replace aG := hC_ HB aG; replace aF := hC_ HB aF; replace aE := hC_ HB aE; replace aD := hC_ HB aD; replace aB := hC_ HB aB; have cH := Zq_.mk aZ; have dR := Zq_.mk aX; clear aZ aX; replace cL := eq_true cL; replace cJ := eq_true cJ; have dK : 0 ≤ (aA : Int) := dA_; have dI : aA < (l0.length : Int) := dA_; obtain ⟨dU, eK, eG, eE, aU, aT, aS, aR, aM, bU, bW⟩ := at_T53 HR0.out aA dK dI; have cC := aM; have cD := aR; have cE := aS; have cF := aT; have cG := aU; obtain rfl : dG = dU := (by injection eE); replace aU := hC_ HB aU; replace aT := hC_ HB aT; replace aS := hC_ HB aS; replace aR := hC_ HB aR; replace aM := hC_ HB aM; have dE := Zq_.mk bW; have eC := Zq_.mk bU; clear bW bU; replace dK := eq_true dK; replace dI := eq_true dI; have ea_ := Option.some.inj (aC.symm.trans aM)
          injection ea_ with ea_ en_ ec_
          subst ea_; subst ec_; clear en_; have dJ : 0 ≤ (aA : Int) := dA_; have dH : aA < (l1.length : Int) := dA_; obtain ⟨dT, eJ, eF, eD, aQ, aP, aO, aN, aL, bT, bV⟩ := at_T53 HR1.out aA dJ dH; have bX := aL; have bY := aN; have bZ := aO; have cA := aP; have cB := aQ; obtain rfl : dF = dT := (by injection eD); replace aQ := hC_ HB aQ; replace aP := hC_ HB aP; replace aO := hC_ HB aO; replace aN := hC_ HB aN; replace aL := hC_ HB aL; have dD := Zq_.mk bV; have eB := Zq_.mk bT; clear bV bT; replace dJ := eq_true dJ; replace dH := eq_true dH; have ea_ := Option.some.inj (aB.symm.trans aL)
          injection ea_ with ea_ en_ ec_
          subst ea_; subst ec_; clear en_; have dY : 0 ≤ (aA : Int) := dA_; have dW : aA < (l0.length : Int) := dA_; obtain ⟨eI, eR, eP, eN, bI, bH, bG, bF, aW, cY, dA⟩ := at_T53 HR0.out aA dY dW; have cS := aW; have cT := bF; have cU := bG; have cV := bH; have cW := bI; obtain rfl : dG = eI := (by injection eN); replace bI := hC_ HB bI; replace bH := hC_ HB bH; replace bG := hC_ HB bG; replace bF := hC_ HB bF; replace aW := hC_ HB aW; have dC := Zq_.mk dA; have dQ := Zq_.mk cY; clear dA cY; replace dY := eq_true dY; replace dW := eq_true dW; have ea_ := Option.some.inj (aC.symm.trans aW)
          injection ea_ with ea_ en_ ec_
          subst ea_; subst ec_; clear en_; have dX : 0 ≤ (aA : Int) := dA_; have dV : aA < (l1.length : Int) := dA_; obtain ⟨eH, eQ, eO, eM, bE, bD, bC, bB, aV, cX, cZ⟩ := at_T53 HR1.out aA dX dV; have cN := aV; have cO := bB; have cP := bC; have cQ := bD; have cR := bE; obtain rfl : dF = eH := (by injection eM); replace bE := hC_ HB bE; replace bD := hC_ HB bD; replace bC := hC_ HB bC; replace bB := hC_ HB bB; replace aV := hC_ HB aV; have dB := Zq_.mk cZ; have dP := Zq_.mk cX; clear cZ cX; replace dX := eq_true dX; replace dV := eq_true dV; have ea_ := Option.some.inj (aB.symm.trans aV)
          injection ea_ with ea_ en_ ec_
          subst ea_; subst ec_; clear en_; refine gS_ 38 (hA_ (hC_ HB bS) (hA_ (hC_ HB bR) (hA_ (hC_ HB bQ) (hA_ (hC_ HB bP) (hA_ (hC_ HB bO) (hA_ (hC_ HB bN) (hA_ (hC_ HB bM) (hA_ (hC_ HB bL) (hA_ (hC_ HB bK) (hA_ (hC_ HB bJ) (hA_ (hC_ HB cG) (hA_ (hC_ HB cF) (hA_ (hC_ HB cE) (hA_ (hC_ HB cD) (hA_ (hC_ HB cC) (hA_ (hC_ HB cB) (hA_ (hC_ HB cA) (hA_ (hC_ HB bZ) (hA_ (hC_ HB bY) (hA_ (hC_ HB bX) (hA_ (hC_ HB cW) (hA_ (hC_ HB cV) (hA_ (hC_ HB cU) (hA_ (hC_ HB cT) (hA_ (hC_ HB cS) (hA_ (hC_ HB cR) (hA_ (hC_ HB cQ) (hA_ (hC_ HB cP) (hA_ (hC_ HB cO) (hZ_ (hC_ HB cN))))))))))))))))))))))))))))))) (fun hHeld => ?_); refine qh_ ref08_Same.tab6 ref08_Same.bits6 (fun HT_ HW_ => ?_); generalize wr.drew = w11 at HB cI cH dE dD dC dB aK aJ aI aH aC aG aF aE aD aB aU aT aS aR aM aQ aP aO aN aL bI bH bG bF aW bE bD bC bB aV hHeld ⊢; refine up0_ 0 ?_; (iterate 4 refine pN_ ?_); refine pQ_ 5 HT_ ?_; refine pQ_ 6 HT_ ?_; refine pQ_ 7 HT_ ?_; refine pQ_ 8 HT_ ?_; refine tL_ 4 HT_ HW_ hHeld ?_; refine up0_ 9 ?_; (iterate 7 first | refine pN_ ?_ | refine tN_ ?_); refine pQ_ 17 HT_ ?_; refine pQ_ 18 HT_ ?_; refine pQ_ 19 HT_ ?_; refine pQ_ 20 HT_ ?_; refine tL_ 16 HT_ HW_ hHeld ?_; refine up0_ 21 ?_; (iterate 8 first | refine pN_ ?_ | refine tN_ ?_); refine pQ_ 30 HT_ ?_; refine pQ_ 31 HT_ ?_; refine pQ_ 32 HT_ ?_; refine pQ_ 33 HT_ ?_; refine tL_ 29 HT_ HW_ hHeld ?_; refine tL_ 34 HT_ HW_ hHeld ?_; refine oN_ 35 52 38 68719476735 HT_ (fun K hK => ?_); refine goes_ Try.func38 (by kernel_rfl) rfl #[.agg #[.int .i64 ((rd_T53 l0 aA).f2.f0), .int .i64 ((rd_T53 l0 aA).f2.f1), .slice dO ((rd_T53 l0 aA).f2.f2).length dM], .agg #[.int .i64 ((rd_T53 l1 aA).f2.f0), .int .i64 ((rd_T53 l1 aA).f2.f1), .slice dN ((rd_T53 l1 aA).f2.f2).length dL]] (by rfl) rfl rfl aR_ ?_
          with_reducible refine (ref05_Same.calls k1 ((rd_T53 l0 aA).f2.f0) ((rd_T53 l0 aA).f2.f1) _ _ ((rd_T53 l0 aA).f2.f2) ((rd_T53 l1 aA).f2.f0) ((rd_T53 l1 aA).f2.f1) _ _ ((rd_T53 l1 aA).f2.f2) true _ ?side1 ?side2 ?side3 ?side4 A9.out).mono ?_
          (case side1 => exact cX_ (Kd.qg_ dC.out HB.out)); (case side2 => exact dQ.out); (case side3 => exact cX_ (Kd.qg_ dB.out HB.out)); (case side4 => exact dP.out); rintro e w12 ⟨rfl, hb⟩; refine ⟨_, rfl, ?_⟩; replace HB := sB_ HB hb; (try clear hb); refine hK.out _ _ ⟨(hC_ HB bS), (hC_ HB bR), (hC_ HB bQ), (hC_ HB bP), (hC_ HB bO), (hC_ HB bN), (hC_ HB bM), (hC_ HB bL), (hC_ HB bK), (hC_ HB bJ), (hC_ HB cG), (hC_ HB cF), (hC_ HB cE), (hC_ HB cD), (hC_ HB cC), (hC_ HB cB), (hC_ HB cA), (hC_ HB bZ), (hC_ HB bY), (hC_ HB bX), (hC_ HB cW), (hC_ HB cV), (hC_ HB cU), (hC_ HB cT), (hC_ HB cS), (hC_ HB cR), (hC_ HB cQ), (hC_ HB cP), (hC_ HB cO), (hC_ HB cN)⟩ (fun hHeld => ?_); clear hK K; refine norm_ (a' := ?_) ?_ ?_; rotate_left
          ·show Act.put _ (some 52) _ = _
           simp only [Act.put, sa_, sb_, sc_, i64_w, i32_w]; rfl
          refine pQ_ 36 HT_ ?_; refine pQ_ 37 HT_ ?_; refine dN_ HT_ ?_; (try go_wp2)
          go_roundg k1
          case measure => have := HK1.out; omega
          case rel => exact ⟨(wrap64 (aA + 1)), eS_, H', ⟨by have := HK1.out; omega⟩, ⟨hB_ HB⟩⟩
         ·replace c10 := Bool.eq_false_iff.mpr c10; subst c10
          have H1 : (some false) = some r := by rw [if_neg (show ¬ (false = true) by decide)] at H; exact H
          clear H; have H := H1; clear H1; obtain rfl := Option.some.inj H; (try go_wp2); replace HB := Zq_.mk (qe_ HB.out); have cM : 0 ≤ (aA : Int) := dA_; have cK : aA < (l0.length : Int) := dA_; obtain ⟨dG, dO, dM, eA, aK, aJ, aI, aH, aC, aY, bA⟩ := at_T53 HR0.out aA cM cK; have bO := aC; have bP := aH; have bQ := aI; have bR := aJ; have bS := aK; cases eA; replace aK := hC_ HB aK; replace aJ := hC_ HB aJ; replace aI := hC_ HB aI; replace aH := hC_ HB aH; replace aC := hC_ HB aC; have cI := Zq_.mk bA; have dS := Zq_.mk aY; clear bA aY; replace cM := eq_true cM; replace cK := eq_true cK; have cL : 0 ≤ (aA : Int) := dA_; have cJ : aA < (l1.length : Int) := dA_; obtain ⟨dF, dN, dL, dZ, aG, aF, aE, aD, aB, aX, aZ⟩ := at_T53 HR1.out aA cL cJ; have bJ := aB; have bK := aD; have bL := aE; have bM := aF; have bN := aG; cases dZ; replace aG := hC_ HB aG; replace aF := hC_ HB aF; replace aE := hC_ HB aE; replace aD := hC_ HB aD; replace aB := hC_ HB aB; have cH := Zq_.mk aZ; have dR := Zq_.mk aX; clear aZ aX; replace cL := eq_true cL; replace cJ := eq_true cJ; have dK : 0 ≤ (aA : Int) := dA_; have dI : aA < (l0.length : Int) := dA_; obtain ⟨dU, eK, eG, eE, aU, aT, aS, aR, aM, bU, bW⟩ := at_T53 HR0.out aA dK dI; have cC := aM; have cD := aR; have cE := aS; have cF := aT; have cG := aU; obtain rfl : dG = dU := (by injection eE); replace aU := hC_ HB aU; replace aT := hC_ HB aT; replace aS := hC_ HB aS; replace aR := hC_ HB aR; replace aM := hC_ HB aM; have dE := Zq_.mk bW; have eC := Zq_.mk bU; clear bW bU; replace dK := eq_true dK; replace dI := eq_true dI; have ea_ := Option.some.inj (aC.symm.trans aM)
          injection ea_ with ea_ en_ ec_
          subst ea_; subst ec_; clear en_; have dJ : 0 ≤ (aA : Int) := dA_; have dH : aA < (l1.length : Int) := dA_; obtain ⟨dT, eJ, eF, eD, aQ, aP, aO, aN, aL, bT, bV⟩ := at_T53 HR1.out aA dJ dH; have bX := aL; have bY := aN; have bZ := aO; have cA := aP; have cB := aQ; obtain rfl : dF = dT := (by injection eD); replace aQ := hC_ HB aQ; replace aP := hC_ HB aP; replace aO := hC_ HB aO; replace aN := hC_ HB aN; replace aL := hC_ HB aL; have dD := Zq_.mk bV; have eB := Zq_.mk bT; clear bV bT; replace dJ := eq_true dJ; replace dH := eq_true dH; have ea_ := Option.some.inj (aB.symm.trans aL)
          injection ea_ with ea_ en_ ec_
          subst ea_; subst ec_; clear en_; have dY : 0 ≤ (aA : Int) := dA_; have dW : aA < (l0.length : Int) := dA_; obtain ⟨eI, eR, eP, eN, bI, bH, bG, bF, aW, cY, dA⟩ := at_T53 HR0.out aA dY dW; have cS := aW; have cT := bF; have cU := bG; have cV := bH; have cW := bI; obtain rfl : dG = eI := (by injection eN); replace bI := hC_ HB bI; replace bH := hC_ HB bH; replace bG := hC_ HB bG; replace bF := hC_ HB bF; replace aW := hC_ HB aW; have dC := Zq_.mk dA; have dQ := Zq_.mk cY; clear dA cY; replace dY := eq_true dY; replace dW := eq_true dW; have ea_ := Option.some.inj (aC.symm.trans aW)
          injection ea_ with ea_ en_ ec_
          subst ea_; subst ec_; clear en_; have dX : 0 ≤ (aA : Int) := dA_; have dV : aA < (l1.length : Int) := dA_; obtain ⟨eH, eQ, eO, eM, bE, bD, bC, bB, aV, cX, cZ⟩ := at_T53 HR1.out aA dX dV; have cN := aV; have cO := bB; have cP := bC; have cQ := bD; have cR := bE; obtain rfl : dF = eH := (by injection eM); replace bE := hC_ HB bE; replace bD := hC_ HB bD; replace bC := hC_ HB bC; replace bB := hC_ HB bB; replace aV := hC_ HB aV; have dB := Zq_.mk cZ; have dP := Zq_.mk cX; clear cZ cX; replace dX := eq_true dX; replace dV := eq_true dV; have ea_ := Option.some.inj (aB.symm.trans aV)
          injection ea_ with ea_ en_ ec_
          subst ea_; subst ec_; clear en_; refine gS_ 38 (hA_ (hC_ HB bS) (hA_ (hC_ HB bR) (hA_ (hC_ HB bQ) (hA_ (hC_ HB bP) (hA_ (hC_ HB bO) (hA_ (hC_ HB bN) (hA_ (hC_ HB bM) (hA_ (hC_ HB bL) (hA_ (hC_ HB bK) (hA_ (hC_ HB bJ) (hA_ (hC_ HB cG) (hA_ (hC_ HB cF) (hA_ (hC_ HB cE) (hA_ (hC_ HB cD) (hA_ (hC_ HB cC) (hA_ (hC_ HB cB) (hA_ (hC_ HB cA) (hA_ (hC_ HB bZ) (hA_ (hC_ HB bY) (hA_ (hC_ HB bX) (hA_ (hC_ HB cW) (hA_ (hC_ HB cV) (hA_ (hC_ HB cU) (hA_ (hC_ HB cT) (hA_ (hC_ HB cS) (hA_ (hC_ HB cR) (hA_ (hC_ HB cQ) (hA_ (hC_ HB cP) (hA_ (hC_ HB cO) (hZ_ (hC_ HB cN))))))))))))))))))))))))))))))) (fun hHeld => ?_); refine qh_ ref08_Same.tab6 ref08_Same.bits6 (fun HT_ HW_ => ?_); generalize wr.drew = w13 at HB cI cH dE dD dC dB aK aJ aI aH aC aG aF aE aD aB aU aT aS aR aM aQ aP aO aN aL bI bH bG bF aW bE bD bC bB aV hHeld ⊢; refine up0_ 0 ?_; (iterate 4 refine pN_ ?_); refine pQ_ 5 HT_ ?_; refine pQ_ 6 HT_ ?_; refine pQ_ 7 HT_ ?_; refine pQ_ 8 HT_ ?_; refine tL_ 4 HT_ HW_ hHeld ?_; refine up0_ 9 ?_; (iterate 7 first | refine pN_ ?_ | refine tN_ ?_); refine pQ_ 17 HT_ ?_; refine pQ_ 18 HT_ ?_; refine pQ_ 19 HT_ ?_; refine pQ_ 20 HT_ ?_; refine tL_ 16 HT_ HW_ hHeld ?_; refine up0_ 21 ?_; (iterate 8 first | refine pN_ ?_ | refine tN_ ?_); refine pQ_ 30 HT_ ?_; refine pQ_ 31 HT_ ?_; refine pQ_ 32 HT_ ?_; refine pQ_ 33 HT_ ?_; refine tL_ 29 HT_ HW_ hHeld ?_; refine tL_ 34 HT_ HW_ hHeld ?_; refine oN_ 35 52 38 68719476735 HT_ (fun K hK => ?_); refine goes_ Try.func38 (by kernel_rfl) rfl #[.agg #[.int .i64 ((rd_T53 l0 aA).f2.f0), .int .i64 ((rd_T53 l0 aA).f2.f1), .slice dO ((rd_T53 l0 aA).f2.f2).length dM], .agg #[.int .i64 ((rd_T53 l1 aA).f2.f0), .int .i64 ((rd_T53 l1 aA).f2.f1), .slice dN ((rd_T53 l1 aA).f2.f2).length dL]] (by rfl) rfl rfl aR_ ?_
          with_reducible refine (ref05_Same.calls k1 ((rd_T53 l0 aA).f2.f0) ((rd_T53 l0 aA).f2.f1) _ _ ((rd_T53 l0 aA).f2.f2) ((rd_T53 l1 aA).f2.f0) ((rd_T53 l1 aA).f2.f1) _ _ ((rd_T53 l1 aA).f2.f2) false _ ?side1 ?side2 ?side3 ?side4 A9.out).mono ?_
          (case side1 => exact cX_ (Kd.qg_ dC.out HB.out)); (case side2 => exact dQ.out); (case side3 => exact cX_ (Kd.qg_ dB.out HB.out)); (case side4 => exact dP.out); rintro e w14 ⟨rfl, hb⟩; refine ⟨_, rfl, ?_⟩; replace HB := sB_ HB hb; (try clear hb); refine hK.out _ _ ⟨(hC_ HB bS), (hC_ HB bR), (hC_ HB bQ), (hC_ HB bP), (hC_ HB bO), (hC_ HB bN), (hC_ HB bM), (hC_ HB bL), (hC_ HB bK), (hC_ HB bJ), (hC_ HB cG), (hC_ HB cF), (hC_ HB cE), (hC_ HB cD), (hC_ HB cC), (hC_ HB cB), (hC_ HB cA), (hC_ HB bZ), (hC_ HB bY), (hC_ HB bX), (hC_ HB cW), (hC_ HB cV), (hC_ HB cU), (hC_ HB cT), (hC_ HB cS), (hC_ HB cR), (hC_ HB cQ), (hC_ HB cP), (hC_ HB cO), (hC_ HB cN)⟩ (fun hHeld => ?_); clear hK K; refine norm_ (a' := ?_) ?_ ?_; rotate_left
          ·show Act.put _ (some 52) _ = _
           simp only [Act.put, sa_, sb_, sc_, i64_w, i32_w]; rfl
          refine pQ_ 36 HT_ ?_; refine pQ_ 37 HT_ ?_; refine dN_ HT_ ?_; (try go_wp2)
          go_ret
          exact ⟨by exact eW_, hB_ HB⟩
        ·rw [if_neg c8] at H; have c8b0 : (((rd_T53 l0 aA).f1) == ((rd_T53 l1 aA).f1)) = false := beq_eq_false_iff_ne.mpr c8; have c8b1 : (((rd_T53 l0 aA).f1) != ((rd_T53 l1 aA).f1)) = true := bne_iff_ne.mpr c8; obtain rfl := Option.some.inj H; (try go_wp2); replace HB := Zq_.mk (qe_ HB.out); have cM : 0 ≤ (aA : Int) := dA_; have cK : aA < (l0.length : Int) := dA_; obtain ⟨dG, dO, dM, eA, aK, aJ, aI, aH, aC, aY, bA⟩ := at_T53 HR0.out aA cM cK; have bO := aC; have bP := aH; have bQ := aI; have bR := aJ; have bS := aK; cases eA; replace aK := hC_ HB aK; replace aJ := hC_ HB aJ; replace aI := hC_ HB aI; replace aH := hC_ HB aH; replace aC := hC_ HB aC; have cI := Zq_.mk bA; have dS := Zq_.mk aY; clear bA aY; replace cM := eq_true cM; replace cK := eq_true cK; have cL : 0 ≤ (aA : Int) := dA_; have cJ : aA < (l1.length : Int) := dA_; obtain ⟨dF, dN, dL, dZ, aG, aF, aE, aD, aB, aX, aZ⟩ := at_T53 HR1.out aA cL cJ; have bJ := aB; have bK := aD; have bL := aE; have bM := aF; have bN := aG; cases dZ; replace aG := hC_ HB aG; replace aF := hC_ HB aF; replace aE := hC_ HB aE; replace aD := hC_ HB aD; replace aB := hC_ HB aB; have cH := Zq_.mk aZ; have dR := Zq_.mk aX; clear aZ aX; replace cL := eq_true cL; replace cJ := eq_true cJ; have dK : 0 ≤ (aA : Int) := dA_; have dI : aA < (l0.length : Int) := dA_; obtain ⟨dU, eK, eG, eE, aU, aT, aS, aR, aM, bU, bW⟩ := at_T53 HR0.out aA dK dI; have cC := aM; have cD := aR; have cE := aS; have cF := aT; have cG := aU; obtain rfl : dG = dU := (by injection eE); replace aU := hC_ HB aU; replace aT := hC_ HB aT; replace aS := hC_ HB aS; replace aR := hC_ HB aR; replace aM := hC_ HB aM; have dE := Zq_.mk bW; have eC := Zq_.mk bU; clear bW bU; replace dK := eq_true dK; replace dI := eq_true dI; have ea_ := Option.some.inj (aC.symm.trans aM)
         injection ea_ with ea_ en_ ec_
         subst ea_; subst ec_; clear en_; have dJ : 0 ≤ (aA : Int) := dA_; have dH : aA < (l1.length : Int) := dA_; obtain ⟨dT, eJ, eF, eD, aQ, aP, aO, aN, aL, bT, bV⟩ := at_T53 HR1.out aA dJ dH; have bX := aL; have bY := aN; have bZ := aO; have cA := aP; have cB := aQ; obtain rfl : dF = dT := (by injection eD); replace aQ := hC_ HB aQ; replace aP := hC_ HB aP; replace aO := hC_ HB aO; replace aN := hC_ HB aN; replace aL := hC_ HB aL; have dD := Zq_.mk bV; have eB := Zq_.mk bT; clear bV bT; replace dJ := eq_true dJ; replace dH := eq_true dH; have ea_ := Option.some.inj (aB.symm.trans aL)
         injection ea_ with ea_ en_ ec_
         subst ea_; subst ec_; clear en_; refine gS_ 38 (hA_ (hC_ HB bS) (hA_ (hC_ HB bR) (hA_ (hC_ HB bQ) (hA_ (hC_ HB bP) (hA_ (hC_ HB bO) (hA_ (hC_ HB bN) (hA_ (hC_ HB bM) (hA_ (hC_ HB bL) (hA_ (hC_ HB bK) (hA_ (hC_ HB bJ) (hA_ (hC_ HB cG) (hA_ (hC_ HB cF) (hA_ (hC_ HB cE) (hA_ (hC_ HB cD) (hA_ (hC_ HB cC) (hA_ (hC_ HB cB) (hA_ (hC_ HB cA) (hA_ (hC_ HB bZ) (hA_ (hC_ HB bY) (hZ_ (hC_ HB bX))))))))))))))))))))) (fun hHeld => ?_); refine qh_ ref08_Same.tab6 ref08_Same.bits6 (fun HT_ HW_ => ?_); generalize wr.drew = w15 at HB cI cH dE dD aK aJ aI aH aC aG aF aE aD aB aU aT aS aR aM aQ aP aO aN aL hHeld ⊢; refine up0_ 0 ?_; (iterate 4 refine pN_ ?_); refine pQ_ 5 HT_ ?_; refine pQ_ 6 HT_ ?_; refine pQ_ 7 HT_ ?_; refine pQ_ 8 HT_ ?_; refine tL_ 4 HT_ HW_ hHeld ?_; refine up0_ 9 ?_; (iterate 7 first | refine pN_ ?_ | refine tN_ ?_); refine pQ_ 17 HT_ ?_; refine pQ_ 18 HT_ ?_; refine pQ_ 19 HT_ ?_; refine pQ_ 20 HT_ ?_; refine tL_ 16 HT_ HW_ hHeld ?_; refine up0_ 21 ?_; (iterate 17 first | refine vN_ ?_ | refine pN_ ?_ | refine tN_ ?_); refine dN_ HT_ ?_; (try go_wp2)
         go_ret
         exact ⟨by exact eW_, hB_ HB⟩
       ·rw [if_neg c7] at H; have c7b0 : (((rd_T53 l0 aA).f0) == ((rd_T53 l1 aA).f0)) = false := beq_eq_false_iff_ne.mpr c7; have c7b1 : (((rd_T53 l0 aA).f0) != ((rd_T53 l1 aA).f0)) = true := bne_iff_ne.mpr c7; obtain rfl := Option.some.inj H; (try go_wp2); replace HB := Zq_.mk (qe_ HB.out); have cM : 0 ≤ (aA : Int) := dA_; have cK : aA < (l0.length : Int) := dA_; obtain ⟨dG, dO, dM, eA, aK, aJ, aI, aH, aC, aY, bA⟩ := at_T53 HR0.out aA cM cK; have bO := aC; have bP := aH; have bQ := aI; have bR := aJ; have bS := aK; cases eA; replace aK := hC_ HB aK; replace aJ := hC_ HB aJ; replace aI := hC_ HB aI; replace aH := hC_ HB aH; replace aC := hC_ HB aC; have cI := Zq_.mk bA; have dS := Zq_.mk aY; clear bA aY; replace cM := eq_true cM; replace cK := eq_true cK; have cL : 0 ≤ (aA : Int) := dA_; have cJ : aA < (l1.length : Int) := dA_; obtain ⟨dF, dN, dL, dZ, aG, aF, aE, aD, aB, aX, aZ⟩ := at_T53 HR1.out aA cL cJ; have bJ := aB; have bK := aD; have bL := aE; have bM := aF; have bN := aG; cases dZ; replace aG := hC_ HB aG; replace aF := hC_ HB aF; replace aE := hC_ HB aE; replace aD := hC_ HB aD; replace aB := hC_ HB aB; have cH := Zq_.mk aZ; have dR := Zq_.mk aX; clear aZ aX; replace cL := eq_true cL; replace cJ := eq_true cJ; refine gS_ 38 (hA_ (hC_ HB bS) (hA_ (hC_ HB bR) (hA_ (hC_ HB bQ) (hA_ (hC_ HB bP) (hA_ (hC_ HB bO) (hA_ (hC_ HB bN) (hA_ (hC_ HB bM) (hA_ (hC_ HB bL) (hA_ (hC_ HB bK) (hZ_ (hC_ HB bJ))))))))))) (fun hHeld => ?_); refine qh_ ref08_Same.tab6 ref08_Same.bits6 (fun HT_ HW_ => ?_); generalize wr.drew = w16 at HB cI cH aK aJ aI aH aC aG aF aE aD aB hHeld ⊢; refine up0_ 0 ?_; (iterate 4 refine pN_ ?_); refine pQ_ 5 HT_ ?_; refine pQ_ 6 HT_ ?_; refine pQ_ 7 HT_ ?_; refine pQ_ 8 HT_ ?_; refine tL_ 4 HT_ HW_ hHeld ?_; refine up0_ 9 ?_; (iterate 29 first | refine vN_ ?_ | refine pN_ ?_ | refine tN_ ?_); refine dN_ HT_ ?_; (try go_wp2)
        go_ret
        exact ⟨by exact eW_, hB_ HB⟩
      ·rw [if_neg c6] at H; exact absurd H (by simp)
     ·rw [if_neg c5] at H; exact absurd H (by simp)
    ·rw [if_neg c4] at H; have c4b0 : decide (aA < (l0.length : Int)) = false := decide_eq_false c4; clear c4; obtain rfl := Option.some.inj H
     go_wp2
     go_ret
     exact ⟨by exact eW_, hB_ HB⟩
 ·rw [if_neg c3] at H; have eU : ((l0.length : Int) == (l1.length : Int)) = false := beq_eq_false_iff_ne.mpr c3; have eT : ((l0.length : Int) != (l1.length : Int)) = true := bne_iff_ne.mpr c3
  have eS : (l0.length == l1.length) = false := by first | simpa using c3 | (simp at c3 ⊢; omega)
  obtain rfl := Option.some.inj H
  go_enter Try.func12, Try.ntmps12
  go_wp2
  go_ret
  exact ⟨by exact eW_, hB_ HB⟩
def view_Copy.l0 : Nat → List (S39) → List (S39) → Int → Int → Option ((List (S39)))
 | 0, _, _, _, _ => none
 | k + 1, x3, x9, x10, x11 => if x11 < x10 then (if 0 ≤ x11 then (if x11 < (x9.length : Int) then ((view_own.f ((rd_T39 x9 x11).f0) ((rd_T39 x9 x11).f1.f0) ((rd_T39 x9 x11).f1.f1) ((rd_T39 x9 x11).f1.f2)).bind fun aU => (if x11 < (x3.length : Int) then (view_Copy.l0 k (x3.set (x11 : Int).toNat (⟨aU.1, (⟨aU.2.1, aU.2.2.1, aU.2.2.2⟩ : S35)⟩ : S39)) x9 x10 (wrap64 (x11 + 1))) else (none))) else (none)) else (none)) else (some x3)
def view_Copy.f (k : Nat) (l0 : List (S39)) : Option ((List (S39))) := if 0 ≤ (l0.length : Int) then (if ((l0.length : Int) : Int).toNat ≤ 5864062014805 then (view_Copy.l0 k (List.replicate ((l0.length : Int) : Int).toNat z39) l0 (l0.length : Int) 0) else (none)) else (none)
theorem view_Copy.mono_l : ∀ k, (∀ y0 y1 y2 y3, LeO (view_Copy.l0 k y0 y1 y2 y3) (view_Copy.l0 (k + 1) y0 y1 y2 y3))
 | 0 => fun _ _ _ _ r h => by simp [view_Copy.l0] at h
 | k + 1 => by
  have ih0 := view_Copy.mono_l k
  ·intro y0 y1 y2 y3
   unfold view_Copy.l0
   with_reducible repeat' first | exact ih0 _ _ _ _ | exact LeO.refl _ | exact LeO.none _ | refine LeO.ite ?_ ?_ | refine LeO.bind ?_ (fun _ => ?_)
theorem view_Copy.mono : ∀ a0 k, LeO (view_Copy.f k a0) (view_Copy.f (k + 1) a0) := by
 intro a0 k; have ih0 := view_Copy.mono_l k
 unfold view_Copy.f
 with_reducible repeat' first | exact ih0 _ _ _ _ | exact LeO.refl _ | exact LeO.none _ | refine LeO.ite ?_ ?_ | refine LeO.bind ?_ (fun _ => ?_)
theorem view_Copy.calls (k : Nat) (A0 : Option Addr) (c0 : Nat) (l0 : List (S39)) (r : List (S39)) (w : World) (hr0 : Kd.C k39 w A0 l0.length l0) (hc0 : l0.length ≤ c0) (h : view_Copy.f k l0 = some r) :
  Calls Try.prog 47 #[.slice A0 l0.length c0] w fun e w' => ∃ v0_ : Value, e = .returned (v0_) ∧ Kd.S k39 39 w' w.heap.size (fun _ => True) v0_ r ∧ Below w.heap.size w w' := by
 have hu39 := Try.underlying39; have hu35 := Try.underlying35; have HR0 := Zq_.mk hr0; have HC0 := Zq_.mk hc0; clear hr0 hc0; have HB := Zq_.mk (Below.refl w.heap.size w); have H : (if 0 ≤ (l0.length : Int) then (if ((l0.length : Int) : Int).toNat ≤ 5864062014805 then (view_Copy.l0 k (List.replicate ((l0.length : Int) : Int).toNat z39) l0 (l0.length : Int) 0) else (none)) else (none)) = some r := h; clear h
 by_cases c2 : 0 ≤ (l0.length : Int)
 ·rw [if_pos c2] at H; have c2b0 := eq_true c2; have c2b1 : decide (0 ≤ (l0.length : Int)) = true := decide_eq_true c2; clear c2
  by_cases c3 : ((l0.length : Int) : Int).toNat ≤ 5864062014805
  ·rw [if_pos c3] at H; have c3b0 := eq_true c3; have c3b1 : decide (((l0.length : Int) : Int).toNat ≤ 5864062014805) = true := decide_eq_true c3; clear c3; obtain ⟨bH, aG⟩ : ∃ y_ : List (S39), y_ = (List.replicate ((l0.length : Int) : Int).toNat z39) := ⟨_, rfl⟩
   replace H : (view_Copy.l0 k bH l0 (l0.length : Int) 0) = some r := by first | (rw [aG]; with_reducible exact H) | (have H2_ := (Option.bind_some _ _).symm.trans H; rw [aG]; with_reducible exact H2_) | (have H2_ := (Option.bind_some _ _).symm.trans H; with_reducible exact H2_) | with_reducible exact H | (rw [aG]; exact H) | exact H
   have aZ := Zq_.mk aG; clear aG; have H' := Zq_.mk H; clear H
   go_enter Try.func47, Try.ntmps47
   go_wp2_with (first | ((with_reducible refine qd_ (N := 8) rfl ?_); refine Kd.S_make k39 _ 39 rfl (N := 8) rfl 22 _ _ rfl (l0.length : Int) rfl rfl Try.underlying22 (.agg #[(.int .i64 0), (.int .i64 0), (.int .i64 0), (.slice none 0 0)]) 48 info39 rfl (by decide) (by omega) z39 (ok := fun _ => True) (okp := fun _ => True) (k39_mkM _ _ _ z39 (Kd.R_nil _ _ _ _ _)) (fun _ hk => hk) trivial (dA_) (Nat.le_trans (Nat.mul_le_mul_right _ (dA_ : (l0.length : Int).toNat ≤ 5864062014805)) (by omega)) (Below.refl _ _) (Nat.le_refl _) ?_; intro v102 w4 ho5 hb hg_ hnew_; clear hg_ hnew_; (first | rw [← aZ.out] at ho5 | (simp only [Int.reduceToNat] at ho5; rw [← aZ.out] at ho5)); have bM := Zq_.mk (Kd.S_lower ho5 (qa_ (hB_ HB))); replace HB := sB_ HB hb; clear hb ho5))
   go_loopg [11] k (fun kq v11 w' => ∃ (aC : List (S39)) (aA : Int), v11 = .int .i64 aA ∧ Zq_ (view_Copy.l0 kq aC l0 (l0.length : Int) aA = some r) ∧ Zq_ (kq ≤ k) ∧ Zq_ (Kd.S k39 39 w' w.heap.size (fun _ => True) v102 aC) ∧ Zq_ (Below w.heap.size w w'))
   case atStart => exact ⟨(bH), (0), eS_, H', ⟨Nat.le_refl _⟩, ⟨by (with_reducible repeat (first | apply Kd.S_alloc | apply Kd.S_drewN | apply Kd.S_drew)); exact bM.out⟩, ⟨hB_ HB⟩⟩
   case round =>
    clear H'
    try clear c2
    try clear c2b0
    try clear c2b1
    try clear p2
    try clear c3
    try clear c3b0
    try clear c3b1
    try clear c4
    obtain ⟨aC, aA, rfl, HA, HK1, aB, HB⟩ := hrel
    cases gk with
    | zero => exact absurd HA.out (by simp [view_Copy.l0])
    | succ k1 =>
     have H := HA.out; clear HA; simp only [view_Copy.l0] at H
     by_cases c6 : aA < (l0.length : Int)
     ·rw [if_pos c6] at H; have c6b0 : decide (aA < (l0.length : Int)) = true := decide_eq_true c6; clear c6
      by_cases c7 : 0 ≤ aA
      ·rw [if_pos c7] at H; have c7b0 : decide (0 ≤ aA) = true := decide_eq_true c7; clear c7
       by_cases c8 : aA < (l0.length : Int)
       ·rw [if_pos c8] at H; have c8b0 : decide (aA < (l0.length : Int)) = true := decide_eq_true c8; clear c8; replace H := ob_ H; obtain ⟨⟨aL, aK, aJ, aW⟩, A90, H⟩ := H; replace H : (if aA < (aC.length : Int) then (view_Copy.l0 k1 (aC.set (aA : Int).toNat (⟨aL, (⟨aK, aJ, aW⟩ : S35)⟩ : S39)) l0 (l0.length : Int) (wrap64 (aA + 1))) else (none)) = some r := H; have A9 := Zq_.mk A90; clear A90
        by_cases c10 : aA < (aC.length : Int)
        ·rw [if_pos c10] at H; have c10b0 : decide (aA < (aC.length : Int)) = true := decide_eq_true c10; clear c10; obtain ⟨bA, aF⟩ : ∃ y_ : List (S39), y_ = (aC.set (aA : Int).toNat (⟨aL, (⟨aK, aJ, aW⟩ : S35)⟩ : S39)) := ⟨_, rfl⟩
         replace H : (view_Copy.l0 k1 bA l0 (l0.length : Int) (wrap64 (aA + 1))) = some r := by first | (rw [aF]; with_reducible exact H) | (have H2_ := (Option.bind_some _ _).symm.trans H; rw [aF]; with_reducible exact H2_) | (have H2_ := (Option.bind_some _ _).symm.trans H; with_reducible exact H2_) | with_reducible exact H | (rw [aF]; exact H) | exact H
         have bL := Zq_.mk aF; clear aF; have H' := Zq_.mk H; clear H; have bC : 0 ≤ (aA : Int) := dA_; have bB : aA < (l0.length : Int) := dA_; obtain ⟨ad104, aN, aM, e104, aR, aQ, aP, aO, aS, aT⟩ := at_T39 HR0.out aA bC bB; cases e104; replace aR := hC_ HB aR; replace aQ := hC_ HB aQ; replace aP := hC_ HB aP; replace aO := hC_ HB aO; have aX := Zq_.mk aT; have aY := Zq_.mk aS; clear aT aS; replace bC := eq_true bC; replace bB := eq_true bB
         go_wp2_with (first | ((with_reducible refine qd_ (N := 5) rfl ?_); refine bE_ 5 #[.int .i64 0, .int .i64 0, .int .i64 0, .slice none 0 0] 39 ?_; intro aD hg w12 hbox hb; replace aB := Zq_.mk (Kd.S_below (Kd.S_elderB (vX_ aB) aD (Nat.le_of_eq hg.symm)) hb); have aE := Zq_.mk (hbox); have GW105 := gW_ (w := w) hg (hB_ HB); have GE105 := gW_ (w := w) hg (hB_ HB); replace HB := sB_ HB hb; clear hb hbox hg; obtain ⟨hcz13_0, hcz13_1, hcz13_2, hcz13_3⟩ := c4_ aE; obtain ⟨hfz13_0, hfz13_1, hfz13_2, hfz13_3⟩ := f4_ aE) | ((with_reducible refine qf_ (f := 66) rfl ?_); refine goesL_ (some 22) rfl rfl Try.func66 (by kernel_rfl) rfl #[.int .i64 ((rd_T39 l0 aA).f0), .agg #[.int .i64 ((rd_T39 l0 aA).f1.f0), .int .i64 ((rd_T39 l0 aA).f1.f1), .slice aN ((rd_T39 l0 aA).f1.f2).length aM]] rfl aR_ ?_; (with_reducible refine (view_own.calls ((rd_T39 l0 aA).f0) ((rd_T39 l0 aA).f1.f0) ((rd_T39 l0 aA).f1.f1) _ _ ((rd_T39 l0 aA).f1.f2) aL aK aJ aW _ ?side1 ?side2 A9.out).mono ?_); (case side1 => exact Kd.qg_ aX.out (by exact hSet_ HB)); (case side2 => exact aY.out); rintro e w14 ⟨v110, rfl, ho0, hb⟩; refine ⟨_, rfl, ?_⟩; replace aB := Zq_.mk (Kd.S_elder' (by (with_reducible repeat (first | apply Kd.S_alloc | apply Kd.S_drewN | apply Kd.S_drew)); exact (Kd.S_mono (Kd.S_far (Kd.S_far (Kd.S_far (Kd.S_far (Kd.S_mono aB.out (fun k_ hk => (⟨hk, hk.2⟩ : _ ∧ k_ ≠ aD))) (fun _ hk => hk.2) _) (fun _ hk => hk.2) _) (fun _ hk => hk.2) _) (fun _ hk => hk.2) _) (fun _ h_ => h_.1))) (Kd.R_base ho0) hb); have aV := Zq_.mk (Kd.vd_ ho0 (qa_ (by exact hSet_ HB))); replace aE := Zq_.mk (qc_ (g := aD) (o := .cells #[.int .i64 ((rd_T39 l0 aA).f0), .int .i64 ((rd_T39 l0 aA).f1.f0), .int .i64 ((rd_T39 l0 aA).f1.f1), .slice aN ((rd_T39 l0 aA).f1.f2).length aM] 39 (0, 0)) (by exact bW4_ (bK_ aE)) hb); replace HB := sB_ HB hb; (try clear hb); (try clear ho0); have p11 : 0 ≤ (aA : Int) := dA_; have q11 : (aA : Int) < ((aC.length : Int) : Int) := dA_; obtain ⟨go11, bK, bJ, bI, gl11, cl11, HG11⟩ := Kd.S_form aB.out (by omega); (first | cases bJ | (injection bJ with ea_ en_ ec_; (first | subst ea_ | (injection ea_ with ea_; subst ea_)); subst ec_; clear en_)); have GB11 := Zq_.mk bI; have GG11 := Zq_.mk HG11; clear bI gl11 HG11; obtain ⟨_, ce11, hcl11, hM11, aI, hfr11, _, _⟩ := Kd.S_elem aB.out z39 (aA : Int) p11 q11; obtain ⟨ve11_3, rfl, ge11_3⟩ := k39_openM hM11; have hx11_0 : w14.cell? ⟨go11, (aA : Int).toNat * 4, none⟩ = some (.int .i64 ((rd_T39 aC aA).f0)) := aI 0 _ rfl; have hx11_1 : w14.cell? ⟨go11, (aA : Int).toNat * 4 + 1, none⟩ = some (.int .i64 ((rd_T39 aC aA).f1.f0)) := aI 1 _ rfl; have hx11_2 : w14.cell? ⟨go11, (aA : Int).toNat * 4 + 2, none⟩ = some (.int .i64 ((rd_T39 aC aA).f1.f1)) := aI 2 _ rfl; have hx11_3 : w14.cell? ⟨go11, (aA : Int).toNat * 4 + 3, none⟩ = some (ve11_3) := aI 3 _ rfl; have hf11_0 : w14.frozen? ⟨go11, (aA : Int).toNat * 4, none⟩ = false := hfr11 0; have hf11_1 : w14.frozen? ⟨go11, (aA : Int).toNat * 4 + 1, none⟩ = false := hfr11 1; have hf11_2 : w14.frozen? ⟨go11, (aA : Int).toNat * 4 + 2, none⟩ = false := hfr11 2; have hf11_3 : w14.frozen? ⟨go11, (aA : Int).toNat * 4 + 3, none⟩ = false := hfr11 3; clear hcl11 aI hfr11 hM11; replace p11 := eq_true p11; replace q11 := eq_true q11; have n_ := Zq_.mk (Kd.S_mono (ok' := (fun k_ => some k_ ≠ (v110 : Value).ownBlock ∧ k_ ≠ aD)) aB.out (fun k_ hk => ⟨hk.2, hk.1.2⟩)); clear aB; have aB := n_; clear n_; have HX15 := Zq_.mk (show Kd.S k39 39 w14 w.heap.size (fun k_ => ((fun k_ => k_ ≠ aD)) k_ ∧ ¬ ((fun k_ => some k_ = (v110 : Value).ownBlock)) k_) (.slice (some ⟨go11, 0, none⟩) aC.length bK) aC from (by (with_reducible repeat (first | apply Kd.S_alloc | apply Kd.S_drewN | apply Kd.S_drew)); exact Kd.S_mono aB.out (fun k_ hk => ⟨hk.2, fun e_ => hk.1 e_⟩))); obtain ⟨oki15, ce15, hcl15, hM15, aH, hfr15, hoki15, hH15⟩ := Kd.S_elem HX15.out z39 (aA : Int) (dA_) (by have h_ : (aA : Int) < ((aC.length : Int) : Int) := dA_; first | exact h_ | (have e_ := (Kd.S_reads' aB.out).1; omega) | simpa using h_); obtain ⟨ve15_3, rfl, ge15_3⟩ := k39_openM hM15; have HP15 := Kd.S_seg hH15 (dA_) (by have h_ : (aA : Int) < ((aC.length : Int) : Int) := dA_; first | exact h_ | (have e_ := (Kd.S_reads' aB.out).1; omega) | simpa using h_) (seg := [.int .i64 aL, .int .i64 aK, .int .i64 aJ, v110]) (j := 0) (show 4 ≤ 4 from by decide) (x' := (⟨aL, (⟨aK, aJ, aW⟩ : S35)⟩ : S39)) (k39_mkM _ _ _ (⟨aL, (⟨aK, aJ, aW⟩ : S35)⟩ : S39) (Kd.R_mono (Kd.R_tight rfl (Kd.R_mono (ok' := fun k_ => ((fun k_ => k_ ≠ aD)) k_ ∧ k_ ≠ go11) (Kd.ve_ (Kd.R_apart' (aV.out) (Kd.S_typed aB.out) (by decide)) aE.out (by decide)) (fun k_ hk => ⟨hk.2, fun e_ => (hk.1.2) (by rw [e_]; rfl)⟩))) (fun _ h_ => Or.inr (h_)))) (fun _ hk => hk) (fun k_ hk_ => ((Kd.R_mono (ok' := fun k_ => ((fun k_ => k_ ≠ aD)) k_ ∧ k_ ≠ go11) (Kd.ve_ (Kd.R_apart' (aV.out) (Kd.S_typed aB.out) (by decide)) aE.out (by decide)) (fun k_ hk => ⟨hk.2, fun e_ => (hk.1.2) (by rw [e_]; rfl)⟩))).1 k_ hk_.symm); have bG := aH 0 _ rfl; (try simp only [show (k39).sz = 4 from rfl, Nat.mul_one, Nat.add_zero] at bG); have hf15_0 := hfr15 0; (try simp only [show (k39).sz = 4 from rfl, Nat.mul_one, Nat.add_zero] at hf15_0); have bF := aH 1 _ rfl; (try simp only [show (k39).sz = 4 from rfl, Nat.mul_one, Nat.add_zero] at bF); have hf15_1 := hfr15 1; (try simp only [show (k39).sz = 4 from rfl, Nat.mul_one, Nat.add_zero] at hf15_1); have bE := aH 2 _ rfl; (try simp only [show (k39).sz = 4 from rfl, Nat.mul_one, Nat.add_zero] at bE); have hf15_2 := hfr15 2; (try simp only [show (k39).sz = 4 from rfl, Nat.mul_one, Nat.add_zero] at hf15_2); have bD := aH 3 _ rfl; (try simp only [show (k39).sz = 4 from rfl, Nat.mul_one, Nat.add_zero] at bD); have hf15_3 := hfr15 3; (try simp only [show (k39).sz = 4 from rfl, Nat.mul_one, Nat.add_zero] at hf15_3); clear hcl15 aH hfr15 hM15 hoki15 hH15) | ((with_reducible refine gate_store (t := 39) (p := 23) rfl ?_); refine store_event (t := 39) (p := 23) (v := ?vo_w16) (w1 := ((((w14.setCell ⟨go11, (aA : Int).toNat * 4, none⟩ (.int .i64 aL)).setCell ⟨go11, (aA : Int).toNat * 4 + 1, none⟩ (.int .i64 aK)).setCell ⟨go11, (aA : Int).toNat * 4 + 2, none⟩ (.int .i64 aJ)).setCell ⟨go11, (aA : Int).toNat * 4 + 3, none⟩ (v110))) ?hg ?ho ?hn ?hr ?_; (case ho => rfl); (case hg => rfl); (case hn => rfl); (case hr => first | (go_simp; done) | (go_simp; rfl) | (obtain ⟨Ao_, co_, rfl⟩ := Kd.vh_ aV.out; first | (go_simp; done) | (go_simp; rfl))); intro w16 hw; have hg : w14.grownBy w16 (some go11) := (by rw [hw]; exact HP15.2); have hp_ : Kd.S k39 39 w16 w.heap.size (fun k_ => k_ ≠ aD) (.slice (some ⟨go11, 0, none⟩) aC.length bK) bA := (by rw [hw, bL.out]; exact HP15.1); clear HP15; replace aE := Zq_.mk (qz_ (g := aD) (o := .cells #[.int .i64 ((rd_T39 l0 aA).f0), .int .i64 ((rd_T39 l0 aA).f1.f0), .int .i64 ((rd_T39 l0 aA).f1.f1), .slice aN ((rd_T39 l0 aA).f1.f2).length aM] 39 (0, 0)) (by exact bK_ aE) hg (Kd.S_away aB.out (fun _ hk => hk.2))); replace aB := Zq_.mk (hp_); replace HB := Zq_.mk ((by rw [hw]; exact below_set (below_set (below_set (below_set (HB.out) GB11.out) GB11.out) GB11.out) GB11.out : Below w.heap.size w w16)); clear aV; clear hg hw hp_))
         go_roundg k1
         case measure => have := HK1.out; omega
         case rel => exact ⟨(bA), (wrap64 (aA + 1)), eS_, H', ⟨by have := HK1.out; omega⟩, ⟨by (with_reducible repeat (first | apply Kd.S_alloc | apply Kd.S_drewN | apply Kd.S_drew)); exact Kd.S_mono aB.out (fun _ hk => trivial)⟩, ⟨by exact hSet_ HB⟩⟩
        ·rw [if_neg c10] at H; exact absurd H (by simp)
       ·rw [if_neg c8] at H; exact absurd H (by simp)
      ·rw [if_neg c7] at H; exact absurd H (by simp)
     ·rw [if_neg c6] at H; have c6b0 : decide (aA < (l0.length : Int)) = false := decide_eq_false c6; clear c6; obtain rfl := Option.some.inj H
      go_wp2
      go_ret
      exact ⟨_, by exact eW_, by (with_reducible repeat (first | apply Kd.S_alloc | apply Kd.S_drewN | apply Kd.S_drew)); exact aB.out, hB_ HB⟩
  ·rw [if_neg c3] at H; exact absurd H (by simp)
 ·rw [if_neg c2] at H; exact absurd H (by simp)
def view_place.f (l0 : List S39) (a1 : Int) : Option Int := some (Go.Proofs.YtgipbmjkgciccaaW.Hw.idxI (fun x => x.f0 == a1) l0)
open Go.Proofs.YtgipbmjkgciccaaW.Hw in
theorem view_place.pred (a1 : Int) (g : Nat) (w : World) (hc : w.cell? ⟨g, 0, none⟩ = some (.int .i64 a1)) : PredK Try.prog k39 73 #[.pointer (some ⟨g, 0, none⟩)] aggOf (fun x => x.f0 == a1) w := by
 intro W x cs hb hx; have hcW := (hb.cell (wb_ w _ hc)).trans hc; obtain ⟨A3, c3, rfl, l3, g3⟩ := k39_open hx; clear hx hb hc l3 g3; have HB := Zq_.mk (Below.refl W.heap.size W)
 go_enter Try.func73, Try.ntmps73
 go_wp2_with (first | ((with_reducible refine qd_ (N := 2) rfl ?_); (try (refine qj_ (by rfl) ?_; dsimp only)); refine bE_ 2 #[.int .i64 x.f0, .int .i64 x.f1.f0, .int .i64 x.f1.f1, .slice A3 x.f1.f2.length c3] 39 ?_; intro bG hg_ w102 hbox_ hb_; have n0_ := Zq_.mk (qo_ (hB_ HB) hb_); have GE102 := Zq_.mk ((by rw [hg_]; exact (qa_ (hB_ HB)) : W.heap.size ≤ bG)); have n1_ := Zq_.mk (hbox_); clear HB; have HB := n0_; have aO := n1_; clear n0_ n1_; clear hb_ hbox_ hg_; obtain ⟨bE, bD, bC, bB⟩ := c4_ aO; obtain ⟨aZ, aY, aX, aW⟩ := f4_ aO; have hcw_ := pw_cell_below HB.out hcW))
 go_ret
 exact ⟨by first | rfl | (simp; done) | (simp [*]; done), (hB_ HB)⟩
open Go.Proofs.YtgipbmjkgciccaaW.Hw in
theorem view_place.calls (A0 : Option Addr) (c0 : Nat) (l0 : List S39) (a1 : Int) (r : Int) (w : World) (hr0 : Kd.C k39 w A0 l0.length l0) (hc0 : l0.length ≤ c0) (h : view_place.f l0 a1 = some r) :
  Calls Try.prog 57 #[.slice A0 l0.length c0, .int .i64 a1] w fun e w' => e = .returned (.int .i64 r) ∧ Below w.heap.size w w' := by
 unfold view_place.f at h
 obtain rfl := Option.some.inj h; clear h; have HC := Zq_.mk (fun (W : World) (g : Nat) (hW : Below w.heap.size w W) (hc : W.cell? ⟨g, 0, none⟩ = some (.int .i64 a1)) => IndexFuncN.calls (fun x => x.f0 == a1) 73 #[.pointer (some ⟨g, 0, none⟩)] (fun args w => enters Try.prog Try.func73 (by kernel_rfl) (by kernel_rfl) args w) A0 c0 l0 W (view_place.pred a1 g W hc) (Kd.qg_ hr0 hW)); generalize idxI (fun x : S39 => x.f0 == a1) l0 = b at HC ⊢; clear hr0 hc0; have HB := Zq_.mk (Below.refl w.heap.size w)
 go_enter Try.func57, Try.ntmps57
 go_wp2_with (first | ((with_reducible refine qd_ (N := 3) rfl ?_); (try (refine qj_ (by rfl) ?_; dsimp only)); refine bE_ 3 #[.int .i64 a1] 3 ?_; intro aD hg_ w101 hbox_ hb_; have n0_ := Zq_.mk (qo_ (hB_ HB) hb_); have aN := Zq_.mk ((by rw [hg_]; exact (qa_ (hB_ HB)) : w.heap.size ≤ aD)); have n1_ := Zq_.mk (hbox_); clear HB; have HB := n0_; have aB := n1_; clear n0_ n1_; clear hb_ hbox_ hg_; have bF := cz_ aB 0 (.int .i64 a1); have bA := qr_ aB.out 0) | (go_at_call 72; refine (HC.out _ aD (hB_ HB) ((qb_ (by exact bK_ aB) 0).trans rfl)).mono ?_; rintro e w3 ⟨rfl, hb3⟩; have n0_ := Zq_.mk (qo_ (hB_ HB) hb3); have m101_ := Zq_.mk (blk_bel (by exact bK_ aB) hb3); clear HB; have HB := n0_; clear n0_; clear aB; have aB := m101_; clear m101_; clear hb3))
 go_ret
 exact ⟨by first | rfl | (simp; done) | (simp [*]; done), (hB_ HB)⟩
def view_Get.f (l0 : List (S39)) (a1 : Int) : Option (Int × Int × (List (S58)) × Bool) := (view_place.f l0 a1).bind fun aA => (if aA < 0 then (some (0, 0, ([] : List (S58)), false)) else (if 0 ≤ aA then (if aA < (l0.length : Int) then ((state_Copy.f ((rd_T39 l0 aA).f1.f0) ((rd_T39 l0 aA).f1.f1) ((rd_T39 l0 aA).f1.f2)).bind fun aC => (some (aC.1, aC.2.1, aC.2.2, true))) else (none)) else (none)))
theorem view_Get.calls (A0 : Option Addr) (c0 : Nat) (l0 : List (S39)) (a1 : Int) (r1 : Int) (r2 : Int) (r3 : List (S58)) (r4 : Bool) (w : World) (hr0 : Kd.C k39 w A0 l0.length l0) (hc0 : l0.length ≤ c0) (h : view_Get.f l0 a1 = some (r1, r2, r3, r4)) :
  Calls Try.prog 36 #[.slice A0 l0.length c0, .int .i64 a1] w fun e w' => ∃ v2_ : Value, e = .returned (.tuple #[.agg #[.int .i64 r1, .int .i64 r2, v2_], .bool r4]) ∧ Kd.R k58 58 w' w.heap.size (fun _ => True) v2_ r3 ∧ Below w.heap.size w w' := by
 have hu35 := Try.underlying35; have HR0 := Zq_.mk hr0; have HC0 := Zq_.mk hc0; clear hr0 hc0; have HB := Zq_.mk (Below.refl w.heap.size w); have H : ((view_place.f l0 a1).bind fun aA => (if aA < 0 then (some (0, 0, ([] : List (S58)), false)) else (if 0 ≤ aA then (if aA < (l0.length : Int) then ((state_Copy.f ((rd_T39 l0 aA).f1.f0) ((rd_T39 l0 aA).f1.f1) ((rd_T39 l0 aA).f1.f2)).bind fun aC => (some (aC.1, aC.2.1, aC.2.2, true))) else (none)) else (none)))) = some (r1, r2, r3, r4) := h; clear h; replace H := ob_ H; obtain ⟨aA, A30, H⟩ := H; replace H : (if aA < 0 then (some (0, 0, ([] : List (S58)), false)) else (if 0 ≤ aA then (if aA < (l0.length : Int) then ((state_Copy.f ((rd_T39 l0 aA).f1.f0) ((rd_T39 l0 aA).f1.f1) ((rd_T39 l0 aA).f1.f2)).bind fun aC => (some (aC.1, aC.2.1, aC.2.2, true))) else (none)) else (none))) = some (r1, r2, r3, r4) := H; have A3 := Zq_.mk A30; clear A30
 by_cases c4 : aA < 0
 ·rw [if_pos c4] at H; have c4b0 : decide (aA < 0) = true := decide_eq_true c4; clear c4; simp only [Option.some.injEq, Prod.mk.injEq] at H; obtain ⟨rfl, rfl, rfl, rfl⟩ := H
  go_enter Try.func36, Try.ntmps36
  go_wp2_with (first | ((with_reducible refine qd_ (N := 4) rfl ?_); refine bE_ 4 #[.int .i64 0, .int .i64 0, .slice none 0 0] 35 ?_; intro aD hg w5 hbox hb; have aB := Zq_.mk (hbox); have bH := gW_ (w := w) hg (hB_ HB); have aN := gW_ (w := w) hg (hB_ HB); replace HB := sB_ HB hb; clear hb hbox hg) | ((with_reducible refine qf_ (f := 57) rfl ?_); refine goesL_ (some 9) rfl rfl Try.func57 (by kernel_rfl) rfl #[.slice A0 l0.length c0, .int .i64 a1] rfl aR_ ?_; (with_reducible refine (view_place.calls _ _ l0 a1 aA _ ?side1 ?side2 A3.out).mono ?_); (case side1 => exact cX_ (Kd.qg_ HR0.out HB.out)); (case side2 => exact HC0.out); rintro e w6 ⟨rfl, hb⟩; refine ⟨_, rfl, ?_⟩; replace aB := Zq_.mk (qc_ (g := aD) (o := .cells #[.int .i64 0, .int .i64 0, .slice none 0 0] 35 (0, 0)) (by exact bK_ aB) hb); replace HB := sB_ HB hb; (try clear hb); obtain ⟨hcz7_0, hcz7_1, hcz7_2⟩ := c3_ aB; obtain ⟨hfz7_0, hfz7_1, hfz7_2⟩ := f3_ aB))
  refine bodyPost_ret (results_ct rfl _ _ aD 35 #[.int .i64 0, .int .i64 0, .slice none 0 0] (0, 0) _ rfl (by exact bW3_ (bK_ aB)) Try.underlying35 rfl (by kernel_rfl)) rfl ?_; exact ⟨_, by exact eW_, by first | exact Kd.R_nil _ _ _ _ _ | exact Kd.N_nil _ _ _ _ _ | exact Kd.V_nil _ _ _ _ _ | exact Kd.Q_nil _ _ _ _ _ | exact Kd.S_nil _ _ _ _ _, by exact hSet_ HB⟩
 ·rw [if_neg c4] at H; have c4b0 : decide (aA < 0) = false := decide_eq_false c4; clear c4
  by_cases c8 : 0 ≤ aA
  ·rw [if_pos c8] at H; have c8b0 : decide (0 ≤ aA) = true := decide_eq_true c8; clear c8
   by_cases c9 : aA < (l0.length : Int)
   ·rw [if_pos c9] at H; have c9b0 : decide (aA < (l0.length : Int)) = true := decide_eq_true c9; clear c9; replace H := ob_ H; obtain ⟨⟨aR, aQ, aP⟩, bI, H⟩ := H; replace H : (some (aR, aQ, aP, true)) = some (r1, r2, r3, r4) := H; have A10 := Zq_.mk bI; clear bI; simp only [Option.some.injEq, Prod.mk.injEq] at H; obtain ⟨rfl, rfl, rfl, rfl⟩ := H
    go_enter Try.func36, Try.ntmps36
    go_wp2_with (first | ((with_reducible refine qd_ (N := 4) rfl ?_); refine bE_ 4 #[.int .i64 0, .int .i64 0, .slice none 0 0] 35 ?_; intro aD hg w11 hbox hb; have aB := Zq_.mk (hbox); have bH := gW_ (w := w) hg (hB_ HB); have aN := gW_ (w := w) hg (hB_ HB); replace HB := sB_ HB hb; clear hb hbox hg) | ((with_reducible refine qf_ (f := 57) rfl ?_); refine goesL_ (some 9) rfl rfl Try.func57 (by kernel_rfl) rfl #[.slice A0 l0.length c0, .int .i64 a1] rfl aR_ ?_; (with_reducible refine (view_place.calls _ _ l0 a1 aA _ ?side1 ?side2 A3.out).mono ?_); (case side1 => exact cX_ (Kd.qg_ HR0.out HB.out)); (case side2 => exact HC0.out); rintro e w12 ⟨rfl, hb⟩; refine ⟨_, rfl, ?_⟩; replace aB := Zq_.mk (qc_ (g := aD) (o := .cells #[.int .i64 0, .int .i64 0, .slice none 0 0] 35 (0, 0)) (by exact bK_ aB) hb); replace HB := sB_ HB hb; (try clear hb); have aT : 0 ≤ (aA : Int) := dA_; have aS : aA < (l0.length : Int) := dA_; obtain ⟨ad103, aV, aU, e103, aH, aG, aF, aE, aI, aJ⟩ := at_T39 HR0.out aA aT aS; cases e103; replace aH := hC_ HB aH; replace aG := hC_ HB aG; replace aF := hC_ HB aF; replace aE := hC_ HB aE; have aK := Zq_.mk aJ; have aL := Zq_.mk aI; clear aJ aI; replace aT := eq_true aT; replace aS := eq_true aS) | ((with_reducible refine qf_ (f := 40) rfl ?_); refine goesL_ (some 18) rfl rfl Try.func40 (by kernel_rfl) rfl #[.agg #[.int .i64 ((rd_T39 l0 aA).f1.f0), .int .i64 ((rd_T39 l0 aA).f1.f1), .slice aV ((rd_T39 l0 aA).f1.f2).length aU]] rfl aR_ ?_; (with_reducible refine (state_Copy.calls ((rd_T39 l0 aA).f1.f0) ((rd_T39 l0 aA).f1.f1) _ _ ((rd_T39 l0 aA).f1.f2) aR aQ aP _ ?side1 ?side2 A10.out).mono ?_); (case side1 => exact cX_ (Kd.qg_ aK.out HB.out)); (case side2 => exact aL.out); rintro e w13 ⟨v107, rfl, ho0, hb⟩; refine ⟨_, rfl, ?_⟩; have aM := Zq_.mk (Kd.vd_ ho0 (qa_ (by exact hSet_ HB))); replace aB := Zq_.mk (qc_ (g := aD) (o := .cells #[.int .i64 0, .int .i64 0, .slice none 0 0] 35 (0, 0)) (by exact bK_ aB) hb); replace HB := sB_ HB hb; (try clear hb); (try clear ho0); obtain ⟨hcz14_0, hcz14_1, hcz14_2⟩ := c3_ aB; obtain ⟨hfz14_0, hfz14_1, hfz14_2⟩ := f3_ aB; obtain ⟨Ao15, co15, eo15⟩ := Kd.vh_ aM.out; subst eo15))
    refine bodyPost_ret (results_ct rfl _ _ aD 35 #[.int .i64 aR, .int .i64 aQ, .slice Ao15 aP.length co15] (0, 0) _ rfl (by exact bW3_ (bK_ aB)) Try.underlying35 rfl (by kernel_rfl)) rfl ?_; exact ⟨_, by exact eW_, by (with_reducible repeat (first | apply Kd.qq_ | apply Kd.qp_ | apply Kd.R_drew)); exact Kd.R_mono (Kd.R_far (Kd.R_far (Kd.R_far (Kd.ve_ aM.out aB.out (by decide)) (fun _ hk => hk.2) _) (fun _ hk => hk.2) _) (fun _ hk => hk.2) _) (fun _ hk => trivial), by exact hSet_ HB⟩
   ·rw [if_neg c9] at H; exact absurd H (by simp)
  ·rw [if_neg c8] at H; exact absurd H (by simp)
end Go.Proofs.Ytgipbmjkgciccaa.P

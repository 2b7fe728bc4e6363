/- What this function of the program comes to, and that the machine's call does it. No condition. -/
import Derived.Test.YtgipbmjkgciccaaPStateCopy
namespace Go.Proofs.Ytgipbmjkgciccaa.P
set_option maxHeartbeats 8000000
set_option maxRecDepth 100000
open Go.RowKit Go.Proofs.YtgipbmjkgciccaaW.PrintWords Go.Proofs.YtgipbmjkgciccaaW.PrintLast Go.Proofs.YtgipbmjkgciccaaW.PrintMore
attribute [local go_sem] max2_int min2_int max_two min_two max_three min_three max_four min_four Go.Proofs.YtgipbmjkgciccaaW.Hw.string_gtr
set_option linter.unusedVariables false
set_option linter.unusedSimpArgs false
def delta_Full.l0 : Nat → List (S53) → List (S39) → Int → Int → Option ((List (S53)))
 | 0, _, _, _, _ => none
 | k + 1, x3, x6, x7, x8 => if x8 < x7 then (if 0 ≤ x8 then (if x8 < (x6.length : Int) then ((state_Copy.f ((rd_T39 x6 x8).f1.f0) ((rd_T39 x6 x8).f1.f1) ((rd_T39 x6 x8).f1.f2)).bind fun bt103 => (if x3.length < 2513169434916 then (delta_Full.l0 k (x3 ++ [(⟨(rd_T39 x6 x8).f0, 0, (⟨bt103.1, bt103.2.1, bt103.2.2⟩ : S35)⟩ : S53)]) x6 x7 (wrap64 (x8 + 1))) else (none))) else (none)) else (none)) else (some x3)
def delta_Full.f (k : Nat) (l0 : List (S39)) : Option ((List (S53))) := delta_Full.l0 k ([] : List (S53)) l0 (l0.length : Int) 0
theorem delta_Full.mono_l : ∀ k, (∀ y0 y1 y2 y3, LeO (delta_Full.l0 k y0 y1 y2 y3) (delta_Full.l0 (k + 1) y0 y1 y2 y3))
 | 0 => fun _ _ _ _ r h => by simp [delta_Full.l0] at h
 | k + 1 => by
  have ih0 := delta_Full.mono_l k
  ·intro y0 y1 y2 y3
   unfold delta_Full.l0
   repeat' first
   | (with_reducible exact ih0 _ _ _ _)
   | (with_reducible exact LeO.refl _)
   | (with_reducible exact LeO.none _)
   | (with_reducible refine LeO.ite ?_ ?_)
   | (with_reducible refine LeO.bind ?_ (fun _ => ?_))
   | exact ih0 _ _ _ _
   | exact LeO.none _
   | refine LeO.ite ?_ ?_
   | refine LeO.bind ?_ (fun _ => ?_)
theorem delta_Full.mono : ∀ a0 k, LeO (delta_Full.f k a0) (delta_Full.f (k + 1) a0) := by
 intro a0 k; have ih0 := delta_Full.mono_l k
 unfold delta_Full.f
 repeat' first
   | (with_reducible exact ih0 _ _ _ _)
   | (with_reducible exact LeO.refl _)
   | (with_reducible exact LeO.none _)
   | (with_reducible refine LeO.ite ?_ ?_)
   | (with_reducible refine LeO.bind ?_ (fun _ => ?_))
   | exact ih0 _ _ _ _
   | exact LeO.none _
   | refine LeO.ite ?_ ?_
   | refine LeO.bind ?_ (fun _ => ?_)
def delta_Full.T5 : Bool × List (List Nat × List Nat) := (true, [([], []), ([], []), ([1], [1]), ([], []), ([3], [3]), ([4], [4]), ([2, 5], [2, 5]), ([6], [6]), ([0, 7, 5], [0, 7]), ([8, 8, 0, 1, 2, 3, 4, 5, 6, 7, 8], [0, 8])])
def delta_Full.B5 : List Nat := [0, 0, 2, 0, 8, 24, 62, 126, 255, 511]
theorem delta_Full.tab5 : rtab .any (opsOf Try.f14 5) = delta_Full.T5 := by kernel_rfl
theorem delta_Full.bits5 : waitsOk delta_Full.T5.2 delta_Full.B5 = true := by kernel_rfl
theorem delta_Full.calls (k : Nat) (A0 : Option Addr) (c0 : Nat) (l0 : List (S39)) (r : List (S53)) (w : World) (hr0 : Kd.C k39 w A0 l0.length l0) (hc0 : l0.length ≤ c0) (h : delta_Full.f k l0 = some r) :
  Calls Try.prog 14 #[.slice A0 l0.length c0] w fun e w' => ∃ v0_ : Value, e = .returned (v0_) ∧ Kd.S k53 53 w' w.heap.size (fun _ => True) v0_ r ∧ Below w.heap.size w w' := by
 have hu39 := Try.underlying39; have hu35 := Try.underlying35; have hu53 := Try.underlying53; have HR0 := Zq_.mk hr0; have HC0 := Zq_.mk hc0; clear hr0 hc0; have HB := Zq_.mk (Below.refl w.heap.size w); have H : (delta_Full.l0 k ([] : List (S53)) l0 (l0.length : Int) 0) = some r := h; clear h; have H' := Zq_.mk H; clear H
 go_enter Try.func14, Try.ntmps14
 go_wp2
 go_loopg [3, 8] k (fun kq v3 v8 w' => ∃ (x3_1 : List (S53)) (x8_1 : Int), v8 = .int .i64 x8_1 ∧ Zq_ (delta_Full.l0 kq x3_1 l0 (l0.length : Int) x8_1 = some r) ∧ Zq_ (kq ≤ k) ∧ Zq_ (Kd.S k53 53 w' w.heap.size (fun _ => True) v3 x3_1) ∧ Zq_ (Below w.heap.size w w'))
 case atStart => exact ⟨(([] : List (S53))), (0), (by first | rfl | (simp; done) | (simp [*]; done)), H', ⟨Nat.le_refl _⟩, ⟨by first | exact Kd.S_nil _ _ _ _ _ | exact Kd.N_nil _ _ _ _ _ | exact Kd.V_nil _ _ _ _ _ | exact Kd.Q_nil _ _ _ _ _ | exact Kd.R_nil _ _ _ _ _⟩, ⟨hB_ HB⟩⟩
 case round =>
  clear H'
  try clear c1
  obtain ⟨x3_1, x8_1, rfl, HA, HK1, HO_3, HB⟩ := hrel
  cases gk with
  | zero => exact absurd HA.out (by simp [delta_Full.l0])
  | succ k1 =>
   have H := HA.out; clear HA; simp only [delta_Full.l0] at H
   by_cases c2 : x8_1 < (l0.length : Int)
   ·rw [if_pos c2] at H; have c2b0 : decide (x8_1 < (l0.length : Int)) = true := decide_eq_true c2; clear c2
    by_cases c3 : 0 ≤ x8_1
    ·rw [if_pos c3] at H; have c3b0 : decide (0 ≤ x8_1) = true := decide_eq_true c3; clear c3
     by_cases c4 : x8_1 < (l0.length : Int)
     ·rw [if_pos c4] at H; have c4b0 : decide (x8_1 < (l0.length : Int)) = true := decide_eq_true c4; clear c4; replace H := ob_ H; obtain ⟨⟨t103, t104, t105⟩, A50, H⟩ := H; replace H : (if x3_1.length < 2513169434916 then (delta_Full.l0 k1 (x3_1 ++ [(⟨(rd_T39 l0 x8_1).f0, 0, (⟨t103, t104, t105⟩ : S35)⟩ : S53)]) l0 (l0.length : Int) (wrap64 (x8_1 + 1))) else (none)) = some r := H; have A5 := Zq_.mk A50; clear A50
      by_cases c6 : x3_1.length < 2513169434916
      ·rw [if_pos c6] at H; have LMc6 := Zq_.mk c6; clear c6; obtain ⟨y108, hy108⟩ : ∃ y_ : List (S53), y_ = (x3_1 ++ [(⟨(rd_T39 l0 x8_1).f0, 0, (⟨t103, t104, t105⟩ : S35)⟩ : S53)]) := ⟨_, rfl⟩
       replace H : (delta_Full.l0 k1 y108 l0 (l0.length : Int) (wrap64 (x8_1 + 1))) = some r := by first | (rw [hy108]; with_reducible exact H) | (have H2_ := (Option.bind_some _ _).symm.trans H; rw [hy108]; with_reducible exact H2_) | (have H2_ := (Option.bind_some _ _).symm.trans H; with_reducible exact H2_) | with_reducible exact H | (rw [hy108]; exact H) | exact H
       have Ny108 := Zq_.mk hy108; clear hy108; have H' := Zq_.mk H; clear H; have p101 : 0 ≤ (x8_1 : Int) := dA_; have q101 : x8_1 < (l0.length : Int) := dA_; obtain ⟨ad101, A101_3, c101_3, e101, hx101_0, hx101_1, hx101_2, hx101_3, hl101_3, hi101_3⟩ := at_T39 HR0.out x8_1 p101 q101; cases e101; replace hx101_0 := hC_ HB hx101_0; replace hx101_1 := hC_ HB hx101_1; replace hx101_2 := hC_ HB hx101_2; replace hx101_3 := hC_ HB hx101_3; have HR101_3 := Zq_.mk hi101_3; have HC101_3 := Zq_.mk hl101_3; clear hi101_3 hl101_3; replace p101 := eq_true p101; replace q101 := eq_true q101
       try go_wp2_with (first | ((with_reducible refine qq_ (N := 5) rfl ?_); refine qo_ ?hg (N := 5) ?hd (cs := #[.int .i64 0, .int .i64 0, .int .i64 0, .slice none 0 0]) (t := 39) ?hr ?_; (case hd => rfl); (case hg => rfl); (case hr => first | (go_simp; done) | (go_simp; rfl)); intro gb102 hg w7 hbox hb; replace HO_3 := vV_ Kd.S_below HO_3 hb; have BK102 := Zq_.mk (hbox); have GW102 := gW_ (w := w) hg (hB_ HB); have GE102 := gW_ (w := w) hg (hB_ HB); replace HB := Zq_.mk (ql_ (hB_ HB) hb); clear hb hbox hg; have hcz8_0 := cz_ BK102 0 (.int .i64 0); have hcz8_1 := cz_ BK102 1 (.int .i64 0); have hcz8_2 := cz_ BK102 2 (.int .i64 0); have hcz8_3 := cz_ BK102 3 (.slice none 0 0); have hfz8_0 := qe_ BK102.out 0; have hfz8_1 := qe_ BK102.out 1; have hfz8_2 := qe_ BK102.out 2; have hfz8_3 := qe_ BK102.out 3))
       have n0_ : Zq_ (Kd.S k53 53 ((((w7.setCell ⟨gb102, 0, none⟩ (.int .i64 ((rd_T39 l0 x8_1).f0))).setCell ⟨gb102, 1, none⟩ (.int .i64 ((rd_T39 l0 x8_1).f1.f0))).setCell ⟨gb102, 2, none⟩ (.int .i64 ((rd_T39 l0 x8_1).f1.f1))).setCell ⟨gb102, 3, none⟩ (.slice A101_3 ((rd_T39 l0 x8_1).f1.f2).length c101_3)) w.heap.size (fun _ => True) u3 x3_1) := ⟨by (with_reducible repeat (first | apply Kd.qy_ | apply Kd.qx_ | apply Kd.S_drew)); exact Kd.S_mono (Kd.S_far (p := ⟨gb102, 3, none⟩) (Kd.S_far (p := ⟨gb102, 2, none⟩) (Kd.S_far (p := ⟨gb102, 1, none⟩) (Kd.S_far (p := ⟨gb102, 0, none⟩) (Kd.S_types HO_3.out BK102.out (by decide)) (fun _ hk => hk.2) (.int .i64 ((rd_T39 l0 x8_1).f0))) (fun _ hk => hk.2) (.int .i64 ((rd_T39 l0 x8_1).f1.f0))) (fun _ hk => hk.2) (.int .i64 ((rd_T39 l0 x8_1).f1.f1))) (fun _ hk => hk.2) (.slice A101_3 ((rd_T39 l0 x8_1).f1.f2).length c101_3)) (fun _ hk => trivial)⟩; have n1_ : Zq_ (((((w7.setCell ⟨gb102, 0, none⟩ (.int .i64 ((rd_T39 l0 x8_1).f0))).setCell ⟨gb102, 1, none⟩ (.int .i64 ((rd_T39 l0 x8_1).f1.f0))).setCell ⟨gb102, 2, none⟩ (.int .i64 ((rd_T39 l0 x8_1).f1.f1))).setCell ⟨gb102, 3, none⟩ (.slice A101_3 ((rd_T39 l0 x8_1).f1.f2).length c101_3)).heap[gb102]? = some (.cells #[.int .i64 ((rd_T39 l0 x8_1).f0), .int .i64 ((rd_T39 l0 x8_1).f1.f0), .int .i64 ((rd_T39 l0 x8_1).f1.f1), .slice A101_3 ((rd_T39 l0 x8_1).f1.f2).length c101_3] 39 (0, 0))) := ⟨by refine bP_ (cs := #[.int .i64 ((rd_T39 l0 x8_1).f0), .int .i64 ((rd_T39 l0 x8_1).f1.f0), .int .i64 ((rd_T39 l0 x8_1).f1.f1), .slice none 0 0]) 3 ?_; refine bP_ (cs := #[.int .i64 ((rd_T39 l0 x8_1).f0), .int .i64 ((rd_T39 l0 x8_1).f1.f0), .int .i64 0, .slice none 0 0]) 2 ?_; refine bP_ (cs := #[.int .i64 ((rd_T39 l0 x8_1).f0), .int .i64 0, .int .i64 0, .slice none 0 0]) 1 ?_; refine bP_ (cs := #[.int .i64 0, .int .i64 0, .int .i64 0, .slice none 0 0]) 0 ?_; (with_reducible repeat (first | refine qg_ ?_ _ | refine qi_ ?_ | refine qf_ ?_ _)); exact BK102.out⟩; have n2_ : Zq_ (Below w.heap.size w ((((w7.setCell ⟨gb102, 0, none⟩ (.int .i64 ((rd_T39 l0 x8_1).f0))).setCell ⟨gb102, 1, none⟩ (.int .i64 ((rd_T39 l0 x8_1).f1.f0))).setCell ⟨gb102, 2, none⟩ (.int .i64 ((rd_T39 l0 x8_1).f1.f1))).setCell ⟨gb102, 3, none⟩ (.slice A101_3 ((rd_T39 l0 x8_1).f1.f2).length c101_3))) := ⟨by exact hSet_ HB⟩; (try clear HO_3); (try clear BK102); (try clear HB); generalize ((((w7.setCell ⟨gb102, 0, none⟩ (.int .i64 ((rd_T39 l0 x8_1).f0))).setCell ⟨gb102, 1, none⟩ (.int .i64 ((rd_T39 l0 x8_1).f1.f0))).setCell ⟨gb102, 2, none⟩ (.int .i64 ((rd_T39 l0 x8_1).f1.f1))).setCell ⟨gb102, 3, none⟩ (.slice A101_3 ((rd_T39 l0 x8_1).f1.f2).length c101_3)) = w9 at n0_ n1_ n2_ ⊢; have HO_3 := n0_; have BK102 := n1_; have HB := n2_; clear n0_ n1_ n2_; replace HO_3 := Zq_.mk (Kd.S_drew HO_3.out); replace BK102 := Zq_.mk (qi_ BK102.out); replace HB := Zq_.mk (qb_ HB.out); refine start_ (n := 10) (S := fun w' => w'.cell? ⟨gb102, 0, none⟩ = some (.int .i64 ((rd_T39 l0 x8_1).f0)) ∧ w'.cell? ⟨gb102, 1, none⟩ = some (.int .i64 ((rd_T39 l0 x8_1).f1.f0)) ∧ w'.cell? ⟨gb102, 2, none⟩ = some (.int .i64 ((rd_T39 l0 x8_1).f1.f1)) ∧ w'.cell? ⟨gb102, 3, none⟩ = some (.slice A101_3 ((rd_T39 l0 x8_1).f1.f2).length c101_3)) (ds := []) #[false,false,false,false,false,false,false,false,false,false] (by kernel_rfl) rfl rfl ⟨(qd_ BK102.out 0).trans rfl, (qd_ BK102.out 1).trans rfl, (qd_ BK102.out 2).trans rfl, (qd_ BK102.out 3).trans rfl⟩ (fun hHeld => ?_); refine vd_ delta_Full.tab5 delta_Full.bits5 (fun HT_ HW_ => ?_); generalize w9.drew = w10 at HO_3 BK102 HB hHeld ⊢; refine pP_ 0 12 10 1 HT_ ?_; refine pP_ 1 13 10 3 HT_ ?_; refine pP_ 3 15 10 11 HT_ ?_; refine tK_ 2 14 10 15 HT_ HW_ hHeld ?_; refine tK_ 4 16 10 31 HT_ HW_ hHeld ?_; refine one_ (i := 5) (N := some 17) (bz_ 10 63) rfl rfl (one_of HT_.out (by kernel_rfl)) (by decide) (fun K hK => ?_); refine goes_ Try.func40 (by kernel_rfl) rfl #[.agg #[.int .i64 ((rd_T39 l0 x8_1).f1.f0), .int .i64 ((rd_T39 l0 x8_1).f1.f1), .slice A101_3 ((rd_T39 l0 x8_1).f1.f2).length c101_3]] (by rfl) rfl rfl (by (try simp only [List.map_toArray, List.map_cons, List.map_nil]); first | done | rfl | (simp only [List.length_drop, List.length_take]; rfl)) ?_
       with_reducible refine (state_Copy.calls ((rd_T39 l0 x8_1).f1.f0) ((rd_T39 l0 x8_1).f1.f1) _ _ ((rd_T39 l0 x8_1).f1.f2) t103 t104 t105 _ ?side1 ?side2 A5.out).mono ?_
       (case side1 => exact cX_ (Kd.qz_ HR101_3.out HB.out)); (case side2 => exact HC101_3.out); rintro e w11 ⟨v106, rfl, ho0, hb⟩; refine ⟨_, rfl, ?_⟩; replace HO_3 := Zq_.mk (Kd.S_elder' (vX_ HO_3) (Kd.R_base ho0) hb); have HO107 := Zq_.mk (Kd.R_lower ho0 (qj_ (by exact hSet_ HB))); replace BK102 := Zq_.mk (qs_ (g := gb102) (o := .cells #[.int .i64 ((rd_T39 l0 x8_1).f0), .int .i64 ((rd_T39 l0 x8_1).f1.f0), .int .i64 ((rd_T39 l0 x8_1).f1.f1), .slice A101_3 ((rd_T39 l0 x8_1).f1.f2).length c101_3] 39 (0, 0)) (by exact bK_ BK102) hb); replace HB := Zq_.mk (ql_ (by exact hSet_ HB) hb); (try clear hb); (try clear ho0); obtain ⟨Ao12, co12, eo12⟩ := Kd.R_slice HO107.out; (first | subst eo12 | (injection eo12 with f1_ f2_ f3_; have f4_ := f1_.symm; have f5_ := f3_.symm; clear f1_ f2_ f3_; subst f4_; subst f5_)); refine hK.out _ _ ⟨(qd_ BK102.out 0).trans rfl, (qd_ BK102.out 1).trans rfl, (qd_ BK102.out 2).trans rfl, (qd_ BK102.out 3).trans rfl⟩ (fun hHeld => ?_); clear hK K; refine norm_ (a' := ?_) ?_ ?_; rotate_left
       ·show Act.put _ (some 17) _ = _
        simp only [Act.put, sa_, sb_, sc_, i64_w, i32_w]; rfl
       refine pP_ 6 18 10 127 HT_ ?_; refine one_ (i := 7) (N := some 19) (bz_ 10 255) rfl rfl (one_of HT_.out (by kernel_rfl)) (by decide) (fun K hK => ?_); refine value_ (w1 := ?_) (v := ?_) (by rfl) rfl ?_ ?_; rotate_left 2
       ·go_simp
        constructor
        ·rfl
        ·rfl
       refine hK.out _ _ ⟨(qd_ (qf_ BK102.out _) 0).trans rfl, (qd_ (qf_ BK102.out _) 1).trans rfl, (qd_ (qf_ BK102.out _) 2).trans rfl, (qd_ (qf_ BK102.out _) 3).trans rfl⟩ (fun hHeld => ?_); clear hK K; refine norm_ (a' := ?_) ?_ ?_; rotate_left
       ·show Act.put _ (some 19) _ = _
        simp only [Act.put, sa_, sb_, sc_, i64_w, i32_w]; rfl
       refine one_ (i := 8) (N := some 20) (bz_ 10 511) rfl rfl (one_of HT_.out (by kernel_rfl)) (by decide) (fun K hK => ?_); refine Kd.S_append_step k53 (w0 := w) w.heap.size (by rfl) (.tmp 12) (.tmp 19) 27 53 (.agg #[(.int .i64 0), (.int .i64 0), (.int .i64 0), (.int .i64 0), (.slice none 0 0)]) 56 rfl Try.underlying27 info53 rfl (by decide) (by omega) u3 x3_1 (⟨(rd_T39 l0 x8_1).f0, 0, (⟨t103, t104, t105⟩ : S35)⟩ : S53) [.int .i64 ((rd_T39 l0 x8_1).f0), .int .i64 0, .int .i64 t103, .int .i64 t104, .slice Ao12 t105.length co12] (fun _ => True) (fun k_ => some k_ = (.slice Ao12 t105.length co12 : Value).ownBlock) rfl rfl ?aP (fun k_ hk_ => ((Kd.R_mono (ok' := fun k_ => ((fun _ => True)) k_ ∧ some k_ ≠ (u3 : Value).ownBlock) (Kd.R_apart' (HO107.out) (Kd.S_typed HO_3.out) (by decide)) (fun k_ hk => ⟨trivial, hk.2⟩))).1 k_ hk_.symm) ?aF ?aO ?aB ?aS ?aL ?_; (case aP => exact k53_mkM _ _ _ (⟨(rd_T39 l0 x8_1).f0, 0, (⟨t103, t104, t105⟩ : S35)⟩ : S53) (Kd.R_mono (Kd.R_tight rfl (Kd.R_mono (ok' := fun k_ => ((fun _ => True)) k_ ∧ some k_ ≠ (u3 : Value).ownBlock) (Kd.R_apart' (HO107.out) (Kd.S_typed HO_3.out) (by decide)) (fun k_ hk => ⟨trivial, hk.2⟩))) (fun _ h_ => h_))); (case aB => exact (by exact hSet_ HB)); (case aF => exact (fun _ _ => trivial)); (case aO => exact (by (with_reducible repeat (first | apply Kd.qy_ | apply Kd.qx_ | apply Kd.S_drew)); exact Kd.S_mono HO_3.out (fun k_ hk => ⟨trivial, fun e_ => hk.2 e_⟩))); (case aS => exact (qj_ (by exact hSet_ HB))); (case aL => have := LMc6.out; omega); intro v109 w13 ho hb hg hat; rw [← Ny108.out] at ho; replace BK102 := Zq_.mk (blk_grown (g := gb102) (o := .cells #[.int .i64 ((rd_T39 l0 x8_1).f0), .int .i64 ((rd_T39 l0 x8_1).f1.f0), .int .i64 ((rd_T39 l0 x8_1).f1.f1), .slice A101_3 ((rd_T39 l0 x8_1).f1.f2).length c101_3] 39 (0, 0)) (by exact bK_ BK102) hg (Kd.S_ne HO_3.out BK102.out (by decide))); replace HB := Zq_.mk (hb); have HO110 := Zq_.mk (ho); clear HO_3 HO107; clear ho hb hg hat; refine hK.out _ _ ⟨(qd_ BK102.out 0).trans rfl, (qd_ BK102.out 1).trans rfl, (qd_ BK102.out 2).trans rfl, (qd_ BK102.out 3).trans rfl⟩ (fun hHeld => ?_); clear hK K; refine norm_ (a' := ?_) ?_ ?_; rotate_left
       ·show Act.put _ (some 20) _ = _
        simp only [Act.put, sa_, sb_, sc_, i64_w, i32_w]; rfl
       refine pP_ 9 3 10 1023 HT_ ?_; refine done_ (done_of HT_.out (by kernel_rfl)) ?_; (try go_wp2)
       go_roundg k1
       case measure => have := HK1.out; omega
       case rel => exact ⟨(y108), (wrap64 (x8_1 + 1)), (by first | rfl | (simp; done) | (simp [*]; done)), H', ⟨by have := HK1.out; omega⟩, ⟨by (with_reducible repeat (first | apply Kd.qy_ | apply Kd.qx_ | apply Kd.S_drew)); exact HO110.out⟩, ⟨by exact hSet_ HB⟩⟩
      ·rw [if_neg c6] at H; exact absurd H (by simp)
     ·rw [if_neg c4] at H; exact absurd H (by simp)
    ·rw [if_neg c3] at H; exact absurd H (by simp)
   ·rw [if_neg c2] at H; have c2b0 : decide (x8_1 < (l0.length : Int)) = false := decide_eq_false c2; clear c2; obtain rfl := Option.some.inj H
    go_wp2
    go_ret
    exact ⟨_, by first | rfl | (simp [errW_none, errW_some] <;> rfl) | (simp [*, errW_none, errW_some] <;> rfl), by (with_reducible repeat (first | apply Kd.qy_ | apply Kd.qx_ | apply Kd.S_drew)); exact HO_3.out, hB_ HB⟩
end Go.Proofs.Ytgipbmjkgciccaa.P

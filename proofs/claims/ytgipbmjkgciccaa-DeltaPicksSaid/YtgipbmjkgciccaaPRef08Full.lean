/- What this function of the program comes to, and that the machine's call does it. No condition. -/
import Derived.Test.YtgipbmjkgciccaaPRef06Copy
namespace Go.Proofs.Ytgipbmjkgciccaa.P
set_option maxHeartbeats 8000000
set_option maxRecDepth 100000
open Go.RowKit Go.Proofs.YtgipbmjkgciccaaW.PrintWords Go.Proofs.YtgipbmjkgciccaaW.PrintLast Go.Proofs.YtgipbmjkgciccaaW.PrintMore
attribute [local go_sem] max2_int min2_int max_two min_two max_three min_three max_four min_four Go.Proofs.YtgipbmjkgciccaaW.Hw.string_gtr
set_option linter.unusedVariables false
set_option linter.unusedSimpArgs false
def ref08_Full.l0 : Nat → List (S39) → List (S53) → Int → Option ((List (S53)))
 | 0, _, _, _ => none
 | k + 1, x0, x3, x4 => if x4 < (x0.length : Int) then (if 0 ≤ x4 then ((ref05_Copy.f ((rd_T39 x0 x4).f1.f0) ((rd_T39 x0 x4).f1.f1) ((rd_T39 x0 x4).f1.f2)).bind fun bt103 => (if x3.length < 2513169434916 then (ref08_Full.l0 k x0 (x3 ++ [(⟨(rd_T39 x0 x4).f0, 0, (⟨bt103.1, bt103.2.1, bt103.2.2⟩ : S35)⟩ : S53)]) (wrap64 (x4 + 1))) else (none))) else (none)) else (some x3)
def ref08_Full.f (k : Nat) (l0 : List (S39)) : Option ((List (S53))) := ref08_Full.l0 k l0 ([] : List (S53)) 0
theorem ref08_Full.mono_l : ∀ k, (∀ y0 y1 y2, LeO (ref08_Full.l0 k y0 y1 y2) (ref08_Full.l0 (k + 1) y0 y1 y2))
 | 0 => fun _ _ _ r h => by simp [ref08_Full.l0] at h
 | k + 1 => by
  have ih0 := ref08_Full.mono_l k
  ·intro y0 y1 y2
   unfold ref08_Full.l0
   repeat' first
   | (with_reducible exact ih0 _ _ _)
   | (with_reducible exact LeO.refl _)
   | (with_reducible exact LeO.none _)
   | (with_reducible refine LeO.ite ?_ ?_)
   | (with_reducible refine LeO.bind ?_ (fun _ => ?_))
   | exact ih0 _ _ _
   | exact LeO.none _
   | refine LeO.ite ?_ ?_
   | refine LeO.bind ?_ (fun _ => ?_)
theorem ref08_Full.mono : ∀ a0 k, LeO (ref08_Full.f k a0) (ref08_Full.f (k + 1) a0) := by
 intro a0 k; have ih0 := ref08_Full.mono_l k
 unfold ref08_Full.f
 repeat' first
   | (with_reducible exact ih0 _ _ _)
   | (with_reducible exact LeO.refl _)
   | (with_reducible exact LeO.none _)
   | (with_reducible refine LeO.ite ?_ ?_)
   | (with_reducible refine LeO.bind ?_ (fun _ => ?_))
   | exact ih0 _ _ _
   | exact LeO.none _
   | refine LeO.ite ?_ ?_
   | refine LeO.bind ?_ (fun _ => ?_)
def ref08_Full.T5 : Bool × List (List Nat × List Nat) := (true, [([], []), ([], []), ([], []), ([1, 2], [1, 2]), ([3], [3]), ([4], [4]), ([], []), ([], []), ([6, 7], [6, 7]), ([8], [8]), ([9], [9]), ([10], [10]), ([5, 11], [5, 11]), ([12], [12]), ([0, 13, 11], [0, 13]), ([14, 14, 0, 1, 2, 3, 4, 5, 6, 7, 8, 9, 10, 11, 12, 13, 14], [0, 14])])
def ref08_Full.B5 : List Nat := [0, 0, 0, 6, 14, 30, 0, 0, 192, 448, 960, 1984, 4094, 8190, 16383, 32767]
theorem ref08_Full.tab5 : rtab .any (opsOf Try.f15 5) = ref08_Full.T5 := by kernel_rfl
theorem ref08_Full.bits5 : waitsOk ref08_Full.T5.2 ref08_Full.B5 = true := by kernel_rfl
theorem ref08_Full.calls (k : Nat) (A0 : Option Addr) (c0 : Nat) (l0 : List (S39)) (r : List (S53)) (w : World) (hr0 : Kd.C k39 w A0 l0.length l0) (hc0 : l0.length ≤ c0) (h : ref08_Full.f k l0 = some r) :
  Calls Try.prog 15 #[.slice A0 l0.length c0] w fun e w' => ∃ v0_ : Value, e = .returned (v0_) ∧ Kd.S k53 53 w' w.heap.size (fun _ => True) v0_ r ∧ Below w.heap.size w w' := by
 have hu35 := Try.underlying35; have hu53 := Try.underlying53; have HR0 := Zq_.mk hr0; have HC0 := Zq_.mk hc0; clear hr0 hc0; have HB := Zq_.mk (Below.refl w.heap.size w); have H : (ref08_Full.l0 k l0 ([] : List (S53)) 0) = some r := h; clear h; have H' := Zq_.mk H; clear H
 go_enter Try.func15, Try.ntmps15
 go_wp2
 go_loopg [3, 4] k (fun kq v3 v4 w' => ∃ (x3_1 : List (S53)) (x4_1 : Int), v4 = .int .i64 x4_1 ∧ Zq_ (ref08_Full.l0 kq l0 x3_1 x4_1 = some r) ∧ Zq_ (kq ≤ k) ∧ Zq_ (Kd.S k53 53 w' w.heap.size (fun _ => True) v3 x3_1) ∧ Zq_ (Below w.heap.size w w'))
 case atStart => exact ⟨(([] : List (S53))), (0), (by first | rfl | (simp; done) | (simp [*]; done)), H', ⟨Nat.le_refl _⟩, ⟨by first | exact Kd.S_nil _ _ _ _ _ | exact Kd.N_nil _ _ _ _ _ | exact Kd.V_nil _ _ _ _ _ | exact Kd.Q_nil _ _ _ _ _ | exact Kd.R_nil _ _ _ _ _⟩, ⟨hB_ HB⟩⟩
 case round =>
  clear H'
  try clear c1
  obtain ⟨x3_1, x4_1, rfl, HA, HK1, HO_3, HB⟩ := hrel
  cases gk with
  | zero => exact absurd HA.out (by simp [ref08_Full.l0])
  | succ k1 =>
   have H := HA.out; clear HA; simp only [ref08_Full.l0] at H
   by_cases c2 : x4_1 < (l0.length : Int)
   ·rw [if_pos c2] at H; have c2b0 : decide (x4_1 < (l0.length : Int)) = true := decide_eq_true c2; clear c2
    by_cases c3 : 0 ≤ x4_1
    ·rw [if_pos c3] at H; have c3b0 : decide (0 ≤ x4_1) = true := decide_eq_true c3; clear c3; replace H := ob_ H; obtain ⟨⟨t103, t104, t105⟩, A40, H⟩ := H; replace H : (if x3_1.length < 2513169434916 then (ref08_Full.l0 k1 l0 (x3_1 ++ [(⟨(rd_T39 l0 x4_1).f0, 0, (⟨t103, t104, t105⟩ : S35)⟩ : S53)]) (wrap64 (x4_1 + 1))) else (none)) = some r := H; have A4 := Zq_.mk A40; clear A40
     by_cases c5 : x3_1.length < 2513169434916
     ·rw [if_pos c5] at H; have LMc5 := Zq_.mk c5; clear c5; obtain ⟨y108, hy108⟩ : ∃ y_ : List (S53), y_ = (x3_1 ++ [(⟨(rd_T39 l0 x4_1).f0, 0, (⟨t103, t104, t105⟩ : S35)⟩ : S53)]) := ⟨_, rfl⟩
      replace H : (ref08_Full.l0 k1 l0 y108 (wrap64 (x4_1 + 1))) = some r := by first | (rw [hy108]; with_reducible exact H) | (have H2_ := (Option.bind_some _ _).symm.trans H; rw [hy108]; with_reducible exact H2_) | (have H2_ := (Option.bind_some _ _).symm.trans H; with_reducible exact H2_) | with_reducible exact H | (rw [hy108]; exact H) | exact H
      have Ny108 := Zq_.mk hy108; clear hy108; have H' := Zq_.mk H; clear H; (try go_wp2); replace HO_3 := Zq_.mk (Kd.S_drew HO_3.out); replace HB := Zq_.mk (qb_ HB.out); have p101 : 0 ≤ (x4_1 : Int) := dA_; have q101 : x4_1 < (l0.length : Int) := dA_; obtain ⟨ad101, A101_3, c101_3, e101, hx101_0, hx101_1, hx101_2, hx101_3, hl101_3, hi101_3⟩ := at_T39 HR0.out x4_1 p101 q101; have hw101_3 := hx101_3; have hw101_2 := hx101_2; have hw101_1 := hx101_1; have hw101_0 := hx101_0; cases e101; replace hx101_0 := hC_ HB hx101_0; replace hx101_1 := hC_ HB hx101_1; replace hx101_2 := hC_ HB hx101_2; replace hx101_3 := hC_ HB hx101_3; have HR101_3 := Zq_.mk hi101_3; have HC101_3 := Zq_.mk hl101_3; clear hi101_3 hl101_3; replace p101 := eq_true p101; replace q101 := eq_true q101; have p102 : 0 ≤ (x4_1 : Int) := dA_; have q102 : x4_1 < (l0.length : Int) := dA_; obtain ⟨ad102, A102_3, c102_3, e102, hx102_0, hx102_1, hx102_2, hx102_3, hl102_3, hi102_3⟩ := at_T39 HR0.out x4_1 p102 q102; have hw102_3 := hx102_3; have hw102_2 := hx102_2; have hw102_1 := hx102_1; have hw102_0 := hx102_0; obtain rfl : ad101 = ad102 := (by injection e102); replace hx102_0 := hC_ HB hx102_0; replace hx102_1 := hC_ HB hx102_1; replace hx102_2 := hC_ HB hx102_2; replace hx102_3 := hC_ HB hx102_3; have HR102_3 := Zq_.mk hi102_3; have HC102_3 := Zq_.mk hl102_3; clear hi102_3 hl102_3; replace p102 := eq_true p102; replace q102 := eq_true q102; have ea_ := Option.some.inj (hx101_3.symm.trans hx102_3)
      injection ea_ with ea_ en_ ec_
      subst ea_; subst ec_; clear en_; refine start_ (n := 16) (S := fun w' => w'.cell? (ad101.add ((x4_1).toNat * 4)) = some (.int .i64 ((rd_T39 l0 x4_1).f0)) ∧ w'.cell? ⟨(ad101.add ((x4_1).toNat * 4)).block, (ad101.add ((x4_1).toNat * 4)).off + 1, none⟩ = some (.int .i64 ((rd_T39 l0 x4_1).f1.f0)) ∧ w'.cell? ⟨(ad101.add ((x4_1).toNat * 4)).block, (ad101.add ((x4_1).toNat * 4)).off + 2, none⟩ = some (.int .i64 ((rd_T39 l0 x4_1).f1.f1)) ∧ w'.cell? ⟨(ad101.add ((x4_1).toNat * 4)).block, (ad101.add ((x4_1).toNat * 4)).off + 3, none⟩ = some (.slice A101_3 ((rd_T39 l0 x4_1).f1.f2).length c101_3) ∧ w'.cell? (ad101.add ((x4_1).toNat * 4)) = some (.int .i64 ((rd_T39 l0 x4_1).f0)) ∧ w'.cell? ⟨(ad101.add ((x4_1).toNat * 4)).block, (ad101.add ((x4_1).toNat * 4)).off + 1, none⟩ = some (.int .i64 ((rd_T39 l0 x4_1).f1.f0)) ∧ w'.cell? ⟨(ad101.add ((x4_1).toNat * 4)).block, (ad101.add ((x4_1).toNat * 4)).off + 2, none⟩ = some (.int .i64 ((rd_T39 l0 x4_1).f1.f1)) ∧ w'.cell? ⟨(ad101.add ((x4_1).toNat * 4)).block, (ad101.add ((x4_1).toNat * 4)).off + 3, none⟩ = some (.slice A101_3 ((rd_T39 l0 x4_1).f1.f2).length c101_3)) (ds := []) #[false,false,false,false,false,false,false,false,false,false,false,false,false,false,false,false] (by kernel_rfl) rfl rfl ⟨(hC_ HB hw101_0), (hC_ HB hw101_1), (hC_ HB hw101_2), (hC_ HB hw101_3), (hC_ HB hw102_0), (hC_ HB hw102_1), (hC_ HB hw102_2), (hC_ HB hw102_3)⟩ (fun hHeld => ?_); refine vd_ ref08_Full.tab5 ref08_Full.bits5 (fun HT_ HW_ => ?_); generalize wr.drew = w6 at HO_3 HB HR101_3 HR102_3 hx101_0 hx101_1 hx101_2 hx101_3 hx102_0 hx102_1 hx102_2 hx102_3 hHeld ⊢; refine pP_ 0 11 16 1 HT_ ?_; refine pP_ 1 12 16 3 HT_ ?_; refine pP_ 2 13 16 7 HT_ ?_; refine pP_ 3 14 16 15 HT_ ?_; refine pP_ 4 15 16 31 HT_ ?_; refine pP_ 6 17 16 95 HT_ ?_; refine pP_ 7 18 16 223 HT_ ?_; refine pP_ 8 19 16 479 HT_ ?_; refine pP_ 9 20 16 991 HT_ ?_; refine tK_ 5 16 16 1023 HT_ HW_ hHeld ?_; refine tK_ 10 21 16 2047 HT_ HW_ hHeld ?_; refine one_ (i := 11) (N := some 22) (bz_ 16 4095) rfl rfl (one_of HT_.out (by kernel_rfl)) (by decide) (fun K hK => ?_); refine goes_ Try.func41 (by kernel_rfl) rfl #[.agg #[.int .i64 ((rd_T39 l0 x4_1).f1.f0), .int .i64 ((rd_T39 l0 x4_1).f1.f1), .slice A101_3 ((rd_T39 l0 x4_1).f1.f2).length c101_3]] (by rfl) rfl rfl (by (try simp only [List.map_toArray, List.map_cons, List.map_nil]); first | done | rfl | (simp only [List.length_drop, List.length_take]; rfl)) ?_
      with_reducible refine (ref05_Copy.calls ((rd_T39 l0 x4_1).f1.f0) ((rd_T39 l0 x4_1).f1.f1) _ _ ((rd_T39 l0 x4_1).f1.f2) t103 t104 t105 _ ?side1 ?side2 A4.out).mono ?_
      (case side1 => exact cX_ (Kd.qz_ HR102_3.out HB.out)); (case side2 => exact HC102_3.out); rintro e w7 ⟨v106, rfl, ho0, hb⟩; refine ⟨_, rfl, ?_⟩; replace HO_3 := Zq_.mk (Kd.S_elder' (vX_ HO_3) (Kd.R_base ho0) hb); have HO107 := Zq_.mk (Kd.R_lower ho0 (qj_ (hB_ HB))); replace HB := Zq_.mk (ql_ (hB_ HB) hb); (try clear hb); (try clear ho0); obtain ⟨Ao8, co8, eo8⟩ := Kd.R_slice HO107.out; (first | subst eo8 | (injection eo8 with f1_ f2_ f3_; have f4_ := f1_.symm; have f5_ := f3_.symm; clear f1_ f2_ f3_; subst f4_; subst f5_)); refine hK.out _ _ ⟨(hC_ HB hw101_0), (hC_ HB hw101_1), (hC_ HB hw101_2), (hC_ HB hw101_3), (hC_ HB hw102_0), (hC_ HB hw102_1), (hC_ HB hw102_2), (hC_ HB hw102_3)⟩ (fun hHeld => ?_); clear hK K; refine norm_ (a' := ?_) ?_ ?_; rotate_left
      ·show Act.put _ (some 22) _ = _
       simp only [Act.put, sa_, sb_, sc_, i64_w, i32_w]; rfl
      refine pP_ 12 23 16 8191 HT_ ?_; refine one_ (i := 13) (N := some 24) (bz_ 16 16383) rfl rfl (one_of HT_.out (by kernel_rfl)) (by decide) (fun K hK => ?_); refine value_ (w1 := ?_) (v := ?_) (by rfl) rfl ?_ ?_; rotate_left 2
      ·go_simp
       constructor
       ·rfl
       ·rfl
      refine hK.out _ _ ⟨(World.cell?_alloc_lt _ _ _ (wb_ _ _ ((hC_ HB hw101_0)))).trans ((hC_ HB hw101_0)), (World.cell?_alloc_lt _ _ _ (wb_ _ _ ((hC_ HB hw101_1)))).trans ((hC_ HB hw101_1)), (World.cell?_alloc_lt _ _ _ (wb_ _ _ ((hC_ HB hw101_2)))).trans ((hC_ HB hw101_2)), (World.cell?_alloc_lt _ _ _ (wb_ _ _ ((hC_ HB hw101_3)))).trans ((hC_ HB hw101_3)), (World.cell?_alloc_lt _ _ _ (wb_ _ _ ((hC_ HB hw102_0)))).trans ((hC_ HB hw102_0)), (World.cell?_alloc_lt _ _ _ (wb_ _ _ ((hC_ HB hw102_1)))).trans ((hC_ HB hw102_1)), (World.cell?_alloc_lt _ _ _ (wb_ _ _ ((hC_ HB hw102_2)))).trans ((hC_ HB hw102_2)), (World.cell?_alloc_lt _ _ _ (wb_ _ _ ((hC_ HB hw102_3)))).trans ((hC_ HB hw102_3))⟩ (fun hHeld => ?_); clear hK K; refine norm_ (a' := ?_) ?_ ?_; rotate_left
      ·show Act.put _ (some 24) _ = _
       simp only [Act.put, sa_, sb_, sc_, i64_w, i32_w]; rfl
      refine one_ (i := 14) (N := some 25) (bz_ 16 32767) rfl rfl (one_of HT_.out (by kernel_rfl)) (by decide) (fun K hK => ?_); refine Kd.S_append_step k53 (w0 := w) w.heap.size (by rfl) (.tmp 11) (.tmp 24) 27 53 (.agg #[(.int .i64 0), (.int .i64 0), (.int .i64 0), (.int .i64 0), (.slice none 0 0)]) 56 rfl Try.underlying27 info53 rfl (by decide) (by omega) u3 x3_1 (⟨(rd_T39 l0 x4_1).f0, 0, (⟨t103, t104, t105⟩ : S35)⟩ : S53) [.int .i64 ((rd_T39 l0 x4_1).f0), .int .i64 0, .int .i64 t103, .int .i64 t104, .slice Ao8 t105.length co8] (fun _ => True) (fun k_ => some k_ = (.slice Ao8 t105.length co8 : Value).ownBlock) rfl rfl ?aP (fun k_ hk_ => ((Kd.R_mono (ok' := fun k_ => ((fun _ => True)) k_ ∧ some k_ ≠ (u3 : Value).ownBlock) (Kd.R_apart' (HO107.out) (Kd.S_typed HO_3.out) (by decide)) (fun k_ hk => ⟨trivial, hk.2⟩))).1 k_ hk_.symm) ?aF ?aO ?aB ?aS ?aL ?_; (case aP => exact k53_mkM _ _ _ (⟨(rd_T39 l0 x4_1).f0, 0, (⟨t103, t104, t105⟩ : S35)⟩ : S53) (Kd.R_mono (Kd.R_tight rfl (Kd.R_mono (ok' := fun k_ => ((fun _ => True)) k_ ∧ some k_ ≠ (u3 : Value).ownBlock) (Kd.R_apart' (HO107.out) (Kd.S_typed HO_3.out) (by decide)) (fun k_ hk => ⟨trivial, hk.2⟩))) (fun _ h_ => h_))); (case aB => exact (hB_ HB)); (case aF => exact (fun _ _ => trivial)); (case aO => exact (by (with_reducible repeat (first | apply Kd.qy_ | apply Kd.qx_ | apply Kd.S_drew)); exact Kd.S_mono HO_3.out (fun k_ hk => ⟨trivial, fun e_ => hk.2 e_⟩))); (case aS => exact (qj_ (hB_ HB))); (case aL => have := LMc5.out; omega); intro v109 w9 ho hb hg hat; rw [← Ny108.out] at ho; replace HB := Zq_.mk (hb); have HO110 := Zq_.mk (ho); clear HO_3 HO107; clear ho hb hg hat; refine hK.out _ _ ⟨(hC_ HB hw101_0), (hC_ HB hw101_1), (hC_ HB hw101_2), (hC_ HB hw101_3), (hC_ HB hw102_0), (hC_ HB hw102_1), (hC_ HB hw102_2), (hC_ HB hw102_3)⟩ (fun hHeld => ?_); clear hK K; refine norm_ (a' := ?_) ?_ ?_; rotate_left
      ·show Act.put _ (some 25) _ = _
       simp only [Act.put, sa_, sb_, sc_, i64_w, i32_w]; rfl
      refine pP_ 15 3 16 65535 HT_ ?_; refine done_ (done_of HT_.out (by kernel_rfl)) ?_; (try go_wp2)
      go_roundg k1
      case measure => have := HK1.out; omega
      case rel => exact ⟨(y108), (wrap64 (x4_1 + 1)), (by first | rfl | (simp; done) | (simp [*]; done)), H', ⟨by have := HK1.out; omega⟩, ⟨by (with_reducible repeat (first | apply Kd.qy_ | apply Kd.qx_ | apply Kd.S_drew)); exact HO110.out⟩, ⟨hB_ HB⟩⟩
     ·rw [if_neg c5] at H; exact absurd H (by simp)
    ·rw [if_neg c3] at H; exact absurd H (by simp)
   ·rw [if_neg c2] at H; have c2b0 : decide (x4_1 < (l0.length : Int)) = false := decide_eq_false c2; clear c2; obtain rfl := Option.some.inj H
    go_wp2
    go_ret
    exact ⟨_, by first | rfl | (simp [errW_none, errW_some] <;> rfl) | (simp [*, errW_none, errW_some] <;> rfl), by (with_reducible repeat (first | apply Kd.qy_ | apply Kd.qx_ | apply Kd.S_drew)); exact HO_3.out, hB_ HB⟩
end Go.Proofs.Ytgipbmjkgciccaa.P

/- What this function of the program comes to, and that the machine's call does it. No condition. -/
import Derived.Test.YtgipbmjkgciccaaPRef06Get
import Derived.Test.YtgipbmjkgciccaaPRef05Above
namespace Go.Proofs.Ytgipbmjkgciccaa.P
set_option maxHeartbeats 8000000
set_option maxRecDepth 100000
open Go.RowKit Go.Proofs.YtgipbmjkgciccaaW.PrintWords Go.Proofs.YtgipbmjkgciccaaW.PrintLast Go.Proofs.YtgipbmjkgciccaaW.PrintMore
attribute [local go_sem] max2_int min2_int max_two min_two max_three min_three max_four min_four Go.Proofs.YtgipbmjkgciccaaW.Hw.string_gtr
set_option linter.unusedVariables false
set_option linter.unusedSimpArgs false
mutual
def ref08_Pick.l0 : Nat → List (S39) → List (S60) → List (S53) → Int → Option ((List (S53)))
 | 0, _, _, _, _ => none
 | k + 1, x0, x1, x5, x6 => if x6 < (x1.length : Int) then (if 0 ≤ x6 then ((ref06_Get.f k x0 ((rd_T60 x1 x6).f0)).bind fun bt102 => (if bt102.2.2.2 = true then (ref08_Pick.j1 k x0 x1 x5 x6 (decide (bt102.1 < ((rd_T60 x1 x6).f1))) bt102.1 bt102.2.1 bt102.2.2.1) else (ref08_Pick.j1 k x0 x1 x5 x6 true bt102.1 bt102.2.1 bt102.2.2.1))) else (none)) else (some x5)
def ref08_Pick.j1 : Nat → List (S39) → List (S60) → List (S53) → Int → Bool → Int → Int → List (S58) → Option ((List (S53)))
 | 0, _, _, _, _, _, _, _, _ => none
 | k + 1, x0, x1, x5, x6, x46, x109000, x109001, x109002 => if x46 = true then (ref08_Pick.l0 k x0 x1 x5 (wrap64 (x6 + 1))) else (if 0 ≤ x6 then (if x6 < (x1.length : Int) then (if x109000 > ((rd_T60 x1 x6).f1) then (if x5.length < 2513169434916 then (ref08_Pick.l0 k x0 x1 (x5 ++ [(⟨(rd_T60 x1 x6).f0, 0, (⟨x109000, x109001, x109002⟩ : S35)⟩ : S53)]) (wrap64 (x6 + 1))) else (none)) else ((ref05_Above.f k x109000 x109001 x109002 ((rd_T60 x1 x6).f2)).bind fun bt118 => (if x5.length < 2513169434916 then (ref08_Pick.l0 k x0 x1 (x5 ++ [(⟨(rd_T60 x1 x6).f0, (rd_T60 x1 x6).f2, (⟨bt118.1, bt118.2.1, bt118.2.2⟩ : S35)⟩ : S53)]) (wrap64 (x6 + 1))) else (none)))) else (none)) else (none))
end
def ref08_Pick.f (k : Nat) (l0 : List (S39)) (l1 : List (S60)) : Option ((List (S53))) := ref08_Pick.l0 k l0 l1 ([] : List (S53)) 0
theorem ref08_Pick.mono_l : ∀ k, (∀ y0 y1 y2 y3, LeO (ref08_Pick.l0 k y0 y1 y2 y3) (ref08_Pick.l0 (k + 1) y0 y1 y2 y3)) ∧ (∀ y0 y1 y2 y3 y4 y5 y6 y7, LeO (ref08_Pick.j1 k y0 y1 y2 y3 y4 y5 y6 y7) (ref08_Pick.j1 (k + 1) y0 y1 y2 y3 y4 y5 y6 y7))
 | 0 => ⟨fun _ _ _ _ r h => by simp [ref08_Pick.l0] at h, fun _ _ _ _ _ _ _ _ r h => by simp [ref08_Pick.j1] at h⟩
 | k + 1 => by
  obtain ⟨ih0, ih1⟩ := ref08_Pick.mono_l k; refine ⟨?_, ?_⟩
  ·intro y0 y1 y2 y3
   unfold ref08_Pick.l0
   repeat' first
   | (with_reducible exact ih0 _ _ _ _)
   | (with_reducible exact ih1 _ _ _ _ _ _ _ _)
   | (with_reducible exact ref05_Above.mono _ _ _ _ _)
   | (with_reducible exact ref06_Get.mono _ _ _)
   | (with_reducible exact LeO.refl _)
   | (with_reducible exact LeO.none _)
   | (with_reducible refine LeO.ite ?_ ?_)
   | (with_reducible refine LeO.bind ?_ (fun _ => ?_))
   | exact ih0 _ _ _ _
   | exact ih1 _ _ _ _ _ _ _ _
   | exact ref05_Above.mono _ _ _ _ _
   | exact ref06_Get.mono _ _ _
   | exact LeO.none _
   | refine LeO.ite ?_ ?_
   | refine LeO.bind ?_ (fun _ => ?_)
  ·intro y0 y1 y2 y3 y4 y5 y6 y7
   unfold ref08_Pick.j1
   repeat' first
   | (with_reducible exact ih0 _ _ _ _)
   | (with_reducible exact ih1 _ _ _ _ _ _ _ _)
   | (with_reducible exact ref05_Above.mono _ _ _ _ _)
   | (with_reducible exact ref06_Get.mono _ _ _)
   | (with_reducible exact LeO.refl _)
   | (with_reducible exact LeO.none _)
   | (with_reducible refine LeO.ite ?_ ?_)
   | (with_reducible refine LeO.bind ?_ (fun _ => ?_))
   | exact ih0 _ _ _ _
   | exact ih1 _ _ _ _ _ _ _ _
   | exact ref05_Above.mono _ _ _ _ _
   | exact ref06_Get.mono _ _ _
   | exact LeO.none _
   | refine LeO.ite ?_ ?_
   | refine LeO.bind ?_ (fun _ => ?_)
theorem ref08_Pick.mono : ∀ a0 a1 k, LeO (ref08_Pick.f k a0 a1) (ref08_Pick.f (k + 1) a0 a1) := by
 intro a0 a1 k; obtain ⟨ih0, ih1⟩ := ref08_Pick.mono_l k
 unfold ref08_Pick.f
 repeat' first
   | (with_reducible exact ih0 _ _ _ _)
   | (with_reducible exact ih1 _ _ _ _ _ _ _ _)
   | (with_reducible exact ref05_Above.mono _ _ _ _ _)
   | (with_reducible exact ref06_Get.mono _ _ _)
   | (with_reducible exact LeO.refl _)
   | (with_reducible exact LeO.none _)
   | (with_reducible refine LeO.ite ?_ ?_)
   | (with_reducible refine LeO.bind ?_ (fun _ => ?_))
   | exact ih0 _ _ _ _
   | exact ih1 _ _ _ _ _ _ _ _
   | exact ref05_Above.mono _ _ _ _ _
   | exact ref06_Get.mono _ _ _
   | exact LeO.none _
   | refine LeO.ite ?_ ?_
   | refine LeO.bind ?_ (fun _ => ?_)
def ref08_Pick.T6 : Bool × List (List Nat × List Nat) := (true, [([], []), ([], []), ([], []), ([1, 2], [1, 2]), ([3], [3]), ([4], [4]), ([], []), ([], []), ([6, 7], [6, 7]), ([8], [8]), ([9], [9]), ([], []), ([], []), ([], []), ([12, 13], [12, 13]), ([14], [14]), ([15], [15]), ([11, 16], [11, 16]), ([5, 10, 17], [5, 10, 17]), ([18], [18]), ([0, 19, 17], [0, 19]), ([20, 20, 0, 1, 2, 3, 4, 5, 6, 7, 8, 9, 10, 11, 12, 13, 14, 15, 16, 17, 18, 19, 20], [0, 20])])
def ref08_Pick.B6 : List Nat := [0, 0, 0, 6, 14, 30, 0, 0, 192, 448, 960, 0, 0, 0, 12288, 28672, 61440, 129024, 262142, 524286, 1048575, 2097151]
theorem ref08_Pick.tab6 : rtab .any (opsOf Try.f13 6) = ref08_Pick.T6 := by kernel_rfl
theorem ref08_Pick.bits6 : waitsOk ref08_Pick.T6.2 ref08_Pick.B6 = true := by kernel_rfl
def ref08_Pick.T7 : Bool × List (List Nat × List Nat) := (true, [([], []), ([0], [0]), ([1], [1]), ([2], [2]), ([3, 2], [2, 3]), ([2], [2]), ([2], [2]), ([5, 6, 2], [2, 5, 6]), ([7, 2], [2, 7]), ([8, 2], [2, 8]), ([4, 9, 2], [2, 4, 9]), ([2, 10], [2, 10]), ([11, 2], [11])])
def ref08_Pick.B7 : List Nat := [0, 1, 3, 7, 15, 7, 7, 103, 231, 487, 1023, 2047, 4095]
theorem ref08_Pick.tab7 : rtab .any (opsOf Try.f13 7) = ref08_Pick.T7 := by kernel_rfl
theorem ref08_Pick.bits7 : waitsOk ref08_Pick.T7.2 ref08_Pick.B7 = true := by kernel_rfl
def ref08_Pick.T8 : Bool × List (List Nat × List Nat) := (true, [([], []), ([0], [0]), ([], []), ([], []), ([2, 3], [2, 3]), ([4], [4]), ([5], [5]), ([1, 6], [1, 6]), ([7], [7])])
def ref08_Pick.B8 : List Nat := [0, 1, 0, 0, 12, 28, 60, 127, 255]
theorem ref08_Pick.tab8 : rtab .any (opsOf Try.f13 8) = ref08_Pick.T8 := by kernel_rfl
theorem ref08_Pick.bits8 : waitsOk ref08_Pick.T8.2 ref08_Pick.B8 = true := by kernel_rfl
def ref08_Pick.T9 : Bool × List (List Nat × List Nat) := (true, [([], []), ([], []), ([], []), ([1, 2], [1, 2]), ([3], [3]), ([4], [4]), ([], []), ([5, 6], [5, 6]), ([7], [7]), ([0, 8], [0, 8]), ([9, 9, 0, 1, 2, 3, 4, 5, 6, 7, 8, 9], [0, 9])])
def ref08_Pick.B9 : List Nat := [0, 0, 0, 6, 14, 30, 0, 126, 254, 511, 1023]
theorem ref08_Pick.tab9 : rtab .any (opsOf Try.f13 9) = ref08_Pick.T9 := by kernel_rfl
theorem ref08_Pick.bits9 : waitsOk ref08_Pick.T9.2 ref08_Pick.B9 = true := by kernel_rfl
theorem ref08_Pick.calls (k : Nat) (A0 : Option Addr) (c0 : Nat) (l0 : List (S39)) (A1 : Option Addr) (c1 : Nat) (l1 : List (S60)) (r : List (S53)) (w : World) (hr0 : Kd.C k39 w A0 l0.length l0) (hc0 : l0.length ≤ c0) (hr1 : Kd.C k60 w A1 l1.length l1) (hc1 : l1.length ≤ c1) (h : ref08_Pick.f k l0 l1 = some r) :
  Calls Try.prog 13 #[.slice A0 l0.length c0, .slice A1 l1.length c1] w fun e w' => ∃ v0_ : Value, e = .returned (v0_) ∧ Kd.S k53 53 w' w.heap.size (fun _ => True) v0_ r ∧ Below w.heap.size w w' := by
 have hu35 := Try.underlying35; have hu53 := Try.underlying53; have HR0 := Zq_.mk hr0; have HC0 := Zq_.mk hc0; clear hr0 hc0; have HR1 := Zq_.mk hr1; have HC1 := Zq_.mk hc1; clear hr1 hc1; have HB := Zq_.mk (Below.refl w.heap.size w); have H : (ref08_Pick.l0 k l0 l1 ([] : List (S53)) 0) = some r := h; clear h; have H' := Zq_.mk H; clear H
 go_enter Try.func13, Try.ntmps13
 go_wp2
 go_loopg [5, 6] k (fun kq v5 v6 w' => ∃ (x5_1 : List (S53)) (x6_1 : Int), v6 = .int .i64 x6_1 ∧ Zq_ (ref08_Pick.l0 kq l0 l1 x5_1 x6_1 = some r) ∧ Zq_ (kq ≤ k) ∧ Zq_ (Kd.S k53 53 w' w.heap.size (fun _ => True) v5 x5_1) ∧ Zq_ (Below w.heap.size w w'))
 case atStart => exact ⟨(([] : List (S53))), (0), (by first | rfl | (simp; done) | (simp [*]; done)), H', ⟨Nat.le_refl _⟩, ⟨by first | exact Kd.S_nil _ _ _ _ _ | exact Kd.N_nil _ _ _ _ _ | exact Kd.V_nil _ _ _ _ _ | exact Kd.Q_nil _ _ _ _ _ | exact Kd.R_nil _ _ _ _ _⟩, ⟨hB_ HB⟩⟩
 case round =>
  clear H'
  try clear c1
  try clear p2
  obtain ⟨x5_1, x6_1, rfl, HA, HK1, HO_5, HB⟩ := hrel
  cases gk with
  | zero => exact absurd HA.out (by simp [ref08_Pick.l0])
  | succ k1 =>
   have H := HA.out; clear HA; simp only [ref08_Pick.l0] at H
   by_cases c3 : x6_1 < (l1.length : Int)
   ·rw [if_pos c3] at H; have c3b0 : decide (x6_1 < (l1.length : Int)) = true := decide_eq_true c3; clear c3
    by_cases c4 : 0 ≤ x6_1
    ·rw [if_pos c4] at H; have c4b0 : decide (0 ≤ x6_1) = true := decide_eq_true c4; clear c4; replace H := ob_ H; obtain ⟨⟨t102, t103, t104, t107⟩, A50, H⟩ := H; replace H : (if t107 = true then (ref08_Pick.j1 k1 l0 l1 x5_1 x6_1 (decide (t102 < ((rd_T60 l1 x6_1).f1))) t102 t103 t104) else (ref08_Pick.j1 k1 l0 l1 x5_1 x6_1 true t102 t103 t104)) = some r := H; have A5 := Zq_.mk A50; clear A50; have HC6 := Zq_.mk H; clear H; have p101 : 0 ≤ (x6_1 : Int) := dA_; have q101 : x6_1 < (l1.length : Int) := dA_; obtain ⟨ad101, e101, hx101_0, hx101_1, hx101_2⟩ := at_T60 HR1.out x6_1 p101 q101; cases e101; replace hx101_0 := hC_ HB hx101_0; replace hx101_1 := hC_ HB hx101_1; replace hx101_2 := hC_ HB hx101_2; replace p101 := eq_true p101; replace q101 := eq_true q101
     go_upto_region 7 with (first | ((with_reducible refine va_ (f := 17) rfl ?_); refine goesL_ (some 22) rfl rfl Try.func17 (by kernel_rfl) rfl #[.slice A0 l0.length c0, .int .i64 ((rd_T60 l1 x6_1).f0)] rfl (by (try simp only [List.map_toArray, List.map_cons, List.map_nil]); first | done | rfl | (simp only [List.length_drop, List.length_take]; rfl)) ?_; (with_reducible refine (ref06_Get.calls k1 _ _ l0 ((rd_T60 l1 x6_1).f0) t102 t103 t104 t107 _ ?side1 ?side2 A5.out).mono ?_); (case side1 => exact cX_ (Kd.qz_ HR0.out HB.out)); (case side2 => exact HC0.out); rintro e w7 ⟨v105, rfl, ho0, hb⟩; refine ⟨_, rfl, ?_⟩; replace HO_5 := Zq_.mk (Kd.S_elder' (vX_ HO_5) (Kd.R_base ho0) hb); have HO106 := Zq_.mk (Kd.R_lower ho0 (qj_ (hB_ HB))); replace HB := Zq_.mk (ql_ (hB_ HB) hb); (try clear hb); (try clear ho0)) | ((with_reducible refine qq_ (N := 7) rfl ?_); refine qo_ ?hg (N := 7) ?hd (cs := #[.int .i64 0, .int .i64 0, .slice none 0 0]) (t := 35) ?hr ?_; (case hd => rfl); (case hg => rfl); (case hr => first | (go_simp; done) | (go_simp; rfl)); intro gb108 hg w8 hbox hb; replace HO_5 := vV_ Kd.S_below HO_5 hb; replace HO106 := vV_ Kd.R_below HO106 hb; have BK108 := Zq_.mk (hbox); have GW108 := gW_ (w := w) hg (hB_ HB); have GE108 := gW_ (w := w) hg (hB_ HB); replace HB := Zq_.mk (ql_ (hB_ HB) hb); clear hb hbox hg; have hcz9_0 := cz_ BK108 0 (.int .i64 0); have hcz9_1 := cz_ BK108 1 (.int .i64 0); have hcz9_2 := cz_ BK108 2 (.slice none 0 0); have hfz9_0 := qe_ BK108.out 0; have hfz9_1 := qe_ BK108.out 1; have hfz9_2 := qe_ BK108.out 2; obtain ⟨Ao10, co10, eo10⟩ := Kd.R_slice HO106.out; subst eo10))
     (try simp only [Act.put, sa_, sb_, sc_])
     go_cut [46] (fun v46 wc => ∃ (kq : Nat) (x46_5 : Bool), v46 = .bool x46_5 ∧ Zq_ (ref08_Pick.j1 kq l0 l1 x5_1 x6_1 x46_5 t102 t103 t104 = some r) ∧ Zq_ (kq ≤ k1) ∧ Zq_ (Kd.S k53 53 wc w.heap.size (fun k_ => some k_ ≠ ((.slice Ao10 t104.length co10) : Value).ownBlock) u5 x5_1) ∧ Zq_ (Kd.R k58 58 wc w.heap.size (fun _ => True) (.slice Ao10 t104.length co10) t104) ∧ Zq_ (wc.heap[gb108]? = some (.cells #[.int .i64 t102, .int .i64 t103, (.slice Ao10 t104.length co10)] 35 (0, 0))) ∧ Zq_ (Below w.heap.size w wc))
     case first =>
      have H := HC6.out; clear HC6
      by_cases c11 : t107 = true
      ·subst c11
       have H1 : (ref08_Pick.j1 k1 l0 l1 x5_1 x6_1 (decide (t102 < ((rd_T60 l1 x6_1).f1))) t102 t103 t104) = some r := by rw [if_pos rfl] at H; exact H
       clear H; have H := H1; clear H1; have H' := Zq_.mk H; clear H; (try go_wp2); have n0_ : Zq_ (Kd.S k53 53 (((w8.setCell ⟨gb108, 0, none⟩ (.int .i64 t102)).setCell ⟨gb108, 1, none⟩ (.int .i64 t103)).setCell ⟨gb108, 2, none⟩ (.slice Ao10 t104.length co10)) w.heap.size (fun k_ => some k_ ≠ (.slice Ao10 t104.length co10 : Value).ownBlock) u5 x5_1) := ⟨by (with_reducible repeat (first | apply Kd.qy_ | apply Kd.qx_ | apply Kd.S_drew)); exact Kd.S_mono (Kd.S_far (p := ⟨gb108, 2, none⟩) (Kd.S_far (p := ⟨gb108, 1, none⟩) (Kd.S_far (p := ⟨gb108, 0, none⟩) (Kd.S_types HO_5.out BK108.out (by decide)) (fun _ hk => hk.2) (.int .i64 t102)) (fun _ hk => hk.2) (.int .i64 t103)) (fun _ hk => hk.2) (.slice Ao10 t104.length co10)) (fun _ hk => hk.1.2)⟩; have n1_ : Zq_ (Kd.R k58 58 (((w8.setCell ⟨gb108, 0, none⟩ (.int .i64 t102)).setCell ⟨gb108, 1, none⟩ (.int .i64 t103)).setCell ⟨gb108, 2, none⟩ (.slice Ao10 t104.length co10)) w.heap.size (fun _ => True) (.slice Ao10 t104.length co10) t104) := ⟨by (with_reducible repeat (first | apply Kd.qu_ | apply Kd.qt_ | apply Kd.R_drew)); exact Kd.R_mono (Kd.R_far (p := ⟨gb108, 2, none⟩) (Kd.R_far (p := ⟨gb108, 1, none⟩) (Kd.R_far (p := ⟨gb108, 0, none⟩) (Kd.R_types HO106.out BK108.out (by decide)) (fun _ hk => hk.2) (.int .i64 t102)) (fun _ hk => hk.2) (.int .i64 t103)) (fun _ hk => hk.2) (.slice Ao10 t104.length co10)) (fun _ hk => trivial)⟩; have n2_ : Zq_ ((((w8.setCell ⟨gb108, 0, none⟩ (.int .i64 t102)).setCell ⟨gb108, 1, none⟩ (.int .i64 t103)).setCell ⟨gb108, 2, none⟩ (.slice Ao10 t104.length co10)).heap[gb108]? = some (.cells #[.int .i64 t102, .int .i64 t103, .slice Ao10 t104.length co10] 35 (0, 0))) := ⟨by refine bP_ (cs := #[.int .i64 t102, .int .i64 t103, .slice none 0 0]) 2 ?_; refine bP_ (cs := #[.int .i64 t102, .int .i64 0, .slice none 0 0]) 1 ?_; refine bP_ (cs := #[.int .i64 0, .int .i64 0, .slice none 0 0]) 0 ?_; (with_reducible repeat (first | refine qg_ ?_ _ | refine qi_ ?_ | refine qf_ ?_ _)); exact BK108.out⟩; have n3_ : Zq_ (Below w.heap.size w (((w8.setCell ⟨gb108, 0, none⟩ (.int .i64 t102)).setCell ⟨gb108, 1, none⟩ (.int .i64 t103)).setCell ⟨gb108, 2, none⟩ (.slice Ao10 t104.length co10))) := ⟨by exact hSet_ HB⟩; (try clear HO_5); (try clear HO106); (try clear BK108); (try clear HB); generalize (((w8.setCell ⟨gb108, 0, none⟩ (.int .i64 t102)).setCell ⟨gb108, 1, none⟩ (.int .i64 t103)).setCell ⟨gb108, 2, none⟩ (.slice Ao10 t104.length co10)) = w12 at n0_ n1_ n2_ n3_ ⊢; have HO_5 := n0_; have HO106 := n1_; have BK108 := n2_; have HB := n3_; clear n0_ n1_ n2_ n3_; replace HO_5 := Zq_.mk (Kd.S_drew HO_5.out); replace HO106 := Zq_.mk (Kd.R_drew HO106.out); replace BK108 := Zq_.mk (qi_ BK108.out); replace HB := Zq_.mk (qb_ HB.out); have p109 : 0 ≤ (x6_1 : Int) := dA_; have q109 : x6_1 < (l1.length : Int) := dA_; obtain ⟨ad109, e109, hx109_0, hx109_1, hx109_2⟩ := at_T60 HR1.out x6_1 p109 q109; have hw109_2 := hx109_2; have hw109_1 := hx109_1; have hw109_0 := hx109_0; obtain rfl : ad101 = ad109 := (by injection e109); replace hx109_0 := hC_ HB hx109_0; replace hx109_1 := hC_ HB hx109_1; replace hx109_2 := hC_ HB hx109_2; replace p109 := eq_true p109; replace q109 := eq_true q109; refine start_ (n := 13) (S := fun w' => w'.cell? ⟨gb108, 0, none⟩ = some (.int .i64 t102) ∧ w'.cell? ⟨gb108, 1, none⟩ = some (.int .i64 t103) ∧ w'.cell? ⟨gb108, 2, none⟩ = some (.slice Ao10 t104.length co10) ∧ w'.cell? (ad101.add ((x6_1).toNat * 3)) = some (.int .i64 ((rd_T60 l1 x6_1).f0)) ∧ w'.cell? ⟨(ad101.add ((x6_1).toNat * 3)).block, (ad101.add ((x6_1).toNat * 3)).off + 1, none⟩ = some (.int .i64 ((rd_T60 l1 x6_1).f1)) ∧ w'.cell? ⟨(ad101.add ((x6_1).toNat * 3)).block, (ad101.add ((x6_1).toNat * 3)).off + 2, none⟩ = some (.int .i64 ((rd_T60 l1 x6_1).f2))) (ds := []) #[false,false,false,false,false,false,false,false,false,false,false,false,false] (by kernel_rfl) rfl rfl ⟨(qd_ BK108.out 0).trans rfl, (qd_ BK108.out 1).trans rfl, (qd_ BK108.out 2).trans rfl, (hC_ HB hw109_0), (hC_ HB hw109_1), (hC_ HB hw109_2)⟩ (fun hHeld => ?_); refine vd_ ref08_Pick.tab7 ref08_Pick.bits7 (fun HT_ HW_ => ?_); generalize w12.drew = w13 at HO_5 HO106 BK108 HB hx109_0 hx109_1 hx109_2 hHeld ⊢; refine pP_ 0 47 13 1 HT_ ?_; refine pP_ 1 48 13 3 HT_ ?_; refine pP_ 2 49 13 7 HT_ ?_; refine pP_ 3 50 13 15 HT_ ?_; refine pP_ 5 52 13 47 HT_ ?_; refine pP_ 6 53 13 111 HT_ ?_; refine pP_ 7 54 13 239 HT_ ?_; refine pP_ 8 55 13 495 HT_ ?_; refine tK_ 4 51 13 511 HT_ HW_ hHeld ?_; refine tK_ 9 56 13 1023 HT_ HW_ hHeld ?_; refine pP_ 10 57 13 2047 HT_ ?_; refine pP_ 11 58 13 4095 HT_ ?_; refine pP_ 12 46 13 8191 HT_ ?_; refine done_ (done_of HT_.out (by kernel_rfl)) ?_; (try go_wp2)
       go_meet
       case rel => exact ⟨_, (decide (t102 < ((rd_T60 l1 x6_1).f1))), (by first | rfl | (simp; done) | (simp [*]; done)), H', ⟨by have := HK1.out; first | omega | exact Nat.le_refl _⟩, ⟨by (with_reducible repeat (first | apply Kd.qy_ | apply Kd.qx_ | apply Kd.S_drew)); exact HO_5.out⟩, ⟨by (with_reducible repeat (first | apply Kd.qu_ | apply Kd.qt_ | apply Kd.R_drew)); exact HO106.out⟩, ⟨by (with_reducible repeat (first | refine qg_ ?_ _ | refine qi_ ?_ | refine qf_ ?_ _)); exact BK108.out⟩, ⟨by exact hSet_ HB⟩⟩
      ·replace c11 := Bool.eq_false_iff.mpr c11; subst c11
       have H1 : (ref08_Pick.j1 k1 l0 l1 x5_1 x6_1 true t102 t103 t104) = some r := by rw [if_neg (show ¬ (false = true) by decide)] at H; exact H
       clear H; have H := H1; clear H1; have H' := Zq_.mk H; clear H; (try go_wp2); have n0_ : Zq_ (Kd.S k53 53 (((w8.setCell ⟨gb108, 0, none⟩ (.int .i64 t102)).setCell ⟨gb108, 1, none⟩ (.int .i64 t103)).setCell ⟨gb108, 2, none⟩ (.slice Ao10 t104.length co10)) w.heap.size (fun k_ => some k_ ≠ (.slice Ao10 t104.length co10 : Value).ownBlock) u5 x5_1) := ⟨by (with_reducible repeat (first | apply Kd.qy_ | apply Kd.qx_ | apply Kd.S_drew)); exact Kd.S_mono (Kd.S_far (p := ⟨gb108, 2, none⟩) (Kd.S_far (p := ⟨gb108, 1, none⟩) (Kd.S_far (p := ⟨gb108, 0, none⟩) (Kd.S_types HO_5.out BK108.out (by decide)) (fun _ hk => hk.2) (.int .i64 t102)) (fun _ hk => hk.2) (.int .i64 t103)) (fun _ hk => hk.2) (.slice Ao10 t104.length co10)) (fun _ hk => hk.1.2)⟩; have n1_ : Zq_ (Kd.R k58 58 (((w8.setCell ⟨gb108, 0, none⟩ (.int .i64 t102)).setCell ⟨gb108, 1, none⟩ (.int .i64 t103)).setCell ⟨gb108, 2, none⟩ (.slice Ao10 t104.length co10)) w.heap.size (fun _ => True) (.slice Ao10 t104.length co10) t104) := ⟨by (with_reducible repeat (first | apply Kd.qu_ | apply Kd.qt_ | apply Kd.R_drew)); exact Kd.R_mono (Kd.R_far (p := ⟨gb108, 2, none⟩) (Kd.R_far (p := ⟨gb108, 1, none⟩) (Kd.R_far (p := ⟨gb108, 0, none⟩) (Kd.R_types HO106.out BK108.out (by decide)) (fun _ hk => hk.2) (.int .i64 t102)) (fun _ hk => hk.2) (.int .i64 t103)) (fun _ hk => hk.2) (.slice Ao10 t104.length co10)) (fun _ hk => trivial)⟩; have n2_ : Zq_ ((((w8.setCell ⟨gb108, 0, none⟩ (.int .i64 t102)).setCell ⟨gb108, 1, none⟩ (.int .i64 t103)).setCell ⟨gb108, 2, none⟩ (.slice Ao10 t104.length co10)).heap[gb108]? = some (.cells #[.int .i64 t102, .int .i64 t103, .slice Ao10 t104.length co10] 35 (0, 0))) := ⟨by refine bP_ (cs := #[.int .i64 t102, .int .i64 t103, .slice none 0 0]) 2 ?_; refine bP_ (cs := #[.int .i64 t102, .int .i64 0, .slice none 0 0]) 1 ?_; refine bP_ (cs := #[.int .i64 0, .int .i64 0, .slice none 0 0]) 0 ?_; (with_reducible repeat (first | refine qg_ ?_ _ | refine qi_ ?_ | refine qf_ ?_ _)); exact BK108.out⟩; have n3_ : Zq_ (Below w.heap.size w (((w8.setCell ⟨gb108, 0, none⟩ (.int .i64 t102)).setCell ⟨gb108, 1, none⟩ (.int .i64 t103)).setCell ⟨gb108, 2, none⟩ (.slice Ao10 t104.length co10))) := ⟨by exact hSet_ HB⟩; (try clear HO_5); (try clear HO106); (try clear BK108); (try clear HB); generalize (((w8.setCell ⟨gb108, 0, none⟩ (.int .i64 t102)).setCell ⟨gb108, 1, none⟩ (.int .i64 t103)).setCell ⟨gb108, 2, none⟩ (.slice Ao10 t104.length co10)) = w14 at n0_ n1_ n2_ n3_ ⊢; have HO_5 := n0_; have HO106 := n1_; have BK108 := n2_; have HB := n3_; clear n0_ n1_ n2_ n3_; replace HO_5 := Zq_.mk (Kd.S_drew HO_5.out); replace HO106 := Zq_.mk (Kd.R_drew HO106.out); replace BK108 := Zq_.mk (qi_ BK108.out); replace HB := Zq_.mk (qb_ HB.out); refine start_ (n := 13) (S := fun w' => True) (ds := []) #[false,false,false,false,false,false,false,false,false,false,false,false,false] (by kernel_rfl) rfl rfl trivial (fun hHeld => ?_); refine vd_ ref08_Pick.tab7 ref08_Pick.bits7 (fun HT_ HW_ => ?_); generalize w14.drew = w15 at HO_5 HO106 BK108 HB hHeld ⊢; refine pP_ 0 47 13 1 HT_ ?_; refine pP_ 1 48 13 3 HT_ ?_; refine pP_ 2 49 13 7 HT_ ?_; refine pU_ 3 50 13 15 HT_ ?_; refine pU_ 4 51 13 31 HT_ ?_; refine pU_ 5 52 13 63 HT_ ?_; refine pU_ 6 53 13 127 HT_ ?_; refine pU_ 7 54 13 255 HT_ ?_; refine pU_ 8 55 13 511 HT_ ?_; refine pU_ 9 56 13 1023 HT_ ?_; refine pU_ 10 57 13 2047 HT_ ?_; refine pP_ 11 58 13 4095 HT_ ?_; refine pP_ 12 46 13 8191 HT_ ?_; refine done_ (done_of HT_.out (by kernel_rfl)) ?_; (try go_wp2)
       go_meet
       case rel => exact ⟨_, (true), (by first | rfl | (simp; done) | (simp [*]; done)), H', ⟨by have := HK1.out; first | omega | exact Nat.le_refl _⟩, ⟨by (with_reducible repeat (first | apply Kd.qy_ | apply Kd.qx_ | apply Kd.S_drew)); exact HO_5.out⟩, ⟨by (with_reducible repeat (first | apply Kd.qu_ | apply Kd.qt_ | apply Kd.R_drew)); exact HO106.out⟩, ⟨by (with_reducible repeat (first | refine qg_ ?_ _ | refine qi_ ?_ | refine qf_ ?_ _)); exact BK108.out⟩, ⟨by exact hSet_ HB⟩⟩
     case rest =>
      clear HC6
      try clear c1
      try clear p1
      try clear q1
      try clear hx1
      try clear p2
      try clear c3
      try clear c3b0
      try clear c4
      try clear c4b0
      try clear p10
      try clear q10
      try clear hx10
      try clear c11
      try clear c13
      try clear hcz9_0
      try clear hcz9_1
      try clear hcz9_2
      try clear hfz9_0
      try clear hfz9_1
      try clear hfz9_2
      try clear hx101_0
      try clear hx101_1
      try clear hx101_2
      try clear hx109_0
      try clear hx109_1
      try clear hx109_2
      try clear p101
      try clear p109
      try clear p2
      try clear q101
      try clear q109
      obtain ⟨kq, x46_5, rfl, HA, HJ5, HO_5, HO_109002, BK108, HB⟩ := hcut
      cases kq with
      | zero => exact absurd HA.out (by simp [ref08_Pick.j1])
      | succ kj5 =>
       have H := HA.out; clear HA; simp only [ref08_Pick.j1] at H
       by_cases c16 : x46_5 = true
       ·subst c16
        have H1 : (ref08_Pick.l0 kj5 l0 l1 x5_1 (wrap64 (x6_1 + 1))) = some r := by rw [if_pos rfl] at H; exact H
        clear H; have H := H1; clear H1; have H' := Zq_.mk H; clear H
        go_wp2
        go_roundg kj5
        case measure => have := HK1.out; have := HJ5.out; omega
        case rel => exact ⟨(x5_1), (wrap64 (x6_1 + 1)), (by first | rfl | (simp; done) | (simp [*]; done)), H', ⟨by have := HK1.out; have := HJ5.out; omega⟩, ⟨by (with_reducible repeat (first | apply Kd.qy_ | apply Kd.qx_ | apply Kd.S_drew)); exact Kd.S_mono HO_5.out (fun _ hk => trivial)⟩, ⟨by exact hSet_ HB⟩⟩
       ·replace c16 := Bool.eq_false_iff.mpr c16; subst c16
        have H1 : (if 0 ≤ x6_1 then (if x6_1 < (l1.length : Int) then (if t102 > ((rd_T60 l1 x6_1).f1) then (if x5_1.length < 2513169434916 then (ref08_Pick.l0 kj5 l0 l1 (x5_1 ++ [(⟨(rd_T60 l1 x6_1).f0, 0, (⟨t102, t103, t104⟩ : S35)⟩ : S53)]) (wrap64 (x6_1 + 1))) else (none)) else ((ref05_Above.f kj5 t102 t103 t104 ((rd_T60 l1 x6_1).f2)).bind fun bt118 => (if x5_1.length < 2513169434916 then (ref08_Pick.l0 kj5 l0 l1 (x5_1 ++ [(⟨(rd_T60 l1 x6_1).f0, (rd_T60 l1 x6_1).f2, (⟨bt118.1, bt118.2.1, bt118.2.2⟩ : S35)⟩ : S53)]) (wrap64 (x6_1 + 1))) else (none)))) else (none)) else (none)) = some r := by rw [if_neg (show ¬ (false = true) by decide)] at H; exact H
        clear H; have H := H1; clear H1
        by_cases c17 : 0 ≤ x6_1
        ·rw [if_pos c17] at H; have c17b0 : decide (0 ≤ x6_1) = true := decide_eq_true c17; clear c17
         by_cases c18 : x6_1 < (l1.length : Int)
         ·rw [if_pos c18] at H; have c18b0 : decide (x6_1 < (l1.length : Int)) = true := decide_eq_true c18; clear c18
          by_cases c19 : t102 > ((rd_T60 l1 x6_1).f1)
          ·rw [if_pos c19] at H; have c19b0 : decide (((rd_T60 l1 x6_1).f1) < t102) = true := decide_eq_true c19; clear c19
           by_cases c20 : x5_1.length < 2513169434916
           ·rw [if_pos c20] at H; have LMc20 := Zq_.mk c20; clear c20; obtain ⟨y112, hy112⟩ : ∃ y_ : List (S53), y_ = (x5_1 ++ [(⟨(rd_T60 l1 x6_1).f0, 0, (⟨t102, t103, t104⟩ : S35)⟩ : S53)]) := ⟨_, rfl⟩
            replace H : (ref08_Pick.l0 kj5 l0 l1 y112 (wrap64 (x6_1 + 1))) = some r := by first | (rw [hy112]; with_reducible exact H) | (have H2_ := (Option.bind_some _ _).symm.trans H; rw [hy112]; with_reducible exact H2_) | (have H2_ := (Option.bind_some _ _).symm.trans H; with_reducible exact H2_) | with_reducible exact H | (rw [hy112]; exact H) | exact H
            have Ny112 := Zq_.mk hy112; clear hy112; have H' := Zq_.mk H; clear H; (try go_wp2); replace HO_5 := Zq_.mk (Kd.S_drew HO_5.out); replace HO_109002 := Zq_.mk (Kd.R_drew HO_109002.out); replace BK108 := Zq_.mk (qi_ BK108.out); replace HB := Zq_.mk (qb_ HB.out); have p110 : 0 ≤ (x6_1 : Int) := dA_; have q110 : x6_1 < (l1.length : Int) := dA_; obtain ⟨ad110, e110, hx110_0, hx110_1, hx110_2⟩ := at_T60 HR1.out x6_1 p110 q110; have hw110_2 := hx110_2; have hw110_1 := hx110_1; have hw110_0 := hx110_0; obtain rfl : ad101 = ad110 := (by injection e110); replace hx110_0 := hC_ HB hx110_0; replace hx110_1 := hC_ HB hx110_1; replace hx110_2 := hC_ HB hx110_2; replace p110 := eq_true p110; replace q110 := eq_true q110; refine start_ (n := 9) (S := fun w' => w'.cell? ⟨gb108, 0, none⟩ = some (.int .i64 t102) ∧ w'.cell? ⟨gb108, 1, none⟩ = some (.int .i64 t103) ∧ w'.cell? ⟨gb108, 2, none⟩ = some (.slice Ao10 t104.length co10) ∧ w'.cell? (ad101.add ((x6_1).toNat * 3)) = some (.int .i64 ((rd_T60 l1 x6_1).f0)) ∧ w'.cell? ⟨(ad101.add ((x6_1).toNat * 3)).block, (ad101.add ((x6_1).toNat * 3)).off + 1, none⟩ = some (.int .i64 ((rd_T60 l1 x6_1).f1)) ∧ w'.cell? ⟨(ad101.add ((x6_1).toNat * 3)).block, (ad101.add ((x6_1).toNat * 3)).off + 2, none⟩ = some (.int .i64 ((rd_T60 l1 x6_1).f2))) (ds := []) #[false,false,false,false,false,false,false,false,false] (by kernel_rfl) rfl rfl ⟨(qd_ BK108.out 0).trans rfl, (qd_ BK108.out 1).trans rfl, (qd_ BK108.out 2).trans rfl, (hC_ HB hw110_0), (hC_ HB hw110_1), (hC_ HB hw110_2)⟩ (fun hHeld => ?_); refine vd_ ref08_Pick.tab8 ref08_Pick.bits8 (fun HT_ HW_ => ?_); generalize wc.drew = w21 at HO_5 HO_109002 BK108 HB hx110_0 hx110_1 hx110_2 hHeld ⊢; refine pP_ 0 60 9 1 HT_ ?_; refine pP_ 2 62 9 5 HT_ ?_; refine pP_ 3 63 9 13 HT_ ?_; refine pP_ 4 64 9 29 HT_ ?_; refine pP_ 5 65 9 61 HT_ ?_; refine tK_ 1 61 9 63 HT_ HW_ hHeld ?_; refine tK_ 6 66 9 127 HT_ HW_ hHeld ?_; refine pP_ 7 67 9 255 HT_ ?_; refine pP_ 8 59 9 511 HT_ ?_; refine done_ (done_of HT_.out (by kernel_rfl)) ?_; (try go_wp2); replace HO_5 := Zq_.mk (Kd.S_drew HO_5.out); replace HO_109002 := Zq_.mk (Kd.R_drew HO_109002.out); replace BK108 := Zq_.mk (qi_ BK108.out); replace HB := Zq_.mk (qb_ HB.out); have p111 : 0 ≤ (x6_1 : Int) := dA_; have q111 : x6_1 < (l1.length : Int) := dA_; obtain ⟨ad111, e111, hx111_0, hx111_1, hx111_2⟩ := at_T60 HR1.out x6_1 p111 q111; have hw111_2 := hx111_2; have hw111_1 := hx111_1; have hw111_0 := hx111_0; obtain rfl : ad101 = ad111 := (by injection e111); replace hx111_0 := hC_ HB hx111_0; replace hx111_1 := hC_ HB hx111_1; replace hx111_2 := hC_ HB hx111_2; replace p111 := eq_true p111; replace q111 := eq_true q111; refine start_ (n := 11) (S := fun w' => w'.cell? ⟨gb108, 0, none⟩ = some (.int .i64 t102) ∧ w'.cell? ⟨gb108, 1, none⟩ = some (.int .i64 t103) ∧ w'.cell? ⟨gb108, 2, none⟩ = some (.slice Ao10 t104.length co10) ∧ w'.cell? (ad101.add ((x6_1).toNat * 3)) = some (.int .i64 ((rd_T60 l1 x6_1).f0)) ∧ w'.cell? ⟨(ad101.add ((x6_1).toNat * 3)).block, (ad101.add ((x6_1).toNat * 3)).off + 1, none⟩ = some (.int .i64 ((rd_T60 l1 x6_1).f1)) ∧ w'.cell? ⟨(ad101.add ((x6_1).toNat * 3)).block, (ad101.add ((x6_1).toNat * 3)).off + 2, none⟩ = some (.int .i64 ((rd_T60 l1 x6_1).f2))) (ds := []) #[false,false,false,false,false,false,false,false,false,false,false] (by kernel_rfl) rfl rfl ⟨(qd_ BK108.out 0).trans rfl, (qd_ BK108.out 1).trans rfl, (qd_ BK108.out 2).trans rfl, (hC_ HB hw111_0), (hC_ HB hw111_1), (hC_ HB hw111_2)⟩ (fun hHeld => ?_); refine vd_ ref08_Pick.tab9 ref08_Pick.bits9 (fun HT_ HW_ => ?_); generalize w21.drew = w22 at HO_5 HO_109002 BK108 HB hx111_0 hx111_1 hx111_2 hHeld ⊢; refine pP_ 0 68 11 1 HT_ ?_; refine pP_ 1 69 11 3 HT_ ?_; refine pP_ 2 70 11 7 HT_ ?_; refine pP_ 3 71 11 15 HT_ ?_; refine pP_ 4 72 11 31 HT_ ?_; refine tK_ 5 73 11 63 HT_ HW_ hHeld ?_; refine tK_ 6 74 11 127 HT_ HW_ hHeld ?_; refine pP_ 7 75 11 255 HT_ ?_; refine one_ (i := 8) (N := some 76) (bz_ 11 511) rfl rfl (one_of HT_.out (by kernel_rfl)) (by decide) (fun K hK => ?_); refine value_ (w1 := ?_) (v := ?_) (by rfl) rfl ?_ ?_; rotate_left 2
            ·go_simp
             constructor
             ·rfl
             ·rfl
            refine hK.out _ _ ⟨(qd_ (qf_ BK108.out _) 0).trans rfl, (qd_ (qf_ BK108.out _) 1).trans rfl, (qd_ (qf_ BK108.out _) 2).trans rfl, (World.cell?_alloc_lt _ _ _ (wb_ _ _ ((hC_ HB hw111_0)))).trans ((hC_ HB hw111_0)), (World.cell?_alloc_lt _ _ _ (wb_ _ _ ((hC_ HB hw111_1)))).trans ((hC_ HB hw111_1)), (World.cell?_alloc_lt _ _ _ (wb_ _ _ ((hC_ HB hw111_2)))).trans ((hC_ HB hw111_2))⟩ (fun hHeld => ?_); clear hK K; refine norm_ (a' := ?_) ?_ ?_; rotate_left
            ·show Act.put _ (some 76) _ = _
             simp only [Act.put, sa_, sb_, sc_, i64_w, i32_w]; rfl
            refine one_ (i := 9) (N := some 77) (bz_ 11 1023) rfl rfl (one_of HT_.out (by kernel_rfl)) (by decide) (fun K hK => ?_); refine Kd.S_append_step k53 (w0 := w) w.heap.size (by rfl) (.tmp 68) (.tmp 76) 27 53 (.agg #[(.int .i64 0), (.int .i64 0), (.int .i64 0), (.int .i64 0), (.slice none 0 0)]) 56 rfl Try.underlying27 info53 rfl (by decide) (by omega) u5 x5_1 (⟨(rd_T60 l1 x6_1).f0, 0, (⟨t102, t103, t104⟩ : S35)⟩ : S53) [.int .i64 ((rd_T60 l1 x6_1).f0), .int .i64 0, .int .i64 t102, .int .i64 t103, .slice Ao10 t104.length co10] (fun _ => True) (fun k_ => some k_ = (.slice Ao10 t104.length co10 : Value).ownBlock) rfl rfl ?aP (fun k_ hk_ => ((Kd.R_mono (ok' := fun k_ => ((fun _ => True)) k_ ∧ some k_ ≠ (u5 : Value).ownBlock) (Kd.R_apart' (HO_109002.out) (Kd.S_typed HO_5.out) (by decide)) (fun k_ hk => ⟨trivial, hk.2⟩))).1 k_ hk_.symm) ?aF ?aO ?aB ?aS ?aL ?_; (case aP => exact k53_mkM _ _ _ (⟨(rd_T60 l1 x6_1).f0, 0, (⟨t102, t103, t104⟩ : S35)⟩ : S53) (Kd.R_mono (Kd.R_tight rfl (Kd.R_mono (ok' := fun k_ => ((fun _ => True)) k_ ∧ some k_ ≠ (u5 : Value).ownBlock) (Kd.R_apart' (HO_109002.out) (Kd.S_typed HO_5.out) (by decide)) (fun k_ hk => ⟨trivial, hk.2⟩))) (fun _ h_ => h_))); (case aB => exact (by exact hSet_ HB)); (case aF => exact (fun _ _ => trivial)); (case aO => exact (by (with_reducible repeat (first | apply Kd.qy_ | apply Kd.qx_ | apply Kd.S_drew)); exact Kd.S_mono HO_5.out (fun k_ hk => ⟨trivial, fun e_ => hk e_⟩))); (case aS => exact (qj_ (by exact hSet_ HB))); (case aL => have := LMc20.out; omega); intro v113 w23 ho hb hg hat; rw [← Ny112.out] at ho; replace BK108 := Zq_.mk (blk_grown (g := gb108) (o := .cells #[.int .i64 t102, .int .i64 t103, .slice Ao10 t104.length co10] 35 (0, 0)) (by exact bK_ BK108) hg (Kd.S_ne HO_5.out BK108.out (by decide))); replace HB := Zq_.mk (hb); have HO114 := Zq_.mk (ho); clear HO_5 HO_109002; clear ho hb hg hat; refine hK.out _ _ ⟨(qd_ BK108.out 0).trans rfl, (qd_ BK108.out 1).trans rfl, (qd_ BK108.out 2).trans rfl, (hC_ HB hw111_0), (hC_ HB hw111_1), (hC_ HB hw111_2)⟩ (fun hHeld => ?_); clear hK K; refine norm_ (a' := ?_) ?_ ?_; rotate_left
            ·show Act.put _ (some 77) _ = _
             simp only [Act.put, sa_, sb_, sc_, i64_w, i32_w]; rfl
            refine pP_ 10 5 11 2047 HT_ ?_; refine done_ (done_of HT_.out (by kernel_rfl)) ?_; (try go_wp2)
            go_roundg kj5
            case measure => have := HK1.out; have := HJ5.out; omega
            case rel => exact ⟨(y112), (wrap64 (x6_1 + 1)), (by first | rfl | (simp; done) | (simp [*]; done)), H', ⟨by have := HK1.out; have := HJ5.out; omega⟩, ⟨by (with_reducible repeat (first | apply Kd.qy_ | apply Kd.qx_ | apply Kd.S_drew)); exact HO114.out⟩, ⟨by exact hSet_ HB⟩⟩
           ·rw [if_neg c20] at H; exact absurd H (by simp)
          ·rw [if_neg c19] at H; have c19b0 : decide (((rd_T60 l1 x6_1).f1) < t102) = false := decide_eq_false c19; clear c19; replace H := ob_ H; obtain ⟨⟨t118, t119, t120⟩, A240, H⟩ := H; replace H : (if x5_1.length < 2513169434916 then (ref08_Pick.l0 kj5 l0 l1 (x5_1 ++ [(⟨(rd_T60 l1 x6_1).f0, (rd_T60 l1 x6_1).f2, (⟨t118, t119, t120⟩ : S35)⟩ : S53)]) (wrap64 (x6_1 + 1))) else (none)) = some r := H; have A24 := Zq_.mk A240; clear A240
           by_cases c25 : x5_1.length < 2513169434916
           ·rw [if_pos c25] at H; have LMc25 := Zq_.mk c25; clear c25; obtain ⟨y123, hy123⟩ : ∃ y_ : List (S53), y_ = (x5_1 ++ [(⟨(rd_T60 l1 x6_1).f0, (rd_T60 l1 x6_1).f2, (⟨t118, t119, t120⟩ : S35)⟩ : S53)]) := ⟨_, rfl⟩
            replace H : (ref08_Pick.l0 kj5 l0 l1 y123 (wrap64 (x6_1 + 1))) = some r := by first | (rw [hy123]; with_reducible exact H) | (have H2_ := (Option.bind_some _ _).symm.trans H; rw [hy123]; with_reducible exact H2_) | (have H2_ := (Option.bind_some _ _).symm.trans H; with_reducible exact H2_) | with_reducible exact H | (rw [hy123]; exact H) | exact H
            have Ny123 := Zq_.mk hy123; clear hy123; have H' := Zq_.mk H; clear H; (try go_wp2); replace HO_5 := Zq_.mk (Kd.S_drew HO_5.out); replace HO_109002 := Zq_.mk (Kd.R_drew HO_109002.out); replace BK108 := Zq_.mk (qi_ BK108.out); replace HB := Zq_.mk (qb_ HB.out); have p110 : 0 ≤ (x6_1 : Int) := dA_; have q110 : x6_1 < (l1.length : Int) := dA_; obtain ⟨ad110, e110, hx110_0, hx110_1, hx110_2⟩ := at_T60 HR1.out x6_1 p110 q110; have hw110_2 := hx110_2; have hw110_1 := hx110_1; have hw110_0 := hx110_0; obtain rfl : ad101 = ad110 := (by injection e110); replace hx110_0 := hC_ HB hx110_0; replace hx110_1 := hC_ HB hx110_1; replace hx110_2 := hC_ HB hx110_2; replace p110 := eq_true p110; replace q110 := eq_true q110; refine start_ (n := 9) (S := fun w' => w'.cell? ⟨gb108, 0, none⟩ = some (.int .i64 t102) ∧ w'.cell? ⟨gb108, 1, none⟩ = some (.int .i64 t103) ∧ w'.cell? ⟨gb108, 2, none⟩ = some (.slice Ao10 t104.length co10) ∧ w'.cell? (ad101.add ((x6_1).toNat * 3)) = some (.int .i64 ((rd_T60 l1 x6_1).f0)) ∧ w'.cell? ⟨(ad101.add ((x6_1).toNat * 3)).block, (ad101.add ((x6_1).toNat * 3)).off + 1, none⟩ = some (.int .i64 ((rd_T60 l1 x6_1).f1)) ∧ w'.cell? ⟨(ad101.add ((x6_1).toNat * 3)).block, (ad101.add ((x6_1).toNat * 3)).off + 2, none⟩ = some (.int .i64 ((rd_T60 l1 x6_1).f2))) (ds := []) #[false,false,false,false,false,false,false,false,false] (by kernel_rfl) rfl rfl ⟨(qd_ BK108.out 0).trans rfl, (qd_ BK108.out 1).trans rfl, (qd_ BK108.out 2).trans rfl, (hC_ HB hw110_0), (hC_ HB hw110_1), (hC_ HB hw110_2)⟩ (fun hHeld => ?_); refine vd_ ref08_Pick.tab8 ref08_Pick.bits8 (fun HT_ HW_ => ?_); generalize wc.drew = w26 at HO_5 HO_109002 BK108 HB hx110_0 hx110_1 hx110_2 hHeld ⊢; refine pP_ 0 60 9 1 HT_ ?_; refine pP_ 2 62 9 5 HT_ ?_; refine pP_ 3 63 9 13 HT_ ?_; refine pP_ 4 64 9 29 HT_ ?_; refine pP_ 5 65 9 61 HT_ ?_; refine tK_ 1 61 9 63 HT_ HW_ hHeld ?_; refine tK_ 6 66 9 127 HT_ HW_ hHeld ?_; refine pP_ 7 67 9 255 HT_ ?_; refine pP_ 8 59 9 511 HT_ ?_; refine done_ (done_of HT_.out (by kernel_rfl)) ?_; (try go_wp2); replace HO_5 := Zq_.mk (Kd.S_drew HO_5.out); replace HO_109002 := Zq_.mk (Kd.R_drew HO_109002.out); replace BK108 := Zq_.mk (qi_ BK108.out); replace HB := Zq_.mk (qb_ HB.out); have p115 : 0 ≤ (x6_1 : Int) := dA_; have q115 : x6_1 < (l1.length : Int) := dA_; obtain ⟨ad115, e115, hx115_0, hx115_1, hx115_2⟩ := at_T60 HR1.out x6_1 p115 q115; have hw115_2 := hx115_2; have hw115_1 := hx115_1; have hw115_0 := hx115_0; obtain rfl : ad101 = ad115 := (by injection e115); replace hx115_0 := hC_ HB hx115_0; replace hx115_1 := hC_ HB hx115_1; replace hx115_2 := hC_ HB hx115_2; replace p115 := eq_true p115; replace q115 := eq_true q115; have p116 : 0 ≤ (x6_1 : Int) := dA_; have q116 : x6_1 < (l1.length : Int) := dA_; obtain ⟨ad116, e116, hx116_0, hx116_1, hx116_2⟩ := at_T60 HR1.out x6_1 p116 q116; have hw116_2 := hx116_2; have hw116_1 := hx116_1; have hw116_0 := hx116_0; obtain rfl : ad101 = ad116 := (by injection e116); replace hx116_0 := hC_ HB hx116_0; replace hx116_1 := hC_ HB hx116_1; replace hx116_2 := hC_ HB hx116_2; replace p116 := eq_true p116; replace q116 := eq_true q116; have p117 : 0 ≤ (x6_1 : Int) := dA_; have q117 : x6_1 < (l1.length : Int) := dA_; obtain ⟨ad117, e117, hx117_0, hx117_1, hx117_2⟩ := at_T60 HR1.out x6_1 p117 q117; have hw117_2 := hx117_2; have hw117_1 := hx117_1; have hw117_0 := hx117_0; obtain rfl : ad101 = ad117 := (by injection e117); replace hx117_0 := hC_ HB hx117_0; replace hx117_1 := hC_ HB hx117_1; replace hx117_2 := hC_ HB hx117_2; replace p117 := eq_true p117; replace q117 := eq_true q117; refine start_ (n := 22) (S := fun w' => w'.cell? ⟨gb108, 0, none⟩ = some (.int .i64 t102) ∧ w'.cell? ⟨gb108, 1, none⟩ = some (.int .i64 t103) ∧ w'.cell? ⟨gb108, 2, none⟩ = some (.slice Ao10 t104.length co10) ∧ w'.cell? (ad101.add ((x6_1).toNat * 3)) = some (.int .i64 ((rd_T60 l1 x6_1).f0)) ∧ w'.cell? ⟨(ad101.add ((x6_1).toNat * 3)).block, (ad101.add ((x6_1).toNat * 3)).off + 1, none⟩ = some (.int .i64 ((rd_T60 l1 x6_1).f1)) ∧ w'.cell? ⟨(ad101.add ((x6_1).toNat * 3)).block, (ad101.add ((x6_1).toNat * 3)).off + 2, none⟩ = some (.int .i64 ((rd_T60 l1 x6_1).f2)) ∧ w'.cell? (ad101.add ((x6_1).toNat * 3)) = some (.int .i64 ((rd_T60 l1 x6_1).f0)) ∧ w'.cell? ⟨(ad101.add ((x6_1).toNat * 3)).block, (ad101.add ((x6_1).toNat * 3)).off + 1, none⟩ = some (.int .i64 ((rd_T60 l1 x6_1).f1)) ∧ w'.cell? ⟨(ad101.add ((x6_1).toNat * 3)).block, (ad101.add ((x6_1).toNat * 3)).off + 2, none⟩ = some (.int .i64 ((rd_T60 l1 x6_1).f2)) ∧ w'.cell? (ad101.add ((x6_1).toNat * 3)) = some (.int .i64 ((rd_T60 l1 x6_1).f0)) ∧ w'.cell? ⟨(ad101.add ((x6_1).toNat * 3)).block, (ad101.add ((x6_1).toNat * 3)).off + 1, none⟩ = some (.int .i64 ((rd_T60 l1 x6_1).f1)) ∧ w'.cell? ⟨(ad101.add ((x6_1).toNat * 3)).block, (ad101.add ((x6_1).toNat * 3)).off + 2, none⟩ = some (.int .i64 ((rd_T60 l1 x6_1).f2))) (ds := []) #[false,false,false,false,false,false,false,false,false,false,false,false,false,false,false,false,false,false,false,false,false,false] (by kernel_rfl) rfl rfl ⟨(qd_ BK108.out 0).trans rfl, (qd_ BK108.out 1).trans rfl, (qd_ BK108.out 2).trans rfl, (hC_ HB hw115_0), (hC_ HB hw115_1), (hC_ HB hw115_2), (hC_ HB hw116_0), (hC_ HB hw116_1), (hC_ HB hw116_2), (hC_ HB hw117_0), (hC_ HB hw117_1), (hC_ HB hw117_2)⟩ (fun hHeld => ?_); refine vd_ ref08_Pick.tab6 ref08_Pick.bits6 (fun HT_ HW_ => ?_); generalize w26.drew = w27 at HO_5 HO_109002 BK108 HB hx115_0 hx115_1 hx115_2 hx116_0 hx116_1 hx116_2 hx117_0 hx117_1 hx117_2 hHeld ⊢; refine pP_ 0 25 22 1 HT_ ?_; refine pP_ 1 26 22 3 HT_ ?_; refine pP_ 2 27 22 7 HT_ ?_; refine pP_ 3 28 22 15 HT_ ?_; refine pP_ 4 29 22 31 HT_ ?_; refine pP_ 6 31 22 95 HT_ ?_; refine pP_ 7 32 22 223 HT_ ?_; refine pP_ 8 33 22 479 HT_ ?_; refine pP_ 9 34 22 991 HT_ ?_; refine pP_ 12 37 22 5087 HT_ ?_; refine pP_ 13 38 22 13279 HT_ ?_; refine pP_ 14 39 22 29663 HT_ ?_; refine pP_ 15 40 22 62431 HT_ ?_; refine tK_ 5 30 22 62463 HT_ HW_ hHeld ?_; refine tK_ 10 35 22 63487 HT_ HW_ hHeld ?_; refine tK_ 11 36 22 65535 HT_ HW_ hHeld ?_; refine tK_ 16 41 22 131071 HT_ HW_ hHeld ?_; refine one_ (i := 17) (N := some 42) (bz_ 22 262143) rfl rfl (one_of HT_.out (by kernel_rfl)) (by decide) (fun K hK => ?_); refine goes_ Try.func39 (by kernel_rfl) rfl #[.agg #[.int .i64 t102, .int .i64 t103, .slice Ao10 t104.length co10], .int .i64 ((rd_T60 l1 x6_1).f2)] (by rfl) rfl rfl (by (try simp only [List.map_toArray, List.map_cons, List.map_nil]); first | done | rfl | (simp only [List.length_drop, List.length_take]; rfl)) ?_
            with_reducible refine (ref05_Above.calls kj5 t102 t103 _ _ t104 ((rd_T60 l1 x6_1).f2) t118 t119 t120 _ ?side1 ?side2 A24.out).mono ?_
            (case side1 => exact cX_ ((Kd.R_reads' HO_109002.out).2.2)); (case side2 => exact (Kd.R_reads' HO_109002.out).2.1); rintro e w28 ⟨v121, rfl, ho0, hb⟩; refine ⟨_, rfl, ?_⟩; replace HO_5 := Zq_.mk (Kd.S_elder' (vX_ HO_5) (Kd.R_base ho0) hb); have HO122 := Zq_.mk (Kd.R_lower (Kd.R_new' ho0 (Kd.R_lt (vX_ HO_109002))) (qj_ (by exact hSet_ HB))); replace HO_109002 := Zq_.mk (Kd.R_elder' (vX_ HO_109002) (Kd.R_base ho0) hb); replace BK108 := Zq_.mk (qs_ (g := gb108) (o := .cells #[.int .i64 t102, .int .i64 t103, .slice Ao10 t104.length co10] 35 (0, 0)) (by exact bK_ BK108) hb); replace HB := Zq_.mk (ql_ (by exact hSet_ HB) hb); (try clear hb); (try clear ho0); obtain ⟨Ao29, co29, eo29⟩ := Kd.R_slice HO122.out; (first | subst eo29 | (injection eo29 with f1_ f2_ f3_; have f4_ := f1_.symm; have f5_ := f3_.symm; clear f1_ f2_ f3_; subst f4_; subst f5_)); refine hK.out _ _ ⟨(qd_ BK108.out 0).trans rfl, (qd_ BK108.out 1).trans rfl, (qd_ BK108.out 2).trans rfl, (hC_ HB hw115_0), (hC_ HB hw115_1), (hC_ HB hw115_2), (hC_ HB hw116_0), (hC_ HB hw116_1), (hC_ HB hw116_2), (hC_ HB hw117_0), (hC_ HB hw117_1), (hC_ HB hw117_2)⟩ (fun hHeld => ?_); clear hK K; refine norm_ (a' := ?_) ?_ ?_; rotate_left
            ·show Act.put _ (some 42) _ = _
             simp only [Act.put, sa_, sb_, sc_, i64_w, i32_w]; rfl
            refine pP_ 18 43 22 524287 HT_ ?_; refine one_ (i := 19) (N := some 44) (bz_ 22 1048575) rfl rfl (one_of HT_.out (by kernel_rfl)) (by decide) (fun K hK => ?_); refine value_ (w1 := ?_) (v := ?_) (by rfl) rfl ?_ ?_; rotate_left 2
            ·go_simp
             constructor
             ·rfl
             ·rfl
            refine hK.out _ _ ⟨(qd_ (qf_ BK108.out _) 0).trans rfl, (qd_ (qf_ BK108.out _) 1).trans rfl, (qd_ (qf_ BK108.out _) 2).trans rfl, (World.cell?_alloc_lt _ _ _ (wb_ _ _ ((hC_ HB hw115_0)))).trans ((hC_ HB hw115_0)), (World.cell?_alloc_lt _ _ _ (wb_ _ _ ((hC_ HB hw115_1)))).trans ((hC_ HB hw115_1)), (World.cell?_alloc_lt _ _ _ (wb_ _ _ ((hC_ HB hw115_2)))).trans ((hC_ HB hw115_2)), (World.cell?_alloc_lt _ _ _ (wb_ _ _ ((hC_ HB hw116_0)))).trans ((hC_ HB hw116_0)), (World.cell?_alloc_lt _ _ _ (wb_ _ _ ((hC_ HB hw116_1)))).trans ((hC_ HB hw116_1)), (World.cell?_alloc_lt _ _ _ (wb_ _ _ ((hC_ HB hw116_2)))).trans ((hC_ HB hw116_2)), (World.cell?_alloc_lt _ _ _ (wb_ _ _ ((hC_ HB hw117_0)))).trans ((hC_ HB hw117_0)), (World.cell?_alloc_lt _ _ _ (wb_ _ _ ((hC_ HB hw117_1)))).trans ((hC_ HB hw117_1)), (World.cell?_alloc_lt _ _ _ (wb_ _ _ ((hC_ HB hw117_2)))).trans ((hC_ HB hw117_2))⟩ (fun hHeld => ?_); clear hK K; refine norm_ (a' := ?_) ?_ ?_; rotate_left
            ·show Act.put _ (some 44) _ = _
             simp only [Act.put, sa_, sb_, sc_, i64_w, i32_w]; rfl
            refine one_ (i := 20) (N := some 45) (bz_ 22 2097151) rfl rfl (one_of HT_.out (by kernel_rfl)) (by decide) (fun K hK => ?_); refine Kd.S_append_step k53 (w0 := w) w.heap.size (by rfl) (.tmp 25) (.tmp 44) 27 53 (.agg #[(.int .i64 0), (.int .i64 0), (.int .i64 0), (.int .i64 0), (.slice none 0 0)]) 56 rfl Try.underlying27 info53 rfl (by decide) (by omega) u5 x5_1 (⟨(rd_T60 l1 x6_1).f0, (rd_T60 l1 x6_1).f2, (⟨t118, t119, t120⟩ : S35)⟩ : S53) [.int .i64 ((rd_T60 l1 x6_1).f0), .int .i64 ((rd_T60 l1 x6_1).f2), .int .i64 t118, .int .i64 t119, .slice Ao29 t120.length co29] (fun k_ => some k_ ≠ (.slice Ao10 t104.length co10 : Value).ownBlock) (fun k_ => some k_ = (.slice Ao29 t120.length co29 : Value).ownBlock) rfl rfl ?aP (fun k_ hk_ => ((Kd.R_mono (ok' := fun k_ => ((fun k_ => some k_ ≠ (.slice Ao10 t104.length co10 : Value).ownBlock)) k_ ∧ some k_ ≠ (u5 : Value).ownBlock) (Kd.R_apart' (HO122.out) (Kd.S_typed HO_5.out) (by decide)) (fun k_ hk => ⟨hk.1.2, hk.2⟩))).1 k_ hk_.symm) ?aF ?aO ?aB ?aS ?aL ?_; (case aP => exact k53_mkM _ _ _ (⟨(rd_T60 l1 x6_1).f0, (rd_T60 l1 x6_1).f2, (⟨t118, t119, t120⟩ : S35)⟩ : S53) (Kd.R_mono (Kd.R_tight rfl (Kd.R_mono (ok' := fun k_ => ((fun k_ => some k_ ≠ (.slice Ao10 t104.length co10 : Value).ownBlock)) k_ ∧ some k_ ≠ (u5 : Value).ownBlock) (Kd.R_apart' (HO122.out) (Kd.S_typed HO_5.out) (by decide)) (fun k_ hk => ⟨hk.1.2, hk.2⟩))) (fun _ h_ => h_))); (case aB => exact (by exact hSet_ HB)); (case aF => exact (fun k_ hk => Kd.fresh' (Kd.R_lt (vX_ HO_109002)) k_ hk)); (case aO => exact (by (with_reducible repeat (first | apply Kd.qy_ | apply Kd.qx_ | apply Kd.S_drew)); exact Kd.S_mono HO_5.out (fun k_ hk => ⟨hk.1, fun e_ => hk.2 e_⟩))); (case aS => exact (qj_ (by exact hSet_ HB))); (case aL => have := LMc25.out; omega); intro v124 w30 ho hb hg hat; rw [← Ny123.out] at ho; replace HO_109002 := Zq_.mk (Kd.R_over' (vX_ HO_109002) (Kd.S_typed (vX_ HO_5)) (by decide) hg); replace BK108 := Zq_.mk (blk_grown (g := gb108) (o := .cells #[.int .i64 t102, .int .i64 t103, .slice Ao10 t104.length co10] 35 (0, 0)) (by exact bK_ BK108) hg (Kd.S_ne HO_5.out BK108.out (by decide))); replace HB := Zq_.mk (hb); have HO125 := Zq_.mk (ho); clear HO_5 HO122; clear ho hb hg hat; refine hK.out _ _ ⟨(qd_ BK108.out 0).trans rfl, (qd_ BK108.out 1).trans rfl, (qd_ BK108.out 2).trans rfl, (hC_ HB hw115_0), (hC_ HB hw115_1), (hC_ HB hw115_2), (hC_ HB hw116_0), (hC_ HB hw116_1), (hC_ HB hw116_2), (hC_ HB hw117_0), (hC_ HB hw117_1), (hC_ HB hw117_2)⟩ (fun hHeld => ?_); clear hK K; refine norm_ (a' := ?_) ?_ ?_; rotate_left
            ·show Act.put _ (some 45) _ = _
             simp only [Act.put, sa_, sb_, sc_, i64_w, i32_w]; rfl
            refine pP_ 21 5 22 4194303 HT_ ?_; refine done_ (done_of HT_.out (by kernel_rfl)) ?_; (try go_wp2)
            go_roundg kj5
            case measure => have := HK1.out; have := HJ5.out; omega
            case rel => exact ⟨(y123), (wrap64 (x6_1 + 1)), (by first | rfl | (simp; done) | (simp [*]; done)), H', ⟨by have := HK1.out; have := HJ5.out; omega⟩, ⟨by (with_reducible repeat (first | apply Kd.qy_ | apply Kd.qx_ | apply Kd.S_drew)); exact Kd.S_mono HO125.out (fun _ hk => trivial)⟩, ⟨by exact hSet_ HB⟩⟩
           ·rw [if_neg c25] at H; exact absurd H (by simp)
         ·rw [if_neg c18] at H; exact absurd H (by simp)
        ·rw [if_neg c17] at H; exact absurd H (by simp)
    ·rw [if_neg c4] at H; exact absurd H (by simp)
   ·rw [if_neg c3] at H; have c3b0 : decide (x6_1 < (l1.length : Int)) = false := decide_eq_false c3; clear c3; obtain rfl := Option.some.inj H
    go_wp2
    go_ret
    exact ⟨_, by first | rfl | (simp [errW_none, errW_some] <;> rfl) | (simp [*, errW_none, errW_some] <;> rfl), by (with_reducible repeat (first | apply Kd.qy_ | apply Kd.qx_ | apply Kd.S_drew)); exact HO_5.out, hB_ HB⟩
end Go.Proofs.Ytgipbmjkgciccaa.P

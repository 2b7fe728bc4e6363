/- What this function of the program comes to, and that the machine's call does it: written by a program (wip/tool). No condition. -/
import Derived.Test.YtnnphpgpnmlppaaP0
import Derived.Test.YtnnphpgpnmlppaaPRatioMulDiv
import Derived.Test.YtnnphpgpnmlppaaPRatioMean
import Derived.Test.YtnnphpgpnmlppaaPRatioCmp
import Derived.Test.YtnnphpgpnmlppaaPLaw09Alive
import Derived.Test.YtnnphpgpnmlppaaHw
namespace Go.Proofs.Ytnnphpgpnmlppaa.P
open Go.RowKit Go.Proofs.YtnnphpgpnmlppaaW.PrintWords Go.Proofs.YtnnphpgpnmlppaaW.PrintLast Go.Proofs.YtnnphpgpnmlppaaW.PrintMore
attribute [local go_sem] max2_int min2_int max_two min_two max_three min_three max_four min_four   -- for this text's walks alone
set_option linter.unusedVariables false
set_option linter.unusedSimpArgs false
/-! ### law09_RatioExact: function 7 -/
def law09_RatioExact.l0 : Nat → Int → Int → Int → Int → Int → Int → List Int → Int → Option (Bool)
 | 0, _, _, _, _, _, _, _, _ => none
 | k + 1, x0, x2, x7, x8, x9, x10, x11, x12 => if x12 < (x11.length : Int) then (if 0 ≤ x12 then (law09_RatioExact.l0 k x0 x2 x7 x8 x9 x10 (x11.set (x12 : Int).toNat (wrap64 (x0))) (wrap64 (x12 + 1))) else (none)) else (if x7 = (wrap64 (x0)) then (if x9 = x7 then (if x8 = 0 then (if x10 = 0 then ((ratio_Mean.f k x11).bind fun t110 => (if t110 = (wrap64 (x0)) then ((ratio_Cmp.f k (wrap64 (x0)) 1 (wrap64 ((wrap64 (x0)) * (wrap64 ((wrap64 (x2)) + 1)))) (wrap64 ((wrap64 (x2)) + 1))).bind fun t111 => (some (t111 == 0))) else (some false))) else (some false)) else (some false)) else (some false)) else (some false))
def law09_RatioExact.f (k : Nat) (a0 : Int) (a1 : Int) (a2 : Int) : Option (Bool) := (law09_alive.f k).bind fun t101 => (if t101 = true then ((ratio_MulDiv.f k (wrap64 (a0)) (wrap64 ((wrap64 (a1)) + 1)) (wrap64 ((wrap64 (a1)) + 1))).bind fun bt102 => ((ratio_MulDiv.f k (wrap64 ((wrap64 (a1)) + 1)) (wrap64 (a0)) (wrap64 ((wrap64 (a1)) + 1))).bind fun bt104 => (if 0 ≤ (wrap64 ((wrap64 (a2)) + 1)) then (if (wrap64 ((wrap64 (a2)) + 1) : Int).toNat ≤ 35184372088832 then (law09_RatioExact.l0 k a0 a2 bt102.1 bt102.2 bt104.1 bt104.2 (List.replicate (wrap64 ((wrap64 (a2)) + 1) : Int).toNat 0) 0) else (none)) else (none)))) else (some false))
theorem law09_RatioExact.mono_l : ∀ k, (∀ y0 y1 y2 y3 y4 y5 y6 y7, LeO (law09_RatioExact.l0 k y0 y1 y2 y3 y4 y5 y6 y7) (law09_RatioExact.l0 (k + 1) y0 y1 y2 y3 y4 y5 y6 y7))
 | 0 => fun _ _ _ _ _ _ _ _ r h => by simp [law09_RatioExact.l0] at h
 | k + 1 => by
  have ih0 := law09_RatioExact.mono_l k
  ·intro y0 y1 y2 y3 y4 y5 y6 y7
   unfold law09_RatioExact.l0
   repeat' first
   | (with_reducible exact ih0 _ _ _ _ _ _ _ _)
   | (with_reducible exact law09_alive.mono _)
   | (with_reducible exact ratio_Cmp.mono _ _ _ _ _)
   | (with_reducible exact ratio_Mean.mono _ _)
   | (with_reducible exact ratio_MulDiv.mono _ _ _ _)
   | (with_reducible exact LeO.refl _)
   | (with_reducible exact LeO.none _)
   | (with_reducible refine LeO.ite ?_ ?_)
   | (with_reducible refine LeO.bind ?_ (fun _ => ?_))
   | exact ih0 _ _ _ _ _ _ _ _
   | exact law09_alive.mono _
   | exact ratio_Cmp.mono _ _ _ _ _
   | exact ratio_Mean.mono _ _
   | exact ratio_MulDiv.mono _ _ _ _
   | exact LeO.none _
   | refine LeO.ite ?_ ?_
   | refine LeO.bind ?_ (fun _ => ?_)
theorem law09_RatioExact.mono : ∀ a0 a1 a2 k, LeO (law09_RatioExact.f k a0 a1 a2) (law09_RatioExact.f (k + 1) a0 a1 a2) := by
 intro a0 a1 a2 k
 have ih0 := law09_RatioExact.mono_l k
 unfold law09_RatioExact.f
 repeat' first
   | (with_reducible exact ih0 _ _ _ _ _ _ _ _)
   | (with_reducible exact law09_alive.mono _)
   | (with_reducible exact ratio_Cmp.mono _ _ _ _ _)
   | (with_reducible exact ratio_Mean.mono _ _)
   | (with_reducible exact ratio_MulDiv.mono _ _ _ _)
   | (with_reducible exact LeO.refl _)
   | (with_reducible exact LeO.none _)
   | (with_reducible refine LeO.ite ?_ ?_)
   | (with_reducible refine LeO.bind ?_ (fun _ => ?_))
   | exact ih0 _ _ _ _ _ _ _ _
   | exact law09_alive.mono _
   | exact ratio_Cmp.mono _ _ _ _ _
   | exact ratio_Mean.mono _ _
   | exact ratio_MulDiv.mono _ _ _ _
   | exact LeO.none _
   | refine LeO.ite ?_ ?_
   | refine LeO.bind ?_ (fun _ => ?_)
set_option maxHeartbeats 8000000 in
set_option maxRecDepth 100000 in
theorem law09_RatioExact.calls (k : Nat) (a0 : Int) (a1 : Int) (a2 : Int) (r : Bool) (w : World) (h : law09_RatioExact.f k a0 a1 a2 = some r) :
  Calls Try.prog 7 #[.int .u32 a0, .int .u32 a1, .int .u8 a2] w fun e w' => e = .returned (.bool r) ∧ Below w.heap.size w w' := by
 have HB := Aside0.mk (Below.refl w.heap.size w)
 have H : ((law09_alive.f k).bind fun t101 => (if t101 = true then ((ratio_MulDiv.f k (wrap64 (a0)) (wrap64 ((wrap64 (a1)) + 1)) (wrap64 ((wrap64 (a1)) + 1))).bind fun bt102 => ((ratio_MulDiv.f k (wrap64 ((wrap64 (a1)) + 1)) (wrap64 (a0)) (wrap64 ((wrap64 (a1)) + 1))).bind fun bt104 => (if 0 ≤ (wrap64 ((wrap64 (a2)) + 1)) then (if (wrap64 ((wrap64 (a2)) + 1) : Int).toNat ≤ 35184372088832 then (law09_RatioExact.l0 k a0 a2 bt102.1 bt102.2 bt104.1 bt104.2 (List.replicate (wrap64 ((wrap64 (a2)) + 1) : Int).toNat 0) 0) else (none)) else (none)))) else (some false))) = some r := h
 clear h
 replace H := ob_ H
 obtain ⟨t101, A40, H⟩ := H
 replace H : (if t101 = true then ((ratio_MulDiv.f k (wrap64 (a0)) (wrap64 ((wrap64 (a1)) + 1)) (wrap64 ((wrap64 (a1)) + 1))).bind fun bt102 => ((ratio_MulDiv.f k (wrap64 ((wrap64 (a1)) + 1)) (wrap64 (a0)) (wrap64 ((wrap64 (a1)) + 1))).bind fun bt104 => (if 0 ≤ (wrap64 ((wrap64 (a2)) + 1)) then (if (wrap64 ((wrap64 (a2)) + 1) : Int).toNat ≤ 35184372088832 then (law09_RatioExact.l0 k a0 a2 bt102.1 bt102.2 bt104.1 bt104.2 (List.replicate (wrap64 ((wrap64 (a2)) + 1) : Int).toNat 0) 0) else (none)) else (none)))) else (some false)) = some r := H
 have A4 := Aside0.mk A40
 clear A40
 by_cases c5 : t101 = true
 ·subst c5
  have H1 : ((ratio_MulDiv.f k (wrap64 (a0)) (wrap64 ((wrap64 (a1)) + 1)) (wrap64 ((wrap64 (a1)) + 1))).bind fun bt102 => ((ratio_MulDiv.f k (wrap64 ((wrap64 (a1)) + 1)) (wrap64 (a0)) (wrap64 ((wrap64 (a1)) + 1))).bind fun bt104 => (if 0 ≤ (wrap64 ((wrap64 (a2)) + 1)) then (if (wrap64 ((wrap64 (a2)) + 1) : Int).toNat ≤ 35184372088832 then (law09_RatioExact.l0 k a0 a2 bt102.1 bt102.2 bt104.1 bt104.2 (List.replicate (wrap64 ((wrap64 (a2)) + 1) : Int).toNat 0) 0) else (none)) else (none)))) = some r := by rw [if_pos rfl] at H; exact H
  clear H
  have H := H1
  clear H1
  replace H := ob_ H
  obtain ⟨⟨t102, t103⟩, A60, H⟩ := H
  replace H : ((ratio_MulDiv.f k (wrap64 ((wrap64 (a1)) + 1)) (wrap64 (a0)) (wrap64 ((wrap64 (a1)) + 1))).bind fun bt104 => (if 0 ≤ (wrap64 ((wrap64 (a2)) + 1)) then (if (wrap64 ((wrap64 (a2)) + 1) : Int).toNat ≤ 35184372088832 then (law09_RatioExact.l0 k a0 a2 t102 t103 bt104.1 bt104.2 (List.replicate (wrap64 ((wrap64 (a2)) + 1) : Int).toNat 0) 0) else (none)) else (none))) = some r := H
  have A6 := Aside0.mk A60
  clear A60
  replace H := ob_ H
  obtain ⟨⟨t104, t105⟩, A70, H⟩ := H
  replace H : (if 0 ≤ (wrap64 ((wrap64 (a2)) + 1)) then (if (wrap64 ((wrap64 (a2)) + 1) : Int).toNat ≤ 35184372088832 then (law09_RatioExact.l0 k a0 a2 t102 t103 t104 t105 (List.replicate (wrap64 ((wrap64 (a2)) + 1) : Int).toNat 0) 0) else (none)) else (none)) = some r := H
  have A7 := Aside0.mk A70
  clear A70
  obtain ⟨ji8, hji8⟩ : ∃ j_ : Int, (wrap64 ((wrap64 (a2)) + 1)) = j_ := ⟨_, rfl⟩
  replace H : (if 0 ≤ (ji8) then (if (ji8 : Int).toNat ≤ 35184372088832 then (law09_RatioExact.l0 k a0 a2 t102 t103 t104 t105 (List.replicate (ji8 : Int).toNat 0) 0) else (none)) else (none)) = some r := by first | (rw [hji8] at H; exact H) | (simp only [hji8] at H ⊢; exact H)
  (try rw [hji8] at A4)
  (try rw [hji8] at A6)
  (try rw [hji8] at A7)
  have hji8w : (IntKind.i64.wrap ((wrap64 (a2)) + 1)) = ji8 := (i64_w _).trans hji8
  by_cases c9 : 0 ≤ (ji8)
  ·rw [if_pos c9] at H
   have c9b0 := eq_true c9
   have c9b1 : decide (0 ≤ (ji8)) = true := decide_eq_true c9
   clear c9
   by_cases c10 : (ji8 : Int).toNat ≤ 35184372088832
   ·rw [if_pos c10] at H
    have c10b0 := eq_true c10
    have c10b1 : decide ((ji8 : Int).toNat ≤ 35184372088832) = true := decide_eq_true c10
    clear c10
    obtain ⟨y106, hy106⟩ : ∃ y_ : List Int, y_ = (List.replicate (ji8 : Int).toNat 0) := ⟨_, rfl⟩
    replace H : (law09_RatioExact.l0 k a0 a2 t102 t103 t104 t105 y106 0) = some r := by first | (rw [hy106]; with_reducible exact H) | (have H2_ := (Option.bind_some _ _).symm.trans H; rw [hy106]; with_reducible exact H2_) | (have H2_ := (Option.bind_some _ _).symm.trans H; with_reducible exact H2_) | with_reducible exact H | (rw [hy106]; exact H) | exact H
    have Ny106 := Aside0.mk hy106
    clear hy106
    have H' := Aside0.mk H
    clear H
    go_enter Try.func7, Try.ntmps7
    go_wp2_with (first | ((with_reducible refine qd_ (f := 8) rfl ?_); refine goesL_ (some 13) rfl rfl Try.func8 (by kernel_rfl) rfl #[] rfl (by (try simp only [List.map_toArray, List.map_cons, List.map_nil]); first | done | rfl | (simp only [List.length_drop, List.length_take]; rfl)) ?_; (with_reducible refine (law09_alive.calls k  true _ A4.out).mono ?_); rintro e w11 ⟨rfl, hb⟩; refine ⟨_, rfl, ?_⟩; have n0_ := Aside0.mk (below_step (by repeat (first | (with_reducible first | exact HB.out | apply qb_ | apply qa_ | apply qc_) | exact HB.out)) hb); clear HB; have HB := n0_; clear n0_; (try clear hb); (try clear hb2); (try clear hk); (try clear hi)) | ((with_reducible refine qd_ (f := 9) rfl ?_); refine goesL_ (some 24) rfl rfl Try.func9 (by kernel_rfl) rfl #[.int .i64 (wrap64 (a0)), .int .i64 (wrap64 ((wrap64 (a1)) + 1)), .int .i64 (wrap64 ((wrap64 (a1)) + 1))] rfl (by (try simp only [List.map_toArray, List.map_cons, List.map_nil]); first | done | rfl | (simp only [List.length_drop, List.length_take]; rfl)) ?_; (with_reducible refine (ratio_MulDiv.calls k (wrap64 (a0)) (wrap64 ((wrap64 (a1)) + 1)) (wrap64 ((wrap64 (a1)) + 1)) t102 t103 _ A6.out).mono ?_); rintro e w' ⟨rfl, ⟨nd, rfl⟩⟩; refine ⟨_, rfl, ?_⟩) | ((with_reducible refine qd_ (f := 9) rfl ?_); refine goesL_ (some 36) rfl rfl Try.func9 (by kernel_rfl) rfl #[.int .i64 (wrap64 ((wrap64 (a1)) + 1)), .int .i64 (wrap64 (a0)), .int .i64 (wrap64 ((wrap64 (a1)) + 1))] rfl (by (try simp only [List.map_toArray, List.map_cons, List.map_nil]); first | done | rfl | (simp only [List.length_drop, List.length_take]; rfl)) ?_; (with_reducible refine (ratio_MulDiv.calls k (wrap64 ((wrap64 (a1)) + 1)) (wrap64 (a0)) (wrap64 ((wrap64 (a1)) + 1)) t104 t105 _ A7.out).mono ?_); rintro e w' ⟨rfl, ⟨nd, rfl⟩⟩; refine ⟨_, rfl, ?_⟩) | ((with_reducible refine gate_dst (N := 42) rfl ?_); refine Kd.R_make (Kd.int .i64) _ 3 rfl (N := 42) rfl 23 _ _ rfl ji8 rfl rfl Try.underlying23 (.int .i64 0) 8 info3 rfl (by decide) (by omega) 0 (ok := fun _ => True) (okp := fun _ => True) rfl (fun _ hk => hk) trivial (of_decide_eq_true (by first | (with_reducible assumption) | assumption)) (Nat.le_trans (Nat.mul_le_mul_right _ (of_decide_eq_true (by first | (with_reducible assumption) | assumption) : ji8.toNat ≤ 35184372088832)) (by omega)) (Below.refl _ _) (Nat.le_refl _) ?_; intro v107 w12 ho13 hb hg_ hnew_; clear hg_ hnew_; (first | rw [← Ny106.out] at ho13 | (simp only [Int.reduceToNat] at ho13; rw [← Ny106.out] at ho13)); have n0_ := Aside0.mk (Kd.R_lower ho13 (below_size (by repeat (first | (with_reducible first | exact HB.out | apply qb_ | apply qa_ | apply qc_) | exact HB.out)))); have n1_ := Aside0.mk (below_step (by repeat (first | (with_reducible first | exact HB.out | apply qb_ | apply qa_ | apply qc_) | exact HB.out)) hb); clear HB; have HO108 := n0_; have HB := n1_; clear n0_ n1_; clear hb ho13))
    go_loopg [12] k (fun kq v12 w' => ∃ (x11_1 : List Int) (x12_1 : Int), v12 = .int .i64 x12_1 ∧ Aside0 (law09_RatioExact.l0 kq a0 a2 t102 t103 t104 t105 x11_1 x12_1 = some r) ∧ Aside0 (kq ≤ k) ∧ Aside0 (Kd.R (Kd.int .i64) 3 w' w.heap.size (fun _ => True) v107 x11_1) ∧ Aside0 (Below w.heap.size w w'))
    case atStart => exact ⟨(y106), (0), (by first | rfl | (simp; done) | (simp [*]; done)), H', ⟨Nat.le_refl _⟩, ⟨by (with_reducible repeat (first | apply Kd.R_alloc | apply Kd.R_drewN | apply Kd.R_drew)); exact HO108.out⟩, ⟨by repeat (first | (with_reducible first | exact HB.out | apply qb_ | apply qa_ | apply qc_) | exact HB.out)⟩⟩
    case round =>
     clear H'
     try clear c1
     try clear p2
     try clear c5
     try clear p6
     try clear c7
     try clear c8
     try clear c9
     try clear c9b0
     try clear c9b1
     try clear c10
     try clear c10b0
     try clear c10b1
     obtain ⟨x11_1, x12_1, rfl, HA, HK1, HO_11, HB⟩ := hrel
     cases gk with
     | zero => exact absurd HA.out (by simp [law09_RatioExact.l0])
     | succ k1 =>
      have H := HA.out
      clear HA
      simp only [law09_RatioExact.l0] at H
      by_cases c14 : x12_1 < (x11_1.length : Int)
      ·rw [if_pos c14] at H
       have c14b0 : decide (x12_1 < (x11_1.length : Int)) = true := decide_eq_true c14
       clear c14
       by_cases c15 : 0 ≤ x12_1
       ·rw [if_pos c15] at H
        have c15b0 : decide (0 ≤ x12_1) = true := decide_eq_true c15
        clear c15
        obtain ⟨y109, hy109⟩ : ∃ y_ : List Int, y_ = (x11_1.set (x12_1 : Int).toNat (wrap64 (a0))) := ⟨_, rfl⟩
        replace H : (law09_RatioExact.l0 k1 a0 a2 t102 t103 t104 t105 y109 (wrap64 (x12_1 + 1))) = some r := by first | (rw [hy109]; with_reducible exact H) | (have H2_ := (Option.bind_some _ _).symm.trans H; rw [hy109]; with_reducible exact H2_) | (have H2_ := (Option.bind_some _ _).symm.trans H; with_reducible exact H2_) | with_reducible exact H | (rw [hy109]; exact H) | exact H
        have Ny109 := Aside0.mk hy109
        clear hy109
        have H' := Aside0.mk H
        clear H
        obtain ⟨Ao17, co17, eo17⟩ := Kd.R_slice HO_11.out
        subst eo17
        have p16 : 0 ≤ (x12_1 : Int) := of_decide_eq_true (by first | (with_reducible assumption) | assumption)
        have q16 : (x12_1 : Int) < ((x11_1.length : Int) : Int) := of_decide_eq_true (by first | (with_reducible assumption) | assumption)
        obtain ⟨go16, co16, eo16, gb16, gl16, cl16, HG16⟩ := Kd.R_form HO_11.out (by omega)
        (first | cases eo16 | (injection eo16 with ea_ en_ ec_; (first | subst ea_ | (injection ea_ with ea_; subst ea_)); subst ec_; clear en_))
        have GB16 := Aside0.mk gb16
        have GG16 := Aside0.mk HG16
        clear gb16 gl16 HG16
        obtain ⟨hx16_0, hf16_0⟩ := Kd.R_celln 0 HO_11.out (x12_1 : Int) p16 q16
        replace p16 := eq_true p16
        replace q16 := eq_true q16
        have HP18 := Kd.R_putg HO_11.out (x12_1 : Int) (wrap64 (a0))
        go_wp2_with (first | ((with_reducible refine gate_store (t := 3) (p := 53) rfl ?_); refine store_event (t := 3) (p := 53) (v := ?vo_w19) (w1 := (wr.setCell ⟨go16, (x12_1 : Int).toNat, none⟩ (.int .i64 (wrap64 (a0))))) ?hg ?ho ?hn ?hr ?_; (case ho => rfl); (case hg => rfl); (case hn => rfl); (case hr => first | (go_simp; done) | (go_simp; rfl)); intro w19 hw; have hg : wr.grownBy w19 (some go16) := (by rw [hw]; exact HP18.2); have hp_ : Kd.R (Kd.int .i64) 3 w19 w.heap.size (fun _ => True) (.slice (some ⟨go16, 0, none⟩) x11_1.length co17) y109 := (by rw [hw, Ny109.out]; exact HP18.1); clear HP18; have n0_ := Aside0.mk (hp_); have n1_ := Aside0.mk ((by rw [hw]; exact below_set (HB.out) GB16.out : Below w.heap.size w w19)); clear HO_11; clear HB; have HO_11 := n0_; have HB := n1_; clear n0_ n1_; clear hg hw hp_))
        go_roundg k1
        case measure => have := HK1.out; omega
        case rel => exact ⟨(y109), (wrap64 (x12_1 + 1)), (by first | rfl | (simp; done) | (simp [*]; done)), H', ⟨by have := HK1.out; omega⟩, ⟨by (with_reducible repeat (first | apply Kd.R_alloc | apply Kd.R_drewN | apply Kd.R_drew)); exact HO_11.out⟩, ⟨by repeat (first | (with_reducible first | exact HB.out | apply qb_ | apply qa_ | apply qc_) | exact HB.out)⟩⟩
       ·rw [if_neg c15] at H
        exact absurd H (by simp)
      ·rw [if_neg c14] at H
       have c14b0 : decide (x12_1 < (x11_1.length : Int)) = false := decide_eq_false c14
       clear c14
       by_cases c20 : t102 = (wrap64 (a0))
       ·rw [if_pos c20] at H
        have c20b0 : (t102 == (wrap64 (a0))) = true := beq_iff_eq.mpr c20
        have c20b1 : (t102 != (wrap64 (a0))) = false := bne_eq_false_iff_eq.mpr c20
        clear c20
        by_cases c21 : t104 = t102
        ·rw [if_pos c21] at H
         have c21b0 : (t104 == t102) = true := beq_iff_eq.mpr c21
         have c21b1 : (t104 != t102) = false := bne_eq_false_iff_eq.mpr c21
         clear c21
         by_cases c22 : t103 = 0
         ·rw [if_pos c22] at H
          have c22b0 : (t103 == 0) = true := beq_iff_eq.mpr c22
          have c22b1 : (t103 != 0) = false := bne_eq_false_iff_eq.mpr c22
          clear c22
          by_cases c23 : t105 = 0
          ·rw [if_pos c23] at H
           have c23b0 : (t105 == 0) = true := beq_iff_eq.mpr c23
           have c23b1 : (t105 != 0) = false := bne_eq_false_iff_eq.mpr c23
           clear c23
           replace H := ob_ H
           obtain ⟨t110, A240, H⟩ := H
           replace H : (if t110 = (wrap64 (a0)) then ((ratio_Cmp.f k1 (wrap64 (a0)) 1 (wrap64 ((wrap64 (a0)) * (wrap64 ((wrap64 (a2)) + 1)))) (wrap64 ((wrap64 (a2)) + 1))).bind fun t111 => (some (t111 == 0))) else (some false)) = some r := H
           have A24 := Aside0.mk A240
           clear A240
           by_cases c25 : t110 = (wrap64 (a0))
           ·rw [if_pos c25] at H
            have c25b0 : (t110 == (wrap64 (a0))) = true := beq_iff_eq.mpr c25
            have c25b1 : (t110 != (wrap64 (a0))) = false := bne_eq_false_iff_eq.mpr c25
            clear c25
            replace H := ob_ H
            obtain ⟨t111, A260, H⟩ := H
            replace H : (some (t111 == 0)) = some r := H
            have A26 := Aside0.mk A260
            clear A260
            obtain rfl := Option.some.inj H
            obtain ⟨Ao27, co27, eo27⟩ := Kd.R_slice HO_11.out
            subst eo27
            go_wp2_with (first | (go_at_call 11; (with_reducible refine (ratio_Mean.calls k1 _ _ x11_1 t110 _ ?side1 ?side2 A24.out).mono ?_); (case side1 => repeat (first | exact (Kd.R_reads' HO_11.out).2.2 | (with_reducible refine Kd.C_alloc ?_ _) | (with_reducible refine Kd.C_drewN ?_ _) | (with_reducible refine Kd.C_drew ?_))); (case side2 => exact (Kd.R_reads' HO_11.out).2.1); rintro e w' ⟨rfl, ⟨nd, rfl⟩⟩) | (go_at_call 15; (have AJ_ := A26.out; simp only [hji8] at AJ_; (with_reducible refine (ratio_Cmp.calls k1 _ _ _ _ t111 _ AJ_).mono ?_)); rintro e w28 ⟨rfl, hb⟩; have n0_ := Aside0.mk (Kd.R_below (by (with_reducible repeat (first | apply Kd.R_alloc | apply Kd.R_drewN | apply Kd.R_drew)); exact HO_11.out) hb); have n1_ := Aside0.mk (below_step (by repeat (first | (with_reducible first | exact HB.out | apply qb_ | apply qa_ | apply qc_) | exact HB.out)) hb); clear HO_11; clear HB; have HO_11 := n0_; have HB := n1_; clear n0_ n1_; (try clear hb); (try clear hb2); (try clear hk); (try clear hi)))
            go_ret
            exact ⟨by first | rfl | (simp [errW_none, errW_some] <;> rfl) | (simp only [← hji8]; first | rfl | (simp [errW_none, errW_some] <;> rfl)) | (simp [*, errW_none, errW_some] <;> rfl), by repeat (first | (with_reducible first | exact HB.out | apply qb_ | apply qa_ | apply qc_) | exact HB.out)⟩
           ·rw [if_neg c25] at H
            have c25b0 : (t110 == (wrap64 (a0))) = false := beq_eq_false_iff_ne.mpr c25
            have c25b1 : (t110 != (wrap64 (a0))) = true := bne_iff_ne.mpr c25
            obtain rfl := Option.some.inj H
            obtain ⟨Ao29, co29, eo29⟩ := Kd.R_slice HO_11.out
            subst eo29
            go_wp2_with (first | (go_at_call 11; (with_reducible refine (ratio_Mean.calls k1 _ _ x11_1 t110 _ ?side1 ?side2 A24.out).mono ?_); (case side1 => repeat (first | exact (Kd.R_reads' HO_11.out).2.2 | (with_reducible refine Kd.C_alloc ?_ _) | (with_reducible refine Kd.C_drewN ?_ _) | (with_reducible refine Kd.C_drew ?_))); (case side2 => exact (Kd.R_reads' HO_11.out).2.1); rintro e w' ⟨rfl, ⟨nd, rfl⟩⟩))
            go_ret
            exact ⟨by first | rfl | (simp [errW_none, errW_some] <;> rfl) | (simp only [← hji8]; first | rfl | (simp [errW_none, errW_some] <;> rfl)) | (simp [*, errW_none, errW_some] <;> rfl), by repeat (first | (with_reducible first | exact HB.out | apply qb_ | apply qa_ | apply qc_) | exact HB.out)⟩
          ·rw [if_neg c23] at H
           have c23b0 : (t105 == 0) = false := beq_eq_false_iff_ne.mpr c23
           have c23b1 : (t105 != 0) = true := bne_iff_ne.mpr c23
           obtain rfl := Option.some.inj H
           obtain ⟨Ao30, co30, eo30⟩ := Kd.R_slice HO_11.out
           subst eo30
           go_wp2
           go_ret
           exact ⟨by first | rfl | (simp [errW_none, errW_some] <;> rfl) | (simp only [← hji8]; first | rfl | (simp [errW_none, errW_some] <;> rfl)) | (simp [*, errW_none, errW_some] <;> rfl), by repeat (first | (with_reducible first | exact HB.out | apply qb_ | apply qa_ | apply qc_) | exact HB.out)⟩
         ·rw [if_neg c22] at H
          have c22b0 : (t103 == 0) = false := beq_eq_false_iff_ne.mpr c22
          have c22b1 : (t103 != 0) = true := bne_iff_ne.mpr c22
          obtain rfl := Option.some.inj H
          obtain ⟨Ao31, co31, eo31⟩ := Kd.R_slice HO_11.out
          subst eo31
          go_wp2
          go_ret
          exact ⟨by first | rfl | (simp [errW_none, errW_some] <;> rfl) | (simp only [← hji8]; first | rfl | (simp [errW_none, errW_some] <;> rfl)) | (simp [*, errW_none, errW_some] <;> rfl), by repeat (first | (with_reducible first | exact HB.out | apply qb_ | apply qa_ | apply qc_) | exact HB.out)⟩
        ·rw [if_neg c21] at H
         have c21b0 : (t104 == t102) = false := beq_eq_false_iff_ne.mpr c21
         have c21b1 : (t104 != t102) = true := bne_iff_ne.mpr c21
         obtain rfl := Option.some.inj H
         obtain ⟨Ao32, co32, eo32⟩ := Kd.R_slice HO_11.out
         subst eo32
         go_wp2
         go_ret
         exact ⟨by first | rfl | (simp [errW_none, errW_some] <;> rfl) | (simp only [← hji8]; first | rfl | (simp [errW_none, errW_some] <;> rfl)) | (simp [*, errW_none, errW_some] <;> rfl), by repeat (first | (with_reducible first | exact HB.out | apply qb_ | apply qa_ | apply qc_) | exact HB.out)⟩
       ·rw [if_neg c20] at H
        have c20b0 : (t102 == (wrap64 (a0))) = false := beq_eq_false_iff_ne.mpr c20
        have c20b1 : (t102 != (wrap64 (a0))) = true := bne_iff_ne.mpr c20
        obtain rfl := Option.some.inj H
        obtain ⟨Ao33, co33, eo33⟩ := Kd.R_slice HO_11.out
        subst eo33
        go_wp2
        go_ret
        exact ⟨by first | rfl | (simp [errW_none, errW_some] <;> rfl) | (simp only [← hji8]; first | rfl | (simp [errW_none, errW_some] <;> rfl)) | (simp [*, errW_none, errW_some] <;> rfl), by repeat (first | (with_reducible first | exact HB.out | apply qb_ | apply qa_ | apply qc_) | exact HB.out)⟩
   ·rw [if_neg c10] at H
    exact absurd H (by simp)
  ·rw [if_neg c9] at H
   exact absurd H (by simp)
 ·replace c5 := Bool.eq_false_iff.mpr c5
  subst c5
  have H1 : (some false) = some r := by rw [if_neg (show ¬ (false = true) by decide)] at H; exact H
  clear H
  have H := H1
  clear H1
  obtain rfl := Option.some.inj H
  go_enter Try.func7, Try.ntmps7
  go_wp2_with (first | ((with_reducible refine qd_ (f := 8) rfl ?_); refine goesL_ (some 13) rfl rfl Try.func8 (by kernel_rfl) rfl #[] rfl (by (try simp only [List.map_toArray, List.map_cons, List.map_nil]); first | done | rfl | (simp only [List.length_drop, List.length_take]; rfl)) ?_; (with_reducible refine (law09_alive.calls k  false _ A4.out).mono ?_); rintro e w34 ⟨rfl, hb⟩; refine ⟨_, rfl, ?_⟩; have n0_ := Aside0.mk (below_step (by repeat (first | (with_reducible first | exact HB.out | apply qb_ | apply qa_ | apply qc_) | exact HB.out)) hb); clear HB; have HB := n0_; clear n0_; (try clear hb); (try clear hb2); (try clear hk); (try clear hi)))
  go_ret
  exact ⟨by first | rfl | (simp [errW_none, errW_some] <;> rfl) | (simp [*, errW_none, errW_some] <;> rfl), by repeat (first | (with_reducible first | exact HB.out | apply qb_ | apply qa_ | apply qc_) | exact HB.out)⟩
/-- THE ONE PURE STATEMENT of law09_RatioExact: yours. -/
def law09_RatioExact.Pure : Prop := ∀ (a0 : Int) (a1 : Int) (a2 : Int), (Lit.int .u32 a0).wf = true → (Lit.int .u32 a1).wf = true → (Lit.int .u8 a2).wf = true → ∃ k, law09_RatioExact.f k a0 a1 a2 = some true
theorem law09_RatioExact.walk (P : law09_RatioExact.Pure) (a0 : Int) (a1 : Int) (a2 : Int) (w : World) (w0 : (Lit.int .u32 a0).wf = true) (w1 : (Lit.int .u32 a1).wf = true) (w2 : (Lit.int .u8 a2).wf = true) :
  Calls Try.prog 7 #[.int .u32 a0, .int .u32 a1, .int .u8 a2] w fun e w' => e = .returned (.bool true) ∧ Below w.heap.size w w' := by
 obtain ⟨k, h⟩ := P a0 a1 a2 w0 w1 w2
 refine (law09_RatioExact.calls k a0 a1 a2 true w h).mono ?_
 rintro e w' ⟨rfl, hd⟩
 exact ⟨rfl, hd⟩
end Go.Proofs.Ytnnphpgpnmlppaa.P

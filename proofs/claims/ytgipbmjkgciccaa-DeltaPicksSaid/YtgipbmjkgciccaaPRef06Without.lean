/- What this function of the program comes to, and that the machine's call does it. No condition. -/
import Derived.Test.YtgipbmjkgciccaaPRef06Copy
namespace Go.Proofs.Ytgipbmjkgciccaa.P
set_option maxHeartbeats 8000000
set_option maxRecDepth 100000
open Go.RowKit Go.Proofs.YtgipbmjkgciccaaW.PrintWords Go.Proofs.YtgipbmjkgciccaaW.PrintLast Go.Proofs.YtgipbmjkgciccaaW.PrintMore
attribute [local go_sem] max2_int min2_int max_two min_two max_three min_three max_four min_four Go.Proofs.YtgipbmjkgciccaaW.Hw.string_gtr
set_option linter.unusedVariables false
set_option linter.unusedSimpArgs false
def ref06_Without.l0 : Nat → List (S39) → Int → List (S39) → Int → Option ((List (S39)))
 | 0, _, _, _, _ => none
 | k + 1, x0, x1, x5, x6 => if x6 < (x0.length : Int) then (if 0 ≤ x6 then (if ((rd_T39 x0 x6).f0) = x1 then (ref06_Without.l0 k x0 x1 x5 (wrap64 (x6 + 1))) else (if x5.length < 2932031007402 then (ref06_Without.l0 k x0 x1 (x5 ++ [(⟨(rd_T39 x0 x6).f0, (⟨(rd_T39 x0 x6).f1.f0, (rd_T39 x0 x6).f1.f1, (rd_T39 x0 x6).f1.f2⟩ : S35)⟩ : S39)]) (wrap64 (x6 + 1))) else (none))) else (none)) else ((ref06_Copy.f k x5).bind fun t106 => (some t106))
def ref06_Without.f (k : Nat) (l0 : List (S39)) (a1 : Int) : Option ((List (S39))) := ref06_Without.l0 k l0 a1 ([] : List (S39)) 0
theorem ref06_Without.mono_l : ∀ k, (∀ y0 y1 y2 y3, LeO (ref06_Without.l0 k y0 y1 y2 y3) (ref06_Without.l0 (k + 1) y0 y1 y2 y3))
 | 0 => fun _ _ _ _ r h => by simp [ref06_Without.l0] at h
 | k + 1 => by
  have ih0 := ref06_Without.mono_l k
  ·intro y0 y1 y2 y3
   unfold ref06_Without.l0
   repeat' first
   | (with_reducible exact ih0 _ _ _ _)
   | (with_reducible exact ref06_Copy.mono _ _)
   | (with_reducible exact LeO.refl _)
   | (with_reducible exact LeO.none _)
   | (with_reducible refine LeO.ite ?_ ?_)
   | (with_reducible refine LeO.bind ?_ (fun _ => ?_))
   | exact ih0 _ _ _ _
   | exact ref06_Copy.mono _ _
   | exact LeO.none _
   | refine LeO.ite ?_ ?_
   | refine LeO.bind ?_ (fun _ => ?_)
theorem ref06_Without.mono : ∀ a0 a1 k, LeO (ref06_Without.f k a0 a1) (ref06_Without.f (k + 1) a0 a1) := by
 intro a0 a1 k; have ih0 := ref06_Without.mono_l k
 unfold ref06_Without.f
 repeat' first
   | (with_reducible exact ih0 _ _ _ _)
   | (with_reducible exact ref06_Copy.mono _ _)
   | (with_reducible exact LeO.refl _)
   | (with_reducible exact LeO.none _)
   | (with_reducible refine LeO.ite ?_ ?_)
   | (with_reducible refine LeO.bind ?_ (fun _ => ?_))
   | exact ih0 _ _ _ _
   | exact ref06_Copy.mono _ _
   | exact LeO.none _
   | refine LeO.ite ?_ ?_
   | refine LeO.bind ?_ (fun _ => ?_)
theorem ref06_Without.calls (k : Nat) (P0_ : Nat → Prop) (A0 : Option Addr) (c0 : Nat) (l0 : List (S39)) (a1 : Int) (r : List (S39)) (w : World) (hs0 : Kd.V k39 39 w w.heap.size (fun k_ => P0_ k_) (.slice A0 l0.length c0) l0) (h : ref06_Without.f k l0 a1 = some r) :
  Calls Try.prog 54 #[.slice A0 l0.length c0, .int .i64 a1] w fun e w' => ∃ v0_ : Value, e = .returned (v0_) ∧ Kd.N k39 39 w' w.heap.size (fun k_ => (P0_ k_ ∨ w.heap.size ≤ k_)) v0_ r ∧ Below w.heap.size w w' := by
 have hu39 := Try.underlying39; have HO0 := Zq_.mk (show Kd.V k39 39 w w.heap.size (fun k_ => (P0_ k_ ∨ w.heap.size ≤ k_)) (.slice A0 l0.length c0) l0 from Kd.V_mono hs0 (fun k_ hk => .inl hk)); have HB := Zq_.mk (Below.refl w.heap.size w); have H : (ref06_Without.l0 k l0 a1 ([] : List (S39)) 0) = some r := h; clear h; have H' := Zq_.mk H; clear H
 go_enter Try.func54, Try.ntmps54
 go_wp2
 go_loopg [5, 6] k (fun kq v5 v6 w' => ∃ (x5_1 : List (S39)) (x6_1 : Int), v6 = .int .i64 x6_1 ∧ Zq_ (ref06_Without.l0 kq l0 a1 x5_1 x6_1 = some r) ∧ Zq_ (kq ≤ k) ∧ Zq_ (Kd.V k39 39 w' w.heap.size (fun k_ => (P0_ k_ ∨ w.heap.size ≤ k_) ∧ some k_ ≠ (v5 : Value).ownBlock) (.slice A0 l0.length c0) l0) ∧ Zq_ (Kd.N k39 39 w' w.heap.size (fun k_ => (P0_ k_ ∨ w.heap.size ≤ k_)) v5 x5_1) ∧ Zq_ (Below w.heap.size w w'))
 case atStart => exact ⟨(([] : List (S39))), (0), (by first | rfl | (simp; done) | (simp [*]; done)), H', ⟨Nat.le_refl _⟩, ⟨by (with_reducible repeat (first | apply Kd.qn_ | apply Kd.qm_ | apply Kd.V_drew)); exact Kd.V_mono HO0.out (fun _ hk => ⟨hk, (by simp [Value.ownBlock])⟩)⟩, ⟨by first | exact Kd.S_nil _ _ _ _ _ | exact Kd.N_nil _ _ _ _ _ | exact Kd.V_nil _ _ _ _ _ | exact Kd.Q_nil _ _ _ _ _ | exact Kd.R_nil _ _ _ _ _⟩, ⟨hB_ HB⟩⟩
 case round =>
  clear H'
  try clear p2
  obtain ⟨x5_1, x6_1, rfl, HA, HK1, HO_0, HO_5, HB⟩ := hrel
  cases gk with
  | zero => exact absurd HA.out (by simp [ref06_Without.l0])
  | succ k1 =>
   have H := HA.out; clear HA; simp only [ref06_Without.l0] at H
   by_cases c3 : x6_1 < (l0.length : Int)
   ·rw [if_pos c3] at H; have c3b0 : decide (x6_1 < (l0.length : Int)) = true := decide_eq_true c3; clear c3
    by_cases c4 : 0 ≤ x6_1
    ·rw [if_pos c4] at H; have c4b0 : decide (0 ≤ x6_1) = true := decide_eq_true c4; clear c4
     by_cases c5 : ((rd_T39 l0 x6_1).f0) = a1
     ·rw [if_pos c5] at H; have c5b0 : (((rd_T39 l0 x6_1).f0) == a1) = true := beq_iff_eq.mpr c5; have c5b1 : (((rd_T39 l0 x6_1).f0) != a1) = false := bne_eq_false_iff_eq.mpr c5; clear c5; have H' := Zq_.mk H; clear H; have p101 : 0 ≤ (x6_1 : Int) := dA_; have q101 : x6_1 < (l0.length : Int) := dA_; obtain ⟨ad101, A101_3, c101_3, e101, hx101_0, hx101_1, hx101_2, hx101_3, hl101_3, hi101_3⟩ := at_T39 (Kd.V_reads' HO_0.out).2.2 x6_1 p101 q101; cases e101; obtain ⟨ce101, hce101, hMe101, hcc101⟩ := Kd.V_get HO_0.out z39 x6_1 p101 (by first | exact q101 | exact dA_ | (have e_ := (Kd.V_reads' HO_0.out).1; omega)); obtain ⟨ua101_3, uc101_3, rfl, ul101_3, ge101_3⟩ := k39_openF hMe101; have hv101_3 := hcc101 3 _ rfl; rw [add_field _ _ 3 (by omega)] at hv101_3; replace hv101_3 := Option.some.inj (hv101_3.symm.trans hx101_3)
      injection hv101_3 with hva_ hvn_ hvc_
      rw [hva_] at ge101_3; rw [hvc_] at ul101_3; have HL101_3 := Zq_.mk (show Kd.V k58 58 _ w.heap.size _ _ ((rd_T39 l0 x6_1).f1.f2) from Kd.V_mk ul101_3 ge101_3); clear hva_ hvn_ hvc_ ge101_3 ul101_3; clear hcc101 hce101; have HR101_3 := Zq_.mk hi101_3; have HC101_3 := Zq_.mk hl101_3; clear hi101_3 hl101_3; replace p101 := eq_true p101; replace q101 := eq_true q101
      go_wp2
      go_roundg k1
      case measure => have := HK1.out; omega
      case rel => exact ⟨(x5_1), (wrap64 (x6_1 + 1)), (by first | rfl | (simp; done) | (simp [*]; done)), H', ⟨by have := HK1.out; omega⟩, ⟨by (with_reducible repeat (first | apply Kd.qn_ | apply Kd.qm_ | apply Kd.V_drew)); exact HO_0.out⟩, ⟨by (with_reducible repeat (first | apply Kd.vc_ | apply Kd.vb_ | apply Kd.N_drew)); exact HO_5.out⟩, ⟨hB_ HB⟩⟩
     ·rw [if_neg c5] at H; have c5b0 : (((rd_T39 l0 x6_1).f0) == a1) = false := beq_eq_false_iff_ne.mpr c5; have c5b1 : (((rd_T39 l0 x6_1).f0) != a1) = true := bne_iff_ne.mpr c5
      by_cases c6 : x5_1.length < 2932031007402
      ·rw [if_pos c6] at H; have LMc6 := Zq_.mk c6; clear c6; obtain ⟨y103, hy103⟩ : ∃ y_ : List (S39), y_ = (x5_1 ++ [(⟨(rd_T39 l0 x6_1).f0, (⟨(rd_T39 l0 x6_1).f1.f0, (rd_T39 l0 x6_1).f1.f1, (rd_T39 l0 x6_1).f1.f2⟩ : S35)⟩ : S39)]) := ⟨_, rfl⟩
       replace H : (ref06_Without.l0 k1 l0 a1 y103 (wrap64 (x6_1 + 1))) = some r := by first | (rw [hy103]; with_reducible exact H) | (have H2_ := (Option.bind_some _ _).symm.trans H; rw [hy103]; with_reducible exact H2_) | (have H2_ := (Option.bind_some _ _).symm.trans H; with_reducible exact H2_) | with_reducible exact H | (rw [hy103]; exact H) | exact H
       have Ny103 := Zq_.mk hy103; clear hy103; have H' := Zq_.mk H; clear H; have p101 : 0 ≤ (x6_1 : Int) := dA_; have q101 : x6_1 < (l0.length : Int) := dA_; obtain ⟨ad101, A101_3, c101_3, e101, hx101_0, hx101_1, hx101_2, hx101_3, hl101_3, hi101_3⟩ := at_T39 (Kd.V_reads' HO_0.out).2.2 x6_1 p101 q101; cases e101; obtain ⟨ce101, hce101, hMe101, hcc101⟩ := Kd.V_get HO_0.out z39 x6_1 p101 (by first | exact q101 | exact dA_ | (have e_ := (Kd.V_reads' HO_0.out).1; omega)); obtain ⟨ua101_3, uc101_3, rfl, ul101_3, ge101_3⟩ := k39_openF hMe101; have hv101_3 := hcc101 3 _ rfl; rw [add_field _ _ 3 (by omega)] at hv101_3; replace hv101_3 := Option.some.inj (hv101_3.symm.trans hx101_3)
       injection hv101_3 with hva_ hvn_ hvc_
       rw [hva_] at ge101_3; rw [hvc_] at ul101_3; have HL101_3 := Zq_.mk (show Kd.V k58 58 _ w.heap.size _ _ ((rd_T39 l0 x6_1).f1.f2) from Kd.V_mk ul101_3 ge101_3); clear hva_ hvn_ hvc_ ge101_3 ul101_3; clear hcc101 hce101; have HR101_3 := Zq_.mk hi101_3; have HC101_3 := Zq_.mk hl101_3; clear hi101_3 hl101_3; replace p101 := eq_true p101; replace q101 := eq_true q101; have p102 : 0 ≤ (x6_1 : Int) := dA_; have q102 : x6_1 < (l0.length : Int) := dA_; obtain ⟨ad102, A102_3, c102_3, e102, hx102_0, hx102_1, hx102_2, hx102_3, hl102_3, hi102_3⟩ := at_T39 (Kd.V_reads' HO_0.out).2.2 x6_1 p102 q102; obtain rfl : ad101 = ad102 := (by injection e102); obtain ⟨ce102, hce102, hMe102, hcc102⟩ := Kd.V_get HO_0.out z39 x6_1 p102 (by first | exact q102 | exact dA_ | (have e_ := (Kd.V_reads' HO_0.out).1; omega)); obtain ⟨ua102_3, uc102_3, rfl, ul102_3, ge102_3⟩ := k39_openF hMe102; have hv102_3 := hcc102 3 _ rfl; rw [add_field _ _ 3 (by omega)] at hv102_3; replace hv102_3 := Option.some.inj (hv102_3.symm.trans hx102_3)
       injection hv102_3 with hva_ hvn_ hvc_
       rw [hva_] at ge102_3; rw [hvc_] at ul102_3; have HL102_3 := Zq_.mk (show Kd.V k58 58 _ w.heap.size _ _ ((rd_T39 l0 x6_1).f1.f2) from Kd.V_mk ul102_3 ge102_3); clear hva_ hvn_ hvc_ ge102_3 ul102_3; clear hcc102 hce102; have HR102_3 := Zq_.mk hi102_3; have HC102_3 := Zq_.mk hl102_3; clear hi102_3 hl102_3; replace p102 := eq_true p102; replace q102 := eq_true q102; have ea_ := Option.some.inj (hx101_3.symm.trans hx102_3)
       injection ea_ with ea_ en_ ec_
       subst ea_; subst ec_; clear en_
       go_wp2_with (first | ((with_reducible refine gate_builtin (b := .append) (xs := #[.tmp 20, .tmp 25]) rfl ?_); at_builtin; refine Kd.N_append k39 (w0 := w) w.heap.size rfl (.tmp 20) (.tmp 25) 22 39 (.agg #[(.int .i64 0), (.int .i64 0), (.int .i64 0), (.slice none 0 0)]) 48 rfl Try.underlying22 info39 rfl (by decide) (by omega) u5 x5_1 (⟨(rd_T39 l0 x6_1).f0, (⟨(rd_T39 l0 x6_1).f1.f0, (rd_T39 l0 x6_1).f1.f1, (rd_T39 l0 x6_1).f1.f2⟩ : S35)⟩ : S39) [.int .i64 ((rd_T39 l0 x6_1).f0), .int .i64 ((rd_T39 l0 x6_1).f1.f0), .int .i64 ((rd_T39 l0 x6_1).f1.f1), .slice A101_3 ((rd_T39 l0 x6_1).f1.f2).length c101_3] (fun k_ => (P0_ k_ ∨ w.heap.size ≤ k_)) (fun k_ => ((fun k_ => (P0_ k_ ∨ w.heap.size ≤ k_))) k_ ∧ some k_ ≠ (u5 : Value).ownBlock) rfl rfl ?aP (fun _ hk => hk) ?aF ?aO ?aB ?aS ?aL ?_; (case aP => exact (k39_mkF _ _ (⟨(rd_T39 l0 x6_1).f0, (⟨(rd_T39 l0 x6_1).f1.f0, (rd_T39 l0 x6_1).f1.f1, (rd_T39 l0 x6_1).f1.f2⟩ : S35)⟩ : S39) (Kd.V_reads' (Kd.V_mono (ok' := (fun k_ => ((fun k_ => (P0_ k_ ∨ w.heap.size ≤ k_))) k_ ∧ some k_ ≠ (u5 : Value).ownBlock)) (HL102_3.out) (fun k_ hk => ⟨hk.1, hk.2⟩))).2.1 (Kd.V_F (Kd.V_mono (ok' := (fun k_ => ((fun k_ => (P0_ k_ ∨ w.heap.size ≤ k_))) k_ ∧ some k_ ≠ (u5 : Value).ownBlock)) (HL102_3.out) (fun k_ hk => ⟨hk.1, hk.2⟩))))); (case aB => exact (hB_ HB)); (case aF => exact (fun k_ hk => (.inr (Nat.le_trans (qj_ (hB_ HB)) hk)))); (case aO => exact (vX_ HO_5)); (case aS => exact (qj_ (hB_ HB))); (case aL => have := LMc6.out; omega); intro v104 w7 ho hb hg hat; rw [← Ny103.out] at ho; replace HO_0 := Zq_.mk (Kd.V_afterv (ok := (fun k_ => (P0_ k_ ∨ w.heap.size ≤ k_))) (by (with_reducible repeat (first | apply Kd.qn_ | apply Kd.qm_ | apply Kd.V_drew)); first | exact HO_0.out | exact Kd.V_mono HO_0.out (fun _ hk => ⟨⟨hk.1, hk.2.2⟩, hk.2.1⟩)) hg hat); replace HL101_3 := Zq_.mk (Kd.V_afterv (ok := (fun k_ => (P0_ k_ ∨ w.heap.size ≤ k_))) (vX_ HL101_3) hg hat); replace HL102_3 := Zq_.mk (Kd.V_afterv (ok := (fun k_ => (P0_ k_ ∨ w.heap.size ≤ k_))) (vX_ HL102_3) hg hat); replace HB := Zq_.mk (hb); have HO105 := Zq_.mk (ho); clear HO_5; clear ho hb hg hat))
       go_roundg k1
       case measure => have := HK1.out; omega
       case rel => exact ⟨(y103), (wrap64 (x6_1 + 1)), (by first | rfl | (simp; done) | (simp [*]; done)), H', ⟨by have := HK1.out; omega⟩, ⟨by (with_reducible repeat (first | apply Kd.qn_ | apply Kd.qm_ | apply Kd.V_drew)); exact HO_0.out⟩, ⟨by (with_reducible repeat (first | apply Kd.vc_ | apply Kd.vb_ | apply Kd.N_drew)); exact HO105.out⟩, ⟨hB_ HB⟩⟩
      ·rw [if_neg c6] at H; exact absurd H (by simp)
    ·rw [if_neg c4] at H; exact absurd H (by simp)
   ·rw [if_neg c3] at H; have c3b0 : decide (x6_1 < (l0.length : Int)) = false := decide_eq_false c3; clear c3; replace H := ob_ H; obtain ⟨t106, A80, H⟩ := H; replace H : (some t106) = some r := H; have A8 := Zq_.mk A80; clear A80; obtain rfl := Option.some.inj H; obtain ⟨Ao9, co9, eo9⟩ := Kd.N_slice HO_5.out; subst eo9
    go_wp2_with (first | ((with_reducible refine va_ (f := 27) rfl ?_); refine goesL_ (some 28) rfl rfl Try.func27 (by kernel_rfl) rfl #[.slice Ao9 x5_1.length co9] rfl (by (try simp only [List.map_toArray, List.map_cons, List.map_nil]); first | done | rfl | (simp only [List.length_drop, List.length_take]; rfl)) ?_; (with_reducible refine (ref06_Copy.calls k1 _ _ x5_1 t106 _ ?side1 ?side2 A8.out).mono ?_); (case side1 => exact cX_ ((Kd.N_reads' HO_5.out).2.2)); (case side2 => exact (Kd.N_reads' HO_5.out).2.1); rintro e w10 ⟨v107, rfl, ho0, hb⟩; refine ⟨_, rfl, ?_⟩; replace HO_0 := Zq_.mk (Kd.V_elder' (vX_ HO_0) (by first | exact Kd.N_base ho0 | exact Kd.S_base ho0) hb); have HO108 := Zq_.mk (Kd.N_lower (Kd.N_mono (ok' := fun k_ => (P0_ k_ ∨ w.heap.size ≤ k_) ∧ some k_ ≠ (.slice Ao9 x5_1.length co9 : Value).ownBlock) (Kd.S_N (Kd.S_bound ho0)) (fun k_ hk_ => ⟨(.inr (Nat.le_trans (qj_ (hB_ HB)) hk_.2.1)), (Kd.fresh' (Kd.N_lt (vX_ HO_5)) k_ hk_.2.1)⟩)) (qj_ (hB_ HB))); replace HO_5 := Zq_.mk (Kd.N_elder' (vX_ HO_5) (by first | exact Kd.N_base ho0 | exact Kd.S_base ho0) hb); replace HB := Zq_.mk (ql_ (hB_ HB) hb); (try clear hb); (try clear ho0)))
    go_ret
    exact ⟨_, by first | rfl | (simp [errW_none, errW_some] <;> rfl) | (simp [*, errW_none, errW_some] <;> rfl), by (with_reducible repeat (first | apply Kd.vc_ | apply Kd.vb_ | apply Kd.N_drew)); exact Kd.N_mono HO108.out (fun _ hk => hk.1), hB_ HB⟩
end Go.Proofs.Ytgipbmjkgciccaa.P

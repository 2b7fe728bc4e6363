/- What this function of the program comes to, and that the machine's call does it. No condition. -/
import Derived.Test.YtgipbmjkgciccaaP0
import Derived.Test.YtgipbmjkgciccaaHw
namespace Go.Proofs.Ytgipbmjkgciccaa.P
set_option maxHeartbeats 8000000
set_option maxRecDepth 100000
open Go.RowKit Go.Proofs.YtgipbmjkgciccaaW.PrintWords Go.Proofs.YtgipbmjkgciccaaW.PrintLast Go.Proofs.YtgipbmjkgciccaaW.PrintMore
attribute [local go_sem] max2_int min2_int max_two min_two max_three min_three max_four min_four Go.Proofs.YtgipbmjkgciccaaW.Hw.string_gtr
set_option linter.unusedVariables false
set_option linter.unusedSimpArgs false
def ref04_Above.l0 : Nat → List (S58) → Int → List (S58) → Int → Option ((List (S58)))
 | 0, _, _, _, _ => none
 | k + 1, x0, x1, x5, x6 => if x6 < (x0.length : Int) then (if 0 ≤ x6 then (if ((rd_T58 x0 x6).f1) > x1 then (if x5.length < 4398046511104 then (ref04_Above.l0 k x0 x1 (x5 ++ [(⟨(rd_T58 x0 x6).f0, (rd_T58 x0 x6).f1, (rd_T58 x0 x6).f2⟩ : S58)]) (wrap64 (x6 + 1))) else (none)) else (ref04_Above.l0 k x0 x1 x5 (wrap64 (x6 + 1)))) else (none)) else (some x5)
def ref04_Above.f (k : Nat) (l0 : List (S58)) (a1 : Int) : Option ((List (S58))) := ref04_Above.l0 k l0 a1 ([] : List (S58)) 0
theorem ref04_Above.mono_l : ∀ k, (∀ y0 y1 y2 y3, LeO (ref04_Above.l0 k y0 y1 y2 y3) (ref04_Above.l0 (k + 1) y0 y1 y2 y3))
 | 0 => fun _ _ _ _ r h => by simp [ref04_Above.l0] at h
 | k + 1 => by
  have ih0 := ref04_Above.mono_l k
  ·intro y0 y1 y2 y3
   unfold ref04_Above.l0
   repeat' first
   | (with_reducible exact ih0 _ _ _ _)
   | (with_reducible exact LeO.refl _)
   | (with_reducible exact LeO.none _)
   | (with_reducible refine LeO.ite ?_ ?_)
   | (with_reducible refine LeO.bind ?_ (fun _ => ?_))
   | exact ih0 _ _ _ _
   | exact LeO.none _
   | refine LeO.ite ?_ ?_
   | refine LeO.bind ?_ (fun _ => ?_)
theorem ref04_Above.mono : ∀ a0 a1 k, LeO (ref04_Above.f k a0 a1) (ref04_Above.f (k + 1) a0 a1) := by
 intro a0 a1 k; have ih0 := ref04_Above.mono_l k
 unfold ref04_Above.f
 repeat' first
   | (with_reducible exact ih0 _ _ _ _)
   | (with_reducible exact LeO.refl _)
   | (with_reducible exact LeO.none _)
   | (with_reducible refine LeO.ite ?_ ?_)
   | (with_reducible refine LeO.bind ?_ (fun _ => ?_))
   | exact ih0 _ _ _ _
   | exact LeO.none _
   | refine LeO.ite ?_ ?_
   | refine LeO.bind ?_ (fun _ => ?_)
theorem ref04_Above.calls (k : Nat) (A0 : Option Addr) (c0 : Nat) (l0 : List (S58)) (a1 : Int) (r : List (S58)) (w : World) (hr0 : Kd.C k58 w A0 l0.length l0) (hc0 : l0.length ≤ c0) (h : ref04_Above.f k l0 a1 = some r) :
  Calls Try.prog 60 #[.slice A0 l0.length c0, .int .i64 a1] w fun e w' => ∃ v0_ : Value, e = .returned (v0_) ∧ Kd.R k58 58 w' w.heap.size (fun _ => True) v0_ r ∧ Below w.heap.size w w' := by
 have hu58 := Try.underlying58; have HR0 := Zq_.mk hr0; have HC0 := Zq_.mk hc0; clear hr0 hc0; have HB := Zq_.mk (Below.refl w.heap.size w); have H : (ref04_Above.l0 k l0 a1 ([] : List (S58)) 0) = some r := h; clear h; have H' := Zq_.mk H; clear H
 go_enter Try.func60, Try.ntmps60
 go_wp2
 go_loopg [5, 6] k (fun kq v5 v6 w' => ∃ (x5_1 : List (S58)) (x6_1 : Int), v6 = .int .i64 x6_1 ∧ Zq_ (ref04_Above.l0 kq l0 a1 x5_1 x6_1 = some r) ∧ Zq_ (kq ≤ k) ∧ Zq_ (Kd.R k58 58 w' w.heap.size (fun _ => True) v5 x5_1) ∧ Zq_ (Below w.heap.size w w'))
 case atStart => exact ⟨(([] : List (S58))), (0), (by first | rfl | (simp; done) | (simp [*]; done)), H', ⟨Nat.le_refl _⟩, ⟨by first | exact Kd.R_nil _ _ _ _ _ | exact Kd.N_nil _ _ _ _ _ | exact Kd.V_nil _ _ _ _ _ | exact Kd.Q_nil _ _ _ _ _ | exact Kd.S_nil _ _ _ _ _⟩, ⟨hB_ HB⟩⟩
 case round =>
  clear H'
  try clear p2
  obtain ⟨x5_1, x6_1, rfl, HA, HK1, HO_5, HB⟩ := hrel
  cases gk with
  | zero => exact absurd HA.out (by simp [ref04_Above.l0])
  | succ k1 =>
   have H := HA.out; clear HA; simp only [ref04_Above.l0] at H
   by_cases c3 : x6_1 < (l0.length : Int)
   ·rw [if_pos c3] at H; have c3b0 : decide (x6_1 < (l0.length : Int)) = true := decide_eq_true c3; clear c3
    by_cases c4 : 0 ≤ x6_1
    ·rw [if_pos c4] at H; have c4b0 : decide (0 ≤ x6_1) = true := decide_eq_true c4; clear c4
     by_cases c5 : ((rd_T58 l0 x6_1).f1) > a1
     ·rw [if_pos c5] at H; have c5b0 : decide (a1 < ((rd_T58 l0 x6_1).f1)) = true := decide_eq_true c5; clear c5
      by_cases c6 : x5_1.length < 4398046511104
      ·rw [if_pos c6] at H; have LMc6 := Zq_.mk c6; clear c6; obtain ⟨y103, hy103⟩ : ∃ y_ : List (S58), y_ = (x5_1 ++ [(⟨(rd_T58 l0 x6_1).f0, (rd_T58 l0 x6_1).f1, (rd_T58 l0 x6_1).f2⟩ : S58)]) := ⟨_, rfl⟩
       replace H : (ref04_Above.l0 k1 l0 a1 y103 (wrap64 (x6_1 + 1))) = some r := by first | (rw [hy103]; with_reducible exact H) | (have H2_ := (Option.bind_some _ _).symm.trans H; rw [hy103]; with_reducible exact H2_) | (have H2_ := (Option.bind_some _ _).symm.trans H; with_reducible exact H2_) | with_reducible exact H | (rw [hy103]; exact H) | exact H
       have Ny103 := Zq_.mk hy103; clear hy103; have H' := Zq_.mk H; clear H; have p101 : 0 ≤ (x6_1 : Int) := dA_; have q101 : x6_1 < (l0.length : Int) := dA_; obtain ⟨ad101, e101, hx101_0, hx101_1, hx101_2⟩ := at_T58 HR0.out x6_1 p101 q101; cases e101; replace hx101_0 := hC_ HB hx101_0; replace hx101_1 := hC_ HB hx101_1; replace hx101_2 := hC_ HB hx101_2; replace p101 := eq_true p101; replace q101 := eq_true q101; have p102 : 0 ≤ (x6_1 : Int) := dA_; have q102 : x6_1 < (l0.length : Int) := dA_; obtain ⟨ad102, e102, hx102_0, hx102_1, hx102_2⟩ := at_T58 HR0.out x6_1 p102 q102; obtain rfl : ad101 = ad102 := (by injection e102); replace hx102_0 := hC_ HB hx102_0; replace hx102_1 := hC_ HB hx102_1; replace hx102_2 := hC_ HB hx102_2; replace p102 := eq_true p102; replace q102 := eq_true q102
       go_wp2_with (first | ((with_reducible refine gate_builtin (b := .append) (xs := #[.tmp 20, .tmp 25]) rfl ?_); at_builtin; refine Kd.R_append k58 (w0 := w) w.heap.size rfl (.tmp 20) (.tmp 25) 33 58 (.agg #[(.int .i64 0), (.int .i64 0), (.string ⟨#[]⟩)]) 32 rfl Try.underlying33 info58 rfl (by decide) (by omega) u5 x5_1 (⟨(rd_T58 l0 x6_1).f0, (rd_T58 l0 x6_1).f1, (rd_T58 l0 x6_1).f2⟩ : S58) [.int .i64 ((rd_T58 l0 x6_1).f0), .int .i64 ((rd_T58 l0 x6_1).f1), .string ((rd_T58 l0 x6_1).f2)] (fun _ => True) (fun _ => False) rfl rfl ?aP (fun _ hk => hk.elim) ?aF ?aO ?aB ?aS ?aL ?_; (case aP => exact k58_mkM _ _ _ (⟨(rd_T58 l0 x6_1).f0, (rd_T58 l0 x6_1).f1, (rd_T58 l0 x6_1).f2⟩ : S58)); (case aB => exact (hB_ HB)); (case aF => exact (fun _ _ => trivial)); (case aO => exact (vX_ HO_5)); (case aS => exact (qj_ (hB_ HB))); (case aL => have := LMc6.out; omega); intro v104 w7 ho hb hg hat; rw [← Ny103.out] at ho; replace HB := Zq_.mk (hb); have HO105 := Zq_.mk (ho); clear HO_5; clear ho hb hg hat))
       go_roundg k1
       case measure => have := HK1.out; omega
       case rel => exact ⟨(y103), (wrap64 (x6_1 + 1)), (by first | rfl | (simp; done) | (simp [*]; done)), H', ⟨by have := HK1.out; omega⟩, ⟨by (with_reducible repeat (first | apply Kd.qu_ | apply Kd.qt_ | apply Kd.R_drew)); exact HO105.out⟩, ⟨hB_ HB⟩⟩
      ·rw [if_neg c6] at H; exact absurd H (by simp)
     ·rw [if_neg c5] at H; have c5b0 : decide (a1 < ((rd_T58 l0 x6_1).f1)) = false := decide_eq_false c5; clear c5; have H' := Zq_.mk H; clear H; have p101 : 0 ≤ (x6_1 : Int) := dA_; have q101 : x6_1 < (l0.length : Int) := dA_; obtain ⟨ad101, e101, hx101_0, hx101_1, hx101_2⟩ := at_T58 HR0.out x6_1 p101 q101; cases e101; replace hx101_0 := hC_ HB hx101_0; replace hx101_1 := hC_ HB hx101_1; replace hx101_2 := hC_ HB hx101_2; replace p101 := eq_true p101; replace q101 := eq_true q101
      go_wp2
      go_roundg k1
      case measure => have := HK1.out; omega
      case rel => exact ⟨(x5_1), (wrap64 (x6_1 + 1)), (by first | rfl | (simp; done) | (simp [*]; done)), H', ⟨by have := HK1.out; omega⟩, ⟨by (with_reducible repeat (first | apply Kd.qu_ | apply Kd.qt_ | apply Kd.R_drew)); exact HO_5.out⟩, ⟨hB_ HB⟩⟩
    ·rw [if_neg c4] at H; exact absurd H (by simp)
   ·rw [if_neg c3] at H; have c3b0 : decide (x6_1 < (l0.length : Int)) = false := decide_eq_false c3; clear c3; obtain rfl := Option.some.inj H
    go_wp2
    go_ret
    exact ⟨_, by first | rfl | (simp [errW_none, errW_some] <;> rfl) | (simp [*, errW_none, errW_some] <;> rfl), by (with_reducible repeat (first | apply Kd.qu_ | apply Kd.qt_ | apply Kd.R_drew)); exact HO_5.out, hB_ HB⟩
def ref05_Above.f (k : Nat) (a0_0 : Int) (a0_1 : Int) (l0_2 : List (S58)) (a1 : Int) : Option (Int × Int × (List (S58))) := (ref04_Above.f k l0_2 a1).bind fun t103 => (some (a0_0, a0_1, t103))
theorem ref05_Above.mono : ∀ a0 a1 a2 a3 k, LeO (ref05_Above.f k a0 a1 a2 a3) (ref05_Above.f (k + 1) a0 a1 a2 a3) := by
 intro a0 a1 a2 a3 k
 unfold ref05_Above.f
 repeat' first
   | (with_reducible exact ref04_Above.mono _ _ _)
   | (with_reducible exact LeO.refl _)
   | (with_reducible exact LeO.none _)
   | (with_reducible refine LeO.ite ?_ ?_)
   | (with_reducible refine LeO.bind ?_ (fun _ => ?_))
   | exact ref04_Above.mono _ _ _
   | exact LeO.none _
   | refine LeO.ite ?_ ?_
   | refine LeO.bind ?_ (fun _ => ?_)
theorem ref05_Above.calls (k : Nat) (a0_0 : Int) (a0_1 : Int) (A0_2 : Option Addr) (c0_2 : Nat) (l0_2 : List (S58)) (a1 : Int) (r1 : Int) (r2 : Int) (r3 : List (S58)) (w : World) (hr0_2 : Kd.C k58 w A0_2 l0_2.length l0_2) (hc0_2 : l0_2.length ≤ c0_2) (h : ref05_Above.f k a0_0 a0_1 l0_2 a1 = some (r1, r2, r3)) :
  Calls Try.prog 39 #[.agg #[.int .i64 a0_0, .int .i64 a0_1, .slice A0_2 l0_2.length c0_2], .int .i64 a1] w fun e w' => ∃ v2_ : Value, e = .returned (.agg #[.int .i64 r1, .int .i64 r2, v2_]) ∧ Kd.R k58 58 w' w.heap.size (fun _ => True) v2_ r3 ∧ Below w.heap.size w w' := by
 have hu35 := Try.underlying35; have HR0_2 := Zq_.mk hr0_2; have HC0_2 := Zq_.mk hc0_2; clear hr0_2 hc0_2; have HB := Zq_.mk (Below.refl w.heap.size w); have H : ((ref04_Above.f k l0_2 a1).bind fun t103 => (some (a0_0, a0_1, t103))) = some (r1, r2, r3) := h; clear h; replace H := ob_ H; obtain ⟨t103, A30, H⟩ := H; replace H : (some (a0_0, a0_1, t103)) = some (r1, r2, r3) := H; have A3 := Zq_.mk A30; clear A30; simp only [Option.some.injEq, Prod.mk.injEq] at H; obtain ⟨rfl, rfl, rfl⟩ := H
 go_enter Try.func39, Try.ntmps39
 go_wp2_with (first | ((with_reducible refine qq_ (N := 2) rfl ?_); refine qo_ ?hg (N := 2) ?hd (cs := #[.int .i64 a0_0, .int .i64 a0_1, .slice A0_2 l0_2.length c0_2]) (t := 35) ?hr ?_; (case hd => rfl); (case hg => rfl); (case hr => first | (go_simp; done) | (go_simp; rfl)); intro gb101 hg w4 hbox hb; have BK101 := Zq_.mk (hbox); have GW101 := gW_ (w := w) hg (hB_ HB); have GE101 := gW_ (w := w) hg (hB_ HB); replace HB := Zq_.mk (ql_ (hB_ HB) hb); clear hb hbox hg) | ((with_reducible refine qq_ (N := 4) rfl ?_); refine qo_ ?hg (N := 4) ?hd (cs := #[.int .i64 0, .int .i64 0, .slice none 0 0]) (t := 35) ?hr ?_; (case hd => rfl); (case hg => rfl); (case hr => first | (go_simp; done) | (go_simp; rfl)); intro gb102 hg w5 hbox hb; have BK102 := Zq_.mk (hbox); have GW102 := gW_ (w := w) hg (by exact hSet_ HB); have GE102 := gW_ (w := w) hg (by exact hSet_ HB); replace HB := Zq_.mk (ql_ (by exact hSet_ HB) hb); have NB101_102 := Zq_.mk ((by rw [hg]; exact Nat.ne_of_lt (blk_lt (g := gb101) (o := .cells #[.int .i64 a0_0, .int .i64 a0_1, .slice A0_2 l0_2.length c0_2] 35 (0, 0)) (by exact bK_ BK101)) : gb101 ≠ gb102)); have NB102_101 := Zq_.mk ((by rw [hg]; exact Nat.ne_of_gt (blk_lt (g := gb101) (o := .cells #[.int .i64 a0_0, .int .i64 a0_1, .slice A0_2 l0_2.length c0_2] 35 (0, 0)) (by exact bK_ BK101)) : gb102 ≠ gb101)); replace BK101 := Zq_.mk (qs_ (g := gb101) (o := .cells #[.int .i64 a0_0, .int .i64 a0_1, .slice A0_2 l0_2.length c0_2] 35 (0, 0)) (by exact bK_ BK101) hb); clear hb hbox hg; have hnb6 := NB101_102.out; have hnc6 := NB102_101.out; have hcz7_0 := cz_ BK101 0 (.int .i64 a0_0); have hcz7_1 := cz_ BK101 1 (.int .i64 a0_1); have hcz7_2 := cz_ BK101 2 (.slice A0_2 l0_2.length c0_2); have hfz7_0 := qe_ BK101.out 0; have hfz7_1 := qe_ BK101.out 1; have hfz7_2 := qe_ BK101.out 2) | ((with_reducible refine va_ (f := 60) rfl ?_); refine goesL_ (some 8) rfl rfl Try.func60 (by kernel_rfl) rfl #[.slice A0_2 l0_2.length c0_2, .int .i64 a1] rfl (by (try simp only [List.map_toArray, List.map_cons, List.map_nil]); first | done | rfl | (simp only [List.length_drop, List.length_take]; rfl)) ?_; (with_reducible refine (ref04_Above.calls k _ _ l0_2 a1 t103 _ ?side1 ?side2 A3.out).mono ?_); (case side1 => exact cX_ (Kd.qz_ HR0_2.out HB.out)); (case side2 => exact HC0_2.out); rintro e w8 ⟨v104, rfl, ho0, hb⟩; refine ⟨_, rfl, ?_⟩; have HO105 := Zq_.mk (Kd.R_lower ho0 (qj_ (by exact hSet_ HB))); replace BK101 := Zq_.mk (qs_ (g := gb101) (o := .cells #[.int .i64 a0_0, .int .i64 a0_1, .slice A0_2 l0_2.length c0_2] 35 (0, 0)) (by exact bK_ BK101) hb); replace BK102 := Zq_.mk (qs_ (g := gb102) (o := .cells #[.int .i64 0, .int .i64 0, .slice none 0 0] 35 (0, 0)) (by exact bK_ BK102) hb); replace HB := Zq_.mk (ql_ (by exact hSet_ HB) hb); (try clear hb); (try clear ho0); obtain ⟨Ao9, co9, eo9⟩ := Kd.R_slice HO105.out; subst eo9; have hcz10_0 := cz_ BK101 0 (.int .i64 a0_0); have hcz10_1 := cz_ BK101 1 (.int .i64 a0_1); have hcz10_2 := cz_ BK101 2 (.slice A0_2 l0_2.length c0_2); have hfz10_0 := qe_ BK101.out 0; have hfz10_1 := qe_ BK101.out 1; have hfz10_2 := qe_ BK101.out 2; have hcz11_0 := cz_ BK102 0 (.int .i64 0); have hcz11_1 := cz_ BK102 1 (.int .i64 0); have hcz11_2 := cz_ BK102 2 (.slice none 0 0); have hfz11_0 := qe_ BK102.out 0; have hfz11_1 := qe_ BK102.out 1; have hfz11_2 := qe_ BK102.out 2))
 refine bodyPost_ret (results_cell_row rfl _ _ gb102 35 #[.int .i64 a0_0, .int .i64 a0_1, .slice Ao9 t103.length co9] (0, 0) _ rfl (by refine bP_ (cs := #[.int .i64 a0_0, .int .i64 a0_1, .slice none 0 0]) 2 ?_; refine bP_ (cs := #[.int .i64 a0_0, .int .i64 0, .slice none 0 0]) 1 ?_; refine bP_ (cs := #[.int .i64 0, .int .i64 0, .slice none 0 0]) 0 ?_; refine bF_ NB102_101 ?_; (with_reducible repeat (first | refine qg_ ?_ _ | refine qi_ ?_ | refine qf_ ?_ _)); exact BK102.out) Try.underlying35 rfl (by kernel_rfl)) rfl ?_; exact ⟨_, by first | rfl | (simp [errW_none, errW_some] <;> rfl) | (simp [*, errW_none, errW_some] <;> rfl), by (with_reducible repeat (first | apply Kd.qu_ | apply Kd.qt_ | apply Kd.R_drew)); exact Kd.R_mono (Kd.R_far (p := ⟨gb102, 2, none⟩) (Kd.R_far (p := ⟨gb102, 1, none⟩) (Kd.R_far (p := ⟨gb102, 0, none⟩) (Kd.R_far (p := ⟨gb101, 2, none⟩) (Kd.R_types (Kd.R_types HO105.out BK101.out (by decide)) BK102.out (by decide)) (fun _ hk => hk.1.2) (.slice Ao9 t103.length co9)) (fun _ hk => hk.2) (.int .i64 a0_0)) (fun _ hk => hk.2) (.int .i64 a0_1)) (fun _ hk => hk.2) (.slice Ao9 t103.length co9)) (fun _ hk => trivial), by exact hSet_ HB⟩
end Go.Proofs.Ytgipbmjkgciccaa.P

/- What this function of the program comes to, and that the machine's call does it: written by a program (wip/tool). No condition. -/
import Derived.Test.YtcmligagkaimeaaP0
import Derived.Test.YtcmligagkaimeaaPRef05Copy
import Derived.Test.YtcmligagkaimeaaPRef06Without
import Derived.Test.YtcmligagkaimeaaHw
namespace Go.Proofs.Ytcmligagkaimeaa.P
open Go.RowKit Go.Proofs.YtcmligagkaimeaaW.PrintWords Go.Proofs.YtcmligagkaimeaaW.PrintLast Go.Proofs.YtcmligagkaimeaaW.PrintMore
attribute [local go_sem] max2_int min2_int max_two min_two max_three min_three max_four min_four   -- for this text's walks alone
set_option linter.unusedVariables false
set_option linter.unusedSimpArgs false
/-! ### ref06_Put: function 17 -/
def ref06_Put.l0 : Nat → Int → List (S35) → Bool → List (S35) → Int → Int → Int → List (S55) → Option ((List (S35)))
 | 0, _, _, _, _, _, _, _, _ => none
 | k + 1, x1, x7, x8, x9, x10, x102000, x102001, x102002 => if x10 < (x9.length : Int) then (if x8 = true then (if 0 ≤ x10 then (if x7.length < 2932031007402 then (ref06_Put.l0 k x1 (x7 ++ [(⟨(rd_T35 x9 x10).f0, (⟨(rd_T35 x9 x10).f1.f0, (rd_T35 x9 x10).f1.f1, (rd_T35 x9 x10).f1.f2⟩ : S33)⟩ : S35)]) x8 x9 (wrap64 (x10 + 1)) x102000 x102001 x102002) else (none)) else (none)) else (if 0 ≤ x10 then (if ((rd_T35 x9 x10).f0) > x1 then ((ref05_Copy.f x102000 x102001 x102002).bind fun bt110 => (if x7.length < 2932031007402 then ((some (x7 ++ [(⟨x1, (⟨bt110.1, bt110.2.1, bt110.2.2⟩ : S33)⟩ : S35)] : List (S35))).bind fun y115 => (if y115.length < 2932031007402 then (ref06_Put.l0 k x1 (y115 ++ [(⟨(rd_T35 x9 x10).f0, (⟨(rd_T35 x9 x10).f1.f0, (rd_T35 x9 x10).f1.f1, (rd_T35 x9 x10).f1.f2⟩ : S33)⟩ : S35)]) true x9 (wrap64 (x10 + 1)) x102000 x102001 x102002) else (none))) else (none))) else (if x7.length < 2932031007402 then (ref06_Put.l0 k x1 (x7 ++ [(⟨(rd_T35 x9 x10).f0, (⟨(rd_T35 x9 x10).f1.f0, (rd_T35 x9 x10).f1.f1, (rd_T35 x9 x10).f1.f2⟩ : S33)⟩ : S35)]) x8 x9 (wrap64 (x10 + 1)) x102000 x102001 x102002) else (none))) else (none))) else (if x8 = true then (some x7) else ((ref05_Copy.f x102000 x102001 x102002).bind fun bt126 => (if x7.length < 2932031007402 then (some (x7 ++ [(⟨x1, (⟨bt126.1, bt126.2.1, bt126.2.2⟩ : S33)⟩ : S35)])) else (none))))
def ref06_Put.f (k : Nat) (l0 : List (S35)) (a1 : Int) (a2_0 : Int) (a2_1 : Int) (l2_2 : List (S55)) : Option ((List (S35))) := (ref06_Without.f k l0 a1).bind fun t102 => (ref06_Put.l0 k a1 ([] : List (S35)) false t102 0 a2_0 a2_1 l2_2)
theorem ref06_Put.mono_l : ∀ k, (∀ y0 y1 y2 y3 y4 y5 y6 y7, LeO (ref06_Put.l0 k y0 y1 y2 y3 y4 y5 y6 y7) (ref06_Put.l0 (k + 1) y0 y1 y2 y3 y4 y5 y6 y7))
 | 0 => fun _ _ _ _ _ _ _ _ r h => by simp [ref06_Put.l0] at h
 | k + 1 => by
  have ih0 := ref06_Put.mono_l k
  ·intro y0 y1 y2 y3 y4 y5 y6 y7
   unfold ref06_Put.l0
   repeat' first
   | (with_reducible exact ih0 _ _ _ _ _ _ _ _)
   | (with_reducible exact ref06_Without.mono _ _ _)
   | (with_reducible exact LeO.refl _)
   | (with_reducible exact LeO.none _)
   | (with_reducible refine LeO.ite ?_ ?_)
   | (with_reducible refine LeO.bind ?_ (fun _ => ?_))
   | exact ih0 _ _ _ _ _ _ _ _
   | exact ref06_Without.mono _ _ _
   | exact LeO.none _
   | refine LeO.ite ?_ ?_
   | refine LeO.bind ?_ (fun _ => ?_)
theorem ref06_Put.mono : ∀ a0 a1 a2 a3 a4 k, LeO (ref06_Put.f k a0 a1 a2 a3 a4) (ref06_Put.f (k + 1) a0 a1 a2 a3 a4) := by
 intro a0 a1 a2 a3 a4 k
 have ih0 := ref06_Put.mono_l k
 unfold ref06_Put.f
 repeat' first
   | (with_reducible exact ih0 _ _ _ _ _ _ _ _)
   | (with_reducible exact ref06_Without.mono _ _ _)
   | (with_reducible exact LeO.refl _)
   | (with_reducible exact LeO.none _)
   | (with_reducible refine LeO.ite ?_ ?_)
   | (with_reducible refine LeO.bind ?_ (fun _ => ?_))
   | exact ih0 _ _ _ _ _ _ _ _
   | exact ref06_Without.mono _ _ _
   | exact LeO.none _
   | refine LeO.ite ?_ ?_
   | refine LeO.bind ?_ (fun _ => ?_)
set_option maxHeartbeats 8000000 in
set_option maxRecDepth 100000 in
theorem ref06_Put.calls (k : Nat) (P0_ : Nat → Prop) (A0 : Option Addr) (c0 : Nat) (l0 : List (S35)) (a1 : Int) (a2_0 : Int) (a2_1 : Int) (A2_2 : Option Addr) (c2_2 : Nat) (l2_2 : List (S55)) (r : List (S35)) (w : World) (hs0 : Kd.V k35 35 w w.heap.size (fun k_ => P0_ k_) (.slice A0 l0.length c0) l0) (hr2_2 : Kd.C k55 w A2_2 l2_2.length l2_2) (hc2_2 : l2_2.length ≤ c2_2) (h : ref06_Put.f k l0 a1 a2_0 a2_1 l2_2 = some r) :
  Calls Try.prog 17 #[.slice A0 l0.length c0, .int .i64 a1, .agg #[.int .i64 a2_0, .int .i64 a2_1, .slice A2_2 l2_2.length c2_2]] w fun e w' => ∃ v0_ : Value, e = .returned (v0_) ∧ Kd.N k35 35 w' w.heap.size (fun k_ => (P0_ k_ ∨ w.heap.size ≤ k_)) v0_ r ∧ Below w.heap.size w w' := by
 have hu33 := Try.underlying33
 have hu35 := Try.underlying35
 have HO0 := Aside0.mk (show Kd.V k35 35 w w.heap.size (fun k_ => (P0_ k_ ∨ w.heap.size ≤ k_)) (.slice A0 l0.length c0) l0 from Kd.V_mono hs0 (fun k_ hk => .inl hk))
 have HR2_2 := Aside0.mk hr2_2
 have HC2_2 := Aside0.mk hc2_2
 clear hr2_2 hc2_2
 have HB := Aside0.mk (Below.refl w.heap.size w)
 have H : ((ref06_Without.f k l0 a1).bind fun t102 => (ref06_Put.l0 k a1 ([] : List (S35)) false t102 0 a2_0 a2_1 l2_2)) = some r := h
 clear h
 replace H := ob_ H
 obtain ⟨t102, A40, H⟩ := H
 replace H : (ref06_Put.l0 k a1 ([] : List (S35)) false t102 0 a2_0 a2_1 l2_2) = some r := H
 have A4 := Aside0.mk A40
 clear A40
 have H' := Aside0.mk H
 clear H
 go_enter Try.func17, Try.ntmps17
 go_wp2_with (first | ((with_reducible refine qv_ (N := 5) rfl ?_); refine qs_ ?hg (N := 5) ?hd (cs := #[.int .i64 a2_0, .int .i64 a2_1, .slice A2_2 l2_2.length c2_2]) (t := 33) ?hr ?_; (case hd => rfl); (case hg => rfl); (case hr => first | (go_simp; done) | (go_simp; rfl)); intro gb101 hg w5 hbox hb; have n0_ := Aside0.mk (Kd.V_below (Kd.V_elderB (by (with_reducible repeat (first | apply Kd.V_alloc | apply Kd.V_drewN | apply Kd.V_drew)); exact HO0.out) gb101 (Nat.le_of_eq hg.symm)) hb); have n1_ := Aside0.mk (qi_ (by repeat (first | (with_reducible first | exact HB.out | apply qc_ | apply qa_ | apply qb_) | exact HB.out)) hb); have n2_ := Aside0.mk (hbox); have n3_ := Aside0.mk ((by rw [hg]; exact (qg_ (by repeat (first | (with_reducible first | exact HB.out | apply qc_ | apply qa_ | apply qb_) | exact HB.out))) : w.heap.size ≤ gb101)); have n4_ := Aside0.mk ((by rw [hg]; exact (qg_ (by repeat (first | (with_reducible first | exact HB.out | apply qc_ | apply qa_ | apply qb_) | exact HB.out))) : w.heap.size ≤ gb101)); clear HO0; clear HB; have HO0 := n0_; have HB := n1_; have BK101 := n2_; have GW101 := n3_; have GE101 := n4_; clear n0_ n1_ n2_ n3_ n4_; clear hb hbox hg) | ((with_reducible refine qm_ (f := 26) rfl ?_); refine goesL_ (some 13) rfl rfl Try.func26 (by kernel_rfl) rfl #[.slice A0 l0.length c0, .int .i64 a1] rfl (by (try simp only [List.map_toArray, List.map_cons, List.map_nil]); first | done | rfl | (simp only [List.length_drop, List.length_take]; rfl)) ?_; (with_reducible refine (ref06_Without.calls k (fun k_ => ((P0_ k_ ∨ w.heap.size ≤ k_) ∧ k_ ≠ gb101)) _ _ l0 a1 t102 _ ?side1 A4.out).mono ?_); (case side1 => exact HO0.out); rintro e w6 ⟨v103, rfl, ho0, hb⟩; refine ⟨_, rfl, ?_⟩; have n0_ := Aside0.mk (Kd.V_elder' (by (with_reducible repeat (first | apply Kd.V_alloc | apply Kd.V_drewN | apply Kd.V_drew)); exact HO0.out) (by first | exact Kd.N_base ho0 | exact Kd.S_base ho0) hb); have n1_ := Aside0.mk (Kd.N_lower (Kd.N_mono (ok' := fun k_ => (P0_ k_ ∨ w.heap.size ≤ k_) ∧ k_ ≠ gb101) ho0 (fun k_ hk_ => ⟨Or.elim hk_ (fun hs_ => hs_.1) (fun hn_ => (.inr (Nat.le_trans (qg_ (by repeat (first | (with_reducible first | exact HB.out | apply qc_ | apply qa_ | apply qb_ | refine qk_ ?_ GE101.out) | exact HB.out))) hn_))), Or.elim hk_ (fun hs_ => hs_.2) (fun hn_ => (Kd.freshB (g := gb101) (o := .cells #[.int .i64 a2_0, .int .i64 a2_1, .slice A2_2 l2_2.length c2_2] 33 (0, 0)) (by (with_reducible repeat (first | refine qn_ ?_ _ | refine qq_ ?_ | refine ql_ ?_ _)); exact BK101.out) k_ hn_))⟩)) (qg_ (by repeat (first | (with_reducible first | exact HB.out | apply qc_ | apply qa_ | apply qb_ | refine qk_ ?_ GE101.out) | exact HB.out)))); have n2_ := Aside0.mk (blk_below (g := gb101) (o := .cells #[.int .i64 a2_0, .int .i64 a2_1, .slice A2_2 l2_2.length c2_2] 33 (0, 0)) (by (with_reducible repeat (first | refine qn_ ?_ _ | refine qq_ ?_ | refine ql_ ?_ _)); exact BK101.out) hb); have n3_ := Aside0.mk (qi_ (by repeat (first | (with_reducible first | exact HB.out | apply qc_ | apply qa_ | apply qb_ | refine qk_ ?_ GE101.out) | exact HB.out)) hb); clear HO0; clear BK101; clear HB; have HO0 := n0_; have HO104 := n1_; have BK101 := n2_; have HB := n3_; clear n0_ n1_ n2_ n3_; (try clear hb); (try clear hb2); (try clear hk); (try clear hi); (try clear ho0)))
 go_loopg [7, 8, 10] k (fun kq v7 v8 v10 w' => ∃ (x7_1 : List (S35)) (x8_1 : Bool) (x10_1 : Int), v8 = .bool x8_1 ∧ v10 = .int .i64 x10_1 ∧ Aside0 (ref06_Put.l0 kq a1 x7_1 x8_1 t102 x10_1 a2_0 a2_1 l2_2 = some r) ∧ Aside0 (kq ≤ k) ∧ Aside0 (Kd.N k35 35 w' w.heap.size (fun k_ => (P0_ k_ ∨ w.heap.size ≤ k_) ∧ some k_ ≠ (v103 : Value).ownBlock ∧ k_ ≠ gb101) v7 x7_1) ∧ Aside0 (Kd.N k35 35 w' w.heap.size (fun k_ => (P0_ k_ ∨ w.heap.size ≤ k_) ∧ some k_ ≠ (v7 : Value).ownBlock ∧ k_ ≠ gb101) v103 t102) ∧ Aside0 (w'.heap[gb101]? = some (.cells #[.int .i64 a2_0, .int .i64 a2_1, (.slice A2_2 l2_2.length c2_2)] 33 (0, 0))) ∧ Aside0 (Below w.heap.size w w'))
 case atStart => exact ⟨(([] : List (S35))), (false), (0), (by first | rfl | (simp; done) | (simp [*]; done)), (by first | rfl | (simp; done) | (simp [*]; done)), H', ⟨Nat.le_refl _⟩, ⟨by first | exact Kd.S_nil _ _ _ _ _ | exact Kd.N_nil _ _ _ _ _ | exact Kd.V_nil _ _ _ _ _ | exact Kd.Q_nil _ _ _ _ _ | exact Kd.R_nil _ _ _ _ _⟩, ⟨by (with_reducible repeat (first | apply Kd.N_alloc | apply Kd.N_drewN | apply Kd.N_drew)); exact Kd.N_mono HO104.out (fun _ hk => ⟨hk.1, ⟨(by simp [Value.ownBlock]), hk.2⟩⟩)⟩, ⟨by (with_reducible repeat (first | refine qn_ ?_ _ | refine qq_ ?_ | refine ql_ ?_ _)); exact BK101.out⟩, ⟨by repeat (first | (with_reducible first | exact HB.out | apply qc_ | apply qa_ | apply qb_ | refine qk_ ?_ GE101.out) | exact HB.out)⟩⟩
 case round =>
  clear H'
  try clear c1
  try clear c2
  try clear p2
  obtain ⟨x7_1, x8_1, x10_1, rfl, rfl, HA, HK1, HO_7, HO_9, BK101, HB⟩ := hrel
  cases gk with
  | zero => exact absurd HA.out (by simp [ref06_Put.l0])
  | succ k1 =>
   have H := HA.out
   clear HA
   simp only [ref06_Put.l0] at H
   by_cases c7 : x10_1 < (t102.length : Int)
   ·rw [if_pos c7] at H
    have c7b0 : decide (x10_1 < (t102.length : Int)) = true := decide_eq_true c7
    clear c7
    by_cases c8 : x8_1 = true
    ·subst c8
     have H1 : (if 0 ≤ x10_1 then (if x7_1.length < 2932031007402 then (ref06_Put.l0 k1 a1 (x7_1 ++ [(⟨(rd_T35 t102 x10_1).f0, (⟨(rd_T35 t102 x10_1).f1.f0, (rd_T35 t102 x10_1).f1.f1, (rd_T35 t102 x10_1).f1.f2⟩ : S33)⟩ : S35)]) true t102 (wrap64 (x10_1 + 1)) a2_0 a2_1 l2_2) else (none)) else (none)) = some r := by rw [if_pos rfl] at H; exact H
     clear H
     have H := H1
     clear H1
     by_cases c9 : 0 ≤ x10_1
     ·rw [if_pos c9] at H
      have c9b0 : decide (0 ≤ x10_1) = true := decide_eq_true c9
      clear c9
      by_cases c10 : x7_1.length < 2932031007402
      ·rw [if_pos c10] at H
       have LMc10 := Aside0.mk c10
       clear c10
       obtain ⟨y106, hy106⟩ : ∃ y_ : List (S35), y_ = (x7_1 ++ [(⟨(rd_T35 t102 x10_1).f0, (⟨(rd_T35 t102 x10_1).f1.f0, (rd_T35 t102 x10_1).f1.f1, (rd_T35 t102 x10_1).f1.f2⟩ : S33)⟩ : S35)]) := ⟨_, rfl⟩
       replace H : (ref06_Put.l0 k1 a1 y106 true t102 (wrap64 (x10_1 + 1)) a2_0 a2_1 l2_2) = some r := by first | (rw [hy106]; with_reducible exact H) | (have H2_ := (Option.bind_some _ _).symm.trans H; rw [hy106]; with_reducible exact H2_) | (have H2_ := (Option.bind_some _ _).symm.trans H; with_reducible exact H2_) | with_reducible exact H | (rw [hy106]; exact H) | exact H
       have Ny106 := Aside0.mk hy106
       clear hy106
       have H' := Aside0.mk H
       clear H
       obtain ⟨Ao11, co11, eo11⟩ := Kd.N_slice HO_9.out
       subst eo11
       have p105 : 0 ≤ (x10_1 : Int) := of_decide_eq_true (by first | (with_reducible assumption) | assumption)
       have q105 : x10_1 < (t102.length : Int) := of_decide_eq_true (by first | (with_reducible assumption) | assumption)
       obtain ⟨ad105, A105_3, c105_3, e105, hx105_0, hx105_1, hx105_2, hx105_3, hl105_3, hi105_3⟩ := at_T35 (Kd.N_reads' HO_9.out).2.2 x10_1 p105 q105
       cases e105
       obtain ⟨ce105, hce105, hMe105, hcc105⟩ := Kd.N_get HO_9.out z35 x10_1 p105 (by first | exact q105 | exact of_decide_eq_true (by first | (with_reducible assumption) | assumption) | (have e_ := (Kd.N_reads' HO_9.out).1; omega))
       obtain ⟨ua105_3, uc105_3, rfl, ul105_3, ge105_3⟩ := k35_openF hMe105
       have hv105_3 := hcc105 3 _ rfl
       rw [add_field _ _ 3 (by omega)] at hv105_3
       replace hv105_3 := Option.some.inj (hv105_3.symm.trans hx105_3)
       injection hv105_3 with hva_ hvn_ hvc_
       rw [hva_] at ge105_3
       rw [hvc_] at ul105_3
       have HL105_3 := Aside0.mk (show Kd.V k55 55 _ w.heap.size _ _ ((rd_T35 t102 x10_1).f1.f2) from Kd.V_mk ul105_3 ge105_3)
       clear hva_ hvn_ hvc_ ge105_3 ul105_3
       clear hcc105 hce105
       have HR105_3 := Aside0.mk hi105_3
       have HC105_3 := Aside0.mk hl105_3
       clear hi105_3 hl105_3
       replace p105 := eq_true p105
       replace q105 := eq_true q105
       go_wp2_with (first | ((with_reducible refine gate_builtin (b := .append) (xs := #[.tmp 38, .tmp 43]) rfl ?_); at_builtin; refine Kd.N_append k35 (w0 := w) w.heap.size rfl (.tmp 38) (.tmp 43) 22 35 (.agg #[(.int .i64 0), (.int .i64 0), (.int .i64 0), (.slice none 0 0)]) 48 rfl Try.underlying22 info35 rfl (by decide) (by omega) u7 x7_1 (⟨(rd_T35 t102 x10_1).f0, (⟨(rd_T35 t102 x10_1).f1.f0, (rd_T35 t102 x10_1).f1.f1, (rd_T35 t102 x10_1).f1.f2⟩ : S33)⟩ : S35) [.int .i64 ((rd_T35 t102 x10_1).f0), .int .i64 ((rd_T35 t102 x10_1).f1.f0), .int .i64 ((rd_T35 t102 x10_1).f1.f1), .slice A105_3 ((rd_T35 t102 x10_1).f1.f2).length c105_3] (fun k_ => (P0_ k_ ∨ w.heap.size ≤ k_) ∧ some k_ ≠ (.slice (some ad105) t102.length co11 : Value).ownBlock ∧ k_ ≠ gb101) (fun k_ => ((fun k_ => (P0_ k_ ∨ w.heap.size ≤ k_) ∧ some k_ ≠ (.slice (some ad105) t102.length co11 : Value).ownBlock ∧ k_ ≠ gb101)) k_ ∧ some k_ ≠ (u7 : Value).ownBlock) rfl rfl ?aP (fun _ hk => hk) ?aF ?aO ?aB ?aS ?aL ?_; (case aP => exact (k35_mkF _ _ (⟨(rd_T35 t102 x10_1).f0, (⟨(rd_T35 t102 x10_1).f1.f0, (rd_T35 t102 x10_1).f1.f1, (rd_T35 t102 x10_1).f1.f2⟩ : S33)⟩ : S35) (Kd.V_reads' (Kd.V_mono (ok' := (fun k_ => ((fun k_ => (P0_ k_ ∨ w.heap.size ≤ k_) ∧ some k_ ≠ (.slice (some ad105) t102.length co11 : Value).ownBlock ∧ k_ ≠ gb101)) k_ ∧ some k_ ≠ (u7 : Value).ownBlock)) (HL105_3.out) (fun k_ hk => ⟨⟨hk.1.1, ⟨hk.2, hk.1.2.2⟩⟩, hk.1.2.1⟩))).2.1 (Kd.V_F (Kd.V_mono (ok' := (fun k_ => ((fun k_ => (P0_ k_ ∨ w.heap.size ≤ k_) ∧ some k_ ≠ (.slice (some ad105) t102.length co11 : Value).ownBlock ∧ k_ ≠ gb101)) k_ ∧ some k_ ≠ (u7 : Value).ownBlock)) (HL105_3.out) (fun k_ hk => ⟨⟨hk.1.1, ⟨hk.2, hk.1.2.2⟩⟩, hk.1.2.1⟩))))); (case aB => exact (by repeat (first | (with_reducible first | exact HB.out | apply qc_ | apply qa_ | apply qb_ | refine qk_ ?_ GE101.out) | exact HB.out))); (case aF => exact (fun k_ hk => ⟨(.inr (Nat.le_trans (qg_ (by repeat (first | (with_reducible first | exact HB.out | apply qc_ | apply qa_ | apply qb_ | refine qk_ ?_ GE101.out) | exact HB.out))) hk)), Kd.fresh' (Kd.N_lt (by (with_reducible repeat (first | apply Kd.N_alloc | apply Kd.N_drewN | apply Kd.N_drew)); exact HO_9.out)) k_ hk, Kd.freshB (g := gb101) (o := .cells #[.int .i64 a2_0, .int .i64 a2_1, .slice A2_2 l2_2.length c2_2] 33 (0, 0)) (by (with_reducible repeat (first | refine qn_ ?_ _ | refine qq_ ?_ | refine ql_ ?_ _)); exact BK101.out) k_ hk⟩)); (case aO => exact (by (with_reducible repeat (first | apply Kd.N_alloc | apply Kd.N_drewN | apply Kd.N_drew)); exact HO_7.out)); (case aS => exact (qg_ (by repeat (first | (with_reducible first | exact HB.out | apply qc_ | apply qa_ | apply qb_ | refine qk_ ?_ GE101.out) | exact HB.out)))); (case aL => have := LMc10.out; omega); intro v107 w12 ho hb hg hat; rw [← Ny106.out] at ho; have n0_ := Aside0.mk (Kd.N_afterv (ok := (fun k_ => (P0_ k_ ∨ w.heap.size ≤ k_) ∧ k_ ≠ gb101)) (by (with_reducible repeat (first | apply Kd.N_alloc | apply Kd.N_drewN | apply Kd.N_drew)); exact Kd.N_mono HO_9.out (fun _ hk => ⟨⟨hk.1, hk.2.2⟩, hk.2.1⟩)) hg hat); have n1_ := Aside0.mk (blk_grown (g := gb101) (o := .cells #[.int .i64 a2_0, .int .i64 a2_1, .slice A2_2 l2_2.length c2_2] 33 (0, 0)) (by (with_reducible repeat (first | refine qn_ ?_ _ | refine qq_ ?_ | refine ql_ ?_ _)); exact BK101.out) hg (Kd.N_ne HO_7.out BK101.out (by decide))); have n2_ := Aside0.mk (Kd.V_afterv (ok := (fun k_ => (P0_ k_ ∨ w.heap.size ≤ k_) ∧ some k_ ≠ (.slice (some ad105) t102.length co11 : Value).ownBlock ∧ k_ ≠ gb101)) (by (with_reducible repeat (first | apply Kd.V_alloc | apply Kd.V_drewN | apply Kd.V_drew)); exact Kd.V_mono HL105_3.out (fun _ hk => ⟨⟨hk.1.1, ⟨hk.2, hk.1.2.2⟩⟩, hk.1.2.1⟩)) hg hat); have n3_ := Aside0.mk (hb); have n4_ := Aside0.mk (ho); clear HO_9; clear BK101; clear HL105_3; clear HB; clear HO_7; have HO_9 := n0_; have BK101 := n1_; have HL105_3 := n2_; have HB := n3_; have HO108 := n4_; clear n0_ n1_ n2_ n3_ n4_; clear ho hb hg hat))
       go_roundg k1
       case measure => have := HK1.out; omega
       case rel => exact ⟨(y106), (true), (wrap64 (x10_1 + 1)), (by first | rfl | (simp; done) | (simp [*]; done)), (by first | rfl | (simp; done) | (simp [*]; done)), H', ⟨by have := HK1.out; omega⟩, ⟨by (with_reducible repeat (first | apply Kd.N_alloc | apply Kd.N_drewN | apply Kd.N_drew)); exact HO108.out⟩, ⟨by (with_reducible repeat (first | apply Kd.N_alloc | apply Kd.N_drewN | apply Kd.N_drew)); exact Kd.N_mono HO_9.out (fun _ hk => ⟨hk.1.1, ⟨hk.2, hk.1.2⟩⟩)⟩, ⟨by (with_reducible repeat (first | refine qn_ ?_ _ | refine qq_ ?_ | refine ql_ ?_ _)); exact BK101.out⟩, ⟨by repeat (first | (with_reducible first | exact HB.out | apply qc_ | apply qa_ | apply qb_ | refine qk_ ?_ GE101.out) | exact HB.out)⟩⟩
      ·rw [if_neg c10] at H
       exact absurd H (by simp)
     ·rw [if_neg c9] at H
      exact absurd H (by simp)
    ·replace c8 := Bool.eq_false_iff.mpr c8
     subst c8
     have H1 : (if 0 ≤ x10_1 then (if ((rd_T35 t102 x10_1).f0) > a1 then ((ref05_Copy.f a2_0 a2_1 l2_2).bind fun bt110 => (if x7_1.length < 2932031007402 then ((some (x7_1 ++ [(⟨a1, (⟨bt110.1, bt110.2.1, bt110.2.2⟩ : S33)⟩ : S35)] : List (S35))).bind fun y115 => (if y115.length < 2932031007402 then (ref06_Put.l0 k1 a1 (y115 ++ [(⟨(rd_T35 t102 x10_1).f0, (⟨(rd_T35 t102 x10_1).f1.f0, (rd_T35 t102 x10_1).f1.f1, (rd_T35 t102 x10_1).f1.f2⟩ : S33)⟩ : S35)]) true t102 (wrap64 (x10_1 + 1)) a2_0 a2_1 l2_2) else (none))) else (none))) else (if x7_1.length < 2932031007402 then (ref06_Put.l0 k1 a1 (x7_1 ++ [(⟨(rd_T35 t102 x10_1).f0, (⟨(rd_T35 t102 x10_1).f1.f0, (rd_T35 t102 x10_1).f1.f1, (rd_T35 t102 x10_1).f1.f2⟩ : S33)⟩ : S35)]) false t102 (wrap64 (x10_1 + 1)) a2_0 a2_1 l2_2) else (none))) else (none)) = some r := by rw [if_neg (show ¬ (false = true) by decide)] at H; exact H
     clear H
     have H := H1
     clear H1
     by_cases c13 : 0 ≤ x10_1
     ·rw [if_pos c13] at H
      have c13b0 : decide (0 ≤ x10_1) = true := decide_eq_true c13
      clear c13
      by_cases c14 : ((rd_T35 t102 x10_1).f0) > a1
      ·rw [if_pos c14] at H
       have c14b0 : decide (a1 < ((rd_T35 t102 x10_1).f0)) = true := decide_eq_true c14
       clear c14
       replace H := ob_ H
       obtain ⟨⟨t110, t111, t112⟩, A150, H⟩ := H
       replace H : (if x7_1.length < 2932031007402 then ((some (x7_1 ++ [(⟨a1, (⟨t110, t111, t112⟩ : S33)⟩ : S35)] : List (S35))).bind fun y115 => (if y115.length < 2932031007402 then (ref06_Put.l0 k1 a1 (y115 ++ [(⟨(rd_T35 t102 x10_1).f0, (⟨(rd_T35 t102 x10_1).f1.f0, (rd_T35 t102 x10_1).f1.f1, (rd_T35 t102 x10_1).f1.f2⟩ : S33)⟩ : S35)]) true t102 (wrap64 (x10_1 + 1)) a2_0 a2_1 l2_2) else (none))) else (none)) = some r := H
       have A15 := Aside0.mk A150
       clear A150
       by_cases c16 : x7_1.length < 2932031007402
       ·rw [if_pos c16] at H
        have LMc16 := Aside0.mk c16
        clear c16
        obtain ⟨y115, hy115⟩ : ∃ y_ : List (S35), y_ = (x7_1 ++ [(⟨a1, (⟨t110, t111, t112⟩ : S33)⟩ : S35)]) := ⟨_, rfl⟩
        replace H : (if y115.length < 2932031007402 then (ref06_Put.l0 k1 a1 (y115 ++ [(⟨(rd_T35 t102 x10_1).f0, (⟨(rd_T35 t102 x10_1).f1.f0, (rd_T35 t102 x10_1).f1.f1, (rd_T35 t102 x10_1).f1.f2⟩ : S33)⟩ : S35)]) true t102 (wrap64 (x10_1 + 1)) a2_0 a2_1 l2_2) else (none)) = some r := by first | (rw [hy115]; with_reducible exact H) | (have H2_ := (Option.bind_some _ _).symm.trans H; rw [hy115]; with_reducible exact H2_) | (have H2_ := (Option.bind_some _ _).symm.trans H; with_reducible exact H2_) | with_reducible exact H | (rw [hy115]; exact H) | exact H
        have Ny115 := Aside0.mk hy115
        clear hy115
        by_cases c17 : y115.length < 2932031007402
        ·rw [if_pos c17] at H
         have LMc17 := Aside0.mk c17
         clear c17
         obtain ⟨y119, hy119⟩ : ∃ y_ : List (S35), y_ = (y115 ++ [(⟨(rd_T35 t102 x10_1).f0, (⟨(rd_T35 t102 x10_1).f1.f0, (rd_T35 t102 x10_1).f1.f1, (rd_T35 t102 x10_1).f1.f2⟩ : S33)⟩ : S35)]) := ⟨_, rfl⟩
         replace H : (ref06_Put.l0 k1 a1 y119 true t102 (wrap64 (x10_1 + 1)) a2_0 a2_1 l2_2) = some r := by first | (rw [hy119]; with_reducible exact H) | (have H2_ := (Option.bind_some _ _).symm.trans H; rw [hy119]; with_reducible exact H2_) | (have H2_ := (Option.bind_some _ _).symm.trans H; with_reducible exact H2_) | with_reducible exact H | (rw [hy119]; exact H) | exact H
         have Ny119 := Aside0.mk hy119
         clear hy119
         have H' := Aside0.mk H
         clear H
         obtain ⟨Ao18, co18, eo18⟩ := Kd.N_slice HO_9.out
         subst eo18
         have p109 : 0 ≤ (x10_1 : Int) := of_decide_eq_true (by first | (with_reducible assumption) | assumption)
         have q109 : x10_1 < (t102.length : Int) := of_decide_eq_true (by first | (with_reducible assumption) | assumption)
         obtain ⟨ad109, A109_3, c109_3, e109, hx109_0, hx109_1, hx109_2, hx109_3, hl109_3, hi109_3⟩ := at_T35 (Kd.N_reads' HO_9.out).2.2 x10_1 p109 q109
         cases e109
         obtain ⟨ce109, hce109, hMe109, hcc109⟩ := Kd.N_get HO_9.out z35 x10_1 p109 (by first | exact q109 | exact of_decide_eq_true (by first | (with_reducible assumption) | assumption) | (have e_ := (Kd.N_reads' HO_9.out).1; omega))
         obtain ⟨ua109_3, uc109_3, rfl, ul109_3, ge109_3⟩ := k35_openF hMe109
         have hv109_3 := hcc109 3 _ rfl
         rw [add_field _ _ 3 (by omega)] at hv109_3
         replace hv109_3 := Option.some.inj (hv109_3.symm.trans hx109_3)
         injection hv109_3 with hva_ hvn_ hvc_
         rw [hva_] at ge109_3
         rw [hvc_] at ul109_3
         have HL109_3 := Aside0.mk (show Kd.V k55 55 _ w.heap.size _ _ ((rd_T35 t102 x10_1).f1.f2) from Kd.V_mk ul109_3 ge109_3)
         clear hva_ hvn_ hvc_ ge109_3 ul109_3
         clear hcc109 hce109
         have HR109_3 := Aside0.mk hi109_3
         have HC109_3 := Aside0.mk hl109_3
         clear hi109_3 hl109_3
         replace p109 := eq_true p109
         replace q109 := eq_true q109
         have hcz19_0 : wr.cell? ⟨gb101, 0, none⟩ = some (.int .i64 a2_0) := (qj_ BK101.out 0).trans rfl
         have hcz19_1 : wr.cell? ⟨gb101, 1, none⟩ = some (.int .i64 a2_1) := (qj_ BK101.out 1).trans rfl
         have hcz19_2 : wr.cell? ⟨gb101, 2, none⟩ = some (.slice A2_2 l2_2.length c2_2) := (qj_ BK101.out 2).trans rfl
         have hfz19_0 := qh_ BK101.out 0
         have hfz19_1 := qh_ BK101.out 1
         have hfz19_2 := qh_ BK101.out 2
         go_wp2_with (first | ((with_reducible refine qm_ (f := 27) rfl ?_); refine goesL_ (some 34) rfl rfl Try.func27 (by kernel_rfl) rfl #[.agg #[.int .i64 a2_0, .int .i64 a2_1, .slice A2_2 l2_2.length c2_2]] rfl (by (try simp only [List.map_toArray, List.map_cons, List.map_nil]); first | done | rfl | (simp only [List.length_drop, List.length_take]; rfl)) ?_; (with_reducible refine (ref05_Copy.calls a2_0 a2_1 _ _ l2_2 t110 t111 t112 _ ?side1 ?side2 A15.out).mono ?_); (case side1 => repeat (first | exact (Kd.qr_ HR2_2.out HB.out) | (with_reducible refine Kd.qp_ ?_ _) | (with_reducible refine Kd.qo_ ?_ _) | (with_reducible refine Kd.C_drew ?_))); (case side2 => exact HC2_2.out); rintro e w20 ⟨v113, rfl, ho0, hb⟩; refine ⟨_, rfl, ?_⟩; have n0_ := Aside0.mk (Kd.N_elder' (by (with_reducible repeat (first | apply Kd.N_alloc | apply Kd.N_drewN | apply Kd.N_drew)); exact HO_7.out) (Kd.R_base ho0) hb); have n1_ := Aside0.mk (Kd.N_elder' (by (with_reducible repeat (first | apply Kd.N_alloc | apply Kd.N_drewN | apply Kd.N_drew)); exact HO_9.out) (Kd.R_base ho0) hb); have n2_ := Aside0.mk (Kd.V_elder' (by (with_reducible repeat (first | apply Kd.V_alloc | apply Kd.V_drewN | apply Kd.V_drew)); exact HL109_3.out) (Kd.R_base ho0) hb); have n3_ := Aside0.mk (Kd.qt_ (Kd.R_newM (M := fun k_ => (w.heap.size ≤ k_)) ho0 (qg_ (by repeat (first | (with_reducible first | exact HB.out | apply qc_ | apply qa_ | apply qb_ | refine qk_ ?_ GE101.out) | exact HB.out))) (fun k_ h_ => h_)) (qg_ (by repeat (first | (with_reducible first | exact HB.out | apply qc_ | apply qa_ | apply qb_ | refine qk_ ?_ GE101.out) | exact HB.out)))); have n4_ := Aside0.mk (blk_below (g := gb101) (o := .cells #[.int .i64 a2_0, .int .i64 a2_1, .slice A2_2 l2_2.length c2_2] 33 (0, 0)) (by (with_reducible repeat (first | refine qn_ ?_ _ | refine qq_ ?_ | refine ql_ ?_ _)); exact BK101.out) hb); have n5_ := Aside0.mk (Kd.qr_ (by repeat (first | (with_reducible exact HR109_3.out) | (with_reducible refine Kd.qp_ ?_ _) | (with_reducible refine Kd.qo_ ?_ _) | (with_reducible refine Kd.C_drew ?_) | exact HR109_3.out)) hb); have n6_ := Aside0.mk (qi_ (by repeat (first | (with_reducible first | exact HB.out | apply qc_ | apply qa_ | apply qb_ | refine qk_ ?_ GE101.out) | exact HB.out)) hb); clear HO_7; clear HO_9; clear HL109_3; clear BK101; clear HR109_3; clear HB; have HO_7 := n0_; have HO_9 := n1_; have HL109_3 := n2_; have HO114 := n3_; have BK101 := n4_; have HR109_3 := n5_; have HB := n6_; clear n0_ n1_ n2_ n3_ n4_ n5_ n6_; (try clear hb); (try clear hb2); (try clear hk); (try clear hi); (try clear ho0); obtain ⟨Ao21, co21, eo21⟩ := Kd.qu_ HO114.out; subst eo21) | ((with_reducible refine gate_builtin (b := .append) (xs := #[.tmp 31, .tmp 36]) rfl ?_); at_builtin; refine Kd.N_append k35 (w0 := w) w.heap.size rfl (.tmp 31) (.tmp 36) 22 35 (.agg #[(.int .i64 0), (.int .i64 0), (.int .i64 0), (.slice none 0 0)]) 48 rfl Try.underlying22 info35 rfl (by decide) (by omega) u7 x7_1 (⟨a1, (⟨t110, t111, t112⟩ : S33)⟩ : S35) [.int .i64 a1, .int .i64 t110, .int .i64 t111, .slice Ao21 t112.length co21] (fun k_ => (P0_ k_ ∨ w.heap.size ≤ k_) ∧ some k_ ≠ (.slice (some ad109) t102.length co18 : Value).ownBlock ∧ k_ ≠ gb101) (fun k_ => ((fun k_ => (P0_ k_ ∨ w.heap.size ≤ k_) ∧ some k_ ≠ (.slice (some ad109) t102.length co18 : Value).ownBlock ∧ k_ ≠ gb101)) k_ ∧ some k_ ≠ (u7 : Value).ownBlock) rfl rfl ?aP (fun _ hk => hk) ?aF ?aO ?aB ?aS ?aL ?_; (case aP => exact (k35_mkF _ _ (⟨a1, (⟨t110, t111, t112⟩ : S33)⟩ : S35) (Kd.R_reads' (Kd.R_mono (ok' := (fun k_ => ((fun k_ => (P0_ k_ ∨ w.heap.size ≤ k_) ∧ some k_ ≠ (.slice (some ad109) t102.length co18 : Value).ownBlock ∧ k_ ≠ gb101)) k_ ∧ some k_ ≠ (u7 : Value).ownBlock)) (Kd.R_types (Kd.R_apart' (Kd.R_apart' (HO114.out) (Kd.N_typed HO_9.out) (by decide)) (Kd.N_typed HO_7.out) (by decide)) BK101.out (by decide)) (fun k_ hk => ⟨⟨(.inr (hk.1.1.1.1)), ⟨hk.1.1.2, hk.2⟩⟩, hk.1.2⟩))).2.1 (Kd.R_F (Kd.R_mono (ok' := (fun k_ => ((fun k_ => (P0_ k_ ∨ w.heap.size ≤ k_) ∧ some k_ ≠ (.slice (some ad109) t102.length co18 : Value).ownBlock ∧ k_ ≠ gb101)) k_ ∧ some k_ ≠ (u7 : Value).ownBlock)) (Kd.R_types (Kd.R_apart' (Kd.R_apart' (HO114.out) (Kd.N_typed HO_9.out) (by decide)) (Kd.N_typed HO_7.out) (by decide)) BK101.out (by decide)) (fun k_ hk => ⟨⟨(.inr (hk.1.1.1.1)), ⟨hk.1.1.2, hk.2⟩⟩, hk.1.2⟩))))); (case aB => exact (by repeat (first | (with_reducible first | exact HB.out | apply qc_ | apply qa_ | apply qb_ | refine qk_ ?_ GE101.out) | exact HB.out))); (case aF => exact (fun k_ hk => ⟨(.inr (Nat.le_trans (qg_ (by repeat (first | (with_reducible first | exact HB.out | apply qc_ | apply qa_ | apply qb_ | refine qk_ ?_ GE101.out) | exact HB.out))) hk)), Kd.fresh' (Kd.N_lt (by (with_reducible repeat (first | apply Kd.N_alloc | apply Kd.N_drewN | apply Kd.N_drew)); exact HO_9.out)) k_ hk, Kd.freshB (g := gb101) (o := .cells #[.int .i64 a2_0, .int .i64 a2_1, .slice A2_2 l2_2.length c2_2] 33 (0, 0)) (by (with_reducible repeat (first | refine qn_ ?_ _ | refine qq_ ?_ | refine ql_ ?_ _)); exact BK101.out) k_ hk⟩)); (case aO => exact (by (with_reducible repeat (first | apply Kd.N_alloc | apply Kd.N_drewN | apply Kd.N_drew)); exact Kd.N_mono HO_7.out (fun _ hk => ⟨hk.1.1, ⟨hk.1.2.1, hk.1.2.2⟩⟩))); (case aS => exact (qg_ (by repeat (first | (with_reducible first | exact HB.out | apply qc_ | apply qa_ | apply qb_ | refine qk_ ?_ GE101.out) | exact HB.out)))); (case aL => have := LMc16.out; omega); intro v116 w22 ho hb hg hat; rw [← Ny115.out] at ho; have n0_ := Aside0.mk (Kd.N_afterv (ok := (fun k_ => (P0_ k_ ∨ w.heap.size ≤ k_) ∧ some k_ ≠ (.slice Ao21 t112.length co21 : Value).ownBlock ∧ k_ ≠ gb101)) (by (with_reducible repeat (first | apply Kd.N_alloc | apply Kd.N_drewN | apply Kd.N_drew)); exact Kd.N_mono HO_9.out (fun _ hk => ⟨⟨hk.1.1, ⟨hk.2, hk.1.2.2⟩⟩, hk.1.2.1⟩)) hg hat); have n1_ := Aside0.mk (blk_grown (g := gb101) (o := .cells #[.int .i64 a2_0, .int .i64 a2_1, .slice A2_2 l2_2.length c2_2] 33 (0, 0)) (by (with_reducible repeat (first | refine qn_ ?_ _ | refine qq_ ?_ | refine ql_ ?_ _)); exact BK101.out) hg (Kd.N_ne HO_7.out BK101.out (by decide))); have n2_ := Aside0.mk (Kd.V_afterv (ok := (fun k_ => (P0_ k_ ∨ w.heap.size ≤ k_) ∧ some k_ ≠ (.slice (some ad109) t102.length co18 : Value).ownBlock ∧ some k_ ≠ (.slice Ao21 t112.length co21 : Value).ownBlock ∧ k_ ≠ gb101)) (by (with_reducible repeat (first | apply Kd.V_alloc | apply Kd.V_drewN | apply Kd.V_drew)); exact Kd.V_mono HL109_3.out (fun _ hk => ⟨⟨hk.1.1.1, ⟨hk.1.2, ⟨hk.2, hk.1.1.2.2⟩⟩⟩, hk.1.1.2.1⟩)) hg hat); have n3_ := Aside0.mk (hb); have n4_ := Aside0.mk (ho); clear HO_9; clear BK101; clear HL109_3; clear HB; clear HO_7; clear HO114; have HO_9 := n0_; have BK101 := n1_; have HL109_3 := n2_; have HB := n3_; have HO117 := n4_; clear n0_ n1_ n2_ n3_ n4_; clear ho hb hg hat; have p118 : 0 ≤ (x10_1 : Int) := of_decide_eq_true (by first | (with_reducible assumption) | assumption); have q118 : x10_1 < (t102.length : Int) := of_decide_eq_true (by first | (with_reducible assumption) | assumption); obtain ⟨ad118, A118_3, c118_3, e118, hx118_0, hx118_1, hx118_2, hx118_3, hl118_3, hi118_3⟩ := at_T35 (Kd.N_reads' HO_9.out).2.2 x10_1 p118 q118; obtain rfl : ad109 = ad118 := (by injection e118); obtain ⟨ce118, hce118, hMe118, hcc118⟩ := Kd.N_get HO_9.out z35 x10_1 p118 (by first | exact q118 | exact of_decide_eq_true (by first | (with_reducible assumption) | assumption) | (have e_ := (Kd.N_reads' HO_9.out).1; omega)); obtain ⟨ua118_3, uc118_3, rfl, ul118_3, ge118_3⟩ := k35_openF hMe118; have hv118_3 := hcc118 3 _ rfl; rw [add_field _ _ 3 (by omega)] at hv118_3; replace hv118_3 := Option.some.inj (hv118_3.symm.trans hx118_3); injection hv118_3 with hva_ hvn_ hvc_; rw [hva_] at ge118_3; rw [hvc_] at ul118_3; have HL118_3 := Aside0.mk (show Kd.V k55 55 _ w.heap.size _ _ ((rd_T35 t102 x10_1).f1.f2) from Kd.V_mk ul118_3 ge118_3); clear hva_ hvn_ hvc_ ge118_3 ul118_3; clear hcc118 hce118; have HR118_3 := Aside0.mk hi118_3; have HC118_3 := Aside0.mk hl118_3; clear hi118_3 hl118_3; replace p118 := eq_true p118; replace q118 := eq_true q118) | ((with_reducible refine gate_builtin (b := .append) (xs := #[.tmp 38, .tmp 43]) rfl ?_); at_builtin; refine Kd.N_append k35 (w0 := w) w.heap.size rfl (.tmp 38) (.tmp 43) 22 35 (.agg #[(.int .i64 0), (.int .i64 0), (.int .i64 0), (.slice none 0 0)]) 48 rfl Try.underlying22 info35 rfl (by decide) (by omega) v116 y115 (⟨(rd_T35 t102 x10_1).f0, (⟨(rd_T35 t102 x10_1).f1.f0, (rd_T35 t102 x10_1).f1.f1, (rd_T35 t102 x10_1).f1.f2⟩ : S33)⟩ : S35) [.int .i64 ((rd_T35 t102 x10_1).f0), .int .i64 ((rd_T35 t102 x10_1).f1.f0), .int .i64 ((rd_T35 t102 x10_1).f1.f1), .slice A118_3 ((rd_T35 t102 x10_1).f1.f2).length c118_3] (fun k_ => (P0_ k_ ∨ w.heap.size ≤ k_) ∧ some k_ ≠ (.slice (some ad109) t102.length co18 : Value).ownBlock ∧ k_ ≠ gb101) (fun k_ => ((fun k_ => (P0_ k_ ∨ w.heap.size ≤ k_) ∧ some k_ ≠ (.slice (some ad109) t102.length co18 : Value).ownBlock ∧ k_ ≠ gb101)) k_ ∧ some k_ ≠ (v116 : Value).ownBlock) rfl rfl ?aP (fun _ hk => hk) ?aF ?aO ?aB ?aS ?aL ?_; (case aP => exact (k35_mkF _ _ (⟨(rd_T35 t102 x10_1).f0, (⟨(rd_T35 t102 x10_1).f1.f0, (rd_T35 t102 x10_1).f1.f1, (rd_T35 t102 x10_1).f1.f2⟩ : S33)⟩ : S35) (Kd.V_reads' (Kd.V_mono (ok' := (fun k_ => ((fun k_ => (P0_ k_ ∨ w.heap.size ≤ k_) ∧ some k_ ≠ (.slice (some ad109) t102.length co18 : Value).ownBlock ∧ k_ ≠ gb101)) k_ ∧ some k_ ≠ (v116 : Value).ownBlock)) (HL118_3.out) (fun k_ hk => ⟨⟨hk.1.1.1, ⟨hk.2, hk.1.1.2.2⟩⟩, hk.1.2⟩))).2.1 (Kd.V_F (Kd.V_mono (ok' := (fun k_ => ((fun k_ => (P0_ k_ ∨ w.heap.size ≤ k_) ∧ some k_ ≠ (.slice (some ad109) t102.length co18 : Value).ownBlock ∧ k_ ≠ gb101)) k_ ∧ some k_ ≠ (v116 : Value).ownBlock)) (HL118_3.out) (fun k_ hk => ⟨⟨hk.1.1.1, ⟨hk.2, hk.1.1.2.2⟩⟩, hk.1.2⟩))))); (case aB => exact (by repeat (first | (with_reducible first | exact HB.out | apply qc_ | apply qa_ | apply qb_ | refine qk_ ?_ GE101.out) | exact HB.out))); (case aF => exact (fun k_ hk => ⟨(.inr (Nat.le_trans (qg_ (by repeat (first | (with_reducible first | exact HB.out | apply qc_ | apply qa_ | apply qb_ | refine qk_ ?_ GE101.out) | exact HB.out))) hk)), Kd.fresh' (Kd.N_lt (by (with_reducible repeat (first | apply Kd.N_alloc | apply Kd.N_drewN | apply Kd.N_drew)); exact HO_9.out)) k_ hk, Kd.freshB (g := gb101) (o := .cells #[.int .i64 a2_0, .int .i64 a2_1, .slice A2_2 l2_2.length c2_2] 33 (0, 0)) (by (with_reducible repeat (first | refine qn_ ?_ _ | refine qq_ ?_ | refine ql_ ?_ _)); exact BK101.out) k_ hk⟩)); (case aO => exact (by (with_reducible repeat (first | apply Kd.N_alloc | apply Kd.N_drewN | apply Kd.N_drew)); exact HO117.out)); (case aS => exact (qg_ (by repeat (first | (with_reducible first | exact HB.out | apply qc_ | apply qa_ | apply qb_ | refine qk_ ?_ GE101.out) | exact HB.out)))); (case aL => have := LMc17.out; omega); intro v120 w23 ho hb hg hat; rw [← Ny119.out] at ho; have n0_ := Aside0.mk (Kd.N_afterv (ok := (fun k_ => (P0_ k_ ∨ w.heap.size ≤ k_) ∧ k_ ≠ gb101)) (by (with_reducible repeat (first | apply Kd.N_alloc | apply Kd.N_drewN | apply Kd.N_drew)); exact Kd.N_mono HO_9.out (fun _ hk => ⟨⟨hk.1.1, hk.1.2.2⟩, hk.2⟩)) hg hat); have n1_ := Aside0.mk (blk_grown (g := gb101) (o := .cells #[.int .i64 a2_0, .int .i64 a2_1, .slice A2_2 l2_2.length c2_2] 33 (0, 0)) (by (with_reducible repeat (first | refine qn_ ?_ _ | refine qq_ ?_ | refine ql_ ?_ _)); exact BK101.out) hg (Kd.N_ne HO117.out BK101.out (by decide))); have n2_ := Aside0.mk (Kd.V_afterv (ok := (fun k_ => (P0_ k_ ∨ w.heap.size ≤ k_) ∧ some k_ ≠ (.slice (some ad109) t102.length co18 : Value).ownBlock ∧ k_ ≠ gb101)) (by (with_reducible repeat (first | apply Kd.V_alloc | apply Kd.V_drewN | apply Kd.V_drew)); exact Kd.V_mono HL109_3.out (fun _ hk => ⟨⟨hk.1.1, ⟨hk.1.2.1, hk.1.2.2.2⟩⟩, hk.2⟩)) hg hat); have n3_ := Aside0.mk (Kd.V_afterv (ok := (fun k_ => (P0_ k_ ∨ w.heap.size ≤ k_) ∧ some k_ ≠ (.slice (some ad109) t102.length co18 : Value).ownBlock ∧ k_ ≠ gb101)) (by (with_reducible repeat (first | apply Kd.V_alloc | apply Kd.V_drewN | apply Kd.V_drew)); exact Kd.V_mono HL118_3.out (fun _ hk => ⟨⟨hk.1.1.1, ⟨hk.2, hk.1.1.2.2⟩⟩, hk.1.2⟩)) hg hat); have n4_ := Aside0.mk (hb); have n5_ := Aside0.mk (ho); clear HO_9; clear BK101; clear HL109_3; clear HL118_3; clear HB; clear HO117; have HO_9 := n0_; have BK101 := n1_; have HL109_3 := n2_; have HL118_3 := n3_; have HB := n4_; have HO121 := n5_; clear n0_ n1_ n2_ n3_ n4_ n5_; clear ho hb hg hat))
         go_roundg k1
         case measure => have := HK1.out; omega
         case rel => exact ⟨(y119), (true), (wrap64 (x10_1 + 1)), (by first | rfl | (simp; done) | (simp [*]; done)), (by first | rfl | (simp; done) | (simp [*]; done)), H', ⟨by have := HK1.out; omega⟩, ⟨by (with_reducible repeat (first | apply Kd.N_alloc | apply Kd.N_drewN | apply Kd.N_drew)); exact HO121.out⟩, ⟨by (with_reducible repeat (first | apply Kd.N_alloc | apply Kd.N_drewN | apply Kd.N_drew)); exact Kd.N_mono HO_9.out (fun _ hk => ⟨hk.1.1, ⟨hk.2, hk.1.2⟩⟩)⟩, ⟨by (with_reducible repeat (first | refine qn_ ?_ _ | refine qq_ ?_ | refine ql_ ?_ _)); exact BK101.out⟩, ⟨by repeat (first | (with_reducible first | exact HB.out | apply qc_ | apply qa_ | apply qb_ | refine qk_ ?_ GE101.out) | exact HB.out)⟩⟩
        ·rw [if_neg c17] at H
         exact absurd H (by simp)
       ·rw [if_neg c16] at H
        exact absurd H (by simp)
      ·rw [if_neg c14] at H
       have c14b0 : decide (a1 < ((rd_T35 t102 x10_1).f0)) = false := decide_eq_false c14
       clear c14
       by_cases c24 : x7_1.length < 2932031007402
       ·rw [if_pos c24] at H
        have LMc24 := Aside0.mk c24
        clear c24
        obtain ⟨y123, hy123⟩ : ∃ y_ : List (S35), y_ = (x7_1 ++ [(⟨(rd_T35 t102 x10_1).f0, (⟨(rd_T35 t102 x10_1).f1.f0, (rd_T35 t102 x10_1).f1.f1, (rd_T35 t102 x10_1).f1.f2⟩ : S33)⟩ : S35)]) := ⟨_, rfl⟩
        replace H : (ref06_Put.l0 k1 a1 y123 false t102 (wrap64 (x10_1 + 1)) a2_0 a2_1 l2_2) = some r := by first | (rw [hy123]; with_reducible exact H) | (have H2_ := (Option.bind_some _ _).symm.trans H; rw [hy123]; with_reducible exact H2_) | (have H2_ := (Option.bind_some _ _).symm.trans H; with_reducible exact H2_) | with_reducible exact H | (rw [hy123]; exact H) | exact H
        have Ny123 := Aside0.mk hy123
        clear hy123
        have H' := Aside0.mk H
        clear H
        obtain ⟨Ao25, co25, eo25⟩ := Kd.N_slice HO_9.out
        subst eo25
        have p109 : 0 ≤ (x10_1 : Int) := of_decide_eq_true (by first | (with_reducible assumption) | assumption)
        have q109 : x10_1 < (t102.length : Int) := of_decide_eq_true (by first | (with_reducible assumption) | assumption)
        obtain ⟨ad109, A109_3, c109_3, e109, hx109_0, hx109_1, hx109_2, hx109_3, hl109_3, hi109_3⟩ := at_T35 (Kd.N_reads' HO_9.out).2.2 x10_1 p109 q109
        cases e109
        obtain ⟨ce109, hce109, hMe109, hcc109⟩ := Kd.N_get HO_9.out z35 x10_1 p109 (by first | exact q109 | exact of_decide_eq_true (by first | (with_reducible assumption) | assumption) | (have e_ := (Kd.N_reads' HO_9.out).1; omega))
        obtain ⟨ua109_3, uc109_3, rfl, ul109_3, ge109_3⟩ := k35_openF hMe109
        have hv109_3 := hcc109 3 _ rfl
        rw [add_field _ _ 3 (by omega)] at hv109_3
        replace hv109_3 := Option.some.inj (hv109_3.symm.trans hx109_3)
        injection hv109_3 with hva_ hvn_ hvc_
        rw [hva_] at ge109_3
        rw [hvc_] at ul109_3
        have HL109_3 := Aside0.mk (show Kd.V k55 55 _ w.heap.size _ _ ((rd_T35 t102 x10_1).f1.f2) from Kd.V_mk ul109_3 ge109_3)
        clear hva_ hvn_ hvc_ ge109_3 ul109_3
        clear hcc109 hce109
        have HR109_3 := Aside0.mk hi109_3
        have HC109_3 := Aside0.mk hl109_3
        clear hi109_3 hl109_3
        replace p109 := eq_true p109
        replace q109 := eq_true q109
        have p122 : 0 ≤ (x10_1 : Int) := of_decide_eq_true (by first | (with_reducible assumption) | assumption)
        have q122 : x10_1 < (t102.length : Int) := of_decide_eq_true (by first | (with_reducible assumption) | assumption)
        obtain ⟨ad122, A122_3, c122_3, e122, hx122_0, hx122_1, hx122_2, hx122_3, hl122_3, hi122_3⟩ := at_T35 (Kd.N_reads' HO_9.out).2.2 x10_1 p122 q122
        obtain rfl : ad109 = ad122 := (by injection e122)
        obtain ⟨ce122, hce122, hMe122, hcc122⟩ := Kd.N_get HO_9.out z35 x10_1 p122 (by first | exact q122 | exact of_decide_eq_true (by first | (with_reducible assumption) | assumption) | (have e_ := (Kd.N_reads' HO_9.out).1; omega))
        obtain ⟨ua122_3, uc122_3, rfl, ul122_3, ge122_3⟩ := k35_openF hMe122
        have hv122_3 := hcc122 3 _ rfl
        rw [add_field _ _ 3 (by omega)] at hv122_3
        replace hv122_3 := Option.some.inj (hv122_3.symm.trans hx122_3)
        injection hv122_3 with hva_ hvn_ hvc_
        rw [hva_] at ge122_3
        rw [hvc_] at ul122_3
        have HL122_3 := Aside0.mk (show Kd.V k55 55 _ w.heap.size _ _ ((rd_T35 t102 x10_1).f1.f2) from Kd.V_mk ul122_3 ge122_3)
        clear hva_ hvn_ hvc_ ge122_3 ul122_3
        clear hcc122 hce122
        have HR122_3 := Aside0.mk hi122_3
        have HC122_3 := Aside0.mk hl122_3
        clear hi122_3 hl122_3
        replace p122 := eq_true p122
        replace q122 := eq_true q122
        have ea_ := Option.some.inj (hx109_3.symm.trans hx122_3)
        injection ea_ with ea_ en_ ec_
        subst ea_
        subst ec_
        clear en_
        go_wp2_with (first | ((with_reducible refine gate_builtin (b := .append) (xs := #[.tmp 38, .tmp 43]) rfl ?_); at_builtin; refine Kd.N_append k35 (w0 := w) w.heap.size rfl (.tmp 38) (.tmp 43) 22 35 (.agg #[(.int .i64 0), (.int .i64 0), (.int .i64 0), (.slice none 0 0)]) 48 rfl Try.underlying22 info35 rfl (by decide) (by omega) u7 x7_1 (⟨(rd_T35 t102 x10_1).f0, (⟨(rd_T35 t102 x10_1).f1.f0, (rd_T35 t102 x10_1).f1.f1, (rd_T35 t102 x10_1).f1.f2⟩ : S33)⟩ : S35) [.int .i64 ((rd_T35 t102 x10_1).f0), .int .i64 ((rd_T35 t102 x10_1).f1.f0), .int .i64 ((rd_T35 t102 x10_1).f1.f1), .slice A109_3 ((rd_T35 t102 x10_1).f1.f2).length c109_3] (fun k_ => (P0_ k_ ∨ w.heap.size ≤ k_) ∧ some k_ ≠ (.slice (some ad109) t102.length co25 : Value).ownBlock ∧ k_ ≠ gb101) (fun k_ => ((fun k_ => (P0_ k_ ∨ w.heap.size ≤ k_) ∧ some k_ ≠ (.slice (some ad109) t102.length co25 : Value).ownBlock ∧ k_ ≠ gb101)) k_ ∧ some k_ ≠ (u7 : Value).ownBlock) rfl rfl ?aP (fun _ hk => hk) ?aF ?aO ?aB ?aS ?aL ?_; (case aP => exact (k35_mkF _ _ (⟨(rd_T35 t102 x10_1).f0, (⟨(rd_T35 t102 x10_1).f1.f0, (rd_T35 t102 x10_1).f1.f1, (rd_T35 t102 x10_1).f1.f2⟩ : S33)⟩ : S35) (Kd.V_reads' (Kd.V_mono (ok' := (fun k_ => ((fun k_ => (P0_ k_ ∨ w.heap.size ≤ k_) ∧ some k_ ≠ (.slice (some ad109) t102.length co25 : Value).ownBlock ∧ k_ ≠ gb101)) k_ ∧ some k_ ≠ (u7 : Value).ownBlock)) (HL122_3.out) (fun k_ hk => ⟨⟨hk.1.1, ⟨hk.2, hk.1.2.2⟩⟩, hk.1.2.1⟩))).2.1 (Kd.V_F (Kd.V_mono (ok' := (fun k_ => ((fun k_ => (P0_ k_ ∨ w.heap.size ≤ k_) ∧ some k_ ≠ (.slice (some ad109) t102.length co25 : Value).ownBlock ∧ k_ ≠ gb101)) k_ ∧ some k_ ≠ (u7 : Value).ownBlock)) (HL122_3.out) (fun k_ hk => ⟨⟨hk.1.1, ⟨hk.2, hk.1.2.2⟩⟩, hk.1.2.1⟩))))); (case aB => exact (by repeat (first | (with_reducible first | exact HB.out | apply qc_ | apply qa_ | apply qb_ | refine qk_ ?_ GE101.out) | exact HB.out))); (case aF => exact (fun k_ hk => ⟨(.inr (Nat.le_trans (qg_ (by repeat (first | (with_reducible first | exact HB.out | apply qc_ | apply qa_ | apply qb_ | refine qk_ ?_ GE101.out) | exact HB.out))) hk)), Kd.fresh' (Kd.N_lt (by (with_reducible repeat (first | apply Kd.N_alloc | apply Kd.N_drewN | apply Kd.N_drew)); exact HO_9.out)) k_ hk, Kd.freshB (g := gb101) (o := .cells #[.int .i64 a2_0, .int .i64 a2_1, .slice A2_2 l2_2.length c2_2] 33 (0, 0)) (by (with_reducible repeat (first | refine qn_ ?_ _ | refine qq_ ?_ | refine ql_ ?_ _)); exact BK101.out) k_ hk⟩)); (case aO => exact (by (with_reducible repeat (first | apply Kd.N_alloc | apply Kd.N_drewN | apply Kd.N_drew)); exact HO_7.out)); (case aS => exact (qg_ (by repeat (first | (with_reducible first | exact HB.out | apply qc_ | apply qa_ | apply qb_ | refine qk_ ?_ GE101.out) | exact HB.out)))); (case aL => have := LMc24.out; omega); intro v124 w26 ho hb hg hat; rw [← Ny123.out] at ho; have n0_ := Aside0.mk (Kd.N_afterv (ok := (fun k_ => (P0_ k_ ∨ w.heap.size ≤ k_) ∧ k_ ≠ gb101)) (by (with_reducible repeat (first | apply Kd.N_alloc | apply Kd.N_drewN | apply Kd.N_drew)); exact Kd.N_mono HO_9.out (fun _ hk => ⟨⟨hk.1, hk.2.2⟩, hk.2.1⟩)) hg hat); have n1_ := Aside0.mk (blk_grown (g := gb101) (o := .cells #[.int .i64 a2_0, .int .i64 a2_1, .slice A2_2 l2_2.length c2_2] 33 (0, 0)) (by (with_reducible repeat (first | refine qn_ ?_ _ | refine qq_ ?_ | refine ql_ ?_ _)); exact BK101.out) hg (Kd.N_ne HO_7.out BK101.out (by decide))); have n2_ := Aside0.mk (Kd.V_afterv (ok := (fun k_ => (P0_ k_ ∨ w.heap.size ≤ k_) ∧ some k_ ≠ (.slice (some ad109) t102.length co25 : Value).ownBlock ∧ k_ ≠ gb101)) (by (with_reducible repeat (first | apply Kd.V_alloc | apply Kd.V_drewN | apply Kd.V_drew)); exact Kd.V_mono HL109_3.out (fun _ hk => ⟨⟨hk.1.1, ⟨hk.2, hk.1.2.2⟩⟩, hk.1.2.1⟩)) hg hat); have n3_ := Aside0.mk (Kd.V_afterv (ok := (fun k_ => (P0_ k_ ∨ w.heap.size ≤ k_) ∧ some k_ ≠ (.slice (some ad109) t102.length co25 : Value).ownBlock ∧ k_ ≠ gb101)) (by (with_reducible repeat (first | apply Kd.V_alloc | apply Kd.V_drewN | apply Kd.V_drew)); exact Kd.V_mono HL122_3.out (fun _ hk => ⟨⟨hk.1.1, ⟨hk.2, hk.1.2.2⟩⟩, hk.1.2.1⟩)) hg hat); have n4_ := Aside0.mk (hb); have n5_ := Aside0.mk (ho); clear HO_9; clear BK101; clear HL109_3; clear HL122_3; clear HB; clear HO_7; have HO_9 := n0_; have BK101 := n1_; have HL109_3 := n2_; have HL122_3 := n3_; have HB := n4_; have HO125 := n5_; clear n0_ n1_ n2_ n3_ n4_ n5_; clear ho hb hg hat))
        go_roundg k1
        case measure => have := HK1.out; omega
        case rel => exact ⟨(y123), (false), (wrap64 (x10_1 + 1)), (by first | rfl | (simp; done) | (simp [*]; done)), (by first | rfl | (simp; done) | (simp [*]; done)), H', ⟨by have := HK1.out; omega⟩, ⟨by (with_reducible repeat (first | apply Kd.N_alloc | apply Kd.N_drewN | apply Kd.N_drew)); exact HO125.out⟩, ⟨by (with_reducible repeat (first | apply Kd.N_alloc | apply Kd.N_drewN | apply Kd.N_drew)); exact Kd.N_mono HO_9.out (fun _ hk => ⟨hk.1.1, ⟨hk.2, hk.1.2⟩⟩)⟩, ⟨by (with_reducible repeat (first | refine qn_ ?_ _ | refine qq_ ?_ | refine ql_ ?_ _)); exact BK101.out⟩, ⟨by repeat (first | (with_reducible first | exact HB.out | apply qc_ | apply qa_ | apply qb_ | refine qk_ ?_ GE101.out) | exact HB.out)⟩⟩
       ·rw [if_neg c24] at H
        exact absurd H (by simp)
     ·rw [if_neg c13] at H
      exact absurd H (by simp)
   ·rw [if_neg c7] at H
    have c7b0 : decide (x10_1 < (t102.length : Int)) = false := decide_eq_false c7
    clear c7
    by_cases c27 : x8_1 = true
    ·subst c27
     have H1 : (some x7_1) = some r := by rw [if_pos rfl] at H; exact H
     clear H
     have H := H1
     clear H1
     obtain rfl := Option.some.inj H
     obtain ⟨Ao28, co28, eo28⟩ := Kd.N_slice HO_9.out
     subst eo28
     go_wp2
     go_ret
     exact ⟨_, by first | rfl | (simp [errW_none, errW_some] <;> rfl) | (simp [*, errW_none, errW_some] <;> rfl), by (with_reducible repeat (first | apply Kd.N_alloc | apply Kd.N_drewN | apply Kd.N_drew)); exact Kd.N_mono HO_7.out (fun _ hk => hk.1), by repeat (first | (with_reducible first | exact HB.out | apply qc_ | apply qa_ | apply qb_ | refine qk_ ?_ GE101.out) | exact HB.out)⟩
    ·replace c27 := Bool.eq_false_iff.mpr c27
     subst c27
     have H1 : ((ref05_Copy.f a2_0 a2_1 l2_2).bind fun bt126 => (if x7_1.length < 2932031007402 then (some (x7_1 ++ [(⟨a1, (⟨bt126.1, bt126.2.1, bt126.2.2⟩ : S33)⟩ : S35)])) else (none))) = some r := by rw [if_neg (show ¬ (false = true) by decide)] at H; exact H
     clear H
     have H := H1
     clear H1
     replace H := ob_ H
     obtain ⟨⟨t126, t127, t128⟩, A290, H⟩ := H
     replace H : (if x7_1.length < 2932031007402 then (some (x7_1 ++ [(⟨a1, (⟨t126, t127, t128⟩ : S33)⟩ : S35)])) else (none)) = some r := H
     have A29 := Aside0.mk A290
     clear A290
     by_cases c30 : x7_1.length < 2932031007402
     ·rw [if_pos c30] at H
      have LMc30 := Aside0.mk c30
      clear c30
      obtain ⟨y131, hy131⟩ : ∃ y_ : List (S35), y_ = (x7_1 ++ [(⟨a1, (⟨t126, t127, t128⟩ : S33)⟩ : S35)]) := ⟨_, rfl⟩
      replace H : (some y131) = some r := by first | (rw [hy131]; with_reducible exact H) | (have H2_ := (Option.bind_some _ _).symm.trans H; rw [hy131]; with_reducible exact H2_) | (have H2_ := (Option.bind_some _ _).symm.trans H; with_reducible exact H2_) | with_reducible exact H | (rw [hy131]; exact H) | exact H
      have Ny131 := Aside0.mk hy131
      clear hy131
      obtain rfl := Option.some.inj H
      obtain ⟨Ao31, co31, eo31⟩ := Kd.N_slice HO_9.out
      subst eo31
      have hcz32_0 : wr.cell? ⟨gb101, 0, none⟩ = some (.int .i64 a2_0) := (qj_ BK101.out 0).trans rfl
      have hcz32_1 : wr.cell? ⟨gb101, 1, none⟩ = some (.int .i64 a2_1) := (qj_ BK101.out 1).trans rfl
      have hcz32_2 : wr.cell? ⟨gb101, 2, none⟩ = some (.slice A2_2 l2_2.length c2_2) := (qj_ BK101.out 2).trans rfl
      have hfz32_0 := qh_ BK101.out 0
      have hfz32_1 := qh_ BK101.out 1
      have hfz32_2 := qh_ BK101.out 2
      go_wp2_with (first | ((with_reducible refine qm_ (f := 27) rfl ?_); refine goesL_ (some 50) rfl rfl Try.func27 (by kernel_rfl) rfl #[.agg #[.int .i64 a2_0, .int .i64 a2_1, .slice A2_2 l2_2.length c2_2]] rfl (by (try simp only [List.map_toArray, List.map_cons, List.map_nil]); first | done | rfl | (simp only [List.length_drop, List.length_take]; rfl)) ?_; (with_reducible refine (ref05_Copy.calls a2_0 a2_1 _ _ l2_2 t126 t127 t128 _ ?side1 ?side2 A29.out).mono ?_); (case side1 => repeat (first | exact (Kd.qr_ HR2_2.out HB.out) | (with_reducible refine Kd.qp_ ?_ _) | (with_reducible refine Kd.qo_ ?_ _) | (with_reducible refine Kd.C_drew ?_))); (case side2 => exact HC2_2.out); rintro e w33 ⟨v129, rfl, ho0, hb⟩; refine ⟨_, rfl, ?_⟩; have n0_ := Aside0.mk (Kd.N_elder' (by (with_reducible repeat (first | apply Kd.N_alloc | apply Kd.N_drewN | apply Kd.N_drew)); exact HO_7.out) (Kd.R_base ho0) hb); have n1_ := Aside0.mk (Kd.N_elder' (by (with_reducible repeat (first | apply Kd.N_alloc | apply Kd.N_drewN | apply Kd.N_drew)); exact HO_9.out) (Kd.R_base ho0) hb); have n2_ := Aside0.mk (Kd.qt_ (Kd.R_newM (M := fun k_ => (w.heap.size ≤ k_)) ho0 (qg_ (by repeat (first | (with_reducible first | exact HB.out | apply qc_ | apply qa_ | apply qb_ | refine qk_ ?_ GE101.out) | exact HB.out))) (fun k_ h_ => h_)) (qg_ (by repeat (first | (with_reducible first | exact HB.out | apply qc_ | apply qa_ | apply qb_ | refine qk_ ?_ GE101.out) | exact HB.out)))); have n3_ := Aside0.mk (blk_below (g := gb101) (o := .cells #[.int .i64 a2_0, .int .i64 a2_1, .slice A2_2 l2_2.length c2_2] 33 (0, 0)) (by (with_reducible repeat (first | refine qn_ ?_ _ | refine qq_ ?_ | refine ql_ ?_ _)); exact BK101.out) hb); have n4_ := Aside0.mk (qi_ (by repeat (first | (with_reducible first | exact HB.out | apply qc_ | apply qa_ | apply qb_ | refine qk_ ?_ GE101.out) | exact HB.out)) hb); clear HO_7; clear HO_9; clear BK101; clear HB; have HO_7 := n0_; have HO_9 := n1_; have HO130 := n2_; have BK101 := n3_; have HB := n4_; clear n0_ n1_ n2_ n3_ n4_; (try clear hb); (try clear hb2); (try clear hk); (try clear hi); (try clear ho0); obtain ⟨Ao34, co34, eo34⟩ := Kd.qu_ HO130.out; subst eo34) | ((with_reducible refine gate_builtin (b := .append) (xs := #[.tmp 47, .tmp 52]) rfl ?_); at_builtin; refine Kd.N_append k35 (w0 := w) w.heap.size rfl (.tmp 47) (.tmp 52) 22 35 (.agg #[(.int .i64 0), (.int .i64 0), (.int .i64 0), (.slice none 0 0)]) 48 rfl Try.underlying22 info35 rfl (by decide) (by omega) u7 x7_1 (⟨a1, (⟨t126, t127, t128⟩ : S33)⟩ : S35) [.int .i64 a1, .int .i64 t126, .int .i64 t127, .slice Ao34 t128.length co34] (fun k_ => (P0_ k_ ∨ w.heap.size ≤ k_) ∧ some k_ ≠ (.slice Ao31 t102.length co31 : Value).ownBlock ∧ k_ ≠ gb101) (fun k_ => ((fun k_ => (P0_ k_ ∨ w.heap.size ≤ k_) ∧ some k_ ≠ (.slice Ao31 t102.length co31 : Value).ownBlock ∧ k_ ≠ gb101)) k_ ∧ some k_ ≠ (u7 : Value).ownBlock) rfl rfl ?aP (fun _ hk => hk) ?aF ?aO ?aB ?aS ?aL ?_; (case aP => exact (k35_mkF _ _ (⟨a1, (⟨t126, t127, t128⟩ : S33)⟩ : S35) (Kd.R_reads' (Kd.R_mono (ok' := (fun k_ => ((fun k_ => (P0_ k_ ∨ w.heap.size ≤ k_) ∧ some k_ ≠ (.slice Ao31 t102.length co31 : Value).ownBlock ∧ k_ ≠ gb101)) k_ ∧ some k_ ≠ (u7 : Value).ownBlock)) (Kd.R_types (Kd.R_apart' (Kd.R_apart' (HO130.out) (Kd.N_typed HO_9.out) (by decide)) (Kd.N_typed HO_7.out) (by decide)) BK101.out (by decide)) (fun k_ hk => ⟨⟨(.inr (hk.1.1.1.1)), ⟨hk.1.1.2, hk.2⟩⟩, hk.1.2⟩))).2.1 (Kd.R_F (Kd.R_mono (ok' := (fun k_ => ((fun k_ => (P0_ k_ ∨ w.heap.size ≤ k_) ∧ some k_ ≠ (.slice Ao31 t102.length co31 : Value).ownBlock ∧ k_ ≠ gb101)) k_ ∧ some k_ ≠ (u7 : Value).ownBlock)) (Kd.R_types (Kd.R_apart' (Kd.R_apart' (HO130.out) (Kd.N_typed HO_9.out) (by decide)) (Kd.N_typed HO_7.out) (by decide)) BK101.out (by decide)) (fun k_ hk => ⟨⟨(.inr (hk.1.1.1.1)), ⟨hk.1.1.2, hk.2⟩⟩, hk.1.2⟩))))); (case aB => exact (by repeat (first | (with_reducible first | exact HB.out | apply qc_ | apply qa_ | apply qb_ | refine qk_ ?_ GE101.out) | exact HB.out))); (case aF => exact (fun k_ hk => ⟨(.inr (Nat.le_trans (qg_ (by repeat (first | (with_reducible first | exact HB.out | apply qc_ | apply qa_ | apply qb_ | refine qk_ ?_ GE101.out) | exact HB.out))) hk)), Kd.fresh' (Kd.N_lt (by (with_reducible repeat (first | apply Kd.N_alloc | apply Kd.N_drewN | apply Kd.N_drew)); exact HO_9.out)) k_ hk, Kd.freshB (g := gb101) (o := .cells #[.int .i64 a2_0, .int .i64 a2_1, .slice A2_2 l2_2.length c2_2] 33 (0, 0)) (by (with_reducible repeat (first | refine qn_ ?_ _ | refine qq_ ?_ | refine ql_ ?_ _)); exact BK101.out) k_ hk⟩)); (case aO => exact (by (with_reducible repeat (first | apply Kd.N_alloc | apply Kd.N_drewN | apply Kd.N_drew)); exact Kd.N_mono HO_7.out (fun _ hk => ⟨hk.1.1, ⟨hk.1.2.1, hk.1.2.2⟩⟩))); (case aS => exact (qg_ (by repeat (first | (with_reducible first | exact HB.out | apply qc_ | apply qa_ | apply qb_ | refine qk_ ?_ GE101.out) | exact HB.out)))); (case aL => have := LMc30.out; omega); intro v132 w35 ho hb hg hat; rw [← Ny131.out] at ho; have n0_ := Aside0.mk (Kd.N_afterv (ok := (fun k_ => (P0_ k_ ∨ w.heap.size ≤ k_) ∧ some k_ ≠ (.slice Ao34 t128.length co34 : Value).ownBlock ∧ k_ ≠ gb101)) (by (with_reducible repeat (first | apply Kd.N_alloc | apply Kd.N_drewN | apply Kd.N_drew)); exact Kd.N_mono HO_9.out (fun _ hk => ⟨⟨hk.1.1, ⟨hk.2, hk.1.2.2⟩⟩, hk.1.2.1⟩)) hg hat); have n1_ := Aside0.mk (blk_grown (g := gb101) (o := .cells #[.int .i64 a2_0, .int .i64 a2_1, .slice A2_2 l2_2.length c2_2] 33 (0, 0)) (by (with_reducible repeat (first | refine qn_ ?_ _ | refine qq_ ?_ | refine ql_ ?_ _)); exact BK101.out) hg (Kd.N_ne HO_7.out BK101.out (by decide))); have n2_ := Aside0.mk (hb); have n3_ := Aside0.mk (ho); clear HO_9; clear BK101; clear HB; clear HO_7; clear HO130; have HO_9 := n0_; have BK101 := n1_; have HB := n2_; have HO133 := n3_; clear n0_ n1_ n2_ n3_; clear ho hb hg hat))
      go_ret
      exact ⟨_, by first | rfl | (simp [errW_none, errW_some] <;> rfl) | (simp [*, errW_none, errW_some] <;> rfl), by (with_reducible repeat (first | apply Kd.N_alloc | apply Kd.N_drewN | apply Kd.N_drew)); exact Kd.N_mono HO133.out (fun _ hk => hk.1), by repeat (first | (with_reducible first | exact HB.out | apply qc_ | apply qa_ | apply qb_ | refine qk_ ?_ GE101.out) | exact HB.out)⟩
     ·rw [if_neg c30] at H
      exact absurd H (by simp)
end Go.Proofs.Ytcmligagkaimeaa.P

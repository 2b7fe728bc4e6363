/- What this function of the program comes to, and that the machine's call does it: written by a program (wip/tool). No condition. -/
import Derived.Test.YtfoeahjbkmdgfaaP0
import Derived.Test.YtfoeahjbkmdgfaaHw
namespace Go.Proofs.Ytfoeahjbkmdgfaa.P
open Go.RowKit Go.Proofs.YtfoeahjbkmdgfaaW.PrintWords Go.Proofs.YtfoeahjbkmdgfaaW.PrintLast Go.Proofs.YtfoeahjbkmdgfaaW.PrintMore
attribute [local go_sem] max2_int min2_int max_two min_two vb_ va_ max_four min_four Go.Proofs.YtfoeahjbkmdgfaaW.Hw.string_gtr   -- for this text's walks alone
set_option linter.unusedVariables false
set_option linter.unusedSimpArgs false
/-! ### ref04_Put: function 34 -/
mutual
def ref04_Put.l0 : Nat → List (S40) → List (S40) → Bool → Int → Int → Int → ByteArray → Option ((List (S40)))
 | 0, _, _, _, _, _, _, _ => none
 | k + 1, x0, x5, x6, x7, x102000, x102001, x102002 => if x7 < (x0.length : Int) then (if x6 = true then (ref04_Put.j1 k x0 x5 x6 x7 false x102000 x102001 x102002) else (if 0 ≤ x7 then (ref04_Put.j1 k x0 x5 x6 x7 (decide (((rd_T40 x0 x7).f0) ≥ x102000)) x102000 x102001 x102002) else (none))) else (if x6 = true then (some x5) else (if x5.length < 4398046511104 then (some (x5 ++ [(⟨x102000, x102001, x102002⟩ : S40)])) else (none)))
def ref04_Put.j1 : Nat → List (S40) → List (S40) → Bool → Int → Bool → Int → Int → ByteArray → Option ((List (S40)))
 | 0, _, _, _, _, _, _, _, _ => none
 | k + 1, x0, x5, x6, x7, x25, x102000, x102001, x102002 => if x25 = true then (if x5.length < 4398046511104 then ((some (x5 ++ [(⟨x102000, x102001, x102002⟩ : S40)] : List (S40))).bind fun y106 => (if 0 ≤ x7 then (if x7 < (x0.length : Int) then (if ((rd_T40 x0 x7).f0) = x102000 then (ref04_Put.l0 k x0 y106 true (wrap64 (x7 + 1)) x102000 x102001 x102002) else (if y106.length < 4398046511104 then (ref04_Put.l0 k x0 (y106 ++ [(⟨(rd_T40 x0 x7).f0, (rd_T40 x0 x7).f1, (rd_T40 x0 x7).f2⟩ : S40)]) true (wrap64 (x7 + 1)) x102000 x102001 x102002) else (none))) else (none)) else (none))) else (none)) else (if 0 ≤ x7 then (if x7 < (x0.length : Int) then (if ((rd_T40 x0 x7).f0) = x102000 then (ref04_Put.l0 k x0 x5 x6 (wrap64 (x7 + 1)) x102000 x102001 x102002) else (if x5.length < 4398046511104 then (ref04_Put.l0 k x0 (x5 ++ [(⟨(rd_T40 x0 x7).f0, (rd_T40 x0 x7).f1, (rd_T40 x0 x7).f2⟩ : S40)]) x6 (wrap64 (x7 + 1)) x102000 x102001 x102002) else (none))) else (none)) else (none))
end
def ref04_Put.f (k : Nat) (l0 : List (S40)) (a1_0 : Int) (a1_1 : Int) (a1_2 : ByteArray) : Option ((List (S40))) := ref04_Put.l0 k l0 ([] : List (S40)) false 0 a1_0 a1_1 a1_2
theorem ref04_Put.mono_l : ∀ k, (∀ y0 y1 y2 y3 y4 y5 y6, LeO (ref04_Put.l0 k y0 y1 y2 y3 y4 y5 y6) (ref04_Put.l0 (k + 1) y0 y1 y2 y3 y4 y5 y6)) ∧ (∀ y0 y1 y2 y3 y4 y5 y6 y7, LeO (ref04_Put.j1 k y0 y1 y2 y3 y4 y5 y6 y7) (ref04_Put.j1 (k + 1) y0 y1 y2 y3 y4 y5 y6 y7))
 | 0 => ⟨fun _ _ _ _ _ _ _ r h => by simp [ref04_Put.l0] at h, fun _ _ _ _ _ _ _ _ r h => by simp [ref04_Put.j1] at h⟩
 | k + 1 => by
  obtain ⟨ih0, ih1⟩ := ref04_Put.mono_l k
  refine ⟨?_, ?_⟩
  ·intro y0 y1 y2 y3 y4 y5 y6
   unfold ref04_Put.l0
   repeat' first
   | (with_reducible exact ih0 _ _ _ _ _ _ _)
   | (with_reducible exact ih1 _ _ _ _ _ _ _ _)
   | (with_reducible exact LeO.refl _)
   | (with_reducible exact LeO.none _)
   | (with_reducible refine LeO.ite ?_ ?_)
   | (with_reducible refine LeO.bind ?_ (fun _ => ?_))
   | exact ih0 _ _ _ _ _ _ _
   | exact ih1 _ _ _ _ _ _ _ _
   | exact LeO.none _
   | refine LeO.ite ?_ ?_
   | refine LeO.bind ?_ (fun _ => ?_)
  ·intro y0 y1 y2 y3 y4 y5 y6 y7
   unfold ref04_Put.j1
   repeat' first
   | (with_reducible exact ih0 _ _ _ _ _ _ _)
   | (with_reducible exact ih1 _ _ _ _ _ _ _ _)
   | (with_reducible exact LeO.refl _)
   | (with_reducible exact LeO.none _)
   | (with_reducible refine LeO.ite ?_ ?_)
   | (with_reducible refine LeO.bind ?_ (fun _ => ?_))
   | exact ih0 _ _ _ _ _ _ _
   | exact ih1 _ _ _ _ _ _ _ _
   | exact LeO.none _
   | refine LeO.ite ?_ ?_
   | refine LeO.bind ?_ (fun _ => ?_)
theorem ref04_Put.mono : ∀ a0 a1 a2 a3 k, LeO (ref04_Put.f k a0 a1 a2 a3) (ref04_Put.f (k + 1) a0 a1 a2 a3) := by
 intro a0 a1 a2 a3 k
 obtain ⟨ih0, ih1⟩ := ref04_Put.mono_l k
 unfold ref04_Put.f
 repeat' first
   | (with_reducible exact ih0 _ _ _ _ _ _ _)
   | (with_reducible exact ih1 _ _ _ _ _ _ _ _)
   | (with_reducible exact LeO.refl _)
   | (with_reducible exact LeO.none _)
   | (with_reducible refine LeO.ite ?_ ?_)
   | (with_reducible refine LeO.bind ?_ (fun _ => ?_))
   | exact ih0 _ _ _ _ _ _ _
   | exact ih1 _ _ _ _ _ _ _ _
   | exact LeO.none _
   | refine LeO.ite ?_ ?_
   | refine LeO.bind ?_ (fun _ => ?_)
set_option maxHeartbeats 8000000 in
set_option maxRecDepth 100000 in
theorem ref04_Put.calls (k : Nat) (A0 : Option Addr) (c0 : Nat) (l0 : List (S40)) (a1_0 : Int) (a1_1 : Int) (a1_2 : ByteArray) (r : List (S40)) (w : World) (hr0 : Kd.C k40 w A0 l0.length l0) (hc0 : l0.length ≤ c0) (h : ref04_Put.f k l0 a1_0 a1_1 a1_2 = some r) :
  Calls Try.prog 34 #[.slice A0 l0.length c0, .agg #[.int .i64 a1_0, .int .i64 a1_1, .string a1_2]] w fun e w' => ∃ v0_ : Value, e = .returned (v0_) ∧ Kd.R k40 40 w' w.heap.size (fun _ => True) v0_ r ∧ Below w.heap.size w w' := by
 have hu40 := Try.underlying40
 have HR0 := Aside0.mk hr0
 have HC0 := Aside0.mk hc0
 clear hr0 hc0
 have HB := Aside0.mk (Below.refl w.heap.size w)
 have H : (ref04_Put.l0 k l0 ([] : List (S40)) false 0 a1_0 a1_1 a1_2) = some r := h
 clear h
 have H' := Aside0.mk H
 clear H
 go_enter Try.func34, Try.ntmps34
 go_wp2_with (first | ((with_reducible refine qq_ (N := 3) rfl ?_); refine qp_ ?hg (N := 3) ?hd (cs := #[.int .i64 a1_0, .int .i64 a1_1, .string a1_2]) (t := 40) ?hr ?_; (case hd => rfl); (case hg => rfl); (case hr => first | (go_simp; done) | (go_simp; rfl)); intro gb101 hg w3 hbox hb; have n0_ := Aside0.mk (ql_ (by repeat (first | (with_reducible first | exact HB.out | apply qc_ | apply qa_ | apply qb_) | exact HB.out)) hb); have n1_ := Aside0.mk (hbox); have n2_ := Aside0.mk ((by rw [hg]; exact (qj_ (by repeat (first | (with_reducible first | exact HB.out | apply qc_ | apply qa_ | apply qb_) | exact HB.out))) : w.heap.size ≤ gb101)); have n3_ := Aside0.mk ((by rw [hg]; exact (qj_ (by repeat (first | (with_reducible first | exact HB.out | apply qc_ | apply qa_ | apply qb_) | exact HB.out))) : w.heap.size ≤ gb101)); clear HB; have HB := n0_; have BK101 := n1_; have GW101 := n2_; have GE101 := n3_; clear n0_ n1_ n2_ n3_; clear hb hbox hg))
 repeat (go_quiet (first | ((with_reducible refine qq_ (N := 3) rfl ?_); refine qp_ ?hg (N := 3) ?hd (cs := #[.int .i64 a1_0, .int .i64 a1_1, .string a1_2]) (t := 40) ?hr ?_; (case hd => rfl); (case hg => rfl); (case hr => first | (go_simp; done) | (go_simp; rfl)); intro gb101 hg w3 hbox hb; have n0_ := Aside0.mk (ql_ (by repeat (first | (with_reducible first | exact HB.out | apply qc_ | apply qa_ | apply qb_) | exact HB.out)) hb); have n1_ := Aside0.mk (hbox); have n2_ := Aside0.mk ((by rw [hg]; exact (qj_ (by repeat (first | (with_reducible first | exact HB.out | apply qc_ | apply qa_ | apply qb_) | exact HB.out))) : w.heap.size ≤ gb101)); have n3_ := Aside0.mk ((by rw [hg]; exact (qj_ (by repeat (first | (with_reducible first | exact HB.out | apply qc_ | apply qa_ | apply qb_) | exact HB.out))) : w.heap.size ≤ gb101)); clear HB; have HB := n0_; have BK101 := n1_; have GW101 := n2_; have GE101 := n3_; clear n0_ n1_ n2_ n3_; clear hb hbox hg)); try go_wp2_with (first | ((with_reducible refine qq_ (N := 3) rfl ?_); refine qp_ ?hg (N := 3) ?hd (cs := #[.int .i64 a1_0, .int .i64 a1_1, .string a1_2]) (t := 40) ?hr ?_; (case hd => rfl); (case hg => rfl); (case hr => first | (go_simp; done) | (go_simp; rfl)); intro gb101 hg w3 hbox hb; have n0_ := Aside0.mk (ql_ (by repeat (first | (with_reducible first | exact HB.out | apply qc_ | apply qa_ | apply qb_) | exact HB.out)) hb); have n1_ := Aside0.mk (hbox); have n2_ := Aside0.mk ((by rw [hg]; exact (qj_ (by repeat (first | (with_reducible first | exact HB.out | apply qc_ | apply qa_ | apply qb_) | exact HB.out))) : w.heap.size ≤ gb101)); have n3_ := Aside0.mk ((by rw [hg]; exact (qj_ (by repeat (first | (with_reducible first | exact HB.out | apply qc_ | apply qa_ | apply qb_) | exact HB.out))) : w.heap.size ≤ gb101)); clear HB; have HB := n0_; have BK101 := n1_; have GW101 := n2_; have GE101 := n3_; clear n0_ n1_ n2_ n3_; clear hb hbox hg)))
 go_loopg [5, 6, 7] k (fun kq v5 v6 v7 w' => ∃ (x5_1 : List (S40)) (x6_1 : Bool) (x7_1 : Int), v6 = .bool x6_1 ∧ v7 = .int .i64 x7_1 ∧ Aside0 (ref04_Put.l0 kq l0 x5_1 x6_1 x7_1 a1_0 a1_1 a1_2 = some r) ∧ Aside0 (kq ≤ k) ∧ Aside0 (Kd.R k40 40 w' w.heap.size (fun k_ => k_ ≠ gb101) v5 x5_1) ∧ Aside0 (w'.heap[gb101]? = some (.cells #[.int .i64 a1_0, .int .i64 a1_1, .string a1_2] 40 (0, 0))) ∧ Aside0 (Below w.heap.size w w'))
 case atStart => exact ⟨(([] : List (S40))), (false), (0), (by first | rfl | (simp; done) | (simp [*]; done)), (by first | rfl | (simp; done) | (simp [*]; done)), H', ⟨Nat.le_refl _⟩, ⟨by first | exact Kd.R_nil _ _ _ _ _ | exact Kd.N_nil _ _ _ _ _ | exact Kd.V_nil _ _ _ _ _ | exact Kd.Q_nil _ _ _ _ _ | exact Kd.S_nil _ _ _ _ _⟩, ⟨by (with_reducible repeat (first | refine qe_ ?_ _ | refine qh_ ?_ | refine qd_ ?_ _)); exact BK101.out⟩, ⟨by repeat (first | (with_reducible first | exact HB.out | apply qc_ | apply qa_ | apply qb_ | refine qf_ ?_ GE101.out) | exact HB.out)⟩⟩
 case round =>
  clear H'
  try clear p2
  try clear c3
  obtain ⟨x5_1, x6_1, x7_1, rfl, rfl, HA, HK1, HO_5, BK101, HB⟩ := hrel
  cases gk with
  | zero => exact absurd HA.out (by simp [ref04_Put.l0])
  | succ k1 =>
   have H := HA.out
   clear HA
   simp only [ref04_Put.l0] at H
   by_cases c4 : x7_1 < (l0.length : Int)
   ·rw [if_pos c4] at H
    have c4b0 : decide (x7_1 < (l0.length : Int)) = true := decide_eq_true c4
    clear c4
    have HC5 := Aside0.mk H
    clear H
    go_upto_region 6 with (fail)
    repeat (go_quiet (fail); go_upto_region 6 with (fail))
    go_cut [25] (fun v25 wc => ∃ (kq : Nat) (x25_4 : Bool), v25 = .bool x25_4 ∧ Aside0 (ref04_Put.j1 kq l0 x5_1 x6_1 x7_1 x25_4 a1_0 a1_1 a1_2 = some r) ∧ Aside0 (kq ≤ k1) ∧ Aside0 (Kd.R k40 40 wc w.heap.size (fun k_ => k_ ≠ gb101) u5 x5_1) ∧ Aside0 (wc.heap[gb101]? = some (.cells #[.int .i64 a1_0, .int .i64 a1_1, .string a1_2] 40 (0, 0))) ∧ Aside0 (Below w.heap.size w wc))
    case first =>
     have H := HC5.out
     clear HC5
     by_cases c6 : x6_1 = true
     ·subst c6
      have H1 : (ref04_Put.j1 k1 l0 x5_1 true x7_1 false a1_0 a1_1 a1_2) = some r := by rw [if_pos rfl] at H; exact H
      clear H
      have H := H1
      clear H1
      have H' := Aside0.mk H
      clear H
      go_wp2
      repeat (go_quiet (fail); try go_wp2)
      go_meet
      case rel => exact ⟨_, (false), (by first | rfl | (simp; done) | (simp [*]; done)), H', ⟨by have := HK1.out; first | omega | exact Nat.le_refl _⟩, ⟨by (with_reducible repeat (first | apply Kd.qw_ | apply Kd.qv_ | apply Kd.R_drew)); exact HO_5.out⟩, ⟨by (with_reducible repeat (first | refine qe_ ?_ _ | refine qh_ ?_ | refine qd_ ?_ _)); exact BK101.out⟩, ⟨by repeat (first | (with_reducible first | exact HB.out | apply qc_ | apply qa_ | apply qb_ | refine qf_ ?_ GE101.out) | exact HB.out)⟩⟩
     ·replace c6 := Bool.eq_false_iff.mpr c6
      subst c6
      have H1 : (if 0 ≤ x7_1 then (ref04_Put.j1 k1 l0 x5_1 false x7_1 (decide (((rd_T40 l0 x7_1).f0) ≥ a1_0)) a1_0 a1_1 a1_2) else (none)) = some r := by rw [if_neg (show ¬ (false = true) by decide)] at H; exact H
      clear H
      have H := H1
      clear H1
      by_cases c7 : 0 ≤ x7_1
      ·rw [if_pos c7] at H
       have c7b0 : decide (0 ≤ x7_1) = true := decide_eq_true c7
       clear c7
       (first | rw [c7b0] | (simp only [i64_w, i32_w]; rw [c7b0]) | skip)
       have H' := Aside0.mk H
       clear H
       have p105 : 0 ≤ (x7_1 : Int) := of_decide_eq_true (by first | (with_reducible assumption) | assumption)
       have q105 : x7_1 < (l0.length : Int) := of_decide_eq_true (by first | (with_reducible assumption) | assumption)
       obtain ⟨ad105, e105, hx105_0, hx105_1, hx105_2⟩ := at_T40 HR0.out x7_1 p105 q105
       cases e105
       replace hx105_0 := (HB.out.cell (wb_ w _ hx105_0)).trans hx105_0
       replace hx105_1 := (HB.out.cell (wb_ w _ hx105_1)).trans hx105_1
       replace hx105_2 := (HB.out.cell (wb_ w _ hx105_2)).trans hx105_2
       replace p105 := eq_true p105
       replace q105 := eq_true q105
       have hcz8_0 : wr.cell? ⟨gb101, 0, none⟩ = some (.int .i64 a1_0) := (qg_ BK101.out 0).trans rfl
       have hcz8_1 : wr.cell? ⟨gb101, 1, none⟩ = some (.int .i64 a1_1) := (qg_ BK101.out 1).trans rfl
       have hcz8_2 : wr.cell? ⟨gb101, 2, none⟩ = some (.string a1_2) := (qg_ BK101.out 2).trans rfl
       have hfz8_0 := qi_ BK101.out 0
       have hfz8_1 := qi_ BK101.out 1
       have hfz8_2 := qi_ BK101.out 2
       go_wp2
       repeat (go_quiet (fail); try go_wp2)
       go_meet
       case rel => exact ⟨_, (decide (((rd_T40 l0 x7_1).f0) ≥ a1_0)), (by first | rfl | (simp; done) | (simp [*]; done)), H', ⟨by have := HK1.out; first | omega | exact Nat.le_refl _⟩, ⟨by (with_reducible repeat (first | apply Kd.qw_ | apply Kd.qv_ | apply Kd.R_drew)); exact HO_5.out⟩, ⟨by (with_reducible repeat (first | refine qe_ ?_ _ | refine qh_ ?_ | refine qd_ ?_ _)); exact BK101.out⟩, ⟨by repeat (first | (with_reducible first | exact HB.out | apply qc_ | apply qa_ | apply qb_ | refine qf_ ?_ GE101.out) | exact HB.out)⟩⟩
      ·rw [if_neg c7] at H
       exact absurd H (by simp)
    case rest =>
     clear HC5
     try clear p1
     try clear q1
     try clear hx1
     try clear p2
     try clear c3
     try clear c4
     try clear c4b0
     try clear c6
     try clear c7
     try clear c7b0
     try clear hcz8_0
     try clear hcz8_1
     try clear hcz8_2
     try clear hfz8_0
     try clear hfz8_1
     try clear hfz8_2
     try clear hx105_0
     try clear hx105_1
     try clear hx105_2
     try clear p105
     try clear p2
     try clear q105
     obtain ⟨kq, x25_4, rfl, HA, HJ4, HO_5, BK101, HB⟩ := hcut
     cases kq with
     | zero => exact absurd HA.out (by simp [ref04_Put.j1])
     | succ kj4 =>
      have H := HA.out
      clear HA
      simp only [ref04_Put.j1] at H
      by_cases c9 : x25_4 = true
      ·subst c9
       have H1 : (if x5_1.length < 4398046511104 then ((some (x5_1 ++ [(⟨a1_0, a1_1, a1_2⟩ : S40)] : List (S40))).bind fun y106 => (if 0 ≤ x7_1 then (if x7_1 < (l0.length : Int) then (if ((rd_T40 l0 x7_1).f0) = a1_0 then (ref04_Put.l0 kj4 l0 y106 true (wrap64 (x7_1 + 1)) a1_0 a1_1 a1_2) else (if y106.length < 4398046511104 then (ref04_Put.l0 kj4 l0 (y106 ++ [(⟨(rd_T40 l0 x7_1).f0, (rd_T40 l0 x7_1).f1, (rd_T40 l0 x7_1).f2⟩ : S40)]) true (wrap64 (x7_1 + 1)) a1_0 a1_1 a1_2) else (none))) else (none)) else (none))) else (none)) = some r := by rw [if_pos rfl] at H; exact H
       clear H
       have H := H1
       clear H1
       by_cases c10 : x5_1.length < 4398046511104
       ·rw [if_pos c10] at H
        have LMc10 := Aside0.mk c10
        clear c10
        obtain ⟨y106, hy106⟩ : ∃ y_ : List (S40), y_ = (x5_1 ++ [(⟨a1_0, a1_1, a1_2⟩ : S40)]) := ⟨_, rfl⟩
        replace H : (if 0 ≤ x7_1 then (if x7_1 < (l0.length : Int) then (if ((rd_T40 l0 x7_1).f0) = a1_0 then (ref04_Put.l0 kj4 l0 y106 true (wrap64 (x7_1 + 1)) a1_0 a1_1 a1_2) else (if y106.length < 4398046511104 then (ref04_Put.l0 kj4 l0 (y106 ++ [(⟨(rd_T40 l0 x7_1).f0, (rd_T40 l0 x7_1).f1, (rd_T40 l0 x7_1).f2⟩ : S40)]) true (wrap64 (x7_1 + 1)) a1_0 a1_1 a1_2) else (none))) else (none)) else (none)) = some r := by first | (rw [hy106]; with_reducible exact H) | (have H2_ := (Option.bind_some _ _).symm.trans H; rw [hy106]; with_reducible exact H2_) | (have H2_ := (Option.bind_some _ _).symm.trans H; with_reducible exact H2_) | with_reducible exact H | (rw [hy106]; exact H) | exact H
        have Ny106 := Aside0.mk hy106
        clear hy106
        by_cases c11 : 0 ≤ x7_1
        ·rw [if_pos c11] at H
         have c11b0 : decide (0 ≤ x7_1) = true := decide_eq_true c11
         clear c11
         by_cases c12 : x7_1 < (l0.length : Int)
         ·rw [if_pos c12] at H
          have c12b0 : decide (x7_1 < (l0.length : Int)) = true := decide_eq_true c12
          clear c12
          by_cases c13 : ((rd_T40 l0 x7_1).f0) = a1_0
          ·rw [if_pos c13] at H
           have c13b0 : (((rd_T40 l0 x7_1).f0) == a1_0) = true := beq_iff_eq.mpr c13
           have c13b1 : (((rd_T40 l0 x7_1).f0) != a1_0) = false := bne_eq_false_iff_eq.mpr c13
           clear c13
           have H' := Aside0.mk H
           clear H
           have hcz14_0 : wc.cell? ⟨gb101, 0, none⟩ = some (.int .i64 a1_0) := (qg_ BK101.out 0).trans rfl
           have hcz14_1 : wc.cell? ⟨gb101, 1, none⟩ = some (.int .i64 a1_1) := (qg_ BK101.out 1).trans rfl
           have hcz14_2 : wc.cell? ⟨gb101, 2, none⟩ = some (.string a1_2) := (qg_ BK101.out 2).trans rfl
           have hfz14_0 := qi_ BK101.out 0
           have hfz14_1 := qi_ BK101.out 1
           have hfz14_2 := qi_ BK101.out 2
           go_wp2_with (first | ((with_reducible refine gate_builtin (b := .append) (xs := #[.tmp 26, .tmp 28]) rfl ?_); at_builtin; refine Kd.R_append k40 (w0 := w) w.heap.size rfl (.tmp 26) (.tmp 28) 22 40 (.agg #[(.int .i64 0), (.int .i64 0), (.string ⟨#[]⟩)]) 32 rfl Try.underlying22 info40 rfl (by decide) (by omega) u5 x5_1 (⟨a1_0, a1_1, a1_2⟩ : S40) [.int .i64 a1_0, .int .i64 a1_1, .string a1_2] (fun k_ => k_ ≠ gb101) (fun _ => False) rfl rfl ?aP (fun _ hk => hk.elim) ?aF ?aO ?aB ?aS ?aL ?_; (case aP => exact k40_mkM _ _ _ (⟨a1_0, a1_1, a1_2⟩ : S40)); (case aB => exact (by repeat (first | (with_reducible first | exact HB.out | apply qc_ | apply qa_ | apply qb_ | refine qf_ ?_ GE101.out) | exact HB.out))); (case aF => exact (fun k_ hk => Kd.freshB (g := gb101) (o := .cells #[.int .i64 a1_0, .int .i64 a1_1, .string a1_2] 40 (0, 0)) (by (with_reducible repeat (first | refine qe_ ?_ _ | refine qh_ ?_ | refine qd_ ?_ _)); exact BK101.out) k_ hk)); (case aO => exact (by (with_reducible repeat (first | apply Kd.qw_ | apply Kd.qv_ | apply Kd.R_drew)); exact HO_5.out)); (case aS => exact (qj_ (by repeat (first | (with_reducible first | exact HB.out | apply qc_ | apply qa_ | apply qb_ | refine qf_ ?_ GE101.out) | exact HB.out)))); (case aL => have := LMc10.out; omega); intro v107 w15 ho hb hg hat; rw [← Ny106.out] at ho; have n0_ := Aside0.mk (blk_grown (g := gb101) (o := .cells #[.int .i64 a1_0, .int .i64 a1_1, .string a1_2] 40 (0, 0)) (by (with_reducible repeat (first | refine qe_ ?_ _ | refine qh_ ?_ | refine qd_ ?_ _)); exact BK101.out) hg (Kd.R_away HO_5.out (fun _ hk => hk))); have n1_ := Aside0.mk (hb); have n2_ := Aside0.mk (ho); clear BK101; clear HB; clear HO_5; have BK101 := n0_; have HB := n1_; have HO108 := n2_; clear n0_ n1_ n2_; clear ho hb hg hat; have p109 : 0 ≤ (x7_1 : Int) := of_decide_eq_true (by first | (with_reducible assumption) | assumption); have q109 : x7_1 < (l0.length : Int) := of_decide_eq_true (by first | (with_reducible assumption) | assumption); obtain ⟨ad109, e109, hx109_0, hx109_1, hx109_2⟩ := at_T40 HR0.out x7_1 p109 q109; cases e109; replace hx109_0 := (HB.out.cell (wb_ w _ hx109_0)).trans hx109_0; replace hx109_1 := (HB.out.cell (wb_ w _ hx109_1)).trans hx109_1; replace hx109_2 := (HB.out.cell (wb_ w _ hx109_2)).trans hx109_2; replace p109 := eq_true p109; replace q109 := eq_true q109; have hcz16_0 : w15.cell? ⟨gb101, 0, none⟩ = some (.int .i64 a1_0) := (qg_ BK101.out 0).trans rfl; have hcz16_1 : w15.cell? ⟨gb101, 1, none⟩ = some (.int .i64 a1_1) := (qg_ BK101.out 1).trans rfl; have hcz16_2 : w15.cell? ⟨gb101, 2, none⟩ = some (.string a1_2) := (qg_ BK101.out 2).trans rfl; have hfz16_0 := qi_ BK101.out 0; have hfz16_1 := qi_ BK101.out 1; have hfz16_2 := qi_ BK101.out 2))
           repeat (go_quiet (first | ((with_reducible refine gate_builtin (b := .append) (xs := #[.tmp 26, .tmp 28]) rfl ?_); at_builtin; refine Kd.R_append k40 (w0 := w) w.heap.size rfl (.tmp 26) (.tmp 28) 22 40 (.agg #[(.int .i64 0), (.int .i64 0), (.string ⟨#[]⟩)]) 32 rfl Try.underlying22 info40 rfl (by decide) (by omega) u5 x5_1 (⟨a1_0, a1_1, a1_2⟩ : S40) [.int .i64 a1_0, .int .i64 a1_1, .string a1_2] (fun k_ => k_ ≠ gb101) (fun _ => False) rfl rfl ?aP (fun _ hk => hk.elim) ?aF ?aO ?aB ?aS ?aL ?_; (case aP => exact k40_mkM _ _ _ (⟨a1_0, a1_1, a1_2⟩ : S40)); (case aB => exact (by repeat (first | (with_reducible first | exact HB.out | apply qc_ | apply qa_ | apply qb_ | refine qf_ ?_ GE101.out) | exact HB.out))); (case aF => exact (fun k_ hk => Kd.freshB (g := gb101) (o := .cells #[.int .i64 a1_0, .int .i64 a1_1, .string a1_2] 40 (0, 0)) (by (with_reducible repeat (first | refine qe_ ?_ _ | refine qh_ ?_ | refine qd_ ?_ _)); exact BK101.out) k_ hk)); (case aO => exact (by (with_reducible repeat (first | apply Kd.qw_ | apply Kd.qv_ | apply Kd.R_drew)); exact HO_5.out)); (case aS => exact (qj_ (by repeat (first | (with_reducible first | exact HB.out | apply qc_ | apply qa_ | apply qb_ | refine qf_ ?_ GE101.out) | exact HB.out)))); (case aL => have := LMc10.out; omega); intro v107 w15 ho hb hg hat; rw [← Ny106.out] at ho; have n0_ := Aside0.mk (blk_grown (g := gb101) (o := .cells #[.int .i64 a1_0, .int .i64 a1_1, .string a1_2] 40 (0, 0)) (by (with_reducible repeat (first | refine qe_ ?_ _ | refine qh_ ?_ | refine qd_ ?_ _)); exact BK101.out) hg (Kd.R_away HO_5.out (fun _ hk => hk))); have n1_ := Aside0.mk (hb); have n2_ := Aside0.mk (ho); clear BK101; clear HB; clear HO_5; have BK101 := n0_; have HB := n1_; have HO108 := n2_; clear n0_ n1_ n2_; clear ho hb hg hat; have p109 : 0 ≤ (x7_1 : Int) := of_decide_eq_true (by first | (with_reducible assumption) | assumption); have q109 : x7_1 < (l0.length : Int) := of_decide_eq_true (by first | (with_reducible assumption) | assumption); obtain ⟨ad109, e109, hx109_0, hx109_1, hx109_2⟩ := at_T40 HR0.out x7_1 p109 q109; cases e109; replace hx109_0 := (HB.out.cell (wb_ w _ hx109_0)).trans hx109_0; replace hx109_1 := (HB.out.cell (wb_ w _ hx109_1)).trans hx109_1; replace hx109_2 := (HB.out.cell (wb_ w _ hx109_2)).trans hx109_2; replace p109 := eq_true p109; replace q109 := eq_true q109; have hcz16_0 : w15.cell? ⟨gb101, 0, none⟩ = some (.int .i64 a1_0) := (qg_ BK101.out 0).trans rfl; have hcz16_1 : w15.cell? ⟨gb101, 1, none⟩ = some (.int .i64 a1_1) := (qg_ BK101.out 1).trans rfl; have hcz16_2 : w15.cell? ⟨gb101, 2, none⟩ = some (.string a1_2) := (qg_ BK101.out 2).trans rfl; have hfz16_0 := qi_ BK101.out 0; have hfz16_1 := qi_ BK101.out 1; have hfz16_2 := qi_ BK101.out 2)); try go_wp2_with (first | ((with_reducible refine gate_builtin (b := .append) (xs := #[.tmp 26, .tmp 28]) rfl ?_); at_builtin; refine Kd.R_append k40 (w0 := w) w.heap.size rfl (.tmp 26) (.tmp 28) 22 40 (.agg #[(.int .i64 0), (.int .i64 0), (.string ⟨#[]⟩)]) 32 rfl Try.underlying22 info40 rfl (by decide) (by omega) u5 x5_1 (⟨a1_0, a1_1, a1_2⟩ : S40) [.int .i64 a1_0, .int .i64 a1_1, .string a1_2] (fun k_ => k_ ≠ gb101) (fun _ => False) rfl rfl ?aP (fun _ hk => hk.elim) ?aF ?aO ?aB ?aS ?aL ?_; (case aP => exact k40_mkM _ _ _ (⟨a1_0, a1_1, a1_2⟩ : S40)); (case aB => exact (by repeat (first | (with_reducible first | exact HB.out | apply qc_ | apply qa_ | apply qb_ | refine qf_ ?_ GE101.out) | exact HB.out))); (case aF => exact (fun k_ hk => Kd.freshB (g := gb101) (o := .cells #[.int .i64 a1_0, .int .i64 a1_1, .string a1_2] 40 (0, 0)) (by (with_reducible repeat (first | refine qe_ ?_ _ | refine qh_ ?_ | refine qd_ ?_ _)); exact BK101.out) k_ hk)); (case aO => exact (by (with_reducible repeat (first | apply Kd.qw_ | apply Kd.qv_ | apply Kd.R_drew)); exact HO_5.out)); (case aS => exact (qj_ (by repeat (first | (with_reducible first | exact HB.out | apply qc_ | apply qa_ | apply qb_ | refine qf_ ?_ GE101.out) | exact HB.out)))); (case aL => have := LMc10.out; omega); intro v107 w15 ho hb hg hat; rw [← Ny106.out] at ho; have n0_ := Aside0.mk (blk_grown (g := gb101) (o := .cells #[.int .i64 a1_0, .int .i64 a1_1, .string a1_2] 40 (0, 0)) (by (with_reducible repeat (first | refine qe_ ?_ _ | refine qh_ ?_ | refine qd_ ?_ _)); exact BK101.out) hg (Kd.R_away HO_5.out (fun _ hk => hk))); have n1_ := Aside0.mk (hb); have n2_ := Aside0.mk (ho); clear BK101; clear HB; clear HO_5; have BK101 := n0_; have HB := n1_; have HO108 := n2_; clear n0_ n1_ n2_; clear ho hb hg hat; have p109 : 0 ≤ (x7_1 : Int) := of_decide_eq_true (by first | (with_reducible assumption) | assumption); have q109 : x7_1 < (l0.length : Int) := of_decide_eq_true (by first | (with_reducible assumption) | assumption); obtain ⟨ad109, e109, hx109_0, hx109_1, hx109_2⟩ := at_T40 HR0.out x7_1 p109 q109; cases e109; replace hx109_0 := (HB.out.cell (wb_ w _ hx109_0)).trans hx109_0; replace hx109_1 := (HB.out.cell (wb_ w _ hx109_1)).trans hx109_1; replace hx109_2 := (HB.out.cell (wb_ w _ hx109_2)).trans hx109_2; replace p109 := eq_true p109; replace q109 := eq_true q109; have hcz16_0 : w15.cell? ⟨gb101, 0, none⟩ = some (.int .i64 a1_0) := (qg_ BK101.out 0).trans rfl; have hcz16_1 : w15.cell? ⟨gb101, 1, none⟩ = some (.int .i64 a1_1) := (qg_ BK101.out 1).trans rfl; have hcz16_2 : w15.cell? ⟨gb101, 2, none⟩ = some (.string a1_2) := (qg_ BK101.out 2).trans rfl; have hfz16_0 := qi_ BK101.out 0; have hfz16_1 := qi_ BK101.out 1; have hfz16_2 := qi_ BK101.out 2)))
           go_roundg kj4
           case measure => have := HK1.out; have := HJ4.out; omega
           case rel => exact ⟨(y106), (true), (wrap64 (x7_1 + 1)), (by first | rfl | (simp; done) | (simp [*]; done)), (by first | rfl | (simp; done) | (simp [*]; done)), H', ⟨by have := HK1.out; have := HJ4.out; omega⟩, ⟨by (with_reducible repeat (first | apply Kd.qw_ | apply Kd.qv_ | apply Kd.R_drew)); exact HO108.out⟩, ⟨by (with_reducible repeat (first | refine qe_ ?_ _ | refine qh_ ?_ | refine qd_ ?_ _)); exact BK101.out⟩, ⟨by repeat (first | (with_reducible first | exact HB.out | apply qc_ | apply qa_ | apply qb_ | refine qf_ ?_ GE101.out) | exact HB.out)⟩⟩
          ·rw [if_neg c13] at H
           have c13b0 : (((rd_T40 l0 x7_1).f0) == a1_0) = false := beq_eq_false_iff_ne.mpr c13
           have c13b1 : (((rd_T40 l0 x7_1).f0) != a1_0) = true := bne_iff_ne.mpr c13
           by_cases c17 : y106.length < 4398046511104
           ·rw [if_pos c17] at H
            have LMc17 := Aside0.mk c17
            clear c17
            obtain ⟨y111, hy111⟩ : ∃ y_ : List (S40), y_ = (y106 ++ [(⟨(rd_T40 l0 x7_1).f0, (rd_T40 l0 x7_1).f1, (rd_T40 l0 x7_1).f2⟩ : S40)]) := ⟨_, rfl⟩
            replace H : (ref04_Put.l0 kj4 l0 y111 true (wrap64 (x7_1 + 1)) a1_0 a1_1 a1_2) = some r := by first | (rw [hy111]; with_reducible exact H) | (have H2_ := (Option.bind_some _ _).symm.trans H; rw [hy111]; with_reducible exact H2_) | (have H2_ := (Option.bind_some _ _).symm.trans H; with_reducible exact H2_) | with_reducible exact H | (rw [hy111]; exact H) | exact H
            have Ny111 := Aside0.mk hy111
            clear hy111
            have H' := Aside0.mk H
            clear H
            have hcz18_0 : wc.cell? ⟨gb101, 0, none⟩ = some (.int .i64 a1_0) := (qg_ BK101.out 0).trans rfl
            have hcz18_1 : wc.cell? ⟨gb101, 1, none⟩ = some (.int .i64 a1_1) := (qg_ BK101.out 1).trans rfl
            have hcz18_2 : wc.cell? ⟨gb101, 2, none⟩ = some (.string a1_2) := (qg_ BK101.out 2).trans rfl
            have hfz18_0 := qi_ BK101.out 0
            have hfz18_1 := qi_ BK101.out 1
            have hfz18_2 := qi_ BK101.out 2
            go_wp2_with (first | ((with_reducible refine gate_builtin (b := .append) (xs := #[.tmp 26, .tmp 28]) rfl ?_); at_builtin; refine Kd.R_append k40 (w0 := w) w.heap.size rfl (.tmp 26) (.tmp 28) 22 40 (.agg #[(.int .i64 0), (.int .i64 0), (.string ⟨#[]⟩)]) 32 rfl Try.underlying22 info40 rfl (by decide) (by omega) u5 x5_1 (⟨a1_0, a1_1, a1_2⟩ : S40) [.int .i64 a1_0, .int .i64 a1_1, .string a1_2] (fun k_ => k_ ≠ gb101) (fun _ => False) rfl rfl ?aP (fun _ hk => hk.elim) ?aF ?aO ?aB ?aS ?aL ?_; (case aP => exact k40_mkM _ _ _ (⟨a1_0, a1_1, a1_2⟩ : S40)); (case aB => exact (by repeat (first | (with_reducible first | exact HB.out | apply qc_ | apply qa_ | apply qb_ | refine qf_ ?_ GE101.out) | exact HB.out))); (case aF => exact (fun k_ hk => Kd.freshB (g := gb101) (o := .cells #[.int .i64 a1_0, .int .i64 a1_1, .string a1_2] 40 (0, 0)) (by (with_reducible repeat (first | refine qe_ ?_ _ | refine qh_ ?_ | refine qd_ ?_ _)); exact BK101.out) k_ hk)); (case aO => exact (by (with_reducible repeat (first | apply Kd.qw_ | apply Kd.qv_ | apply Kd.R_drew)); exact HO_5.out)); (case aS => exact (qj_ (by repeat (first | (with_reducible first | exact HB.out | apply qc_ | apply qa_ | apply qb_ | refine qf_ ?_ GE101.out) | exact HB.out)))); (case aL => have := LMc10.out; omega); intro v107 w19 ho hb hg hat; rw [← Ny106.out] at ho; have n0_ := Aside0.mk (blk_grown (g := gb101) (o := .cells #[.int .i64 a1_0, .int .i64 a1_1, .string a1_2] 40 (0, 0)) (by (with_reducible repeat (first | refine qe_ ?_ _ | refine qh_ ?_ | refine qd_ ?_ _)); exact BK101.out) hg (Kd.R_away HO_5.out (fun _ hk => hk))); have n1_ := Aside0.mk (hb); have n2_ := Aside0.mk (ho); clear BK101; clear HB; clear HO_5; have BK101 := n0_; have HB := n1_; have HO108 := n2_; clear n0_ n1_ n2_; clear ho hb hg hat; have p109 : 0 ≤ (x7_1 : Int) := of_decide_eq_true (by first | (with_reducible assumption) | assumption); have q109 : x7_1 < (l0.length : Int) := of_decide_eq_true (by first | (with_reducible assumption) | assumption); obtain ⟨ad109, e109, hx109_0, hx109_1, hx109_2⟩ := at_T40 HR0.out x7_1 p109 q109; cases e109; replace hx109_0 := (HB.out.cell (wb_ w _ hx109_0)).trans hx109_0; replace hx109_1 := (HB.out.cell (wb_ w _ hx109_1)).trans hx109_1; replace hx109_2 := (HB.out.cell (wb_ w _ hx109_2)).trans hx109_2; replace p109 := eq_true p109; replace q109 := eq_true q109; have hcz20_0 : w19.cell? ⟨gb101, 0, none⟩ = some (.int .i64 a1_0) := (qg_ BK101.out 0).trans rfl; have hcz20_1 : w19.cell? ⟨gb101, 1, none⟩ = some (.int .i64 a1_1) := (qg_ BK101.out 1).trans rfl; have hcz20_2 : w19.cell? ⟨gb101, 2, none⟩ = some (.string a1_2) := (qg_ BK101.out 2).trans rfl; have hfz20_0 := qi_ BK101.out 0; have hfz20_1 := qi_ BK101.out 1; have hfz20_2 := qi_ BK101.out 2; have p110 : 0 ≤ (x7_1 : Int) := of_decide_eq_true (by first | (with_reducible assumption) | assumption); have q110 : x7_1 < (l0.length : Int) := of_decide_eq_true (by first | (with_reducible assumption) | assumption); obtain ⟨ad110, e110, hx110_0, hx110_1, hx110_2⟩ := at_T40 HR0.out x7_1 p110 q110; obtain rfl : ad109 = ad110 := (by injection e110); replace hx110_0 := (HB.out.cell (wb_ w _ hx110_0)).trans hx110_0; replace hx110_1 := (HB.out.cell (wb_ w _ hx110_1)).trans hx110_1; replace hx110_2 := (HB.out.cell (wb_ w _ hx110_2)).trans hx110_2; replace p110 := eq_true p110; replace q110 := eq_true q110) | ((with_reducible refine gate_builtin (b := .append) (xs := #[.tmp 38, .tmp 43]) rfl ?_); at_builtin; refine Kd.R_append k40 (w0 := w) w.heap.size rfl (.tmp 38) (.tmp 43) 22 40 (.agg #[(.int .i64 0), (.int .i64 0), (.string ⟨#[]⟩)]) 32 rfl Try.underlying22 info40 rfl (by decide) (by omega) v107 y106 (⟨(rd_T40 l0 x7_1).f0, (rd_T40 l0 x7_1).f1, (rd_T40 l0 x7_1).f2⟩ : S40) [.int .i64 ((rd_T40 l0 x7_1).f0), .int .i64 ((rd_T40 l0 x7_1).f1), .string ((rd_T40 l0 x7_1).f2)] (fun k_ => k_ ≠ gb101) (fun _ => False) rfl rfl ?aP (fun _ hk => hk.elim) ?aF ?aO ?aB ?aS ?aL ?_; (case aP => exact k40_mkM _ _ _ (⟨(rd_T40 l0 x7_1).f0, (rd_T40 l0 x7_1).f1, (rd_T40 l0 x7_1).f2⟩ : S40)); (case aB => exact (by repeat (first | (with_reducible first | exact HB.out | apply qc_ | apply qa_ | apply qb_ | refine qf_ ?_ GE101.out) | exact HB.out))); (case aF => exact (fun k_ hk => Kd.freshB (g := gb101) (o := .cells #[.int .i64 a1_0, .int .i64 a1_1, .string a1_2] 40 (0, 0)) (by (with_reducible repeat (first | refine qe_ ?_ _ | refine qh_ ?_ | refine qd_ ?_ _)); exact BK101.out) k_ hk)); (case aO => exact (by (with_reducible repeat (first | apply Kd.qw_ | apply Kd.qv_ | apply Kd.R_drew)); exact HO108.out)); (case aS => exact (qj_ (by repeat (first | (with_reducible first | exact HB.out | apply qc_ | apply qa_ | apply qb_ | refine qf_ ?_ GE101.out) | exact HB.out)))); (case aL => have := LMc17.out; omega); intro v112 w21 ho hb hg hat; rw [← Ny111.out] at ho; have n0_ := Aside0.mk (blk_grown (g := gb101) (o := .cells #[.int .i64 a1_0, .int .i64 a1_1, .string a1_2] 40 (0, 0)) (by (with_reducible repeat (first | refine qe_ ?_ _ | refine qh_ ?_ | refine qd_ ?_ _)); exact BK101.out) hg (Kd.R_away HO108.out (fun _ hk => hk))); have n1_ := Aside0.mk (hb); have n2_ := Aside0.mk (ho); clear BK101; clear HB; clear HO108; have BK101 := n0_; have HB := n1_; have HO113 := n2_; clear n0_ n1_ n2_; clear ho hb hg hat))
            repeat (go_quiet (first | ((with_reducible refine gate_builtin (b := .append) (xs := #[.tmp 26, .tmp 28]) rfl ?_); at_builtin; refine Kd.R_append k40 (w0 := w) w.heap.size rfl (.tmp 26) (.tmp 28) 22 40 (.agg #[(.int .i64 0), (.int .i64 0), (.string ⟨#[]⟩)]) 32 rfl Try.underlying22 info40 rfl (by decide) (by omega) u5 x5_1 (⟨a1_0, a1_1, a1_2⟩ : S40) [.int .i64 a1_0, .int .i64 a1_1, .string a1_2] (fun k_ => k_ ≠ gb101) (fun _ => False) rfl rfl ?aP (fun _ hk => hk.elim) ?aF ?aO ?aB ?aS ?aL ?_; (case aP => exact k40_mkM _ _ _ (⟨a1_0, a1_1, a1_2⟩ : S40)); (case aB => exact (by repeat (first | (with_reducible first | exact HB.out | apply qc_ | apply qa_ | apply qb_ | refine qf_ ?_ GE101.out) | exact HB.out))); (case aF => exact (fun k_ hk => Kd.freshB (g := gb101) (o := .cells #[.int .i64 a1_0, .int .i64 a1_1, .string a1_2] 40 (0, 0)) (by (with_reducible repeat (first | refine qe_ ?_ _ | refine qh_ ?_ | refine qd_ ?_ _)); exact BK101.out) k_ hk)); (case aO => exact (by (with_reducible repeat (first | apply Kd.qw_ | apply Kd.qv_ | apply Kd.R_drew)); exact HO_5.out)); (case aS => exact (qj_ (by repeat (first | (with_reducible first | exact HB.out | apply qc_ | apply qa_ | apply qb_ | refine qf_ ?_ GE101.out) | exact HB.out)))); (case aL => have := LMc10.out; omega); intro v107 w19 ho hb hg hat; rw [← Ny106.out] at ho; have n0_ := Aside0.mk (blk_grown (g := gb101) (o := .cells #[.int .i64 a1_0, .int .i64 a1_1, .string a1_2] 40 (0, 0)) (by (with_reducible repeat (first | refine qe_ ?_ _ | refine qh_ ?_ | refine qd_ ?_ _)); exact BK101.out) hg (Kd.R_away HO_5.out (fun _ hk => hk))); have n1_ := Aside0.mk (hb); have n2_ := Aside0.mk (ho); clear BK101; clear HB; clear HO_5; have BK101 := n0_; have HB := n1_; have HO108 := n2_; clear n0_ n1_ n2_; clear ho hb hg hat; have p109 : 0 ≤ (x7_1 : Int) := of_decide_eq_true (by first | (with_reducible assumption) | assumption); have q109 : x7_1 < (l0.length : Int) := of_decide_eq_true (by first | (with_reducible assumption) | assumption); obtain ⟨ad109, e109, hx109_0, hx109_1, hx109_2⟩ := at_T40 HR0.out x7_1 p109 q109; cases e109; replace hx109_0 := (HB.out.cell (wb_ w _ hx109_0)).trans hx109_0; replace hx109_1 := (HB.out.cell (wb_ w _ hx109_1)).trans hx109_1; replace hx109_2 := (HB.out.cell (wb_ w _ hx109_2)).trans hx109_2; replace p109 := eq_true p109; replace q109 := eq_true q109; have hcz20_0 : w19.cell? ⟨gb101, 0, none⟩ = some (.int .i64 a1_0) := (qg_ BK101.out 0).trans rfl; have hcz20_1 : w19.cell? ⟨gb101, 1, none⟩ = some (.int .i64 a1_1) := (qg_ BK101.out 1).trans rfl; have hcz20_2 : w19.cell? ⟨gb101, 2, none⟩ = some (.string a1_2) := (qg_ BK101.out 2).trans rfl; have hfz20_0 := qi_ BK101.out 0; have hfz20_1 := qi_ BK101.out 1; have hfz20_2 := qi_ BK101.out 2; have p110 : 0 ≤ (x7_1 : Int) := of_decide_eq_true (by first | (with_reducible assumption) | assumption); have q110 : x7_1 < (l0.length : Int) := of_decide_eq_true (by first | (with_reducible assumption) | assumption); obtain ⟨ad110, e110, hx110_0, hx110_1, hx110_2⟩ := at_T40 HR0.out x7_1 p110 q110; obtain rfl : ad109 = ad110 := (by injection e110); replace hx110_0 := (HB.out.cell (wb_ w _ hx110_0)).trans hx110_0; replace hx110_1 := (HB.out.cell (wb_ w _ hx110_1)).trans hx110_1; replace hx110_2 := (HB.out.cell (wb_ w _ hx110_2)).trans hx110_2; replace p110 := eq_true p110; replace q110 := eq_true q110) | ((with_reducible refine gate_builtin (b := .append) (xs := #[.tmp 38, .tmp 43]) rfl ?_); at_builtin; refine Kd.R_append k40 (w0 := w) w.heap.size rfl (.tmp 38) (.tmp 43) 22 40 (.agg #[(.int .i64 0), (.int .i64 0), (.string ⟨#[]⟩)]) 32 rfl Try.underlying22 info40 rfl (by decide) (by omega) v107 y106 (⟨(rd_T40 l0 x7_1).f0, (rd_T40 l0 x7_1).f1, (rd_T40 l0 x7_1).f2⟩ : S40) [.int .i64 ((rd_T40 l0 x7_1).f0), .int .i64 ((rd_T40 l0 x7_1).f1), .string ((rd_T40 l0 x7_1).f2)] (fun k_ => k_ ≠ gb101) (fun _ => False) rfl rfl ?aP (fun _ hk => hk.elim) ?aF ?aO ?aB ?aS ?aL ?_; (case aP => exact k40_mkM _ _ _ (⟨(rd_T40 l0 x7_1).f0, (rd_T40 l0 x7_1).f1, (rd_T40 l0 x7_1).f2⟩ : S40)); (case aB => exact (by repeat (first | (with_reducible first | exact HB.out | apply qc_ | apply qa_ | apply qb_ | refine qf_ ?_ GE101.out) | exact HB.out))); (case aF => exact (fun k_ hk => Kd.freshB (g := gb101) (o := .cells #[.int .i64 a1_0, .int .i64 a1_1, .string a1_2] 40 (0, 0)) (by (with_reducible repeat (first | refine qe_ ?_ _ | refine qh_ ?_ | refine qd_ ?_ _)); exact BK101.out) k_ hk)); (case aO => exact (by (with_reducible repeat (first | apply Kd.qw_ | apply Kd.qv_ | apply Kd.R_drew)); exact HO108.out)); (case aS => exact (qj_ (by repeat (first | (with_reducible first | exact HB.out | apply qc_ | apply qa_ | apply qb_ | refine qf_ ?_ GE101.out) | exact HB.out)))); (case aL => have := LMc17.out; omega); intro v112 w21 ho hb hg hat; rw [← Ny111.out] at ho; have n0_ := Aside0.mk (blk_grown (g := gb101) (o := .cells #[.int .i64 a1_0, .int .i64 a1_1, .string a1_2] 40 (0, 0)) (by (with_reducible repeat (first | refine qe_ ?_ _ | refine qh_ ?_ | refine qd_ ?_ _)); exact BK101.out) hg (Kd.R_away HO108.out (fun _ hk => hk))); have n1_ := Aside0.mk (hb); have n2_ := Aside0.mk (ho); clear BK101; clear HB; clear HO108; have BK101 := n0_; have HB := n1_; have HO113 := n2_; clear n0_ n1_ n2_; clear ho hb hg hat)); try go_wp2_with (first | ((with_reducible refine gate_builtin (b := .append) (xs := #[.tmp 26, .tmp 28]) rfl ?_); at_builtin; refine Kd.R_append k40 (w0 := w) w.heap.size rfl (.tmp 26) (.tmp 28) 22 40 (.agg #[(.int .i64 0), (.int .i64 0), (.string ⟨#[]⟩)]) 32 rfl Try.underlying22 info40 rfl (by decide) (by omega) u5 x5_1 (⟨a1_0, a1_1, a1_2⟩ : S40) [.int .i64 a1_0, .int .i64 a1_1, .string a1_2] (fun k_ => k_ ≠ gb101) (fun _ => False) rfl rfl ?aP (fun _ hk => hk.elim) ?aF ?aO ?aB ?aS ?aL ?_; (case aP => exact k40_mkM _ _ _ (⟨a1_0, a1_1, a1_2⟩ : S40)); (case aB => exact (by repeat (first | (with_reducible first | exact HB.out | apply qc_ | apply qa_ | apply qb_ | refine qf_ ?_ GE101.out) | exact HB.out))); (case aF => exact (fun k_ hk => Kd.freshB (g := gb101) (o := .cells #[.int .i64 a1_0, .int .i64 a1_1, .string a1_2] 40 (0, 0)) (by (with_reducible repeat (first | refine qe_ ?_ _ | refine qh_ ?_ | refine qd_ ?_ _)); exact BK101.out) k_ hk)); (case aO => exact (by (with_reducible repeat (first | apply Kd.qw_ | apply Kd.qv_ | apply Kd.R_drew)); exact HO_5.out)); (case aS => exact (qj_ (by repeat (first | (with_reducible first | exact HB.out | apply qc_ | apply qa_ | apply qb_ | refine qf_ ?_ GE101.out) | exact HB.out)))); (case aL => have := LMc10.out; omega); intro v107 w19 ho hb hg hat; rw [← Ny106.out] at ho; have n0_ := Aside0.mk (blk_grown (g := gb101) (o := .cells #[.int .i64 a1_0, .int .i64 a1_1, .string a1_2] 40 (0, 0)) (by (with_reducible repeat (first | refine qe_ ?_ _ | refine qh_ ?_ | refine qd_ ?_ _)); exact BK101.out) hg (Kd.R_away HO_5.out (fun _ hk => hk))); have n1_ := Aside0.mk (hb); have n2_ := Aside0.mk (ho); clear BK101; clear HB; clear HO_5; have BK101 := n0_; have HB := n1_; have HO108 := n2_; clear n0_ n1_ n2_; clear ho hb hg hat; have p109 : 0 ≤ (x7_1 : Int) := of_decide_eq_true (by first | (with_reducible assumption) | assumption); have q109 : x7_1 < (l0.length : Int) := of_decide_eq_true (by first | (with_reducible assumption) | assumption); obtain ⟨ad109, e109, hx109_0, hx109_1, hx109_2⟩ := at_T40 HR0.out x7_1 p109 q109; cases e109; replace hx109_0 := (HB.out.cell (wb_ w _ hx109_0)).trans hx109_0; replace hx109_1 := (HB.out.cell (wb_ w _ hx109_1)).trans hx109_1; replace hx109_2 := (HB.out.cell (wb_ w _ hx109_2)).trans hx109_2; replace p109 := eq_true p109; replace q109 := eq_true q109; have hcz20_0 : w19.cell? ⟨gb101, 0, none⟩ = some (.int .i64 a1_0) := (qg_ BK101.out 0).trans rfl; have hcz20_1 : w19.cell? ⟨gb101, 1, none⟩ = some (.int .i64 a1_1) := (qg_ BK101.out 1).trans rfl; have hcz20_2 : w19.cell? ⟨gb101, 2, none⟩ = some (.string a1_2) := (qg_ BK101.out 2).trans rfl; have hfz20_0 := qi_ BK101.out 0; have hfz20_1 := qi_ BK101.out 1; have hfz20_2 := qi_ BK101.out 2; have p110 : 0 ≤ (x7_1 : Int) := of_decide_eq_true (by first | (with_reducible assumption) | assumption); have q110 : x7_1 < (l0.length : Int) := of_decide_eq_true (by first | (with_reducible assumption) | assumption); obtain ⟨ad110, e110, hx110_0, hx110_1, hx110_2⟩ := at_T40 HR0.out x7_1 p110 q110; obtain rfl : ad109 = ad110 := (by injection e110); replace hx110_0 := (HB.out.cell (wb_ w _ hx110_0)).trans hx110_0; replace hx110_1 := (HB.out.cell (wb_ w _ hx110_1)).trans hx110_1; replace hx110_2 := (HB.out.cell (wb_ w _ hx110_2)).trans hx110_2; replace p110 := eq_true p110; replace q110 := eq_true q110) | ((with_reducible refine gate_builtin (b := .append) (xs := #[.tmp 38, .tmp 43]) rfl ?_); at_builtin; refine Kd.R_append k40 (w0 := w) w.heap.size rfl (.tmp 38) (.tmp 43) 22 40 (.agg #[(.int .i64 0), (.int .i64 0), (.string ⟨#[]⟩)]) 32 rfl Try.underlying22 info40 rfl (by decide) (by omega) v107 y106 (⟨(rd_T40 l0 x7_1).f0, (rd_T40 l0 x7_1).f1, (rd_T40 l0 x7_1).f2⟩ : S40) [.int .i64 ((rd_T40 l0 x7_1).f0), .int .i64 ((rd_T40 l0 x7_1).f1), .string ((rd_T40 l0 x7_1).f2)] (fun k_ => k_ ≠ gb101) (fun _ => False) rfl rfl ?aP (fun _ hk => hk.elim) ?aF ?aO ?aB ?aS ?aL ?_; (case aP => exact k40_mkM _ _ _ (⟨(rd_T40 l0 x7_1).f0, (rd_T40 l0 x7_1).f1, (rd_T40 l0 x7_1).f2⟩ : S40)); (case aB => exact (by repeat (first | (with_reducible first | exact HB.out | apply qc_ | apply qa_ | apply qb_ | refine qf_ ?_ GE101.out) | exact HB.out))); (case aF => exact (fun k_ hk => Kd.freshB (g := gb101) (o := .cells #[.int .i64 a1_0, .int .i64 a1_1, .string a1_2] 40 (0, 0)) (by (with_reducible repeat (first | refine qe_ ?_ _ | refine qh_ ?_ | refine qd_ ?_ _)); exact BK101.out) k_ hk)); (case aO => exact (by (with_reducible repeat (first | apply Kd.qw_ | apply Kd.qv_ | apply Kd.R_drew)); exact HO108.out)); (case aS => exact (qj_ (by repeat (first | (with_reducible first | exact HB.out | apply qc_ | apply qa_ | apply qb_ | refine qf_ ?_ GE101.out) | exact HB.out)))); (case aL => have := LMc17.out; omega); intro v112 w21 ho hb hg hat; rw [← Ny111.out] at ho; have n0_ := Aside0.mk (blk_grown (g := gb101) (o := .cells #[.int .i64 a1_0, .int .i64 a1_1, .string a1_2] 40 (0, 0)) (by (with_reducible repeat (first | refine qe_ ?_ _ | refine qh_ ?_ | refine qd_ ?_ _)); exact BK101.out) hg (Kd.R_away HO108.out (fun _ hk => hk))); have n1_ := Aside0.mk (hb); have n2_ := Aside0.mk (ho); clear BK101; clear HB; clear HO108; have BK101 := n0_; have HB := n1_; have HO113 := n2_; clear n0_ n1_ n2_; clear ho hb hg hat)))
            go_roundg kj4
            case measure => have := HK1.out; have := HJ4.out; omega
            case rel => exact ⟨(y111), (true), (wrap64 (x7_1 + 1)), (by first | rfl | (simp; done) | (simp [*]; done)), (by first | rfl | (simp; done) | (simp [*]; done)), H', ⟨by have := HK1.out; have := HJ4.out; omega⟩, ⟨by (with_reducible repeat (first | apply Kd.qw_ | apply Kd.qv_ | apply Kd.R_drew)); exact HO113.out⟩, ⟨by (with_reducible repeat (first | refine qe_ ?_ _ | refine qh_ ?_ | refine qd_ ?_ _)); exact BK101.out⟩, ⟨by repeat (first | (with_reducible first | exact HB.out | apply qc_ | apply qa_ | apply qb_ | refine qf_ ?_ GE101.out) | exact HB.out)⟩⟩
           ·rw [if_neg c17] at H
            exact absurd H (by simp)
         ·rw [if_neg c12] at H
          exact absurd H (by simp)
        ·rw [if_neg c11] at H
         exact absurd H (by simp)
       ·rw [if_neg c10] at H
        exact absurd H (by simp)
      ·replace c9 := Bool.eq_false_iff.mpr c9
       subst c9
       have H1 : (if 0 ≤ x7_1 then (if x7_1 < (l0.length : Int) then (if ((rd_T40 l0 x7_1).f0) = a1_0 then (ref04_Put.l0 kj4 l0 x5_1 x6_1 (wrap64 (x7_1 + 1)) a1_0 a1_1 a1_2) else (if x5_1.length < 4398046511104 then (ref04_Put.l0 kj4 l0 (x5_1 ++ [(⟨(rd_T40 l0 x7_1).f0, (rd_T40 l0 x7_1).f1, (rd_T40 l0 x7_1).f2⟩ : S40)]) x6_1 (wrap64 (x7_1 + 1)) a1_0 a1_1 a1_2) else (none))) else (none)) else (none)) = some r := by rw [if_neg (show ¬ (false = true) by decide)] at H; exact H
       clear H
       have H := H1
       clear H1
       by_cases c22 : 0 ≤ x7_1
       ·rw [if_pos c22] at H
        have c22b0 : decide (0 ≤ x7_1) = true := decide_eq_true c22
        clear c22
        by_cases c23 : x7_1 < (l0.length : Int)
        ·rw [if_pos c23] at H
         have c23b0 : decide (x7_1 < (l0.length : Int)) = true := decide_eq_true c23
         clear c23
         by_cases c24 : ((rd_T40 l0 x7_1).f0) = a1_0
         ·rw [if_pos c24] at H
          have c24b0 : (((rd_T40 l0 x7_1).f0) == a1_0) = true := beq_iff_eq.mpr c24
          have c24b1 : (((rd_T40 l0 x7_1).f0) != a1_0) = false := bne_eq_false_iff_eq.mpr c24
          clear c24
          have H' := Aside0.mk H
          clear H
          have p114 : 0 ≤ (x7_1 : Int) := of_decide_eq_true (by first | (with_reducible assumption) | assumption)
          have q114 : x7_1 < (l0.length : Int) := of_decide_eq_true (by first | (with_reducible assumption) | assumption)
          obtain ⟨ad114, e114, hx114_0, hx114_1, hx114_2⟩ := at_T40 HR0.out x7_1 p114 q114
          cases e114
          replace hx114_0 := (HB.out.cell (wb_ w _ hx114_0)).trans hx114_0
          replace hx114_1 := (HB.out.cell (wb_ w _ hx114_1)).trans hx114_1
          replace hx114_2 := (HB.out.cell (wb_ w _ hx114_2)).trans hx114_2
          replace p114 := eq_true p114
          replace q114 := eq_true q114
          have hcz25_0 : wc.cell? ⟨gb101, 0, none⟩ = some (.int .i64 a1_0) := (qg_ BK101.out 0).trans rfl
          have hcz25_1 : wc.cell? ⟨gb101, 1, none⟩ = some (.int .i64 a1_1) := (qg_ BK101.out 1).trans rfl
          have hcz25_2 : wc.cell? ⟨gb101, 2, none⟩ = some (.string a1_2) := (qg_ BK101.out 2).trans rfl
          have hfz25_0 := qi_ BK101.out 0
          have hfz25_1 := qi_ BK101.out 1
          have hfz25_2 := qi_ BK101.out 2
          go_wp2
          repeat (go_quiet (fail); try go_wp2)
          go_roundg kj4
          case measure => have := HK1.out; have := HJ4.out; omega
          case rel => exact ⟨(x5_1), (x6_1), (wrap64 (x7_1 + 1)), (by first | rfl | (simp; done) | (simp [*]; done)), (by first | rfl | (simp; done) | (simp [*]; done)), H', ⟨by have := HK1.out; have := HJ4.out; omega⟩, ⟨by (with_reducible repeat (first | apply Kd.qw_ | apply Kd.qv_ | apply Kd.R_drew)); exact HO_5.out⟩, ⟨by (with_reducible repeat (first | refine qe_ ?_ _ | refine qh_ ?_ | refine qd_ ?_ _)); exact BK101.out⟩, ⟨by repeat (first | (with_reducible first | exact HB.out | apply qc_ | apply qa_ | apply qb_ | refine qf_ ?_ GE101.out) | exact HB.out)⟩⟩
         ·rw [if_neg c24] at H
          have c24b0 : (((rd_T40 l0 x7_1).f0) == a1_0) = false := beq_eq_false_iff_ne.mpr c24
          have c24b1 : (((rd_T40 l0 x7_1).f0) != a1_0) = true := bne_iff_ne.mpr c24
          by_cases c26 : x5_1.length < 4398046511104
          ·rw [if_pos c26] at H
           have LMc26 := Aside0.mk c26
           clear c26
           obtain ⟨y116, hy116⟩ : ∃ y_ : List (S40), y_ = (x5_1 ++ [(⟨(rd_T40 l0 x7_1).f0, (rd_T40 l0 x7_1).f1, (rd_T40 l0 x7_1).f2⟩ : S40)]) := ⟨_, rfl⟩
           replace H : (ref04_Put.l0 kj4 l0 y116 x6_1 (wrap64 (x7_1 + 1)) a1_0 a1_1 a1_2) = some r := by first | (rw [hy116]; with_reducible exact H) | (have H2_ := (Option.bind_some _ _).symm.trans H; rw [hy116]; with_reducible exact H2_) | (have H2_ := (Option.bind_some _ _).symm.trans H; with_reducible exact H2_) | with_reducible exact H | (rw [hy116]; exact H) | exact H
           have Ny116 := Aside0.mk hy116
           clear hy116
           have H' := Aside0.mk H
           clear H
           have p114 : 0 ≤ (x7_1 : Int) := of_decide_eq_true (by first | (with_reducible assumption) | assumption)
           have q114 : x7_1 < (l0.length : Int) := of_decide_eq_true (by first | (with_reducible assumption) | assumption)
           obtain ⟨ad114, e114, hx114_0, hx114_1, hx114_2⟩ := at_T40 HR0.out x7_1 p114 q114
           cases e114
           replace hx114_0 := (HB.out.cell (wb_ w _ hx114_0)).trans hx114_0
           replace hx114_1 := (HB.out.cell (wb_ w _ hx114_1)).trans hx114_1
           replace hx114_2 := (HB.out.cell (wb_ w _ hx114_2)).trans hx114_2
           replace p114 := eq_true p114
           replace q114 := eq_true q114
           have hcz27_0 : wc.cell? ⟨gb101, 0, none⟩ = some (.int .i64 a1_0) := (qg_ BK101.out 0).trans rfl
           have hcz27_1 : wc.cell? ⟨gb101, 1, none⟩ = some (.int .i64 a1_1) := (qg_ BK101.out 1).trans rfl
           have hcz27_2 : wc.cell? ⟨gb101, 2, none⟩ = some (.string a1_2) := (qg_ BK101.out 2).trans rfl
           have hfz27_0 := qi_ BK101.out 0
           have hfz27_1 := qi_ BK101.out 1
           have hfz27_2 := qi_ BK101.out 2
           have p115 : 0 ≤ (x7_1 : Int) := of_decide_eq_true (by first | (with_reducible assumption) | assumption)
           have q115 : x7_1 < (l0.length : Int) := of_decide_eq_true (by first | (with_reducible assumption) | assumption)
           obtain ⟨ad115, e115, hx115_0, hx115_1, hx115_2⟩ := at_T40 HR0.out x7_1 p115 q115
           obtain rfl : ad114 = ad115 := (by injection e115)
           replace hx115_0 := (HB.out.cell (wb_ w _ hx115_0)).trans hx115_0
           replace hx115_1 := (HB.out.cell (wb_ w _ hx115_1)).trans hx115_1
           replace hx115_2 := (HB.out.cell (wb_ w _ hx115_2)).trans hx115_2
           replace p115 := eq_true p115
           replace q115 := eq_true q115
           go_wp2_with (first | ((with_reducible refine gate_builtin (b := .append) (xs := #[.tmp 38, .tmp 43]) rfl ?_); at_builtin; refine Kd.R_append k40 (w0 := w) w.heap.size rfl (.tmp 38) (.tmp 43) 22 40 (.agg #[(.int .i64 0), (.int .i64 0), (.string ⟨#[]⟩)]) 32 rfl Try.underlying22 info40 rfl (by decide) (by omega) u5 x5_1 (⟨(rd_T40 l0 x7_1).f0, (rd_T40 l0 x7_1).f1, (rd_T40 l0 x7_1).f2⟩ : S40) [.int .i64 ((rd_T40 l0 x7_1).f0), .int .i64 ((rd_T40 l0 x7_1).f1), .string ((rd_T40 l0 x7_1).f2)] (fun k_ => k_ ≠ gb101) (fun _ => False) rfl rfl ?aP (fun _ hk => hk.elim) ?aF ?aO ?aB ?aS ?aL ?_; (case aP => exact k40_mkM _ _ _ (⟨(rd_T40 l0 x7_1).f0, (rd_T40 l0 x7_1).f1, (rd_T40 l0 x7_1).f2⟩ : S40)); (case aB => exact (by repeat (first | (with_reducible first | exact HB.out | apply qc_ | apply qa_ | apply qb_ | refine qf_ ?_ GE101.out) | exact HB.out))); (case aF => exact (fun k_ hk => Kd.freshB (g := gb101) (o := .cells #[.int .i64 a1_0, .int .i64 a1_1, .string a1_2] 40 (0, 0)) (by (with_reducible repeat (first | refine qe_ ?_ _ | refine qh_ ?_ | refine qd_ ?_ _)); exact BK101.out) k_ hk)); (case aO => exact (by (with_reducible repeat (first | apply Kd.qw_ | apply Kd.qv_ | apply Kd.R_drew)); exact HO_5.out)); (case aS => exact (qj_ (by repeat (first | (with_reducible first | exact HB.out | apply qc_ | apply qa_ | apply qb_ | refine qf_ ?_ GE101.out) | exact HB.out)))); (case aL => have := LMc26.out; omega); intro v117 w28 ho hb hg hat; rw [← Ny116.out] at ho; have n0_ := Aside0.mk (blk_grown (g := gb101) (o := .cells #[.int .i64 a1_0, .int .i64 a1_1, .string a1_2] 40 (0, 0)) (by (with_reducible repeat (first | refine qe_ ?_ _ | refine qh_ ?_ | refine qd_ ?_ _)); exact BK101.out) hg (Kd.R_away HO_5.out (fun _ hk => hk))); have n1_ := Aside0.mk (hb); have n2_ := Aside0.mk (ho); clear BK101; clear HB; clear HO_5; have BK101 := n0_; have HB := n1_; have HO118 := n2_; clear n0_ n1_ n2_; clear ho hb hg hat))
           repeat (go_quiet (first | ((with_reducible refine gate_builtin (b := .append) (xs := #[.tmp 38, .tmp 43]) rfl ?_); at_builtin; refine Kd.R_append k40 (w0 := w) w.heap.size rfl (.tmp 38) (.tmp 43) 22 40 (.agg #[(.int .i64 0), (.int .i64 0), (.string ⟨#[]⟩)]) 32 rfl Try.underlying22 info40 rfl (by decide) (by omega) u5 x5_1 (⟨(rd_T40 l0 x7_1).f0, (rd_T40 l0 x7_1).f1, (rd_T40 l0 x7_1).f2⟩ : S40) [.int .i64 ((rd_T40 l0 x7_1).f0), .int .i64 ((rd_T40 l0 x7_1).f1), .string ((rd_T40 l0 x7_1).f2)] (fun k_ => k_ ≠ gb101) (fun _ => False) rfl rfl ?aP (fun _ hk => hk.elim) ?aF ?aO ?aB ?aS ?aL ?_; (case aP => exact k40_mkM _ _ _ (⟨(rd_T40 l0 x7_1).f0, (rd_T40 l0 x7_1).f1, (rd_T40 l0 x7_1).f2⟩ : S40)); (case aB => exact (by repeat (first | (with_reducible first | exact HB.out | apply qc_ | apply qa_ | apply qb_ | refine qf_ ?_ GE101.out) | exact HB.out))); (case aF => exact (fun k_ hk => Kd.freshB (g := gb101) (o := .cells #[.int .i64 a1_0, .int .i64 a1_1, .string a1_2] 40 (0, 0)) (by (with_reducible repeat (first | refine qe_ ?_ _ | refine qh_ ?_ | refine qd_ ?_ _)); exact BK101.out) k_ hk)); (case aO => exact (by (with_reducible repeat (first | apply Kd.qw_ | apply Kd.qv_ | apply Kd.R_drew)); exact HO_5.out)); (case aS => exact (qj_ (by repeat (first | (with_reducible first | exact HB.out | apply qc_ | apply qa_ | apply qb_ | refine qf_ ?_ GE101.out) | exact HB.out)))); (case aL => have := LMc26.out; omega); intro v117 w28 ho hb hg hat; rw [← Ny116.out] at ho; have n0_ := Aside0.mk (blk_grown (g := gb101) (o := .cells #[.int .i64 a1_0, .int .i64 a1_1, .string a1_2] 40 (0, 0)) (by (with_reducible repeat (first | refine qe_ ?_ _ | refine qh_ ?_ | refine qd_ ?_ _)); exact BK101.out) hg (Kd.R_away HO_5.out (fun _ hk => hk))); have n1_ := Aside0.mk (hb); have n2_ := Aside0.mk (ho); clear BK101; clear HB; clear HO_5; have BK101 := n0_; have HB := n1_; have HO118 := n2_; clear n0_ n1_ n2_; clear ho hb hg hat)); try go_wp2_with (first | ((with_reducible refine gate_builtin (b := .append) (xs := #[.tmp 38, .tmp 43]) rfl ?_); at_builtin; refine Kd.R_append k40 (w0 := w) w.heap.size rfl (.tmp 38) (.tmp 43) 22 40 (.agg #[(.int .i64 0), (.int .i64 0), (.string ⟨#[]⟩)]) 32 rfl Try.underlying22 info40 rfl (by decide) (by omega) u5 x5_1 (⟨(rd_T40 l0 x7_1).f0, (rd_T40 l0 x7_1).f1, (rd_T40 l0 x7_1).f2⟩ : S40) [.int .i64 ((rd_T40 l0 x7_1).f0), .int .i64 ((rd_T40 l0 x7_1).f1), .string ((rd_T40 l0 x7_1).f2)] (fun k_ => k_ ≠ gb101) (fun _ => False) rfl rfl ?aP (fun _ hk => hk.elim) ?aF ?aO ?aB ?aS ?aL ?_; (case aP => exact k40_mkM _ _ _ (⟨(rd_T40 l0 x7_1).f0, (rd_T40 l0 x7_1).f1, (rd_T40 l0 x7_1).f2⟩ : S40)); (case aB => exact (by repeat (first | (with_reducible first | exact HB.out | apply qc_ | apply qa_ | apply qb_ | refine qf_ ?_ GE101.out) | exact HB.out))); (case aF => exact (fun k_ hk => Kd.freshB (g := gb101) (o := .cells #[.int .i64 a1_0, .int .i64 a1_1, .string a1_2] 40 (0, 0)) (by (with_reducible repeat (first | refine qe_ ?_ _ | refine qh_ ?_ | refine qd_ ?_ _)); exact BK101.out) k_ hk)); (case aO => exact (by (with_reducible repeat (first | apply Kd.qw_ | apply Kd.qv_ | apply Kd.R_drew)); exact HO_5.out)); (case aS => exact (qj_ (by repeat (first | (with_reducible first | exact HB.out | apply qc_ | apply qa_ | apply qb_ | refine qf_ ?_ GE101.out) | exact HB.out)))); (case aL => have := LMc26.out; omega); intro v117 w28 ho hb hg hat; rw [← Ny116.out] at ho; have n0_ := Aside0.mk (blk_grown (g := gb101) (o := .cells #[.int .i64 a1_0, .int .i64 a1_1, .string a1_2] 40 (0, 0)) (by (with_reducible repeat (first | refine qe_ ?_ _ | refine qh_ ?_ | refine qd_ ?_ _)); exact BK101.out) hg (Kd.R_away HO_5.out (fun _ hk => hk))); have n1_ := Aside0.mk (hb); have n2_ := Aside0.mk (ho); clear BK101; clear HB; clear HO_5; have BK101 := n0_; have HB := n1_; have HO118 := n2_; clear n0_ n1_ n2_; clear ho hb hg hat)))
           go_roundg kj4
           case measure => have := HK1.out; have := HJ4.out; omega
           case rel => exact ⟨(y116), (x6_1), (wrap64 (x7_1 + 1)), (by first | rfl | (simp; done) | (simp [*]; done)), (by first | rfl | (simp; done) | (simp [*]; done)), H', ⟨by have := HK1.out; have := HJ4.out; omega⟩, ⟨by (with_reducible repeat (first | apply Kd.qw_ | apply Kd.qv_ | apply Kd.R_drew)); exact HO118.out⟩, ⟨by (with_reducible repeat (first | refine qe_ ?_ _ | refine qh_ ?_ | refine qd_ ?_ _)); exact BK101.out⟩, ⟨by repeat (first | (with_reducible first | exact HB.out | apply qc_ | apply qa_ | apply qb_ | refine qf_ ?_ GE101.out) | exact HB.out)⟩⟩
          ·rw [if_neg c26] at H
           exact absurd H (by simp)
        ·rw [if_neg c23] at H
         exact absurd H (by simp)
       ·rw [if_neg c22] at H
        exact absurd H (by simp)
   ·rw [if_neg c4] at H
    have c4b0 : decide (x7_1 < (l0.length : Int)) = false := decide_eq_false c4
    clear c4
    by_cases c29 : x6_1 = true
    ·subst c29
     have H1 : (some x5_1) = some r := by rw [if_pos rfl] at H; exact H
     clear H
     have H := H1
     clear H1
     obtain rfl := Option.some.inj H
     go_wp2
     repeat (go_quiet (fail); try go_wp2)
     go_ret
     exact ⟨_, by first | rfl | (simp [errW_none, errW_some] <;> rfl) | (simp [*, errW_none, errW_some] <;> rfl), by (with_reducible repeat (first | apply Kd.qw_ | apply Kd.qv_ | apply Kd.R_drew)); exact Kd.R_mono HO_5.out (fun _ hk => trivial), by repeat (first | (with_reducible first | exact HB.out | apply qc_ | apply qa_ | apply qb_ | refine qf_ ?_ GE101.out) | exact HB.out)⟩
    ·replace c29 := Bool.eq_false_iff.mpr c29
     subst c29
     have H1 : (if x5_1.length < 4398046511104 then (some (x5_1 ++ [(⟨a1_0, a1_1, a1_2⟩ : S40)])) else (none)) = some r := by rw [if_neg (show ¬ (false = true) by decide)] at H; exact H
     clear H
     have H := H1
     clear H1
     by_cases c30 : x5_1.length < 4398046511104
     ·rw [if_pos c30] at H
      have LMc30 := Aside0.mk c30
      clear c30
      obtain ⟨y102, hy102⟩ : ∃ y_ : List (S40), y_ = (x5_1 ++ [(⟨a1_0, a1_1, a1_2⟩ : S40)]) := ⟨_, rfl⟩
      replace H : (some y102) = some r := by first | (rw [hy102]; with_reducible exact H) | (have H2_ := (Option.bind_some _ _).symm.trans H; rw [hy102]; with_reducible exact H2_) | (have H2_ := (Option.bind_some _ _).symm.trans H; with_reducible exact H2_) | with_reducible exact H | (rw [hy102]; exact H) | exact H
      have Ny102 := Aside0.mk hy102
      clear hy102
      obtain rfl := Option.some.inj H
      have hcz31_0 : wr.cell? ⟨gb101, 0, none⟩ = some (.int .i64 a1_0) := (qg_ BK101.out 0).trans rfl
      have hcz31_1 : wr.cell? ⟨gb101, 1, none⟩ = some (.int .i64 a1_1) := (qg_ BK101.out 1).trans rfl
      have hcz31_2 : wr.cell? ⟨gb101, 2, none⟩ = some (.string a1_2) := (qg_ BK101.out 2).trans rfl
      have hfz31_0 := qi_ BK101.out 0
      have hfz31_1 := qi_ BK101.out 1
      have hfz31_2 := qi_ BK101.out 2
      go_wp2_with (first | ((with_reducible refine gate_builtin (b := .append) (xs := #[.tmp 47, .tmp 49]) rfl ?_); at_builtin; refine Kd.R_append k40 (w0 := w) w.heap.size rfl (.tmp 47) (.tmp 49) 22 40 (.agg #[(.int .i64 0), (.int .i64 0), (.string ⟨#[]⟩)]) 32 rfl Try.underlying22 info40 rfl (by decide) (by omega) u5 x5_1 (⟨a1_0, a1_1, a1_2⟩ : S40) [.int .i64 a1_0, .int .i64 a1_1, .string a1_2] (fun k_ => k_ ≠ gb101) (fun _ => False) rfl rfl ?aP (fun _ hk => hk.elim) ?aF ?aO ?aB ?aS ?aL ?_; (case aP => exact k40_mkM _ _ _ (⟨a1_0, a1_1, a1_2⟩ : S40)); (case aB => exact (by repeat (first | (with_reducible first | exact HB.out | apply qc_ | apply qa_ | apply qb_ | refine qf_ ?_ GE101.out) | exact HB.out))); (case aF => exact (fun k_ hk => Kd.freshB (g := gb101) (o := .cells #[.int .i64 a1_0, .int .i64 a1_1, .string a1_2] 40 (0, 0)) (by (with_reducible repeat (first | refine qe_ ?_ _ | refine qh_ ?_ | refine qd_ ?_ _)); exact BK101.out) k_ hk)); (case aO => exact (by (with_reducible repeat (first | apply Kd.qw_ | apply Kd.qv_ | apply Kd.R_drew)); exact HO_5.out)); (case aS => exact (qj_ (by repeat (first | (with_reducible first | exact HB.out | apply qc_ | apply qa_ | apply qb_ | refine qf_ ?_ GE101.out) | exact HB.out)))); (case aL => have := LMc30.out; omega); intro v103 w32 ho hb hg hat; rw [← Ny102.out] at ho; have n0_ := Aside0.mk (blk_grown (g := gb101) (o := .cells #[.int .i64 a1_0, .int .i64 a1_1, .string a1_2] 40 (0, 0)) (by (with_reducible repeat (first | refine qe_ ?_ _ | refine qh_ ?_ | refine qd_ ?_ _)); exact BK101.out) hg (Kd.R_away HO_5.out (fun _ hk => hk))); have n1_ := Aside0.mk (hb); have n2_ := Aside0.mk (ho); clear BK101; clear HB; clear HO_5; have BK101 := n0_; have HB := n1_; have HO104 := n2_; clear n0_ n1_ n2_; clear ho hb hg hat))
      repeat (go_quiet (first | ((with_reducible refine gate_builtin (b := .append) (xs := #[.tmp 47, .tmp 49]) rfl ?_); at_builtin; refine Kd.R_append k40 (w0 := w) w.heap.size rfl (.tmp 47) (.tmp 49) 22 40 (.agg #[(.int .i64 0), (.int .i64 0), (.string ⟨#[]⟩)]) 32 rfl Try.underlying22 info40 rfl (by decide) (by omega) u5 x5_1 (⟨a1_0, a1_1, a1_2⟩ : S40) [.int .i64 a1_0, .int .i64 a1_1, .string a1_2] (fun k_ => k_ ≠ gb101) (fun _ => False) rfl rfl ?aP (fun _ hk => hk.elim) ?aF ?aO ?aB ?aS ?aL ?_; (case aP => exact k40_mkM _ _ _ (⟨a1_0, a1_1, a1_2⟩ : S40)); (case aB => exact (by repeat (first | (with_reducible first | exact HB.out | apply qc_ | apply qa_ | apply qb_ | refine qf_ ?_ GE101.out) | exact HB.out))); (case aF => exact (fun k_ hk => Kd.freshB (g := gb101) (o := .cells #[.int .i64 a1_0, .int .i64 a1_1, .string a1_2] 40 (0, 0)) (by (with_reducible repeat (first | refine qe_ ?_ _ | refine qh_ ?_ | refine qd_ ?_ _)); exact BK101.out) k_ hk)); (case aO => exact (by (with_reducible repeat (first | apply Kd.qw_ | apply Kd.qv_ | apply Kd.R_drew)); exact HO_5.out)); (case aS => exact (qj_ (by repeat (first | (with_reducible first | exact HB.out | apply qc_ | apply qa_ | apply qb_ | refine qf_ ?_ GE101.out) | exact HB.out)))); (case aL => have := LMc30.out; omega); intro v103 w32 ho hb hg hat; rw [← Ny102.out] at ho; have n0_ := Aside0.mk (blk_grown (g := gb101) (o := .cells #[.int .i64 a1_0, .int .i64 a1_1, .string a1_2] 40 (0, 0)) (by (with_reducible repeat (first | refine qe_ ?_ _ | refine qh_ ?_ | refine qd_ ?_ _)); exact BK101.out) hg (Kd.R_away HO_5.out (fun _ hk => hk))); have n1_ := Aside0.mk (hb); have n2_ := Aside0.mk (ho); clear BK101; clear HB; clear HO_5; have BK101 := n0_; have HB := n1_; have HO104 := n2_; clear n0_ n1_ n2_; clear ho hb hg hat)); try go_wp2_with (first | ((with_reducible refine gate_builtin (b := .append) (xs := #[.tmp 47, .tmp 49]) rfl ?_); at_builtin; refine Kd.R_append k40 (w0 := w) w.heap.size rfl (.tmp 47) (.tmp 49) 22 40 (.agg #[(.int .i64 0), (.int .i64 0), (.string ⟨#[]⟩)]) 32 rfl Try.underlying22 info40 rfl (by decide) (by omega) u5 x5_1 (⟨a1_0, a1_1, a1_2⟩ : S40) [.int .i64 a1_0, .int .i64 a1_1, .string a1_2] (fun k_ => k_ ≠ gb101) (fun _ => False) rfl rfl ?aP (fun _ hk => hk.elim) ?aF ?aO ?aB ?aS ?aL ?_; (case aP => exact k40_mkM _ _ _ (⟨a1_0, a1_1, a1_2⟩ : S40)); (case aB => exact (by repeat (first | (with_reducible first | exact HB.out | apply qc_ | apply qa_ | apply qb_ | refine qf_ ?_ GE101.out) | exact HB.out))); (case aF => exact (fun k_ hk => Kd.freshB (g := gb101) (o := .cells #[.int .i64 a1_0, .int .i64 a1_1, .string a1_2] 40 (0, 0)) (by (with_reducible repeat (first | refine qe_ ?_ _ | refine qh_ ?_ | refine qd_ ?_ _)); exact BK101.out) k_ hk)); (case aO => exact (by (with_reducible repeat (first | apply Kd.qw_ | apply Kd.qv_ | apply Kd.R_drew)); exact HO_5.out)); (case aS => exact (qj_ (by repeat (first | (with_reducible first | exact HB.out | apply qc_ | apply qa_ | apply qb_ | refine qf_ ?_ GE101.out) | exact HB.out)))); (case aL => have := LMc30.out; omega); intro v103 w32 ho hb hg hat; rw [← Ny102.out] at ho; have n0_ := Aside0.mk (blk_grown (g := gb101) (o := .cells #[.int .i64 a1_0, .int .i64 a1_1, .string a1_2] 40 (0, 0)) (by (with_reducible repeat (first | refine qe_ ?_ _ | refine qh_ ?_ | refine qd_ ?_ _)); exact BK101.out) hg (Kd.R_away HO_5.out (fun _ hk => hk))); have n1_ := Aside0.mk (hb); have n2_ := Aside0.mk (ho); clear BK101; clear HB; clear HO_5; have BK101 := n0_; have HB := n1_; have HO104 := n2_; clear n0_ n1_ n2_; clear ho hb hg hat)))
      go_ret
      exact ⟨_, by first | rfl | (simp [errW_none, errW_some] <;> rfl) | (simp [*, errW_none, errW_some] <;> rfl), by (with_reducible repeat (first | apply Kd.qw_ | apply Kd.qv_ | apply Kd.R_drew)); exact Kd.R_mono HO104.out (fun _ hk => trivial), by repeat (first | (with_reducible first | exact HB.out | apply qc_ | apply qa_ | apply qb_ | refine qf_ ?_ GE101.out) | exact HB.out)⟩
     ·rw [if_neg c30] at H
      exact absurd H (by simp)
end Go.Proofs.Ytfoeahjbkmdgfaa.P

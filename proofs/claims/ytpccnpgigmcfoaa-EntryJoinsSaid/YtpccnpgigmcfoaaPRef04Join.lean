/- What this function of the program comes to, and that the machine's call does it: written by a program (wip/tool). No condition. -/
import Derived.Test.YtpccnpgigmcfoaaP0
import Derived.Test.YtpccnpgigmcfoaaPRef04Get
import Derived.Test.YtpccnpgigmcfoaaPRef04Above
import Derived.Test.YtpccnpgigmcfoaaPRef04Put
import Derived.Test.YtpccnpgigmcfoaaHw
namespace Go.Proofs.Ytpccnpgigmcfoaa.P
open Go.RowKit Go.Proofs.YtpccnpgigmcfoaaW.PrintWords Go.Proofs.YtpccnpgigmcfoaaW.PrintLast Go.Proofs.YtpccnpgigmcfoaaW.PrintMore
attribute [local go_sem] max2_int min2_int max_two min_two max_three min_three max_four min_four Go.Proofs.YtpccnpgigmcfoaaW.Hw.string_gtr   -- for this text's walks alone
set_option linter.unusedVariables false
set_option linter.unusedSimpArgs false
/-! ### ref04_Join: function 24 -/
def ref04_Join.l0 : Nat → List (S30) → List (S30) → Int → Option ((List (S30)))
 | 0, _, _, _ => none
 | k + 1, x1, x5, x6 => if x6 < (x1.length : Int) then (if 0 ≤ x6 then ((ref04_Get.f k x5 ((rd_T30 x1 x6).f0)).bind fun bt108 => (if bt108.2.2.2 = true then ((ref04_above.f ((rd_T30 x1 x6).f0) ((rd_T30 x1 x6).f1) ((rd_T30 x1 x6).f2) bt108.1 bt108.2.1 bt108.2.2.1).bind fun t114 => (if t114 = true then ((ref04_Put.f k x5 ((rd_T30 x1 x6).f0) ((rd_T30 x1 x6).f1) ((rd_T30 x1 x6).f2)).bind fun t116 => (ref04_Join.l0 k x1 t116 (wrap64 (x6 + 1)))) else (ref04_Join.l0 k x1 x5 (wrap64 (x6 + 1))))) else ((ref04_Put.f k x5 ((rd_T30 x1 x6).f0) ((rd_T30 x1 x6).f1) ((rd_T30 x1 x6).f2)).bind fun t120 => (ref04_Join.l0 k x1 t120 (wrap64 (x6 + 1)))))) else (none)) else (some x5)
def ref04_Join.f (k : Nat) (l0 : List (S30)) (l1 : List (S30)) : Option ((List (S30))) := (some (([] : List (S30)) : List (S30))).bind fun y101 => (if y101.length + l0.length < 4398046511104 then (ref04_Join.l0 k l1 (y101 ++ l0) 0) else (none))
theorem ref04_Join.mono_l : ∀ k, (∀ y0 y1 y2, LeO (ref04_Join.l0 k y0 y1 y2) (ref04_Join.l0 (k + 1) y0 y1 y2))
 | 0 => fun _ _ _ r h => by simp [ref04_Join.l0] at h
 | k + 1 => by
  have ih0 := ref04_Join.mono_l k
  ·intro y0 y1 y2
   unfold ref04_Join.l0
   repeat' first
   | (with_reducible exact ih0 _ _ _)
   | (with_reducible exact ref04_Get.mono _ _ _)
   | (with_reducible exact ref04_Put.mono _ _ _ _ _)
   | (with_reducible exact LeO.refl _)
   | (with_reducible exact LeO.none _)
   | (with_reducible refine LeO.ite ?_ ?_)
   | (with_reducible refine LeO.bind ?_ (fun _ => ?_))
   | exact ih0 _ _ _
   | exact ref04_Get.mono _ _ _
   | exact ref04_Put.mono _ _ _ _ _
   | exact LeO.none _
   | refine LeO.ite ?_ ?_
   | refine LeO.bind ?_ (fun _ => ?_)
theorem ref04_Join.mono : ∀ a0 a1 k, LeO (ref04_Join.f k a0 a1) (ref04_Join.f (k + 1) a0 a1) := by
 intro a0 a1 k
 have ih0 := ref04_Join.mono_l k
 unfold ref04_Join.f
 repeat' first
   | (with_reducible exact ih0 _ _ _)
   | (with_reducible exact ref04_Get.mono _ _ _)
   | (with_reducible exact ref04_Put.mono _ _ _ _ _)
   | (with_reducible exact LeO.refl _)
   | (with_reducible exact LeO.none _)
   | (with_reducible refine LeO.ite ?_ ?_)
   | (with_reducible refine LeO.bind ?_ (fun _ => ?_))
   | exact ih0 _ _ _
   | exact ref04_Get.mono _ _ _
   | exact ref04_Put.mono _ _ _ _ _
   | exact LeO.none _
   | refine LeO.ite ?_ ?_
   | refine LeO.bind ?_ (fun _ => ?_)
def ref04_Join.T6 : Bool × List (List Nat × List Nat) := (true, [([], []), ([0], [0]), ([1], [1]), ([2], [2]), ([2], [2]), ([3, 4, 2], [2, 3, 4]), ([5, 2], [2, 5]), ([2], [2]), ([6, 7, 2, 2], [2, 6, 7]), ([2, 8], [2, 8])])
def ref04_Join.B6 : List Nat := [0, 1, 3, 7, 7, 31, 63, 7, 255, 511]
theorem ref04_Join.tab6 : rtab .any (opsOf Try.f24 6) = ref04_Join.T6 := by kernel_rfl
theorem ref04_Join.bits6 : waitsOk ref04_Join.T6.2 ref04_Join.B6 = true := by kernel_rfl
set_option maxHeartbeats 8000000 in
set_option maxRecDepth 100000 in
theorem ref04_Join.calls (k : Nat) (A0 : Option Addr) (c0 : Nat) (l0 : List (S30)) (A1 : Option Addr) (c1 : Nat) (l1 : List (S30)) (r : List (S30)) (w : World) (hr0 : Kd.C k30 w A0 l0.length l0) (hc0 : l0.length ≤ c0) (hr1 : Kd.C k30 w A1 l1.length l1) (hc1 : l1.length ≤ c1) (h : ref04_Join.f k l0 l1 = some r) :
  Calls Try.prog 24 #[.slice A0 l0.length c0, .slice A1 l1.length c1] w fun e w' => ∃ v0_ : Value, e = .returned (v0_) ∧ Kd.R k30 30 w' w.heap.size (fun _ => True) v0_ r ∧ Below w.heap.size w w' := by
 have hu30 := Try.underlying30
 have HR0 := Aside0.mk hr0
 have HC0 := Aside0.mk hc0
 clear hr0 hc0
 have HR1 := Aside0.mk hr1
 have HC1 := Aside0.mk hc1
 clear hr1 hc1
 have HB := Aside0.mk (Below.refl w.heap.size w)
 have H : ((some (([] : List (S30)) : List (S30))).bind fun y101 => (if y101.length + l0.length < 4398046511104 then (ref04_Join.l0 k l1 (y101 ++ l0) 0) else (none))) = some r := h
 clear h
 obtain ⟨y101, hy101⟩ : ∃ y_ : List (S30), y_ = (([] : List (S30))) := ⟨_, rfl⟩
 replace H : (if y101.length + l0.length < 4398046511104 then (ref04_Join.l0 k l1 (y101 ++ l0) 0) else (none)) = some r := by first | (rw [hy101]; with_reducible exact H) | (have H2_ := (Option.bind_some _ _).symm.trans H; rw [hy101]; with_reducible exact H2_) | (have H2_ := (Option.bind_some _ _).symm.trans H; with_reducible exact H2_) | with_reducible exact H | (rw [hy101]; exact H) | exact H
 have Ny101 := Aside0.mk hy101
 clear hy101
 by_cases c3 : y101.length + l0.length < 4398046511104
 ·rw [if_pos c3] at H
  have LMc3 := Aside0.mk c3
  clear c3
  obtain ⟨y104, hy104⟩ : ∃ y_ : List (S30), y_ = (y101 ++ l0) := ⟨_, rfl⟩
  replace H : (ref04_Join.l0 k l1 y104 0) = some r := by first | (rw [hy104]; with_reducible exact H) | (have H2_ := (Option.bind_some _ _).symm.trans H; rw [hy104]; with_reducible exact H2_) | (have H2_ := (Option.bind_some _ _).symm.trans H; with_reducible exact H2_) | with_reducible exact H | (rw [hy104]; exact H) | exact H
  have Ny104 := Aside0.mk hy104
  clear hy104
  have H' := Aside0.mk H
  clear H
  go_enter Try.func24, Try.ntmps24
  go_wp2_with (first | ((with_reducible refine qq_ (N := 9) rfl ?_); refine Kd.R_lit k30 _ 30 ?hg (N := 9) ?hd (xs := ([] : List (S30))) (inner := []) (ok := fun _ => True) (okp := fun _ => True) ?hr ?hp (fun _ hk => hk) trivial (Below.refl _ _) (Nat.le_refl _) (by simp) ?_; (case hd => rfl); (case hg => rfl); (case hr => first | (go_simp; done) | (go_simp; rfl)); (case hp => exact (Reps.none _ _)); intro v102 w4 ho5 hb hg_ hnew_; clear hg_ hnew_; (first | rw [← Ny101.out] at ho5 | (simp only [Int.reduceToNat] at ho5; rw [← Ny101.out] at ho5)); have n0_ := Aside0.mk (Kd.R_lower ho5 (qj_ (by repeat (first | (with_reducible first | exact HB.out | apply qc_ | apply qa_ | apply qb_) | exact HB.out)))); have n1_ := Aside0.mk (qk_ (by repeat (first | (with_reducible first | exact HB.out | apply qc_ | apply qa_ | apply qb_) | exact HB.out)) hb); clear HB; have HO103 := n0_; have HB := n1_; clear n0_ n1_; clear hb ho5) | ((with_reducible refine gate_builtin (b := .append) (xs := #[.tmp 9, .tmp 10]) rfl ?_); at_builtin; refine Kd.R_append_rows k30 (w0 := w) w.heap.size rfl (.tmp 9) (.tmp 10) 22 30 (.agg #[(.int .i64 0), (.int .i64 0), (.string ⟨#[]⟩)]) 32 rfl Try.underlying22 info30 rfl (by decide) (by omega) v102 y101 l0 _ _ _ (fun _ => True) (fun _ => False) rfl rfl ?aO ?aR (fun _ _ h => h) (fun _ h => h.elim) ?aF ?aB ?aS ?aL ?_; (case aR => repeat (first | exact (Kd.C_below HR0.out HB.out) | (with_reducible refine Kd.qt_ ?_ _) | (with_reducible refine Kd.qs_ ?_ _) | (with_reducible refine Kd.C_drew ?_))); (case aB => exact (by repeat (first | (with_reducible first | exact HB.out | apply qc_ | apply qa_ | apply qb_) | exact HB.out))); (case aF => exact (fun _ _ => trivial)); (case aO => exact (by (with_reducible repeat (first | apply Kd.qn_ | apply Kd.qm_ | apply Kd.R_drew)); exact HO103.out)); (case aS => exact (qj_ (by repeat (first | (with_reducible first | exact HB.out | apply qc_ | apply qa_ | apply qb_) | exact HB.out)))); (case aL => have := LMc3.out; omega); intro v105 w6 ho hb hg hat; rw [← Ny104.out] at ho; have n0_ := Aside0.mk (hb); have n1_ := Aside0.mk (ho); clear HB; clear HO103; have HB := n0_; have HO106 := n1_; clear n0_ n1_; clear ho hb hg hat))
  go_loopg [5, 6] k (fun kq v5 v6 w' => ∃ (x5_1 : List (S30)) (x6_1 : Int), v6 = .int .i64 x6_1 ∧ Aside0 (ref04_Join.l0 kq l1 x5_1 x6_1 = some r) ∧ Aside0 (kq ≤ k) ∧ Aside0 (Kd.R k30 30 w' w.heap.size (fun _ => True) v5 x5_1) ∧ Aside0 (Below w.heap.size w w'))
  case atStart => exact ⟨(y104), (0), (by first | rfl | (simp; done) | (simp [*]; done)), H', ⟨Nat.le_refl _⟩, ⟨by (with_reducible repeat (first | apply Kd.qn_ | apply Kd.qm_ | apply Kd.R_drew)); exact HO106.out⟩, ⟨by repeat (first | (with_reducible first | exact HB.out | apply qc_ | apply qa_ | apply qb_) | exact HB.out)⟩⟩
  case round =>
   clear H'
   try clear c1
   try clear c2
   try clear p2
   try clear c3
   obtain ⟨x5_1, x6_1, rfl, HA, HK1, HO_5, HB⟩ := hrel
   cases gk with
   | zero => exact absurd HA.out (by simp [ref04_Join.l0])
   | succ k1 =>
    have H := HA.out
    clear HA
    simp only [ref04_Join.l0] at H
    by_cases c7 : x6_1 < (l1.length : Int)
    ·rw [if_pos c7] at H
     have c7b0 : decide (x6_1 < (l1.length : Int)) = true := decide_eq_true c7
     clear c7
     by_cases c8 : 0 ≤ x6_1
     ·rw [if_pos c8] at H
      have c8b0 : decide (0 ≤ x6_1) = true := decide_eq_true c8
      clear c8
      replace H := ob_ H
      obtain ⟨⟨t108, t109, t110, t111⟩, A90, H⟩ := H
      replace H : (if t111 = true then ((ref04_above.f ((rd_T30 l1 x6_1).f0) ((rd_T30 l1 x6_1).f1) ((rd_T30 l1 x6_1).f2) t108 t109 t110).bind fun t114 => (if t114 = true then ((ref04_Put.f k1 x5_1 ((rd_T30 l1 x6_1).f0) ((rd_T30 l1 x6_1).f1) ((rd_T30 l1 x6_1).f2)).bind fun t116 => (ref04_Join.l0 k1 l1 t116 (wrap64 (x6_1 + 1)))) else (ref04_Join.l0 k1 l1 x5_1 (wrap64 (x6_1 + 1))))) else ((ref04_Put.f k1 x5_1 ((rd_T30 l1 x6_1).f0) ((rd_T30 l1 x6_1).f1) ((rd_T30 l1 x6_1).f2)).bind fun t120 => (ref04_Join.l0 k1 l1 t120 (wrap64 (x6_1 + 1))))) = some r := H
      have A9 := Aside0.mk A90
      clear A90
      by_cases c10 : t111 = true
      ·subst c10
       have H1 : ((ref04_above.f ((rd_T30 l1 x6_1).f0) ((rd_T30 l1 x6_1).f1) ((rd_T30 l1 x6_1).f2) t108 t109 t110).bind fun t114 => (if t114 = true then ((ref04_Put.f k1 x5_1 ((rd_T30 l1 x6_1).f0) ((rd_T30 l1 x6_1).f1) ((rd_T30 l1 x6_1).f2)).bind fun t116 => (ref04_Join.l0 k1 l1 t116 (wrap64 (x6_1 + 1)))) else (ref04_Join.l0 k1 l1 x5_1 (wrap64 (x6_1 + 1))))) = some r := by rw [if_pos rfl] at H; exact H
       clear H
       have H := H1
       clear H1
       replace H := ob_ H
       obtain ⟨t114, A110, H⟩ := H
       replace H : (if t114 = true then ((ref04_Put.f k1 x5_1 ((rd_T30 l1 x6_1).f0) ((rd_T30 l1 x6_1).f1) ((rd_T30 l1 x6_1).f2)).bind fun t116 => (ref04_Join.l0 k1 l1 t116 (wrap64 (x6_1 + 1)))) else (ref04_Join.l0 k1 l1 x5_1 (wrap64 (x6_1 + 1)))) = some r := H
       have A11 := Aside0.mk A110
       clear A110
       by_cases c12 : t114 = true
       ·subst c12
        have H1 : ((ref04_Put.f k1 x5_1 ((rd_T30 l1 x6_1).f0) ((rd_T30 l1 x6_1).f1) ((rd_T30 l1 x6_1).f2)).bind fun t116 => (ref04_Join.l0 k1 l1 t116 (wrap64 (x6_1 + 1)))) = some r := by rw [if_pos rfl] at H; exact H
        clear H
        have H := H1
        clear H1
        replace H := ob_ H
        obtain ⟨t116, A130, H⟩ := H
        replace H : (ref04_Join.l0 k1 l1 t116 (wrap64 (x6_1 + 1))) = some r := H
        have A13 := Aside0.mk A130
        clear A130
        have H' := Aside0.mk H
        clear H
        have p107 : 0 ≤ (x6_1 : Int) := of_decide_eq_true (by first | (with_reducible assumption) | assumption)
        have q107 : x6_1 < (l1.length : Int) := of_decide_eq_true (by first | (with_reducible assumption) | assumption)
        obtain ⟨ad107, e107, hx107_0, hx107_1, hx107_2⟩ := at_T30 HR1.out x6_1 p107 q107
        cases e107
        replace hx107_0 := (HB.out.cell (wb_ w _ hx107_0)).trans hx107_0
        replace hx107_1 := (HB.out.cell (wb_ w _ hx107_1)).trans hx107_1
        replace hx107_2 := (HB.out.cell (wb_ w _ hx107_2)).trans hx107_2
        replace p107 := eq_true p107
        replace q107 := eq_true q107
        obtain ⟨Ao14, co14, eo14⟩ := Kd.R_slice HO_5.out
        subst eo14
        try go_wp2_with (first | ((with_reducible refine gate_callee (f := 17) rfl ?_); refine goesL_ (some 25) rfl rfl Try.func17 (by kernel_rfl) rfl #[.slice Ao14 x5_1.length co14, .int .i64 ((rd_T30 l1 x6_1).f0)] rfl (by (try simp only [List.map_toArray, List.map_cons, List.map_nil]); first | done | rfl | (simp only [List.length_drop, List.length_take]; rfl)) ?_; (with_reducible refine (ref04_Get.calls k1 _ _ x5_1 ((rd_T30 l1 x6_1).f0) t108 t109 t110 true _ ?side1 ?side2 A9.out).mono ?_); (case side1 => repeat (first | exact (Kd.R_reads' HO_5.out).2.2 | (with_reducible refine Kd.qt_ ?_ _) | (with_reducible refine Kd.qs_ ?_ _) | (with_reducible refine Kd.C_drew ?_))); (case side2 => exact (Kd.R_reads' HO_5.out).2.1); rintro e w15 ⟨rfl, hb⟩; refine ⟨_, rfl, ?_⟩; have n0_ := Aside0.mk (Kd.R_below (by (with_reducible repeat (first | apply Kd.qn_ | apply Kd.qm_ | apply Kd.R_drew)); exact HO_5.out) hb); have n1_ := Aside0.mk (qk_ (by repeat (first | (with_reducible first | exact HB.out | apply qc_ | apply qa_ | apply qb_) | exact HB.out)) hb); clear HO_5; clear HB; have HO_5 := n0_; have HB := n1_; clear n0_ n1_; (try clear hb); (try clear hb2); (try clear hk); (try clear hi)) | ((with_reducible refine qq_ (N := 7) rfl ?_); refine qp_ ?hg (N := 7) ?hd (cs := #[.int .i64 0, .int .i64 0, .string (⟨#[]⟩ : ByteArray)]) (t := 30) ?hr ?_; (case hd => rfl); (case hg => rfl); (case hr => first | (go_simp; done) | (go_simp; rfl)); intro gb112 hg w16 hbox hb; have n0_ := Aside0.mk (Kd.R_below (Kd.R_elderB (by (with_reducible repeat (first | apply Kd.qn_ | apply Kd.qm_ | apply Kd.R_drew)); exact HO_5.out) gb112 (Nat.le_of_eq hg.symm)) hb); have n1_ := Aside0.mk (qk_ (by repeat (first | (with_reducible first | exact HB.out | apply qc_ | apply qa_ | apply qb_) | exact HB.out)) hb); have n2_ := Aside0.mk (hbox); have n3_ := Aside0.mk ((by rw [hg]; exact (qj_ (by repeat (first | (with_reducible first | exact HB.out | apply qc_ | apply qa_ | apply qb_) | exact HB.out))) : w.heap.size ≤ gb112)); have n4_ := Aside0.mk ((by rw [hg]; exact (qj_ (by repeat (first | (with_reducible first | exact HB.out | apply qc_ | apply qa_ | apply qb_) | exact HB.out))) : w.heap.size ≤ gb112)); clear HO_5; clear HB; have HO_5 := n0_; have HB := n1_; have BK112 := n2_; have GW112 := n3_; have GE112 := n4_; clear n0_ n1_ n2_ n3_ n4_; clear hb hbox hg; have hcz17_0 : w16.cell? ⟨gb112, 0, none⟩ = some (.int .i64 0) := (qi_ BK112.out 0).trans rfl; have hcz17_1 : w16.cell? ⟨gb112, 1, none⟩ = some (.int .i64 0) := (qi_ BK112.out 1).trans rfl; have hcz17_2 : w16.cell? ⟨gb112, 2, none⟩ = some (.string (⟨#[]⟩ : ByteArray)) := (qi_ BK112.out 2).trans rfl; have hfz17_0 := qh_ BK112.out 0; have hfz17_1 := qh_ BK112.out 1; have hfz17_2 := qh_ BK112.out 2))
        have n0_ : Aside0 (Kd.R k30 30 (((w16.setCell ⟨gb112, 0, none⟩ (.int .i64 t108)).setCell ⟨gb112, 1, none⟩ (.int .i64 t109)).setCell ⟨gb112, 2, none⟩ (.string t110)) w.heap.size (fun k_ => k_ ≠ gb112) (.slice Ao14 x5_1.length co14) x5_1) := ⟨by (with_reducible repeat (first | apply Kd.qn_ | apply Kd.qm_ | apply Kd.R_drew)); exact Kd.R_mono (Kd.R_far (p := ⟨gb112, 2, none⟩) (Kd.R_far (p := ⟨gb112, 1, none⟩) (Kd.R_far (p := ⟨gb112, 0, none⟩) (Kd.R_mono HO_5.out (fun k_ hk => (⟨hk, hk.2⟩ : _ ∧ k_ ≠ gb112))) (fun _ hk => hk.2) (.int .i64 t108)) (fun _ hk => hk.2) (.int .i64 t109)) (fun _ hk => hk.2) (.string t110)) (fun _ hk => hk.1.2)⟩
        have n1_ : Aside0 ((((w16.setCell ⟨gb112, 0, none⟩ (.int .i64 t108)).setCell ⟨gb112, 1, none⟩ (.int .i64 t109)).setCell ⟨gb112, 2, none⟩ (.string t110)).heap[gb112]? = some (.cells #[.int .i64 t108, .int .i64 t109, .string t110] 30 (0, 0))) := ⟨by (with_reducible repeat (first | refine qd_ ?_ _ | refine qf_ ?_ | refine qe_ ?_ _)); refine qr_ (cs := #[.int .i64 t108, .int .i64 t109, .string (⟨#[]⟩ : ByteArray)]) ?_ 2 _ rfl; (with_reducible repeat (first | refine qd_ ?_ _ | refine qf_ ?_ | refine qe_ ?_ _)); refine qr_ (cs := #[.int .i64 t108, .int .i64 0, .string (⟨#[]⟩ : ByteArray)]) ?_ 1 _ rfl; (with_reducible repeat (first | refine qd_ ?_ _ | refine qf_ ?_ | refine qe_ ?_ _)); refine qr_ (cs := #[.int .i64 0, .int .i64 0, .string (⟨#[]⟩ : ByteArray)]) ?_ 0 _ rfl; (with_reducible repeat (first | refine qd_ ?_ _ | refine qf_ ?_ | refine qe_ ?_ _)); exact BK112.out⟩
        have n2_ : Aside0 (Below w.heap.size w (((w16.setCell ⟨gb112, 0, none⟩ (.int .i64 t108)).setCell ⟨gb112, 1, none⟩ (.int .i64 t109)).setCell ⟨gb112, 2, none⟩ (.string t110))) := ⟨by repeat (first | (with_reducible first | exact HB.out | apply qc_ | apply qa_ | apply qb_ | refine qg_ ?_ GE112.out) | exact HB.out)⟩
        (try clear HO_5)
        (try clear BK112)
        (try clear HB)
        generalize (((w16.setCell ⟨gb112, 0, none⟩ (.int .i64 t108)).setCell ⟨gb112, 1, none⟩ (.int .i64 t109)).setCell ⟨gb112, 2, none⟩ (.string t110)) = w18 at n0_ n1_ n2_ ⊢
        have HO_5 := n0_
        have BK112 := n1_
        have HB := n2_
        clear n0_ n1_ n2_
        have n0_ := Aside0.mk (Kd.R_drew HO_5.out)
        have n1_ := Aside0.mk (qf_ BK112.out)
        have n2_ := Aside0.mk (qb_ HB.out)
        clear HO_5
        clear BK112
        clear HB
        have HO_5 := n0_
        have BK112 := n1_
        have HB := n2_
        clear n0_ n1_ n2_
        have p113 : 0 ≤ (x6_1 : Int) := of_decide_eq_true (by first | (with_reducible assumption) | assumption)
        have q113 : x6_1 < (l1.length : Int) := of_decide_eq_true (by first | (with_reducible assumption) | assumption)
        obtain ⟨ad113, e113, hx113_0, hx113_1, hx113_2⟩ := at_T30 HR1.out x6_1 p113 q113
        have hw113_2 := hx113_2
        have hw113_1 := hx113_1
        have hw113_0 := hx113_0
        obtain rfl : ad107 = ad113 := (by injection e113)
        replace hx113_0 := (HB.out.cell (wb_ w _ hx113_0)).trans hx113_0
        replace hx113_1 := (HB.out.cell (wb_ w _ hx113_1)).trans hx113_1
        replace hx113_2 := (HB.out.cell (wb_ w _ hx113_2)).trans hx113_2
        replace p113 := eq_true p113
        replace q113 := eq_true q113
        refine start_ (n := 10) (S := fun w' => w'.cell? ⟨gb112, 0, none⟩ = some (.int .i64 t108) ∧ w'.cell? ⟨gb112, 1, none⟩ = some (.int .i64 t109) ∧ w'.cell? ⟨gb112, 2, none⟩ = some (.string t110) ∧ w'.cell? (ad107.add ((x6_1).toNat * 3)) = some (.int .i64 ((rd_T30 l1 x6_1).f0)) ∧ w'.cell? ⟨(ad107.add ((x6_1).toNat * 3)).block, (ad107.add ((x6_1).toNat * 3)).off + 1, none⟩ = some (.int .i64 ((rd_T30 l1 x6_1).f1)) ∧ w'.cell? ⟨(ad107.add ((x6_1).toNat * 3)).block, (ad107.add ((x6_1).toNat * 3)).off + 2, none⟩ = some (.string ((rd_T30 l1 x6_1).f2))) (ds := []) #[false,false,false,false,false,false,false,false,false,false] (by kernel_rfl) rfl rfl ⟨(qi_ BK112.out 0).trans rfl, (qi_ BK112.out 1).trans rfl, (qi_ BK112.out 2).trans rfl, ((HB.out.cell (wb_ w _ hw113_0)).trans hw113_0), ((HB.out.cell (wb_ w _ hw113_1)).trans hw113_1), ((HB.out.cell (wb_ w _ hw113_2)).trans hw113_2)⟩ (fun hHeld => ?_); refine with_tabW ref04_Join.tab6 ref04_Join.bits6 (fun HT_ HW_ => ?_)
        generalize w18.drew = w19 at HO_5 BK112 HB hx113_0 hx113_1 hx113_2 hHeld ⊢
        refine pure_ (i := 0) (N := some 28) (v := ?_) (a' := ?_) #[true,false,false,false,false,false,false,false,false,false] rfl rfl (any_of HT_.out (by kernel_rfl)) (fun _ _ _ h => h) (Or.inl ⟨by rfl, ?_⟩) ?_ ?_
        rotate_left
        ·intro w'
         go_simp
         with_reducible rfl
        rotate_left
        ·simp only [Act.put, sa_, sb_, sc_, i64_w, i32_w]
         rfl
        refine pure_ (i := 1) (N := some 29) (v := ?_) (a' := ?_) #[true,true,false,false,false,false,false,false,false,false] rfl rfl (any_of HT_.out (by kernel_rfl)) (fun _ _ _ h => h) (Or.inl ⟨by rfl, ?_⟩) ?_ ?_
        rotate_left
        ·intro w'
         go_simp
         with_reducible rfl
        rotate_left
        ·simp only [Act.put, sa_, sb_, sc_, i64_w, i32_w]
         rfl
        refine pure_ (i := 2) (N := some 30) (v := ?_) (a' := ?_) #[true,true,true,false,false,false,false,false,false,false] rfl rfl (any_of HT_.out (by kernel_rfl)) (fun _ _ _ h => h) (Or.inl ⟨by rfl, ?_⟩) ?_ ?_
        rotate_left
        ·intro w'
         go_simp
         with_reducible rfl
        rotate_left
        ·simp only [Act.put, sa_, sb_, sc_, i64_w, i32_w]
         rfl
        refine pure_ (i := 3) (N := some 31) (v := ?_) (a' := ?_) #[true,true,true,true,false,false,false,false,false,false] rfl rfl (any_of HT_.out (by kernel_rfl)) (fun _ _ _ h => h) (Or.inl ⟨by rfl, ?_⟩) ?_ ?_
        rotate_left
        ·intro w'
         go_simp
         with_reducible rfl
        rotate_left
        ·simp only [Act.put, sa_, sb_, sc_, i64_w, i32_w]
         rfl
        refine pure_ (i := 4) (N := some 32) (v := ?_) (a' := ?_) #[true,true,true,true,true,false,false,false,false,false] rfl rfl (any_of HT_.out (by kernel_rfl)) (fun _ _ _ h => h) (Or.inl ⟨by rfl, ?_⟩) ?_ ?_
        rotate_left
        ·intro w'
         go_simp
         with_reducible rfl
        rotate_left
        ·simp only [Act.put, sa_, sb_, sc_, i64_w, i32_w]
         rfl
        refine pure_ (i := 5) (N := some 33) (v := ?_) (a' := ?_) #[true,true,true,true,true,true,false,false,false,false] rfl rfl (any_of HT_.out (by kernel_rfl)) (fun _ _ _ h => h) (Or.inl ⟨by rfl, ?_⟩) ?_ ?_
        rotate_left
        ·intro w'
         go_simp
         with_reducible rfl
        rotate_left
        ·simp only [Act.put, sa_, sb_, sc_, i64_w, i32_w]
         rfl
        refine take_ (i := 6) (N := some 34) (v := ?_) (a' := ?_) #[true,true,true,true,true,true,true,false,false,false] rfl rfl (take_ofW HT_.out HW_.out (by kernel_rfl)) (fun _ _ _ h => h) (Or.inl ⟨by rfl, ?_⟩) hHeld ?_ ?_
        rotate_left
        ·rintro w' ⟨s0, s1, s2, s3, s4, s5⟩
         go_simp
         with_reducible rfl
        rotate_left
        ·simp only [Act.put, sa_, sb_, sc_, i64_w, i32_w]
         rfl
        refine take_ (i := 7) (N := some 35) (v := ?_) (a' := ?_) #[true,true,true,true,true,true,true,true,false,false] rfl rfl (take_ofW HT_.out HW_.out (by kernel_rfl)) (fun _ _ _ h => h) (Or.inl ⟨by rfl, ?_⟩) hHeld ?_ ?_
        rotate_left
        ·rintro w' ⟨s0, s1, s2, s3, s4, s5⟩
         go_simp
         with_reducible rfl
        rotate_left
        ·simp only [Act.put, sa_, sb_, sc_, i64_w, i32_w]
         rfl
        refine one_ (i := 8) (N := some 36) #[true,true,true,true,true,true,true,true,true,false] rfl rfl (one_of HT_.out (by kernel_rfl)) (by decide) (fun K hK => ?_)
        refine goes_ Try.func36 (by kernel_rfl) rfl #[.agg #[.int .i64 ((rd_T30 l1 x6_1).f0), .int .i64 ((rd_T30 l1 x6_1).f1), .string ((rd_T30 l1 x6_1).f2)], .agg #[.int .i64 t108, .int .i64 t109, .string t110]] (by rfl) rfl rfl (by (try simp only [List.map_toArray, List.map_cons, List.map_nil]); first | done | rfl | (simp only [List.length_drop, List.length_take]; rfl)) ?_
        with_reducible refine (ref04_above.calls ((rd_T30 l1 x6_1).f0) ((rd_T30 l1 x6_1).f1) ((rd_T30 l1 x6_1).f2) t108 t109 t110 true _ A11.out).mono ?_
        rintro e w20 ⟨rfl, hb⟩
        refine ⟨_, rfl, ?_⟩
        have n0_ := Aside0.mk (Kd.R_below (by (with_reducible repeat (first | apply Kd.qn_ | apply Kd.qm_ | apply Kd.R_drew)); exact HO_5.out) hb)
        have n1_ := Aside0.mk (ql_ (g := gb112) (o := .cells #[.int .i64 t108, .int .i64 t109, .string t110] 30 (0, 0)) (by (with_reducible repeat (first | refine qd_ ?_ _ | refine qf_ ?_ | refine qe_ ?_ _)); exact BK112.out) hb)
        have n2_ := Aside0.mk (qk_ (by repeat (first | (with_reducible first | exact HB.out | apply qc_ | apply qa_ | apply qb_ | refine qg_ ?_ GE112.out) | exact HB.out)) hb)
        clear HO_5
        clear BK112
        clear HB
        have HO_5 := n0_
        have BK112 := n1_
        have HB := n2_
        clear n0_ n1_ n2_
        (try clear hb)
        (try clear hb2)
        (try clear hk)
        (try clear hi)
        refine hK.out _ _ ⟨(qi_ BK112.out 0).trans rfl, (qi_ BK112.out 1).trans rfl, (qi_ BK112.out 2).trans rfl, ((HB.out.cell (wb_ w _ hw113_0)).trans hw113_0), ((HB.out.cell (wb_ w _ hw113_1)).trans hw113_1), ((HB.out.cell (wb_ w _ hw113_2)).trans hw113_2)⟩ (fun hHeld => ?_)
        clear hK K
        refine norm_ (a' := ?_) ?_ ?_
        rotate_left
        ·show Act.put _ (some 36) _ = _
         simp only [Act.put, sa_, sb_, sc_, i64_w, i32_w]
         rfl
        refine pure_ (i := 9) (N := some 37) (v := ?_) (a' := ?_) #[true,true,true,true,true,true,true,true,true,true] rfl rfl (any_of HT_.out (by kernel_rfl)) (fun _ _ _ h => h) (Or.inl ⟨by rfl, ?_⟩) ?_ ?_
        rotate_left
        ·intro w'
         go_simp
         with_reducible rfl
        rotate_left
        ·simp only [Act.put, sa_, sb_, sc_, i64_w, i32_w]
         rfl
        refine done_ (done_of HT_.out (by kernel_rfl)) ?_
        have p115 : 0 ≤ (x6_1 : Int) := of_decide_eq_true (by first | (with_reducible assumption) | assumption)
        have q115 : x6_1 < (l1.length : Int) := of_decide_eq_true (by first | (with_reducible assumption) | assumption)
        obtain ⟨ad115, e115, hx115_0, hx115_1, hx115_2⟩ := at_T30 HR1.out x6_1 p115 q115
        obtain rfl : ad107 = ad115 := (by injection e115)
        replace hx115_0 := (HB.out.cell (wb_ w _ hx115_0)).trans hx115_0
        replace hx115_1 := (HB.out.cell (wb_ w _ hx115_1)).trans hx115_1
        replace hx115_2 := (HB.out.cell (wb_ w _ hx115_2)).trans hx115_2
        replace p115 := eq_true p115
        replace q115 := eq_true q115
        try go_wp2_with (first | ((with_reducible refine gate_callee (f := 26) rfl ?_); refine goesL_ (some 43) rfl rfl Try.func26 (by kernel_rfl) rfl #[.slice Ao14 x5_1.length co14, .agg #[.int .i64 ((rd_T30 l1 x6_1).f0), .int .i64 ((rd_T30 l1 x6_1).f1), .string ((rd_T30 l1 x6_1).f2)]] rfl (by (try simp only [List.map_toArray, List.map_cons, List.map_nil]); first | done | rfl | (simp only [List.length_drop, List.length_take]; rfl)) ?_; (with_reducible refine (ref04_Put.calls k1 _ _ x5_1 ((rd_T30 l1 x6_1).f0) ((rd_T30 l1 x6_1).f1) ((rd_T30 l1 x6_1).f2) t116 _ ?side1 ?side2 A13.out).mono ?_); (case side1 => repeat (first | exact (Kd.R_reads' HO_5.out).2.2 | (with_reducible refine Kd.qt_ ?_ _) | (with_reducible refine Kd.qs_ ?_ _) | (with_reducible refine Kd.C_drew ?_))); (case side2 => exact (Kd.R_reads' HO_5.out).2.1); rintro e w21 ⟨v117, rfl, ho0, hb⟩; refine ⟨_, rfl, ?_⟩; have n0_ := Aside0.mk (Kd.R_elder' (by (with_reducible repeat (first | apply Kd.qn_ | apply Kd.qm_ | apply Kd.R_drew)); exact HO_5.out) (Kd.R_base ho0) hb); have n1_ := Aside0.mk (Kd.R_lower (Kd.R_newB (Kd.R_new' ho0 (Kd.R_lt (by (with_reducible repeat (first | apply Kd.qn_ | apply Kd.qm_ | apply Kd.R_drew)); exact HO_5.out))) (g := gb112) (o := .cells #[.int .i64 t108, .int .i64 t109, .string t110] 30 (0, 0)) (by (with_reducible repeat (first | refine qd_ ?_ _ | refine qf_ ?_ | refine qe_ ?_ _)); exact BK112.out)) (qj_ (by repeat (first | (with_reducible first | exact HB.out | apply qc_ | apply qa_ | apply qb_ | refine qg_ ?_ GE112.out) | exact HB.out)))); have n2_ := Aside0.mk (ql_ (g := gb112) (o := .cells #[.int .i64 t108, .int .i64 t109, .string t110] 30 (0, 0)) (by (with_reducible repeat (first | refine qd_ ?_ _ | refine qf_ ?_ | refine qe_ ?_ _)); exact BK112.out) hb); have n3_ := Aside0.mk (qk_ (by repeat (first | (with_reducible first | exact HB.out | apply qc_ | apply qa_ | apply qb_ | refine qg_ ?_ GE112.out) | exact HB.out)) hb); clear HO_5; clear BK112; clear HB; have HO_5 := n0_; have HO118 := n1_; have BK112 := n2_; have HB := n3_; clear n0_ n1_ n2_ n3_; (try clear hb); (try clear hb2); (try clear hk); (try clear hi); (try clear ho0)))
        go_roundg k1
        case measure => have := HK1.out; omega
        case rel => exact ⟨(t116), (wrap64 (x6_1 + 1)), (by first | rfl | (simp; done) | (simp [*]; done)), H', ⟨by have := HK1.out; omega⟩, ⟨by (with_reducible repeat (first | apply Kd.qn_ | apply Kd.qm_ | apply Kd.R_drew)); exact Kd.R_mono HO118.out (fun _ hk => trivial)⟩, ⟨by repeat (first | (with_reducible first | exact HB.out | apply qc_ | apply qa_ | apply qb_ | refine qg_ ?_ GE112.out) | exact HB.out)⟩⟩
       ·replace c12 := Bool.eq_false_iff.mpr c12
        subst c12
        have H1 : (ref04_Join.l0 k1 l1 x5_1 (wrap64 (x6_1 + 1))) = some r := by rw [if_neg (show ¬ (false = true) by decide)] at H; exact H
        clear H
        have H := H1
        clear H1
        have H' := Aside0.mk H
        clear H
        have p107 : 0 ≤ (x6_1 : Int) := of_decide_eq_true (by first | (with_reducible assumption) | assumption)
        have q107 : x6_1 < (l1.length : Int) := of_decide_eq_true (by first | (with_reducible assumption) | assumption)
        obtain ⟨ad107, e107, hx107_0, hx107_1, hx107_2⟩ := at_T30 HR1.out x6_1 p107 q107
        cases e107
        replace hx107_0 := (HB.out.cell (wb_ w _ hx107_0)).trans hx107_0
        replace hx107_1 := (HB.out.cell (wb_ w _ hx107_1)).trans hx107_1
        replace hx107_2 := (HB.out.cell (wb_ w _ hx107_2)).trans hx107_2
        replace p107 := eq_true p107
        replace q107 := eq_true q107
        obtain ⟨Ao22, co22, eo22⟩ := Kd.R_slice HO_5.out
        subst eo22
        try go_wp2_with (first | ((with_reducible refine gate_callee (f := 17) rfl ?_); refine goesL_ (some 25) rfl rfl Try.func17 (by kernel_rfl) rfl #[.slice Ao22 x5_1.length co22, .int .i64 ((rd_T30 l1 x6_1).f0)] rfl (by (try simp only [List.map_toArray, List.map_cons, List.map_nil]); first | done | rfl | (simp only [List.length_drop, List.length_take]; rfl)) ?_; (with_reducible refine (ref04_Get.calls k1 _ _ x5_1 ((rd_T30 l1 x6_1).f0) t108 t109 t110 true _ ?side1 ?side2 A9.out).mono ?_); (case side1 => repeat (first | exact (Kd.R_reads' HO_5.out).2.2 | (with_reducible refine Kd.qt_ ?_ _) | (with_reducible refine Kd.qs_ ?_ _) | (with_reducible refine Kd.C_drew ?_))); (case side2 => exact (Kd.R_reads' HO_5.out).2.1); rintro e w23 ⟨rfl, hb⟩; refine ⟨_, rfl, ?_⟩; have n0_ := Aside0.mk (Kd.R_below (by (with_reducible repeat (first | apply Kd.qn_ | apply Kd.qm_ | apply Kd.R_drew)); exact HO_5.out) hb); have n1_ := Aside0.mk (qk_ (by repeat (first | (with_reducible first | exact HB.out | apply qc_ | apply qa_ | apply qb_) | exact HB.out)) hb); clear HO_5; clear HB; have HO_5 := n0_; have HB := n1_; clear n0_ n1_; (try clear hb); (try clear hb2); (try clear hk); (try clear hi)) | ((with_reducible refine qq_ (N := 7) rfl ?_); refine qp_ ?hg (N := 7) ?hd (cs := #[.int .i64 0, .int .i64 0, .string (⟨#[]⟩ : ByteArray)]) (t := 30) ?hr ?_; (case hd => rfl); (case hg => rfl); (case hr => first | (go_simp; done) | (go_simp; rfl)); intro gb112 hg w24 hbox hb; have n0_ := Aside0.mk (Kd.R_below (Kd.R_elderB (by (with_reducible repeat (first | apply Kd.qn_ | apply Kd.qm_ | apply Kd.R_drew)); exact HO_5.out) gb112 (Nat.le_of_eq hg.symm)) hb); have n1_ := Aside0.mk (qk_ (by repeat (first | (with_reducible first | exact HB.out | apply qc_ | apply qa_ | apply qb_) | exact HB.out)) hb); have n2_ := Aside0.mk (hbox); have n3_ := Aside0.mk ((by rw [hg]; exact (qj_ (by repeat (first | (with_reducible first | exact HB.out | apply qc_ | apply qa_ | apply qb_) | exact HB.out))) : w.heap.size ≤ gb112)); have n4_ := Aside0.mk ((by rw [hg]; exact (qj_ (by repeat (first | (with_reducible first | exact HB.out | apply qc_ | apply qa_ | apply qb_) | exact HB.out))) : w.heap.size ≤ gb112)); clear HO_5; clear HB; have HO_5 := n0_; have HB := n1_; have BK112 := n2_; have GW112 := n3_; have GE112 := n4_; clear n0_ n1_ n2_ n3_ n4_; clear hb hbox hg; have hcz25_0 : w24.cell? ⟨gb112, 0, none⟩ = some (.int .i64 0) := (qi_ BK112.out 0).trans rfl; have hcz25_1 : w24.cell? ⟨gb112, 1, none⟩ = some (.int .i64 0) := (qi_ BK112.out 1).trans rfl; have hcz25_2 : w24.cell? ⟨gb112, 2, none⟩ = some (.string (⟨#[]⟩ : ByteArray)) := (qi_ BK112.out 2).trans rfl; have hfz25_0 := qh_ BK112.out 0; have hfz25_1 := qh_ BK112.out 1; have hfz25_2 := qh_ BK112.out 2))
        have n0_ : Aside0 (Kd.R k30 30 (((w24.setCell ⟨gb112, 0, none⟩ (.int .i64 t108)).setCell ⟨gb112, 1, none⟩ (.int .i64 t109)).setCell ⟨gb112, 2, none⟩ (.string t110)) w.heap.size (fun k_ => k_ ≠ gb112) (.slice Ao22 x5_1.length co22) x5_1) := ⟨by (with_reducible repeat (first | apply Kd.qn_ | apply Kd.qm_ | apply Kd.R_drew)); exact Kd.R_mono (Kd.R_far (p := ⟨gb112, 2, none⟩) (Kd.R_far (p := ⟨gb112, 1, none⟩) (Kd.R_far (p := ⟨gb112, 0, none⟩) (Kd.R_mono HO_5.out (fun k_ hk => (⟨hk, hk.2⟩ : _ ∧ k_ ≠ gb112))) (fun _ hk => hk.2) (.int .i64 t108)) (fun _ hk => hk.2) (.int .i64 t109)) (fun _ hk => hk.2) (.string t110)) (fun _ hk => hk.1.2)⟩
        have n1_ : Aside0 ((((w24.setCell ⟨gb112, 0, none⟩ (.int .i64 t108)).setCell ⟨gb112, 1, none⟩ (.int .i64 t109)).setCell ⟨gb112, 2, none⟩ (.string t110)).heap[gb112]? = some (.cells #[.int .i64 t108, .int .i64 t109, .string t110] 30 (0, 0))) := ⟨by (with_reducible repeat (first | refine qd_ ?_ _ | refine qf_ ?_ | refine qe_ ?_ _)); refine qr_ (cs := #[.int .i64 t108, .int .i64 t109, .string (⟨#[]⟩ : ByteArray)]) ?_ 2 _ rfl; (with_reducible repeat (first | refine qd_ ?_ _ | refine qf_ ?_ | refine qe_ ?_ _)); refine qr_ (cs := #[.int .i64 t108, .int .i64 0, .string (⟨#[]⟩ : ByteArray)]) ?_ 1 _ rfl; (with_reducible repeat (first | refine qd_ ?_ _ | refine qf_ ?_ | refine qe_ ?_ _)); refine qr_ (cs := #[.int .i64 0, .int .i64 0, .string (⟨#[]⟩ : ByteArray)]) ?_ 0 _ rfl; (with_reducible repeat (first | refine qd_ ?_ _ | refine qf_ ?_ | refine qe_ ?_ _)); exact BK112.out⟩
        have n2_ : Aside0 (Below w.heap.size w (((w24.setCell ⟨gb112, 0, none⟩ (.int .i64 t108)).setCell ⟨gb112, 1, none⟩ (.int .i64 t109)).setCell ⟨gb112, 2, none⟩ (.string t110))) := ⟨by repeat (first | (with_reducible first | exact HB.out | apply qc_ | apply qa_ | apply qb_ | refine qg_ ?_ GE112.out) | exact HB.out)⟩
        (try clear HO_5)
        (try clear BK112)
        (try clear HB)
        generalize (((w24.setCell ⟨gb112, 0, none⟩ (.int .i64 t108)).setCell ⟨gb112, 1, none⟩ (.int .i64 t109)).setCell ⟨gb112, 2, none⟩ (.string t110)) = w26 at n0_ n1_ n2_ ⊢
        have HO_5 := n0_
        have BK112 := n1_
        have HB := n2_
        clear n0_ n1_ n2_
        have n0_ := Aside0.mk (Kd.R_drew HO_5.out)
        have n1_ := Aside0.mk (qf_ BK112.out)
        have n2_ := Aside0.mk (qb_ HB.out)
        clear HO_5
        clear BK112
        clear HB
        have HO_5 := n0_
        have BK112 := n1_
        have HB := n2_
        clear n0_ n1_ n2_
        have p113 : 0 ≤ (x6_1 : Int) := of_decide_eq_true (by first | (with_reducible assumption) | assumption)
        have q113 : x6_1 < (l1.length : Int) := of_decide_eq_true (by first | (with_reducible assumption) | assumption)
        obtain ⟨ad113, e113, hx113_0, hx113_1, hx113_2⟩ := at_T30 HR1.out x6_1 p113 q113
        have hw113_2 := hx113_2
        have hw113_1 := hx113_1
        have hw113_0 := hx113_0
        obtain rfl : ad107 = ad113 := (by injection e113)
        replace hx113_0 := (HB.out.cell (wb_ w _ hx113_0)).trans hx113_0
        replace hx113_1 := (HB.out.cell (wb_ w _ hx113_1)).trans hx113_1
        replace hx113_2 := (HB.out.cell (wb_ w _ hx113_2)).trans hx113_2
        replace p113 := eq_true p113
        replace q113 := eq_true q113
        refine start_ (n := 10) (S := fun w' => w'.cell? ⟨gb112, 0, none⟩ = some (.int .i64 t108) ∧ w'.cell? ⟨gb112, 1, none⟩ = some (.int .i64 t109) ∧ w'.cell? ⟨gb112, 2, none⟩ = some (.string t110) ∧ w'.cell? (ad107.add ((x6_1).toNat * 3)) = some (.int .i64 ((rd_T30 l1 x6_1).f0)) ∧ w'.cell? ⟨(ad107.add ((x6_1).toNat * 3)).block, (ad107.add ((x6_1).toNat * 3)).off + 1, none⟩ = some (.int .i64 ((rd_T30 l1 x6_1).f1)) ∧ w'.cell? ⟨(ad107.add ((x6_1).toNat * 3)).block, (ad107.add ((x6_1).toNat * 3)).off + 2, none⟩ = some (.string ((rd_T30 l1 x6_1).f2))) (ds := []) #[false,false,false,false,false,false,false,false,false,false] (by kernel_rfl) rfl rfl ⟨(qi_ BK112.out 0).trans rfl, (qi_ BK112.out 1).trans rfl, (qi_ BK112.out 2).trans rfl, ((HB.out.cell (wb_ w _ hw113_0)).trans hw113_0), ((HB.out.cell (wb_ w _ hw113_1)).trans hw113_1), ((HB.out.cell (wb_ w _ hw113_2)).trans hw113_2)⟩ (fun hHeld => ?_); refine with_tabW ref04_Join.tab6 ref04_Join.bits6 (fun HT_ HW_ => ?_)
        generalize w26.drew = w27 at HO_5 BK112 HB hx113_0 hx113_1 hx113_2 hHeld ⊢
        refine pure_ (i := 0) (N := some 28) (v := ?_) (a' := ?_) #[true,false,false,false,false,false,false,false,false,false] rfl rfl (any_of HT_.out (by kernel_rfl)) (fun _ _ _ h => h) (Or.inl ⟨by rfl, ?_⟩) ?_ ?_
        rotate_left
        ·intro w'
         go_simp
         with_reducible rfl
        rotate_left
        ·simp only [Act.put, sa_, sb_, sc_, i64_w, i32_w]
         rfl
        refine pure_ (i := 1) (N := some 29) (v := ?_) (a' := ?_) #[true,true,false,false,false,false,false,false,false,false] rfl rfl (any_of HT_.out (by kernel_rfl)) (fun _ _ _ h => h) (Or.inl ⟨by rfl, ?_⟩) ?_ ?_
        rotate_left
        ·intro w'
         go_simp
         with_reducible rfl
        rotate_left
        ·simp only [Act.put, sa_, sb_, sc_, i64_w, i32_w]
         rfl
        refine pure_ (i := 2) (N := some 30) (v := ?_) (a' := ?_) #[true,true,true,false,false,false,false,false,false,false] rfl rfl (any_of HT_.out (by kernel_rfl)) (fun _ _ _ h => h) (Or.inl ⟨by rfl, ?_⟩) ?_ ?_
        rotate_left
        ·intro w'
         go_simp
         with_reducible rfl
        rotate_left
        ·simp only [Act.put, sa_, sb_, sc_, i64_w, i32_w]
         rfl
        refine pure_ (i := 3) (N := some 31) (v := ?_) (a' := ?_) #[true,true,true,true,false,false,false,false,false,false] rfl rfl (any_of HT_.out (by kernel_rfl)) (fun _ _ _ h => h) (Or.inl ⟨by rfl, ?_⟩) ?_ ?_
        rotate_left
        ·intro w'
         go_simp
         with_reducible rfl
        rotate_left
        ·simp only [Act.put, sa_, sb_, sc_, i64_w, i32_w]
         rfl
        refine pure_ (i := 4) (N := some 32) (v := ?_) (a' := ?_) #[true,true,true,true,true,false,false,false,false,false] rfl rfl (any_of HT_.out (by kernel_rfl)) (fun _ _ _ h => h) (Or.inl ⟨by rfl, ?_⟩) ?_ ?_
        rotate_left
        ·intro w'
         go_simp
         with_reducible rfl
        rotate_left
        ·simp only [Act.put, sa_, sb_, sc_, i64_w, i32_w]
         rfl
        refine pure_ (i := 5) (N := some 33) (v := ?_) (a' := ?_) #[true,true,true,true,true,true,false,false,false,false] rfl rfl (any_of HT_.out (by kernel_rfl)) (fun _ _ _ h => h) (Or.inl ⟨by rfl, ?_⟩) ?_ ?_
        rotate_left
        ·intro w'
         go_simp
         with_reducible rfl
        rotate_left
        ·simp only [Act.put, sa_, sb_, sc_, i64_w, i32_w]
         rfl
        refine take_ (i := 6) (N := some 34) (v := ?_) (a' := ?_) #[true,true,true,true,true,true,true,false,false,false] rfl rfl (take_ofW HT_.out HW_.out (by kernel_rfl)) (fun _ _ _ h => h) (Or.inl ⟨by rfl, ?_⟩) hHeld ?_ ?_
        rotate_left
        ·rintro w' ⟨s0, s1, s2, s3, s4, s5⟩
         go_simp
         with_reducible rfl
        rotate_left
        ·simp only [Act.put, sa_, sb_, sc_, i64_w, i32_w]
         rfl
        refine take_ (i := 7) (N := some 35) (v := ?_) (a' := ?_) #[true,true,true,true,true,true,true,true,false,false] rfl rfl (take_ofW HT_.out HW_.out (by kernel_rfl)) (fun _ _ _ h => h) (Or.inl ⟨by rfl, ?_⟩) hHeld ?_ ?_
        rotate_left
        ·rintro w' ⟨s0, s1, s2, s3, s4, s5⟩
         go_simp
         with_reducible rfl
        rotate_left
        ·simp only [Act.put, sa_, sb_, sc_, i64_w, i32_w]
         rfl
        refine one_ (i := 8) (N := some 36) #[true,true,true,true,true,true,true,true,true,false] rfl rfl (one_of HT_.out (by kernel_rfl)) (by decide) (fun K hK => ?_)
        refine goes_ Try.func36 (by kernel_rfl) rfl #[.agg #[.int .i64 ((rd_T30 l1 x6_1).f0), .int .i64 ((rd_T30 l1 x6_1).f1), .string ((rd_T30 l1 x6_1).f2)], .agg #[.int .i64 t108, .int .i64 t109, .string t110]] (by rfl) rfl rfl (by (try simp only [List.map_toArray, List.map_cons, List.map_nil]); first | done | rfl | (simp only [List.length_drop, List.length_take]; rfl)) ?_
        with_reducible refine (ref04_above.calls ((rd_T30 l1 x6_1).f0) ((rd_T30 l1 x6_1).f1) ((rd_T30 l1 x6_1).f2) t108 t109 t110 false _ A11.out).mono ?_
        rintro e w28 ⟨rfl, hb⟩
        refine ⟨_, rfl, ?_⟩
        have n0_ := Aside0.mk (Kd.R_below (by (with_reducible repeat (first | apply Kd.qn_ | apply Kd.qm_ | apply Kd.R_drew)); exact HO_5.out) hb)
        have n1_ := Aside0.mk (ql_ (g := gb112) (o := .cells #[.int .i64 t108, .int .i64 t109, .string t110] 30 (0, 0)) (by (with_reducible repeat (first | refine qd_ ?_ _ | refine qf_ ?_ | refine qe_ ?_ _)); exact BK112.out) hb)
        have n2_ := Aside0.mk (qk_ (by repeat (first | (with_reducible first | exact HB.out | apply qc_ | apply qa_ | apply qb_ | refine qg_ ?_ GE112.out) | exact HB.out)) hb)
        clear HO_5
        clear BK112
        clear HB
        have HO_5 := n0_
        have BK112 := n1_
        have HB := n2_
        clear n0_ n1_ n2_
        (try clear hb)
        (try clear hb2)
        (try clear hk)
        (try clear hi)
        refine hK.out _ _ ⟨(qi_ BK112.out 0).trans rfl, (qi_ BK112.out 1).trans rfl, (qi_ BK112.out 2).trans rfl, ((HB.out.cell (wb_ w _ hw113_0)).trans hw113_0), ((HB.out.cell (wb_ w _ hw113_1)).trans hw113_1), ((HB.out.cell (wb_ w _ hw113_2)).trans hw113_2)⟩ (fun hHeld => ?_)
        clear hK K
        refine norm_ (a' := ?_) ?_ ?_
        rotate_left
        ·show Act.put _ (some 36) _ = _
         simp only [Act.put, sa_, sb_, sc_, i64_w, i32_w]
         rfl
        refine pure_ (i := 9) (N := some 37) (v := ?_) (a' := ?_) #[true,true,true,true,true,true,true,true,true,true] rfl rfl (any_of HT_.out (by kernel_rfl)) (fun _ _ _ h => h) (Or.inl ⟨by rfl, ?_⟩) ?_ ?_
        rotate_left
        ·intro w'
         go_simp
         with_reducible rfl
        rotate_left
        ·simp only [Act.put, sa_, sb_, sc_, i64_w, i32_w]
         rfl
        refine done_ (done_of HT_.out (by kernel_rfl)) ?_
        try go_wp2
        go_roundg k1
        case measure => have := HK1.out; omega
        case rel => exact ⟨(x5_1), (wrap64 (x6_1 + 1)), (by first | rfl | (simp; done) | (simp [*]; done)), H', ⟨by have := HK1.out; omega⟩, ⟨by (with_reducible repeat (first | apply Kd.qn_ | apply Kd.qm_ | apply Kd.R_drew)); exact Kd.R_mono HO_5.out (fun _ hk => trivial)⟩, ⟨by repeat (first | (with_reducible first | exact HB.out | apply qc_ | apply qa_ | apply qb_ | refine qg_ ?_ GE112.out) | exact HB.out)⟩⟩
      ·replace c10 := Bool.eq_false_iff.mpr c10
       subst c10
       have H1 : ((ref04_Put.f k1 x5_1 ((rd_T30 l1 x6_1).f0) ((rd_T30 l1 x6_1).f1) ((rd_T30 l1 x6_1).f2)).bind fun t120 => (ref04_Join.l0 k1 l1 t120 (wrap64 (x6_1 + 1)))) = some r := by rw [if_neg (show ¬ (false = true) by decide)] at H; exact H
       clear H
       have H := H1
       clear H1
       replace H := ob_ H
       obtain ⟨t120, A290, H⟩ := H
       replace H : (ref04_Join.l0 k1 l1 t120 (wrap64 (x6_1 + 1))) = some r := H
       have A29 := Aside0.mk A290
       clear A290
       have H' := Aside0.mk H
       clear H
       have p107 : 0 ≤ (x6_1 : Int) := of_decide_eq_true (by first | (with_reducible assumption) | assumption)
       have q107 : x6_1 < (l1.length : Int) := of_decide_eq_true (by first | (with_reducible assumption) | assumption)
       obtain ⟨ad107, e107, hx107_0, hx107_1, hx107_2⟩ := at_T30 HR1.out x6_1 p107 q107
       cases e107
       replace hx107_0 := (HB.out.cell (wb_ w _ hx107_0)).trans hx107_0
       replace hx107_1 := (HB.out.cell (wb_ w _ hx107_1)).trans hx107_1
       replace hx107_2 := (HB.out.cell (wb_ w _ hx107_2)).trans hx107_2
       replace p107 := eq_true p107
       replace q107 := eq_true q107
       obtain ⟨Ao30, co30, eo30⟩ := Kd.R_slice HO_5.out
       subst eo30
       try go_wp2_with (first | ((with_reducible refine gate_callee (f := 17) rfl ?_); refine goesL_ (some 25) rfl rfl Try.func17 (by kernel_rfl) rfl #[.slice Ao30 x5_1.length co30, .int .i64 ((rd_T30 l1 x6_1).f0)] rfl (by (try simp only [List.map_toArray, List.map_cons, List.map_nil]); first | done | rfl | (simp only [List.length_drop, List.length_take]; rfl)) ?_; (with_reducible refine (ref04_Get.calls k1 _ _ x5_1 ((rd_T30 l1 x6_1).f0) t108 t109 t110 false _ ?side1 ?side2 A9.out).mono ?_); (case side1 => repeat (first | exact (Kd.R_reads' HO_5.out).2.2 | (with_reducible refine Kd.qt_ ?_ _) | (with_reducible refine Kd.qs_ ?_ _) | (with_reducible refine Kd.C_drew ?_))); (case side2 => exact (Kd.R_reads' HO_5.out).2.1); rintro e w31 ⟨rfl, hb⟩; refine ⟨_, rfl, ?_⟩; have n0_ := Aside0.mk (Kd.R_below (by (with_reducible repeat (first | apply Kd.qn_ | apply Kd.qm_ | apply Kd.R_drew)); exact HO_5.out) hb); have n1_ := Aside0.mk (qk_ (by repeat (first | (with_reducible first | exact HB.out | apply qc_ | apply qa_ | apply qb_) | exact HB.out)) hb); clear HO_5; clear HB; have HO_5 := n0_; have HB := n1_; clear n0_ n1_; (try clear hb); (try clear hb2); (try clear hk); (try clear hi)) | ((with_reducible refine qq_ (N := 7) rfl ?_); refine qp_ ?hg (N := 7) ?hd (cs := #[.int .i64 0, .int .i64 0, .string (⟨#[]⟩ : ByteArray)]) (t := 30) ?hr ?_; (case hd => rfl); (case hg => rfl); (case hr => first | (go_simp; done) | (go_simp; rfl)); intro gb112 hg w32 hbox hb; have n0_ := Aside0.mk (Kd.R_below (Kd.R_elderB (by (with_reducible repeat (first | apply Kd.qn_ | apply Kd.qm_ | apply Kd.R_drew)); exact HO_5.out) gb112 (Nat.le_of_eq hg.symm)) hb); have n1_ := Aside0.mk (qk_ (by repeat (first | (with_reducible first | exact HB.out | apply qc_ | apply qa_ | apply qb_) | exact HB.out)) hb); have n2_ := Aside0.mk (hbox); have n3_ := Aside0.mk ((by rw [hg]; exact (qj_ (by repeat (first | (with_reducible first | exact HB.out | apply qc_ | apply qa_ | apply qb_) | exact HB.out))) : w.heap.size ≤ gb112)); have n4_ := Aside0.mk ((by rw [hg]; exact (qj_ (by repeat (first | (with_reducible first | exact HB.out | apply qc_ | apply qa_ | apply qb_) | exact HB.out))) : w.heap.size ≤ gb112)); clear HO_5; clear HB; have HO_5 := n0_; have HB := n1_; have BK112 := n2_; have GW112 := n3_; have GE112 := n4_; clear n0_ n1_ n2_ n3_ n4_; clear hb hbox hg; have hcz33_0 : w32.cell? ⟨gb112, 0, none⟩ = some (.int .i64 0) := (qi_ BK112.out 0).trans rfl; have hcz33_1 : w32.cell? ⟨gb112, 1, none⟩ = some (.int .i64 0) := (qi_ BK112.out 1).trans rfl; have hcz33_2 : w32.cell? ⟨gb112, 2, none⟩ = some (.string (⟨#[]⟩ : ByteArray)) := (qi_ BK112.out 2).trans rfl; have hfz33_0 := qh_ BK112.out 0; have hfz33_1 := qh_ BK112.out 1; have hfz33_2 := qh_ BK112.out 2))
       have n0_ : Aside0 (Kd.R k30 30 (((w32.setCell ⟨gb112, 0, none⟩ (.int .i64 t108)).setCell ⟨gb112, 1, none⟩ (.int .i64 t109)).setCell ⟨gb112, 2, none⟩ (.string t110)) w.heap.size (fun k_ => k_ ≠ gb112) (.slice Ao30 x5_1.length co30) x5_1) := ⟨by (with_reducible repeat (first | apply Kd.qn_ | apply Kd.qm_ | apply Kd.R_drew)); exact Kd.R_mono (Kd.R_far (p := ⟨gb112, 2, none⟩) (Kd.R_far (p := ⟨gb112, 1, none⟩) (Kd.R_far (p := ⟨gb112, 0, none⟩) (Kd.R_mono HO_5.out (fun k_ hk => (⟨hk, hk.2⟩ : _ ∧ k_ ≠ gb112))) (fun _ hk => hk.2) (.int .i64 t108)) (fun _ hk => hk.2) (.int .i64 t109)) (fun _ hk => hk.2) (.string t110)) (fun _ hk => hk.1.2)⟩
       have n1_ : Aside0 ((((w32.setCell ⟨gb112, 0, none⟩ (.int .i64 t108)).setCell ⟨gb112, 1, none⟩ (.int .i64 t109)).setCell ⟨gb112, 2, none⟩ (.string t110)).heap[gb112]? = some (.cells #[.int .i64 t108, .int .i64 t109, .string t110] 30 (0, 0))) := ⟨by (with_reducible repeat (first | refine qd_ ?_ _ | refine qf_ ?_ | refine qe_ ?_ _)); refine qr_ (cs := #[.int .i64 t108, .int .i64 t109, .string (⟨#[]⟩ : ByteArray)]) ?_ 2 _ rfl; (with_reducible repeat (first | refine qd_ ?_ _ | refine qf_ ?_ | refine qe_ ?_ _)); refine qr_ (cs := #[.int .i64 t108, .int .i64 0, .string (⟨#[]⟩ : ByteArray)]) ?_ 1 _ rfl; (with_reducible repeat (first | refine qd_ ?_ _ | refine qf_ ?_ | refine qe_ ?_ _)); refine qr_ (cs := #[.int .i64 0, .int .i64 0, .string (⟨#[]⟩ : ByteArray)]) ?_ 0 _ rfl; (with_reducible repeat (first | refine qd_ ?_ _ | refine qf_ ?_ | refine qe_ ?_ _)); exact BK112.out⟩
       have n2_ : Aside0 (Below w.heap.size w (((w32.setCell ⟨gb112, 0, none⟩ (.int .i64 t108)).setCell ⟨gb112, 1, none⟩ (.int .i64 t109)).setCell ⟨gb112, 2, none⟩ (.string t110))) := ⟨by repeat (first | (with_reducible first | exact HB.out | apply qc_ | apply qa_ | apply qb_ | refine qg_ ?_ GE112.out) | exact HB.out)⟩
       (try clear HO_5)
       (try clear BK112)
       (try clear HB)
       generalize (((w32.setCell ⟨gb112, 0, none⟩ (.int .i64 t108)).setCell ⟨gb112, 1, none⟩ (.int .i64 t109)).setCell ⟨gb112, 2, none⟩ (.string t110)) = w34 at n0_ n1_ n2_ ⊢
       have HO_5 := n0_
       have BK112 := n1_
       have HB := n2_
       clear n0_ n1_ n2_
       have n0_ := Aside0.mk (Kd.R_drew HO_5.out)
       have n1_ := Aside0.mk (qf_ BK112.out)
       have n2_ := Aside0.mk (qb_ HB.out)
       clear HO_5
       clear BK112
       clear HB
       have HO_5 := n0_
       have BK112 := n1_
       have HB := n2_
       clear n0_ n1_ n2_
       refine start_ (n := 10) (S := fun w' => True) (ds := []) #[false,false,false,false,false,false,false,false,false,false] (by kernel_rfl) rfl rfl trivial (fun hHeld => ?_); refine with_tabW ref04_Join.tab6 ref04_Join.bits6 (fun HT_ HW_ => ?_)
       generalize w34.drew = w35 at HO_5 BK112 HB hHeld ⊢
       refine pure_ (i := 0) (N := some 28) (v := ?_) (a' := ?_) #[true,false,false,false,false,false,false,false,false,false] rfl rfl (any_of HT_.out (by kernel_rfl)) (fun _ _ _ h => h) (Or.inl ⟨by rfl, ?_⟩) ?_ ?_
       rotate_left
       ·intro w'
        go_simp
        with_reducible rfl
       rotate_left
       ·simp only [Act.put, sa_, sb_, sc_, i64_w, i32_w]
        rfl
       refine pure_ (i := 1) (N := some 29) (v := ?_) (a' := ?_) #[true,true,false,false,false,false,false,false,false,false] rfl rfl (any_of HT_.out (by kernel_rfl)) (fun _ _ _ h => h) (Or.inl ⟨by rfl, ?_⟩) ?_ ?_
       rotate_left
       ·intro w'
        go_simp
        with_reducible rfl
       rotate_left
       ·simp only [Act.put, sa_, sb_, sc_, i64_w, i32_w]
        rfl
       refine pure_ (i := 2) (N := some 30) (v := ?_) (a' := ?_) #[true,true,true,false,false,false,false,false,false,false] rfl rfl (any_of HT_.out (by kernel_rfl)) (fun _ _ _ h => h) (Or.inl ⟨by rfl, ?_⟩) ?_ ?_
       rotate_left
       ·intro w'
        go_simp
        with_reducible rfl
       rotate_left
       ·simp only [Act.put, sa_, sb_, sc_, i64_w, i32_w]
        rfl
       refine pure_ (i := 3) (N := some 31) (v := undef) (a' := ?_) #[true,true,true,true,false,false,false,false,false,false] rfl rfl (any_of HT_.out (by kernel_rfl)) (fun _ _ _ h => h) (Or.inr ⟨by rfl, rfl⟩) ?_ ?_
       rotate_left
       ·simp only [Act.put, sa_, sb_, sc_, i64_w, i32_w]
        rfl
       refine pure_ (i := 4) (N := some 32) (v := undef) (a' := ?_) #[true,true,true,true,true,false,false,false,false,false] rfl rfl (any_of HT_.out (by kernel_rfl)) (fun _ _ _ h => h) (Or.inr ⟨by rfl, rfl⟩) ?_ ?_
       rotate_left
       ·simp only [Act.put, sa_, sb_, sc_, i64_w, i32_w]
        rfl
       refine pure_ (i := 5) (N := some 33) (v := undef) (a' := ?_) #[true,true,true,true,true,true,false,false,false,false] rfl rfl (any_of HT_.out (by kernel_rfl)) (fun _ _ _ h => h) (Or.inr ⟨by rfl, rfl⟩) ?_ ?_
       rotate_left
       ·simp only [Act.put, sa_, sb_, sc_, i64_w, i32_w]
        rfl
       refine pure_ (i := 6) (N := some 34) (v := undef) (a' := ?_) #[true,true,true,true,true,true,true,false,false,false] rfl rfl (any_of HT_.out (by kernel_rfl)) (fun _ _ _ h => h) (Or.inr ⟨by rfl, rfl⟩) ?_ ?_
       rotate_left
       ·simp only [Act.put, sa_, sb_, sc_, i64_w, i32_w]
        rfl
       refine pure_ (i := 7) (N := some 35) (v := undef) (a' := ?_) #[true,true,true,true,true,true,true,true,false,false] rfl rfl (any_of HT_.out (by kernel_rfl)) (fun _ _ _ h => h) (Or.inr ⟨by rfl, rfl⟩) ?_ ?_
       rotate_left
       ·simp only [Act.put, sa_, sb_, sc_, i64_w, i32_w]
        rfl
       refine pure_ (i := 8) (N := some 36) (v := undef) (a' := ?_) #[true,true,true,true,true,true,true,true,true,false] rfl rfl (any_of HT_.out (by kernel_rfl)) (fun _ _ _ h => h) (Or.inr ⟨by rfl, rfl⟩) ?_ ?_
       rotate_left
       ·simp only [Act.put, sa_, sb_, sc_, i64_w, i32_w]
        rfl
       refine pure_ (i := 9) (N := some 37) (v := ?_) (a' := ?_) #[true,true,true,true,true,true,true,true,true,true] rfl rfl (any_of HT_.out (by kernel_rfl)) (fun _ _ _ h => h) (Or.inl ⟨by rfl, ?_⟩) ?_ ?_
       rotate_left
       ·intro w'
        go_simp
        with_reducible rfl
       rotate_left
       ·simp only [Act.put, sa_, sb_, sc_, i64_w, i32_w]
        rfl
       refine done_ (done_of HT_.out (by kernel_rfl)) ?_
       have p119 : 0 ≤ (x6_1 : Int) := of_decide_eq_true (by first | (with_reducible assumption) | assumption)
       have q119 : x6_1 < (l1.length : Int) := of_decide_eq_true (by first | (with_reducible assumption) | assumption)
       obtain ⟨ad119, e119, hx119_0, hx119_1, hx119_2⟩ := at_T30 HR1.out x6_1 p119 q119
       obtain rfl : ad107 = ad119 := (by injection e119)
       replace hx119_0 := (HB.out.cell (wb_ w _ hx119_0)).trans hx119_0
       replace hx119_1 := (HB.out.cell (wb_ w _ hx119_1)).trans hx119_1
       replace hx119_2 := (HB.out.cell (wb_ w _ hx119_2)).trans hx119_2
       replace p119 := eq_true p119
       replace q119 := eq_true q119
       try go_wp2_with (first | ((with_reducible refine gate_callee (f := 26) rfl ?_); refine goesL_ (some 43) rfl rfl Try.func26 (by kernel_rfl) rfl #[.slice Ao30 x5_1.length co30, .agg #[.int .i64 ((rd_T30 l1 x6_1).f0), .int .i64 ((rd_T30 l1 x6_1).f1), .string ((rd_T30 l1 x6_1).f2)]] rfl (by (try simp only [List.map_toArray, List.map_cons, List.map_nil]); first | done | rfl | (simp only [List.length_drop, List.length_take]; rfl)) ?_; (with_reducible refine (ref04_Put.calls k1 _ _ x5_1 ((rd_T30 l1 x6_1).f0) ((rd_T30 l1 x6_1).f1) ((rd_T30 l1 x6_1).f2) t120 _ ?side1 ?side2 A29.out).mono ?_); (case side1 => repeat (first | exact (Kd.R_reads' HO_5.out).2.2 | (with_reducible refine Kd.qt_ ?_ _) | (with_reducible refine Kd.qs_ ?_ _) | (with_reducible refine Kd.C_drew ?_))); (case side2 => exact (Kd.R_reads' HO_5.out).2.1); rintro e w36 ⟨v121, rfl, ho0, hb⟩; refine ⟨_, rfl, ?_⟩; have n0_ := Aside0.mk (Kd.R_elder' (by (with_reducible repeat (first | apply Kd.qn_ | apply Kd.qm_ | apply Kd.R_drew)); exact HO_5.out) (Kd.R_base ho0) hb); have n1_ := Aside0.mk (Kd.R_lower (Kd.R_newB (Kd.R_new' ho0 (Kd.R_lt (by (with_reducible repeat (first | apply Kd.qn_ | apply Kd.qm_ | apply Kd.R_drew)); exact HO_5.out))) (g := gb112) (o := .cells #[.int .i64 t108, .int .i64 t109, .string t110] 30 (0, 0)) (by (with_reducible repeat (first | refine qd_ ?_ _ | refine qf_ ?_ | refine qe_ ?_ _)); exact BK112.out)) (qj_ (by repeat (first | (with_reducible first | exact HB.out | apply qc_ | apply qa_ | apply qb_ | refine qg_ ?_ GE112.out) | exact HB.out)))); have n2_ := Aside0.mk (ql_ (g := gb112) (o := .cells #[.int .i64 t108, .int .i64 t109, .string t110] 30 (0, 0)) (by (with_reducible repeat (first | refine qd_ ?_ _ | refine qf_ ?_ | refine qe_ ?_ _)); exact BK112.out) hb); have n3_ := Aside0.mk (qk_ (by repeat (first | (with_reducible first | exact HB.out | apply qc_ | apply qa_ | apply qb_ | refine qg_ ?_ GE112.out) | exact HB.out)) hb); clear HO_5; clear BK112; clear HB; have HO_5 := n0_; have HO122 := n1_; have BK112 := n2_; have HB := n3_; clear n0_ n1_ n2_ n3_; (try clear hb); (try clear hb2); (try clear hk); (try clear hi); (try clear ho0)))
       go_roundg k1
       case measure => have := HK1.out; omega
       case rel => exact ⟨(t120), (wrap64 (x6_1 + 1)), (by first | rfl | (simp; done) | (simp [*]; done)), H', ⟨by have := HK1.out; omega⟩, ⟨by (with_reducible repeat (first | apply Kd.qn_ | apply Kd.qm_ | apply Kd.R_drew)); exact Kd.R_mono HO122.out (fun _ hk => trivial)⟩, ⟨by repeat (first | (with_reducible first | exact HB.out | apply qc_ | apply qa_ | apply qb_ | refine qg_ ?_ GE112.out) | exact HB.out)⟩⟩
     ·rw [if_neg c8] at H
      exact absurd H (by simp)
    ·rw [if_neg c7] at H
     have c7b0 : decide (x6_1 < (l1.length : Int)) = false := decide_eq_false c7
     clear c7
     obtain rfl := Option.some.inj H
     go_wp2
     go_ret
     exact ⟨_, by first | rfl | (simp [errW_none, errW_some] <;> rfl) | (simp [*, errW_none, errW_some] <;> rfl), by (with_reducible repeat (first | apply Kd.qn_ | apply Kd.qm_ | apply Kd.R_drew)); exact HO_5.out, by repeat (first | (with_reducible first | exact HB.out | apply qc_ | apply qa_ | apply qb_) | exact HB.out)⟩
 ·rw [if_neg c3] at H
  exact absurd H (by simp)
end Go.Proofs.Ytpccnpgigmcfoaa.P

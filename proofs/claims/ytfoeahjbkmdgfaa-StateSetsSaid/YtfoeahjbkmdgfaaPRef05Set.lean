/- What this function of the program comes to, and that the machine's call does it: written by a program (wip/tool). No condition. -/
import Derived.Test.YtfoeahjbkmdgfaaP0
import Derived.Test.YtfoeahjbkmdgfaaPRef04May
import Derived.Test.YtfoeahjbkmdgfaaPRef05Right
import Derived.Test.YtfoeahjbkmdgfaaPRef05Top
import Derived.Test.YtfoeahjbkmdgfaaPRef04Put
import Derived.Test.YtfoeahjbkmdgfaaHw
namespace Go.Proofs.Ytfoeahjbkmdgfaa.P
open Go.RowKit Go.Proofs.YtfoeahjbkmdgfaaW.PrintWords Go.Proofs.YtfoeahjbkmdgfaaW.PrintLast Go.Proofs.YtfoeahjbkmdgfaaW.PrintMore
attribute [local go_sem] max2_int min2_int max_two min_two vb_ va_ max_four min_four Go.Proofs.YtfoeahjbkmdgfaaW.Hw.string_gtr   -- for this text's walks alone
set_option linter.unusedVariables false
set_option linter.unusedSimpArgs false
/-! ### ref05_Set: function 13 -/
def ref05_Set.j0 : Nat → Bool → Int → Int → List (S40) → Int → Int → ByteArray → Option (Int × Int × (List (S40)) × Int)
 | 0, _, _, _, _, _, _, _ => none
 | k + 1, x19, x102000, x102001, x102002, x104000, x104001, x104002 => if x19 = true then (some (x102000, x102001, x102002, 1)) else ((ref05_Top.f k x102000 x102001 x102002).bind fun t106 => (if t106 = 1099511627776 then (some (x102000, x102001, x102002, 11)) else ((ref05_Top.f k x102000 x102001 x102002).bind fun t107 => ((ref04_Put.f k x102002 x104000 (wrap64 (t107 + 1)) x104002).bind fun t108 => (some (x102000, x102001, t108, 0))))))
def ref05_Set.f (k : Nat) (a0_0 : Int) (a0_1 : Int) (l0_2 : List (S40)) (a1 : Int) (a2 : ByteArray) : Option (Int × Int × (List (S40)) × Int) := (ref05_Right.f k a0_0 a0_1 l0_2).bind fun t104 => (if t104 = true then ((ref04_May.f a1 1 a2).bind fun t105 => (ref05_Set.j0 k (!t105) a0_0 a0_1 l0_2 a1 1 a2)) else (ref05_Set.j0 k true a0_0 a0_1 l0_2 a1 1 a2))
theorem ref05_Set.mono_l : ∀ k, (∀ y0 y1 y2 y3 y4 y5 y6, LeO (ref05_Set.j0 k y0 y1 y2 y3 y4 y5 y6) (ref05_Set.j0 (k + 1) y0 y1 y2 y3 y4 y5 y6))
 | 0 => fun _ _ _ _ _ _ _ r h => by simp [ref05_Set.j0] at h
 | k + 1 => by
  have ih0 := ref05_Set.mono_l k
  ·intro y0 y1 y2 y3 y4 y5 y6
   unfold ref05_Set.j0
   repeat' first
   | (with_reducible exact ih0 _ _ _ _ _ _ _)
   | (with_reducible exact ref04_Put.mono _ _ _ _ _)
   | (with_reducible exact ref05_Right.mono _ _ _ _)
   | (with_reducible exact ref05_Top.mono _ _ _ _)
   | (with_reducible exact LeO.refl _)
   | (with_reducible exact LeO.none _)
   | (with_reducible refine LeO.ite ?_ ?_)
   | (with_reducible refine LeO.bind ?_ (fun _ => ?_))
   | exact ih0 _ _ _ _ _ _ _
   | exact ref04_Put.mono _ _ _ _ _
   | exact ref05_Right.mono _ _ _ _
   | exact ref05_Top.mono _ _ _ _
   | exact LeO.none _
   | refine LeO.ite ?_ ?_
   | refine LeO.bind ?_ (fun _ => ?_)
theorem ref05_Set.mono : ∀ a0 a1 a2 a3 a4 k, LeO (ref05_Set.f k a0 a1 a2 a3 a4) (ref05_Set.f (k + 1) a0 a1 a2 a3 a4) := by
 intro a0 a1 a2 a3 a4 k
 have ih0 := ref05_Set.mono_l k
 unfold ref05_Set.f
 repeat' first
   | (with_reducible exact ih0 _ _ _ _ _ _ _)
   | (with_reducible exact ref04_Put.mono _ _ _ _ _)
   | (with_reducible exact ref05_Right.mono _ _ _ _)
   | (with_reducible exact ref05_Top.mono _ _ _ _)
   | (with_reducible exact LeO.refl _)
   | (with_reducible exact LeO.none _)
   | (with_reducible refine LeO.ite ?_ ?_)
   | (with_reducible refine LeO.bind ?_ (fun _ => ?_))
   | exact ih0 _ _ _ _ _ _ _
   | exact ref04_Put.mono _ _ _ _ _
   | exact ref05_Right.mono _ _ _ _
   | exact ref05_Top.mono _ _ _ _
   | exact LeO.none _
   | refine LeO.ite ?_ ?_
   | refine LeO.bind ?_ (fun _ => ?_)
def ref05_Set.T7 : Bool × List (List Nat × List Nat) := (true, [([], []), ([0], [0]), ([], []), ([2], [2]), ([], []), ([4], [4]), ([], []), ([5, 6], [5, 6]), ([1, 3, 7], [1, 3, 7]), ([8, 7, 0, 1, 2, 3, 4, 5, 6, 7, 8], [8]), ([9, 0, 1, 2, 3, 4, 5, 6, 7, 8, 9], [])])
def ref05_Set.B7 : List Nat := [0, 1, 0, 4, 0, 16, 0, 112, 255, 511, 1023]
theorem ref05_Set.tab7 : rtab .any (opsOf Try.f13 7) = ref05_Set.T7 := by kernel_rfl
theorem ref05_Set.bits7 : waitsOk ref05_Set.T7.2 ref05_Set.B7 = true := by kernel_rfl
set_option maxHeartbeats 8000000 in
set_option maxRecDepth 100000 in
theorem ref05_Set.calls (k : Nat) (a0_0 : Int) (a0_1 : Int) (P0_2_ : Nat → Prop) (A0_2 : Option Addr) (c0_2 : Nat) (l0_2 : List (S40)) (a1 : Int) (a2 : ByteArray) (r1 : Int) (r2 : Int) (r3 : List (S40)) (r4 : Int) (w : World) (hs0_2 : Kd.V k40 40 w w.heap.size (fun k_ => P0_2_ k_) (.slice A0_2 l0_2.length c0_2) l0_2) (h : ref05_Set.f k a0_0 a0_1 l0_2 a1 a2 = some (r1, r2, r3, r4)) :
  Calls Try.prog 13 #[.agg #[.int .i64 a0_0, .int .i64 a0_1, .slice A0_2 l0_2.length c0_2], .int .i64 a1, .string a2] w fun e w' => ∃ v2_ : Value, e = .returned (.tuple #[.agg #[.int .i64 r1, .int .i64 r2, v2_], .int .i64 r4]) ∧ Kd.V k40 40 w' w.heap.size (fun k_ => (P0_2_ k_ ∨ w.heap.size ≤ k_)) v2_ r3 ∧ Below w.heap.size w w' := by
 have hu24 := Try.underlying24
 have hu40 := Try.underlying40
 have HO0_2 := Aside0.mk (show Kd.V k40 40 w w.heap.size (fun k_ => (P0_2_ k_ ∨ w.heap.size ≤ k_)) (.slice A0_2 l0_2.length c0_2) l0_2 from Kd.V_mono hs0_2 (fun k_ hk => .inl hk))
 have HB := Aside0.mk (Below.refl w.heap.size w)
 have H : ((ref05_Right.f k a0_0 a0_1 l0_2).bind fun t104 => (if t104 = true then ((ref04_May.f a1 1 a2).bind fun t105 => (ref05_Set.j0 k (!t105) a0_0 a0_1 l0_2 a1 1 a2)) else (ref05_Set.j0 k true a0_0 a0_1 l0_2 a1 1 a2))) = some (r1, r2, r3, r4) := h
 clear h
 have HC4 := Aside0.mk H
 clear H
 go_enter Try.func13, Try.ntmps13
 go_upto_region 2 with (first | ((with_reducible refine qq_ (N := 3) rfl ?_); refine qp_ ?hg (N := 3) ?hd (cs := #[.int .i64 a0_0, .int .i64 a0_1, .slice A0_2 l0_2.length c0_2]) (t := 24) ?hr ?_; (case hd => rfl); (case hg => rfl); (case hr => first | (go_simp; done) | (go_simp; rfl)); intro gb101 hg w5 hbox hb; have n0_ := Aside0.mk (Kd.qo_ (Kd.V_elderB (by (with_reducible repeat (first | apply Kd.qn_ | apply Kd.qm_ | apply Kd.V_drew)); exact HO0_2.out) gb101 (Nat.le_of_eq hg.symm)) hb); have n1_ := Aside0.mk (ql_ (by repeat (first | (with_reducible first | exact HB.out | apply qc_ | apply qa_ | apply qb_) | exact HB.out)) hb); have n2_ := Aside0.mk (hbox); have n3_ := Aside0.mk ((by rw [hg]; exact (qj_ (by repeat (first | (with_reducible first | exact HB.out | apply qc_ | apply qa_ | apply qb_) | exact HB.out))) : w.heap.size ≤ gb101)); have n4_ := Aside0.mk ((by rw [hg]; exact (qj_ (by repeat (first | (with_reducible first | exact HB.out | apply qc_ | apply qa_ | apply qb_) | exact HB.out))) : w.heap.size ≤ gb101)); clear HO0_2; clear HB; have HO0_2 := n0_; have HB := n1_; have BK101 := n2_; have GW101 := n3_; have GE101 := n4_; clear n0_ n1_ n2_ n3_ n4_; clear hb hbox hg) | ((with_reducible refine qq_ (N := 6) rfl ?_); refine qp_ ?hg (N := 6) ?hd (cs := #[.int .i64 0, .int .i64 0, .slice none 0 0]) (t := 24) ?hr ?_; (case hd => rfl); (case hg => rfl); (case hr => first | (go_simp; done) | (go_simp; rfl)); intro gb102 hg w6 hbox hb; have n0_ := Aside0.mk (Kd.qo_ (Kd.V_elderB (by (with_reducible repeat (first | apply Kd.qn_ | apply Kd.qm_ | apply Kd.V_drew)); exact HO0_2.out) gb102 (Nat.le_of_eq hg.symm)) hb); have n1_ := Aside0.mk (qk_ (g := gb101) (o := .cells #[.int .i64 a0_0, .int .i64 a0_1, .slice A0_2 l0_2.length c0_2] 24 (0, 0)) (by (with_reducible repeat (first | refine qe_ ?_ _ | refine qh_ ?_ | refine qd_ ?_ _)); exact BK101.out) hb); have n2_ := Aside0.mk (ql_ (by repeat (first | (with_reducible first | exact HB.out | apply qc_ | apply qa_ | apply qb_ | refine qf_ ?_ GE101.out) | exact HB.out)) hb); have n3_ := Aside0.mk (hbox); have n4_ := Aside0.mk ((by rw [hg]; exact (qj_ (by repeat (first | (with_reducible first | exact HB.out | apply qc_ | apply qa_ | apply qb_ | refine qf_ ?_ GE101.out) | exact HB.out))) : w.heap.size ≤ gb102)); have n5_ := Aside0.mk ((by rw [hg]; exact (qj_ (by repeat (first | (with_reducible first | exact HB.out | apply qc_ | apply qa_ | apply qb_ | refine qf_ ?_ GE101.out) | exact HB.out))) : w.heap.size ≤ gb102)); have n6_ := Aside0.mk ((by rw [hg]; exact Nat.ne_of_lt (blk_lt (g := gb101) (o := .cells #[.int .i64 a0_0, .int .i64 a0_1, .slice A0_2 l0_2.length c0_2] 24 (0, 0)) (by (with_reducible repeat (first | refine qe_ ?_ _ | refine qh_ ?_ | refine qd_ ?_ _)); exact BK101.out)) : gb101 ≠ gb102)); have n7_ := Aside0.mk ((by rw [hg]; exact Nat.ne_of_gt (blk_lt (g := gb101) (o := .cells #[.int .i64 a0_0, .int .i64 a0_1, .slice A0_2 l0_2.length c0_2] 24 (0, 0)) (by (with_reducible repeat (first | refine qe_ ?_ _ | refine qh_ ?_ | refine qd_ ?_ _)); exact BK101.out)) : gb102 ≠ gb101)); clear HO0_2; clear BK101; clear HB; have HO0_2 := n0_; have BK101 := n1_; have HB := n2_; have BK102 := n3_; have GW102 := n4_; have GE102 := n5_; have NB101_102 := n6_; have NB102_101 := n7_; clear n0_ n1_ n2_ n3_ n4_ n5_ n6_ n7_; clear hb hbox hg) | ((with_reducible refine qq_ (N := 8) rfl ?_); refine qp_ ?hg (N := 8) ?hd (cs := #[.int .i64 0, .int .i64 0, .string (⟨#[]⟩ : ByteArray)]) (t := 40) ?hr ?_; (case hd => rfl); (case hg => rfl); (case hr => first | (go_simp; done) | (go_simp; rfl)); intro gb103 hg w7 hbox hb; have n0_ := Aside0.mk (Kd.qo_ (Kd.V_elderB (by (with_reducible repeat (first | apply Kd.qn_ | apply Kd.qm_ | apply Kd.V_drew)); exact HO0_2.out) gb103 (Nat.le_of_eq hg.symm)) hb); have n1_ := Aside0.mk (qk_ (g := gb101) (o := .cells #[.int .i64 a0_0, .int .i64 a0_1, .slice A0_2 l0_2.length c0_2] 24 (0, 0)) (by (with_reducible repeat (first | refine qe_ ?_ _ | refine qh_ ?_ | refine qd_ ?_ _)); exact BK101.out) hb); have n2_ := Aside0.mk (qk_ (g := gb102) (o := .cells #[.int .i64 0, .int .i64 0, .slice none 0 0] 24 (0, 0)) (by (with_reducible repeat (first | refine qe_ ?_ _ | refine qh_ ?_ | refine qd_ ?_ _)); exact BK102.out) hb); have n3_ := Aside0.mk (ql_ (by repeat (first | (with_reducible first | exact HB.out | apply qc_ | apply qa_ | apply qb_ | refine qf_ ?_ GE101.out | refine qf_ ?_ GE102.out) | exact HB.out)) hb); have n4_ := Aside0.mk (hbox); have n5_ := Aside0.mk ((by rw [hg]; exact (qj_ (by repeat (first | (with_reducible first | exact HB.out | apply qc_ | apply qa_ | apply qb_ | refine qf_ ?_ GE101.out | refine qf_ ?_ GE102.out) | exact HB.out))) : w.heap.size ≤ gb103)); have n6_ := Aside0.mk ((by rw [hg]; exact (qj_ (by repeat (first | (with_reducible first | exact HB.out | apply qc_ | apply qa_ | apply qb_ | refine qf_ ?_ GE101.out | refine qf_ ?_ GE102.out) | exact HB.out))) : w.heap.size ≤ gb103)); have n7_ := Aside0.mk ((by rw [hg]; exact Nat.ne_of_lt (blk_lt (g := gb101) (o := .cells #[.int .i64 a0_0, .int .i64 a0_1, .slice A0_2 l0_2.length c0_2] 24 (0, 0)) (by (with_reducible repeat (first | refine qe_ ?_ _ | refine qh_ ?_ | refine qd_ ?_ _)); exact BK101.out)) : gb101 ≠ gb103)); have n8_ := Aside0.mk ((by rw [hg]; exact Nat.ne_of_gt (blk_lt (g := gb101) (o := .cells #[.int .i64 a0_0, .int .i64 a0_1, .slice A0_2 l0_2.length c0_2] 24 (0, 0)) (by (with_reducible repeat (first | refine qe_ ?_ _ | refine qh_ ?_ | refine qd_ ?_ _)); exact BK101.out)) : gb103 ≠ gb101)); have n9_ := Aside0.mk ((by rw [hg]; exact Nat.ne_of_lt (blk_lt (g := gb102) (o := .cells #[.int .i64 0, .int .i64 0, .slice none 0 0] 24 (0, 0)) (by (with_reducible repeat (first | refine qe_ ?_ _ | refine qh_ ?_ | refine qd_ ?_ _)); exact BK102.out)) : gb102 ≠ gb103)); have n10_ := Aside0.mk ((by rw [hg]; exact Nat.ne_of_gt (blk_lt (g := gb102) (o := .cells #[.int .i64 0, .int .i64 0, .slice none 0 0] 24 (0, 0)) (by (with_reducible repeat (first | refine qe_ ?_ _ | refine qh_ ?_ | refine qd_ ?_ _)); exact BK102.out)) : gb103 ≠ gb102)); clear HO0_2; clear BK101; clear BK102; clear HB; have HO0_2 := n0_; have BK101 := n1_; have BK102 := n2_; have HB := n3_; have BK103 := n4_; have GW103 := n5_; have GE103 := n6_; have NB101_103 := n7_; have NB103_101 := n8_; have NB102_103 := n9_; have NB103_102 := n10_; clear n0_ n1_ n2_ n3_ n4_ n5_ n6_ n7_ n8_ n9_ n10_; clear hb hbox hg; have hnb8 := NB103_101.out; have hnc8 := NB101_103.out; have hnb9 := NB103_102.out; have hnc9 := NB102_103.out; have hcz10_0 : w7.cell? ⟨gb103, 0, none⟩ = some (.int .i64 0) := (qg_ BK103.out 0).trans rfl; have hcz10_1 : w7.cell? ⟨gb103, 1, none⟩ = some (.int .i64 0) := (qg_ BK103.out 1).trans rfl; have hcz10_2 : w7.cell? ⟨gb103, 2, none⟩ = some (.string (⟨#[]⟩ : ByteArray)) := (qg_ BK103.out 2).trans rfl; have hfz10_0 := qi_ BK103.out 0; have hfz10_1 := qi_ BK103.out 1; have hfz10_2 := qi_ BK103.out 2))
 (try simp only [Act.put, sa_, sb_, sc_])
 go_cut [19] (fun v19 wc => ∃ (kq : Nat) (x19_3 : Bool), v19 = .bool x19_3 ∧ Aside0 (ref05_Set.j0 kq x19_3 a0_0 a0_1 l0_2 a1 1 a2 = some (r1, r2, r3, r4)) ∧ Aside0 (kq ≤ k) ∧ Aside0 (Kd.V k40 40 wc w.heap.size (fun k_ => (P0_2_ k_ ∨ w.heap.size ≤ k_) ∧ k_ ≠ gb101 ∧ k_ ≠ gb102 ∧ k_ ≠ gb103) (.slice A0_2 l0_2.length c0_2) l0_2) ∧ Aside0 (wc.heap[gb101]? = some (.cells #[.int .i64 a0_0, .int .i64 a0_1, (.slice A0_2 l0_2.length c0_2)] 24 (0, 0))) ∧ Aside0 (wc.heap[gb102]? = some (.cells #[.int .i64 0, .int .i64 0, (.slice none 0 0)] 24 (0, 0))) ∧ Aside0 (wc.heap[gb103]? = some (.cells #[.int .i64 a1, .int .i64 1, .string a2] 40 (0, 0))) ∧ Aside0 (Below w.heap.size w wc))
 case first =>
  have H := HC4.out
  clear HC4
  replace H := ob_ H
  obtain ⟨t104, A110, H⟩ := H
  replace H : (if t104 = true then ((ref04_May.f a1 1 a2).bind fun t105 => (ref05_Set.j0 k (!t105) a0_0 a0_1 l0_2 a1 1 a2)) else (ref05_Set.j0 k true a0_0 a0_1 l0_2 a1 1 a2)) = some (r1, r2, r3, r4) := H
  have A11 := Aside0.mk A110
  clear A110
  by_cases c12 : t104 = true
  ·subst c12
   have H1 : ((ref04_May.f a1 1 a2).bind fun t105 => (ref05_Set.j0 k (!t105) a0_0 a0_1 l0_2 a1 1 a2)) = some (r1, r2, r3, r4) := by rw [if_pos rfl] at H; exact H
   clear H
   have H := H1
   clear H1
   replace H := ob_ H
   obtain ⟨t105, A130, H⟩ := H
   replace H : (ref05_Set.j0 k (!t105) a0_0 a0_1 l0_2 a1 1 a2) = some (r1, r2, r3, r4) := H
   have A13 := Aside0.mk A130
   clear A130
   have H' := Aside0.mk H
   clear H
   have hnb14 := NB101_102.out
   have hnc14 := NB102_101.out
   have hnb15 := NB101_103.out
   have hnc15 := NB103_101.out
   have hcz16_0 : w7.cell? ⟨gb101, 0, none⟩ = some (.int .i64 a0_0) := (qg_ BK101.out 0).trans rfl
   have hcz16_1 : w7.cell? ⟨gb101, 1, none⟩ = some (.int .i64 a0_1) := (qg_ BK101.out 1).trans rfl
   have hcz16_2 : w7.cell? ⟨gb101, 2, none⟩ = some (.slice A0_2 l0_2.length c0_2) := (qg_ BK101.out 2).trans rfl
   have hfz16_0 := qi_ BK101.out 0
   have hfz16_1 := qi_ BK101.out 1
   have hfz16_2 := qi_ BK101.out 2
   go_wp2_with (first | ((with_reducible refine qr_ (f := 17) rfl ?_); refine goesL_ (some 13) rfl rfl Try.func17 (by kernel_rfl) rfl #[.agg #[.int .i64 a0_0, .int .i64 a0_1, .slice A0_2 l0_2.length c0_2]] rfl (by (try simp only [List.map_toArray, List.map_cons, List.map_nil]); first | done | rfl | (simp only [List.length_drop, List.length_take]; rfl)) ?_; (with_reducible refine (ref05_Right.calls k a0_0 a0_1 _ _ l0_2 true _ ?side1 ?side2 A11.out).mono ?_); (case side1 => refine (Kd.V_reads' (e := 40) (base := w.heap.size) (ok := fun k_ => ((((P0_2_ k_ ∨ w.heap.size ≤ k_) ∧ k_ ≠ gb101) ∧ k_ ≠ gb102) ∧ k_ ≠ gb103)) (n := l0_2.length) (c := c0_2) ?_).2.2; exact (by (with_reducible repeat (first | apply Kd.qn_ | apply Kd.qm_ | apply Kd.V_drew)); exact (Kd.V_mono (Kd.V_far (p := ⟨gb103, 2, none⟩) (Kd.V_far (p := ⟨gb103, 1, none⟩) (Kd.V_far (p := ⟨gb103, 0, none⟩) (Kd.V_mono HO0_2.out (fun k_ hk => (⟨hk, hk.2⟩ : _ ∧ k_ ≠ gb103))) (fun _ hk => hk.2) (.int .i64 a1)) (fun _ hk => hk.2) (.int .i64 1)) (fun _ hk => hk.2) (.string a2)) (fun _ h_ => h_.1)))); (case side2 => exact (Kd.V_reads' HO0_2.out).2.1); rintro e w17 ⟨rfl, hb⟩; refine ⟨_, rfl, ?_⟩; have n0_ := Aside0.mk (Kd.qo_ (by (with_reducible repeat (first | apply Kd.qn_ | apply Kd.qm_ | apply Kd.V_drew)); exact (Kd.V_mono (Kd.V_far (p := ⟨gb103, 2, none⟩) (Kd.V_far (p := ⟨gb103, 1, none⟩) (Kd.V_far (p := ⟨gb103, 0, none⟩) (Kd.V_mono HO0_2.out (fun k_ hk => (⟨hk, hk.2⟩ : _ ∧ k_ ≠ gb103))) (fun _ hk => hk.2) (.int .i64 a1)) (fun _ hk => hk.2) (.int .i64 1)) (fun _ hk => hk.2) (.string a2)) (fun _ h_ => h_.1))) hb); have n1_ := Aside0.mk (qk_ (g := gb101) (o := .cells #[.int .i64 a0_0, .int .i64 a0_1, .slice A0_2 l0_2.length c0_2] 24 (0, 0)) (by (with_reducible repeat (first | refine qe_ ?_ _ | refine qh_ ?_ | refine qd_ ?_ _)); refine qx_ ?_ NB101_103.out _; (with_reducible repeat (first | refine qe_ ?_ _ | refine qh_ ?_ | refine qd_ ?_ _)); refine qx_ ?_ NB101_103.out _; (with_reducible repeat (first | refine qe_ ?_ _ | refine qh_ ?_ | refine qd_ ?_ _)); refine qx_ ?_ NB101_103.out _; (with_reducible repeat (first | refine qe_ ?_ _ | refine qh_ ?_ | refine qd_ ?_ _)); exact BK101.out) hb); have n2_ := Aside0.mk (qk_ (g := gb102) (o := .cells #[.int .i64 0, .int .i64 0, .slice none 0 0] 24 (0, 0)) (by (with_reducible repeat (first | refine qe_ ?_ _ | refine qh_ ?_ | refine qd_ ?_ _)); refine qx_ ?_ NB102_103.out _; (with_reducible repeat (first | refine qe_ ?_ _ | refine qh_ ?_ | refine qd_ ?_ _)); refine qx_ ?_ NB102_103.out _; (with_reducible repeat (first | refine qe_ ?_ _ | refine qh_ ?_ | refine qd_ ?_ _)); refine qx_ ?_ NB102_103.out _; (with_reducible repeat (first | refine qe_ ?_ _ | refine qh_ ?_ | refine qd_ ?_ _)); exact BK102.out) hb); have n3_ := Aside0.mk (qk_ (g := gb103) (o := .cells #[.int .i64 a1, .int .i64 1, .string a2] 40 (0, 0)) (by (with_reducible repeat (first | refine qe_ ?_ _ | refine qh_ ?_ | refine qd_ ?_ _)); refine qs_ (cs := #[.int .i64 a1, .int .i64 1, .string (⟨#[]⟩ : ByteArray)]) ?_ 2 _ rfl; (with_reducible repeat (first | refine qe_ ?_ _ | refine qh_ ?_ | refine qd_ ?_ _)); refine qs_ (cs := #[.int .i64 a1, .int .i64 0, .string (⟨#[]⟩ : ByteArray)]) ?_ 1 _ rfl; (with_reducible repeat (first | refine qe_ ?_ _ | refine qh_ ?_ | refine qd_ ?_ _)); refine qs_ (cs := #[.int .i64 0, .int .i64 0, .string (⟨#[]⟩ : ByteArray)]) ?_ 0 _ rfl; (with_reducible repeat (first | refine qe_ ?_ _ | refine qh_ ?_ | refine qd_ ?_ _)); exact BK103.out) hb); have n4_ := Aside0.mk (ql_ (by repeat (first | (with_reducible first | exact HB.out | apply qc_ | apply qa_ | apply qb_ | refine qf_ ?_ GE101.out | refine qf_ ?_ GE102.out | refine qf_ ?_ GE103.out) | exact HB.out)) hb); clear HO0_2; clear BK101; clear BK102; clear BK103; clear HB; have HO0_2 := n0_; have BK101 := n1_; have BK102 := n2_; have BK103 := n3_; have HB := n4_; clear n0_ n1_ n2_ n3_ n4_; (try clear hb); (try clear hb2); (try clear hk); (try clear hi); have hnb18 := NB103_102.out; have hnc18 := NB102_103.out; have hcz19_0 : w17.cell? ⟨gb103, 0, none⟩ = some (.int .i64 a1) := (qg_ BK103.out 0).trans rfl; have hcz19_1 : w17.cell? ⟨gb103, 1, none⟩ = some (.int .i64 1) := (qg_ BK103.out 1).trans rfl; have hcz19_2 : w17.cell? ⟨gb103, 2, none⟩ = some (.string a2) := (qg_ BK103.out 2).trans rfl; have hfz19_0 := qi_ BK103.out 0; have hfz19_1 := qi_ BK103.out 1; have hfz19_2 := qi_ BK103.out 2) | (go_at_call 33; (with_reducible refine (ref04_May.calls a1 1 a2 t105 _ A13.out).mono ?_); rintro e w20 ⟨rfl, hb⟩; have n0_ := Aside0.mk (Kd.qo_ (by (with_reducible repeat (first | apply Kd.qn_ | apply Kd.qm_ | apply Kd.V_drew)); exact HO0_2.out) hb); have n1_ := Aside0.mk (qk_ (g := gb101) (o := .cells #[.int .i64 a0_0, .int .i64 a0_1, .slice A0_2 l0_2.length c0_2] 24 (0, 0)) (by (with_reducible repeat (first | refine qe_ ?_ _ | refine qh_ ?_ | refine qd_ ?_ _)); exact BK101.out) hb); have n2_ := Aside0.mk (qk_ (g := gb102) (o := .cells #[.int .i64 0, .int .i64 0, .slice none 0 0] 24 (0, 0)) (by (with_reducible repeat (first | refine qe_ ?_ _ | refine qh_ ?_ | refine qd_ ?_ _)); exact BK102.out) hb); have n3_ := Aside0.mk (qk_ (g := gb103) (o := .cells #[.int .i64 a1, .int .i64 1, .string a2] 40 (0, 0)) (by (with_reducible repeat (first | refine qe_ ?_ _ | refine qh_ ?_ | refine qd_ ?_ _)); exact BK103.out) hb); have n4_ := Aside0.mk (ql_ (by repeat (first | (with_reducible first | exact HB.out | apply qc_ | apply qa_ | apply qb_ | refine qf_ ?_ GE101.out | refine qf_ ?_ GE102.out | refine qf_ ?_ GE103.out) | exact HB.out)) hb); clear HO0_2; clear BK101; clear BK102; clear BK103; clear HB; have HO0_2 := n0_; have BK101 := n1_; have BK102 := n2_; have BK103 := n3_; have HB := n4_; clear n0_ n1_ n2_ n3_ n4_; (try clear hb); (try clear hb2); (try clear hk); (try clear hi)))
   go_meet
   case rel => exact ⟨_, (!t105), (by first | rfl | (simp; done) | (simp [*]; done)), H', ⟨by first | omega | exact Nat.le_refl _⟩, ⟨by (with_reducible repeat (first | apply Kd.qn_ | apply Kd.qm_ | apply Kd.V_drew)); exact Kd.V_mono HO0_2.out (fun _ hk => ⟨hk.1.1.1, ⟨hk.1.1.2, ⟨hk.1.2, hk.2⟩⟩⟩)⟩, ⟨by (with_reducible repeat (first | refine qe_ ?_ _ | refine qh_ ?_ | refine qd_ ?_ _)); exact BK101.out⟩, ⟨by (with_reducible repeat (first | refine qe_ ?_ _ | refine qh_ ?_ | refine qd_ ?_ _)); exact BK102.out⟩, ⟨by (with_reducible repeat (first | refine qe_ ?_ _ | refine qh_ ?_ | refine qd_ ?_ _)); exact BK103.out⟩, ⟨by repeat (first | (with_reducible first | exact HB.out | apply qc_ | apply qa_ | apply qb_ | refine qf_ ?_ GE101.out | refine qf_ ?_ GE102.out | refine qf_ ?_ GE103.out) | exact HB.out)⟩⟩
  ·replace c12 := Bool.eq_false_iff.mpr c12
   subst c12
   have H1 : (ref05_Set.j0 k true a0_0 a0_1 l0_2 a1 1 a2) = some (r1, r2, r3, r4) := by rw [if_neg (show ¬ (false = true) by decide)] at H; exact H
   clear H
   have H := H1
   clear H1
   have H' := Aside0.mk H
   clear H
   have hnb21 := NB101_102.out
   have hnc21 := NB102_101.out
   have hnb22 := NB101_103.out
   have hnc22 := NB103_101.out
   have hcz23_0 : w7.cell? ⟨gb101, 0, none⟩ = some (.int .i64 a0_0) := (qg_ BK101.out 0).trans rfl
   have hcz23_1 : w7.cell? ⟨gb101, 1, none⟩ = some (.int .i64 a0_1) := (qg_ BK101.out 1).trans rfl
   have hcz23_2 : w7.cell? ⟨gb101, 2, none⟩ = some (.slice A0_2 l0_2.length c0_2) := (qg_ BK101.out 2).trans rfl
   have hfz23_0 := qi_ BK101.out 0
   have hfz23_1 := qi_ BK101.out 1
   have hfz23_2 := qi_ BK101.out 2
   go_wp2_with (first | ((with_reducible refine qr_ (f := 17) rfl ?_); refine goesL_ (some 13) rfl rfl Try.func17 (by kernel_rfl) rfl #[.agg #[.int .i64 a0_0, .int .i64 a0_1, .slice A0_2 l0_2.length c0_2]] rfl (by (try simp only [List.map_toArray, List.map_cons, List.map_nil]); first | done | rfl | (simp only [List.length_drop, List.length_take]; rfl)) ?_; (with_reducible refine (ref05_Right.calls k a0_0 a0_1 _ _ l0_2 false _ ?side1 ?side2 A11.out).mono ?_); (case side1 => refine (Kd.V_reads' (e := 40) (base := w.heap.size) (ok := fun k_ => ((((P0_2_ k_ ∨ w.heap.size ≤ k_) ∧ k_ ≠ gb101) ∧ k_ ≠ gb102) ∧ k_ ≠ gb103)) (n := l0_2.length) (c := c0_2) ?_).2.2; exact (by (with_reducible repeat (first | apply Kd.qn_ | apply Kd.qm_ | apply Kd.V_drew)); exact (Kd.V_mono (Kd.V_far (p := ⟨gb103, 2, none⟩) (Kd.V_far (p := ⟨gb103, 1, none⟩) (Kd.V_far (p := ⟨gb103, 0, none⟩) (Kd.V_mono HO0_2.out (fun k_ hk => (⟨hk, hk.2⟩ : _ ∧ k_ ≠ gb103))) (fun _ hk => hk.2) (.int .i64 a1)) (fun _ hk => hk.2) (.int .i64 1)) (fun _ hk => hk.2) (.string a2)) (fun _ h_ => h_.1)))); (case side2 => exact (Kd.V_reads' HO0_2.out).2.1); rintro e w24 ⟨rfl, hb⟩; refine ⟨_, rfl, ?_⟩; have n0_ := Aside0.mk (Kd.qo_ (by (with_reducible repeat (first | apply Kd.qn_ | apply Kd.qm_ | apply Kd.V_drew)); exact (Kd.V_mono (Kd.V_far (p := ⟨gb103, 2, none⟩) (Kd.V_far (p := ⟨gb103, 1, none⟩) (Kd.V_far (p := ⟨gb103, 0, none⟩) (Kd.V_mono HO0_2.out (fun k_ hk => (⟨hk, hk.2⟩ : _ ∧ k_ ≠ gb103))) (fun _ hk => hk.2) (.int .i64 a1)) (fun _ hk => hk.2) (.int .i64 1)) (fun _ hk => hk.2) (.string a2)) (fun _ h_ => h_.1))) hb); have n1_ := Aside0.mk (qk_ (g := gb101) (o := .cells #[.int .i64 a0_0, .int .i64 a0_1, .slice A0_2 l0_2.length c0_2] 24 (0, 0)) (by (with_reducible repeat (first | refine qe_ ?_ _ | refine qh_ ?_ | refine qd_ ?_ _)); refine qx_ ?_ NB101_103.out _; (with_reducible repeat (first | refine qe_ ?_ _ | refine qh_ ?_ | refine qd_ ?_ _)); refine qx_ ?_ NB101_103.out _; (with_reducible repeat (first | refine qe_ ?_ _ | refine qh_ ?_ | refine qd_ ?_ _)); refine qx_ ?_ NB101_103.out _; (with_reducible repeat (first | refine qe_ ?_ _ | refine qh_ ?_ | refine qd_ ?_ _)); exact BK101.out) hb); have n2_ := Aside0.mk (qk_ (g := gb102) (o := .cells #[.int .i64 0, .int .i64 0, .slice none 0 0] 24 (0, 0)) (by (with_reducible repeat (first | refine qe_ ?_ _ | refine qh_ ?_ | refine qd_ ?_ _)); refine qx_ ?_ NB102_103.out _; (with_reducible repeat (first | refine qe_ ?_ _ | refine qh_ ?_ | refine qd_ ?_ _)); refine qx_ ?_ NB102_103.out _; (with_reducible repeat (first | refine qe_ ?_ _ | refine qh_ ?_ | refine qd_ ?_ _)); refine qx_ ?_ NB102_103.out _; (with_reducible repeat (first | refine qe_ ?_ _ | refine qh_ ?_ | refine qd_ ?_ _)); exact BK102.out) hb); have n3_ := Aside0.mk (qk_ (g := gb103) (o := .cells #[.int .i64 a1, .int .i64 1, .string a2] 40 (0, 0)) (by (with_reducible repeat (first | refine qe_ ?_ _ | refine qh_ ?_ | refine qd_ ?_ _)); refine qs_ (cs := #[.int .i64 a1, .int .i64 1, .string (⟨#[]⟩ : ByteArray)]) ?_ 2 _ rfl; (with_reducible repeat (first | refine qe_ ?_ _ | refine qh_ ?_ | refine qd_ ?_ _)); refine qs_ (cs := #[.int .i64 a1, .int .i64 0, .string (⟨#[]⟩ : ByteArray)]) ?_ 1 _ rfl; (with_reducible repeat (first | refine qe_ ?_ _ | refine qh_ ?_ | refine qd_ ?_ _)); refine qs_ (cs := #[.int .i64 0, .int .i64 0, .string (⟨#[]⟩ : ByteArray)]) ?_ 0 _ rfl; (with_reducible repeat (first | refine qe_ ?_ _ | refine qh_ ?_ | refine qd_ ?_ _)); exact BK103.out) hb); have n4_ := Aside0.mk (ql_ (by repeat (first | (with_reducible first | exact HB.out | apply qc_ | apply qa_ | apply qb_ | refine qf_ ?_ GE101.out | refine qf_ ?_ GE102.out | refine qf_ ?_ GE103.out) | exact HB.out)) hb); clear HO0_2; clear BK101; clear BK102; clear BK103; clear HB; have HO0_2 := n0_; have BK101 := n1_; have BK102 := n2_; have BK103 := n3_; have HB := n4_; clear n0_ n1_ n2_ n3_ n4_; (try clear hb); (try clear hb2); (try clear hk); (try clear hi)))
   go_meet
   case rel => exact ⟨_, (true), (by first | rfl | (simp; done) | (simp [*]; done)), H', ⟨by first | omega | exact Nat.le_refl _⟩, ⟨by (with_reducible repeat (first | apply Kd.qn_ | apply Kd.qm_ | apply Kd.V_drew)); exact Kd.V_mono HO0_2.out (fun _ hk => ⟨hk.1.1.1, ⟨hk.1.1.2, ⟨hk.1.2, hk.2⟩⟩⟩)⟩, ⟨by (with_reducible repeat (first | refine qe_ ?_ _ | refine qh_ ?_ | refine qd_ ?_ _)); exact BK101.out⟩, ⟨by (with_reducible repeat (first | refine qe_ ?_ _ | refine qh_ ?_ | refine qd_ ?_ _)); exact BK102.out⟩, ⟨by (with_reducible repeat (first | refine qe_ ?_ _ | refine qh_ ?_ | refine qd_ ?_ _)); exact BK103.out⟩, ⟨by repeat (first | (with_reducible first | exact HB.out | apply qc_ | apply qa_ | apply qb_ | refine qf_ ?_ GE101.out | refine qf_ ?_ GE102.out | refine qf_ ?_ GE103.out) | exact HB.out)⟩⟩
 case rest =>
  clear HC4
  try clear c1
  try clear c2
  try clear p2
  try clear c8
  try clear c9
  try clear c12
  try clear c13
  try clear c14
  try clear c15
  try clear c17
  try clear c18
  try clear c21
  try clear c22
  try clear hcz10_0
  try clear hcz10_1
  try clear hcz10_2
  try clear hcz16_0
  try clear hcz16_1
  try clear hcz16_2
  try clear hcz19_0
  try clear hcz19_1
  try clear hcz19_2
  try clear hcz23_0
  try clear hcz23_1
  try clear hcz23_2
  try clear hfz10_0
  try clear hfz10_1
  try clear hfz10_2
  try clear hfz16_0
  try clear hfz16_1
  try clear hfz16_2
  try clear hfz19_0
  try clear hfz19_1
  try clear hfz19_2
  try clear hfz23_0
  try clear hfz23_1
  try clear hfz23_2
  obtain ⟨kq, x19_3, rfl, HA, HJ3, HO_102002, BK101, BK102, BK103, HB⟩ := hcut
  cases kq with
  | zero => exact absurd HA.out (by simp [ref05_Set.j0])
  | succ kj3 =>
   have H := HA.out
   clear HA
   simp only [ref05_Set.j0] at H
   by_cases c25 : x19_3 = true
   ·subst c25
    have H1 : (some (a0_0, a0_1, l0_2, 1)) = some (r1, r2, r3, r4) := by rw [if_pos rfl] at H; exact H
    clear H
    have H := H1
    clear H1
    simp only [Option.some.injEq, Prod.mk.injEq] at H
    obtain ⟨rfl, rfl, rfl, rfl⟩ := H
    have hnb26 := NB101_102.out
    have hnc26 := NB102_101.out
    have hnb27 := NB101_103.out
    have hnc27 := NB103_101.out
    have hcz28_0 : wc.cell? ⟨gb101, 0, none⟩ = some (.int .i64 a0_0) := (qg_ BK101.out 0).trans rfl
    have hcz28_1 : wc.cell? ⟨gb101, 1, none⟩ = some (.int .i64 a0_1) := (qg_ BK101.out 1).trans rfl
    have hcz28_2 : wc.cell? ⟨gb101, 2, none⟩ = some (.slice A0_2 l0_2.length c0_2) := (qg_ BK101.out 2).trans rfl
    have hfz28_0 := qi_ BK101.out 0
    have hfz28_1 := qi_ BK101.out 1
    have hfz28_2 := qi_ BK101.out 2
    have hnb29 := NB102_103.out
    have hnc29 := NB103_102.out
    have hcz30_0 : wc.cell? ⟨gb102, 0, none⟩ = some (.int .i64 0) := (qg_ BK102.out 0).trans rfl
    have hcz30_1 : wc.cell? ⟨gb102, 1, none⟩ = some (.int .i64 0) := (qg_ BK102.out 1).trans rfl
    have hcz30_2 : wc.cell? ⟨gb102, 2, none⟩ = some (.slice none 0 0) := (qg_ BK102.out 2).trans rfl
    have hfz30_0 := qi_ BK102.out 0
    have hfz30_1 := qi_ BK102.out 1
    have hfz30_2 := qi_ BK102.out 2
    go_wp2
    refine bodyPost_ret (results_ct rfl _ _ gb102 24 #[.int .i64 a0_0, .int .i64 a0_1, .slice A0_2 l0_2.length c0_2] (0, 0) _ rfl (by (with_reducible repeat (first | refine qe_ ?_ _ | refine qh_ ?_ | refine qd_ ?_ _)); refine qs_ (cs := #[.int .i64 a0_0, .int .i64 a0_1, .slice none 0 0]) ?_ 2 _ rfl; (with_reducible repeat (first | refine qe_ ?_ _ | refine qh_ ?_ | refine qd_ ?_ _)); refine qs_ (cs := #[.int .i64 a0_0, .int .i64 0, .slice none 0 0]) ?_ 1 _ rfl; (with_reducible repeat (first | refine qe_ ?_ _ | refine qh_ ?_ | refine qd_ ?_ _)); refine qs_ (cs := #[.int .i64 0, .int .i64 0, .slice none 0 0]) ?_ 0 _ rfl; (with_reducible repeat (first | refine qe_ ?_ _ | refine qh_ ?_ | refine qd_ ?_ _)); exact BK102.out) Try.underlying24 rfl (by kernel_rfl)) rfl ?_
    exact ⟨_, by first | rfl | (simp [errW_none, errW_some] <;> rfl) | (simp [*, errW_none, errW_some] <;> rfl), by (with_reducible repeat (first | apply Kd.qn_ | apply Kd.qm_ | apply Kd.V_drew)); exact Kd.V_mono (Kd.V_far (p := ⟨gb102, 2, none⟩) (Kd.V_far (p := ⟨gb102, 1, none⟩) (Kd.V_far (p := ⟨gb102, 0, none⟩) (Kd.V_mono HO_102002.out (fun k_ hk => (⟨hk, hk.2.2.1⟩ : _ ∧ k_ ≠ gb102))) (fun _ hk => hk.2) (.int .i64 a0_0)) (fun _ hk => hk.2) (.int .i64 a0_1)) (fun _ hk => hk.2) (.slice A0_2 l0_2.length c0_2)) (fun _ hk => hk.1.1), by repeat (first | (with_reducible first | exact HB.out | apply qc_ | apply qa_ | apply qb_ | refine qf_ ?_ GE101.out | refine qf_ ?_ GE102.out | refine qf_ ?_ GE103.out) | exact HB.out)⟩
   ·replace c25 := Bool.eq_false_iff.mpr c25
    subst c25
    have H1 : ((ref05_Top.f kj3 a0_0 a0_1 l0_2).bind fun t106 => (if t106 = 1099511627776 then (some (a0_0, a0_1, l0_2, 11)) else ((ref05_Top.f kj3 a0_0 a0_1 l0_2).bind fun t107 => ((ref04_Put.f kj3 l0_2 a1 (wrap64 (t107 + 1)) a2).bind fun t108 => (some (a0_0, a0_1, t108, 0)))))) = some (r1, r2, r3, r4) := by rw [if_neg (show ¬ (false = true) by decide)] at H; exact H
    clear H
    have H := H1
    clear H1
    replace H := ob_ H
    obtain ⟨t106, A310, H⟩ := H
    replace H : (if t106 = 1099511627776 then (some (a0_0, a0_1, l0_2, 11)) else ((ref05_Top.f kj3 a0_0 a0_1 l0_2).bind fun t107 => ((ref04_Put.f kj3 l0_2 a1 (wrap64 (t107 + 1)) a2).bind fun t108 => (some (a0_0, a0_1, t108, 0))))) = some (r1, r2, r3, r4) := H
    have A31 := Aside0.mk A310
    clear A310
    by_cases c32 : t106 = 1099511627776
    ·rw [if_pos c32] at H
     have c32b0 : (t106 == 1099511627776) = true := beq_iff_eq.mpr c32
     have c32b1 : (t106 != 1099511627776) = false := bne_eq_false_iff_eq.mpr c32
     clear c32
     simp only [Option.some.injEq, Prod.mk.injEq] at H
     obtain ⟨rfl, rfl, rfl, rfl⟩ := H
     have hnb33 := NB101_102.out
     have hnc33 := NB102_101.out
     have hnb34 := NB101_103.out
     have hnc34 := NB103_101.out
     have hcz35_0 : wc.cell? ⟨gb101, 0, none⟩ = some (.int .i64 a0_0) := (qg_ BK101.out 0).trans rfl
     have hcz35_1 : wc.cell? ⟨gb101, 1, none⟩ = some (.int .i64 a0_1) := (qg_ BK101.out 1).trans rfl
     have hcz35_2 : wc.cell? ⟨gb101, 2, none⟩ = some (.slice A0_2 l0_2.length c0_2) := (qg_ BK101.out 2).trans rfl
     have hfz35_0 := qi_ BK101.out 0
     have hfz35_1 := qi_ BK101.out 1
     have hfz35_2 := qi_ BK101.out 2
     go_wp2_with (first | ((with_reducible refine qr_ (f := 23) rfl ?_); refine goesL_ (some 22) rfl rfl Try.func23 (by kernel_rfl) rfl #[.agg #[.int .i64 a0_0, .int .i64 a0_1, .slice A0_2 l0_2.length c0_2]] rfl (by (try simp only [List.map_toArray, List.map_cons, List.map_nil]); first | done | rfl | (simp only [List.length_drop, List.length_take]; rfl)) ?_; (with_reducible refine (ref05_Top.calls kj3 a0_0 a0_1 _ _ l0_2 t106 _ ?side1 ?side2 A31.out).mono ?_); (case side1 => repeat (first | exact (Kd.V_reads' HO_102002.out).2.2 | (with_reducible refine Kd.qu_ ?_ _) | (with_reducible refine Kd.qt_ ?_ _) | (with_reducible refine Kd.C_drew ?_))); (case side2 => exact (Kd.V_reads' HO_102002.out).2.1); rintro e w36 ⟨rfl, hb⟩; refine ⟨_, rfl, ?_⟩; have n0_ := Aside0.mk (Kd.qo_ (by (with_reducible repeat (first | apply Kd.qn_ | apply Kd.qm_ | apply Kd.V_drew)); exact HO_102002.out) hb); have n1_ := Aside0.mk (qk_ (g := gb101) (o := .cells #[.int .i64 a0_0, .int .i64 a0_1, .slice A0_2 l0_2.length c0_2] 24 (0, 0)) (by (with_reducible repeat (first | refine qe_ ?_ _ | refine qh_ ?_ | refine qd_ ?_ _)); exact BK101.out) hb); have n2_ := Aside0.mk (qk_ (g := gb102) (o := .cells #[.int .i64 0, .int .i64 0, .slice none 0 0] 24 (0, 0)) (by (with_reducible repeat (first | refine qe_ ?_ _ | refine qh_ ?_ | refine qd_ ?_ _)); exact BK102.out) hb); have n3_ := Aside0.mk (qk_ (g := gb103) (o := .cells #[.int .i64 a1, .int .i64 1, .string a2] 40 (0, 0)) (by (with_reducible repeat (first | refine qe_ ?_ _ | refine qh_ ?_ | refine qd_ ?_ _)); exact BK103.out) hb); have n4_ := Aside0.mk (ql_ (by repeat (first | (with_reducible first | exact HB.out | apply qc_ | apply qa_ | apply qb_ | refine qf_ ?_ GE101.out | refine qf_ ?_ GE102.out | refine qf_ ?_ GE103.out) | exact HB.out)) hb); clear HO_102002; clear BK101; clear BK102; clear BK103; clear HB; have HO_102002 := n0_; have BK101 := n1_; have BK102 := n2_; have BK103 := n3_; have HB := n4_; clear n0_ n1_ n2_ n3_ n4_; (try clear hb); (try clear hb2); (try clear hk); (try clear hi); have hcz37_0 : w36.cell? ⟨gb101, 0, none⟩ = some (.int .i64 a0_0) := (qg_ BK101.out 0).trans rfl; have hcz37_1 : w36.cell? ⟨gb101, 1, none⟩ = some (.int .i64 a0_1) := (qg_ BK101.out 1).trans rfl; have hcz37_2 : w36.cell? ⟨gb101, 2, none⟩ = some (.slice A0_2 l0_2.length c0_2) := (qg_ BK101.out 2).trans rfl; have hfz37_0 := qi_ BK101.out 0; have hfz37_1 := qi_ BK101.out 1; have hfz37_2 := qi_ BK101.out 2; have hnb38 := NB102_103.out; have hnc38 := NB103_102.out; have hcz39_0 : w36.cell? ⟨gb102, 0, none⟩ = some (.int .i64 0) := (qg_ BK102.out 0).trans rfl; have hcz39_1 : w36.cell? ⟨gb102, 1, none⟩ = some (.int .i64 0) := (qg_ BK102.out 1).trans rfl; have hcz39_2 : w36.cell? ⟨gb102, 2, none⟩ = some (.slice none 0 0) := (qg_ BK102.out 2).trans rfl; have hfz39_0 := qi_ BK102.out 0; have hfz39_1 := qi_ BK102.out 1; have hfz39_2 := qi_ BK102.out 2))
     refine bodyPost_ret (results_ct rfl _ _ gb102 24 #[.int .i64 a0_0, .int .i64 a0_1, .slice A0_2 l0_2.length c0_2] (0, 0) _ rfl (by (with_reducible repeat (first | refine qe_ ?_ _ | refine qh_ ?_ | refine qd_ ?_ _)); refine qs_ (cs := #[.int .i64 a0_0, .int .i64 a0_1, .slice none 0 0]) ?_ 2 _ rfl; (with_reducible repeat (first | refine qe_ ?_ _ | refine qh_ ?_ | refine qd_ ?_ _)); refine qs_ (cs := #[.int .i64 a0_0, .int .i64 0, .slice none 0 0]) ?_ 1 _ rfl; (with_reducible repeat (first | refine qe_ ?_ _ | refine qh_ ?_ | refine qd_ ?_ _)); refine qs_ (cs := #[.int .i64 0, .int .i64 0, .slice none 0 0]) ?_ 0 _ rfl; (with_reducible repeat (first | refine qe_ ?_ _ | refine qh_ ?_ | refine qd_ ?_ _)); exact BK102.out) Try.underlying24 rfl (by kernel_rfl)) rfl ?_
     exact ⟨_, by first | rfl | (simp [errW_none, errW_some] <;> rfl) | (simp [*, errW_none, errW_some] <;> rfl), by (with_reducible repeat (first | apply Kd.qn_ | apply Kd.qm_ | apply Kd.V_drew)); exact Kd.V_mono (Kd.V_far (p := ⟨gb102, 2, none⟩) (Kd.V_far (p := ⟨gb102, 1, none⟩) (Kd.V_far (p := ⟨gb102, 0, none⟩) (Kd.V_mono HO_102002.out (fun k_ hk => (⟨hk, hk.2.2.1⟩ : _ ∧ k_ ≠ gb102))) (fun _ hk => hk.2) (.int .i64 a0_0)) (fun _ hk => hk.2) (.int .i64 a0_1)) (fun _ hk => hk.2) (.slice A0_2 l0_2.length c0_2)) (fun _ hk => hk.1.1), by repeat (first | (with_reducible first | exact HB.out | apply qc_ | apply qa_ | apply qb_ | refine qf_ ?_ GE101.out | refine qf_ ?_ GE102.out | refine qf_ ?_ GE103.out) | exact HB.out)⟩
    ·rw [if_neg c32] at H
     have c32b0 : (t106 == 1099511627776) = false := beq_eq_false_iff_ne.mpr c32
     have c32b1 : (t106 != 1099511627776) = true := bne_iff_ne.mpr c32
     replace H := ob_ H
     obtain ⟨t107, A400, H⟩ := H
     replace H : ((ref04_Put.f kj3 l0_2 a1 (wrap64 (t107 + 1)) a2).bind fun t108 => (some (a0_0, a0_1, t108, 0))) = some (r1, r2, r3, r4) := H
     have A40 := Aside0.mk A400
     clear A400
     replace H := ob_ H
     obtain ⟨t108, A410, H⟩ := H
     replace H : (some (a0_0, a0_1, t108, 0)) = some (r1, r2, r3, r4) := H
     have A41 := Aside0.mk A410
     clear A410
     simp only [Option.some.injEq, Prod.mk.injEq] at H
     obtain ⟨rfl, rfl, rfl, rfl⟩ := H
     have hnb42 := NB101_102.out
     have hnc42 := NB102_101.out
     have hnb43 := NB101_103.out
     have hnc43 := NB103_101.out
     have hcz44_0 : wc.cell? ⟨gb101, 0, none⟩ = some (.int .i64 a0_0) := (qg_ BK101.out 0).trans rfl
     have hcz44_1 : wc.cell? ⟨gb101, 1, none⟩ = some (.int .i64 a0_1) := (qg_ BK101.out 1).trans rfl
     have hcz44_2 : wc.cell? ⟨gb101, 2, none⟩ = some (.slice A0_2 l0_2.length c0_2) := (qg_ BK101.out 2).trans rfl
     have hfz44_0 := qi_ BK101.out 0
     have hfz44_1 := qi_ BK101.out 1
     have hfz44_2 := qi_ BK101.out 2
     try go_wp2_with (first | ((with_reducible refine qr_ (f := 23) rfl ?_); refine goesL_ (some 22) rfl rfl Try.func23 (by kernel_rfl) rfl #[.agg #[.int .i64 a0_0, .int .i64 a0_1, .slice A0_2 l0_2.length c0_2]] rfl (by (try simp only [List.map_toArray, List.map_cons, List.map_nil]); first | done | rfl | (simp only [List.length_drop, List.length_take]; rfl)) ?_; (with_reducible refine (ref05_Top.calls kj3 a0_0 a0_1 _ _ l0_2 t106 _ ?side1 ?side2 A31.out).mono ?_); (case side1 => repeat (first | exact (Kd.V_reads' HO_102002.out).2.2 | (with_reducible refine Kd.qu_ ?_ _) | (with_reducible refine Kd.qt_ ?_ _) | (with_reducible refine Kd.C_drew ?_))); (case side2 => exact (Kd.V_reads' HO_102002.out).2.1); rintro e w45 ⟨rfl, hb⟩; refine ⟨_, rfl, ?_⟩; have n0_ := Aside0.mk (Kd.qo_ (by (with_reducible repeat (first | apply Kd.qn_ | apply Kd.qm_ | apply Kd.V_drew)); exact HO_102002.out) hb); have n1_ := Aside0.mk (qk_ (g := gb101) (o := .cells #[.int .i64 a0_0, .int .i64 a0_1, .slice A0_2 l0_2.length c0_2] 24 (0, 0)) (by (with_reducible repeat (first | refine qe_ ?_ _ | refine qh_ ?_ | refine qd_ ?_ _)); exact BK101.out) hb); have n2_ := Aside0.mk (qk_ (g := gb102) (o := .cells #[.int .i64 0, .int .i64 0, .slice none 0 0] 24 (0, 0)) (by (with_reducible repeat (first | refine qe_ ?_ _ | refine qh_ ?_ | refine qd_ ?_ _)); exact BK102.out) hb); have n3_ := Aside0.mk (qk_ (g := gb103) (o := .cells #[.int .i64 a1, .int .i64 1, .string a2] 40 (0, 0)) (by (with_reducible repeat (first | refine qe_ ?_ _ | refine qh_ ?_ | refine qd_ ?_ _)); exact BK103.out) hb); have n4_ := Aside0.mk (ql_ (by repeat (first | (with_reducible first | exact HB.out | apply qc_ | apply qa_ | apply qb_ | refine qf_ ?_ GE101.out | refine qf_ ?_ GE102.out | refine qf_ ?_ GE103.out) | exact HB.out)) hb); clear HO_102002; clear BK101; clear BK102; clear BK103; clear HB; have HO_102002 := n0_; have BK101 := n1_; have BK102 := n2_; have BK103 := n3_; have HB := n4_; clear n0_ n1_ n2_ n3_ n4_; (try clear hb); (try clear hb2); (try clear hk); (try clear hi); have hcz46_0 : w45.cell? ⟨gb101, 0, none⟩ = some (.int .i64 a0_0) := (qg_ BK101.out 0).trans rfl; have hcz46_1 : w45.cell? ⟨gb101, 1, none⟩ = some (.int .i64 a0_1) := (qg_ BK101.out 1).trans rfl; have hcz46_2 : w45.cell? ⟨gb101, 2, none⟩ = some (.slice A0_2 l0_2.length c0_2) := (qg_ BK101.out 2).trans rfl; have hfz46_0 := qi_ BK101.out 0; have hfz46_1 := qi_ BK101.out 1; have hfz46_2 := qi_ BK101.out 2) | ((with_reducible refine qr_ (f := 23) rfl ?_); refine goesL_ (some 26) rfl rfl Try.func23 (by kernel_rfl) rfl #[.agg #[.int .i64 a0_0, .int .i64 a0_1, .slice A0_2 l0_2.length c0_2]] rfl (by (try simp only [List.map_toArray, List.map_cons, List.map_nil]); first | done | rfl | (simp only [List.length_drop, List.length_take]; rfl)) ?_; (with_reducible refine (ref05_Top.calls kj3 a0_0 a0_1 _ _ l0_2 t107 _ ?side1 ?side2 A40.out).mono ?_); (case side1 => repeat (first | exact (Kd.V_reads' HO_102002.out).2.2 | (with_reducible refine Kd.qu_ ?_ _) | (with_reducible refine Kd.qt_ ?_ _) | (with_reducible refine Kd.C_drew ?_))); (case side2 => exact (Kd.V_reads' HO_102002.out).2.1); rintro e w47 ⟨rfl, hb⟩; refine ⟨_, rfl, ?_⟩; have n0_ := Aside0.mk (Kd.qo_ (by (with_reducible repeat (first | apply Kd.qn_ | apply Kd.qm_ | apply Kd.V_drew)); exact HO_102002.out) hb); have n1_ := Aside0.mk (qk_ (g := gb101) (o := .cells #[.int .i64 a0_0, .int .i64 a0_1, .slice A0_2 l0_2.length c0_2] 24 (0, 0)) (by (with_reducible repeat (first | refine qe_ ?_ _ | refine qh_ ?_ | refine qd_ ?_ _)); exact BK101.out) hb); have n2_ := Aside0.mk (qk_ (g := gb102) (o := .cells #[.int .i64 0, .int .i64 0, .slice none 0 0] 24 (0, 0)) (by (with_reducible repeat (first | refine qe_ ?_ _ | refine qh_ ?_ | refine qd_ ?_ _)); exact BK102.out) hb); have n3_ := Aside0.mk (qk_ (g := gb103) (o := .cells #[.int .i64 a1, .int .i64 1, .string a2] 40 (0, 0)) (by (with_reducible repeat (first | refine qe_ ?_ _ | refine qh_ ?_ | refine qd_ ?_ _)); exact BK103.out) hb); have n4_ := Aside0.mk (ql_ (by repeat (first | (with_reducible first | exact HB.out | apply qc_ | apply qa_ | apply qb_ | refine qf_ ?_ GE101.out | refine qf_ ?_ GE102.out | refine qf_ ?_ GE103.out) | exact HB.out)) hb); clear HO_102002; clear BK101; clear BK102; clear BK103; clear HB; have HO_102002 := n0_; have BK101 := n1_; have BK102 := n2_; have BK103 := n3_; have HB := n4_; clear n0_ n1_ n2_ n3_ n4_; (try clear hb); (try clear hb2); (try clear hk); (try clear hi); have hnb48 := NB103_102.out; have hnc48 := NB102_103.out; have hcz49_0 : w47.cell? ⟨gb103, 0, none⟩ = some (.int .i64 a1) := (qg_ BK103.out 0).trans rfl; have hcz49_1 : w47.cell? ⟨gb103, 1, none⟩ = some (.int .i64 1) := (qg_ BK103.out 1).trans rfl; have hcz49_2 : w47.cell? ⟨gb103, 2, none⟩ = some (.string a2) := (qg_ BK103.out 2).trans rfl; have hfz49_0 := qi_ BK103.out 0; have hfz49_1 := qi_ BK103.out 1; have hfz49_2 := qi_ BK103.out 2))
     have n0_ : Aside0 (Kd.V k40 40 (w47.setCell ⟨gb103, 1, none⟩ (.int .i64 (wrap64 (t107 + 1)))) w.heap.size (fun k_ => (P0_2_ k_ ∨ w.heap.size ≤ k_) ∧ k_ ≠ gb101 ∧ k_ ≠ gb102 ∧ k_ ≠ gb103) (.slice A0_2 l0_2.length c0_2) l0_2) := ⟨by (with_reducible repeat (first | apply Kd.qn_ | apply Kd.qm_ | apply Kd.V_drew)); exact Kd.V_mono (Kd.V_far (p := ⟨gb103, 1, none⟩) (Kd.V_mono HO_102002.out (fun k_ hk => (⟨hk, hk.2.2.2⟩ : _ ∧ k_ ≠ gb103))) (fun _ hk => hk.2) (.int .i64 (wrap64 (t107 + 1)))) (fun _ hk => ⟨hk.1.1, ⟨hk.1.2.1, ⟨hk.1.2.2.1, hk.1.2.2.2⟩⟩⟩)⟩
     have n1_ : Aside0 ((w47.setCell ⟨gb103, 1, none⟩ (.int .i64 (wrap64 (t107 + 1)))).heap[gb101]? = some (.cells #[.int .i64 a0_0, .int .i64 a0_1, .slice A0_2 l0_2.length c0_2] 24 (0, 0))) := ⟨by (with_reducible repeat (first | refine qe_ ?_ _ | refine qh_ ?_ | refine qd_ ?_ _)); refine qx_ ?_ NB101_103.out _; (with_reducible repeat (first | refine qe_ ?_ _ | refine qh_ ?_ | refine qd_ ?_ _)); exact BK101.out⟩
     have n2_ : Aside0 ((w47.setCell ⟨gb103, 1, none⟩ (.int .i64 (wrap64 (t107 + 1)))).heap[gb102]? = some (.cells #[.int .i64 0, .int .i64 0, .slice none 0 0] 24 (0, 0))) := ⟨by (with_reducible repeat (first | refine qe_ ?_ _ | refine qh_ ?_ | refine qd_ ?_ _)); refine qx_ ?_ NB102_103.out _; (with_reducible repeat (first | refine qe_ ?_ _ | refine qh_ ?_ | refine qd_ ?_ _)); exact BK102.out⟩
     have n3_ : Aside0 ((w47.setCell ⟨gb103, 1, none⟩ (.int .i64 (wrap64 (t107 + 1)))).heap[gb103]? = some (.cells #[.int .i64 a1, .int .i64 (wrap64 (t107 + 1)), .string a2] 40 (0, 0))) := ⟨by (with_reducible repeat (first | refine qe_ ?_ _ | refine qh_ ?_ | refine qd_ ?_ _)); refine qs_ (cs := #[.int .i64 a1, .int .i64 1, .string a2]) ?_ 1 _ rfl; (with_reducible repeat (first | refine qe_ ?_ _ | refine qh_ ?_ | refine qd_ ?_ _)); exact BK103.out⟩
     have n4_ : Aside0 (Below w.heap.size w (w47.setCell ⟨gb103, 1, none⟩ (.int .i64 (wrap64 (t107 + 1))))) := ⟨by repeat (first | (with_reducible first | exact HB.out | apply qc_ | apply qa_ | apply qb_ | refine qf_ ?_ GE101.out | refine qf_ ?_ GE102.out | refine qf_ ?_ GE103.out) | exact HB.out)⟩
     (try clear HO_102002)
     (try clear BK101)
     (try clear BK102)
     (try clear BK103)
     (try clear HB)
     generalize (w47.setCell ⟨gb103, 1, none⟩ (.int .i64 (wrap64 (t107 + 1)))) = w50 at n0_ n1_ n2_ n3_ n4_ ⊢
     have HO_102002 := n0_
     have BK101 := n1_
     have BK102 := n2_
     have BK103 := n3_
     have HB := n4_
     clear n0_ n1_ n2_ n3_ n4_
     have n0_ := Aside0.mk (Kd.V_drew HO_102002.out)
     have n1_ := Aside0.mk (qh_ BK101.out)
     have n2_ := Aside0.mk (qh_ BK102.out)
     have n3_ := Aside0.mk (qh_ BK103.out)
     have n4_ := Aside0.mk (qb_ HB.out)
     clear HO_102002
     clear BK101
     clear BK102
     clear BK103
     clear HB
     have HO_102002 := n0_
     have BK101 := n1_
     have BK102 := n2_
     have BK103 := n3_
     have HB := n4_
     clear n0_ n1_ n2_ n3_ n4_
     refine start_ (n := 11) (S := fun w' => w'.cell? ⟨gb101, 0, none⟩ = some (.int .i64 a0_0) ∧ w'.cell? ⟨gb101, 1, none⟩ = some (.int .i64 a0_1) ∧ w'.cell? ⟨gb101, 2, none⟩ = some (.slice A0_2 l0_2.length c0_2) ∧ w'.cell? ⟨gb103, 0, none⟩ = some (.int .i64 a1) ∧ w'.cell? ⟨gb103, 1, none⟩ = some (.int .i64 (wrap64 (t107 + 1))) ∧ w'.cell? ⟨gb103, 2, none⟩ = some (.string a2)) (ds := []) #[false,false,false,false,false,false,false,false,false,false,false] (by kernel_rfl) rfl rfl ⟨(qg_ BK101.out 0).trans rfl, (qg_ BK101.out 1).trans rfl, (qg_ BK101.out 2).trans rfl, (qg_ BK103.out 0).trans rfl, (qg_ BK103.out 1).trans rfl, (qg_ BK103.out 2).trans rfl⟩ (fun hHeld => ?_); refine with_tabW ref05_Set.tab7 ref05_Set.bits7 (fun HT_ HW_ => ?_)
     generalize w50.drew = w51 at HO_102002 BK101 BK102 BK103 HB hHeld ⊢
     refine pure_ (i := 0) (N := some 29) (v := ?_) (a' := ?_) #[true,false,false,false,false,false,false,false,false,false,false] rfl rfl (any_of HT_.out (by kernel_rfl)) (fun _ _ _ h => h) (Or.inl ⟨by rfl, ?_⟩) ?_ ?_
     rotate_left
     ·intro w'
      go_simp
      with_reducible rfl
     rotate_left
     ·simp only [Act.put, sa_, sb_, sc_, i64_w, i32_w]
      rfl
     refine pure_ (i := 2) (N := some 31) (v := ?_) (a' := ?_) #[true,false,true,false,false,false,false,false,false,false,false] rfl rfl (any_of HT_.out (by kernel_rfl)) (fun _ _ _ h => h) (Or.inl ⟨by rfl, ?_⟩) ?_ ?_
     rotate_left
     ·intro w'
      go_simp
      with_reducible rfl
     rotate_left
     ·simp only [Act.put, sa_, sb_, sc_, i64_w, i32_w]
      rfl
     refine pure_ (i := 4) (N := some 33) (v := ?_) (a' := ?_) #[true,false,true,false,true,false,false,false,false,false,false] rfl rfl (any_of HT_.out (by kernel_rfl)) (fun _ _ _ h => h) (Or.inl ⟨by rfl, ?_⟩) ?_ ?_
     rotate_left
     ·intro w'
      go_simp
      with_reducible rfl
     rotate_left
     ·simp only [Act.put, sa_, sb_, sc_, i64_w, i32_w]
      rfl
     refine take_ (i := 1) (N := some 30) (v := ?_) (a' := ?_) #[true,true,true,false,true,false,false,false,false,false,false] rfl rfl (qy_ HT_.out HW_.out (by kernel_rfl)) (fun _ _ _ h => h) (Or.inl ⟨by rfl, ?_⟩) hHeld ?_ ?_
     rotate_left
     ·rintro w' ⟨s0, s1, s2, s3, s4, s5⟩
      go_simp
      with_reducible rfl
     rotate_left
     ·simp only [Act.put, sa_, sb_, sc_, i64_w, i32_w]
      rfl
     refine take_ (i := 3) (N := some 32) (v := ?_) (a' := ?_) #[true,true,true,true,true,false,false,false,false,false,false] rfl rfl (qy_ HT_.out HW_.out (by kernel_rfl)) (fun _ _ _ h => h) (Or.inl ⟨by rfl, ?_⟩) hHeld ?_ ?_
     rotate_left
     ·rintro w' ⟨s0, s1, s2, s3, s4, s5⟩
      go_simp
      with_reducible rfl
     rotate_left
     ·simp only [Act.put, sa_, sb_, sc_, i64_w, i32_w]
      rfl
     refine take_ (i := 5) (N := some 34) (v := ?_) (a' := ?_) #[true,true,true,true,true,true,false,false,false,false,false] rfl rfl (qy_ HT_.out HW_.out (by kernel_rfl)) (fun _ _ _ h => h) (Or.inl ⟨by rfl, ?_⟩) hHeld ?_ ?_
     rotate_left
     ·rintro w' ⟨s0, s1, s2, s3, s4, s5⟩
      go_simp
      with_reducible rfl
     rotate_left
     ·simp only [Act.put, sa_, sb_, sc_, i64_w, i32_w]
      rfl
     refine take_ (i := 6) (N := some 35) (v := ?_) (a' := ?_) #[true,true,true,true,true,true,true,false,false,false,false] rfl rfl (qy_ HT_.out HW_.out (by kernel_rfl)) (fun _ _ _ h => h) (Or.inl ⟨by rfl, ?_⟩) hHeld ?_ ?_
     rotate_left
     ·rintro w' ⟨s0, s1, s2, s3, s4, s5⟩
      go_simp
      with_reducible rfl
     rotate_left
     ·simp only [Act.put, sa_, sb_, sc_, i64_w, i32_w]
      rfl
     refine one_ (i := 7) (N := some 36) #[true,true,true,true,true,true,true,true,false,false,false] rfl rfl (one_of HT_.out (by kernel_rfl)) (by decide) (fun K hK => ?_)
     refine goes_ Try.func34 (by kernel_rfl) rfl #[.slice A0_2 l0_2.length c0_2, .agg #[.int .i64 a1, .int .i64 (wrap64 (t107 + 1)), .string a2]] (by rfl) rfl rfl (by (try simp only [List.map_toArray, List.map_cons, List.map_nil]); first | done | rfl | (simp only [List.length_drop, List.length_take]; rfl)) ?_
     with_reducible refine (ref04_Put.calls kj3 _ _ l0_2 a1 (wrap64 (t107 + 1)) a2 t108 _ ?side1 ?side2 A41.out).mono ?_
     (case side1 => repeat (first | exact (Kd.V_reads' HO_102002.out).2.2 | (with_reducible refine Kd.qu_ ?_ _) | (with_reducible refine Kd.qt_ ?_ _) | (with_reducible refine Kd.C_drew ?_)))
     (case side2 => exact (Kd.V_reads' HO_102002.out).2.1)
     rintro e w52 ⟨v109, rfl, ho0, hb⟩
     refine ⟨_, rfl, ?_⟩
     have n0_ := Aside0.mk (Kd.V_elder' (by (with_reducible repeat (first | apply Kd.qn_ | apply Kd.qm_ | apply Kd.V_drew)); exact HO_102002.out) (Kd.R_base ho0) hb)
     have n1_ := Aside0.mk (Kd.R_lower (Kd.R_newB (Kd.R_newM (M := fun k_ => (w.heap.size ≤ k_)) ho0 (qj_ (by repeat (first | (with_reducible first | exact HB.out | apply qc_ | apply qa_ | apply qb_ | refine qf_ ?_ GE101.out | refine qf_ ?_ GE102.out | refine qf_ ?_ GE103.out) | exact HB.out))) (fun k_ h_ => h_)) (g := gb103) (o := .cells #[.int .i64 a1, .int .i64 (wrap64 (t107 + 1)), .string a2] 40 (0, 0)) (by (with_reducible repeat (first | refine qe_ ?_ _ | refine qh_ ?_ | refine qd_ ?_ _)); exact BK103.out)) (qj_ (by repeat (first | (with_reducible first | exact HB.out | apply qc_ | apply qa_ | apply qb_ | refine qf_ ?_ GE101.out | refine qf_ ?_ GE102.out | refine qf_ ?_ GE103.out) | exact HB.out))))
     have n2_ := Aside0.mk (qk_ (g := gb101) (o := .cells #[.int .i64 a0_0, .int .i64 a0_1, .slice A0_2 l0_2.length c0_2] 24 (0, 0)) (by (with_reducible repeat (first | refine qe_ ?_ _ | refine qh_ ?_ | refine qd_ ?_ _)); exact BK101.out) hb)
     have n3_ := Aside0.mk (qk_ (g := gb102) (o := .cells #[.int .i64 0, .int .i64 0, .slice none 0 0] 24 (0, 0)) (by (with_reducible repeat (first | refine qe_ ?_ _ | refine qh_ ?_ | refine qd_ ?_ _)); exact BK102.out) hb)
     have n4_ := Aside0.mk (qk_ (g := gb103) (o := .cells #[.int .i64 a1, .int .i64 (wrap64 (t107 + 1)), .string a2] 40 (0, 0)) (by (with_reducible repeat (first | refine qe_ ?_ _ | refine qh_ ?_ | refine qd_ ?_ _)); exact BK103.out) hb)
     have n5_ := Aside0.mk (ql_ (by repeat (first | (with_reducible first | exact HB.out | apply qc_ | apply qa_ | apply qb_ | refine qf_ ?_ GE101.out | refine qf_ ?_ GE102.out | refine qf_ ?_ GE103.out) | exact HB.out)) hb)
     clear HO_102002
     clear BK101
     clear BK102
     clear BK103
     clear HB
     have HO_102002 := n0_
     have HO110 := n1_
     have BK101 := n2_
     have BK102 := n3_
     have BK103 := n4_
     have HB := n5_
     clear n0_ n1_ n2_ n3_ n4_ n5_
     (try clear hb)
     (try clear hb2)
     (try clear hk)
     (try clear hi)
     (try clear ho0)
     obtain ⟨Ao53, co53, eo53⟩ := Kd.R_slice HO110.out
     (first | subst eo53 | (injection eo53 with f1_ f2_ f3_; have f4_ := f1_.symm; have f5_ := f3_.symm; clear f1_ f2_ f3_; subst f4_; subst f5_))
     refine hK.out _ _ ⟨(qg_ BK101.out 0).trans rfl, (qg_ BK101.out 1).trans rfl, (qg_ BK101.out 2).trans rfl, (qg_ BK103.out 0).trans rfl, (qg_ BK103.out 1).trans rfl, (qg_ BK103.out 2).trans rfl⟩ (fun hHeld => ?_)
     clear hK K
     refine norm_ (a' := ?_) ?_ ?_
     rotate_left
     ·show Act.put _ (some 36) _ = _
      simp only [Act.put, sa_, sb_, sc_, i64_w, i32_w]
      rfl
     refine pure_ (i := 8) (N := some 37) (v := ?_) (a' := ?_) #[true,true,true,true,true,true,true,true,true,false,false] rfl rfl (any_of HT_.out (by kernel_rfl)) (fun _ _ _ h => h) (Or.inl ⟨by rfl, ?_⟩) ?_ ?_
     rotate_left
     ·intro w'
      go_simp
      with_reducible rfl
     rotate_left
     ·simp only [Act.put, sa_, sb_, sc_, i64_w, i32_w]
      rfl
     refine one_ (i := 9) (N := none) #[true,true,true,true,true,true,true,true,true,true,false] rfl rfl (one_of HT_.out (by kernel_rfl)) (by decide) (fun K hK => ?_)
     have hs54 : w52.cell? ⟨gb102, 0, none⟩ = some (.int .i64 0) := (qg_ BK102.out 0).trans rfl
     have hfs54 := qi_ BK102.out 0
     have hns54_0 := NB101_102.out
     have hns54_2 := NB103_102.out
     have hms54_0 := NB102_101.out
     have hms54_2 := NB102_103.out
     have hs55 : w52.cell? ⟨gb102, 1, none⟩ = some (.int .i64 0) := (qg_ BK102.out 1).trans rfl
     have hfs55 := qi_ BK102.out 1
     have hns55_0 := NB101_102.out
     have hns55_2 := NB103_102.out
     have hms55_0 := NB102_101.out
     have hms55_2 := NB102_103.out
     have hs56 : w52.cell? ⟨gb102, 2, none⟩ = some (.slice none 0 0) := (qg_ BK102.out 2).trans rfl
     have hfs56 := qi_ BK102.out 2
     have hns56_0 := NB101_102.out
     have hns56_2 := NB103_102.out
     have hms56_0 := NB102_101.out
     have hms56_2 := NB102_103.out
     refine skip_ (w1 := ?_) (by rfl) rfl ?_ ?_
     rotate_left
     ·go_simp
      rfl
     refine hK.out _ _ ⟨((cell_far (p := ⟨gb102, _, none⟩) NB101_102.out _).trans (((cell_far (p := ⟨gb102, _, none⟩) NB101_102.out _).trans (((cell_far (p := ⟨gb102, _, none⟩) NB101_102.out _).trans (hHeld.1)))))), ((cell_far (p := ⟨gb102, _, none⟩) NB101_102.out _).trans (((cell_far (p := ⟨gb102, _, none⟩) NB101_102.out _).trans (((cell_far (p := ⟨gb102, _, none⟩) NB101_102.out _).trans (hHeld.2.1)))))), ((cell_far (p := ⟨gb102, _, none⟩) NB101_102.out _).trans (((cell_far (p := ⟨gb102, _, none⟩) NB101_102.out _).trans (((cell_far (p := ⟨gb102, _, none⟩) NB101_102.out _).trans (hHeld.2.2.1)))))), ((cell_far (p := ⟨gb102, _, none⟩) NB103_102.out _).trans (((cell_far (p := ⟨gb102, _, none⟩) NB103_102.out _).trans (((cell_far (p := ⟨gb102, _, none⟩) NB103_102.out _).trans (hHeld.2.2.2.1)))))), ((cell_far (p := ⟨gb102, _, none⟩) NB103_102.out _).trans (((cell_far (p := ⟨gb102, _, none⟩) NB103_102.out _).trans (((cell_far (p := ⟨gb102, _, none⟩) NB103_102.out _).trans (hHeld.2.2.2.2.1)))))), ((cell_far (p := ⟨gb102, _, none⟩) NB103_102.out _).trans (((cell_far (p := ⟨gb102, _, none⟩) NB103_102.out _).trans (((cell_far (p := ⟨gb102, _, none⟩) NB103_102.out _).trans (hHeld.2.2.2.2.2))))))⟩ (fun hHeld => ?_)
     clear hK K
     refine pure_ (i := 10) (N := some 7) (v := ?_) (a' := ?_) #[true,true,true,true,true,true,true,true,true,true,true] rfl rfl (any_of HT_.out (by kernel_rfl)) (fun _ _ _ h => h) (Or.inl ⟨by rfl, ?_⟩) ?_ ?_
     rotate_left
     ·intro w'
      go_simp
      with_reducible rfl
     rotate_left
     ·simp only [Act.put, sa_, sb_, sc_, i64_w, i32_w]
      rfl
     refine done_ (done_of HT_.out (by kernel_rfl)) ?_
     try go_wp2
     refine bodyPost_ret (results_ct rfl _ _ gb102 24 #[.int .i64 a0_0, .int .i64 a0_1, .slice Ao53 t108.length co53] (0, 0) _ rfl (by (with_reducible repeat (first | refine qe_ ?_ _ | refine qh_ ?_ | refine qd_ ?_ _)); refine qs_ (cs := #[.int .i64 a0_0, .int .i64 a0_1, .slice none 0 0]) ?_ 2 _ rfl; (with_reducible repeat (first | refine qe_ ?_ _ | refine qh_ ?_ | refine qd_ ?_ _)); refine qs_ (cs := #[.int .i64 a0_0, .int .i64 0, .slice none 0 0]) ?_ 1 _ rfl; (with_reducible repeat (first | refine qe_ ?_ _ | refine qh_ ?_ | refine qd_ ?_ _)); refine qs_ (cs := #[.int .i64 0, .int .i64 0, .slice none 0 0]) ?_ 0 _ rfl; (with_reducible repeat (first | refine qe_ ?_ _ | refine qh_ ?_ | refine qd_ ?_ _)); exact BK102.out) Try.underlying24 rfl (by kernel_rfl)) rfl ?_
     exact ⟨_, by first | rfl | (simp [errW_none, errW_some] <;> rfl) | (simp [*, errW_none, errW_some] <;> rfl), Kd.V_mono (Kd.R_V (by (with_reducible repeat (first | apply Kd.qw_ | apply Kd.qv_ | apply Kd.R_drew)); exact Kd.R_mono (Kd.R_far (p := ⟨gb102, 2, none⟩) (Kd.R_far (p := ⟨gb102, 1, none⟩) (Kd.R_far (p := ⟨gb102, 0, none⟩) (Kd.R_types HO110.out BK102.out (by decide)) (fun _ hk => hk.2) (.int .i64 a0_0)) (fun _ hk => hk.2) (.int .i64 a0_1)) (fun _ hk => hk.2) (.slice Ao53 t108.length co53)) (fun _ hk => hk.1.1.1))) (fun k_ hk => by first | exact ⟨(.inr (hk.1)), hk.2⟩ | exact (.inr (hk))), by repeat (first | (with_reducible first | exact HB.out | apply qc_ | apply qa_ | apply qb_ | refine qf_ ?_ GE101.out | refine qf_ ?_ GE102.out | refine qf_ ?_ GE103.out) | exact HB.out)⟩
end Go.Proofs.Ytfoeahjbkmdgfaa.P

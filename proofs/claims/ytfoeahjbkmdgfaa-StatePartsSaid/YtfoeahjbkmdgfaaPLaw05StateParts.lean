/- What this function of the program comes to, and that the machine's call does it: written by a program (wip/tool). No condition. -/
import Derived.Test.YtfoeahjbkmdgfaaP0
import Derived.Test.YtfoeahjbkmdgfaaPStateJoin
import Derived.Test.YtfoeahjbkmdgfaaPStateOver
import Derived.Test.YtfoeahjbkmdgfaaPLaw05Alive
import Derived.Test.YtfoeahjbkmdgfaaPLaw05Great
import Derived.Test.YtfoeahjbkmdgfaaPRef05Right
import Derived.Test.YtfoeahjbkmdgfaaPRef05Same
import Derived.Test.YtfoeahjbkmdgfaaPStateAbove
import Derived.Test.YtfoeahjbkmdgfaaHw
namespace Go.Proofs.Ytfoeahjbkmdgfaa.P
open Go.RowKit Go.Proofs.YtfoeahjbkmdgfaaW.PrintWords Go.Proofs.YtfoeahjbkmdgfaaW.PrintLast Go.Proofs.YtfoeahjbkmdgfaaW.PrintMore
attribute [local go_sem] max2_int min2_int max_two min_two vb_ va_ max_four min_four Go.Proofs.YtfoeahjbkmdgfaaW.Hw.string_gtr   -- for this text's walks alone
set_option linter.unusedVariables false
set_option linter.unusedSimpArgs false
/-! ### law05_StateParts: function 7 -/
mutual
def law05_StateParts.j0 : Nat → Int → Bool → Int → Int → List (S40) → Option (Bool)
 | 0, _, _, _, _, _ => none
 | k + 1, x1, x17, x102000, x102001, x102002 => if x17 = true then (some true) else (law05_StateParts.l0 k x1 0 x102000 x102001 x102002 x102000 0 ([] : List (S40)))
def law05_StateParts.l0 : Nat → Int → Int → Int → Int → List (S40) → Int → Int → List (S40) → Option (Bool)
 | 0, _, _, _, _, _, _, _, _ => none
 | k + 1, x1, x6, x102000, x102001, x102002, x109000, x109001, x109002 => if x6 < (x102002.length : Int) then (if 0 ≤ x6 then (if ((rd_T40 x102002 x6).f1) ≤ (wrap64 (x1)) then (if x109002.length < 4398046511104 then (law05_StateParts.l0 k x1 (wrap64 (x6 + 1)) x102000 x102001 x102002 x109000 x109001 (x109002 ++ [(⟨(rd_T40 x102002 x6).f0, (rd_T40 x102002 x6).f1, (rd_T40 x102002 x6).f2⟩ : S40)])) else (none)) else (law05_StateParts.l0 k x1 (wrap64 (x6 + 1)) x102000 x102001 x102002 x109000 x109001 x109002)) else (none)) else ((state_Above.f x102000 x102001 x102002 (wrap64 (x1))).bind fun bt114 => ((state_Join.f k x109000 x109001 x109002 bt114.1 bt114.2.1 bt114.2.2).bind fun bt120 => ((ref05_Same.f k bt120.1 bt120.2.1 bt120.2.2 x102000 x102001 x102002).bind fun t125 => (if t125 = true then (if (wrap64 ((x109002.length : Int) + (bt114.2.2.length : Int))) = (x102002.length : Int) then ((state_Over.f x102000 x102001 x102002 x109000 x109001 x109002).bind fun t126 => (if t126 = true then ((state_Over.f x102000 x102001 x102002 bt114.1 bt114.2.1 bt114.2.2).bind fun t127 => (some t127)) else (some false))) else (some false)) else (some false)))))
end
def law05_StateParts.f (k : Nat) (a0_0 : Int) (a0_1 : Int) (l0_2 : List (S40)) (a1 : Int) : Option (Bool) := (law05_alive.f k).bind fun t102 => (if t102 = true then ((law05_great.f k (([(⟨a0_0, a0_1, l0_2⟩ : S24)] : List (S24)))).bind fun t106 => (if t106 = true then (law05_StateParts.j0 k a1 true a0_0 a0_1 l0_2) else ((ref05_Right.f k a0_0 a0_1 l0_2).bind fun t107 => (law05_StateParts.j0 k a1 (!t107) a0_0 a0_1 l0_2)))) else (some false))
theorem law05_StateParts.mono_l : ∀ k, (∀ y0 y1 y2 y3 y4, LeO (law05_StateParts.j0 k y0 y1 y2 y3 y4) (law05_StateParts.j0 (k + 1) y0 y1 y2 y3 y4)) ∧ (∀ y0 y1 y2 y3 y4 y5 y6 y7, LeO (law05_StateParts.l0 k y0 y1 y2 y3 y4 y5 y6 y7) (law05_StateParts.l0 (k + 1) y0 y1 y2 y3 y4 y5 y6 y7))
 | 0 => ⟨fun _ _ _ _ _ r h => by simp [law05_StateParts.j0] at h, fun _ _ _ _ _ _ _ _ r h => by simp [law05_StateParts.l0] at h⟩
 | k + 1 => by
  obtain ⟨ih0, ih1⟩ := law05_StateParts.mono_l k
  refine ⟨?_, ?_⟩
  ·intro y0 y1 y2 y3 y4
   unfold law05_StateParts.j0
   repeat' first
   | (with_reducible exact ih0 _ _ _ _ _)
   | (with_reducible exact ih1 _ _ _ _ _ _ _ _)
   | (with_reducible exact law05_alive.mono _)
   | (with_reducible exact law05_great.mono _ _)
   | (with_reducible exact ref05_Right.mono _ _ _ _)
   | (with_reducible exact ref05_Same.mono _ _ _ _ _ _ _)
   | (with_reducible exact state_Join.mono _ _ _ _ _ _ _)
   | (with_reducible exact LeO.refl _)
   | (with_reducible exact LeO.none _)
   | (with_reducible refine LeO.ite ?_ ?_)
   | (with_reducible refine LeO.bind ?_ (fun _ => ?_))
   | exact ih0 _ _ _ _ _
   | exact ih1 _ _ _ _ _ _ _ _
   | exact law05_alive.mono _
   | exact law05_great.mono _ _
   | exact ref05_Right.mono _ _ _ _
   | exact ref05_Same.mono _ _ _ _ _ _ _
   | exact state_Join.mono _ _ _ _ _ _ _
   | exact LeO.none _
   | refine LeO.ite ?_ ?_
   | refine LeO.bind ?_ (fun _ => ?_)
  ·intro y0 y1 y2 y3 y4 y5 y6 y7
   unfold law05_StateParts.l0
   repeat' first
   | (with_reducible exact ih0 _ _ _ _ _)
   | (with_reducible exact ih1 _ _ _ _ _ _ _ _)
   | (with_reducible exact law05_alive.mono _)
   | (with_reducible exact law05_great.mono _ _)
   | (with_reducible exact ref05_Right.mono _ _ _ _)
   | (with_reducible exact ref05_Same.mono _ _ _ _ _ _ _)
   | (with_reducible exact state_Join.mono _ _ _ _ _ _ _)
   | (with_reducible exact LeO.refl _)
   | (with_reducible exact LeO.none _)
   | (with_reducible refine LeO.ite ?_ ?_)
   | (with_reducible refine LeO.bind ?_ (fun _ => ?_))
   | exact ih0 _ _ _ _ _
   | exact ih1 _ _ _ _ _ _ _ _
   | exact law05_alive.mono _
   | exact law05_great.mono _ _
   | exact ref05_Right.mono _ _ _ _
   | exact ref05_Same.mono _ _ _ _ _ _ _
   | exact state_Join.mono _ _ _ _ _ _ _
   | exact LeO.none _
   | refine LeO.ite ?_ ?_
   | refine LeO.bind ?_ (fun _ => ?_)
theorem law05_StateParts.mono : ∀ a0 a1 a2 a3 k, LeO (law05_StateParts.f k a0 a1 a2 a3) (law05_StateParts.f (k + 1) a0 a1 a2 a3) := by
 intro a0 a1 a2 a3 k
 obtain ⟨ih0, ih1⟩ := law05_StateParts.mono_l k
 unfold law05_StateParts.f
 repeat' first
   | (with_reducible exact ih0 _ _ _ _ _)
   | (with_reducible exact ih1 _ _ _ _ _ _ _ _)
   | (with_reducible exact law05_alive.mono _)
   | (with_reducible exact law05_great.mono _ _)
   | (with_reducible exact ref05_Right.mono _ _ _ _)
   | (with_reducible exact ref05_Same.mono _ _ _ _ _ _ _)
   | (with_reducible exact state_Join.mono _ _ _ _ _ _ _)
   | (with_reducible exact LeO.refl _)
   | (with_reducible exact LeO.none _)
   | (with_reducible refine LeO.ite ?_ ?_)
   | (with_reducible refine LeO.bind ?_ (fun _ => ?_))
   | exact ih0 _ _ _ _ _
   | exact ih1 _ _ _ _ _ _ _ _
   | exact law05_alive.mono _
   | exact law05_great.mono _ _
   | exact ref05_Right.mono _ _ _ _
   | exact ref05_Same.mono _ _ _ _ _ _ _
   | exact state_Join.mono _ _ _ _ _ _ _
   | exact LeO.none _
   | refine LeO.ite ?_ ?_
   | refine LeO.bind ?_ (fun _ => ?_)
def law05_StateParts.T10 : Bool × List (List Nat × List Nat) := (true, [([], []), ([0], [0]), ([], []), ([2], [2]), ([], []), ([3, 4], [3, 4]), ([5], [5]), ([6], [6]), ([1, 7], [1, 7]), ([0, 1, 2, 3, 4, 5, 6, 7, 8], []), ([9, 8, 8, 0, 1, 2, 3, 4, 5, 6, 7, 8], [8, 9])])
def law05_StateParts.B10 : List Nat := [0, 1, 0, 4, 0, 28, 60, 124, 255, 511, 1023]
theorem law05_StateParts.tab10 : rtab .any (opsOf Try.f7 10) = law05_StateParts.T10 := by kernel_rfl
theorem law05_StateParts.bits10 : waitsOk law05_StateParts.T10.2 law05_StateParts.B10 = true := by kernel_rfl
def law05_StateParts.T12 : Bool × List (List Nat × List Nat) := (true, [([], []), ([], []), ([0, 1], [0, 1]), ([], []), ([2, 3, 2], [2, 3]), ([4, 4], [4]), ([5], [5]), ([6, 5], [5, 6]), ([7, 5], [5, 7]), ([5], [5]), ([9, 5], [5, 9]), ([10, 5], [5, 10]), ([8, 11, 5], [5, 8, 11]), ([5], [5]), ([13, 5], [5, 13]), ([14, 5], [5, 14]), ([12, 15, 5], [5, 12, 15]), ([5, 16], [5, 16]), ([17, 5], [17]), ([18], [18]), ([18], [18]), ([19, 20, 18, 18], [18, 19, 20]), ([18, 21], [18, 21]), ([22, 21], [22]), ([23], [23]), ([23], [23]), ([24, 25, 23, 23], [23, 24, 25]), ([23, 26], [23, 26]), ([27, 26, 0, 1, 2, 3, 4, 5, 6, 7, 8, 9, 10, 11, 12, 13, 14, 15, 16, 17, 18, 19, 20, 21, 22, 23, 24, 25, 26, 27], [27])])
def law05_StateParts.B12 : List Nat := [0, 0, 3, 0, 15, 31, 63, 127, 255, 63, 575, 1599, 4095, 63, 8255, 24639, 65535, 131071, 262143, 524287, 524287, 2097151, 4194303, 8388607, 16777215, 16777215, 67108863, 134217727, 268435455]
theorem law05_StateParts.tab12 : rtab .any (opsOf Try.f7 12) = law05_StateParts.T12 := by kernel_rfl
theorem law05_StateParts.bits12 : waitsOk law05_StateParts.T12.2 law05_StateParts.B12 = true := by kernel_rfl
set_option maxHeartbeats 8000000 in
set_option maxRecDepth 100000 in
theorem law05_StateParts.calls (k : Nat) (a0_0 : Int) (a0_1 : Int) (P0_2_ : Nat → Prop) (A0_2 : Option Addr) (c0_2 : Nat) (l0_2 : List (S40)) (a1 : Int) (r : Bool) (w : World) (hs0_2 : Kd.V k40 40 w w.heap.size (fun k_ => P0_2_ k_) (.slice A0_2 l0_2.length c0_2) l0_2) (h : law05_StateParts.f k a0_0 a0_1 l0_2 a1 = some r) (hrt : r = true) :
  Calls Try.prog 7 #[.agg #[.int .i64 a0_0, .int .i64 a0_1, .slice A0_2 l0_2.length c0_2], .int .u8 a1] w fun e w' => e = .returned (.bool r) ∧ Below w.heap.size w w' := by
 have HRT := Aside0.mk hrt
 clear hrt
 have hu24 := Try.underlying24
 have hu40 := Try.underlying40
 have HO0_2 := Aside0.mk (show Kd.V k40 40 w w.heap.size (fun k_ => (P0_2_ k_ ∨ w.heap.size ≤ k_)) (.slice A0_2 l0_2.length c0_2) l0_2 from Kd.V_mono hs0_2 (fun k_ hk => .inl hk))
 have HB := Aside0.mk (Below.refl w.heap.size w)
 have H : ((law05_alive.f k).bind fun t102 => (if t102 = true then ((law05_great.f k (([(⟨a0_0, a0_1, l0_2⟩ : S24)] : List (S24)))).bind fun t106 => (if t106 = true then (law05_StateParts.j0 k a1 true a0_0 a0_1 l0_2) else ((ref05_Right.f k a0_0 a0_1 l0_2).bind fun t107 => (law05_StateParts.j0 k a1 (!t107) a0_0 a0_1 l0_2)))) else (some false))) = some r := h
 clear h
 replace H := ob_ H
 obtain ⟨t102, A30, H⟩ := H
 replace H : (if t102 = true then ((law05_great.f k (([(⟨a0_0, a0_1, l0_2⟩ : S24)] : List (S24)))).bind fun t106 => (if t106 = true then (law05_StateParts.j0 k a1 true a0_0 a0_1 l0_2) else ((ref05_Right.f k a0_0 a0_1 l0_2).bind fun t107 => (law05_StateParts.j0 k a1 (!t107) a0_0 a0_1 l0_2)))) else (some false)) = some r := H
 have A3 := Aside0.mk A30
 clear A30
 by_cases c4 : t102 = true
 ·subst c4
  have H1 : ((law05_great.f k (([(⟨a0_0, a0_1, l0_2⟩ : S24)] : List (S24)))).bind fun t106 => (if t106 = true then (law05_StateParts.j0 k a1 true a0_0 a0_1 l0_2) else ((ref05_Right.f k a0_0 a0_1 l0_2).bind fun t107 => (law05_StateParts.j0 k a1 (!t107) a0_0 a0_1 l0_2)))) = some r := by rw [if_pos rfl] at H; exact H
  clear H
  have H := H1
  clear H1
  have HC5 := Aside0.mk H
  clear H
  go_enter Try.func7, Try.ntmps7
  go_upto_region 3 with (first | ((with_reducible refine qq_ (N := 2) rfl ?_); (try (refine qz_ (by rfl) ?_; dsimp only)); refine qp_ ?hg (N := 2) ?hd (cs := #[.int .i64 a0_0, .int .i64 a0_1, .slice A0_2 l0_2.length c0_2]) (t := 24) ?hr ?_; (case hd => rfl); (case hg => rfl); (case hr => first | (go_simp; done) | (go_simp; rfl)); intro gb101 hg w6 hbox hb; have n0_ := Aside0.mk (Kd.qo_ (Kd.V_elderB (by (with_reducible repeat (first | apply Kd.qn_ | apply Kd.qm_ | apply Kd.V_drew)); exact HO0_2.out) gb101 (Nat.le_of_eq hg.symm)) hb); have n1_ := Aside0.mk (ql_ (by repeat (first | (with_reducible first | exact HB.out | apply qc_ | apply qa_ | apply qb_) | exact HB.out)) hb); have n2_ := Aside0.mk (hbox); have n3_ := Aside0.mk ((by rw [hg]; exact (qj_ (by repeat (first | (with_reducible first | exact HB.out | apply qc_ | apply qa_ | apply qb_) | exact HB.out))) : w.heap.size ≤ gb101)); have n4_ := Aside0.mk ((by rw [hg]; exact (qj_ (by repeat (first | (with_reducible first | exact HB.out | apply qc_ | apply qa_ | apply qb_) | exact HB.out))) : w.heap.size ≤ gb101)); clear HO0_2; clear HB; have HO0_2 := n0_; have HB := n1_; have BK101 := n2_; have GW101 := n3_; have GE101 := n4_; clear n0_ n1_ n2_ n3_ n4_; clear hb hbox hg) | ((with_reducible refine qr_ (f := 9) rfl ?_); refine goesL_ (some 8) rfl rfl Try.func9 (by kernel_rfl) rfl #[] rfl (by (try simp only [List.map_toArray, List.map_cons, List.map_nil]); first | done | rfl | (simp only [List.length_drop, List.length_take]; rfl)) ?_; (with_reducible refine (law05_alive.calls k  true _ A3.out).mono ?_); rintro e w7 ⟨rfl, hb⟩; refine ⟨_, rfl, ?_⟩; have n0_ := Aside0.mk (Kd.qo_ (by (with_reducible repeat (first | apply Kd.qn_ | apply Kd.qm_ | apply Kd.V_drew)); exact HO0_2.out) hb); have n1_ := Aside0.mk (qk_ (g := gb101) (o := .cells #[.int .i64 a0_0, .int .i64 a0_1, .slice A0_2 l0_2.length c0_2] 24 (0, 0)) (by (with_reducible repeat (first | refine qe_ ?_ _ | refine qh_ ?_ | refine qd_ ?_ _)); exact BK101.out) hb); have n2_ := Aside0.mk (ql_ (by repeat (first | (with_reducible first | exact HB.out | apply qc_ | apply qa_ | apply qb_ | refine qf_ ?_ GE101.out) | exact HB.out)) hb); clear HO0_2; clear BK101; clear HB; have HO0_2 := n0_; have BK101 := n1_; have HB := n2_; clear n0_ n1_ n2_; (try clear hb); (try clear hb2); (try clear hk); (try clear hi)))
  (try simp only [Act.put, sa_, sb_, sc_])
  go_cut [17] (fun v17 wc => ∃ (kq : Nat) (x17_4 : Bool), v17 = .bool x17_4 ∧ Aside0 (law05_StateParts.j0 kq a1 x17_4 a0_0 a0_1 l0_2 = some r) ∧ Aside0 (kq ≤ k) ∧ Aside0 (Kd.V k40 40 wc w.heap.size (fun k_ => (P0_2_ k_ ∨ w.heap.size ≤ k_) ∧ k_ ≠ gb101) (.slice A0_2 l0_2.length c0_2) l0_2) ∧ Aside0 (wc.heap[gb101]? = some (.cells #[.int .i64 a0_0, .int .i64 a0_1, (.slice A0_2 l0_2.length c0_2)] 24 (0, 0))) ∧ Aside0 (Below w.heap.size w wc))
  case first =>
   have H := HC5.out
   clear HC5
   obtain ⟨y103, hy103⟩ : ∃ y_ : List (S24), y_ = (([(⟨a0_0, a0_1, l0_2⟩ : S24)] : List (S24))) := ⟨_, rfl⟩
   replace H : ((law05_great.f k y103).bind fun t106 => (if t106 = true then (law05_StateParts.j0 k a1 true a0_0 a0_1 l0_2) else ((ref05_Right.f k a0_0 a0_1 l0_2).bind fun t107 => (law05_StateParts.j0 k a1 (!t107) a0_0 a0_1 l0_2)))) = some r := by first | (rw [hy103]; with_reducible exact H) | (have H2_ := (Option.bind_some _ _).symm.trans H; rw [hy103]; with_reducible exact H2_) | (have H2_ := (Option.bind_some _ _).symm.trans H; with_reducible exact H2_) | with_reducible exact H | (rw [hy103]; exact H) | exact H
   have Ny103 := Aside0.mk hy103
   clear hy103
   replace H := ob_ H
   obtain ⟨t106, A80, H⟩ := H
   replace H : (if t106 = true then (law05_StateParts.j0 k a1 true a0_0 a0_1 l0_2) else ((ref05_Right.f k a0_0 a0_1 l0_2).bind fun t107 => (law05_StateParts.j0 k a1 (!t107) a0_0 a0_1 l0_2))) = some r := H
   have A8 := Aside0.mk A80
   clear A80
   by_cases c9 : t106 = true
   ·subst c9
    have H1 : (law05_StateParts.j0 k a1 true a0_0 a0_1 l0_2) = some r := by rw [if_pos rfl] at H; exact H
    clear H
    have H := H1
    clear H1
    have H' := Aside0.mk H
    clear H
    have hcz10_0 : w7.cell? ⟨gb101, 0, none⟩ = some (.int .i64 a0_0) := (qg_ BK101.out 0).trans rfl
    have hcz10_1 : w7.cell? ⟨gb101, 1, none⟩ = some (.int .i64 a0_1) := (qg_ BK101.out 1).trans rfl
    have hcz10_2 : w7.cell? ⟨gb101, 2, none⟩ = some (.slice A0_2 l0_2.length c0_2) := (qg_ BK101.out 2).trans rfl
    have hfz10_0 := qi_ BK101.out 0
    have hfz10_1 := qi_ BK101.out 1
    have hfz10_2 := qi_ BK101.out 2
    go_wp2_with (first | ((with_reducible refine qq_ (N := 11) rfl ?_); (try (refine qz_ (by rfl) ?_; dsimp only)); refine Kd.N_lit k24 _ 24 ?hg (N' := 11) ?hd (xs := ([(⟨a0_0, a0_1, l0_2⟩ : S24)] : List (S24))) (inner := [.int .i64 a0_0, .int .i64 a0_1, .slice A0_2 l0_2.length c0_2]) (ok := (fun k_ => (P0_2_ k_ ∨ w.heap.size ≤ k_) ∧ k_ ≠ gb101)) (okp := (fun k_ => (P0_2_ k_ ∨ w.heap.size ≤ k_) ∧ k_ ≠ gb101)) ?hr ?hp (fun _ hk => hk) ((show ∀ k_, w7.heap.size ≤ k_ → (fun k_ => (P0_2_ k_ ∨ w.heap.size ≤ k_) ∧ k_ ≠ gb101) k_ from fun k_ hk => ⟨(.inr (Nat.le_trans (qj_ (by repeat (first | (with_reducible first | exact HB.out | apply qc_ | apply qa_ | apply qb_ | refine qf_ ?_ GE101.out) | exact HB.out))) hk)), Kd.freshB (g := gb101) (o := .cells #[.int .i64 a0_0, .int .i64 a0_1, .slice A0_2 l0_2.length c0_2] 24 (0, 0)) (by (with_reducible repeat (first | refine qe_ ?_ _ | refine qh_ ?_ | refine qd_ ?_ _)); exact BK101.out) k_ hk⟩) _ (Nat.le_refl _)) (Below.refl _ _) (Nat.le_refl _) (by simp) ?_; (case hd => rfl); (case hg => rfl); (case hr => first | (go_simp; done) | (go_simp; rfl)); (case hp => exact (Reps.c3 (show Kd.FK k24 _ _ (⟨a0_0, a0_1, l0_2⟩ : S24) [.int .i64 a0_0, .int .i64 a0_1, .slice A0_2 l0_2.length c0_2] from (k24_mkF _ _ (⟨a0_0, a0_1, l0_2⟩ : S24) (Kd.V_reads' (Kd.V_mono (ok' := (fun k_ => (P0_2_ k_ ∨ w.heap.size ≤ k_) ∧ k_ ≠ gb101)) (HO0_2.out) (fun k_ hk => ⟨hk.1, hk.2⟩))).2.1 (Kd.V_F (Kd.V_mono (ok' := (fun k_ => (P0_2_ k_ ∨ w.heap.size ≤ k_) ∧ k_ ≠ gb101)) (HO0_2.out) (fun k_ hk => ⟨hk.1, hk.2⟩))))) (Reps.none _ _))); intro v104 w11 ho12 hb hg_ hnew_; clear hg_ hnew_; (first | rw [← Ny103.out] at ho12 | (simp only [Int.reduceToNat] at ho12; rw [← Ny103.out] at ho12)); have n0_ := Aside0.mk (Kd.V_elder' (by (with_reducible repeat (first | apply Kd.qn_ | apply Kd.qm_ | apply Kd.V_drew)); exact HO0_2.out) (by first | exact Kd.N_base ho12 | exact Kd.S_base ho12) hb); have n1_ := Aside0.mk (Kd.N_lower ho12 (qj_ (by repeat (first | (with_reducible first | exact HB.out | apply qc_ | apply qa_ | apply qb_ | refine qf_ ?_ GE101.out) | exact HB.out)))); have n2_ := Aside0.mk (qk_ (g := gb101) (o := .cells #[.int .i64 a0_0, .int .i64 a0_1, .slice A0_2 l0_2.length c0_2] 24 (0, 0)) (by (with_reducible repeat (first | refine qe_ ?_ _ | refine qh_ ?_ | refine qd_ ?_ _)); exact BK101.out) hb); have n3_ := Aside0.mk (ql_ (by repeat (first | (with_reducible first | exact HB.out | apply qc_ | apply qa_ | apply qb_ | refine qf_ ?_ GE101.out) | exact HB.out)) hb); clear HO0_2; clear BK101; clear HB; have HO0_2 := n0_; have HO105 := n1_; have BK101 := n2_; have HB := n3_; clear n0_ n1_ n2_ n3_; clear hb ho12; obtain ⟨Ao13, co13, eo13⟩ := Kd.N_slice HO105.out; subst eo13) | ((with_reducible refine qr_ (f := 10) rfl ?_); refine goesL_ (some 12) rfl rfl Try.func10 (by kernel_rfl) rfl #[.slice Ao13 y103.length co13] rfl (by (try simp only [List.map_toArray, List.map_cons, List.map_nil]); first | done | rfl | (simp only [List.length_drop, List.length_take]; rfl)) ?_; (with_reducible refine (law05_great.calls k _ _ y103 true _ ?side1 ?side2 A8.out).mono ?_); (case side1 => repeat (first | exact (Kd.N_reads' HO105.out).2.2 | (with_reducible refine Kd.qu_ ?_ _) | (with_reducible refine Kd.qt_ ?_ _) | (with_reducible refine Kd.C_drew ?_))); (case side2 => exact (Kd.N_reads' HO105.out).2.1); rintro e w14 ⟨rfl, hb⟩; refine ⟨_, rfl, ?_⟩; have n0_ := Aside0.mk (Kd.qo_ (by (with_reducible repeat (first | apply Kd.qn_ | apply Kd.qm_ | apply Kd.V_drew)); exact HO0_2.out) hb); have n1_ := Aside0.mk (Kd.N_below (by (with_reducible repeat (first | apply Kd.N_alloc | apply Kd.N_drewN | apply Kd.N_drew)); exact HO105.out) hb); have n2_ := Aside0.mk (qk_ (g := gb101) (o := .cells #[.int .i64 a0_0, .int .i64 a0_1, .slice A0_2 l0_2.length c0_2] 24 (0, 0)) (by (with_reducible repeat (first | refine qe_ ?_ _ | refine qh_ ?_ | refine qd_ ?_ _)); exact BK101.out) hb); have n3_ := Aside0.mk (ql_ (by repeat (first | (with_reducible first | exact HB.out | apply qc_ | apply qa_ | apply qb_ | refine qf_ ?_ GE101.out) | exact HB.out)) hb); clear HO0_2; clear HO105; clear BK101; clear HB; have HO0_2 := n0_; have HO105 := n1_; have BK101 := n2_; have HB := n3_; clear n0_ n1_ n2_ n3_; (try clear hb); (try clear hb2); (try clear hk); (try clear hi)))
    go_meet
    case rel => exact ⟨_, (true), (by first | rfl | (simp; done) | (simp [*]; done)), H', ⟨by first | omega | exact Nat.le_refl _⟩, ⟨by (with_reducible repeat (first | apply Kd.qn_ | apply Kd.qm_ | apply Kd.V_drew)); exact Kd.V_mono HO0_2.out (fun _ hk => ⟨hk.1.1, hk.1.2⟩)⟩, ⟨by (with_reducible repeat (first | refine qe_ ?_ _ | refine qh_ ?_ | refine qd_ ?_ _)); exact BK101.out⟩, ⟨by repeat (first | (with_reducible first | exact HB.out | apply qc_ | apply qa_ | apply qb_ | refine qf_ ?_ GE101.out) | exact HB.out)⟩⟩
   ·replace c9 := Bool.eq_false_iff.mpr c9
    subst c9
    have H1 : ((ref05_Right.f k a0_0 a0_1 l0_2).bind fun t107 => (law05_StateParts.j0 k a1 (!t107) a0_0 a0_1 l0_2)) = some r := by rw [if_neg (show ¬ (false = true) by decide)] at H; exact H
    clear H
    have H := H1
    clear H1
    replace H := ob_ H
    obtain ⟨t107, A150, H⟩ := H
    replace H : (law05_StateParts.j0 k a1 (!t107) a0_0 a0_1 l0_2) = some r := H
    have A15 := Aside0.mk A150
    clear A150
    have H' := Aside0.mk H
    clear H
    have hcz16_0 : w7.cell? ⟨gb101, 0, none⟩ = some (.int .i64 a0_0) := (qg_ BK101.out 0).trans rfl
    have hcz16_1 : w7.cell? ⟨gb101, 1, none⟩ = some (.int .i64 a0_1) := (qg_ BK101.out 1).trans rfl
    have hcz16_2 : w7.cell? ⟨gb101, 2, none⟩ = some (.slice A0_2 l0_2.length c0_2) := (qg_ BK101.out 2).trans rfl
    have hfz16_0 := qi_ BK101.out 0
    have hfz16_1 := qi_ BK101.out 1
    have hfz16_2 := qi_ BK101.out 2
    go_wp2_with (first | ((with_reducible refine qq_ (N := 11) rfl ?_); (try (refine qz_ (by rfl) ?_; dsimp only)); refine Kd.N_lit k24 _ 24 ?hg (N' := 11) ?hd (xs := ([(⟨a0_0, a0_1, l0_2⟩ : S24)] : List (S24))) (inner := [.int .i64 a0_0, .int .i64 a0_1, .slice A0_2 l0_2.length c0_2]) (ok := (fun k_ => (P0_2_ k_ ∨ w.heap.size ≤ k_) ∧ k_ ≠ gb101)) (okp := (fun k_ => (P0_2_ k_ ∨ w.heap.size ≤ k_) ∧ k_ ≠ gb101)) ?hr ?hp (fun _ hk => hk) ((show ∀ k_, w7.heap.size ≤ k_ → (fun k_ => (P0_2_ k_ ∨ w.heap.size ≤ k_) ∧ k_ ≠ gb101) k_ from fun k_ hk => ⟨(.inr (Nat.le_trans (qj_ (by repeat (first | (with_reducible first | exact HB.out | apply qc_ | apply qa_ | apply qb_ | refine qf_ ?_ GE101.out) | exact HB.out))) hk)), Kd.freshB (g := gb101) (o := .cells #[.int .i64 a0_0, .int .i64 a0_1, .slice A0_2 l0_2.length c0_2] 24 (0, 0)) (by (with_reducible repeat (first | refine qe_ ?_ _ | refine qh_ ?_ | refine qd_ ?_ _)); exact BK101.out) k_ hk⟩) _ (Nat.le_refl _)) (Below.refl _ _) (Nat.le_refl _) (by simp) ?_; (case hd => rfl); (case hg => rfl); (case hr => first | (go_simp; done) | (go_simp; rfl)); (case hp => exact (Reps.c3 (show Kd.FK k24 _ _ (⟨a0_0, a0_1, l0_2⟩ : S24) [.int .i64 a0_0, .int .i64 a0_1, .slice A0_2 l0_2.length c0_2] from (k24_mkF _ _ (⟨a0_0, a0_1, l0_2⟩ : S24) (Kd.V_reads' (Kd.V_mono (ok' := (fun k_ => (P0_2_ k_ ∨ w.heap.size ≤ k_) ∧ k_ ≠ gb101)) (HO0_2.out) (fun k_ hk => ⟨hk.1, hk.2⟩))).2.1 (Kd.V_F (Kd.V_mono (ok' := (fun k_ => (P0_2_ k_ ∨ w.heap.size ≤ k_) ∧ k_ ≠ gb101)) (HO0_2.out) (fun k_ hk => ⟨hk.1, hk.2⟩))))) (Reps.none _ _))); intro v104 w17 ho18 hb hg_ hnew_; clear hg_ hnew_; (first | rw [← Ny103.out] at ho18 | (simp only [Int.reduceToNat] at ho18; rw [← Ny103.out] at ho18)); have n0_ := Aside0.mk (Kd.V_elder' (by (with_reducible repeat (first | apply Kd.qn_ | apply Kd.qm_ | apply Kd.V_drew)); exact HO0_2.out) (by first | exact Kd.N_base ho18 | exact Kd.S_base ho18) hb); have n1_ := Aside0.mk (Kd.N_lower ho18 (qj_ (by repeat (first | (with_reducible first | exact HB.out | apply qc_ | apply qa_ | apply qb_ | refine qf_ ?_ GE101.out) | exact HB.out)))); have n2_ := Aside0.mk (qk_ (g := gb101) (o := .cells #[.int .i64 a0_0, .int .i64 a0_1, .slice A0_2 l0_2.length c0_2] 24 (0, 0)) (by (with_reducible repeat (first | refine qe_ ?_ _ | refine qh_ ?_ | refine qd_ ?_ _)); exact BK101.out) hb); have n3_ := Aside0.mk (ql_ (by repeat (first | (with_reducible first | exact HB.out | apply qc_ | apply qa_ | apply qb_ | refine qf_ ?_ GE101.out) | exact HB.out)) hb); clear HO0_2; clear BK101; clear HB; have HO0_2 := n0_; have HO105 := n1_; have BK101 := n2_; have HB := n3_; clear n0_ n1_ n2_ n3_; clear hb ho18; obtain ⟨Ao19, co19, eo19⟩ := Kd.N_slice HO105.out; subst eo19) | ((with_reducible refine qr_ (f := 10) rfl ?_); refine goesL_ (some 12) rfl rfl Try.func10 (by kernel_rfl) rfl #[.slice Ao19 y103.length co19] rfl (by (try simp only [List.map_toArray, List.map_cons, List.map_nil]); first | done | rfl | (simp only [List.length_drop, List.length_take]; rfl)) ?_; (with_reducible refine (law05_great.calls k _ _ y103 false _ ?side1 ?side2 A8.out).mono ?_); (case side1 => repeat (first | exact (Kd.N_reads' HO105.out).2.2 | (with_reducible refine Kd.qu_ ?_ _) | (with_reducible refine Kd.qt_ ?_ _) | (with_reducible refine Kd.C_drew ?_))); (case side2 => exact (Kd.N_reads' HO105.out).2.1); rintro e w20 ⟨rfl, hb⟩; refine ⟨_, rfl, ?_⟩; have n0_ := Aside0.mk (Kd.qo_ (by (with_reducible repeat (first | apply Kd.qn_ | apply Kd.qm_ | apply Kd.V_drew)); exact HO0_2.out) hb); have n1_ := Aside0.mk (Kd.N_below (by (with_reducible repeat (first | apply Kd.N_alloc | apply Kd.N_drewN | apply Kd.N_drew)); exact HO105.out) hb); have n2_ := Aside0.mk (qk_ (g := gb101) (o := .cells #[.int .i64 a0_0, .int .i64 a0_1, .slice A0_2 l0_2.length c0_2] 24 (0, 0)) (by (with_reducible repeat (first | refine qe_ ?_ _ | refine qh_ ?_ | refine qd_ ?_ _)); exact BK101.out) hb); have n3_ := Aside0.mk (ql_ (by repeat (first | (with_reducible first | exact HB.out | apply qc_ | apply qa_ | apply qb_ | refine qf_ ?_ GE101.out) | exact HB.out)) hb); clear HO0_2; clear HO105; clear BK101; clear HB; have HO0_2 := n0_; have HO105 := n1_; have BK101 := n2_; have HB := n3_; clear n0_ n1_ n2_ n3_; (try clear hb); (try clear hb2); (try clear hk); (try clear hi); have hcz21_0 : w20.cell? ⟨gb101, 0, none⟩ = some (.int .i64 a0_0) := (qg_ BK101.out 0).trans rfl; have hcz21_1 : w20.cell? ⟨gb101, 1, none⟩ = some (.int .i64 a0_1) := (qg_ BK101.out 1).trans rfl; have hcz21_2 : w20.cell? ⟨gb101, 2, none⟩ = some (.slice A0_2 l0_2.length c0_2) := (qg_ BK101.out 2).trans rfl; have hfz21_0 := qi_ BK101.out 0; have hfz21_1 := qi_ BK101.out 1; have hfz21_2 := qi_ BK101.out 2) | (go_at_call 17; (with_reducible refine (ref05_Right.calls k a0_0 a0_1 _ _ l0_2 t107 _ ?side1 ?side2 A15.out).mono ?_); (case side1 => repeat (first | exact (Kd.V_reads' HO0_2.out).2.2 | (with_reducible refine Kd.qu_ ?_ _) | (with_reducible refine Kd.qt_ ?_ _) | (with_reducible refine Kd.C_drew ?_))); (case side2 => exact (Kd.V_reads' HO0_2.out).2.1); rintro e w22 ⟨rfl, hb⟩; have n0_ := Aside0.mk (Kd.qo_ (by (with_reducible repeat (first | apply Kd.qn_ | apply Kd.qm_ | apply Kd.V_drew)); exact HO0_2.out) hb); have n1_ := Aside0.mk (Kd.N_below (by (with_reducible repeat (first | apply Kd.N_alloc | apply Kd.N_drewN | apply Kd.N_drew)); exact HO105.out) hb); have n2_ := Aside0.mk (qk_ (g := gb101) (o := .cells #[.int .i64 a0_0, .int .i64 a0_1, .slice A0_2 l0_2.length c0_2] 24 (0, 0)) (by (with_reducible repeat (first | refine qe_ ?_ _ | refine qh_ ?_ | refine qd_ ?_ _)); exact BK101.out) hb); have n3_ := Aside0.mk (ql_ (by repeat (first | (with_reducible first | exact HB.out | apply qc_ | apply qa_ | apply qb_ | refine qf_ ?_ GE101.out) | exact HB.out)) hb); clear HO0_2; clear HO105; clear BK101; clear HB; have HO0_2 := n0_; have HO105 := n1_; have BK101 := n2_; have HB := n3_; clear n0_ n1_ n2_ n3_; (try clear hb); (try clear hb2); (try clear hk); (try clear hi)))
    go_meet
    case rel => exact ⟨_, (!t107), (by first | rfl | (simp; done) | (simp [*]; done)), H', ⟨by first | omega | exact Nat.le_refl _⟩, ⟨by (with_reducible repeat (first | apply Kd.qn_ | apply Kd.qm_ | apply Kd.V_drew)); exact Kd.V_mono HO0_2.out (fun _ hk => ⟨hk.1.1, hk.1.2⟩)⟩, ⟨by (with_reducible repeat (first | refine qe_ ?_ _ | refine qh_ ?_ | refine qd_ ?_ _)); exact BK101.out⟩, ⟨by repeat (first | (with_reducible first | exact HB.out | apply qc_ | apply qa_ | apply qb_ | refine qf_ ?_ GE101.out) | exact HB.out)⟩⟩
  case rest =>
   clear HC5
   try clear c1
   try clear p2
   try clear c3
   try clear c4
   try clear c7
   try clear c9
   try clear c10
   try clear hcz10_0
   try clear hcz10_1
   try clear hcz10_2
   try clear hcz16_0
   try clear hcz16_1
   try clear hcz16_2
   try clear hcz21_0
   try clear hcz21_1
   try clear hcz21_2
   try clear hfz10_0
   try clear hfz10_1
   try clear hfz10_2
   try clear hfz16_0
   try clear hfz16_1
   try clear hfz16_2
   try clear hfz21_0
   try clear hfz21_1
   try clear hfz21_2
   obtain ⟨kq, x17_4, rfl, HA, HJ4, HO_102002, BK101, HB⟩ := hcut
   cases kq with
   | zero => exact absurd HA.out (by simp [law05_StateParts.j0])
   | succ kj4 =>
    have H := HA.out
    clear HA
    simp only [law05_StateParts.j0] at H
    by_cases c23 : x17_4 = true
    ·subst c23
     have H1 : (some true) = some r := by rw [if_pos rfl] at H; exact H
     clear H
     have H := H1
     clear H1
     obtain rfl := Option.some.inj H
     go_wp2
     go_ret
     exact ⟨by first | rfl | (simp [errW_none, errW_some] <;> rfl) | (simp [*, errW_none, errW_some] <;> rfl), by repeat (first | (with_reducible first | exact HB.out | apply qc_ | apply qa_ | apply qb_ | refine qf_ ?_ GE101.out) | exact HB.out)⟩
    ·replace c23 := Bool.eq_false_iff.mpr c23
     subst c23
     have H1 : (law05_StateParts.l0 kj4 a1 0 a0_0 a0_1 l0_2 a0_0 0 ([] : List (S40))) = some r := by rw [if_neg (show ¬ (false = true) by decide)] at H; exact H
     clear H
     have H := H1
     clear H1
     have H' := Aside0.mk H
     clear H
     have hcz24_0 : wc.cell? ⟨gb101, 0, none⟩ = some (.int .i64 a0_0) := (qg_ BK101.out 0).trans rfl
     have hcz24_1 : wc.cell? ⟨gb101, 1, none⟩ = some (.int .i64 a0_1) := (qg_ BK101.out 1).trans rfl
     have hcz24_2 : wc.cell? ⟨gb101, 2, none⟩ = some (.slice A0_2 l0_2.length c0_2) := (qg_ BK101.out 2).trans rfl
     have hfz24_0 := qi_ BK101.out 0
     have hfz24_1 := qi_ BK101.out 1
     have hfz24_2 := qi_ BK101.out 2
     go_wp2_with (first | ((with_reducible refine qq_ (N := 5) rfl ?_); (try (refine qz_ (by rfl) ?_; dsimp only)); refine qp_ ?hg (N := 5) ?hd (cs := #[.int .i64 0, .int .i64 0, .slice none 0 0]) (t := 24) ?hr ?_; (case hd => rfl); (case hg => rfl); (case hr => first | (go_simp; done) | (go_simp; rfl)); intro gb108 hg w25 hbox hb; have n0_ := Aside0.mk (Kd.qo_ (Kd.V_elderB (by (with_reducible repeat (first | apply Kd.qn_ | apply Kd.qm_ | apply Kd.V_drew)); exact HO_102002.out) gb108 (Nat.le_of_eq hg.symm)) hb); have n1_ := Aside0.mk (qk_ (g := gb101) (o := .cells #[.int .i64 a0_0, .int .i64 a0_1, .slice A0_2 l0_2.length c0_2] 24 (0, 0)) (by (with_reducible repeat (first | refine qe_ ?_ _ | refine qh_ ?_ | refine qd_ ?_ _)); exact BK101.out) hb); have n2_ := Aside0.mk (ql_ (by repeat (first | (with_reducible first | exact HB.out | apply qc_ | apply qa_ | apply qb_ | refine qf_ ?_ GE101.out) | exact HB.out)) hb); have n3_ := Aside0.mk (hbox); have n4_ := Aside0.mk ((by rw [hg]; exact (qj_ (by repeat (first | (with_reducible first | exact HB.out | apply qc_ | apply qa_ | apply qb_ | refine qf_ ?_ GE101.out) | exact HB.out))) : w.heap.size ≤ gb108)); have n5_ := Aside0.mk ((by rw [hg]; exact (qj_ (by repeat (first | (with_reducible first | exact HB.out | apply qc_ | apply qa_ | apply qb_ | refine qf_ ?_ GE101.out) | exact HB.out))) : w.heap.size ≤ gb108)); have n6_ := Aside0.mk ((by rw [hg]; exact Nat.ne_of_lt (blk_lt (g := gb101) (o := .cells #[.int .i64 a0_0, .int .i64 a0_1, .slice A0_2 l0_2.length c0_2] 24 (0, 0)) (by (with_reducible repeat (first | refine qe_ ?_ _ | refine qh_ ?_ | refine qd_ ?_ _)); exact BK101.out)) : gb101 ≠ gb108)); have n7_ := Aside0.mk ((by rw [hg]; exact Nat.ne_of_gt (blk_lt (g := gb101) (o := .cells #[.int .i64 a0_0, .int .i64 a0_1, .slice A0_2 l0_2.length c0_2] 24 (0, 0)) (by (with_reducible repeat (first | refine qe_ ?_ _ | refine qh_ ?_ | refine qd_ ?_ _)); exact BK101.out)) : gb108 ≠ gb101)); clear HO_102002; clear BK101; clear HB; have HO_102002 := n0_; have BK101 := n1_; have HB := n2_; have BK108 := n3_; have GW108 := n4_; have GE108 := n5_; have NB101_108 := n6_; have NB108_101 := n7_; clear n0_ n1_ n2_ n3_ n4_ n5_ n6_ n7_; clear hb hbox hg; have hnb26 := NB108_101.out; have hnc26 := NB101_108.out; have hcz27_0 : w25.cell? ⟨gb108, 0, none⟩ = some (.int .i64 0) := (qg_ BK108.out 0).trans rfl; have hcz27_1 : w25.cell? ⟨gb108, 1, none⟩ = some (.int .i64 0) := (qg_ BK108.out 1).trans rfl; have hcz27_2 : w25.cell? ⟨gb108, 2, none⟩ = some (.slice none 0 0) := (qg_ BK108.out 2).trans rfl; have hfz27_0 := qi_ BK108.out 0; have hfz27_1 := qi_ BK108.out 1; have hfz27_2 := qi_ BK108.out 2))
     go_loopg [6] kj4 (fun kq v6 w' => ∃ (x6_2 : Int) (x109002_2 : List (S40)) (u109002 : Value), v6 = .int .i64 x6_2 ∧ Aside0 (law05_StateParts.l0 kq a1 x6_2 a0_0 a0_1 l0_2 a0_0 0 x109002_2 = some r) ∧ Aside0 (kq ≤ kj4) ∧ Aside0 (Kd.V k40 40 w' w.heap.size (fun k_ => (P0_2_ k_ ∨ w.heap.size ≤ k_) ∧ some k_ ≠ (u109002 : Value).ownBlock ∧ k_ ≠ gb101 ∧ k_ ≠ gb108) (.slice A0_2 l0_2.length c0_2) l0_2) ∧ Aside0 (Kd.R k40 40 w' w.heap.size (fun k_ => (w.heap.size ≤ k_)) u109002 x109002_2) ∧ Aside0 (w'.heap[gb101]? = some (.cells #[.int .i64 a0_0, .int .i64 a0_1, (.slice A0_2 l0_2.length c0_2)] 24 (0, 0))) ∧ Aside0 (w'.heap[gb108]? = some (.cells #[.int .i64 a0_0, .int .i64 0, u109002] 24 (0, 0))) ∧ Aside0 (Below w.heap.size w w'))
     case atStart => exact ⟨(0), (([] : List (S40))), (.slice none 0 0), (by first | rfl | (simp; done) | (simp [*]; done)), H', ⟨Nat.le_refl _⟩, ⟨by (with_reducible repeat (first | apply Kd.qn_ | apply Kd.qm_ | apply Kd.V_drew)); exact Kd.V_mono (Kd.V_far (p := ⟨gb108, 2, none⟩) (Kd.V_far (p := ⟨gb108, 1, none⟩) (Kd.V_far (p := ⟨gb108, 0, none⟩) (Kd.V_mono HO_102002.out (fun k_ hk => (⟨hk, hk.2⟩ : _ ∧ k_ ≠ gb108))) (fun _ hk => hk.2) (.int .i64 a0_0)) (fun _ hk => hk.2) (.int .i64 0)) (fun _ hk => hk.2) (.slice none 0 0)) (fun _ hk => ⟨hk.1.1.1, ⟨(by simp [Value.ownBlock]), ⟨hk.1.1.2, hk.1.2⟩⟩⟩)⟩, ⟨by first | exact Kd.R_nil _ _ _ _ _ | exact Kd.N_nil _ _ _ _ _ | exact Kd.V_nil _ _ _ _ _ | exact Kd.Q_nil _ _ _ _ _ | exact Kd.S_nil _ _ _ _ _⟩, ⟨by (with_reducible repeat (first | refine qe_ ?_ _ | refine qh_ ?_ | refine qd_ ?_ _)); refine qx_ ?_ NB101_108.out _; (with_reducible repeat (first | refine qe_ ?_ _ | refine qh_ ?_ | refine qd_ ?_ _)); refine qx_ ?_ NB101_108.out _; (with_reducible repeat (first | refine qe_ ?_ _ | refine qh_ ?_ | refine qd_ ?_ _)); refine qx_ ?_ NB101_108.out _; (with_reducible repeat (first | refine qe_ ?_ _ | refine qh_ ?_ | refine qd_ ?_ _)); exact BK101.out⟩, ⟨by (with_reducible repeat (first | refine qe_ ?_ _ | refine qh_ ?_ | refine qd_ ?_ _)); refine qs_ (cs := #[.int .i64 a0_0, .int .i64 0, .slice none 0 0]) ?_ 2 _ rfl; (with_reducible repeat (first | refine qe_ ?_ _ | refine qh_ ?_ | refine qd_ ?_ _)); refine qs_ (cs := #[.int .i64 a0_0, .int .i64 0, .slice none 0 0]) ?_ 1 _ rfl; (with_reducible repeat (first | refine qe_ ?_ _ | refine qh_ ?_ | refine qd_ ?_ _)); refine qs_ (cs := #[.int .i64 0, .int .i64 0, .slice none 0 0]) ?_ 0 _ rfl; (with_reducible repeat (first | refine qe_ ?_ _ | refine qh_ ?_ | refine qd_ ?_ _)); exact BK108.out⟩, ⟨by repeat (first | (with_reducible first | exact HB.out | apply qc_ | apply qa_ | apply qb_ | refine qf_ ?_ GE101.out | refine qf_ ?_ GE108.out) | exact HB.out)⟩⟩
     case round =>
      clear H'
      try clear c1
      try clear c2
      try clear p2
      try clear c3
      try clear c4
      try clear c7
      try clear c9
      try clear c10
      try clear c23
      try clear c26
      try clear hcz10_0
      try clear hcz10_1
      try clear hcz10_2
      try clear hcz16_0
      try clear hcz16_1
      try clear hcz16_2
      try clear hcz21_0
      try clear hcz21_1
      try clear hcz21_2
      try clear hcz24_0
      try clear hcz24_1
      try clear hcz24_2
      try clear hcz27_0
      try clear hcz27_1
      try clear hcz27_2
      try clear hfz10_0
      try clear hfz10_1
      try clear hfz10_2
      try clear hfz16_0
      try clear hfz16_1
      try clear hfz16_2
      try clear hfz21_0
      try clear hfz21_1
      try clear hfz21_2
      try clear hfz24_0
      try clear hfz24_1
      try clear hfz24_2
      try clear hfz27_0
      try clear hfz27_1
      try clear hfz27_2
      try clear p2
      obtain ⟨x6_2, x109002_2, u109002, rfl, HA, HK2, HO_102002, HO_109002, BK101, BK108, HB⟩ := hrel
      cases gk with
      | zero => exact absurd HA.out (by simp [law05_StateParts.l0])
      | succ k2 =>
       have H := HA.out
       clear HA
       simp only [law05_StateParts.l0] at H
       by_cases c28 : x6_2 < (l0_2.length : Int)
       ·rw [if_pos c28] at H
        have c28b0 : decide (x6_2 < (l0_2.length : Int)) = true := decide_eq_true c28
        clear c28
        by_cases c29 : 0 ≤ x6_2
        ·rw [if_pos c29] at H
         have c29b0 : decide (0 ≤ x6_2) = true := decide_eq_true c29
         clear c29
         by_cases c30 : ((rd_T40 l0_2 x6_2).f1) ≤ (wrap64 (a1))
         ·rw [if_pos c30] at H
          have c30b0 : decide (((rd_T40 l0_2 x6_2).f1) ≤ (wrap64 (a1))) = true := decide_eq_true c30
          clear c30
          by_cases c31 : x109002_2.length < 4398046511104
          ·rw [if_pos c31] at H
           have LMc31 := Aside0.mk c31
           clear c31
           obtain ⟨y111, hy111⟩ : ∃ y_ : List (S40), y_ = (x109002_2 ++ [(⟨(rd_T40 l0_2 x6_2).f0, (rd_T40 l0_2 x6_2).f1, (rd_T40 l0_2 x6_2).f2⟩ : S40)]) := ⟨_, rfl⟩
           replace H : (law05_StateParts.l0 k2 a1 (wrap64 (x6_2 + 1)) a0_0 a0_1 l0_2 a0_0 0 y111) = some r := by first | (rw [hy111]; with_reducible exact H) | (have H2_ := (Option.bind_some _ _).symm.trans H; rw [hy111]; with_reducible exact H2_) | (have H2_ := (Option.bind_some _ _).symm.trans H; with_reducible exact H2_) | with_reducible exact H | (rw [hy111]; exact H) | exact H
           have Ny111 := Aside0.mk hy111
           clear hy111
           have H' := Aside0.mk H
           clear H
           have hnb32 := NB101_108.out
           have hnc32 := NB108_101.out
           have hcz33_0 : wr.cell? ⟨gb101, 0, none⟩ = some (.int .i64 a0_0) := (qg_ BK101.out 0).trans rfl
           have hcz33_1 : wr.cell? ⟨gb101, 1, none⟩ = some (.int .i64 a0_1) := (qg_ BK101.out 1).trans rfl
           have hcz33_2 : wr.cell? ⟨gb101, 2, none⟩ = some (.slice A0_2 l0_2.length c0_2) := (qg_ BK101.out 2).trans rfl
           have hfz33_0 := qi_ BK101.out 0
           have hfz33_1 := qi_ BK101.out 1
           have hfz33_2 := qi_ BK101.out 2
           have p109 : 0 ≤ (x6_2 : Int) := of_decide_eq_true (by first | (with_reducible assumption) | assumption)
           have q109 : x6_2 < (l0_2.length : Int) := of_decide_eq_true (by first | (with_reducible assumption) | assumption)
           obtain ⟨ad109, e109, hx109_0, hx109_1, hx109_2⟩ := at_T40 (Kd.V_reads' HO_102002.out).2.2 x6_2 p109 q109
           cases e109
           replace p109 := eq_true p109
           replace q109 := eq_true q109
           try go_wp2
           have n0_ := Aside0.mk (Kd.V_drew HO_102002.out)
           have n1_ := Aside0.mk (Kd.R_drew HO_109002.out)
           have n2_ := Aside0.mk (qh_ BK101.out)
           have n3_ := Aside0.mk (qh_ BK108.out)
           have n4_ := Aside0.mk (qb_ HB.out)
           clear HO_102002
           clear HO_109002
           clear BK101
           clear BK108
           clear HB
           have HO_102002 := n0_
           have HO_109002 := n1_
           have BK101 := n2_
           have BK108 := n3_
           have HB := n4_
           clear n0_ n1_ n2_ n3_ n4_
           have p110 : 0 ≤ (x6_2 : Int) := of_decide_eq_true (by first | (with_reducible assumption) | assumption)
           have q110 : x6_2 < (l0_2.length : Int) := of_decide_eq_true (by first | (with_reducible assumption) | assumption)
           obtain ⟨ad110, e110, hx110_0, hx110_1, hx110_2⟩ := at_T40 (Kd.V_reads' HO_102002.out).2.2 x6_2 p110 q110
           obtain rfl : ad109 = ad110 := (by injection e110)
           replace p110 := eq_true p110
           replace q110 := eq_true q110
           refine start_ (n := 11) (S := fun w' => w'.cell? ⟨gb108, 0, none⟩ = some (.int .i64 a0_0) ∧ w'.cell? ⟨gb108, 1, none⟩ = some (.int .i64 0) ∧ w'.cell? ⟨gb108, 2, none⟩ = some (u109002) ∧ w'.cell? ⟨gb101, 0, none⟩ = some (.int .i64 a0_0) ∧ w'.cell? ⟨gb101, 1, none⟩ = some (.int .i64 a0_1) ∧ w'.cell? ⟨gb101, 2, none⟩ = some (.slice (some ad109) l0_2.length c0_2) ∧ w'.cell? (ad109.add ((x6_2).toNat * 3)) = some (.int .i64 ((rd_T40 l0_2 x6_2).f0)) ∧ w'.cell? ⟨(ad109.add ((x6_2).toNat * 3)).block, (ad109.add ((x6_2).toNat * 3)).off + 1, none⟩ = some (.int .i64 ((rd_T40 l0_2 x6_2).f1)) ∧ w'.cell? ⟨(ad109.add ((x6_2).toNat * 3)).block, (ad109.add ((x6_2).toNat * 3)).off + 2, none⟩ = some (.string ((rd_T40 l0_2 x6_2).f2))) (ds := [8, 10]) #[false,false,false,false,false,false,false,false,false,false,false] (by kernel_rfl) rfl rfl ⟨(qg_ BK108.out 0).trans rfl, (qg_ BK108.out 1).trans rfl, (qg_ BK108.out 2).trans rfl, (qg_ BK101.out 0).trans rfl, (qg_ BK101.out 1).trans rfl, (qg_ BK101.out 2).trans rfl, hx110_0, hx110_1, hx110_2⟩ (fun hHeld => ?_); refine with_tabW law05_StateParts.tab10 law05_StateParts.bits10 (fun HT_ HW_ => ?_)
           generalize wr.drew = w34 at HO_102002 HO_109002 BK101 BK108 HB hx110_0 hx110_1 hx110_2 hHeld ⊢
           refine pure_ (i := 0) (N := some 37) (v := ?_) (a' := ?_) #[true,false,false,false,false,false,false,false,false,false,false] rfl rfl (any_of HT_.out (by kernel_rfl)) (fun _ _ _ h => h) (Or.inl ⟨by rfl, ?_⟩) ?_ ?_
           rotate_left
           ·intro w'
            go_simp
            with_reducible rfl
           rotate_left
           ·simp only [Act.put, sa_, sb_, sc_, i64_w, i32_w]
            rfl
           refine pure_ (i := 2) (N := some 39) (v := ?_) (a' := ?_) #[true,false,true,false,false,false,false,false,false,false,false] rfl rfl (any_of HT_.out (by kernel_rfl)) (fun _ _ _ h => h) (Or.inl ⟨by rfl, ?_⟩) ?_ ?_
           rotate_left
           ·intro w'
            go_simp
            with_reducible rfl
           rotate_left
           ·simp only [Act.put, sa_, sb_, sc_, i64_w, i32_w]
            rfl
           refine pure_ (i := 4) (N := some 41) (v := ?_) (a' := ?_) #[true,false,true,false,true,false,false,false,false,false,false] rfl rfl (any_of HT_.out (by kernel_rfl)) (fun _ _ _ h => h) (Or.inl ⟨by rfl, ?_⟩) ?_ ?_
           rotate_left
           ·intro w'
            go_simp
            with_reducible rfl
           rotate_left
           ·simp only [Act.put, sa_, sb_, sc_, i64_w, i32_w]
            rfl
           refine take_ (i := 1) (N := some 38) (v := ?_) (a' := ?_) #[true,true,true,false,true,false,false,false,false,false,false] rfl rfl (qy_ HT_.out HW_.out (by kernel_rfl)) (fun _ _ _ h => h) (Or.inl ⟨by rfl, ?_⟩) hHeld ?_ ?_
           rotate_left
           ·rintro w' ⟨s0, s1, s2, s3, s4, s5, s6, s7, s8⟩
            go_simp
            with_reducible rfl
           rotate_left
           ·simp only [Act.put, sa_, sb_, sc_, i64_w, i32_w]
            rfl
           refine take_ (i := 3) (N := some 40) (v := ?_) (a' := ?_) #[true,true,true,true,true,false,false,false,false,false,false] rfl rfl (qy_ HT_.out HW_.out (by kernel_rfl)) (fun _ _ _ h => h) (Or.inl ⟨by rfl, ?_⟩) hHeld ?_ ?_
           rotate_left
           ·rintro w' ⟨s0, s1, s2, s3, s4, s5, s6, s7, s8⟩
            go_simp
            with_reducible rfl
           rotate_left
           ·simp only [Act.put, sa_, sb_, sc_, i64_w, i32_w]
            rfl
           refine pure_ (i := 5) (N := some 42) (v := ?_) (a' := ?_) #[true,true,true,true,true,true,false,false,false,false,false] rfl rfl (any_of HT_.out (by kernel_rfl)) (fun _ _ _ h => h) (Or.inl ⟨by rfl, ?_⟩) ?_ ?_
           rotate_left
           ·intro w'
            go_simp
            with_reducible rfl
           rotate_left
           ·simp only [Act.put, sa_, sb_, sc_, i64_w, i32_w]
            rfl
           refine take_ (i := 6) (N := some 43) (v := ?_) (a' := ?_) #[true,true,true,true,true,true,true,false,false,false,false] rfl rfl (qy_ HT_.out HW_.out (by kernel_rfl)) (fun _ _ _ h => h) (Or.inl ⟨by rfl, ?_⟩) hHeld ?_ ?_
           rotate_left
           ·rintro w' ⟨s0, s1, s2, s3, s4, s5, s6, s7, s8⟩
            go_simp
            with_reducible rfl
           rotate_left
           ·simp only [Act.put, sa_, sb_, sc_, i64_w, i32_w]
            rfl
           refine one_ (i := 7) (N := some 44) #[true,true,true,true,true,true,true,true,false,false,false] rfl rfl (one_of HT_.out (by kernel_rfl)) (by decide) (fun K hK => ?_)
           refine value_ (w1 := ?_) (v := ?_) (by rfl) rfl ?_ ?_
           rotate_left 2
           ·go_simp
            constructor
            ·rfl
            ·rfl
           refine hK.out _ _ ⟨(qg_ (qd_ BK108.out _) 0).trans rfl, (qg_ (qd_ BK108.out _) 1).trans rfl, (qg_ (qd_ BK108.out _) 2).trans rfl, (qg_ (qd_ BK101.out _) 0).trans rfl, (qg_ (qd_ BK101.out _) 1).trans rfl, (qg_ (qd_ BK101.out _) 2).trans rfl, (World.cell?_alloc_lt _ _ _ (wb_ _ _ (hHeld.2.2.2.2.2.2.1))).trans (hHeld.2.2.2.2.2.2.1), (World.cell?_alloc_lt _ _ _ (wb_ _ _ (hHeld.2.2.2.2.2.2.2.1))).trans (hHeld.2.2.2.2.2.2.2.1), (World.cell?_alloc_lt _ _ _ (wb_ _ _ (hHeld.2.2.2.2.2.2.2.2))).trans (hHeld.2.2.2.2.2.2.2.2)⟩ (fun hHeld => ?_)
           clear hK K
           refine norm_ (a' := ?_) ?_ ?_
           rotate_left
           ·show Act.put _ (some 44) _ = _
            simp only [Act.put, sa_, sb_, sc_, i64_w, i32_w]
            rfl
           refine last_ (i := 8) (N := some 45) #[true,true,true,true,true,true,true,true,true,false,false] rfl rfl (one_of HT_.out (by kernel_rfl)) (by decide) (fun K hK => ?_)
           refine Kd.R_append_step k40 (w0 := w) w.heap.size (by rfl) (.tmp 38) (.tmp 44) 22 40 (.agg #[(.int .i64 0), (.int .i64 0), (.string ⟨#[]⟩)]) 32 rfl Try.underlying22 info40 rfl (by decide) (by omega) u109002 x109002_2 (⟨(rd_T40 l0_2 x6_2).f0, (rd_T40 l0_2 x6_2).f1, (rd_T40 l0_2 x6_2).f2⟩ : S40) [.int .i64 ((rd_T40 l0_2 x6_2).f0), .int .i64 ((rd_T40 l0_2 x6_2).f1), .string ((rd_T40 l0_2 x6_2).f2)] (fun k_ => (w.heap.size ≤ k_)) (fun _ => False) rfl rfl ?aP (fun _ hk => hk.elim) ?aF ?aO ?aB ?aS ?aL ?_
           (case aP => exact k40_mkM _ _ _ (⟨(rd_T40 l0_2 x6_2).f0, (rd_T40 l0_2 x6_2).f1, (rd_T40 l0_2 x6_2).f2⟩ : S40))
           (case aB => exact (by repeat (first | (with_reducible first | exact HB.out | apply qc_ | apply qa_ | apply qb_ | refine qf_ ?_ GE101.out | refine qf_ ?_ GE108.out) | exact HB.out)))
           (case aF => exact (fun k_ hk => (Nat.le_trans (qj_ (by repeat (first | (with_reducible first | exact HB.out | apply qc_ | apply qa_ | apply qb_ | refine qf_ ?_ GE101.out | refine qf_ ?_ GE108.out) | exact HB.out))) hk)))
           (case aO => exact (by (with_reducible repeat (first | apply Kd.qw_ | apply Kd.qv_ | apply Kd.R_drew)); exact HO_109002.out))
           (case aS => exact (qj_ (by repeat (first | (with_reducible first | exact HB.out | apply qc_ | apply qa_ | apply qb_ | refine qf_ ?_ GE101.out | refine qf_ ?_ GE108.out) | exact HB.out))))
           (case aL => have := LMc31.out; omega)
           intro v112 w35 ho hb hg hat
           rw [← Ny111.out] at ho
           have n0_ := Aside0.mk (Kd.V_afterv (ok := (fun k_ => (P0_2_ k_ ∨ w.heap.size ≤ k_) ∧ k_ ≠ gb101 ∧ k_ ≠ gb108)) (by (with_reducible repeat (first | apply Kd.qn_ | apply Kd.qm_ | apply Kd.V_drew)); exact Kd.V_mono HO_102002.out (fun _ hk => ⟨⟨hk.1, ⟨hk.2.2.1, hk.2.2.2⟩⟩, hk.2.1⟩)) hg hat)
           have n1_ := Aside0.mk (blk_grown (g := gb101) (o := .cells #[.int .i64 a0_0, .int .i64 a0_1, .slice (some ad109) l0_2.length c0_2] 24 (0, 0)) (by (with_reducible repeat (first | refine qe_ ?_ _ | refine qh_ ?_ | refine qd_ ?_ _)); exact BK101.out) hg (Kd.R_ne HO_109002.out BK101.out (by decide)))
           have n2_ := Aside0.mk (blk_grown (g := gb108) (o := .cells #[.int .i64 a0_0, .int .i64 0, u109002] 24 (0, 0)) (by (with_reducible repeat (first | refine qe_ ?_ _ | refine qh_ ?_ | refine qd_ ?_ _)); exact BK108.out) hg (Kd.R_ne HO_109002.out BK108.out (by decide)))
           have n3_ := Aside0.mk (hb)
           have n4_ := Aside0.mk (ho)
           clear HO_102002
           clear BK101
           clear BK108
           clear HB
           clear HO_109002
           have HO_102002 := n0_
           have BK101 := n1_
           have BK108 := n2_
           have HB := n3_
           have HO113 := n4_
           clear n0_ n1_ n2_ n3_ n4_
           clear ho hb hg hat
           obtain ⟨Ao36, co36, eo36⟩ := Kd.R_slice HO113.out
           (first | subst eo36 | (injection eo36 with f1_ f2_ f3_; have f4_ := f1_.symm; have f5_ := f3_.symm; clear f1_ f2_ f3_; subst f4_; subst f5_))
           refine hK.out _ _ ?_
           clear hK K
           refine norm_ (a' := ?_) ?_ ?_
           rotate_left
           ·show Act.put _ (some 45) _ = _
            simp only [Act.put, sa_, sb_, sc_, i64_w, i32_w]
            rfl
           refine pure_ (i := 9) (N := some 46) (v := ?_) (a' := ?_) #[true,true,true,true,true,true,true,true,true,true,false] rfl rfl (any_of HT_.out (by kernel_rfl)) (fun _ _ _ h => h) (Or.inl ⟨by rfl, ?_⟩) ?_ ?_
           rotate_left
           ·intro w'
            go_simp
            with_reducible rfl
           rotate_left
           ·simp only [Act.put, sa_, sb_, sc_, i64_w, i32_w]
            rfl
           refine last_ (i := 10) (N := none) #[true,true,true,true,true,true,true,true,true,true,true] rfl rfl (one_of HT_.out (by kernel_rfl)) (by decide) (fun K hK => ?_)
           have hs37 : w35.cell? ⟨gb108, 2, none⟩ = some (u109002) := (qg_ BK108.out 2).trans rfl
           have hfs37 := qi_ BK108.out 2
           have hns37_0 := NB101_108.out
           have hms37_0 := NB108_101.out
           refine skip_ (w1 := ?_) (by rfl) rfl ?_ ?_
           rotate_left
           ·go_simp
            rfl
           refine hK.out _ _ ?_
           clear hK K
           refine done_ (done_of HT_.out (by kernel_rfl)) ?_
           try go_wp2
           go_roundg k2
           case measure => have := HJ4.out; have := HK2.out; omega
           case rel => exact ⟨(wrap64 (x6_2 + 1)), (y111), (.slice Ao36 y111.length co36), (by first | rfl | (simp; done) | (simp [*]; done)), H', ⟨by have := HJ4.out; have := HK2.out; omega⟩, ⟨by (with_reducible repeat (first | apply Kd.qn_ | apply Kd.qm_ | apply Kd.V_drew)); exact Kd.V_mono (Kd.V_far (p := ⟨gb108, 2, none⟩) (Kd.V_mono HO_102002.out (fun k_ hk => (⟨hk, hk.1.2.2⟩ : _ ∧ k_ ≠ gb108))) (fun _ hk => hk.2) (.slice Ao36 y111.length co36)) (fun _ hk => ⟨hk.1.1.1, ⟨hk.1.2, ⟨hk.1.1.2.1, hk.1.1.2.2⟩⟩⟩)⟩, ⟨by (with_reducible repeat (first | apply Kd.qw_ | apply Kd.qv_ | apply Kd.R_drew)); exact Kd.R_mono (Kd.R_far (p := ⟨gb108, 2, none⟩) (Kd.R_types HO113.out BK108.out (by decide)) (fun _ hk => hk.2) (.slice Ao36 y111.length co36)) (fun _ hk => hk.1)⟩, ⟨by (with_reducible repeat (first | refine qe_ ?_ _ | refine qh_ ?_ | refine qd_ ?_ _)); refine qx_ ?_ NB101_108.out _; (with_reducible repeat (first | refine qe_ ?_ _ | refine qh_ ?_ | refine qd_ ?_ _)); exact BK101.out⟩, ⟨by (with_reducible repeat (first | refine qe_ ?_ _ | refine qh_ ?_ | refine qd_ ?_ _)); refine qs_ (cs := #[.int .i64 a0_0, .int .i64 0, u109002]) ?_ 2 _ rfl; (with_reducible repeat (first | refine qe_ ?_ _ | refine qh_ ?_ | refine qd_ ?_ _)); exact BK108.out⟩, ⟨by repeat (first | (with_reducible first | exact HB.out | apply qc_ | apply qa_ | apply qb_ | refine qf_ ?_ GE101.out | refine qf_ ?_ GE108.out) | exact HB.out)⟩⟩
          ·rw [if_neg c31] at H
           exact absurd H (by simp)
         ·rw [if_neg c30] at H
          have c30b0 : decide (((rd_T40 l0_2 x6_2).f1) ≤ (wrap64 (a1))) = false := decide_eq_false c30
          clear c30
          have H' := Aside0.mk H
          clear H
          have hnb38 := NB101_108.out
          have hnc38 := NB108_101.out
          have hcz39_0 : wr.cell? ⟨gb101, 0, none⟩ = some (.int .i64 a0_0) := (qg_ BK101.out 0).trans rfl
          have hcz39_1 : wr.cell? ⟨gb101, 1, none⟩ = some (.int .i64 a0_1) := (qg_ BK101.out 1).trans rfl
          have hcz39_2 : wr.cell? ⟨gb101, 2, none⟩ = some (.slice A0_2 l0_2.length c0_2) := (qg_ BK101.out 2).trans rfl
          have hfz39_0 := qi_ BK101.out 0
          have hfz39_1 := qi_ BK101.out 1
          have hfz39_2 := qi_ BK101.out 2
          have p109 : 0 ≤ (x6_2 : Int) := of_decide_eq_true (by first | (with_reducible assumption) | assumption)
          have q109 : x6_2 < (l0_2.length : Int) := of_decide_eq_true (by first | (with_reducible assumption) | assumption)
          obtain ⟨ad109, e109, hx109_0, hx109_1, hx109_2⟩ := at_T40 (Kd.V_reads' HO_102002.out).2.2 x6_2 p109 q109
          cases e109
          replace p109 := eq_true p109
          replace q109 := eq_true q109
          go_wp2
          go_roundg k2
          case measure => have := HJ4.out; have := HK2.out; omega
          case rel => exact ⟨(wrap64 (x6_2 + 1)), (x109002_2), (u109002), (by first | rfl | (simp; done) | (simp [*]; done)), H', ⟨by have := HJ4.out; have := HK2.out; omega⟩, ⟨by (with_reducible repeat (first | apply Kd.qn_ | apply Kd.qm_ | apply Kd.V_drew)); exact HO_102002.out⟩, ⟨by (with_reducible repeat (first | apply Kd.qw_ | apply Kd.qv_ | apply Kd.R_drew)); exact HO_109002.out⟩, ⟨by (with_reducible repeat (first | refine qe_ ?_ _ | refine qh_ ?_ | refine qd_ ?_ _)); exact BK101.out⟩, ⟨by (with_reducible repeat (first | refine qe_ ?_ _ | refine qh_ ?_ | refine qd_ ?_ _)); exact BK108.out⟩, ⟨by repeat (first | (with_reducible first | exact HB.out | apply qc_ | apply qa_ | apply qb_ | refine qf_ ?_ GE101.out | refine qf_ ?_ GE108.out) | exact HB.out)⟩⟩
        ·rw [if_neg c29] at H
         exact absurd H (by simp)
       ·rw [if_neg c28] at H
        have c28b0 : decide (x6_2 < (l0_2.length : Int)) = false := decide_eq_false c28
        clear c28
        replace H := ob_ H
        obtain ⟨⟨t114, t115, t116⟩, A400, H⟩ := H
        replace H : ((state_Join.f k2 a0_0 0 x109002_2 t114 t115 t116).bind fun bt120 => ((ref05_Same.f k2 bt120.1 bt120.2.1 bt120.2.2 a0_0 a0_1 l0_2).bind fun t125 => (if t125 = true then (if (wrap64 ((x109002_2.length : Int) + (t116.length : Int))) = (l0_2.length : Int) then ((state_Over.f a0_0 a0_1 l0_2 a0_0 0 x109002_2).bind fun t126 => (if t126 = true then ((state_Over.f a0_0 a0_1 l0_2 t114 t115 t116).bind fun t127 => (some t127)) else (some false))) else (some false)) else (some false)))) = some r := H
        have A40 := Aside0.mk A400
        clear A400
        replace H := ob_ H
        obtain ⟨⟨t120, t121, t122⟩, A410, H⟩ := H
        replace H : ((ref05_Same.f k2 t120 t121 t122 a0_0 a0_1 l0_2).bind fun t125 => (if t125 = true then (if (wrap64 ((x109002_2.length : Int) + (t116.length : Int))) = (l0_2.length : Int) then ((state_Over.f a0_0 a0_1 l0_2 a0_0 0 x109002_2).bind fun t126 => (if t126 = true then ((state_Over.f a0_0 a0_1 l0_2 t114 t115 t116).bind fun t127 => (some t127)) else (some false))) else (some false)) else (some false))) = some r := H
        have A41 := Aside0.mk A410
        clear A410
        replace H := ob_ H
        obtain ⟨t125, A420, H⟩ := H
        replace H : (if t125 = true then (if (wrap64 ((x109002_2.length : Int) + (t116.length : Int))) = (l0_2.length : Int) then ((state_Over.f a0_0 a0_1 l0_2 a0_0 0 x109002_2).bind fun t126 => (if t126 = true then ((state_Over.f a0_0 a0_1 l0_2 t114 t115 t116).bind fun t127 => (some t127)) else (some false))) else (some false)) else (some false)) = some r := H
        have A42 := Aside0.mk A420
        clear A420
        by_cases c43 : t125 = true
        ·subst c43
         have H1 : (if (wrap64 ((x109002_2.length : Int) + (t116.length : Int))) = (l0_2.length : Int) then ((state_Over.f a0_0 a0_1 l0_2 a0_0 0 x109002_2).bind fun t126 => (if t126 = true then ((state_Over.f a0_0 a0_1 l0_2 t114 t115 t116).bind fun t127 => (some t127)) else (some false))) else (some false)) = some r := by rw [if_pos rfl] at H; exact H
         clear H
         have H := H1
         clear H1
         by_cases c44 : (wrap64 ((x109002_2.length : Int) + (t116.length : Int))) = (l0_2.length : Int)
         ·rw [if_pos c44] at H
          have c44b0 : ((wrap64 ((x109002_2.length : Int) + (t116.length : Int))) == (l0_2.length : Int)) = true := beq_iff_eq.mpr c44
          have c44b1 : ((wrap64 ((x109002_2.length : Int) + (t116.length : Int))) != (l0_2.length : Int)) = false := bne_eq_false_iff_eq.mpr c44
          clear c44
          replace H := ob_ H
          obtain ⟨t126, A450, H⟩ := H
          replace H : (if t126 = true then ((state_Over.f a0_0 a0_1 l0_2 t114 t115 t116).bind fun t127 => (some t127)) else (some false)) = some r := H
          have A45 := Aside0.mk A450
          clear A450
          by_cases c46 : t126 = true
          ·subst c46
           have H1 : ((state_Over.f a0_0 a0_1 l0_2 t114 t115 t116).bind fun t127 => (some t127)) = some r := by rw [if_pos rfl] at H; exact H
           clear H
           have H := H1
           clear H1
           replace H := ob_ H
           obtain ⟨t127, A470, H⟩ := H
           replace H : (some t127) = some r := H
           have A47 := Aside0.mk A470
           clear A470
           obtain rfl := Option.some.inj H
           have hnb48 := NB101_108.out
           have hnc48 := NB108_101.out
           have hcz49_0 : wr.cell? ⟨gb101, 0, none⟩ = some (.int .i64 a0_0) := (qg_ BK101.out 0).trans rfl
           have hcz49_1 : wr.cell? ⟨gb101, 1, none⟩ = some (.int .i64 a0_1) := (qg_ BK101.out 1).trans rfl
           have hcz49_2 : wr.cell? ⟨gb101, 2, none⟩ = some (.slice A0_2 l0_2.length c0_2) := (qg_ BK101.out 2).trans rfl
           have hfz49_0 := qi_ BK101.out 0
           have hfz49_1 := qi_ BK101.out 1
           have hfz49_2 := qi_ BK101.out 2
           try go_wp2_with (first | ((with_reducible refine qr_ (f := 25) rfl ?_); refine goesL_ (some 50) rfl rfl Try.func25 (by kernel_rfl) rfl #[.agg #[.int .i64 a0_0, .int .i64 a0_1, .slice A0_2 l0_2.length c0_2], .int .i64 (wrap64 (a1))] rfl (by (try simp only [List.map_toArray, List.map_cons, List.map_nil]); first | done | rfl | (simp only [List.length_drop, List.length_take]; rfl)) ?_; (with_reducible refine (state_Above.calls a0_0 a0_1 _ _ l0_2 (wrap64 (a1)) t114 t115 t116 _ ?side1 ?side2 A40.out).mono ?_); (case side1 => repeat (first | exact (Kd.V_reads' HO_102002.out).2.2 | (with_reducible refine Kd.qu_ ?_ _) | (with_reducible refine Kd.qt_ ?_ _) | (with_reducible refine Kd.C_drew ?_))); (case side2 => exact (Kd.V_reads' HO_102002.out).2.1); rintro e w50 ⟨v117, rfl, ho0, hb⟩; refine ⟨_, rfl, ?_⟩; have n0_ := Aside0.mk (Kd.V_elder' (by (with_reducible repeat (first | apply Kd.qn_ | apply Kd.qm_ | apply Kd.V_drew)); exact HO_102002.out) (Kd.R_base ho0) hb); have n1_ := Aside0.mk (Kd.R_elder' (by (with_reducible repeat (first | apply Kd.qw_ | apply Kd.qv_ | apply Kd.R_drew)); exact HO_109002.out) (Kd.R_base ho0) hb); have n2_ := Aside0.mk (Kd.R_lower (Kd.R_new' (Kd.R_newM (M := fun k_ => (w.heap.size ≤ k_)) ho0 (qj_ (by repeat (first | (with_reducible first | exact HB.out | apply qc_ | apply qa_ | apply qb_ | refine qf_ ?_ GE101.out | refine qf_ ?_ GE108.out) | exact HB.out))) (fun k_ h_ => h_)) (Kd.R_lt (by (with_reducible repeat (first | apply Kd.qw_ | apply Kd.qv_ | apply Kd.R_drew)); exact HO_109002.out))) (qj_ (by repeat (first | (with_reducible first | exact HB.out | apply qc_ | apply qa_ | apply qb_ | refine qf_ ?_ GE101.out | refine qf_ ?_ GE108.out) | exact HB.out)))); have n3_ := Aside0.mk (qk_ (g := gb101) (o := .cells #[.int .i64 a0_0, .int .i64 a0_1, .slice A0_2 l0_2.length c0_2] 24 (0, 0)) (by (with_reducible repeat (first | refine qe_ ?_ _ | refine qh_ ?_ | refine qd_ ?_ _)); exact BK101.out) hb); have n4_ := Aside0.mk (qk_ (g := gb108) (o := .cells #[.int .i64 a0_0, .int .i64 0, u109002] 24 (0, 0)) (by (with_reducible repeat (first | refine qe_ ?_ _ | refine qh_ ?_ | refine qd_ ?_ _)); exact BK108.out) hb); have n5_ := Aside0.mk (ql_ (by repeat (first | (with_reducible first | exact HB.out | apply qc_ | apply qa_ | apply qb_ | refine qf_ ?_ GE101.out | refine qf_ ?_ GE108.out) | exact HB.out)) hb); clear HO_102002; clear HO_109002; clear BK101; clear BK108; clear HB; have HO_102002 := n0_; have HO_109002 := n1_; have HO118 := n2_; have BK101 := n3_; have BK108 := n4_; have HB := n5_; clear n0_ n1_ n2_ n3_ n4_ n5_; (try clear hb); (try clear hb2); (try clear hk); (try clear hi); (try clear ho0)) | ((with_reducible refine qq_ (N := 7) rfl ?_); (try (refine qz_ (by rfl) ?_; dsimp only)); refine qp_ ?hg (N := 7) ?hd (cs := #[.int .i64 0, .int .i64 0, .slice none 0 0]) (t := 24) ?hr ?_; (case hd => rfl); (case hg => rfl); (case hr => first | (go_simp; done) | (go_simp; rfl)); intro gb119 hg w51 hbox hb; have n0_ := Aside0.mk (Kd.qo_ (Kd.V_elderB (by (with_reducible repeat (first | apply Kd.qn_ | apply Kd.qm_ | apply Kd.V_drew)); exact HO_102002.out) gb119 (Nat.le_of_eq hg.symm)) hb); have n1_ := Aside0.mk (Kd.R_below (by (with_reducible repeat (first | apply Kd.qw_ | apply Kd.qv_ | apply Kd.R_drew)); exact HO_109002.out) hb); have n2_ := Aside0.mk (Kd.R_below (by (with_reducible repeat (first | apply Kd.qw_ | apply Kd.qv_ | apply Kd.R_drew)); exact HO118.out) hb); have n3_ := Aside0.mk (qk_ (g := gb101) (o := .cells #[.int .i64 a0_0, .int .i64 a0_1, .slice A0_2 l0_2.length c0_2] 24 (0, 0)) (by (with_reducible repeat (first | refine qe_ ?_ _ | refine qh_ ?_ | refine qd_ ?_ _)); exact BK101.out) hb); have n4_ := Aside0.mk (qk_ (g := gb108) (o := .cells #[.int .i64 a0_0, .int .i64 0, u109002] 24 (0, 0)) (by (with_reducible repeat (first | refine qe_ ?_ _ | refine qh_ ?_ | refine qd_ ?_ _)); exact BK108.out) hb); have n5_ := Aside0.mk (ql_ (by repeat (first | (with_reducible first | exact HB.out | apply qc_ | apply qa_ | apply qb_ | refine qf_ ?_ GE101.out | refine qf_ ?_ GE108.out) | exact HB.out)) hb); have n6_ := Aside0.mk (hbox); have n7_ := Aside0.mk ((by rw [hg]; exact (qj_ (by repeat (first | (with_reducible first | exact HB.out | apply qc_ | apply qa_ | apply qb_ | refine qf_ ?_ GE101.out | refine qf_ ?_ GE108.out) | exact HB.out))) : w.heap.size ≤ gb119)); have n8_ := Aside0.mk ((by rw [hg]; exact (qj_ (by repeat (first | (with_reducible first | exact HB.out | apply qc_ | apply qa_ | apply qb_ | refine qf_ ?_ GE101.out | refine qf_ ?_ GE108.out) | exact HB.out))) : w.heap.size ≤ gb119)); have n9_ := Aside0.mk ((by rw [hg]; exact Nat.ne_of_lt (blk_lt (g := gb101) (o := .cells #[.int .i64 a0_0, .int .i64 a0_1, .slice A0_2 l0_2.length c0_2] 24 (0, 0)) (by (with_reducible repeat (first | refine qe_ ?_ _ | refine qh_ ?_ | refine qd_ ?_ _)); exact BK101.out)) : gb101 ≠ gb119)); have n10_ := Aside0.mk ((by rw [hg]; exact Nat.ne_of_gt (blk_lt (g := gb101) (o := .cells #[.int .i64 a0_0, .int .i64 a0_1, .slice A0_2 l0_2.length c0_2] 24 (0, 0)) (by (with_reducible repeat (first | refine qe_ ?_ _ | refine qh_ ?_ | refine qd_ ?_ _)); exact BK101.out)) : gb119 ≠ gb101)); have n11_ := Aside0.mk ((by rw [hg]; exact Nat.ne_of_lt (blk_lt (g := gb108) (o := .cells #[.int .i64 a0_0, .int .i64 0, u109002] 24 (0, 0)) (by (with_reducible repeat (first | refine qe_ ?_ _ | refine qh_ ?_ | refine qd_ ?_ _)); exact BK108.out)) : gb108 ≠ gb119)); have n12_ := Aside0.mk ((by rw [hg]; exact Nat.ne_of_gt (blk_lt (g := gb108) (o := .cells #[.int .i64 a0_0, .int .i64 0, u109002] 24 (0, 0)) (by (with_reducible repeat (first | refine qe_ ?_ _ | refine qh_ ?_ | refine qd_ ?_ _)); exact BK108.out)) : gb119 ≠ gb108)); clear HO_102002; clear HO_109002; clear HO118; clear BK101; clear BK108; clear HB; have HO_102002 := n0_; have HO_109002 := n1_; have HO118 := n2_; have BK101 := n3_; have BK108 := n4_; have HB := n5_; have BK119 := n6_; have GW119 := n7_; have GE119 := n8_; have NB101_119 := n9_; have NB119_101 := n10_; have NB108_119 := n11_; have NB119_108 := n12_; clear n0_ n1_ n2_ n3_ n4_ n5_ n6_ n7_ n8_ n9_ n10_ n11_ n12_; clear hb hbox hg; have hnb52 := NB119_101.out; have hnc52 := NB101_119.out; have hnb53 := NB119_108.out; have hnc53 := NB108_119.out; have hcz54_0 : w51.cell? ⟨gb119, 0, none⟩ = some (.int .i64 0) := (qg_ BK119.out 0).trans rfl; have hcz54_1 : w51.cell? ⟨gb119, 1, none⟩ = some (.int .i64 0) := (qg_ BK119.out 1).trans rfl; have hcz54_2 : w51.cell? ⟨gb119, 2, none⟩ = some (.slice none 0 0) := (qg_ BK119.out 2).trans rfl; have hfz54_0 := qi_ BK119.out 0; have hfz54_1 := qi_ BK119.out 1; have hfz54_2 := qi_ BK119.out 2; obtain ⟨Ao55, co55, eo55⟩ := Kd.R_slice HO118.out; subst eo55))
           have n0_ : Aside0 (Kd.V k40 40 (((w51.setCell ⟨gb119, 0, none⟩ (.int .i64 t114)).setCell ⟨gb119, 1, none⟩ (.int .i64 t115)).setCell ⟨gb119, 2, none⟩ (.slice Ao55 t116.length co55)) w.heap.size (fun k_ => (P0_2_ k_ ∨ w.heap.size ≤ k_) ∧ some k_ ≠ (u109002 : Value).ownBlock ∧ some k_ ≠ (.slice Ao55 t116.length co55 : Value).ownBlock ∧ k_ ≠ gb101 ∧ k_ ≠ gb108 ∧ k_ ≠ gb119) (.slice A0_2 l0_2.length c0_2) l0_2) := ⟨by (with_reducible repeat (first | apply Kd.qn_ | apply Kd.qm_ | apply Kd.V_drew)); exact Kd.V_mono (Kd.V_far (p := ⟨gb119, 2, none⟩) (Kd.V_far (p := ⟨gb119, 1, none⟩) (Kd.V_far (p := ⟨gb119, 0, none⟩) (Kd.V_mono HO_102002.out (fun k_ hk => (⟨hk, hk.2⟩ : _ ∧ k_ ≠ gb119))) (fun _ hk => hk.2) (.int .i64 t114)) (fun _ hk => hk.2) (.int .i64 t115)) (fun _ hk => hk.2) (.slice Ao55 t116.length co55)) (fun _ hk => ⟨hk.1.1.1.1, ⟨hk.1.1.1.2.1, ⟨hk.1.1.2, ⟨hk.1.1.1.2.2.1, ⟨hk.1.1.1.2.2.2, hk.1.2⟩⟩⟩⟩⟩)⟩
           have n1_ : Aside0 (Kd.R k40 40 (((w51.setCell ⟨gb119, 0, none⟩ (.int .i64 t114)).setCell ⟨gb119, 1, none⟩ (.int .i64 t115)).setCell ⟨gb119, 2, none⟩ (.slice Ao55 t116.length co55)) w.heap.size (fun k_ => (w.heap.size ≤ k_) ∧ some k_ ≠ (.slice Ao55 t116.length co55 : Value).ownBlock) u109002 x109002_2) := ⟨by (with_reducible repeat (first | apply Kd.qw_ | apply Kd.qv_ | apply Kd.R_drew)); exact Kd.R_mono (Kd.R_far (p := ⟨gb119, 2, none⟩) (Kd.R_far (p := ⟨gb119, 1, none⟩) (Kd.R_far (p := ⟨gb119, 0, none⟩) (Kd.R_types HO_109002.out BK119.out (by decide)) (fun _ hk => hk.2) (.int .i64 t114)) (fun _ hk => hk.2) (.int .i64 t115)) (fun _ hk => hk.2) (.slice Ao55 t116.length co55)) (fun _ hk => ⟨hk.1.1, hk.1.2⟩)⟩
           have n2_ : Aside0 (Kd.R k40 40 (((w51.setCell ⟨gb119, 0, none⟩ (.int .i64 t114)).setCell ⟨gb119, 1, none⟩ (.int .i64 t115)).setCell ⟨gb119, 2, none⟩ (.slice Ao55 t116.length co55)) w.heap.size (fun k_ => (w.heap.size ≤ k_) ∧ some k_ ≠ (u109002 : Value).ownBlock) (.slice Ao55 t116.length co55) t116) := ⟨by (with_reducible repeat (first | apply Kd.qw_ | apply Kd.qv_ | apply Kd.R_drew)); exact Kd.R_mono (Kd.R_far (p := ⟨gb119, 2, none⟩) (Kd.R_far (p := ⟨gb119, 1, none⟩) (Kd.R_far (p := ⟨gb119, 0, none⟩) (Kd.R_types HO118.out BK119.out (by decide)) (fun _ hk => hk.2) (.int .i64 t114)) (fun _ hk => hk.2) (.int .i64 t115)) (fun _ hk => hk.2) (.slice Ao55 t116.length co55)) (fun _ hk => ⟨hk.1.1.1, hk.1.2⟩)⟩
           have n3_ : Aside0 ((((w51.setCell ⟨gb119, 0, none⟩ (.int .i64 t114)).setCell ⟨gb119, 1, none⟩ (.int .i64 t115)).setCell ⟨gb119, 2, none⟩ (.slice Ao55 t116.length co55)).heap[gb101]? = some (.cells #[.int .i64 a0_0, .int .i64 a0_1, .slice A0_2 l0_2.length c0_2] 24 (0, 0))) := ⟨by (with_reducible repeat (first | refine qe_ ?_ _ | refine qh_ ?_ | refine qd_ ?_ _)); refine qx_ ?_ NB101_119.out _; (with_reducible repeat (first | refine qe_ ?_ _ | refine qh_ ?_ | refine qd_ ?_ _)); refine qx_ ?_ NB101_119.out _; (with_reducible repeat (first | refine qe_ ?_ _ | refine qh_ ?_ | refine qd_ ?_ _)); refine qx_ ?_ NB101_119.out _; (with_reducible repeat (first | refine qe_ ?_ _ | refine qh_ ?_ | refine qd_ ?_ _)); exact BK101.out⟩
           have n4_ : Aside0 ((((w51.setCell ⟨gb119, 0, none⟩ (.int .i64 t114)).setCell ⟨gb119, 1, none⟩ (.int .i64 t115)).setCell ⟨gb119, 2, none⟩ (.slice Ao55 t116.length co55)).heap[gb108]? = some (.cells #[.int .i64 a0_0, .int .i64 0, u109002] 24 (0, 0))) := ⟨by (with_reducible repeat (first | refine qe_ ?_ _ | refine qh_ ?_ | refine qd_ ?_ _)); refine qx_ ?_ NB108_119.out _; (with_reducible repeat (first | refine qe_ ?_ _ | refine qh_ ?_ | refine qd_ ?_ _)); refine qx_ ?_ NB108_119.out _; (with_reducible repeat (first | refine qe_ ?_ _ | refine qh_ ?_ | refine qd_ ?_ _)); refine qx_ ?_ NB108_119.out _; (with_reducible repeat (first | refine qe_ ?_ _ | refine qh_ ?_ | refine qd_ ?_ _)); exact BK108.out⟩
           have n5_ : Aside0 ((((w51.setCell ⟨gb119, 0, none⟩ (.int .i64 t114)).setCell ⟨gb119, 1, none⟩ (.int .i64 t115)).setCell ⟨gb119, 2, none⟩ (.slice Ao55 t116.length co55)).heap[gb119]? = some (.cells #[.int .i64 t114, .int .i64 t115, .slice Ao55 t116.length co55] 24 (0, 0))) := ⟨by (with_reducible repeat (first | refine qe_ ?_ _ | refine qh_ ?_ | refine qd_ ?_ _)); refine qs_ (cs := #[.int .i64 t114, .int .i64 t115, .slice none 0 0]) ?_ 2 _ rfl; (with_reducible repeat (first | refine qe_ ?_ _ | refine qh_ ?_ | refine qd_ ?_ _)); refine qs_ (cs := #[.int .i64 t114, .int .i64 0, .slice none 0 0]) ?_ 1 _ rfl; (with_reducible repeat (first | refine qe_ ?_ _ | refine qh_ ?_ | refine qd_ ?_ _)); refine qs_ (cs := #[.int .i64 0, .int .i64 0, .slice none 0 0]) ?_ 0 _ rfl; (with_reducible repeat (first | refine qe_ ?_ _ | refine qh_ ?_ | refine qd_ ?_ _)); exact BK119.out⟩
           have n6_ : Aside0 (Below w.heap.size w (((w51.setCell ⟨gb119, 0, none⟩ (.int .i64 t114)).setCell ⟨gb119, 1, none⟩ (.int .i64 t115)).setCell ⟨gb119, 2, none⟩ (.slice Ao55 t116.length co55))) := ⟨by repeat (first | (with_reducible first | exact HB.out | apply qc_ | apply qa_ | apply qb_ | refine qf_ ?_ GE101.out | refine qf_ ?_ GE108.out | refine qf_ ?_ GE119.out) | exact HB.out)⟩
           (try clear HO_102002)
           (try clear HO_109002)
           (try clear HO118)
           (try clear BK101)
           (try clear BK108)
           (try clear BK119)
           (try clear HB)
           generalize (((w51.setCell ⟨gb119, 0, none⟩ (.int .i64 t114)).setCell ⟨gb119, 1, none⟩ (.int .i64 t115)).setCell ⟨gb119, 2, none⟩ (.slice Ao55 t116.length co55)) = w56 at n0_ n1_ n2_ n3_ n4_ n5_ n6_ ⊢
           have HO_102002 := n0_
           have HO_109002 := n1_
           have HO118 := n2_
           have BK101 := n3_
           have BK108 := n4_
           have BK119 := n5_
           have HB := n6_
           clear n0_ n1_ n2_ n3_ n4_ n5_ n6_
           have n0_ := Aside0.mk (Kd.V_drew HO_102002.out)
           have n1_ := Aside0.mk (Kd.R_drew HO_109002.out)
           have n2_ := Aside0.mk (Kd.R_drew HO118.out)
           have n3_ := Aside0.mk (qh_ BK101.out)
           have n4_ := Aside0.mk (qh_ BK108.out)
           have n5_ := Aside0.mk (qh_ BK119.out)
           have n6_ := Aside0.mk (qb_ HB.out)
           clear HO_102002
           clear HO_109002
           clear HO118
           clear BK101
           clear BK108
           clear BK119
           clear HB
           have HO_102002 := n0_
           have HO_109002 := n1_
           have HO118 := n2_
           have BK101 := n3_
           have BK108 := n4_
           have BK119 := n5_
           have HB := n6_
           clear n0_ n1_ n2_ n3_ n4_ n5_ n6_
           obtain ⟨Ao58, co58, eo58⟩ := Kd.R_slice HO_109002.out
           (first | subst eo58 | (injection eo58 with f1_ f2_ f3_; have f4_ := f1_.symm; have f5_ := f3_.symm; clear f1_ f2_ f3_; subst f4_; subst f5_))
           refine start_ (n := 29) (S := fun w' => w'.cell? ⟨gb108, 0, none⟩ = some (.int .i64 a0_0) ∧ w'.cell? ⟨gb108, 1, none⟩ = some (.int .i64 0) ∧ w'.cell? ⟨gb108, 2, none⟩ = some (.slice Ao58 x109002_2.length co58) ∧ w'.cell? ⟨gb119, 0, none⟩ = some (.int .i64 t114) ∧ w'.cell? ⟨gb119, 1, none⟩ = some (.int .i64 t115) ∧ w'.cell? ⟨gb119, 2, none⟩ = some (.slice Ao55 t116.length co55) ∧ w'.cell? ⟨gb101, 0, none⟩ = some (.int .i64 a0_0) ∧ w'.cell? ⟨gb101, 1, none⟩ = some (.int .i64 a0_1) ∧ w'.cell? ⟨gb101, 2, none⟩ = some (.slice A0_2 l0_2.length c0_2)) (ds := []) #[false,false,false,false,false,false,false,false,false,false,false,false,false,false,false,false,false,false,false,false,false,false,false,false,false,false,false,false,false] (by kernel_rfl) rfl rfl ⟨(qg_ BK108.out 0).trans rfl, (qg_ BK108.out 1).trans rfl, (qg_ BK108.out 2).trans rfl, (qg_ BK119.out 0).trans rfl, (qg_ BK119.out 1).trans rfl, (qg_ BK119.out 2).trans rfl, (qg_ BK101.out 0).trans rfl, (qg_ BK101.out 1).trans rfl, (qg_ BK101.out 2).trans rfl⟩ (fun hHeld => ?_); refine with_tabW law05_StateParts.tab12 law05_StateParts.bits12 (fun HT_ HW_ => ?_)
           generalize w56.drew = w57 at HO_102002 HO_109002 HO118 BK101 BK108 BK119 HB hHeld ⊢
           refine take_ (i := 0) (N := some 51) (v := ?_) (a' := ?_) #[true,false,false,false,false,false,false,false,false,false,false,false,false,false,false,false,false,false,false,false,false,false,false,false,false,false,false,false,false] rfl rfl (qy_ HT_.out HW_.out (by kernel_rfl)) (fun _ _ _ h => h) (Or.inl ⟨by rfl, ?_⟩) hHeld ?_ ?_
           rotate_left
           ·rintro w' ⟨s0, s1, s2, s3, s4, s5, s6, s7, s8⟩
            go_simp
            with_reducible rfl
           rotate_left
           ·simp only [Act.put, sa_, sb_, sc_, i64_w, i32_w]
            rfl
           refine take_ (i := 1) (N := some 52) (v := ?_) (a' := ?_) #[true,true,false,false,false,false,false,false,false,false,false,false,false,false,false,false,false,false,false,false,false,false,false,false,false,false,false,false,false] rfl rfl (qy_ HT_.out HW_.out (by kernel_rfl)) (fun _ _ _ h => h) (Or.inl ⟨by rfl, ?_⟩) hHeld ?_ ?_
           rotate_left
           ·rintro w' ⟨s0, s1, s2, s3, s4, s5, s6, s7, s8⟩
            go_simp
            with_reducible rfl
           rotate_left
           ·simp only [Act.put, sa_, sb_, sc_, i64_w, i32_w]
            rfl
           refine take_ (i := 3) (N := some 54) (v := ?_) (a' := ?_) #[true,true,false,true,false,false,false,false,false,false,false,false,false,false,false,false,false,false,false,false,false,false,false,false,false,false,false,false,false] rfl rfl (qy_ HT_.out HW_.out (by kernel_rfl)) (fun _ _ _ h => h) (Or.inl ⟨by rfl, ?_⟩) hHeld ?_ ?_
           rotate_left
           ·rintro w' ⟨s0, s1, s2, s3, s4, s5, s6, s7, s8⟩
            go_simp
            with_reducible rfl
           rotate_left
           ·simp only [Act.put, sa_, sb_, sc_, i64_w, i32_w]
            rfl
           refine one_ (i := 2) (N := some 53) #[true,true,true,true,false,false,false,false,false,false,false,false,false,false,false,false,false,false,false,false,false,false,false,false,false,false,false,false,false] rfl rfl (one_of HT_.out (by kernel_rfl)) (by decide) (fun K hK => ?_)
           refine goes_ Try.func18 (by kernel_rfl) rfl #[.agg #[.int .i64 a0_0, .int .i64 0, .slice Ao58 x109002_2.length co58], .agg #[.int .i64 t114, .int .i64 t115, .slice Ao55 t116.length co55]] (by rfl) rfl rfl (by (try simp only [List.map_toArray, List.map_cons, List.map_nil]); first | done | rfl | (simp only [List.length_drop, List.length_take]; rfl)) ?_
           with_reducible refine (state_Join.calls k2 a0_0 0 _ _ x109002_2 t114 t115 _ _ t116 t120 t121 t122 _ ?side1 ?side2 ?side3 ?side4 A41.out).mono ?_
           (case side1 => repeat (first | exact (Kd.R_reads' HO_109002.out).2.2 | (with_reducible refine Kd.qu_ ?_ _) | (with_reducible refine Kd.qt_ ?_ _) | (with_reducible refine Kd.C_drew ?_)))
           (case side2 => exact (Kd.R_reads' HO_109002.out).2.1)
           (case side3 => repeat (first | exact (Kd.R_reads' HO118.out).2.2 | (with_reducible refine Kd.qu_ ?_ _) | (with_reducible refine Kd.qt_ ?_ _) | (with_reducible refine Kd.C_drew ?_)))
           (case side4 => exact (Kd.R_reads' HO118.out).2.1)
           rintro e w59 ⟨v123, rfl, ho0, hb⟩
           refine ⟨_, rfl, ?_⟩
           have n0_ := Aside0.mk (Kd.V_elder' (by (with_reducible repeat (first | apply Kd.qn_ | apply Kd.qm_ | apply Kd.V_drew)); exact HO_102002.out) (Kd.R_base ho0) hb)
           have n1_ := Aside0.mk (Kd.R_elder' (by (with_reducible repeat (first | apply Kd.qw_ | apply Kd.qv_ | apply Kd.R_drew)); exact HO_109002.out) (Kd.R_base ho0) hb)
           have n2_ := Aside0.mk (Kd.R_elder' (by (with_reducible repeat (first | apply Kd.qw_ | apply Kd.qv_ | apply Kd.R_drew)); exact HO118.out) (Kd.R_base ho0) hb)
           have n3_ := Aside0.mk (Kd.R_lower (Kd.R_new' (Kd.R_new' (Kd.R_newM (M := fun k_ => (w.heap.size ≤ k_)) ho0 (qj_ (by repeat (first | (with_reducible first | exact HB.out | apply qc_ | apply qa_ | apply qb_ | refine qf_ ?_ GE101.out | refine qf_ ?_ GE108.out | refine qf_ ?_ GE119.out) | exact HB.out))) (fun k_ h_ => h_)) (Kd.R_lt (by (with_reducible repeat (first | apply Kd.qw_ | apply Kd.qv_ | apply Kd.R_drew)); exact HO_109002.out))) (Kd.R_lt (by (with_reducible repeat (first | apply Kd.qw_ | apply Kd.qv_ | apply Kd.R_drew)); exact HO118.out))) (qj_ (by repeat (first | (with_reducible first | exact HB.out | apply qc_ | apply qa_ | apply qb_ | refine qf_ ?_ GE101.out | refine qf_ ?_ GE108.out | refine qf_ ?_ GE119.out) | exact HB.out))))
           have n4_ := Aside0.mk (qk_ (g := gb101) (o := .cells #[.int .i64 a0_0, .int .i64 a0_1, .slice A0_2 l0_2.length c0_2] 24 (0, 0)) (by (with_reducible repeat (first | refine qe_ ?_ _ | refine qh_ ?_ | refine qd_ ?_ _)); exact BK101.out) hb)
           have n5_ := Aside0.mk (qk_ (g := gb108) (o := .cells #[.int .i64 a0_0, .int .i64 0, .slice Ao58 x109002_2.length co58] 24 (0, 0)) (by (with_reducible repeat (first | refine qe_ ?_ _ | refine qh_ ?_ | refine qd_ ?_ _)); exact BK108.out) hb)
           have n6_ := Aside0.mk (qk_ (g := gb119) (o := .cells #[.int .i64 t114, .int .i64 t115, .slice Ao55 t116.length co55] 24 (0, 0)) (by (with_reducible repeat (first | refine qe_ ?_ _ | refine qh_ ?_ | refine qd_ ?_ _)); exact BK119.out) hb)
           have n7_ := Aside0.mk (ql_ (by repeat (first | (with_reducible first | exact HB.out | apply qc_ | apply qa_ | apply qb_ | refine qf_ ?_ GE101.out | refine qf_ ?_ GE108.out | refine qf_ ?_ GE119.out) | exact HB.out)) hb)
           clear HO_102002
           clear HO_109002
           clear HO118
           clear BK101
           clear BK108
           clear BK119
           clear HB
           have HO_102002 := n0_
           have HO_109002 := n1_
           have HO118 := n2_
           have HO124 := n3_
           have BK101 := n4_
           have BK108 := n5_
           have BK119 := n6_
           have HB := n7_
           clear n0_ n1_ n2_ n3_ n4_ n5_ n6_ n7_
           (try clear hb)
           (try clear hb2)
           (try clear hk)
           (try clear hi)
           (try clear ho0)
           obtain ⟨Ao60, co60, eo60⟩ := Kd.R_slice HO124.out
           (first | subst eo60 | (injection eo60 with f1_ f2_ f3_; have f4_ := f1_.symm; have f5_ := f3_.symm; clear f1_ f2_ f3_; subst f4_; subst f5_))
           refine hK.out _ _ ⟨(qg_ BK108.out 0).trans rfl, (qg_ BK108.out 1).trans rfl, (qg_ BK108.out 2).trans rfl, (qg_ BK119.out 0).trans rfl, (qg_ BK119.out 1).trans rfl, (qg_ BK119.out 2).trans rfl, (qg_ BK101.out 0).trans rfl, (qg_ BK101.out 1).trans rfl, (qg_ BK101.out 2).trans rfl⟩ (fun hHeld => ?_)
           clear hK K
           refine norm_ (a' := ?_) ?_ ?_
           rotate_left
           ·show Act.put _ (some 53) _ = _
            simp only [Act.put, sa_, sb_, sc_, i64_w, i32_w]
            rfl
           refine one_ (i := 4) (N := some 55) #[true,true,true,true,true,false,false,false,false,false,false,false,false,false,false,false,false,false,false,false,false,false,false,false,false,false,false,false,false] rfl rfl (one_of HT_.out (by kernel_rfl)) (by decide) (fun K hK => ?_)
           refine goes_ Try.func16 (by kernel_rfl) rfl #[.agg #[.int .i64 t120, .int .i64 t121, .slice Ao60 t122.length co60], .agg #[.int .i64 a0_0, .int .i64 a0_1, .slice A0_2 l0_2.length c0_2]] (by rfl) rfl rfl (by (try simp only [List.map_toArray, List.map_cons, List.map_nil]); first | done | rfl | (simp only [List.length_drop, List.length_take]; rfl)) ?_
           with_reducible refine (ref05_Same.calls k2 t120 t121 _ _ t122 a0_0 a0_1 _ _ l0_2 true _ ?side1 ?side2 ?side3 ?side4 A42.out).mono ?_
           (case side1 => repeat (first | exact (Kd.R_reads' HO124.out).2.2 | (with_reducible refine Kd.qu_ ?_ _) | (with_reducible refine Kd.qt_ ?_ _) | (with_reducible refine Kd.C_drew ?_)))
           (case side2 => exact (Kd.R_reads' HO124.out).2.1)
           (case side3 => repeat (first | exact (Kd.V_reads' HO_102002.out).2.2 | (with_reducible refine Kd.qu_ ?_ _) | (with_reducible refine Kd.qt_ ?_ _) | (with_reducible refine Kd.C_drew ?_)))
           (case side4 => exact (Kd.V_reads' HO_102002.out).2.1)
           rintro e w61 ⟨rfl, hb⟩
           refine ⟨_, rfl, ?_⟩
           have n0_ := Aside0.mk (Kd.qo_ (by (with_reducible repeat (first | apply Kd.qn_ | apply Kd.qm_ | apply Kd.V_drew)); exact HO_102002.out) hb)
           have n1_ := Aside0.mk (Kd.R_below (by (with_reducible repeat (first | apply Kd.qw_ | apply Kd.qv_ | apply Kd.R_drew)); exact HO_109002.out) hb)
           have n2_ := Aside0.mk (Kd.R_below (by (with_reducible repeat (first | apply Kd.qw_ | apply Kd.qv_ | apply Kd.R_drew)); exact HO118.out) hb)
           have n3_ := Aside0.mk (Kd.R_below (by (with_reducible repeat (first | apply Kd.qw_ | apply Kd.qv_ | apply Kd.R_drew)); exact HO124.out) hb)
           have n4_ := Aside0.mk (qk_ (g := gb101) (o := .cells #[.int .i64 a0_0, .int .i64 a0_1, .slice A0_2 l0_2.length c0_2] 24 (0, 0)) (by (with_reducible repeat (first | refine qe_ ?_ _ | refine qh_ ?_ | refine qd_ ?_ _)); exact BK101.out) hb)
           have n5_ := Aside0.mk (qk_ (g := gb108) (o := .cells #[.int .i64 a0_0, .int .i64 0, .slice Ao58 x109002_2.length co58] 24 (0, 0)) (by (with_reducible repeat (first | refine qe_ ?_ _ | refine qh_ ?_ | refine qd_ ?_ _)); exact BK108.out) hb)
           have n6_ := Aside0.mk (qk_ (g := gb119) (o := .cells #[.int .i64 t114, .int .i64 t115, .slice Ao55 t116.length co55] 24 (0, 0)) (by (with_reducible repeat (first | refine qe_ ?_ _ | refine qh_ ?_ | refine qd_ ?_ _)); exact BK119.out) hb)
           have n7_ := Aside0.mk (ql_ (by repeat (first | (with_reducible first | exact HB.out | apply qc_ | apply qa_ | apply qb_ | refine qf_ ?_ GE101.out | refine qf_ ?_ GE108.out | refine qf_ ?_ GE119.out) | exact HB.out)) hb)
           clear HO_102002
           clear HO_109002
           clear HO118
           clear HO124
           clear BK101
           clear BK108
           clear BK119
           clear HB
           have HO_102002 := n0_
           have HO_109002 := n1_
           have HO118 := n2_
           have HO124 := n3_
           have BK101 := n4_
           have BK108 := n5_
           have BK119 := n6_
           have HB := n7_
           clear n0_ n1_ n2_ n3_ n4_ n5_ n6_ n7_
           (try clear hb)
           (try clear hb2)
           (try clear hk)
           (try clear hi)
           refine hK.out _ _ ⟨(qg_ BK108.out 0).trans rfl, (qg_ BK108.out 1).trans rfl, (qg_ BK108.out 2).trans rfl, (qg_ BK119.out 0).trans rfl, (qg_ BK119.out 1).trans rfl, (qg_ BK119.out 2).trans rfl, (qg_ BK101.out 0).trans rfl, (qg_ BK101.out 1).trans rfl, (qg_ BK101.out 2).trans rfl⟩ (fun hHeld => ?_)
           clear hK K
           refine norm_ (a' := ?_) ?_ ?_
           rotate_left
           ·show Act.put _ (some 55) _ = _
            simp only [Act.put, sa_, sb_, sc_, i64_w, i32_w]
            rfl
           refine pure_ (i := 5) (N := some 56) (v := ?_) (a' := ?_) #[true,true,true,true,true,true,false,false,false,false,false,false,false,false,false,false,false,false,false,false,false,false,false,false,false,false,false,false,false] rfl rfl (any_of HT_.out (by kernel_rfl)) (fun _ _ _ h => h) (Or.inl ⟨by rfl, ?_⟩) ?_ ?_
           rotate_left
           ·intro w'
            go_simp
            with_reducible rfl
           rotate_left
           ·simp only [Act.put, sa_, sb_, sc_, i64_w, i32_w]
            rfl
           refine pure_ (i := 6) (N := some 57) (v := ?_) (a' := ?_) #[true,true,true,true,true,true,true,false,false,false,false,false,false,false,false,false,false,false,false,false,false,false,false,false,false,false,false,false,false] rfl rfl (any_of HT_.out (by kernel_rfl)) (fun _ _ _ h => h) (Or.inl ⟨by rfl, ?_⟩) ?_ ?_
           rotate_left
           ·intro w'
            go_simp
            with_reducible rfl
           rotate_left
           ·simp only [Act.put, sa_, sb_, sc_, i64_w, i32_w]
            rfl
           refine pure_ (i := 9) (N := some 60) (v := ?_) (a' := ?_) #[true,true,true,true,true,true,true,false,false,true,false,false,false,false,false,false,false,false,false,false,false,false,false,false,false,false,false,false,false] rfl rfl (any_of HT_.out (by kernel_rfl)) (fun _ _ _ h => h) (Or.inl ⟨by rfl, ?_⟩) ?_ ?_
           rotate_left
           ·intro w'
            go_simp
            with_reducible rfl
           rotate_left
           ·simp only [Act.put, sa_, sb_, sc_, i64_w, i32_w]
            rfl
           refine pure_ (i := 13) (N := some 64) (v := ?_) (a' := ?_) #[true,true,true,true,true,true,true,false,false,true,false,false,false,true,false,false,false,false,false,false,false,false,false,false,false,false,false,false,false] rfl rfl (any_of HT_.out (by kernel_rfl)) (fun _ _ _ h => h) (Or.inl ⟨by rfl, ?_⟩) ?_ ?_
           rotate_left
           ·intro w'
            go_simp
            with_reducible rfl
           rotate_left
           ·simp only [Act.put, sa_, sb_, sc_, i64_w, i32_w]
            rfl
           refine take_ (i := 7) (N := some 58) (v := ?_) (a' := ?_) #[true,true,true,true,true,true,true,true,false,true,false,false,false,true,false,false,false,false,false,false,false,false,false,false,false,false,false,false,false] rfl rfl (qy_ HT_.out HW_.out (by kernel_rfl)) (fun _ _ _ h => h) (Or.inl ⟨by rfl, ?_⟩) hHeld ?_ ?_
           rotate_left
           ·rintro w' ⟨s0, s1, s2, s3, s4, s5, s6, s7, s8⟩
            go_simp
            with_reducible rfl
           rotate_left
           ·simp only [Act.put, sa_, sb_, sc_, i64_w, i32_w]
            rfl
           refine pure_ (i := 8) (N := some 59) (v := ?_) (a' := ?_) #[true,true,true,true,true,true,true,true,true,true,false,false,false,true,false,false,false,false,false,false,false,false,false,false,false,false,false,false,false] rfl rfl (any_of HT_.out (by kernel_rfl)) (fun _ _ _ h => h) (Or.inl ⟨by rfl, ?_⟩) ?_ ?_
           rotate_left
           ·intro w'
            go_simp
            with_reducible rfl
           rotate_left
           ·simp only [Act.put, sa_, sb_, sc_, i64_w, i32_w]
            rfl
           refine take_ (i := 10) (N := some 61) (v := ?_) (a' := ?_) #[true,true,true,true,true,true,true,true,true,true,true,false,false,true,false,false,false,false,false,false,false,false,false,false,false,false,false,false,false] rfl rfl (qy_ HT_.out HW_.out (by kernel_rfl)) (fun _ _ _ h => h) (Or.inl ⟨by rfl, ?_⟩) hHeld ?_ ?_
           rotate_left
           ·rintro w' ⟨s0, s1, s2, s3, s4, s5, s6, s7, s8⟩
            go_simp
            with_reducible rfl
           rotate_left
           ·simp only [Act.put, sa_, sb_, sc_, i64_w, i32_w]
            rfl
           refine pure_ (i := 11) (N := some 62) (v := ?_) (a' := ?_) #[true,true,true,true,true,true,true,true,true,true,true,true,false,true,false,false,false,false,false,false,false,false,false,false,false,false,false,false,false] rfl rfl (any_of HT_.out (by kernel_rfl)) (fun _ _ _ h => h) (Or.inl ⟨by rfl, ?_⟩) ?_ ?_
           rotate_left
           ·intro w'
            go_simp
            with_reducible rfl
           rotate_left
           ·simp only [Act.put, sa_, sb_, sc_, i64_w, i32_w]
            rfl
           refine pure_ (i := 12) (N := some 63) (v := ?_) (a' := ?_) #[true,true,true,true,true,true,true,true,true,true,true,true,true,true,false,false,false,false,false,false,false,false,false,false,false,false,false,false,false] rfl rfl (any_of HT_.out (by kernel_rfl)) (fun _ _ _ h => h) (Or.inl ⟨by rfl, ?_⟩) ?_ ?_
           rotate_left
           ·intro w'
            go_simp
            with_reducible rfl
           rotate_left
           ·simp only [Act.put, sa_, sb_, sc_, i64_w, i32_w]
            rfl
           refine take_ (i := 14) (N := some 65) (v := ?_) (a' := ?_) #[true,true,true,true,true,true,true,true,true,true,true,true,true,true,true,false,false,false,false,false,false,false,false,false,false,false,false,false,false] rfl rfl (qy_ HT_.out HW_.out (by kernel_rfl)) (fun _ _ _ h => h) (Or.inl ⟨by rfl, ?_⟩) hHeld ?_ ?_
           rotate_left
           ·rintro w' ⟨s0, s1, s2, s3, s4, s5, s6, s7, s8⟩
            go_simp
            with_reducible rfl
           rotate_left
           ·simp only [Act.put, sa_, sb_, sc_, i64_w, i32_w]
            rfl
           refine pure_ (i := 15) (N := some 66) (v := ?_) (a' := ?_) #[true,true,true,true,true,true,true,true,true,true,true,true,true,true,true,true,false,false,false,false,false,false,false,false,false,false,false,false,false] rfl rfl (any_of HT_.out (by kernel_rfl)) (fun _ _ _ h => h) (Or.inl ⟨by rfl, ?_⟩) ?_ ?_
           rotate_left
           ·intro w'
            go_simp
            with_reducible rfl
           rotate_left
           ·simp only [Act.put, sa_, sb_, sc_, i64_w, i32_w]
            rfl
           refine pure_ (i := 16) (N := some 67) (v := ?_) (a' := ?_) #[true,true,true,true,true,true,true,true,true,true,true,true,true,true,true,true,true,false,false,false,false,false,false,false,false,false,false,false,false] rfl rfl (any_of HT_.out (by kernel_rfl)) (fun _ _ _ h => h) (Or.inl ⟨by rfl, ?_⟩) ?_ ?_
           rotate_left
           ·intro w'
            go_simp
            with_reducible rfl
           rotate_left
           ·simp only [Act.put, sa_, sb_, sc_, i64_w, i32_w]
            rfl
           refine pure_ (i := 17) (N := some 68) (v := ?_) (a' := ?_) #[true,true,true,true,true,true,true,true,true,true,true,true,true,true,true,true,true,true,false,false,false,false,false,false,false,false,false,false,false] rfl rfl (any_of HT_.out (by kernel_rfl)) (fun _ _ _ h => h) (Or.inl ⟨by rfl, ?_⟩) ?_ ?_
           rotate_left
           ·intro w'
            go_simp
            with_reducible rfl
           rotate_left
           ·simp only [Act.put, sa_, sb_, sc_, i64_w, i32_w]
            rfl
           refine pure_ (i := 18) (N := some 69) (v := ?_) (a' := ?_) #[true,true,true,true,true,true,true,true,true,true,true,true,true,true,true,true,true,true,true,false,false,false,false,false,false,false,false,false,false] rfl rfl (any_of HT_.out (by kernel_rfl)) (fun _ _ _ h => h) (Or.inl ⟨by rfl, ?_⟩) ?_ ?_
           rotate_left
           ·intro w'
            go_simp
            with_reducible rfl
           rotate_left
           ·simp only [Act.put, sa_, sb_, sc_, i64_w, i32_w]
            rfl
           refine take_ (i := 19) (N := some 70) (v := ?_) (a' := ?_) #[true,true,true,true,true,true,true,true,true,true,true,true,true,true,true,true,true,true,true,true,false,false,false,false,false,false,false,false,false] rfl rfl (qy_ HT_.out HW_.out (by kernel_rfl)) (fun _ _ _ h => h) (Or.inl ⟨by rfl, ?_⟩) hHeld ?_ ?_
           rotate_left
           ·rintro w' ⟨s0, s1, s2, s3, s4, s5, s6, s7, s8⟩
            go_simp
            with_reducible rfl
           rotate_left
           ·simp only [Act.put, sa_, sb_, sc_, i64_w, i32_w]
            rfl
           refine take_ (i := 20) (N := some 71) (v := ?_) (a' := ?_) #[true,true,true,true,true,true,true,true,true,true,true,true,true,true,true,true,true,true,true,true,true,false,false,false,false,false,false,false,false] rfl rfl (qy_ HT_.out HW_.out (by kernel_rfl)) (fun _ _ _ h => h) (Or.inl ⟨by rfl, ?_⟩) hHeld ?_ ?_
           rotate_left
           ·rintro w' ⟨s0, s1, s2, s3, s4, s5, s6, s7, s8⟩
            go_simp
            with_reducible rfl
           rotate_left
           ·simp only [Act.put, sa_, sb_, sc_, i64_w, i32_w]
            rfl
           refine one_ (i := 21) (N := some 72) #[true,true,true,true,true,true,true,true,true,true,true,true,true,true,true,true,true,true,true,true,true,true,false,false,false,false,false,false,false] rfl rfl (one_of HT_.out (by kernel_rfl)) (by decide) (fun K hK => ?_)
           refine goes_ Try.func20 (by kernel_rfl) rfl #[.agg #[.int .i64 a0_0, .int .i64 a0_1, .slice A0_2 l0_2.length c0_2], .agg #[.int .i64 a0_0, .int .i64 0, .slice Ao58 x109002_2.length co58]] (by rfl) rfl rfl (by (try simp only [List.map_toArray, List.map_cons, List.map_nil]); first | done | rfl | (simp only [List.length_drop, List.length_take]; rfl)) ?_
           with_reducible refine (state_Over.calls a0_0 a0_1 _ _ l0_2 a0_0 0 _ _ x109002_2 true _ ?side1 ?side2 ?side3 ?side4 A45.out).mono ?_
           (case side1 => repeat (first | exact (Kd.V_reads' HO_102002.out).2.2 | (with_reducible refine Kd.qu_ ?_ _) | (with_reducible refine Kd.qt_ ?_ _) | (with_reducible refine Kd.C_drew ?_)))
           (case side2 => exact (Kd.V_reads' HO_102002.out).2.1)
           (case side3 => repeat (first | exact (Kd.R_reads' HO_109002.out).2.2 | (with_reducible refine Kd.qu_ ?_ _) | (with_reducible refine Kd.qt_ ?_ _) | (with_reducible refine Kd.C_drew ?_)))
           (case side4 => exact (Kd.R_reads' HO_109002.out).2.1)
           rintro e w62 ⟨rfl, hb⟩
           refine ⟨_, rfl, ?_⟩
           have n0_ := Aside0.mk (Kd.qo_ (by (with_reducible repeat (first | apply Kd.qn_ | apply Kd.qm_ | apply Kd.V_drew)); exact HO_102002.out) hb)
           have n1_ := Aside0.mk (Kd.R_below (by (with_reducible repeat (first | apply Kd.qw_ | apply Kd.qv_ | apply Kd.R_drew)); exact HO_109002.out) hb)
           have n2_ := Aside0.mk (Kd.R_below (by (with_reducible repeat (first | apply Kd.qw_ | apply Kd.qv_ | apply Kd.R_drew)); exact HO118.out) hb)
           have n3_ := Aside0.mk (Kd.R_below (by (with_reducible repeat (first | apply Kd.qw_ | apply Kd.qv_ | apply Kd.R_drew)); exact HO124.out) hb)
           have n4_ := Aside0.mk (qk_ (g := gb101) (o := .cells #[.int .i64 a0_0, .int .i64 a0_1, .slice A0_2 l0_2.length c0_2] 24 (0, 0)) (by (with_reducible repeat (first | refine qe_ ?_ _ | refine qh_ ?_ | refine qd_ ?_ _)); exact BK101.out) hb)
           have n5_ := Aside0.mk (qk_ (g := gb108) (o := .cells #[.int .i64 a0_0, .int .i64 0, .slice Ao58 x109002_2.length co58] 24 (0, 0)) (by (with_reducible repeat (first | refine qe_ ?_ _ | refine qh_ ?_ | refine qd_ ?_ _)); exact BK108.out) hb)
           have n6_ := Aside0.mk (qk_ (g := gb119) (o := .cells #[.int .i64 t114, .int .i64 t115, .slice Ao55 t116.length co55] 24 (0, 0)) (by (with_reducible repeat (first | refine qe_ ?_ _ | refine qh_ ?_ | refine qd_ ?_ _)); exact BK119.out) hb)
           have n7_ := Aside0.mk (ql_ (by repeat (first | (with_reducible first | exact HB.out | apply qc_ | apply qa_ | apply qb_ | refine qf_ ?_ GE101.out | refine qf_ ?_ GE108.out | refine qf_ ?_ GE119.out) | exact HB.out)) hb)
           clear HO_102002
           clear HO_109002
           clear HO118
           clear HO124
           clear BK101
           clear BK108
           clear BK119
           clear HB
           have HO_102002 := n0_
           have HO_109002 := n1_
           have HO118 := n2_
           have HO124 := n3_
           have BK101 := n4_
           have BK108 := n5_
           have BK119 := n6_
           have HB := n7_
           clear n0_ n1_ n2_ n3_ n4_ n5_ n6_ n7_
           (try clear hb)
           (try clear hb2)
           (try clear hk)
           (try clear hi)
           refine hK.out _ _ ⟨(qg_ BK108.out 0).trans rfl, (qg_ BK108.out 1).trans rfl, (qg_ BK108.out 2).trans rfl, (qg_ BK119.out 0).trans rfl, (qg_ BK119.out 1).trans rfl, (qg_ BK119.out 2).trans rfl, (qg_ BK101.out 0).trans rfl, (qg_ BK101.out 1).trans rfl, (qg_ BK101.out 2).trans rfl⟩ (fun hHeld => ?_)
           clear hK K
           refine norm_ (a' := ?_) ?_ ?_
           rotate_left
           ·show Act.put _ (some 72) _ = _
            simp only [Act.put, sa_, sb_, sc_, i64_w, i32_w]
            rfl
           refine pure_ (i := 22) (N := some 73) (v := ?_) (a' := ?_) #[true,true,true,true,true,true,true,true,true,true,true,true,true,true,true,true,true,true,true,true,true,true,true,false,false,false,false,false,false] rfl rfl (any_of HT_.out (by kernel_rfl)) (fun _ _ _ h => h) (Or.inl ⟨by rfl, ?_⟩) ?_ ?_
           rotate_left
           ·intro w'
            go_simp
            with_reducible rfl
           rotate_left
           ·simp only [Act.put, sa_, sb_, sc_, i64_w, i32_w]
            rfl
           refine pure_ (i := 23) (N := some 74) (v := ?_) (a' := ?_) #[true,true,true,true,true,true,true,true,true,true,true,true,true,true,true,true,true,true,true,true,true,true,true,true,false,false,false,false,false] rfl rfl (any_of HT_.out (by kernel_rfl)) (fun _ _ _ h => h) (Or.inl ⟨by rfl, ?_⟩) ?_ ?_
           rotate_left
           ·intro w'
            go_simp
            with_reducible rfl
           rotate_left
           ·simp only [Act.put, sa_, sb_, sc_, i64_w, i32_w]
            rfl
           refine take_ (i := 24) (N := some 75) (v := ?_) (a' := ?_) #[true,true,true,true,true,true,true,true,true,true,true,true,true,true,true,true,true,true,true,true,true,true,true,true,true,false,false,false,false] rfl rfl (qy_ HT_.out HW_.out (by kernel_rfl)) (fun _ _ _ h => h) (Or.inl ⟨by rfl, ?_⟩) hHeld ?_ ?_
           rotate_left
           ·rintro w' ⟨s0, s1, s2, s3, s4, s5, s6, s7, s8⟩
            go_simp
            with_reducible rfl
           rotate_left
           ·simp only [Act.put, sa_, sb_, sc_, i64_w, i32_w]
            rfl
           refine take_ (i := 25) (N := some 76) (v := ?_) (a' := ?_) #[true,true,true,true,true,true,true,true,true,true,true,true,true,true,true,true,true,true,true,true,true,true,true,true,true,true,false,false,false] rfl rfl (qy_ HT_.out HW_.out (by kernel_rfl)) (fun _ _ _ h => h) (Or.inl ⟨by rfl, ?_⟩) hHeld ?_ ?_
           rotate_left
           ·rintro w' ⟨s0, s1, s2, s3, s4, s5, s6, s7, s8⟩
            go_simp
            with_reducible rfl
           rotate_left
           ·simp only [Act.put, sa_, sb_, sc_, i64_w, i32_w]
            rfl
           refine one_ (i := 26) (N := some 77) #[true,true,true,true,true,true,true,true,true,true,true,true,true,true,true,true,true,true,true,true,true,true,true,true,true,true,true,false,false] rfl rfl (one_of HT_.out (by kernel_rfl)) (by decide) (fun K hK => ?_)
           refine goes_ Try.func20 (by kernel_rfl) rfl #[.agg #[.int .i64 a0_0, .int .i64 a0_1, .slice A0_2 l0_2.length c0_2], .agg #[.int .i64 t114, .int .i64 t115, .slice Ao55 t116.length co55]] (by rfl) rfl rfl (by (try simp only [List.map_toArray, List.map_cons, List.map_nil]); first | done | rfl | (simp only [List.length_drop, List.length_take]; rfl)) ?_
           with_reducible refine (state_Over.calls a0_0 a0_1 _ _ l0_2 t114 t115 _ _ t116 t127 _ ?side1 ?side2 ?side3 ?side4 A47.out).mono ?_
           (case side1 => repeat (first | exact (Kd.V_reads' HO_102002.out).2.2 | (with_reducible refine Kd.qu_ ?_ _) | (with_reducible refine Kd.qt_ ?_ _) | (with_reducible refine Kd.C_drew ?_)))
           (case side2 => exact (Kd.V_reads' HO_102002.out).2.1)
           (case side3 => repeat (first | exact (Kd.R_reads' HO118.out).2.2 | (with_reducible refine Kd.qu_ ?_ _) | (with_reducible refine Kd.qt_ ?_ _) | (with_reducible refine Kd.C_drew ?_)))
           (case side4 => exact (Kd.R_reads' HO118.out).2.1)
           rintro e w63 ⟨rfl, hb⟩
           refine ⟨_, rfl, ?_⟩
           have n0_ := Aside0.mk (Kd.qo_ (by (with_reducible repeat (first | apply Kd.qn_ | apply Kd.qm_ | apply Kd.V_drew)); exact HO_102002.out) hb)
           have n1_ := Aside0.mk (Kd.R_below (by (with_reducible repeat (first | apply Kd.qw_ | apply Kd.qv_ | apply Kd.R_drew)); exact HO_109002.out) hb)
           have n2_ := Aside0.mk (Kd.R_below (by (with_reducible repeat (first | apply Kd.qw_ | apply Kd.qv_ | apply Kd.R_drew)); exact HO118.out) hb)
           have n3_ := Aside0.mk (Kd.R_below (by (with_reducible repeat (first | apply Kd.qw_ | apply Kd.qv_ | apply Kd.R_drew)); exact HO124.out) hb)
           have n4_ := Aside0.mk (qk_ (g := gb101) (o := .cells #[.int .i64 a0_0, .int .i64 a0_1, .slice A0_2 l0_2.length c0_2] 24 (0, 0)) (by (with_reducible repeat (first | refine qe_ ?_ _ | refine qh_ ?_ | refine qd_ ?_ _)); exact BK101.out) hb)
           have n5_ := Aside0.mk (qk_ (g := gb108) (o := .cells #[.int .i64 a0_0, .int .i64 0, .slice Ao58 x109002_2.length co58] 24 (0, 0)) (by (with_reducible repeat (first | refine qe_ ?_ _ | refine qh_ ?_ | refine qd_ ?_ _)); exact BK108.out) hb)
           have n6_ := Aside0.mk (qk_ (g := gb119) (o := .cells #[.int .i64 t114, .int .i64 t115, .slice Ao55 t116.length co55] 24 (0, 0)) (by (with_reducible repeat (first | refine qe_ ?_ _ | refine qh_ ?_ | refine qd_ ?_ _)); exact BK119.out) hb)
           have n7_ := Aside0.mk (ql_ (by repeat (first | (with_reducible first | exact HB.out | apply qc_ | apply qa_ | apply qb_ | refine qf_ ?_ GE101.out | refine qf_ ?_ GE108.out | refine qf_ ?_ GE119.out) | exact HB.out)) hb)
           clear HO_102002
           clear HO_109002
           clear HO118
           clear HO124
           clear BK101
           clear BK108
           clear BK119
           clear HB
           have HO_102002 := n0_
           have HO_109002 := n1_
           have HO118 := n2_
           have HO124 := n3_
           have BK101 := n4_
           have BK108 := n5_
           have BK119 := n6_
           have HB := n7_
           clear n0_ n1_ n2_ n3_ n4_ n5_ n6_ n7_
           (try clear hb)
           (try clear hb2)
           (try clear hk)
           (try clear hi)
           refine hK.out _ _ ⟨(qg_ BK108.out 0).trans rfl, (qg_ BK108.out 1).trans rfl, (qg_ BK108.out 2).trans rfl, (qg_ BK119.out 0).trans rfl, (qg_ BK119.out 1).trans rfl, (qg_ BK119.out 2).trans rfl, (qg_ BK101.out 0).trans rfl, (qg_ BK101.out 1).trans rfl, (qg_ BK101.out 2).trans rfl⟩ (fun hHeld => ?_)
           clear hK K
           refine norm_ (a' := ?_) ?_ ?_
           rotate_left
           ·show Act.put _ (some 77) _ = _
            simp only [Act.put, sa_, sb_, sc_, i64_w, i32_w]
            rfl
           refine pure_ (i := 27) (N := some 78) (v := ?_) (a' := ?_) #[true,true,true,true,true,true,true,true,true,true,true,true,true,true,true,true,true,true,true,true,true,true,true,true,true,true,true,true,false] rfl rfl (any_of HT_.out (by kernel_rfl)) (fun _ _ _ h => h) (Or.inl ⟨by rfl, ?_⟩) ?_ ?_
           rotate_left
           ·intro w'
            go_simp
            with_reducible rfl
           rotate_left
           ·simp only [Act.put, sa_, sb_, sc_, i64_w, i32_w]
            rfl
           refine pure_ (i := 28) (N := some 4) (v := ?_) (a' := ?_) #[true,true,true,true,true,true,true,true,true,true,true,true,true,true,true,true,true,true,true,true,true,true,true,true,true,true,true,true,true] rfl rfl (any_of HT_.out (by kernel_rfl)) (fun _ _ _ h => h) (Or.inl ⟨by rfl, ?_⟩) ?_ ?_
           rotate_left
           ·intro w'
            go_simp
            with_reducible rfl
           rotate_left
           ·simp only [Act.put, sa_, sb_, sc_, i64_w, i32_w]
            rfl
           refine done_ (done_of HT_.out (by kernel_rfl)) ?_
           try go_wp2
           go_ret
           exact ⟨by first | rfl | (simp [errW_none, errW_some] <;> rfl) | (simp [*, errW_none, errW_some] <;> rfl), by repeat (first | (with_reducible first | exact HB.out | apply qc_ | apply qa_ | apply qb_ | refine qf_ ?_ GE101.out | refine qf_ ?_ GE108.out | refine qf_ ?_ GE119.out) | exact HB.out)⟩
          ·rw [if_neg c46] at H
           exact absurd ((Option.some.inj H).trans HRT.out) (by decide)
         ·rw [if_neg c44] at H
          exact absurd ((Option.some.inj H).trans HRT.out) (by decide)
        ·rw [if_neg c43] at H
         exact absurd ((Option.some.inj H).trans HRT.out) (by decide)
 ·rw [if_neg c4] at H
  exact absurd ((Option.some.inj H).trans HRT.out) (by decide)
end Go.Proofs.Ytfoeahjbkmdgfaa.P

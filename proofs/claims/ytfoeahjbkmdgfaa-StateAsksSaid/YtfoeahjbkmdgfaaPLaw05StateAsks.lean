/- What this function of the program comes to, and that the machine's call does it: written by a program (wip/tool). No condition. -/
import Derived.Test.YtfoeahjbkmdgfaaP0
import Derived.Test.YtfoeahjbkmdgfaaPStateRight
import Derived.Test.YtfoeahjbkmdgfaaPStateTop
import Derived.Test.YtfoeahjbkmdgfaaPStateCopy
import Derived.Test.YtfoeahjbkmdgfaaPLaw05Alive
import Derived.Test.YtfoeahjbkmdgfaaPLaw05Great
import Derived.Test.YtfoeahjbkmdgfaaPRef05Right
import Derived.Test.YtfoeahjbkmdgfaaPRef05Top
import Derived.Test.YtfoeahjbkmdgfaaPRef05Same
import Derived.Test.YtfoeahjbkmdgfaaPStateAbove
import Derived.Test.YtfoeahjbkmdgfaaPStateSame
import Derived.Test.YtfoeahjbkmdgfaaPRef05Above
import Derived.Test.YtfoeahjbkmdgfaaHw
namespace Go.Proofs.Ytfoeahjbkmdgfaa.P
open Go.RowKit Go.Proofs.YtfoeahjbkmdgfaaW.PrintWords Go.Proofs.YtfoeahjbkmdgfaaW.PrintLast Go.Proofs.YtfoeahjbkmdgfaaW.PrintMore
attribute [local go_sem] max2_int min2_int max_two min_two vb_ va_ max_four min_four Go.Proofs.YtfoeahjbkmdgfaaW.Hw.string_gtr   -- for this text's walks alone
set_option linter.unusedVariables false
set_option linter.unusedSimpArgs false
/-! ### law05_StateAsks: function 8 -/
def law05_StateAsks.f (k : Nat) (a0_0 : Int) (a0_1 : Int) (l0_2 : List (S40)) (a1_0 : Int) (a1_1 : Int) (l1_2 : List (S40)) (a2 : Int) : Option (Bool) := (law05_alive.f k).bind fun t103 => (if t103 = true then ((law05_great.f k (([(⟨a0_0, a0_1, l0_2⟩ : S24), (⟨a1_0, a1_1, l1_2⟩ : S24)] : List (S24)))).bind fun t107 => (if t107 = true then (some true) else ((state_Right.f k a0_0 a0_1 l0_2).bind fun t108 => ((ref05_Right.f k a0_0 a0_1 l0_2).bind fun t109 => (if (t108 == t109) = true then ((state_Top.f k a0_0 a0_1 l0_2).bind fun t110 => ((ref05_Top.f k a0_0 a0_1 l0_2).bind fun t111 => (if t110 = t111 then ((state_Same.f k a0_0 a0_1 l0_2 a1_0 a1_1 l1_2).bind fun t112 => ((ref05_Same.f k a0_0 a0_1 l0_2 a1_0 a1_1 l1_2).bind fun t113 => (if (t112 == t113) = true then ((state_Copy.f a0_0 a0_1 l0_2).bind fun bt114 => ((ref05_Same.f k bt114.1 bt114.2.1 bt114.2.2 a0_0 a0_1 l0_2).bind fun t119 => (if t119 = true then ((state_Above.f a0_0 a0_1 l0_2 a2).bind fun bt120 => ((ref05_Above.f k a0_0 a0_1 l0_2 a2).bind fun bt125 => ((ref05_Same.f k bt120.1 bt120.2.1 bt120.2.2 bt125.1 bt125.2.1 bt125.2.2).bind fun t130 => (some t130)))) else (some false)))) else (some false)))) else (some false)))) else (some false)))))) else (some false))
theorem law05_StateAsks.mono : ∀ a0 a1 a2 a3 a4 a5 a6 k, LeO (law05_StateAsks.f k a0 a1 a2 a3 a4 a5 a6) (law05_StateAsks.f (k + 1) a0 a1 a2 a3 a4 a5 a6) := by
 intro a0 a1 a2 a3 a4 a5 a6 k
 unfold law05_StateAsks.f
 repeat' first
   | (with_reducible exact law05_alive.mono _)
   | (with_reducible exact law05_great.mono _ _)
   | (with_reducible exact ref05_Above.mono _ _ _ _ _)
   | (with_reducible exact ref05_Right.mono _ _ _ _)
   | (with_reducible exact ref05_Same.mono _ _ _ _ _ _ _)
   | (with_reducible exact ref05_Top.mono _ _ _ _)
   | (with_reducible exact state_Right.mono _ _ _ _)
   | (with_reducible exact state_Same.mono _ _ _ _ _ _ _)
   | (with_reducible exact state_Top.mono _ _ _ _)
   | (with_reducible exact LeO.refl _)
   | (with_reducible exact LeO.none _)
   | (with_reducible refine LeO.ite ?_ ?_)
   | (with_reducible refine LeO.bind ?_ (fun _ => ?_))
   | exact law05_alive.mono _
   | exact law05_great.mono _ _
   | exact ref05_Above.mono _ _ _ _ _
   | exact ref05_Right.mono _ _ _ _
   | exact ref05_Same.mono _ _ _ _ _ _ _
   | exact ref05_Top.mono _ _ _ _
   | exact state_Right.mono _ _ _ _
   | exact state_Same.mono _ _ _ _ _ _ _
   | exact state_Top.mono _ _ _ _
   | exact LeO.none _
   | refine LeO.ite ?_ ?_
   | refine LeO.bind ?_ (fun _ => ?_)
def law05_StateAsks.T5 : Bool × List (List Nat × List Nat) := (true, [([], []), ([0], [0]), ([], []), ([2, 1], [2]), ([1, 3], [1, 3]), ([4, 3], [4]), ([5], [5]), ([6, 5, 5], [5, 6]), ([5], [5]), ([8, 7, 5], [5, 8]), ([7, 9, 5], [5, 7, 9]), ([5, 10], [5, 10]), ([11, 9], [11]), ([12], [12]), ([12], [12]), ([13, 14, 12, 12], [12, 13, 14]), ([12], [12]), ([12], [12]), ([16, 17, 15, 12], [12, 16, 17]), ([15, 18, 12], [12, 15, 18]), ([12, 19], [12, 19]), ([20, 18], [20]), ([21], [21]), ([22, 21, 21], [21, 22]), ([21], [21]), ([23, 24, 23, 21], [21, 23, 24]), ([21, 25], [21, 25]), ([26, 25], [26]), ([27], [27]), ([27], [27]), ([28, 29, 27, 27], [27, 28, 29]), ([27], [27]), ([27], [27]), ([31, 32, 30, 27], [27, 31, 32]), ([30, 33, 33, 27], [27, 30, 33]), ([27, 34], [27, 34]), ([35, 34, 0, 1, 2, 3, 4, 5, 6, 7, 8, 9, 10, 11, 12, 13, 14, 15, 16, 17, 18, 19, 20, 21, 22, 23, 24, 25, 26, 27, 28, 29, 30, 31, 32, 33, 34, 35], [35])])
def law05_StateAsks.B5 : List Nat := [0, 1, 0, 7, 15, 31, 63, 127, 63, 511, 1023, 2047, 4095, 8191, 8191, 32767, 8191, 8191, 262143, 524287, 1048575, 2097151, 4194303, 8388607, 4194303, 33554431, 67108863, 134217727, 268435455, 268435455, 1073741823, 268435455, 268435455, 8589934591, 17179869183, 34359738367, 68719476735]
theorem law05_StateAsks.tab5 : rtab .any (opsOf Try.f8 5) = law05_StateAsks.T5 := by kernel_rfl
theorem law05_StateAsks.bits5 : waitsOk law05_StateAsks.T5.2 law05_StateAsks.B5 = true := by kernel_rfl
set_option maxHeartbeats 8000000 in
set_option maxRecDepth 100000 in
theorem law05_StateAsks.calls (k : Nat) (a0_0 : Int) (a0_1 : Int) (P0_2_ : Nat → Prop) (A0_2 : Option Addr) (c0_2 : Nat) (l0_2 : List (S40)) (a1_0 : Int) (a1_1 : Int) (P1_2_ : Nat → Prop) (A1_2 : Option Addr) (c1_2 : Nat) (l1_2 : List (S40)) (a2 : Int) (r : Bool) (w : World) (hs0_2 : Kd.V k40 40 w w.heap.size (fun k_ => P0_2_ k_) (.slice A0_2 l0_2.length c0_2) l0_2) (hs1_2 : Kd.V k40 40 w w.heap.size (fun k_ => P1_2_ k_) (.slice A1_2 l1_2.length c1_2) l1_2) (h : law05_StateAsks.f k a0_0 a0_1 l0_2 a1_0 a1_1 l1_2 a2 = some r) (hrt : r = true) :
  Calls Try.prog 8 #[.agg #[.int .i64 a0_0, .int .i64 a0_1, .slice A0_2 l0_2.length c0_2], .agg #[.int .i64 a1_0, .int .i64 a1_1, .slice A1_2 l1_2.length c1_2], .int .i64 a2] w fun e w' => e = .returned (.bool r) ∧ Below w.heap.size w w' := by
 have HRT := Aside0.mk hrt
 clear hrt
 have hu24 := Try.underlying24
 have HO0_2 := Aside0.mk (show Kd.V k40 40 w w.heap.size (fun k_ => ((P0_2_ k_ ∨ P1_2_ k_) ∨ w.heap.size ≤ k_)) (.slice A0_2 l0_2.length c0_2) l0_2 from Kd.V_mono hs0_2 (fun k_ hk => .inl (.inl hk)))
 have HO1_2 := Aside0.mk (show Kd.V k40 40 w w.heap.size (fun k_ => ((P0_2_ k_ ∨ P1_2_ k_) ∨ w.heap.size ≤ k_)) (.slice A1_2 l1_2.length c1_2) l1_2 from Kd.V_mono hs1_2 (fun k_ hk => .inl (.inr hk)))
 have HB := Aside0.mk (Below.refl w.heap.size w)
 have H : ((law05_alive.f k).bind fun t103 => (if t103 = true then ((law05_great.f k (([(⟨a0_0, a0_1, l0_2⟩ : S24), (⟨a1_0, a1_1, l1_2⟩ : S24)] : List (S24)))).bind fun t107 => (if t107 = true then (some true) else ((state_Right.f k a0_0 a0_1 l0_2).bind fun t108 => ((ref05_Right.f k a0_0 a0_1 l0_2).bind fun t109 => (if (t108 == t109) = true then ((state_Top.f k a0_0 a0_1 l0_2).bind fun t110 => ((ref05_Top.f k a0_0 a0_1 l0_2).bind fun t111 => (if t110 = t111 then ((state_Same.f k a0_0 a0_1 l0_2 a1_0 a1_1 l1_2).bind fun t112 => ((ref05_Same.f k a0_0 a0_1 l0_2 a1_0 a1_1 l1_2).bind fun t113 => (if (t112 == t113) = true then ((state_Copy.f a0_0 a0_1 l0_2).bind fun bt114 => ((ref05_Same.f k bt114.1 bt114.2.1 bt114.2.2 a0_0 a0_1 l0_2).bind fun t119 => (if t119 = true then ((state_Above.f a0_0 a0_1 l0_2 a2).bind fun bt120 => ((ref05_Above.f k a0_0 a0_1 l0_2 a2).bind fun bt125 => ((ref05_Same.f k bt120.1 bt120.2.1 bt120.2.2 bt125.1 bt125.2.1 bt125.2.2).bind fun t130 => (some t130)))) else (some false)))) else (some false)))) else (some false)))) else (some false)))))) else (some false))) = some r := h
 clear h
 replace H := ob_ H
 obtain ⟨t103, A40, H⟩ := H
 replace H : (if t103 = true then ((law05_great.f k (([(⟨a0_0, a0_1, l0_2⟩ : S24), (⟨a1_0, a1_1, l1_2⟩ : S24)] : List (S24)))).bind fun t107 => (if t107 = true then (some true) else ((state_Right.f k a0_0 a0_1 l0_2).bind fun t108 => ((ref05_Right.f k a0_0 a0_1 l0_2).bind fun t109 => (if (t108 == t109) = true then ((state_Top.f k a0_0 a0_1 l0_2).bind fun t110 => ((ref05_Top.f k a0_0 a0_1 l0_2).bind fun t111 => (if t110 = t111 then ((state_Same.f k a0_0 a0_1 l0_2 a1_0 a1_1 l1_2).bind fun t112 => ((ref05_Same.f k a0_0 a0_1 l0_2 a1_0 a1_1 l1_2).bind fun t113 => (if (t112 == t113) = true then ((state_Copy.f a0_0 a0_1 l0_2).bind fun bt114 => ((ref05_Same.f k bt114.1 bt114.2.1 bt114.2.2 a0_0 a0_1 l0_2).bind fun t119 => (if t119 = true then ((state_Above.f a0_0 a0_1 l0_2 a2).bind fun bt120 => ((ref05_Above.f k a0_0 a0_1 l0_2 a2).bind fun bt125 => ((ref05_Same.f k bt120.1 bt120.2.1 bt120.2.2 bt125.1 bt125.2.1 bt125.2.2).bind fun t130 => (some t130)))) else (some false)))) else (some false)))) else (some false)))) else (some false)))))) else (some false)) = some r := H
 have A4 := Aside0.mk A40
 clear A40
 by_cases c5 : t103 = true
 ·subst c5
  have H1 : ((law05_great.f k (([(⟨a0_0, a0_1, l0_2⟩ : S24), (⟨a1_0, a1_1, l1_2⟩ : S24)] : List (S24)))).bind fun t107 => (if t107 = true then (some true) else ((state_Right.f k a0_0 a0_1 l0_2).bind fun t108 => ((ref05_Right.f k a0_0 a0_1 l0_2).bind fun t109 => (if (t108 == t109) = true then ((state_Top.f k a0_0 a0_1 l0_2).bind fun t110 => ((ref05_Top.f k a0_0 a0_1 l0_2).bind fun t111 => (if t110 = t111 then ((state_Same.f k a0_0 a0_1 l0_2 a1_0 a1_1 l1_2).bind fun t112 => ((ref05_Same.f k a0_0 a0_1 l0_2 a1_0 a1_1 l1_2).bind fun t113 => (if (t112 == t113) = true then ((state_Copy.f a0_0 a0_1 l0_2).bind fun bt114 => ((ref05_Same.f k bt114.1 bt114.2.1 bt114.2.2 a0_0 a0_1 l0_2).bind fun t119 => (if t119 = true then ((state_Above.f a0_0 a0_1 l0_2 a2).bind fun bt120 => ((ref05_Above.f k a0_0 a0_1 l0_2 a2).bind fun bt125 => ((ref05_Same.f k bt120.1 bt120.2.1 bt120.2.2 bt125.1 bt125.2.1 bt125.2.2).bind fun t130 => (some t130)))) else (some false)))) else (some false)))) else (some false)))) else (some false)))))) = some r := by rw [if_pos rfl] at H; exact H
  clear H
  have H := H1
  clear H1
  obtain ⟨y104, hy104⟩ : ∃ y_ : List (S24), y_ = (([(⟨a0_0, a0_1, l0_2⟩ : S24), (⟨a1_0, a1_1, l1_2⟩ : S24)] : List (S24))) := ⟨_, rfl⟩
  replace H : ((law05_great.f k y104).bind fun t107 => (if t107 = true then (some true) else ((state_Right.f k a0_0 a0_1 l0_2).bind fun t108 => ((ref05_Right.f k a0_0 a0_1 l0_2).bind fun t109 => (if (t108 == t109) = true then ((state_Top.f k a0_0 a0_1 l0_2).bind fun t110 => ((ref05_Top.f k a0_0 a0_1 l0_2).bind fun t111 => (if t110 = t111 then ((state_Same.f k a0_0 a0_1 l0_2 a1_0 a1_1 l1_2).bind fun t112 => ((ref05_Same.f k a0_0 a0_1 l0_2 a1_0 a1_1 l1_2).bind fun t113 => (if (t112 == t113) = true then ((state_Copy.f a0_0 a0_1 l0_2).bind fun bt114 => ((ref05_Same.f k bt114.1 bt114.2.1 bt114.2.2 a0_0 a0_1 l0_2).bind fun t119 => (if t119 = true then ((state_Above.f a0_0 a0_1 l0_2 a2).bind fun bt120 => ((ref05_Above.f k a0_0 a0_1 l0_2 a2).bind fun bt125 => ((ref05_Same.f k bt120.1 bt120.2.1 bt120.2.2 bt125.1 bt125.2.1 bt125.2.2).bind fun t130 => (some t130)))) else (some false)))) else (some false)))) else (some false)))) else (some false)))))) = some r := by first | (rw [hy104]; with_reducible exact H) | (have H2_ := (Option.bind_some _ _).symm.trans H; rw [hy104]; with_reducible exact H2_) | (have H2_ := (Option.bind_some _ _).symm.trans H; with_reducible exact H2_) | with_reducible exact H | (rw [hy104]; exact H) | exact H
  have Ny104 := Aside0.mk hy104
  clear hy104
  replace H := ob_ H
  obtain ⟨t107, A60, H⟩ := H
  replace H : (if t107 = true then (some true) else ((state_Right.f k a0_0 a0_1 l0_2).bind fun t108 => ((ref05_Right.f k a0_0 a0_1 l0_2).bind fun t109 => (if (t108 == t109) = true then ((state_Top.f k a0_0 a0_1 l0_2).bind fun t110 => ((ref05_Top.f k a0_0 a0_1 l0_2).bind fun t111 => (if t110 = t111 then ((state_Same.f k a0_0 a0_1 l0_2 a1_0 a1_1 l1_2).bind fun t112 => ((ref05_Same.f k a0_0 a0_1 l0_2 a1_0 a1_1 l1_2).bind fun t113 => (if (t112 == t113) = true then ((state_Copy.f a0_0 a0_1 l0_2).bind fun bt114 => ((ref05_Same.f k bt114.1 bt114.2.1 bt114.2.2 a0_0 a0_1 l0_2).bind fun t119 => (if t119 = true then ((state_Above.f a0_0 a0_1 l0_2 a2).bind fun bt120 => ((ref05_Above.f k a0_0 a0_1 l0_2 a2).bind fun bt125 => ((ref05_Same.f k bt120.1 bt120.2.1 bt120.2.2 bt125.1 bt125.2.1 bt125.2.2).bind fun t130 => (some t130)))) else (some false)))) else (some false)))) else (some false)))) else (some false))))) = some r := H
  have A6 := Aside0.mk A60
  clear A60
  by_cases c7 : t107 = true
  ·subst c7
   have H1 : (some true) = some r := by rw [if_pos rfl] at H; exact H
   clear H
   have H := H1
   clear H1
   obtain rfl := Option.some.inj H
   go_enter Try.func8, Try.ntmps8
   go_wp2_with (first | ((with_reducible refine qq_ (N := 3) rfl ?_); refine qp_ ?hg (N := 3) ?hd (cs := #[.int .i64 a0_0, .int .i64 a0_1, .slice A0_2 l0_2.length c0_2]) (t := 24) ?hr ?_; (case hd => rfl); (case hg => rfl); (case hr => first | (go_simp; done) | (go_simp; rfl)); intro gb101 hg w8 hbox hb; have n0_ := Aside0.mk (Kd.qo_ (Kd.V_elderB (by (with_reducible repeat (first | apply Kd.qn_ | apply Kd.qm_ | apply Kd.V_drew)); exact HO0_2.out) gb101 (Nat.le_of_eq hg.symm)) hb); have n1_ := Aside0.mk (Kd.qo_ (Kd.V_elderB (by (with_reducible repeat (first | apply Kd.qn_ | apply Kd.qm_ | apply Kd.V_drew)); exact HO1_2.out) gb101 (Nat.le_of_eq hg.symm)) hb); have n2_ := Aside0.mk (ql_ (by repeat (first | (with_reducible first | exact HB.out | apply qc_ | apply qa_ | apply qb_) | exact HB.out)) hb); have n3_ := Aside0.mk (hbox); have n4_ := Aside0.mk ((by rw [hg]; exact (qj_ (by repeat (first | (with_reducible first | exact HB.out | apply qc_ | apply qa_ | apply qb_) | exact HB.out))) : w.heap.size ≤ gb101)); have n5_ := Aside0.mk ((by rw [hg]; exact (qj_ (by repeat (first | (with_reducible first | exact HB.out | apply qc_ | apply qa_ | apply qb_) | exact HB.out))) : w.heap.size ≤ gb101)); clear HO0_2; clear HO1_2; clear HB; have HO0_2 := n0_; have HO1_2 := n1_; have HB := n2_; have BK101 := n3_; have GW101 := n4_; have GE101 := n5_; clear n0_ n1_ n2_ n3_ n4_ n5_; clear hb hbox hg) | ((with_reducible refine qq_ (N := 4) rfl ?_); refine qp_ ?hg (N := 4) ?hd (cs := #[.int .i64 a1_0, .int .i64 a1_1, .slice A1_2 l1_2.length c1_2]) (t := 24) ?hr ?_; (case hd => rfl); (case hg => rfl); (case hr => first | (go_simp; done) | (go_simp; rfl)); intro gb102 hg w9 hbox hb; have n0_ := Aside0.mk (Kd.qo_ (Kd.V_elderB (by (with_reducible repeat (first | apply Kd.qn_ | apply Kd.qm_ | apply Kd.V_drew)); exact HO0_2.out) gb102 (Nat.le_of_eq hg.symm)) hb); have n1_ := Aside0.mk (Kd.qo_ (Kd.V_elderB (by (with_reducible repeat (first | apply Kd.qn_ | apply Kd.qm_ | apply Kd.V_drew)); exact HO1_2.out) gb102 (Nat.le_of_eq hg.symm)) hb); have n2_ := Aside0.mk (qk_ (g := gb101) (o := .cells #[.int .i64 a0_0, .int .i64 a0_1, .slice A0_2 l0_2.length c0_2] 24 (0, 0)) (by (with_reducible repeat (first | refine qe_ ?_ _ | refine qh_ ?_ | refine qd_ ?_ _)); exact BK101.out) hb); have n3_ := Aside0.mk (ql_ (by repeat (first | (with_reducible first | exact HB.out | apply qc_ | apply qa_ | apply qb_ | refine qf_ ?_ GE101.out) | exact HB.out)) hb); have n4_ := Aside0.mk (hbox); have n5_ := Aside0.mk ((by rw [hg]; exact (qj_ (by repeat (first | (with_reducible first | exact HB.out | apply qc_ | apply qa_ | apply qb_ | refine qf_ ?_ GE101.out) | exact HB.out))) : w.heap.size ≤ gb102)); have n6_ := Aside0.mk ((by rw [hg]; exact (qj_ (by repeat (first | (with_reducible first | exact HB.out | apply qc_ | apply qa_ | apply qb_ | refine qf_ ?_ GE101.out) | exact HB.out))) : w.heap.size ≤ gb102)); have n7_ := Aside0.mk ((by rw [hg]; exact Nat.ne_of_lt (blk_lt (g := gb101) (o := .cells #[.int .i64 a0_0, .int .i64 a0_1, .slice A0_2 l0_2.length c0_2] 24 (0, 0)) (by (with_reducible repeat (first | refine qe_ ?_ _ | refine qh_ ?_ | refine qd_ ?_ _)); exact BK101.out)) : gb101 ≠ gb102)); have n8_ := Aside0.mk ((by rw [hg]; exact Nat.ne_of_gt (blk_lt (g := gb101) (o := .cells #[.int .i64 a0_0, .int .i64 a0_1, .slice A0_2 l0_2.length c0_2] 24 (0, 0)) (by (with_reducible repeat (first | refine qe_ ?_ _ | refine qh_ ?_ | refine qd_ ?_ _)); exact BK101.out)) : gb102 ≠ gb101)); clear HO0_2; clear HO1_2; clear BK101; clear HB; have HO0_2 := n0_; have HO1_2 := n1_; have BK101 := n2_; have HB := n3_; have BK102 := n4_; have GW102 := n5_; have GE102 := n6_; have NB101_102 := n7_; have NB102_101 := n8_; clear n0_ n1_ n2_ n3_ n4_ n5_ n6_ n7_ n8_; clear hb hbox hg) | ((with_reducible refine qr_ (f := 9) rfl ?_); refine goesL_ (some 7) rfl rfl Try.func9 (by kernel_rfl) rfl #[] rfl (by (try simp only [List.map_toArray, List.map_cons, List.map_nil]); first | done | rfl | (simp only [List.length_drop, List.length_take]; rfl)) ?_; (with_reducible refine (law05_alive.calls k  true _ A4.out).mono ?_); rintro e w10 ⟨rfl, hb⟩; refine ⟨_, rfl, ?_⟩; have n0_ := Aside0.mk (Kd.qo_ (by (with_reducible repeat (first | apply Kd.qn_ | apply Kd.qm_ | apply Kd.V_drew)); exact HO0_2.out) hb); have n1_ := Aside0.mk (Kd.qo_ (by (with_reducible repeat (first | apply Kd.qn_ | apply Kd.qm_ | apply Kd.V_drew)); exact HO1_2.out) hb); have n2_ := Aside0.mk (qk_ (g := gb101) (o := .cells #[.int .i64 a0_0, .int .i64 a0_1, .slice A0_2 l0_2.length c0_2] 24 (0, 0)) (by (with_reducible repeat (first | refine qe_ ?_ _ | refine qh_ ?_ | refine qd_ ?_ _)); exact BK101.out) hb); have n3_ := Aside0.mk (qk_ (g := gb102) (o := .cells #[.int .i64 a1_0, .int .i64 a1_1, .slice A1_2 l1_2.length c1_2] 24 (0, 0)) (by (with_reducible repeat (first | refine qe_ ?_ _ | refine qh_ ?_ | refine qd_ ?_ _)); exact BK102.out) hb); have n4_ := Aside0.mk (ql_ (by repeat (first | (with_reducible first | exact HB.out | apply qc_ | apply qa_ | apply qb_ | refine qf_ ?_ GE101.out | refine qf_ ?_ GE102.out) | exact HB.out)) hb); clear HO0_2; clear HO1_2; clear BK101; clear BK102; clear HB; have HO0_2 := n0_; have HO1_2 := n1_; have BK101 := n2_; have BK102 := n3_; have HB := n4_; clear n0_ n1_ n2_ n3_ n4_; (try clear hb); (try clear hb2); (try clear hk); (try clear hi); have hnb11 := NB101_102.out; have hnc11 := NB102_101.out; have hcz12_0 : w10.cell? ⟨gb101, 0, none⟩ = some (.int .i64 a0_0) := (qg_ BK101.out 0).trans rfl; have hcz12_1 : w10.cell? ⟨gb101, 1, none⟩ = some (.int .i64 a0_1) := (qg_ BK101.out 1).trans rfl; have hcz12_2 : w10.cell? ⟨gb101, 2, none⟩ = some (.slice A0_2 l0_2.length c0_2) := (qg_ BK101.out 2).trans rfl; have hfz12_0 := qi_ BK101.out 0; have hfz12_1 := qi_ BK101.out 1; have hfz12_2 := qi_ BK101.out 2; have hcz13_0 : w10.cell? ⟨gb102, 0, none⟩ = some (.int .i64 a1_0) := (qg_ BK102.out 0).trans rfl; have hcz13_1 : w10.cell? ⟨gb102, 1, none⟩ = some (.int .i64 a1_1) := (qg_ BK102.out 1).trans rfl; have hcz13_2 : w10.cell? ⟨gb102, 2, none⟩ = some (.slice A1_2 l1_2.length c1_2) := (qg_ BK102.out 2).trans rfl; have hfz13_0 := qi_ BK102.out 0; have hfz13_1 := qi_ BK102.out 1; have hfz13_2 := qi_ BK102.out 2) | ((with_reducible refine qq_ (N := 11) rfl ?_); refine Kd.N_lit k24 _ 24 ?hg (N' := 11) ?hd (xs := ([(⟨a0_0, a0_1, l0_2⟩ : S24), (⟨a1_0, a1_1, l1_2⟩ : S24)] : List (S24))) (inner := [.int .i64 a0_0, .int .i64 a0_1, .slice A0_2 l0_2.length c0_2, .int .i64 a1_0, .int .i64 a1_1, .slice A1_2 l1_2.length c1_2]) (ok := (fun k_ => ((P0_2_ k_ ∨ P1_2_ k_) ∨ w.heap.size ≤ k_) ∧ k_ ≠ gb101 ∧ k_ ≠ gb102)) (okp := (fun k_ => ((P0_2_ k_ ∨ P1_2_ k_) ∨ w.heap.size ≤ k_) ∧ k_ ≠ gb101 ∧ k_ ≠ gb102)) ?hr ?hp (fun _ hk => hk) ((show ∀ k_, w10.heap.size ≤ k_ → (fun k_ => ((P0_2_ k_ ∨ P1_2_ k_) ∨ w.heap.size ≤ k_) ∧ k_ ≠ gb101 ∧ k_ ≠ gb102) k_ from fun k_ hk => ⟨(.inr (Nat.le_trans (qj_ (by repeat (first | (with_reducible first | exact HB.out | apply qc_ | apply qa_ | apply qb_ | refine qf_ ?_ GE101.out | refine qf_ ?_ GE102.out) | exact HB.out))) hk)), Kd.freshB (g := gb101) (o := .cells #[.int .i64 a0_0, .int .i64 a0_1, .slice A0_2 l0_2.length c0_2] 24 (0, 0)) (by (with_reducible repeat (first | refine qe_ ?_ _ | refine qh_ ?_ | refine qd_ ?_ _)); exact BK101.out) k_ hk, Kd.freshB (g := gb102) (o := .cells #[.int .i64 a1_0, .int .i64 a1_1, .slice A1_2 l1_2.length c1_2] 24 (0, 0)) (by (with_reducible repeat (first | refine qe_ ?_ _ | refine qh_ ?_ | refine qd_ ?_ _)); exact BK102.out) k_ hk⟩) _ (Nat.le_refl _)) (Below.refl _ _) (Nat.le_refl _) (by simp) ?_; (case hd => rfl); (case hg => rfl); (case hr => first | (go_simp; done) | (go_simp; rfl)); (case hp => exact (Reps.c3 (show Kd.FK k24 _ _ (⟨a0_0, a0_1, l0_2⟩ : S24) [.int .i64 a0_0, .int .i64 a0_1, .slice A0_2 l0_2.length c0_2] from (k24_mkF _ _ (⟨a0_0, a0_1, l0_2⟩ : S24) (Kd.V_reads' (Kd.V_mono (ok' := (fun k_ => ((P0_2_ k_ ∨ P1_2_ k_) ∨ w.heap.size ≤ k_) ∧ k_ ≠ gb101 ∧ k_ ≠ gb102)) (HO0_2.out) (fun k_ hk => ⟨hk.1.1, ⟨hk.1.2, hk.2⟩⟩))).2.1 (Kd.V_F (Kd.V_mono (ok' := (fun k_ => ((P0_2_ k_ ∨ P1_2_ k_) ∨ w.heap.size ≤ k_) ∧ k_ ≠ gb101 ∧ k_ ≠ gb102)) (HO0_2.out) (fun k_ hk => ⟨hk.1.1, ⟨hk.1.2, hk.2⟩⟩))))) (Reps.c3 (show Kd.FK k24 _ _ (⟨a1_0, a1_1, l1_2⟩ : S24) [.int .i64 a1_0, .int .i64 a1_1, .slice A1_2 l1_2.length c1_2] from (k24_mkF _ _ (⟨a1_0, a1_1, l1_2⟩ : S24) (Kd.V_reads' (Kd.V_mono (ok' := (fun k_ => ((P0_2_ k_ ∨ P1_2_ k_) ∨ w.heap.size ≤ k_) ∧ k_ ≠ gb101 ∧ k_ ≠ gb102)) (HO1_2.out) (fun k_ hk => ⟨hk.1.1, ⟨hk.1.2, hk.2⟩⟩))).2.1 (Kd.V_F (Kd.V_mono (ok' := (fun k_ => ((P0_2_ k_ ∨ P1_2_ k_) ∨ w.heap.size ≤ k_) ∧ k_ ≠ gb101 ∧ k_ ≠ gb102)) (HO1_2.out) (fun k_ hk => ⟨hk.1.1, ⟨hk.1.2, hk.2⟩⟩))))) (Reps.none _ _)))); intro v105 w14 ho15 hb hg_ hnew_; clear hg_ hnew_; (first | rw [← Ny104.out] at ho15 | (simp only [Int.reduceToNat] at ho15; rw [← Ny104.out] at ho15)); have n0_ := Aside0.mk (Kd.V_elder' (by (with_reducible repeat (first | apply Kd.qn_ | apply Kd.qm_ | apply Kd.V_drew)); exact HO0_2.out) (by first | exact Kd.N_base ho15 | exact Kd.S_base ho15) hb); have n1_ := Aside0.mk (Kd.V_elder' (by (with_reducible repeat (first | apply Kd.qn_ | apply Kd.qm_ | apply Kd.V_drew)); exact HO1_2.out) (by first | exact Kd.N_base ho15 | exact Kd.S_base ho15) hb); have n2_ := Aside0.mk (Kd.N_lower ho15 (qj_ (by repeat (first | (with_reducible first | exact HB.out | apply qc_ | apply qa_ | apply qb_ | refine qf_ ?_ GE101.out | refine qf_ ?_ GE102.out) | exact HB.out)))); have n3_ := Aside0.mk (qk_ (g := gb101) (o := .cells #[.int .i64 a0_0, .int .i64 a0_1, .slice A0_2 l0_2.length c0_2] 24 (0, 0)) (by (with_reducible repeat (first | refine qe_ ?_ _ | refine qh_ ?_ | refine qd_ ?_ _)); exact BK101.out) hb); have n4_ := Aside0.mk (qk_ (g := gb102) (o := .cells #[.int .i64 a1_0, .int .i64 a1_1, .slice A1_2 l1_2.length c1_2] 24 (0, 0)) (by (with_reducible repeat (first | refine qe_ ?_ _ | refine qh_ ?_ | refine qd_ ?_ _)); exact BK102.out) hb); have n5_ := Aside0.mk (ql_ (by repeat (first | (with_reducible first | exact HB.out | apply qc_ | apply qa_ | apply qb_ | refine qf_ ?_ GE101.out | refine qf_ ?_ GE102.out) | exact HB.out)) hb); clear HO0_2; clear HO1_2; clear BK101; clear BK102; clear HB; have HO0_2 := n0_; have HO1_2 := n1_; have HO106 := n2_; have BK101 := n3_; have BK102 := n4_; have HB := n5_; clear n0_ n1_ n2_ n3_ n4_ n5_; clear hb ho15; obtain ⟨Ao16, co16, eo16⟩ := Kd.N_slice HO106.out; subst eo16) | ((with_reducible refine qr_ (f := 10) rfl ?_); refine goesL_ (some 12) rfl rfl Try.func10 (by kernel_rfl) rfl #[.slice Ao16 y104.length co16] rfl (by (try simp only [List.map_toArray, List.map_cons, List.map_nil]); first | done | rfl | (simp only [List.length_drop, List.length_take]; rfl)) ?_; (with_reducible refine (law05_great.calls k _ _ y104 true _ ?side1 ?side2 A6.out).mono ?_); (case side1 => repeat (first | exact (Kd.N_reads' HO106.out).2.2 | (with_reducible refine Kd.qu_ ?_ _) | (with_reducible refine Kd.qt_ ?_ _) | (with_reducible refine Kd.C_drew ?_))); (case side2 => exact (Kd.N_reads' HO106.out).2.1); rintro e w17 ⟨rfl, hb⟩; refine ⟨_, rfl, ?_⟩; have n0_ := Aside0.mk (Kd.qo_ (by (with_reducible repeat (first | apply Kd.qn_ | apply Kd.qm_ | apply Kd.V_drew)); exact HO0_2.out) hb); have n1_ := Aside0.mk (Kd.qo_ (by (with_reducible repeat (first | apply Kd.qn_ | apply Kd.qm_ | apply Kd.V_drew)); exact HO1_2.out) hb); have n2_ := Aside0.mk (Kd.N_below (by (with_reducible repeat (first | apply Kd.N_alloc | apply Kd.N_drewN | apply Kd.N_drew)); exact HO106.out) hb); have n3_ := Aside0.mk (qk_ (g := gb101) (o := .cells #[.int .i64 a0_0, .int .i64 a0_1, .slice A0_2 l0_2.length c0_2] 24 (0, 0)) (by (with_reducible repeat (first | refine qe_ ?_ _ | refine qh_ ?_ | refine qd_ ?_ _)); exact BK101.out) hb); have n4_ := Aside0.mk (qk_ (g := gb102) (o := .cells #[.int .i64 a1_0, .int .i64 a1_1, .slice A1_2 l1_2.length c1_2] 24 (0, 0)) (by (with_reducible repeat (first | refine qe_ ?_ _ | refine qh_ ?_ | refine qd_ ?_ _)); exact BK102.out) hb); have n5_ := Aside0.mk (ql_ (by repeat (first | (with_reducible first | exact HB.out | apply qc_ | apply qa_ | apply qb_ | refine qf_ ?_ GE101.out | refine qf_ ?_ GE102.out) | exact HB.out)) hb); clear HO0_2; clear HO1_2; clear HO106; clear BK101; clear BK102; clear HB; have HO0_2 := n0_; have HO1_2 := n1_; have HO106 := n2_; have BK101 := n3_; have BK102 := n4_; have HB := n5_; clear n0_ n1_ n2_ n3_ n4_ n5_; (try clear hb); (try clear hb2); (try clear hk); (try clear hi)))
   go_ret
   exact ⟨by first | rfl | (simp [errW_none, errW_some] <;> rfl) | (simp [*, errW_none, errW_some] <;> rfl), by repeat (first | (with_reducible first | exact HB.out | apply qc_ | apply qa_ | apply qb_ | refine qf_ ?_ GE101.out | refine qf_ ?_ GE102.out) | exact HB.out)⟩
  ·replace c7 := Bool.eq_false_iff.mpr c7
   subst c7
   have H1 : ((state_Right.f k a0_0 a0_1 l0_2).bind fun t108 => ((ref05_Right.f k a0_0 a0_1 l0_2).bind fun t109 => (if (t108 == t109) = true then ((state_Top.f k a0_0 a0_1 l0_2).bind fun t110 => ((ref05_Top.f k a0_0 a0_1 l0_2).bind fun t111 => (if t110 = t111 then ((state_Same.f k a0_0 a0_1 l0_2 a1_0 a1_1 l1_2).bind fun t112 => ((ref05_Same.f k a0_0 a0_1 l0_2 a1_0 a1_1 l1_2).bind fun t113 => (if (t112 == t113) = true then ((state_Copy.f a0_0 a0_1 l0_2).bind fun bt114 => ((ref05_Same.f k bt114.1 bt114.2.1 bt114.2.2 a0_0 a0_1 l0_2).bind fun t119 => (if t119 = true then ((state_Above.f a0_0 a0_1 l0_2 a2).bind fun bt120 => ((ref05_Above.f k a0_0 a0_1 l0_2 a2).bind fun bt125 => ((ref05_Same.f k bt120.1 bt120.2.1 bt120.2.2 bt125.1 bt125.2.1 bt125.2.2).bind fun t130 => (some t130)))) else (some false)))) else (some false)))) else (some false)))) else (some false)))) = some r := by rw [if_neg (show ¬ (false = true) by decide)] at H; exact H
   clear H
   have H := H1
   clear H1
   replace H := ob_ H
   obtain ⟨t108, A180, H⟩ := H
   replace H : ((ref05_Right.f k a0_0 a0_1 l0_2).bind fun t109 => (if (t108 == t109) = true then ((state_Top.f k a0_0 a0_1 l0_2).bind fun t110 => ((ref05_Top.f k a0_0 a0_1 l0_2).bind fun t111 => (if t110 = t111 then ((state_Same.f k a0_0 a0_1 l0_2 a1_0 a1_1 l1_2).bind fun t112 => ((ref05_Same.f k a0_0 a0_1 l0_2 a1_0 a1_1 l1_2).bind fun t113 => (if (t112 == t113) = true then ((state_Copy.f a0_0 a0_1 l0_2).bind fun bt114 => ((ref05_Same.f k bt114.1 bt114.2.1 bt114.2.2 a0_0 a0_1 l0_2).bind fun t119 => (if t119 = true then ((state_Above.f a0_0 a0_1 l0_2 a2).bind fun bt120 => ((ref05_Above.f k a0_0 a0_1 l0_2 a2).bind fun bt125 => ((ref05_Same.f k bt120.1 bt120.2.1 bt120.2.2 bt125.1 bt125.2.1 bt125.2.2).bind fun t130 => (some t130)))) else (some false)))) else (some false)))) else (some false)))) else (some false))) = some r := H
   have A18 := Aside0.mk A180
   clear A180
   replace H := ob_ H
   obtain ⟨t109, A190, H⟩ := H
   replace H : (if (t108 == t109) = true then ((state_Top.f k a0_0 a0_1 l0_2).bind fun t110 => ((ref05_Top.f k a0_0 a0_1 l0_2).bind fun t111 => (if t110 = t111 then ((state_Same.f k a0_0 a0_1 l0_2 a1_0 a1_1 l1_2).bind fun t112 => ((ref05_Same.f k a0_0 a0_1 l0_2 a1_0 a1_1 l1_2).bind fun t113 => (if (t112 == t113) = true then ((state_Copy.f a0_0 a0_1 l0_2).bind fun bt114 => ((ref05_Same.f k bt114.1 bt114.2.1 bt114.2.2 a0_0 a0_1 l0_2).bind fun t119 => (if t119 = true then ((state_Above.f a0_0 a0_1 l0_2 a2).bind fun bt120 => ((ref05_Above.f k a0_0 a0_1 l0_2 a2).bind fun bt125 => ((ref05_Same.f k bt120.1 bt120.2.1 bt120.2.2 bt125.1 bt125.2.1 bt125.2.2).bind fun t130 => (some t130)))) else (some false)))) else (some false)))) else (some false)))) else (some false)) = some r := H
   have A19 := Aside0.mk A190
   clear A190
   by_cases c20 : (t108 == t109) = true
   ·rw [if_pos c20] at H
    have c20b0 : (t108 == t109) = true := c20
    (try (have c20b1 : decide (t108 = t109) = true := by simpa using c20))
    (try (have c20b2 : (t108 == t109) = true := by simpa using c20))
    clear c20
    replace H := ob_ H
    obtain ⟨t110, A210, H⟩ := H
    replace H : ((ref05_Top.f k a0_0 a0_1 l0_2).bind fun t111 => (if t110 = t111 then ((state_Same.f k a0_0 a0_1 l0_2 a1_0 a1_1 l1_2).bind fun t112 => ((ref05_Same.f k a0_0 a0_1 l0_2 a1_0 a1_1 l1_2).bind fun t113 => (if (t112 == t113) = true then ((state_Copy.f a0_0 a0_1 l0_2).bind fun bt114 => ((ref05_Same.f k bt114.1 bt114.2.1 bt114.2.2 a0_0 a0_1 l0_2).bind fun t119 => (if t119 = true then ((state_Above.f a0_0 a0_1 l0_2 a2).bind fun bt120 => ((ref05_Above.f k a0_0 a0_1 l0_2 a2).bind fun bt125 => ((ref05_Same.f k bt120.1 bt120.2.1 bt120.2.2 bt125.1 bt125.2.1 bt125.2.2).bind fun t130 => (some t130)))) else (some false)))) else (some false)))) else (some false))) = some r := H
    have A21 := Aside0.mk A210
    clear A210
    replace H := ob_ H
    obtain ⟨t111, A220, H⟩ := H
    replace H : (if t110 = t111 then ((state_Same.f k a0_0 a0_1 l0_2 a1_0 a1_1 l1_2).bind fun t112 => ((ref05_Same.f k a0_0 a0_1 l0_2 a1_0 a1_1 l1_2).bind fun t113 => (if (t112 == t113) = true then ((state_Copy.f a0_0 a0_1 l0_2).bind fun bt114 => ((ref05_Same.f k bt114.1 bt114.2.1 bt114.2.2 a0_0 a0_1 l0_2).bind fun t119 => (if t119 = true then ((state_Above.f a0_0 a0_1 l0_2 a2).bind fun bt120 => ((ref05_Above.f k a0_0 a0_1 l0_2 a2).bind fun bt125 => ((ref05_Same.f k bt120.1 bt120.2.1 bt120.2.2 bt125.1 bt125.2.1 bt125.2.2).bind fun t130 => (some t130)))) else (some false)))) else (some false)))) else (some false)) = some r := H
    have A22 := Aside0.mk A220
    clear A220
    by_cases c23 : t110 = t111
    ·rw [if_pos c23] at H
     have c23b0 : (t110 == t111) = true := beq_iff_eq.mpr c23
     have c23b1 : (t110 != t111) = false := bne_eq_false_iff_eq.mpr c23
     clear c23
     replace H := ob_ H
     obtain ⟨t112, A240, H⟩ := H
     replace H : ((ref05_Same.f k a0_0 a0_1 l0_2 a1_0 a1_1 l1_2).bind fun t113 => (if (t112 == t113) = true then ((state_Copy.f a0_0 a0_1 l0_2).bind fun bt114 => ((ref05_Same.f k bt114.1 bt114.2.1 bt114.2.2 a0_0 a0_1 l0_2).bind fun t119 => (if t119 = true then ((state_Above.f a0_0 a0_1 l0_2 a2).bind fun bt120 => ((ref05_Above.f k a0_0 a0_1 l0_2 a2).bind fun bt125 => ((ref05_Same.f k bt120.1 bt120.2.1 bt120.2.2 bt125.1 bt125.2.1 bt125.2.2).bind fun t130 => (some t130)))) else (some false)))) else (some false))) = some r := H
     have A24 := Aside0.mk A240
     clear A240
     replace H := ob_ H
     obtain ⟨t113, A250, H⟩ := H
     replace H : (if (t112 == t113) = true then ((state_Copy.f a0_0 a0_1 l0_2).bind fun bt114 => ((ref05_Same.f k bt114.1 bt114.2.1 bt114.2.2 a0_0 a0_1 l0_2).bind fun t119 => (if t119 = true then ((state_Above.f a0_0 a0_1 l0_2 a2).bind fun bt120 => ((ref05_Above.f k a0_0 a0_1 l0_2 a2).bind fun bt125 => ((ref05_Same.f k bt120.1 bt120.2.1 bt120.2.2 bt125.1 bt125.2.1 bt125.2.2).bind fun t130 => (some t130)))) else (some false)))) else (some false)) = some r := H
     have A25 := Aside0.mk A250
     clear A250
     by_cases c26 : (t112 == t113) = true
     ·rw [if_pos c26] at H
      have c26b0 : (t112 == t113) = true := c26
      (try (have c26b1 : decide (t112 = t113) = true := by simpa using c26))
      (try (have c26b2 : (t112 == t113) = true := by simpa using c26))
      clear c26
      replace H := ob_ H
      obtain ⟨⟨t114, t115, t116⟩, A270, H⟩ := H
      replace H : ((ref05_Same.f k t114 t115 t116 a0_0 a0_1 l0_2).bind fun t119 => (if t119 = true then ((state_Above.f a0_0 a0_1 l0_2 a2).bind fun bt120 => ((ref05_Above.f k a0_0 a0_1 l0_2 a2).bind fun bt125 => ((ref05_Same.f k bt120.1 bt120.2.1 bt120.2.2 bt125.1 bt125.2.1 bt125.2.2).bind fun t130 => (some t130)))) else (some false))) = some r := H
      have A27 := Aside0.mk A270
      clear A270
      replace H := ob_ H
      obtain ⟨t119, A280, H⟩ := H
      replace H : (if t119 = true then ((state_Above.f a0_0 a0_1 l0_2 a2).bind fun bt120 => ((ref05_Above.f k a0_0 a0_1 l0_2 a2).bind fun bt125 => ((ref05_Same.f k bt120.1 bt120.2.1 bt120.2.2 bt125.1 bt125.2.1 bt125.2.2).bind fun t130 => (some t130)))) else (some false)) = some r := H
      have A28 := Aside0.mk A280
      clear A280
      by_cases c29 : t119 = true
      ·subst c29
       have H1 : ((state_Above.f a0_0 a0_1 l0_2 a2).bind fun bt120 => ((ref05_Above.f k a0_0 a0_1 l0_2 a2).bind fun bt125 => ((ref05_Same.f k bt120.1 bt120.2.1 bt120.2.2 bt125.1 bt125.2.1 bt125.2.2).bind fun t130 => (some t130)))) = some r := by rw [if_pos rfl] at H; exact H
       clear H
       have H := H1
       clear H1
       replace H := ob_ H
       obtain ⟨⟨t120, t121, t122⟩, A300, H⟩ := H
       replace H : ((ref05_Above.f k a0_0 a0_1 l0_2 a2).bind fun bt125 => ((ref05_Same.f k t120 t121 t122 bt125.1 bt125.2.1 bt125.2.2).bind fun t130 => (some t130))) = some r := H
       have A30 := Aside0.mk A300
       clear A300
       replace H := ob_ H
       obtain ⟨⟨t125, t126, t127⟩, A310, H⟩ := H
       replace H : ((ref05_Same.f k t120 t121 t122 t125 t126 t127).bind fun t130 => (some t130)) = some r := H
       have A31 := Aside0.mk A310
       clear A310
       replace H := ob_ H
       obtain ⟨t130, A320, H⟩ := H
       replace H : (some t130) = some r := H
       have A32 := Aside0.mk A320
       clear A320
       obtain rfl := Option.some.inj H
       go_enter Try.func8, Try.ntmps8
       try go_wp2_with (first | ((with_reducible refine qq_ (N := 3) rfl ?_); refine qp_ ?hg (N := 3) ?hd (cs := #[.int .i64 a0_0, .int .i64 a0_1, .slice A0_2 l0_2.length c0_2]) (t := 24) ?hr ?_; (case hd => rfl); (case hg => rfl); (case hr => first | (go_simp; done) | (go_simp; rfl)); intro gb101 hg w33 hbox hb; have n0_ := Aside0.mk (Kd.qo_ (Kd.V_elderB (by (with_reducible repeat (first | apply Kd.qn_ | apply Kd.qm_ | apply Kd.V_drew)); exact HO0_2.out) gb101 (Nat.le_of_eq hg.symm)) hb); have n1_ := Aside0.mk (Kd.qo_ (Kd.V_elderB (by (with_reducible repeat (first | apply Kd.qn_ | apply Kd.qm_ | apply Kd.V_drew)); exact HO1_2.out) gb101 (Nat.le_of_eq hg.symm)) hb); have n2_ := Aside0.mk (ql_ (by repeat (first | (with_reducible first | exact HB.out | apply qc_ | apply qa_ | apply qb_) | exact HB.out)) hb); have n3_ := Aside0.mk (hbox); have n4_ := Aside0.mk ((by rw [hg]; exact (qj_ (by repeat (first | (with_reducible first | exact HB.out | apply qc_ | apply qa_ | apply qb_) | exact HB.out))) : w.heap.size ≤ gb101)); have n5_ := Aside0.mk ((by rw [hg]; exact (qj_ (by repeat (first | (with_reducible first | exact HB.out | apply qc_ | apply qa_ | apply qb_) | exact HB.out))) : w.heap.size ≤ gb101)); clear HO0_2; clear HO1_2; clear HB; have HO0_2 := n0_; have HO1_2 := n1_; have HB := n2_; have BK101 := n3_; have GW101 := n4_; have GE101 := n5_; clear n0_ n1_ n2_ n3_ n4_ n5_; clear hb hbox hg) | ((with_reducible refine qq_ (N := 4) rfl ?_); refine qp_ ?hg (N := 4) ?hd (cs := #[.int .i64 a1_0, .int .i64 a1_1, .slice A1_2 l1_2.length c1_2]) (t := 24) ?hr ?_; (case hd => rfl); (case hg => rfl); (case hr => first | (go_simp; done) | (go_simp; rfl)); intro gb102 hg w34 hbox hb; have n0_ := Aside0.mk (Kd.qo_ (Kd.V_elderB (by (with_reducible repeat (first | apply Kd.qn_ | apply Kd.qm_ | apply Kd.V_drew)); exact HO0_2.out) gb102 (Nat.le_of_eq hg.symm)) hb); have n1_ := Aside0.mk (Kd.qo_ (Kd.V_elderB (by (with_reducible repeat (first | apply Kd.qn_ | apply Kd.qm_ | apply Kd.V_drew)); exact HO1_2.out) gb102 (Nat.le_of_eq hg.symm)) hb); have n2_ := Aside0.mk (qk_ (g := gb101) (o := .cells #[.int .i64 a0_0, .int .i64 a0_1, .slice A0_2 l0_2.length c0_2] 24 (0, 0)) (by (with_reducible repeat (first | refine qe_ ?_ _ | refine qh_ ?_ | refine qd_ ?_ _)); exact BK101.out) hb); have n3_ := Aside0.mk (ql_ (by repeat (first | (with_reducible first | exact HB.out | apply qc_ | apply qa_ | apply qb_ | refine qf_ ?_ GE101.out) | exact HB.out)) hb); have n4_ := Aside0.mk (hbox); have n5_ := Aside0.mk ((by rw [hg]; exact (qj_ (by repeat (first | (with_reducible first | exact HB.out | apply qc_ | apply qa_ | apply qb_ | refine qf_ ?_ GE101.out) | exact HB.out))) : w.heap.size ≤ gb102)); have n6_ := Aside0.mk ((by rw [hg]; exact (qj_ (by repeat (first | (with_reducible first | exact HB.out | apply qc_ | apply qa_ | apply qb_ | refine qf_ ?_ GE101.out) | exact HB.out))) : w.heap.size ≤ gb102)); have n7_ := Aside0.mk ((by rw [hg]; exact Nat.ne_of_lt (blk_lt (g := gb101) (o := .cells #[.int .i64 a0_0, .int .i64 a0_1, .slice A0_2 l0_2.length c0_2] 24 (0, 0)) (by (with_reducible repeat (first | refine qe_ ?_ _ | refine qh_ ?_ | refine qd_ ?_ _)); exact BK101.out)) : gb101 ≠ gb102)); have n8_ := Aside0.mk ((by rw [hg]; exact Nat.ne_of_gt (blk_lt (g := gb101) (o := .cells #[.int .i64 a0_0, .int .i64 a0_1, .slice A0_2 l0_2.length c0_2] 24 (0, 0)) (by (with_reducible repeat (first | refine qe_ ?_ _ | refine qh_ ?_ | refine qd_ ?_ _)); exact BK101.out)) : gb102 ≠ gb101)); clear HO0_2; clear HO1_2; clear BK101; clear HB; have HO0_2 := n0_; have HO1_2 := n1_; have BK101 := n2_; have HB := n3_; have BK102 := n4_; have GW102 := n5_; have GE102 := n6_; have NB101_102 := n7_; have NB102_101 := n8_; clear n0_ n1_ n2_ n3_ n4_ n5_ n6_ n7_ n8_; clear hb hbox hg) | ((with_reducible refine qr_ (f := 9) rfl ?_); refine goesL_ (some 7) rfl rfl Try.func9 (by kernel_rfl) rfl #[] rfl (by (try simp only [List.map_toArray, List.map_cons, List.map_nil]); first | done | rfl | (simp only [List.length_drop, List.length_take]; rfl)) ?_; (with_reducible refine (law05_alive.calls k  true _ A4.out).mono ?_); rintro e w35 ⟨rfl, hb⟩; refine ⟨_, rfl, ?_⟩; have n0_ := Aside0.mk (Kd.qo_ (by (with_reducible repeat (first | apply Kd.qn_ | apply Kd.qm_ | apply Kd.V_drew)); exact HO0_2.out) hb); have n1_ := Aside0.mk (Kd.qo_ (by (with_reducible repeat (first | apply Kd.qn_ | apply Kd.qm_ | apply Kd.V_drew)); exact HO1_2.out) hb); have n2_ := Aside0.mk (qk_ (g := gb101) (o := .cells #[.int .i64 a0_0, .int .i64 a0_1, .slice A0_2 l0_2.length c0_2] 24 (0, 0)) (by (with_reducible repeat (first | refine qe_ ?_ _ | refine qh_ ?_ | refine qd_ ?_ _)); exact BK101.out) hb); have n3_ := Aside0.mk (qk_ (g := gb102) (o := .cells #[.int .i64 a1_0, .int .i64 a1_1, .slice A1_2 l1_2.length c1_2] 24 (0, 0)) (by (with_reducible repeat (first | refine qe_ ?_ _ | refine qh_ ?_ | refine qd_ ?_ _)); exact BK102.out) hb); have n4_ := Aside0.mk (ql_ (by repeat (first | (with_reducible first | exact HB.out | apply qc_ | apply qa_ | apply qb_ | refine qf_ ?_ GE101.out | refine qf_ ?_ GE102.out) | exact HB.out)) hb); clear HO0_2; clear HO1_2; clear BK101; clear BK102; clear HB; have HO0_2 := n0_; have HO1_2 := n1_; have BK101 := n2_; have BK102 := n3_; have HB := n4_; clear n0_ n1_ n2_ n3_ n4_; (try clear hb); (try clear hb2); (try clear hk); (try clear hi); have hnb36 := NB101_102.out; have hnc36 := NB102_101.out; have hcz37_0 : w35.cell? ⟨gb101, 0, none⟩ = some (.int .i64 a0_0) := (qg_ BK101.out 0).trans rfl; have hcz37_1 : w35.cell? ⟨gb101, 1, none⟩ = some (.int .i64 a0_1) := (qg_ BK101.out 1).trans rfl; have hcz37_2 : w35.cell? ⟨gb101, 2, none⟩ = some (.slice A0_2 l0_2.length c0_2) := (qg_ BK101.out 2).trans rfl; have hfz37_0 := qi_ BK101.out 0; have hfz37_1 := qi_ BK101.out 1; have hfz37_2 := qi_ BK101.out 2; have hcz38_0 : w35.cell? ⟨gb102, 0, none⟩ = some (.int .i64 a1_0) := (qg_ BK102.out 0).trans rfl; have hcz38_1 : w35.cell? ⟨gb102, 1, none⟩ = some (.int .i64 a1_1) := (qg_ BK102.out 1).trans rfl; have hcz38_2 : w35.cell? ⟨gb102, 2, none⟩ = some (.slice A1_2 l1_2.length c1_2) := (qg_ BK102.out 2).trans rfl; have hfz38_0 := qi_ BK102.out 0; have hfz38_1 := qi_ BK102.out 1; have hfz38_2 := qi_ BK102.out 2) | ((with_reducible refine qq_ (N := 11) rfl ?_); refine Kd.N_lit k24 _ 24 ?hg (N' := 11) ?hd (xs := ([(⟨a0_0, a0_1, l0_2⟩ : S24), (⟨a1_0, a1_1, l1_2⟩ : S24)] : List (S24))) (inner := [.int .i64 a0_0, .int .i64 a0_1, .slice A0_2 l0_2.length c0_2, .int .i64 a1_0, .int .i64 a1_1, .slice A1_2 l1_2.length c1_2]) (ok := (fun k_ => ((P0_2_ k_ ∨ P1_2_ k_) ∨ w.heap.size ≤ k_) ∧ k_ ≠ gb101 ∧ k_ ≠ gb102)) (okp := (fun k_ => ((P0_2_ k_ ∨ P1_2_ k_) ∨ w.heap.size ≤ k_) ∧ k_ ≠ gb101 ∧ k_ ≠ gb102)) ?hr ?hp (fun _ hk => hk) ((show ∀ k_, w35.heap.size ≤ k_ → (fun k_ => ((P0_2_ k_ ∨ P1_2_ k_) ∨ w.heap.size ≤ k_) ∧ k_ ≠ gb101 ∧ k_ ≠ gb102) k_ from fun k_ hk => ⟨(.inr (Nat.le_trans (qj_ (by repeat (first | (with_reducible first | exact HB.out | apply qc_ | apply qa_ | apply qb_ | refine qf_ ?_ GE101.out | refine qf_ ?_ GE102.out) | exact HB.out))) hk)), Kd.freshB (g := gb101) (o := .cells #[.int .i64 a0_0, .int .i64 a0_1, .slice A0_2 l0_2.length c0_2] 24 (0, 0)) (by (with_reducible repeat (first | refine qe_ ?_ _ | refine qh_ ?_ | refine qd_ ?_ _)); exact BK101.out) k_ hk, Kd.freshB (g := gb102) (o := .cells #[.int .i64 a1_0, .int .i64 a1_1, .slice A1_2 l1_2.length c1_2] 24 (0, 0)) (by (with_reducible repeat (first | refine qe_ ?_ _ | refine qh_ ?_ | refine qd_ ?_ _)); exact BK102.out) k_ hk⟩) _ (Nat.le_refl _)) (Below.refl _ _) (Nat.le_refl _) (by simp) ?_; (case hd => rfl); (case hg => rfl); (case hr => first | (go_simp; done) | (go_simp; rfl)); (case hp => exact (Reps.c3 (show Kd.FK k24 _ _ (⟨a0_0, a0_1, l0_2⟩ : S24) [.int .i64 a0_0, .int .i64 a0_1, .slice A0_2 l0_2.length c0_2] from (k24_mkF _ _ (⟨a0_0, a0_1, l0_2⟩ : S24) (Kd.V_reads' (Kd.V_mono (ok' := (fun k_ => ((P0_2_ k_ ∨ P1_2_ k_) ∨ w.heap.size ≤ k_) ∧ k_ ≠ gb101 ∧ k_ ≠ gb102)) (HO0_2.out) (fun k_ hk => ⟨hk.1.1, ⟨hk.1.2, hk.2⟩⟩))).2.1 (Kd.V_F (Kd.V_mono (ok' := (fun k_ => ((P0_2_ k_ ∨ P1_2_ k_) ∨ w.heap.size ≤ k_) ∧ k_ ≠ gb101 ∧ k_ ≠ gb102)) (HO0_2.out) (fun k_ hk => ⟨hk.1.1, ⟨hk.1.2, hk.2⟩⟩))))) (Reps.c3 (show Kd.FK k24 _ _ (⟨a1_0, a1_1, l1_2⟩ : S24) [.int .i64 a1_0, .int .i64 a1_1, .slice A1_2 l1_2.length c1_2] from (k24_mkF _ _ (⟨a1_0, a1_1, l1_2⟩ : S24) (Kd.V_reads' (Kd.V_mono (ok' := (fun k_ => ((P0_2_ k_ ∨ P1_2_ k_) ∨ w.heap.size ≤ k_) ∧ k_ ≠ gb101 ∧ k_ ≠ gb102)) (HO1_2.out) (fun k_ hk => ⟨hk.1.1, ⟨hk.1.2, hk.2⟩⟩))).2.1 (Kd.V_F (Kd.V_mono (ok' := (fun k_ => ((P0_2_ k_ ∨ P1_2_ k_) ∨ w.heap.size ≤ k_) ∧ k_ ≠ gb101 ∧ k_ ≠ gb102)) (HO1_2.out) (fun k_ hk => ⟨hk.1.1, ⟨hk.1.2, hk.2⟩⟩))))) (Reps.none _ _)))); intro v105 w39 ho40 hb hg_ hnew_; clear hg_ hnew_; (first | rw [← Ny104.out] at ho40 | (simp only [Int.reduceToNat] at ho40; rw [← Ny104.out] at ho40)); have n0_ := Aside0.mk (Kd.V_elder' (by (with_reducible repeat (first | apply Kd.qn_ | apply Kd.qm_ | apply Kd.V_drew)); exact HO0_2.out) (by first | exact Kd.N_base ho40 | exact Kd.S_base ho40) hb); have n1_ := Aside0.mk (Kd.V_elder' (by (with_reducible repeat (first | apply Kd.qn_ | apply Kd.qm_ | apply Kd.V_drew)); exact HO1_2.out) (by first | exact Kd.N_base ho40 | exact Kd.S_base ho40) hb); have n2_ := Aside0.mk (Kd.N_lower ho40 (qj_ (by repeat (first | (with_reducible first | exact HB.out | apply qc_ | apply qa_ | apply qb_ | refine qf_ ?_ GE101.out | refine qf_ ?_ GE102.out) | exact HB.out)))); have n3_ := Aside0.mk (qk_ (g := gb101) (o := .cells #[.int .i64 a0_0, .int .i64 a0_1, .slice A0_2 l0_2.length c0_2] 24 (0, 0)) (by (with_reducible repeat (first | refine qe_ ?_ _ | refine qh_ ?_ | refine qd_ ?_ _)); exact BK101.out) hb); have n4_ := Aside0.mk (qk_ (g := gb102) (o := .cells #[.int .i64 a1_0, .int .i64 a1_1, .slice A1_2 l1_2.length c1_2] 24 (0, 0)) (by (with_reducible repeat (first | refine qe_ ?_ _ | refine qh_ ?_ | refine qd_ ?_ _)); exact BK102.out) hb); have n5_ := Aside0.mk (ql_ (by repeat (first | (with_reducible first | exact HB.out | apply qc_ | apply qa_ | apply qb_ | refine qf_ ?_ GE101.out | refine qf_ ?_ GE102.out) | exact HB.out)) hb); clear HO0_2; clear HO1_2; clear BK101; clear BK102; clear HB; have HO0_2 := n0_; have HO1_2 := n1_; have HO106 := n2_; have BK101 := n3_; have BK102 := n4_; have HB := n5_; clear n0_ n1_ n2_ n3_ n4_ n5_; clear hb ho40; obtain ⟨Ao41, co41, eo41⟩ := Kd.N_slice HO106.out; subst eo41) | ((with_reducible refine qr_ (f := 10) rfl ?_); refine goesL_ (some 12) rfl rfl Try.func10 (by kernel_rfl) rfl #[.slice Ao41 y104.length co41] rfl (by (try simp only [List.map_toArray, List.map_cons, List.map_nil]); first | done | rfl | (simp only [List.length_drop, List.length_take]; rfl)) ?_; (with_reducible refine (law05_great.calls k _ _ y104 false _ ?side1 ?side2 A6.out).mono ?_); (case side1 => repeat (first | exact (Kd.N_reads' HO106.out).2.2 | (with_reducible refine Kd.qu_ ?_ _) | (with_reducible refine Kd.qt_ ?_ _) | (with_reducible refine Kd.C_drew ?_))); (case side2 => exact (Kd.N_reads' HO106.out).2.1); rintro e w42 ⟨rfl, hb⟩; refine ⟨_, rfl, ?_⟩; have n0_ := Aside0.mk (Kd.qo_ (by (with_reducible repeat (first | apply Kd.qn_ | apply Kd.qm_ | apply Kd.V_drew)); exact HO0_2.out) hb); have n1_ := Aside0.mk (Kd.qo_ (by (with_reducible repeat (first | apply Kd.qn_ | apply Kd.qm_ | apply Kd.V_drew)); exact HO1_2.out) hb); have n2_ := Aside0.mk (Kd.N_below (by (with_reducible repeat (first | apply Kd.N_alloc | apply Kd.N_drewN | apply Kd.N_drew)); exact HO106.out) hb); have n3_ := Aside0.mk (qk_ (g := gb101) (o := .cells #[.int .i64 a0_0, .int .i64 a0_1, .slice A0_2 l0_2.length c0_2] 24 (0, 0)) (by (with_reducible repeat (first | refine qe_ ?_ _ | refine qh_ ?_ | refine qd_ ?_ _)); exact BK101.out) hb); have n4_ := Aside0.mk (qk_ (g := gb102) (o := .cells #[.int .i64 a1_0, .int .i64 a1_1, .slice A1_2 l1_2.length c1_2] 24 (0, 0)) (by (with_reducible repeat (first | refine qe_ ?_ _ | refine qh_ ?_ | refine qd_ ?_ _)); exact BK102.out) hb); have n5_ := Aside0.mk (ql_ (by repeat (first | (with_reducible first | exact HB.out | apply qc_ | apply qa_ | apply qb_ | refine qf_ ?_ GE101.out | refine qf_ ?_ GE102.out) | exact HB.out)) hb); clear HO0_2; clear HO1_2; clear HO106; clear BK101; clear BK102; clear HB; have HO0_2 := n0_; have HO1_2 := n1_; have HO106 := n2_; have BK101 := n3_; have BK102 := n4_; have HB := n5_; clear n0_ n1_ n2_ n3_ n4_ n5_; (try clear hb); (try clear hb2); (try clear hk); (try clear hi)))
       have n0_ := Aside0.mk (Kd.V_drew HO0_2.out)
       have n1_ := Aside0.mk (Kd.V_drew HO1_2.out)
       have n2_ := Aside0.mk (Kd.N_drew HO106.out)
       have n3_ := Aside0.mk (qh_ BK101.out)
       have n4_ := Aside0.mk (qh_ BK102.out)
       have n5_ := Aside0.mk (qb_ HB.out)
       clear HO0_2
       clear HO1_2
       clear HO106
       clear BK101
       clear BK102
       clear HB
       have HO0_2 := n0_
       have HO1_2 := n1_
       have HO106 := n2_
       have BK101 := n3_
       have BK102 := n4_
       have HB := n5_
       clear n0_ n1_ n2_ n3_ n4_ n5_
       refine start_ (n := 37) (S := fun w' => w'.cell? ⟨gb101, 0, none⟩ = some (.int .i64 a0_0) ∧ w'.cell? ⟨gb101, 1, none⟩ = some (.int .i64 a0_1) ∧ w'.cell? ⟨gb101, 2, none⟩ = some (.slice A0_2 l0_2.length c0_2) ∧ w'.cell? ⟨gb102, 0, none⟩ = some (.int .i64 a1_0) ∧ w'.cell? ⟨gb102, 1, none⟩ = some (.int .i64 a1_1) ∧ w'.cell? ⟨gb102, 2, none⟩ = some (.slice A1_2 l1_2.length c1_2)) (ds := []) #[false,false,false,false,false,false,false,false,false,false,false,false,false,false,false,false,false,false,false,false,false,false,false,false,false,false,false,false,false,false,false,false,false,false,false,false,false] (by kernel_rfl) rfl rfl ⟨(qg_ BK101.out 0).trans rfl, (qg_ BK101.out 1).trans rfl, (qg_ BK101.out 2).trans rfl, (qg_ BK102.out 0).trans rfl, (qg_ BK102.out 1).trans rfl, (qg_ BK102.out 2).trans rfl⟩ (fun hHeld => ?_); refine with_tabW law05_StateAsks.tab5 law05_StateAsks.bits5 (fun HT_ HW_ => ?_)
       generalize w42.drew = w43 at HO0_2 HO1_2 HO106 BK101 BK102 HB hHeld ⊢
       refine take_ (i := 0) (N := some 13) (v := ?_) (a' := ?_) #[true,false,false,false,false,false,false,false,false,false,false,false,false,false,false,false,false,false,false,false,false,false,false,false,false,false,false,false,false,false,false,false,false,false,false,false,false] rfl rfl (qy_ HT_.out HW_.out (by kernel_rfl)) (fun _ _ _ h => h) (Or.inl ⟨by rfl, ?_⟩) hHeld ?_ ?_
       rotate_left
       ·rintro w' ⟨s0, s1, s2, s3, s4, s5⟩
        go_simp
        with_reducible rfl
       rotate_left
       ·simp only [Act.put, sa_, sb_, sc_, i64_w, i32_w]
        rfl
       refine take_ (i := 2) (N := some 15) (v := ?_) (a' := ?_) #[true,false,true,false,false,false,false,false,false,false,false,false,false,false,false,false,false,false,false,false,false,false,false,false,false,false,false,false,false,false,false,false,false,false,false,false,false] rfl rfl (qy_ HT_.out HW_.out (by kernel_rfl)) (fun _ _ _ h => h) (Or.inl ⟨by rfl, ?_⟩) hHeld ?_ ?_
       rotate_left
       ·rintro w' ⟨s0, s1, s2, s3, s4, s5⟩
        go_simp
        with_reducible rfl
       rotate_left
       ·simp only [Act.put, sa_, sb_, sc_, i64_w, i32_w]
        rfl
       refine one_ (i := 1) (N := some 14) #[true,true,true,false,false,false,false,false,false,false,false,false,false,false,false,false,false,false,false,false,false,false,false,false,false,false,false,false,false,false,false,false,false,false,false,false,false] rfl rfl (one_of HT_.out (by kernel_rfl)) (by decide) (fun K hK => ?_)
       refine goes_ Try.func21 (by kernel_rfl) rfl #[.agg #[.int .i64 a0_0, .int .i64 a0_1, .slice A0_2 l0_2.length c0_2]] (by rfl) rfl rfl (by (try simp only [List.map_toArray, List.map_cons, List.map_nil]); first | done | rfl | (simp only [List.length_drop, List.length_take]; rfl)) ?_
       with_reducible refine (state_Right.calls k a0_0 a0_1 _ _ l0_2 t108 _ ?side1 ?side2 A18.out).mono ?_
       (case side1 => repeat (first | exact (Kd.V_reads' HO0_2.out).2.2 | (with_reducible refine Kd.qu_ ?_ _) | (with_reducible refine Kd.qt_ ?_ _) | (with_reducible refine Kd.C_drew ?_)))
       (case side2 => exact (Kd.V_reads' HO0_2.out).2.1)
       rintro e w44 ⟨rfl, hb⟩
       refine ⟨_, rfl, ?_⟩
       have n0_ := Aside0.mk (Kd.qo_ (by (with_reducible repeat (first | apply Kd.qn_ | apply Kd.qm_ | apply Kd.V_drew)); exact HO0_2.out) hb)
       have n1_ := Aside0.mk (Kd.qo_ (by (with_reducible repeat (first | apply Kd.qn_ | apply Kd.qm_ | apply Kd.V_drew)); exact HO1_2.out) hb)
       have n2_ := Aside0.mk (Kd.N_below (by (with_reducible repeat (first | apply Kd.N_alloc | apply Kd.N_drewN | apply Kd.N_drew)); exact HO106.out) hb)
       have n3_ := Aside0.mk (qk_ (g := gb101) (o := .cells #[.int .i64 a0_0, .int .i64 a0_1, .slice A0_2 l0_2.length c0_2] 24 (0, 0)) (by (with_reducible repeat (first | refine qe_ ?_ _ | refine qh_ ?_ | refine qd_ ?_ _)); exact BK101.out) hb)
       have n4_ := Aside0.mk (qk_ (g := gb102) (o := .cells #[.int .i64 a1_0, .int .i64 a1_1, .slice A1_2 l1_2.length c1_2] 24 (0, 0)) (by (with_reducible repeat (first | refine qe_ ?_ _ | refine qh_ ?_ | refine qd_ ?_ _)); exact BK102.out) hb)
       have n5_ := Aside0.mk (ql_ (by repeat (first | (with_reducible first | exact HB.out | apply qc_ | apply qa_ | apply qb_ | refine qf_ ?_ GE101.out | refine qf_ ?_ GE102.out) | exact HB.out)) hb)
       clear HO0_2
       clear HO1_2
       clear HO106
       clear BK101
       clear BK102
       clear HB
       have HO0_2 := n0_
       have HO1_2 := n1_
       have HO106 := n2_
       have BK101 := n3_
       have BK102 := n4_
       have HB := n5_
       clear n0_ n1_ n2_ n3_ n4_ n5_
       (try clear hb)
       (try clear hb2)
       (try clear hk)
       (try clear hi)
       refine hK.out _ _ ⟨(qg_ BK101.out 0).trans rfl, (qg_ BK101.out 1).trans rfl, (qg_ BK101.out 2).trans rfl, (qg_ BK102.out 0).trans rfl, (qg_ BK102.out 1).trans rfl, (qg_ BK102.out 2).trans rfl⟩ (fun hHeld => ?_)
       clear hK K
       refine norm_ (a' := ?_) ?_ ?_
       rotate_left
       ·show Act.put _ (some 14) _ = _
        simp only [Act.put, sa_, sb_, sc_, i64_w, i32_w]
        rfl
       refine one_ (i := 3) (N := some 16) #[true,true,true,true,false,false,false,false,false,false,false,false,false,false,false,false,false,false,false,false,false,false,false,false,false,false,false,false,false,false,false,false,false,false,false,false,false] rfl rfl (one_of HT_.out (by kernel_rfl)) (by decide) (fun K hK => ?_)
       refine goes_ Try.func17 (by kernel_rfl) rfl #[.agg #[.int .i64 a0_0, .int .i64 a0_1, .slice A0_2 l0_2.length c0_2]] (by rfl) rfl rfl (by (try simp only [List.map_toArray, List.map_cons, List.map_nil]); first | done | rfl | (simp only [List.length_drop, List.length_take]; rfl)) ?_
       with_reducible refine (ref05_Right.calls k a0_0 a0_1 _ _ l0_2 t109 _ ?side1 ?side2 A19.out).mono ?_
       (case side1 => repeat (first | exact (Kd.V_reads' HO0_2.out).2.2 | (with_reducible refine Kd.qu_ ?_ _) | (with_reducible refine Kd.qt_ ?_ _) | (with_reducible refine Kd.C_drew ?_)))
       (case side2 => exact (Kd.V_reads' HO0_2.out).2.1)
       rintro e w45 ⟨rfl, hb⟩
       refine ⟨_, rfl, ?_⟩
       have n0_ := Aside0.mk (Kd.qo_ (by (with_reducible repeat (first | apply Kd.qn_ | apply Kd.qm_ | apply Kd.V_drew)); exact HO0_2.out) hb)
       have n1_ := Aside0.mk (Kd.qo_ (by (with_reducible repeat (first | apply Kd.qn_ | apply Kd.qm_ | apply Kd.V_drew)); exact HO1_2.out) hb)
       have n2_ := Aside0.mk (Kd.N_below (by (with_reducible repeat (first | apply Kd.N_alloc | apply Kd.N_drewN | apply Kd.N_drew)); exact HO106.out) hb)
       have n3_ := Aside0.mk (qk_ (g := gb101) (o := .cells #[.int .i64 a0_0, .int .i64 a0_1, .slice A0_2 l0_2.length c0_2] 24 (0, 0)) (by (with_reducible repeat (first | refine qe_ ?_ _ | refine qh_ ?_ | refine qd_ ?_ _)); exact BK101.out) hb)
       have n4_ := Aside0.mk (qk_ (g := gb102) (o := .cells #[.int .i64 a1_0, .int .i64 a1_1, .slice A1_2 l1_2.length c1_2] 24 (0, 0)) (by (with_reducible repeat (first | refine qe_ ?_ _ | refine qh_ ?_ | refine qd_ ?_ _)); exact BK102.out) hb)
       have n5_ := Aside0.mk (ql_ (by repeat (first | (with_reducible first | exact HB.out | apply qc_ | apply qa_ | apply qb_ | refine qf_ ?_ GE101.out | refine qf_ ?_ GE102.out) | exact HB.out)) hb)
       clear HO0_2
       clear HO1_2
       clear HO106
       clear BK101
       clear BK102
       clear HB
       have HO0_2 := n0_
       have HO1_2 := n1_
       have HO106 := n2_
       have BK101 := n3_
       have BK102 := n4_
       have HB := n5_
       clear n0_ n1_ n2_ n3_ n4_ n5_
       (try clear hb)
       (try clear hb2)
       (try clear hk)
       (try clear hi)
       refine hK.out _ _ ⟨(qg_ BK101.out 0).trans rfl, (qg_ BK101.out 1).trans rfl, (qg_ BK101.out 2).trans rfl, (qg_ BK102.out 0).trans rfl, (qg_ BK102.out 1).trans rfl, (qg_ BK102.out 2).trans rfl⟩ (fun hHeld => ?_)
       clear hK K
       refine norm_ (a' := ?_) ?_ ?_
       rotate_left
       ·show Act.put _ (some 16) _ = _
        simp only [Act.put, sa_, sb_, sc_, i64_w, i32_w]
        rfl
       refine pure_ (i := 4) (N := some 17) (v := ?_) (a' := ?_) #[true,true,true,true,true,false,false,false,false,false,false,false,false,false,false,false,false,false,false,false,false,false,false,false,false,false,false,false,false,false,false,false,false,false,false,false,false] rfl rfl (any_of HT_.out (by kernel_rfl)) (fun _ _ _ h => h) (Or.inl ⟨by rfl, ?_⟩) ?_ ?_
       rotate_left
       ·intro w'
        go_simp
        with_reducible rfl
       rotate_left
       ·simp only [Act.put, sa_, sb_, sc_, i64_w, i32_w]
        rfl
       refine pure_ (i := 5) (N := some 18) (v := ?_) (a' := ?_) #[true,true,true,true,true,true,false,false,false,false,false,false,false,false,false,false,false,false,false,false,false,false,false,false,false,false,false,false,false,false,false,false,false,false,false,false,false] rfl rfl (any_of HT_.out (by kernel_rfl)) (fun _ _ _ h => h) (Or.inl ⟨by rfl, ?_⟩) ?_ ?_
       rotate_left
       ·intro w'
        go_simp
        with_reducible rfl
       rotate_left
       ·simp only [Act.put, sa_, sb_, sc_, i64_w, i32_w]
        rfl
       refine take_ (i := 6) (N := some 19) (v := ?_) (a' := ?_) #[true,true,true,true,true,true,true,false,false,false,false,false,false,false,false,false,false,false,false,false,false,false,false,false,false,false,false,false,false,false,false,false,false,false,false,false,false] rfl rfl (qy_ HT_.out HW_.out (by kernel_rfl)) (fun _ _ _ h => h) (Or.inl ⟨by rfl, ?_⟩) hHeld ?_ ?_
       rotate_left
       ·rintro w' ⟨s0, s1, s2, s3, s4, s5⟩
        go_simp
        with_reducible rfl
       rotate_left
       ·simp only [Act.put, sa_, sb_, sc_, i64_w, i32_w]
        rfl
       refine take_ (i := 8) (N := some 21) (v := ?_) (a' := ?_) #[true,true,true,true,true,true,true,false,true,false,false,false,false,false,false,false,false,false,false,false,false,false,false,false,false,false,false,false,false,false,false,false,false,false,false,false,false] rfl rfl (qy_ HT_.out HW_.out (by kernel_rfl)) (fun _ _ _ h => h) (Or.inl ⟨by rfl, ?_⟩) hHeld ?_ ?_
       rotate_left
       ·rintro w' ⟨s0, s1, s2, s3, s4, s5⟩
        go_simp
        with_reducible rfl
       rotate_left
       ·simp only [Act.put, sa_, sb_, sc_, i64_w, i32_w]
        rfl
       refine one_ (i := 7) (N := some 20) #[true,true,true,true,true,true,true,true,true,false,false,false,false,false,false,false,false,false,false,false,false,false,false,false,false,false,false,false,false,false,false,false,false,false,false,false,false] rfl rfl (one_of HT_.out (by kernel_rfl)) (by decide) (fun K hK => ?_)
       refine goes_ Try.func24 (by kernel_rfl) rfl #[.agg #[.int .i64 a0_0, .int .i64 a0_1, .slice A0_2 l0_2.length c0_2]] (by rfl) rfl rfl (by (try simp only [List.map_toArray, List.map_cons, List.map_nil]); first | done | rfl | (simp only [List.length_drop, List.length_take]; rfl)) ?_
       with_reducible refine (state_Top.calls k a0_0 a0_1 _ _ l0_2 t110 _ ?side1 ?side2 A21.out).mono ?_
       (case side1 => repeat (first | exact (Kd.V_reads' HO0_2.out).2.2 | (with_reducible refine Kd.qu_ ?_ _) | (with_reducible refine Kd.qt_ ?_ _) | (with_reducible refine Kd.C_drew ?_)))
       (case side2 => exact (Kd.V_reads' HO0_2.out).2.1)
       rintro e w46 ⟨rfl, hb⟩
       refine ⟨_, rfl, ?_⟩
       have n0_ := Aside0.mk (Kd.qo_ (by (with_reducible repeat (first | apply Kd.qn_ | apply Kd.qm_ | apply Kd.V_drew)); exact HO0_2.out) hb)
       have n1_ := Aside0.mk (Kd.qo_ (by (with_reducible repeat (first | apply Kd.qn_ | apply Kd.qm_ | apply Kd.V_drew)); exact HO1_2.out) hb)
       have n2_ := Aside0.mk (Kd.N_below (by (with_reducible repeat (first | apply Kd.N_alloc | apply Kd.N_drewN | apply Kd.N_drew)); exact HO106.out) hb)
       have n3_ := Aside0.mk (qk_ (g := gb101) (o := .cells #[.int .i64 a0_0, .int .i64 a0_1, .slice A0_2 l0_2.length c0_2] 24 (0, 0)) (by (with_reducible repeat (first | refine qe_ ?_ _ | refine qh_ ?_ | refine qd_ ?_ _)); exact BK101.out) hb)
       have n4_ := Aside0.mk (qk_ (g := gb102) (o := .cells #[.int .i64 a1_0, .int .i64 a1_1, .slice A1_2 l1_2.length c1_2] 24 (0, 0)) (by (with_reducible repeat (first | refine qe_ ?_ _ | refine qh_ ?_ | refine qd_ ?_ _)); exact BK102.out) hb)
       have n5_ := Aside0.mk (ql_ (by repeat (first | (with_reducible first | exact HB.out | apply qc_ | apply qa_ | apply qb_ | refine qf_ ?_ GE101.out | refine qf_ ?_ GE102.out) | exact HB.out)) hb)
       clear HO0_2
       clear HO1_2
       clear HO106
       clear BK101
       clear BK102
       clear HB
       have HO0_2 := n0_
       have HO1_2 := n1_
       have HO106 := n2_
       have BK101 := n3_
       have BK102 := n4_
       have HB := n5_
       clear n0_ n1_ n2_ n3_ n4_ n5_
       (try clear hb)
       (try clear hb2)
       (try clear hk)
       (try clear hi)
       refine hK.out _ _ ⟨(qg_ BK101.out 0).trans rfl, (qg_ BK101.out 1).trans rfl, (qg_ BK101.out 2).trans rfl, (qg_ BK102.out 0).trans rfl, (qg_ BK102.out 1).trans rfl, (qg_ BK102.out 2).trans rfl⟩ (fun hHeld => ?_)
       clear hK K
       refine norm_ (a' := ?_) ?_ ?_
       rotate_left
       ·show Act.put _ (some 20) _ = _
        simp only [Act.put, sa_, sb_, sc_, i64_w, i32_w]
        rfl
       refine one_ (i := 9) (N := some 22) #[true,true,true,true,true,true,true,true,true,true,false,false,false,false,false,false,false,false,false,false,false,false,false,false,false,false,false,false,false,false,false,false,false,false,false,false,false] rfl rfl (one_of HT_.out (by kernel_rfl)) (by decide) (fun K hK => ?_)
       refine goes_ Try.func23 (by kernel_rfl) rfl #[.agg #[.int .i64 a0_0, .int .i64 a0_1, .slice A0_2 l0_2.length c0_2]] (by rfl) rfl rfl (by (try simp only [List.map_toArray, List.map_cons, List.map_nil]); first | done | rfl | (simp only [List.length_drop, List.length_take]; rfl)) ?_
       with_reducible refine (ref05_Top.calls k a0_0 a0_1 _ _ l0_2 t111 _ ?side1 ?side2 A22.out).mono ?_
       (case side1 => repeat (first | exact (Kd.V_reads' HO0_2.out).2.2 | (with_reducible refine Kd.qu_ ?_ _) | (with_reducible refine Kd.qt_ ?_ _) | (with_reducible refine Kd.C_drew ?_)))
       (case side2 => exact (Kd.V_reads' HO0_2.out).2.1)
       rintro e w47 ⟨rfl, hb⟩
       refine ⟨_, rfl, ?_⟩
       have n0_ := Aside0.mk (Kd.qo_ (by (with_reducible repeat (first | apply Kd.qn_ | apply Kd.qm_ | apply Kd.V_drew)); exact HO0_2.out) hb)
       have n1_ := Aside0.mk (Kd.qo_ (by (with_reducible repeat (first | apply Kd.qn_ | apply Kd.qm_ | apply Kd.V_drew)); exact HO1_2.out) hb)
       have n2_ := Aside0.mk (Kd.N_below (by (with_reducible repeat (first | apply Kd.N_alloc | apply Kd.N_drewN | apply Kd.N_drew)); exact HO106.out) hb)
       have n3_ := Aside0.mk (qk_ (g := gb101) (o := .cells #[.int .i64 a0_0, .int .i64 a0_1, .slice A0_2 l0_2.length c0_2] 24 (0, 0)) (by (with_reducible repeat (first | refine qe_ ?_ _ | refine qh_ ?_ | refine qd_ ?_ _)); exact BK101.out) hb)
       have n4_ := Aside0.mk (qk_ (g := gb102) (o := .cells #[.int .i64 a1_0, .int .i64 a1_1, .slice A1_2 l1_2.length c1_2] 24 (0, 0)) (by (with_reducible repeat (first | refine qe_ ?_ _ | refine qh_ ?_ | refine qd_ ?_ _)); exact BK102.out) hb)
       have n5_ := Aside0.mk (ql_ (by repeat (first | (with_reducible first | exact HB.out | apply qc_ | apply qa_ | apply qb_ | refine qf_ ?_ GE101.out | refine qf_ ?_ GE102.out) | exact HB.out)) hb)
       clear HO0_2
       clear HO1_2
       clear HO106
       clear BK101
       clear BK102
       clear HB
       have HO0_2 := n0_
       have HO1_2 := n1_
       have HO106 := n2_
       have BK101 := n3_
       have BK102 := n4_
       have HB := n5_
       clear n0_ n1_ n2_ n3_ n4_ n5_
       (try clear hb)
       (try clear hb2)
       (try clear hk)
       (try clear hi)
       refine hK.out _ _ ⟨(qg_ BK101.out 0).trans rfl, (qg_ BK101.out 1).trans rfl, (qg_ BK101.out 2).trans rfl, (qg_ BK102.out 0).trans rfl, (qg_ BK102.out 1).trans rfl, (qg_ BK102.out 2).trans rfl⟩ (fun hHeld => ?_)
       clear hK K
       refine norm_ (a' := ?_) ?_ ?_
       rotate_left
       ·show Act.put _ (some 22) _ = _
        simp only [Act.put, sa_, sb_, sc_, i64_w, i32_w]
        rfl
       refine pure_ (i := 10) (N := some 23) (v := ?_) (a' := ?_) #[true,true,true,true,true,true,true,true,true,true,true,false,false,false,false,false,false,false,false,false,false,false,false,false,false,false,false,false,false,false,false,false,false,false,false,false,false] rfl rfl (any_of HT_.out (by kernel_rfl)) (fun _ _ _ h => h) (Or.inl ⟨by rfl, ?_⟩) ?_ ?_
       rotate_left
       ·intro w'
        go_simp
        with_reducible rfl
       rotate_left
       ·simp only [Act.put, sa_, sb_, sc_, i64_w, i32_w]
        rfl
       refine pure_ (i := 11) (N := some 24) (v := ?_) (a' := ?_) #[true,true,true,true,true,true,true,true,true,true,true,true,false,false,false,false,false,false,false,false,false,false,false,false,false,false,false,false,false,false,false,false,false,false,false,false,false] rfl rfl (any_of HT_.out (by kernel_rfl)) (fun _ _ _ h => h) (Or.inl ⟨by rfl, ?_⟩) ?_ ?_
       rotate_left
       ·intro w'
        go_simp
        with_reducible rfl
       rotate_left
       ·simp only [Act.put, sa_, sb_, sc_, i64_w, i32_w]
        rfl
       refine pure_ (i := 12) (N := some 25) (v := ?_) (a' := ?_) #[true,true,true,true,true,true,true,true,true,true,true,true,true,false,false,false,false,false,false,false,false,false,false,false,false,false,false,false,false,false,false,false,false,false,false,false,false] rfl rfl (any_of HT_.out (by kernel_rfl)) (fun _ _ _ h => h) (Or.inl ⟨by rfl, ?_⟩) ?_ ?_
       rotate_left
       ·intro w'
        go_simp
        with_reducible rfl
       rotate_left
       ·simp only [Act.put, sa_, sb_, sc_, i64_w, i32_w]
        rfl
       refine take_ (i := 13) (N := some 26) (v := ?_) (a' := ?_) #[true,true,true,true,true,true,true,true,true,true,true,true,true,true,false,false,false,false,false,false,false,false,false,false,false,false,false,false,false,false,false,false,false,false,false,false,false] rfl rfl (qy_ HT_.out HW_.out (by kernel_rfl)) (fun _ _ _ h => h) (Or.inl ⟨by rfl, ?_⟩) hHeld ?_ ?_
       rotate_left
       ·rintro w' ⟨s0, s1, s2, s3, s4, s5⟩
        go_simp
        with_reducible rfl
       rotate_left
       ·simp only [Act.put, sa_, sb_, sc_, i64_w, i32_w]
        rfl
       refine take_ (i := 14) (N := some 27) (v := ?_) (a' := ?_) #[true,true,true,true,true,true,true,true,true,true,true,true,true,true,true,false,false,false,false,false,false,false,false,false,false,false,false,false,false,false,false,false,false,false,false,false,false] rfl rfl (qy_ HT_.out HW_.out (by kernel_rfl)) (fun _ _ _ h => h) (Or.inl ⟨by rfl, ?_⟩) hHeld ?_ ?_
       rotate_left
       ·rintro w' ⟨s0, s1, s2, s3, s4, s5⟩
        go_simp
        with_reducible rfl
       rotate_left
       ·simp only [Act.put, sa_, sb_, sc_, i64_w, i32_w]
        rfl
       refine take_ (i := 16) (N := some 29) (v := ?_) (a' := ?_) #[true,true,true,true,true,true,true,true,true,true,true,true,true,true,true,false,true,false,false,false,false,false,false,false,false,false,false,false,false,false,false,false,false,false,false,false,false] rfl rfl (qy_ HT_.out HW_.out (by kernel_rfl)) (fun _ _ _ h => h) (Or.inl ⟨by rfl, ?_⟩) hHeld ?_ ?_
       rotate_left
       ·rintro w' ⟨s0, s1, s2, s3, s4, s5⟩
        go_simp
        with_reducible rfl
       rotate_left
       ·simp only [Act.put, sa_, sb_, sc_, i64_w, i32_w]
        rfl
       refine take_ (i := 17) (N := some 30) (v := ?_) (a' := ?_) #[true,true,true,true,true,true,true,true,true,true,true,true,true,true,true,false,true,true,false,false,false,false,false,false,false,false,false,false,false,false,false,false,false,false,false,false,false] rfl rfl (qy_ HT_.out HW_.out (by kernel_rfl)) (fun _ _ _ h => h) (Or.inl ⟨by rfl, ?_⟩) hHeld ?_ ?_
       rotate_left
       ·rintro w' ⟨s0, s1, s2, s3, s4, s5⟩
        go_simp
        with_reducible rfl
       rotate_left
       ·simp only [Act.put, sa_, sb_, sc_, i64_w, i32_w]
        rfl
       refine one_ (i := 15) (N := some 28) #[true,true,true,true,true,true,true,true,true,true,true,true,true,true,true,true,true,true,false,false,false,false,false,false,false,false,false,false,false,false,false,false,false,false,false,false,false] rfl rfl (one_of HT_.out (by kernel_rfl)) (by decide) (fun K hK => ?_)
       refine goes_ Try.func26 (by kernel_rfl) rfl #[.agg #[.int .i64 a0_0, .int .i64 a0_1, .slice A0_2 l0_2.length c0_2], .agg #[.int .i64 a1_0, .int .i64 a1_1, .slice A1_2 l1_2.length c1_2]] (by rfl) rfl rfl (by (try simp only [List.map_toArray, List.map_cons, List.map_nil]); first | done | rfl | (simp only [List.length_drop, List.length_take]; rfl)) ?_
       with_reducible refine (state_Same.calls k a0_0 a0_1 _ _ l0_2 a1_0 a1_1 _ _ l1_2 t112 _ ?side1 ?side2 ?side3 ?side4 A24.out).mono ?_
       (case side1 => repeat (first | exact (Kd.V_reads' HO0_2.out).2.2 | (with_reducible refine Kd.qu_ ?_ _) | (with_reducible refine Kd.qt_ ?_ _) | (with_reducible refine Kd.C_drew ?_)))
       (case side2 => exact (Kd.V_reads' HO0_2.out).2.1)
       (case side3 => repeat (first | exact (Kd.V_reads' HO1_2.out).2.2 | (with_reducible refine Kd.qu_ ?_ _) | (with_reducible refine Kd.qt_ ?_ _) | (with_reducible refine Kd.C_drew ?_)))
       (case side4 => exact (Kd.V_reads' HO1_2.out).2.1)
       rintro e w48 ⟨rfl, hb⟩
       refine ⟨_, rfl, ?_⟩
       have n0_ := Aside0.mk (Kd.qo_ (by (with_reducible repeat (first | apply Kd.qn_ | apply Kd.qm_ | apply Kd.V_drew)); exact HO0_2.out) hb)
       have n1_ := Aside0.mk (Kd.qo_ (by (with_reducible repeat (first | apply Kd.qn_ | apply Kd.qm_ | apply Kd.V_drew)); exact HO1_2.out) hb)
       have n2_ := Aside0.mk (Kd.N_below (by (with_reducible repeat (first | apply Kd.N_alloc | apply Kd.N_drewN | apply Kd.N_drew)); exact HO106.out) hb)
       have n3_ := Aside0.mk (qk_ (g := gb101) (o := .cells #[.int .i64 a0_0, .int .i64 a0_1, .slice A0_2 l0_2.length c0_2] 24 (0, 0)) (by (with_reducible repeat (first | refine qe_ ?_ _ | refine qh_ ?_ | refine qd_ ?_ _)); exact BK101.out) hb)
       have n4_ := Aside0.mk (qk_ (g := gb102) (o := .cells #[.int .i64 a1_0, .int .i64 a1_1, .slice A1_2 l1_2.length c1_2] 24 (0, 0)) (by (with_reducible repeat (first | refine qe_ ?_ _ | refine qh_ ?_ | refine qd_ ?_ _)); exact BK102.out) hb)
       have n5_ := Aside0.mk (ql_ (by repeat (first | (with_reducible first | exact HB.out | apply qc_ | apply qa_ | apply qb_ | refine qf_ ?_ GE101.out | refine qf_ ?_ GE102.out) | exact HB.out)) hb)
       clear HO0_2
       clear HO1_2
       clear HO106
       clear BK101
       clear BK102
       clear HB
       have HO0_2 := n0_
       have HO1_2 := n1_
       have HO106 := n2_
       have BK101 := n3_
       have BK102 := n4_
       have HB := n5_
       clear n0_ n1_ n2_ n3_ n4_ n5_
       (try clear hb)
       (try clear hb2)
       (try clear hk)
       (try clear hi)
       refine hK.out _ _ ⟨(qg_ BK101.out 0).trans rfl, (qg_ BK101.out 1).trans rfl, (qg_ BK101.out 2).trans rfl, (qg_ BK102.out 0).trans rfl, (qg_ BK102.out 1).trans rfl, (qg_ BK102.out 2).trans rfl⟩ (fun hHeld => ?_)
       clear hK K
       refine norm_ (a' := ?_) ?_ ?_
       rotate_left
       ·show Act.put _ (some 28) _ = _
        simp only [Act.put, sa_, sb_, sc_, i64_w, i32_w]
        rfl
       refine one_ (i := 18) (N := some 31) #[true,true,true,true,true,true,true,true,true,true,true,true,true,true,true,true,true,true,true,false,false,false,false,false,false,false,false,false,false,false,false,false,false,false,false,false,false] rfl rfl (one_of HT_.out (by kernel_rfl)) (by decide) (fun K hK => ?_)
       refine goes_ Try.func16 (by kernel_rfl) rfl #[.agg #[.int .i64 a0_0, .int .i64 a0_1, .slice A0_2 l0_2.length c0_2], .agg #[.int .i64 a1_0, .int .i64 a1_1, .slice A1_2 l1_2.length c1_2]] (by rfl) rfl rfl (by (try simp only [List.map_toArray, List.map_cons, List.map_nil]); first | done | rfl | (simp only [List.length_drop, List.length_take]; rfl)) ?_
       with_reducible refine (ref05_Same.calls k a0_0 a0_1 _ _ l0_2 a1_0 a1_1 _ _ l1_2 t113 _ ?side1 ?side2 ?side3 ?side4 A25.out).mono ?_
       (case side1 => repeat (first | exact (Kd.V_reads' HO0_2.out).2.2 | (with_reducible refine Kd.qu_ ?_ _) | (with_reducible refine Kd.qt_ ?_ _) | (with_reducible refine Kd.C_drew ?_)))
       (case side2 => exact (Kd.V_reads' HO0_2.out).2.1)
       (case side3 => repeat (first | exact (Kd.V_reads' HO1_2.out).2.2 | (with_reducible refine Kd.qu_ ?_ _) | (with_reducible refine Kd.qt_ ?_ _) | (with_reducible refine Kd.C_drew ?_)))
       (case side4 => exact (Kd.V_reads' HO1_2.out).2.1)
       rintro e w49 ⟨rfl, hb⟩
       refine ⟨_, rfl, ?_⟩
       have n0_ := Aside0.mk (Kd.qo_ (by (with_reducible repeat (first | apply Kd.qn_ | apply Kd.qm_ | apply Kd.V_drew)); exact HO0_2.out) hb)
       have n1_ := Aside0.mk (Kd.qo_ (by (with_reducible repeat (first | apply Kd.qn_ | apply Kd.qm_ | apply Kd.V_drew)); exact HO1_2.out) hb)
       have n2_ := Aside0.mk (Kd.N_below (by (with_reducible repeat (first | apply Kd.N_alloc | apply Kd.N_drewN | apply Kd.N_drew)); exact HO106.out) hb)
       have n3_ := Aside0.mk (qk_ (g := gb101) (o := .cells #[.int .i64 a0_0, .int .i64 a0_1, .slice A0_2 l0_2.length c0_2] 24 (0, 0)) (by (with_reducible repeat (first | refine qe_ ?_ _ | refine qh_ ?_ | refine qd_ ?_ _)); exact BK101.out) hb)
       have n4_ := Aside0.mk (qk_ (g := gb102) (o := .cells #[.int .i64 a1_0, .int .i64 a1_1, .slice A1_2 l1_2.length c1_2] 24 (0, 0)) (by (with_reducible repeat (first | refine qe_ ?_ _ | refine qh_ ?_ | refine qd_ ?_ _)); exact BK102.out) hb)
       have n5_ := Aside0.mk (ql_ (by repeat (first | (with_reducible first | exact HB.out | apply qc_ | apply qa_ | apply qb_ | refine qf_ ?_ GE101.out | refine qf_ ?_ GE102.out) | exact HB.out)) hb)
       clear HO0_2
       clear HO1_2
       clear HO106
       clear BK101
       clear BK102
       clear HB
       have HO0_2 := n0_
       have HO1_2 := n1_
       have HO106 := n2_
       have BK101 := n3_
       have BK102 := n4_
       have HB := n5_
       clear n0_ n1_ n2_ n3_ n4_ n5_
       (try clear hb)
       (try clear hb2)
       (try clear hk)
       (try clear hi)
       refine hK.out _ _ ⟨(qg_ BK101.out 0).trans rfl, (qg_ BK101.out 1).trans rfl, (qg_ BK101.out 2).trans rfl, (qg_ BK102.out 0).trans rfl, (qg_ BK102.out 1).trans rfl, (qg_ BK102.out 2).trans rfl⟩ (fun hHeld => ?_)
       clear hK K
       refine norm_ (a' := ?_) ?_ ?_
       rotate_left
       ·show Act.put _ (some 31) _ = _
        simp only [Act.put, sa_, sb_, sc_, i64_w, i32_w]
        rfl
       refine pure_ (i := 19) (N := some 32) (v := ?_) (a' := ?_) #[true,true,true,true,true,true,true,true,true,true,true,true,true,true,true,true,true,true,true,true,false,false,false,false,false,false,false,false,false,false,false,false,false,false,false,false,false] rfl rfl (any_of HT_.out (by kernel_rfl)) (fun _ _ _ h => h) (Or.inl ⟨by rfl, ?_⟩) ?_ ?_
       rotate_left
       ·intro w'
        go_simp
        with_reducible rfl
       rotate_left
       ·simp only [Act.put, sa_, sb_, sc_, i64_w, i32_w]
        rfl
       refine pure_ (i := 20) (N := some 33) (v := ?_) (a' := ?_) #[true,true,true,true,true,true,true,true,true,true,true,true,true,true,true,true,true,true,true,true,true,false,false,false,false,false,false,false,false,false,false,false,false,false,false,false,false] rfl rfl (any_of HT_.out (by kernel_rfl)) (fun _ _ _ h => h) (Or.inl ⟨by rfl, ?_⟩) ?_ ?_
       rotate_left
       ·intro w'
        go_simp
        with_reducible rfl
       rotate_left
       ·simp only [Act.put, sa_, sb_, sc_, i64_w, i32_w]
        rfl
       refine pure_ (i := 21) (N := some 34) (v := ?_) (a' := ?_) #[true,true,true,true,true,true,true,true,true,true,true,true,true,true,true,true,true,true,true,true,true,true,false,false,false,false,false,false,false,false,false,false,false,false,false,false,false] rfl rfl (any_of HT_.out (by kernel_rfl)) (fun _ _ _ h => h) (Or.inl ⟨by rfl, ?_⟩) ?_ ?_
       rotate_left
       ·intro w'
        go_simp
        with_reducible rfl
       rotate_left
       ·simp only [Act.put, sa_, sb_, sc_, i64_w, i32_w]
        rfl
       refine take_ (i := 22) (N := some 35) (v := ?_) (a' := ?_) #[true,true,true,true,true,true,true,true,true,true,true,true,true,true,true,true,true,true,true,true,true,true,true,false,false,false,false,false,false,false,false,false,false,false,false,false,false] rfl rfl (qy_ HT_.out HW_.out (by kernel_rfl)) (fun _ _ _ h => h) (Or.inl ⟨by rfl, ?_⟩) hHeld ?_ ?_
       rotate_left
       ·rintro w' ⟨s0, s1, s2, s3, s4, s5⟩
        go_simp
        with_reducible rfl
       rotate_left
       ·simp only [Act.put, sa_, sb_, sc_, i64_w, i32_w]
        rfl
       refine take_ (i := 24) (N := some 37) (v := ?_) (a' := ?_) #[true,true,true,true,true,true,true,true,true,true,true,true,true,true,true,true,true,true,true,true,true,true,true,false,true,false,false,false,false,false,false,false,false,false,false,false,false] rfl rfl (qy_ HT_.out HW_.out (by kernel_rfl)) (fun _ _ _ h => h) (Or.inl ⟨by rfl, ?_⟩) hHeld ?_ ?_
       rotate_left
       ·rintro w' ⟨s0, s1, s2, s3, s4, s5⟩
        go_simp
        with_reducible rfl
       rotate_left
       ·simp only [Act.put, sa_, sb_, sc_, i64_w, i32_w]
        rfl
       refine one_ (i := 23) (N := some 36) #[true,true,true,true,true,true,true,true,true,true,true,true,true,true,true,true,true,true,true,true,true,true,true,true,true,false,false,false,false,false,false,false,false,false,false,false,false] rfl rfl (one_of HT_.out (by kernel_rfl)) (by decide) (fun K hK => ?_)
       refine goes_ Try.func27 (by kernel_rfl) rfl #[.agg #[.int .i64 a0_0, .int .i64 a0_1, .slice A0_2 l0_2.length c0_2]] (by rfl) rfl rfl (by (try simp only [List.map_toArray, List.map_cons, List.map_nil]); first | done | rfl | (simp only [List.length_drop, List.length_take]; rfl)) ?_
       with_reducible refine (state_Copy.calls a0_0 a0_1 _ _ l0_2 t114 t115 t116 _ ?side1 ?side2 A27.out).mono ?_
       (case side1 => repeat (first | exact (Kd.V_reads' HO0_2.out).2.2 | (with_reducible refine Kd.qu_ ?_ _) | (with_reducible refine Kd.qt_ ?_ _) | (with_reducible refine Kd.C_drew ?_)))
       (case side2 => exact (Kd.V_reads' HO0_2.out).2.1)
       rintro e w50 ⟨v117, rfl, ho0, hb⟩
       refine ⟨_, rfl, ?_⟩
       have n0_ := Aside0.mk (Kd.V_elder' (by (with_reducible repeat (first | apply Kd.qn_ | apply Kd.qm_ | apply Kd.V_drew)); exact HO0_2.out) (Kd.R_base ho0) hb)
       have n1_ := Aside0.mk (Kd.V_elder' (by (with_reducible repeat (first | apply Kd.qn_ | apply Kd.qm_ | apply Kd.V_drew)); exact HO1_2.out) (Kd.R_base ho0) hb)
       have n2_ := Aside0.mk (Kd.N_elder' (by (with_reducible repeat (first | apply Kd.N_alloc | apply Kd.N_drewN | apply Kd.N_drew)); exact HO106.out) (Kd.R_base ho0) hb)
       have n3_ := Aside0.mk (Kd.R_lower (Kd.R_newM (M := fun k_ => (w.heap.size ≤ k_)) ho0 (qj_ (by repeat (first | (with_reducible first | exact HB.out | apply qc_ | apply qa_ | apply qb_ | refine qf_ ?_ GE101.out | refine qf_ ?_ GE102.out) | exact HB.out))) (fun k_ h_ => h_)) (qj_ (by repeat (first | (with_reducible first | exact HB.out | apply qc_ | apply qa_ | apply qb_ | refine qf_ ?_ GE101.out | refine qf_ ?_ GE102.out) | exact HB.out))))
       have n4_ := Aside0.mk (qk_ (g := gb101) (o := .cells #[.int .i64 a0_0, .int .i64 a0_1, .slice A0_2 l0_2.length c0_2] 24 (0, 0)) (by (with_reducible repeat (first | refine qe_ ?_ _ | refine qh_ ?_ | refine qd_ ?_ _)); exact BK101.out) hb)
       have n5_ := Aside0.mk (qk_ (g := gb102) (o := .cells #[.int .i64 a1_0, .int .i64 a1_1, .slice A1_2 l1_2.length c1_2] 24 (0, 0)) (by (with_reducible repeat (first | refine qe_ ?_ _ | refine qh_ ?_ | refine qd_ ?_ _)); exact BK102.out) hb)
       have n6_ := Aside0.mk (ql_ (by repeat (first | (with_reducible first | exact HB.out | apply qc_ | apply qa_ | apply qb_ | refine qf_ ?_ GE101.out | refine qf_ ?_ GE102.out) | exact HB.out)) hb)
       clear HO0_2
       clear HO1_2
       clear HO106
       clear BK101
       clear BK102
       clear HB
       have HO0_2 := n0_
       have HO1_2 := n1_
       have HO106 := n2_
       have HO118 := n3_
       have BK101 := n4_
       have BK102 := n5_
       have HB := n6_
       clear n0_ n1_ n2_ n3_ n4_ n5_ n6_
       (try clear hb)
       (try clear hb2)
       (try clear hk)
       (try clear hi)
       (try clear ho0)
       obtain ⟨Ao51, co51, eo51⟩ := Kd.R_slice HO118.out
       (first | subst eo51 | (injection eo51 with f1_ f2_ f3_; have f4_ := f1_.symm; have f5_ := f3_.symm; clear f1_ f2_ f3_; subst f4_; subst f5_))
       refine hK.out _ _ ⟨(qg_ BK101.out 0).trans rfl, (qg_ BK101.out 1).trans rfl, (qg_ BK101.out 2).trans rfl, (qg_ BK102.out 0).trans rfl, (qg_ BK102.out 1).trans rfl, (qg_ BK102.out 2).trans rfl⟩ (fun hHeld => ?_)
       clear hK K
       refine norm_ (a' := ?_) ?_ ?_
       rotate_left
       ·show Act.put _ (some 36) _ = _
        simp only [Act.put, sa_, sb_, sc_, i64_w, i32_w]
        rfl
       refine one_ (i := 25) (N := some 38) #[true,true,true,true,true,true,true,true,true,true,true,true,true,true,true,true,true,true,true,true,true,true,true,true,true,true,false,false,false,false,false,false,false,false,false,false,false] rfl rfl (one_of HT_.out (by kernel_rfl)) (by decide) (fun K hK => ?_)
       refine goes_ Try.func16 (by kernel_rfl) rfl #[.agg #[.int .i64 t114, .int .i64 t115, .slice Ao51 t116.length co51], .agg #[.int .i64 a0_0, .int .i64 a0_1, .slice A0_2 l0_2.length c0_2]] (by rfl) rfl rfl (by (try simp only [List.map_toArray, List.map_cons, List.map_nil]); first | done | rfl | (simp only [List.length_drop, List.length_take]; rfl)) ?_
       with_reducible refine (ref05_Same.calls k t114 t115 _ _ t116 a0_0 a0_1 _ _ l0_2 true _ ?side1 ?side2 ?side3 ?side4 A28.out).mono ?_
       (case side1 => repeat (first | exact (Kd.R_reads' HO118.out).2.2 | (with_reducible refine Kd.qu_ ?_ _) | (with_reducible refine Kd.qt_ ?_ _) | (with_reducible refine Kd.C_drew ?_)))
       (case side2 => exact (Kd.R_reads' HO118.out).2.1)
       (case side3 => repeat (first | exact (Kd.V_reads' HO0_2.out).2.2 | (with_reducible refine Kd.qu_ ?_ _) | (with_reducible refine Kd.qt_ ?_ _) | (with_reducible refine Kd.C_drew ?_)))
       (case side4 => exact (Kd.V_reads' HO0_2.out).2.1)
       rintro e w52 ⟨rfl, hb⟩
       refine ⟨_, rfl, ?_⟩
       have n0_ := Aside0.mk (Kd.qo_ (by (with_reducible repeat (first | apply Kd.qn_ | apply Kd.qm_ | apply Kd.V_drew)); exact HO0_2.out) hb)
       have n1_ := Aside0.mk (Kd.qo_ (by (with_reducible repeat (first | apply Kd.qn_ | apply Kd.qm_ | apply Kd.V_drew)); exact HO1_2.out) hb)
       have n2_ := Aside0.mk (Kd.N_below (by (with_reducible repeat (first | apply Kd.N_alloc | apply Kd.N_drewN | apply Kd.N_drew)); exact HO106.out) hb)
       have n3_ := Aside0.mk (Kd.R_below (by (with_reducible repeat (first | apply Kd.qw_ | apply Kd.qv_ | apply Kd.R_drew)); exact HO118.out) hb)
       have n4_ := Aside0.mk (qk_ (g := gb101) (o := .cells #[.int .i64 a0_0, .int .i64 a0_1, .slice A0_2 l0_2.length c0_2] 24 (0, 0)) (by (with_reducible repeat (first | refine qe_ ?_ _ | refine qh_ ?_ | refine qd_ ?_ _)); exact BK101.out) hb)
       have n5_ := Aside0.mk (qk_ (g := gb102) (o := .cells #[.int .i64 a1_0, .int .i64 a1_1, .slice A1_2 l1_2.length c1_2] 24 (0, 0)) (by (with_reducible repeat (first | refine qe_ ?_ _ | refine qh_ ?_ | refine qd_ ?_ _)); exact BK102.out) hb)
       have n6_ := Aside0.mk (ql_ (by repeat (first | (with_reducible first | exact HB.out | apply qc_ | apply qa_ | apply qb_ | refine qf_ ?_ GE101.out | refine qf_ ?_ GE102.out) | exact HB.out)) hb)
       clear HO0_2
       clear HO1_2
       clear HO106
       clear HO118
       clear BK101
       clear BK102
       clear HB
       have HO0_2 := n0_
       have HO1_2 := n1_
       have HO106 := n2_
       have HO118 := n3_
       have BK101 := n4_
       have BK102 := n5_
       have HB := n6_
       clear n0_ n1_ n2_ n3_ n4_ n5_ n6_
       (try clear hb)
       (try clear hb2)
       (try clear hk)
       (try clear hi)
       refine hK.out _ _ ⟨(qg_ BK101.out 0).trans rfl, (qg_ BK101.out 1).trans rfl, (qg_ BK101.out 2).trans rfl, (qg_ BK102.out 0).trans rfl, (qg_ BK102.out 1).trans rfl, (qg_ BK102.out 2).trans rfl⟩ (fun hHeld => ?_)
       clear hK K
       refine norm_ (a' := ?_) ?_ ?_
       rotate_left
       ·show Act.put _ (some 38) _ = _
        simp only [Act.put, sa_, sb_, sc_, i64_w, i32_w]
        rfl
       refine pure_ (i := 26) (N := some 39) (v := ?_) (a' := ?_) #[true,true,true,true,true,true,true,true,true,true,true,true,true,true,true,true,true,true,true,true,true,true,true,true,true,true,true,false,false,false,false,false,false,false,false,false,false] rfl rfl (any_of HT_.out (by kernel_rfl)) (fun _ _ _ h => h) (Or.inl ⟨by rfl, ?_⟩) ?_ ?_
       rotate_left
       ·intro w'
        go_simp
        with_reducible rfl
       rotate_left
       ·simp only [Act.put, sa_, sb_, sc_, i64_w, i32_w]
        rfl
       refine pure_ (i := 27) (N := some 40) (v := ?_) (a' := ?_) #[true,true,true,true,true,true,true,true,true,true,true,true,true,true,true,true,true,true,true,true,true,true,true,true,true,true,true,true,false,false,false,false,false,false,false,false,false] rfl rfl (any_of HT_.out (by kernel_rfl)) (fun _ _ _ h => h) (Or.inl ⟨by rfl, ?_⟩) ?_ ?_
       rotate_left
       ·intro w'
        go_simp
        with_reducible rfl
       rotate_left
       ·simp only [Act.put, sa_, sb_, sc_, i64_w, i32_w]
        rfl
       refine pure_ (i := 29) (N := some 42) (v := ?_) (a' := ?_) #[true,true,true,true,true,true,true,true,true,true,true,true,true,true,true,true,true,true,true,true,true,true,true,true,true,true,true,true,false,true,false,false,false,false,false,false,false] rfl rfl (any_of HT_.out (by kernel_rfl)) (fun _ _ _ h => h) (Or.inl ⟨by rfl, ?_⟩) ?_ ?_
       rotate_left
       ·intro w'
        go_simp
        with_reducible rfl
       rotate_left
       ·simp only [Act.put, sa_, sb_, sc_, i64_w, i32_w]
        rfl
       refine pure_ (i := 32) (N := some 45) (v := ?_) (a' := ?_) #[true,true,true,true,true,true,true,true,true,true,true,true,true,true,true,true,true,true,true,true,true,true,true,true,true,true,true,true,false,true,false,false,true,false,false,false,false] rfl rfl (any_of HT_.out (by kernel_rfl)) (fun _ _ _ h => h) (Or.inl ⟨by rfl, ?_⟩) ?_ ?_
       rotate_left
       ·intro w'
        go_simp
        with_reducible rfl
       rotate_left
       ·simp only [Act.put, sa_, sb_, sc_, i64_w, i32_w]
        rfl
       refine take_ (i := 28) (N := some 41) (v := ?_) (a' := ?_) #[true,true,true,true,true,true,true,true,true,true,true,true,true,true,true,true,true,true,true,true,true,true,true,true,true,true,true,true,true,true,false,false,true,false,false,false,false] rfl rfl (qy_ HT_.out HW_.out (by kernel_rfl)) (fun _ _ _ h => h) (Or.inl ⟨by rfl, ?_⟩) hHeld ?_ ?_
       rotate_left
       ·rintro w' ⟨s0, s1, s2, s3, s4, s5⟩
        go_simp
        with_reducible rfl
       rotate_left
       ·simp only [Act.put, sa_, sb_, sc_, i64_w, i32_w]
        rfl
       refine take_ (i := 31) (N := some 44) (v := ?_) (a' := ?_) #[true,true,true,true,true,true,true,true,true,true,true,true,true,true,true,true,true,true,true,true,true,true,true,true,true,true,true,true,true,true,false,true,true,false,false,false,false] rfl rfl (qy_ HT_.out HW_.out (by kernel_rfl)) (fun _ _ _ h => h) (Or.inl ⟨by rfl, ?_⟩) hHeld ?_ ?_
       rotate_left
       ·rintro w' ⟨s0, s1, s2, s3, s4, s5⟩
        go_simp
        with_reducible rfl
       rotate_left
       ·simp only [Act.put, sa_, sb_, sc_, i64_w, i32_w]
        rfl
       refine one_ (i := 30) (N := some 43) #[true,true,true,true,true,true,true,true,true,true,true,true,true,true,true,true,true,true,true,true,true,true,true,true,true,true,true,true,true,true,true,true,true,false,false,false,false] rfl rfl (one_of HT_.out (by kernel_rfl)) (by decide) (fun K hK => ?_)
       refine goes_ Try.func25 (by kernel_rfl) rfl #[.agg #[.int .i64 a0_0, .int .i64 a0_1, .slice A0_2 l0_2.length c0_2], .int .i64 a2] (by rfl) rfl rfl (by (try simp only [List.map_toArray, List.map_cons, List.map_nil]); first | done | rfl | (simp only [List.length_drop, List.length_take]; rfl)) ?_
       with_reducible refine (state_Above.calls a0_0 a0_1 _ _ l0_2 a2 t120 t121 t122 _ ?side1 ?side2 A30.out).mono ?_
       (case side1 => repeat (first | exact (Kd.V_reads' HO0_2.out).2.2 | (with_reducible refine Kd.qu_ ?_ _) | (with_reducible refine Kd.qt_ ?_ _) | (with_reducible refine Kd.C_drew ?_)))
       (case side2 => exact (Kd.V_reads' HO0_2.out).2.1)
       rintro e w53 ⟨v123, rfl, ho0, hb⟩
       refine ⟨_, rfl, ?_⟩
       have n0_ := Aside0.mk (Kd.V_elder' (by (with_reducible repeat (first | apply Kd.qn_ | apply Kd.qm_ | apply Kd.V_drew)); exact HO0_2.out) (Kd.R_base ho0) hb)
       have n1_ := Aside0.mk (Kd.V_elder' (by (with_reducible repeat (first | apply Kd.qn_ | apply Kd.qm_ | apply Kd.V_drew)); exact HO1_2.out) (Kd.R_base ho0) hb)
       have n2_ := Aside0.mk (Kd.N_elder' (by (with_reducible repeat (first | apply Kd.N_alloc | apply Kd.N_drewN | apply Kd.N_drew)); exact HO106.out) (Kd.R_base ho0) hb)
       have n3_ := Aside0.mk (Kd.R_elder' (by (with_reducible repeat (first | apply Kd.qw_ | apply Kd.qv_ | apply Kd.R_drew)); exact HO118.out) (Kd.R_base ho0) hb)
       have n4_ := Aside0.mk (Kd.R_lower (Kd.R_new' (Kd.R_newM (M := fun k_ => (w.heap.size ≤ k_)) ho0 (qj_ (by repeat (first | (with_reducible first | exact HB.out | apply qc_ | apply qa_ | apply qb_ | refine qf_ ?_ GE101.out | refine qf_ ?_ GE102.out) | exact HB.out))) (fun k_ h_ => h_)) (Kd.R_lt (by (with_reducible repeat (first | apply Kd.qw_ | apply Kd.qv_ | apply Kd.R_drew)); exact HO118.out))) (qj_ (by repeat (first | (with_reducible first | exact HB.out | apply qc_ | apply qa_ | apply qb_ | refine qf_ ?_ GE101.out | refine qf_ ?_ GE102.out) | exact HB.out))))
       have n5_ := Aside0.mk (qk_ (g := gb101) (o := .cells #[.int .i64 a0_0, .int .i64 a0_1, .slice A0_2 l0_2.length c0_2] 24 (0, 0)) (by (with_reducible repeat (first | refine qe_ ?_ _ | refine qh_ ?_ | refine qd_ ?_ _)); exact BK101.out) hb)
       have n6_ := Aside0.mk (qk_ (g := gb102) (o := .cells #[.int .i64 a1_0, .int .i64 a1_1, .slice A1_2 l1_2.length c1_2] 24 (0, 0)) (by (with_reducible repeat (first | refine qe_ ?_ _ | refine qh_ ?_ | refine qd_ ?_ _)); exact BK102.out) hb)
       have n7_ := Aside0.mk (ql_ (by repeat (first | (with_reducible first | exact HB.out | apply qc_ | apply qa_ | apply qb_ | refine qf_ ?_ GE101.out | refine qf_ ?_ GE102.out) | exact HB.out)) hb)
       clear HO0_2
       clear HO1_2
       clear HO106
       clear HO118
       clear BK101
       clear BK102
       clear HB
       have HO0_2 := n0_
       have HO1_2 := n1_
       have HO106 := n2_
       have HO118 := n3_
       have HO124 := n4_
       have BK101 := n5_
       have BK102 := n6_
       have HB := n7_
       clear n0_ n1_ n2_ n3_ n4_ n5_ n6_ n7_
       (try clear hb)
       (try clear hb2)
       (try clear hk)
       (try clear hi)
       (try clear ho0)
       refine hK.out _ _ ⟨(qg_ BK101.out 0).trans rfl, (qg_ BK101.out 1).trans rfl, (qg_ BK101.out 2).trans rfl, (qg_ BK102.out 0).trans rfl, (qg_ BK102.out 1).trans rfl, (qg_ BK102.out 2).trans rfl⟩ (fun hHeld => ?_)
       clear hK K
       refine norm_ (a' := ?_) ?_ ?_
       rotate_left
       ·show Act.put _ (some 43) _ = _
        simp only [Act.put, sa_, sb_, sc_, i64_w, i32_w]
        rfl
       refine one_ (i := 33) (N := some 46) #[true,true,true,true,true,true,true,true,true,true,true,true,true,true,true,true,true,true,true,true,true,true,true,true,true,true,true,true,true,true,true,true,true,true,false,false,false] rfl rfl (one_of HT_.out (by kernel_rfl)) (by decide) (fun K hK => ?_)
       refine goes_ Try.func28 (by kernel_rfl) rfl #[.agg #[.int .i64 a0_0, .int .i64 a0_1, .slice A0_2 l0_2.length c0_2], .int .i64 a2] (by rfl) rfl rfl (by (try simp only [List.map_toArray, List.map_cons, List.map_nil]); first | done | rfl | (simp only [List.length_drop, List.length_take]; rfl)) ?_
       with_reducible refine (ref05_Above.calls k a0_0 a0_1 _ _ l0_2 a2 t125 t126 t127 _ ?side1 ?side2 A31.out).mono ?_
       (case side1 => repeat (first | exact (Kd.V_reads' HO0_2.out).2.2 | (with_reducible refine Kd.qu_ ?_ _) | (with_reducible refine Kd.qt_ ?_ _) | (with_reducible refine Kd.C_drew ?_)))
       (case side2 => exact (Kd.V_reads' HO0_2.out).2.1)
       rintro e w54 ⟨v128, rfl, ho0, hb⟩
       refine ⟨_, rfl, ?_⟩
       have n0_ := Aside0.mk (Kd.V_elder' (by (with_reducible repeat (first | apply Kd.qn_ | apply Kd.qm_ | apply Kd.V_drew)); exact HO0_2.out) (Kd.R_base ho0) hb)
       have n1_ := Aside0.mk (Kd.V_elder' (by (with_reducible repeat (first | apply Kd.qn_ | apply Kd.qm_ | apply Kd.V_drew)); exact HO1_2.out) (Kd.R_base ho0) hb)
       have n2_ := Aside0.mk (Kd.N_elder' (by (with_reducible repeat (first | apply Kd.N_alloc | apply Kd.N_drewN | apply Kd.N_drew)); exact HO106.out) (Kd.R_base ho0) hb)
       have n3_ := Aside0.mk (Kd.R_elder' (by (with_reducible repeat (first | apply Kd.qw_ | apply Kd.qv_ | apply Kd.R_drew)); exact HO118.out) (Kd.R_base ho0) hb)
       have n4_ := Aside0.mk (Kd.R_elder' (by (with_reducible repeat (first | apply Kd.qw_ | apply Kd.qv_ | apply Kd.R_drew)); exact HO124.out) (Kd.R_base ho0) hb)
       have n5_ := Aside0.mk (Kd.R_lower (Kd.R_new' (Kd.R_new' (Kd.R_newM (M := fun k_ => (w.heap.size ≤ k_)) ho0 (qj_ (by repeat (first | (with_reducible first | exact HB.out | apply qc_ | apply qa_ | apply qb_ | refine qf_ ?_ GE101.out | refine qf_ ?_ GE102.out) | exact HB.out))) (fun k_ h_ => h_)) (Kd.R_lt (by (with_reducible repeat (first | apply Kd.qw_ | apply Kd.qv_ | apply Kd.R_drew)); exact HO118.out))) (Kd.R_lt (by (with_reducible repeat (first | apply Kd.qw_ | apply Kd.qv_ | apply Kd.R_drew)); exact HO124.out))) (qj_ (by repeat (first | (with_reducible first | exact HB.out | apply qc_ | apply qa_ | apply qb_ | refine qf_ ?_ GE101.out | refine qf_ ?_ GE102.out) | exact HB.out))))
       have n6_ := Aside0.mk (qk_ (g := gb101) (o := .cells #[.int .i64 a0_0, .int .i64 a0_1, .slice A0_2 l0_2.length c0_2] 24 (0, 0)) (by (with_reducible repeat (first | refine qe_ ?_ _ | refine qh_ ?_ | refine qd_ ?_ _)); exact BK101.out) hb)
       have n7_ := Aside0.mk (qk_ (g := gb102) (o := .cells #[.int .i64 a1_0, .int .i64 a1_1, .slice A1_2 l1_2.length c1_2] 24 (0, 0)) (by (with_reducible repeat (first | refine qe_ ?_ _ | refine qh_ ?_ | refine qd_ ?_ _)); exact BK102.out) hb)
       have n8_ := Aside0.mk (ql_ (by repeat (first | (with_reducible first | exact HB.out | apply qc_ | apply qa_ | apply qb_ | refine qf_ ?_ GE101.out | refine qf_ ?_ GE102.out) | exact HB.out)) hb)
       clear HO0_2
       clear HO1_2
       clear HO106
       clear HO118
       clear HO124
       clear BK101
       clear BK102
       clear HB
       have HO0_2 := n0_
       have HO1_2 := n1_
       have HO106 := n2_
       have HO118 := n3_
       have HO124 := n4_
       have HO129 := n5_
       have BK101 := n6_
       have BK102 := n7_
       have HB := n8_
       clear n0_ n1_ n2_ n3_ n4_ n5_ n6_ n7_ n8_
       (try clear hb)
       (try clear hb2)
       (try clear hk)
       (try clear hi)
       (try clear ho0)
       obtain ⟨Ao55, co55, eo55⟩ := Kd.R_slice HO124.out
       (first | subst eo55 | (injection eo55 with f1_ f2_ f3_; have f4_ := f1_.symm; have f5_ := f3_.symm; clear f1_ f2_ f3_; subst f4_; subst f5_))
       obtain ⟨Ao56, co56, eo56⟩ := Kd.R_slice HO129.out
       (first | subst eo56 | (injection eo56 with f1_ f2_ f3_; have f4_ := f1_.symm; have f5_ := f3_.symm; clear f1_ f2_ f3_; subst f4_; subst f5_))
       refine hK.out _ _ ⟨(qg_ BK101.out 0).trans rfl, (qg_ BK101.out 1).trans rfl, (qg_ BK101.out 2).trans rfl, (qg_ BK102.out 0).trans rfl, (qg_ BK102.out 1).trans rfl, (qg_ BK102.out 2).trans rfl⟩ (fun hHeld => ?_)
       clear hK K
       refine norm_ (a' := ?_) ?_ ?_
       rotate_left
       ·show Act.put _ (some 46) _ = _
        simp only [Act.put, sa_, sb_, sc_, i64_w, i32_w]
        rfl
       refine one_ (i := 34) (N := some 47) #[true,true,true,true,true,true,true,true,true,true,true,true,true,true,true,true,true,true,true,true,true,true,true,true,true,true,true,true,true,true,true,true,true,true,true,false,false] rfl rfl (one_of HT_.out (by kernel_rfl)) (by decide) (fun K hK => ?_)
       refine goes_ Try.func16 (by kernel_rfl) rfl #[.agg #[.int .i64 t120, .int .i64 t121, .slice Ao55 t122.length co55], .agg #[.int .i64 t125, .int .i64 t126, .slice Ao56 t127.length co56]] (by rfl) rfl rfl (by (try simp only [List.map_toArray, List.map_cons, List.map_nil]); first | done | rfl | (simp only [List.length_drop, List.length_take]; rfl)) ?_
       with_reducible refine (ref05_Same.calls k t120 t121 _ _ t122 t125 t126 _ _ t127 t130 _ ?side1 ?side2 ?side3 ?side4 A32.out).mono ?_
       (case side1 => repeat (first | exact (Kd.R_reads' HO124.out).2.2 | (with_reducible refine Kd.qu_ ?_ _) | (with_reducible refine Kd.qt_ ?_ _) | (with_reducible refine Kd.C_drew ?_)))
       (case side2 => exact (Kd.R_reads' HO124.out).2.1)
       (case side3 => repeat (first | exact (Kd.R_reads' HO129.out).2.2 | (with_reducible refine Kd.qu_ ?_ _) | (with_reducible refine Kd.qt_ ?_ _) | (with_reducible refine Kd.C_drew ?_)))
       (case side4 => exact (Kd.R_reads' HO129.out).2.1)
       rintro e w57 ⟨rfl, hb⟩
       refine ⟨_, rfl, ?_⟩
       have n0_ := Aside0.mk (Kd.qo_ (by (with_reducible repeat (first | apply Kd.qn_ | apply Kd.qm_ | apply Kd.V_drew)); exact HO0_2.out) hb)
       have n1_ := Aside0.mk (Kd.qo_ (by (with_reducible repeat (first | apply Kd.qn_ | apply Kd.qm_ | apply Kd.V_drew)); exact HO1_2.out) hb)
       have n2_ := Aside0.mk (Kd.N_below (by (with_reducible repeat (first | apply Kd.N_alloc | apply Kd.N_drewN | apply Kd.N_drew)); exact HO106.out) hb)
       have n3_ := Aside0.mk (Kd.R_below (by (with_reducible repeat (first | apply Kd.qw_ | apply Kd.qv_ | apply Kd.R_drew)); exact HO118.out) hb)
       have n4_ := Aside0.mk (Kd.R_below (by (with_reducible repeat (first | apply Kd.qw_ | apply Kd.qv_ | apply Kd.R_drew)); exact HO124.out) hb)
       have n5_ := Aside0.mk (Kd.R_below (by (with_reducible repeat (first | apply Kd.qw_ | apply Kd.qv_ | apply Kd.R_drew)); exact HO129.out) hb)
       have n6_ := Aside0.mk (qk_ (g := gb101) (o := .cells #[.int .i64 a0_0, .int .i64 a0_1, .slice A0_2 l0_2.length c0_2] 24 (0, 0)) (by (with_reducible repeat (first | refine qe_ ?_ _ | refine qh_ ?_ | refine qd_ ?_ _)); exact BK101.out) hb)
       have n7_ := Aside0.mk (qk_ (g := gb102) (o := .cells #[.int .i64 a1_0, .int .i64 a1_1, .slice A1_2 l1_2.length c1_2] 24 (0, 0)) (by (with_reducible repeat (first | refine qe_ ?_ _ | refine qh_ ?_ | refine qd_ ?_ _)); exact BK102.out) hb)
       have n8_ := Aside0.mk (ql_ (by repeat (first | (with_reducible first | exact HB.out | apply qc_ | apply qa_ | apply qb_ | refine qf_ ?_ GE101.out | refine qf_ ?_ GE102.out) | exact HB.out)) hb)
       clear HO0_2
       clear HO1_2
       clear HO106
       clear HO118
       clear HO124
       clear HO129
       clear BK101
       clear BK102
       clear HB
       have HO0_2 := n0_
       have HO1_2 := n1_
       have HO106 := n2_
       have HO118 := n3_
       have HO124 := n4_
       have HO129 := n5_
       have BK101 := n6_
       have BK102 := n7_
       have HB := n8_
       clear n0_ n1_ n2_ n3_ n4_ n5_ n6_ n7_ n8_
       (try clear hb)
       (try clear hb2)
       (try clear hk)
       (try clear hi)
       refine hK.out _ _ ⟨(qg_ BK101.out 0).trans rfl, (qg_ BK101.out 1).trans rfl, (qg_ BK101.out 2).trans rfl, (qg_ BK102.out 0).trans rfl, (qg_ BK102.out 1).trans rfl, (qg_ BK102.out 2).trans rfl⟩ (fun hHeld => ?_)
       clear hK K
       refine norm_ (a' := ?_) ?_ ?_
       rotate_left
       ·show Act.put _ (some 47) _ = _
        simp only [Act.put, sa_, sb_, sc_, i64_w, i32_w]
        rfl
       refine pure_ (i := 35) (N := some 48) (v := ?_) (a' := ?_) #[true,true,true,true,true,true,true,true,true,true,true,true,true,true,true,true,true,true,true,true,true,true,true,true,true,true,true,true,true,true,true,true,true,true,true,true,false] rfl rfl (any_of HT_.out (by kernel_rfl)) (fun _ _ _ h => h) (Or.inl ⟨by rfl, ?_⟩) ?_ ?_
       rotate_left
       ·intro w'
        go_simp
        with_reducible rfl
       rotate_left
       ·simp only [Act.put, sa_, sb_, sc_, i64_w, i32_w]
        rfl
       refine pure_ (i := 36) (N := some 6) (v := ?_) (a' := ?_) #[true,true,true,true,true,true,true,true,true,true,true,true,true,true,true,true,true,true,true,true,true,true,true,true,true,true,true,true,true,true,true,true,true,true,true,true,true] rfl rfl (any_of HT_.out (by kernel_rfl)) (fun _ _ _ h => h) (Or.inl ⟨by rfl, ?_⟩) ?_ ?_
       rotate_left
       ·intro w'
        go_simp
        with_reducible rfl
       rotate_left
       ·simp only [Act.put, sa_, sb_, sc_, i64_w, i32_w]
        rfl
       refine done_ (done_of HT_.out (by kernel_rfl)) ?_
       try go_wp2
       go_ret
       exact ⟨by first | rfl | (simp [errW_none, errW_some] <;> rfl) | (simp [*, errW_none, errW_some] <;> rfl), by repeat (first | (with_reducible first | exact HB.out | apply qc_ | apply qa_ | apply qb_ | refine qf_ ?_ GE101.out | refine qf_ ?_ GE102.out) | exact HB.out)⟩
      ·rw [if_neg c29] at H
       exact absurd ((Option.some.inj H).trans HRT.out) (by decide)
     ·rw [if_neg c26] at H
      exact absurd ((Option.some.inj H).trans HRT.out) (by decide)
    ·rw [if_neg c23] at H
     exact absurd ((Option.some.inj H).trans HRT.out) (by decide)
   ·rw [if_neg c20] at H
    exact absurd ((Option.some.inj H).trans HRT.out) (by decide)
 ·rw [if_neg c5] at H
  exact absurd ((Option.some.inj H).trans HRT.out) (by decide)
end Go.Proofs.Ytfoeahjbkmdgfaa.P

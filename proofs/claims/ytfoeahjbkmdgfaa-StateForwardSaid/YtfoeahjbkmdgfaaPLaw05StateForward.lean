/- What this function of the program comes to, and that the machine's call does it: written by a program (wip/tool). No condition. -/
import Derived.Test.YtfoeahjbkmdgfaaP0
import Derived.Test.YtfoeahjbkmdgfaaPStateRight
import Derived.Test.YtfoeahjbkmdgfaaPStateTop
import Derived.Test.YtfoeahjbkmdgfaaPStateSet
import Derived.Test.YtfoeahjbkmdgfaaPStateBeat
import Derived.Test.YtfoeahjbkmdgfaaPStateOver
import Derived.Test.YtfoeahjbkmdgfaaPLaw05Alive
import Derived.Test.YtfoeahjbkmdgfaaPLaw05Great
import Derived.Test.YtfoeahjbkmdgfaaPRef05Right
import Derived.Test.YtfoeahjbkmdgfaaPRef05Top
import Derived.Test.YtfoeahjbkmdgfaaHw
namespace Go.Proofs.Ytfoeahjbkmdgfaa.P
open Go.RowKit Go.Proofs.YtfoeahjbkmdgfaaW.PrintWords Go.Proofs.YtfoeahjbkmdgfaaW.PrintLast Go.Proofs.YtfoeahjbkmdgfaaW.PrintMore
attribute [local go_sem] max2_int min2_int max_two min_two vb_ va_ max_four min_four Go.Proofs.YtfoeahjbkmdgfaaW.Hw.string_gtr   -- for this text's walks alone
set_option linter.unusedVariables false
set_option linter.unusedSimpArgs false
/-! ### law05_StateForward: function 5 -/
def law05_StateForward.j0 : Nat → Int → ByteArray → Bool → Int → Int → List (S40) → Option (Bool)
 | 0, _, _, _, _, _, _ => none
 | k + 1, x1, x2, x30, x102000, x102001, x102002 => if x30 = true then (some true) else ((state_Set.f k x102000 x102001 x102002 (Int.tmod (wrap64 (x1)) 12) x2).bind fun bt109 => ((state_Beat.f k x102000 x102001 x102002).bind fun bt116 => (if bt109.2.2.2 = 0 then (if bt116.2.2.2 = 0 then ((state_Over.f bt109.1 bt109.2.1 bt109.2.2.1 x102000 x102001 x102002).bind fun t123 => (if t123 = true then ((state_Over.f bt116.1 bt116.2.1 bt116.2.2.1 x102000 x102001 x102002).bind fun t124 => (if t124 = true then ((state_Over.f x102000 x102001 x102002 bt109.1 bt109.2.1 bt109.2.2.1).bind fun t125 => (if t125 = true then (some false) else ((state_Over.f x102000 x102001 x102002 bt116.1 bt116.2.1 bt116.2.2.1).bind fun t126 => (if t126 = true then (some false) else ((state_Top.f k bt109.1 bt109.2.1 bt109.2.2.1).bind fun t127 => ((state_Top.f k x102000 x102001 x102002).bind fun t128 => (if t127 = (wrap64 (t128 + 1)) then ((state_Top.f k bt116.1 bt116.2.1 bt116.2.2.1).bind fun t129 => ((state_Top.f k x102000 x102001 x102002).bind fun t130 => (if t129 = (wrap64 (t130 + 1)) then ((state_Right.f k bt109.1 bt109.2.1 bt109.2.2.1).bind fun t131 => (if t131 = true then ((state_Right.f k bt116.1 bt116.2.1 bt116.2.2.1).bind fun t132 => (some t132)) else (some false))) else (some false)))) else (some false)))))))) else (some false))) else (some false))) else (some false)) else (some false))))
def law05_StateForward.f (k : Nat) (a0_0 : Int) (a0_1 : Int) (l0_2 : List (S40)) (a1 : Int) (a2 : ByteArray) : Option (Bool) := (law05_alive.f k).bind fun t102 => (if t102 = true then ((law05_great.f k (([(⟨a0_0, a0_1, l0_2⟩ : S24)] : List (S24)))).bind fun t106 => (if t106 = true then (law05_StateForward.j0 k a1 a2 true a0_0 a0_1 l0_2) else (if (a2.size : Int) > 200 then (law05_StateForward.j0 k a1 a2 true a0_0 a0_1 l0_2) else ((ref05_Right.f k a0_0 a0_1 l0_2).bind fun t107 => (if t107 = true then ((ref05_Top.f k a0_0 a0_1 l0_2).bind fun t108 => (law05_StateForward.j0 k a1 a2 (t108 == 1099511627776) a0_0 a0_1 l0_2)) else (law05_StateForward.j0 k a1 a2 true a0_0 a0_1 l0_2)))))) else (some false))
theorem law05_StateForward.mono_l : ∀ k, (∀ y0 y1 y2 y3 y4 y5, LeO (law05_StateForward.j0 k y0 y1 y2 y3 y4 y5) (law05_StateForward.j0 (k + 1) y0 y1 y2 y3 y4 y5))
 | 0 => fun _ _ _ _ _ _ r h => by simp [law05_StateForward.j0] at h
 | k + 1 => by
  have ih0 := law05_StateForward.mono_l k
  ·intro y0 y1 y2 y3 y4 y5
   unfold law05_StateForward.j0
   repeat' first
   | (with_reducible exact ih0 _ _ _ _ _ _)
   | (with_reducible exact law05_alive.mono _)
   | (with_reducible exact law05_great.mono _ _)
   | (with_reducible exact ref05_Right.mono _ _ _ _)
   | (with_reducible exact ref05_Top.mono _ _ _ _)
   | (with_reducible exact state_Beat.mono _ _ _ _)
   | (with_reducible exact state_Right.mono _ _ _ _)
   | (with_reducible exact state_Set.mono _ _ _ _ _ _)
   | (with_reducible exact state_Top.mono _ _ _ _)
   | (with_reducible exact LeO.refl _)
   | (with_reducible exact LeO.none _)
   | (with_reducible refine LeO.ite ?_ ?_)
   | (with_reducible refine LeO.bind ?_ (fun _ => ?_))
   | exact ih0 _ _ _ _ _ _
   | exact law05_alive.mono _
   | exact law05_great.mono _ _
   | exact ref05_Right.mono _ _ _ _
   | exact ref05_Top.mono _ _ _ _
   | exact state_Beat.mono _ _ _ _
   | exact state_Right.mono _ _ _ _
   | exact state_Set.mono _ _ _ _ _ _
   | exact state_Top.mono _ _ _ _
   | exact LeO.none _
   | refine LeO.ite ?_ ?_
   | refine LeO.bind ?_ (fun _ => ?_)
theorem law05_StateForward.mono : ∀ a0 a1 a2 a3 a4 k, LeO (law05_StateForward.f k a0 a1 a2 a3 a4) (law05_StateForward.f (k + 1) a0 a1 a2 a3 a4) := by
 intro a0 a1 a2 a3 a4 k
 have ih0 := law05_StateForward.mono_l k
 unfold law05_StateForward.f
 repeat' first
   | (with_reducible exact ih0 _ _ _ _ _ _)
   | (with_reducible exact law05_alive.mono _)
   | (with_reducible exact law05_great.mono _ _)
   | (with_reducible exact ref05_Right.mono _ _ _ _)
   | (with_reducible exact ref05_Top.mono _ _ _ _)
   | (with_reducible exact state_Beat.mono _ _ _ _)
   | (with_reducible exact state_Right.mono _ _ _ _)
   | (with_reducible exact state_Set.mono _ _ _ _ _ _)
   | (with_reducible exact state_Top.mono _ _ _ _)
   | (with_reducible exact LeO.refl _)
   | (with_reducible exact LeO.none _)
   | (with_reducible refine LeO.ite ?_ ?_)
   | (with_reducible refine LeO.bind ?_ (fun _ => ?_))
   | exact ih0 _ _ _ _ _ _
   | exact law05_alive.mono _
   | exact law05_great.mono _ _
   | exact ref05_Right.mono _ _ _ _
   | exact ref05_Top.mono _ _ _ _
   | exact state_Beat.mono _ _ _ _
   | exact state_Right.mono _ _ _ _
   | exact state_Set.mono _ _ _ _ _ _
   | exact state_Top.mono _ _ _ _
   | exact LeO.none _
   | refine LeO.ite ?_ ?_
   | refine LeO.bind ?_ (fun _ => ?_)
def law05_StateForward.T7 : Bool × List (List Nat × List Nat) := (true, [([], []), ([0], [0]), ([1], [1]), ([2], [2]), ([3, 2], [2, 3]), ([2, 4], [2, 4]), ([5, 2], [5]), ([6], [6]), ([6], [6]), ([7, 8, 6, 6], [6, 7, 8]), ([6, 9], [6, 9]), ([10, 9], [10]), ([11], [11]), ([11], [11]), ([12, 13, 11, 11], [11, 12, 13]), ([11, 14], [11, 14]), ([15, 14], [15]), ([16], [16]), ([16], [16]), ([17, 18, 16, 16], [16, 17, 18]), ([19, 16], [16, 19]), ([16, 20], [16, 20]), ([21, 19], [21]), ([22], [22]), ([22], [22]), ([23, 24, 22, 22], [22, 23, 24]), ([25, 22], [22, 25]), ([22, 26], [22, 26]), ([27, 25], [27]), ([28], [28]), ([29, 28, 28], [28, 29]), ([28], [28]), ([31, 30, 28], [28, 31]), ([32, 28], [28, 32]), ([30, 33, 28], [28, 30, 33]), ([28, 34], [28, 34]), ([35, 32], [35]), ([36], [36]), ([37, 36, 36], [36, 37]), ([36], [36]), ([39, 38, 36], [36, 39]), ([40, 36], [36, 40]), ([38, 41, 36], [36, 38, 41]), ([36, 42], [36, 42]), ([43, 40], [43]), ([44], [44]), ([45, 44, 44], [44, 45]), ([44, 46], [44, 46]), ([47, 46], [47]), ([48], [48]), ([49, 48, 48], [48, 49]), ([48, 50], [48, 50]), ([51, 50, 0, 1, 2, 3, 4, 5, 6, 7, 8, 9, 10, 11, 12, 13, 14, 15, 16, 17, 18, 19, 20, 21, 22, 23, 24, 25, 26, 27, 28, 29, 30, 31, 32, 33, 34, 35, 36, 37, 38, 39, 40, 41, 42, 43, 44, 45, 46, 47, 48, 49, 50, 51], [51])])
def law05_StateForward.B7 : List Nat := [0, 1, 3, 7, 15, 31, 63, 127, 127, 511, 1023, 2047, 4095, 4095, 16383, 32767, 65535, 131071, 131071, 524287, 1048575, 2097151, 4194303, 8388607, 8388607, 33554431, 67108863, 134217727, 268435455, 536870911, 1073741823, 536870911, 4294967295, 8589934591, 17179869183, 34359738367, 68719476735, 137438953471, 274877906943, 137438953471, 1099511627775, 2199023255551, 4398046511103, 8796093022207, 17592186044415, 35184372088831, 70368744177663, 140737488355327, 281474976710655, 562949953421311, 1125899906842623, 2251799813685247, 4503599627370495]
theorem law05_StateForward.tab7 : rtab .any (opsOf Try.f5 7) = law05_StateForward.T7 := by kernel_rfl
theorem law05_StateForward.bits7 : waitsOk law05_StateForward.T7.2 law05_StateForward.B7 = true := by kernel_rfl
set_option maxHeartbeats 8000000 in
set_option maxRecDepth 100000 in
theorem law05_StateForward.calls (k : Nat) (a0_0 : Int) (a0_1 : Int) (P0_2_ : Nat → Prop) (A0_2 : Option Addr) (c0_2 : Nat) (l0_2 : List (S40)) (a1 : Int) (a2 : ByteArray) (r : Bool) (w : World) (hs0_2 : Kd.V k40 40 w w.heap.size (fun k_ => P0_2_ k_) (.slice A0_2 l0_2.length c0_2) l0_2) (h : law05_StateForward.f k a0_0 a0_1 l0_2 a1 a2 = some r) (hrt : r = true) :
  Calls Try.prog 5 #[.agg #[.int .i64 a0_0, .int .i64 a0_1, .slice A0_2 l0_2.length c0_2], .int .u8 a1, .string a2] w fun e w' => e = .returned (.bool r) ∧ Below w.heap.size w w' := by
 have HRT := Aside0.mk hrt
 clear hrt
 have hu24 := Try.underlying24
 have HO0_2 := Aside0.mk (show Kd.V k40 40 w w.heap.size (fun k_ => (P0_2_ k_ ∨ w.heap.size ≤ k_)) (.slice A0_2 l0_2.length c0_2) l0_2 from Kd.V_mono hs0_2 (fun k_ hk => .inl hk))
 have HB := Aside0.mk (Below.refl w.heap.size w)
 have H : ((law05_alive.f k).bind fun t102 => (if t102 = true then ((law05_great.f k (([(⟨a0_0, a0_1, l0_2⟩ : S24)] : List (S24)))).bind fun t106 => (if t106 = true then (law05_StateForward.j0 k a1 a2 true a0_0 a0_1 l0_2) else (if (a2.size : Int) > 200 then (law05_StateForward.j0 k a1 a2 true a0_0 a0_1 l0_2) else ((ref05_Right.f k a0_0 a0_1 l0_2).bind fun t107 => (if t107 = true then ((ref05_Top.f k a0_0 a0_1 l0_2).bind fun t108 => (law05_StateForward.j0 k a1 a2 (t108 == 1099511627776) a0_0 a0_1 l0_2)) else (law05_StateForward.j0 k a1 a2 true a0_0 a0_1 l0_2)))))) else (some false))) = some r := h
 clear h
 replace H := ob_ H
 obtain ⟨t102, A40, H⟩ := H
 replace H : (if t102 = true then ((law05_great.f k (([(⟨a0_0, a0_1, l0_2⟩ : S24)] : List (S24)))).bind fun t106 => (if t106 = true then (law05_StateForward.j0 k a1 a2 true a0_0 a0_1 l0_2) else (if (a2.size : Int) > 200 then (law05_StateForward.j0 k a1 a2 true a0_0 a0_1 l0_2) else ((ref05_Right.f k a0_0 a0_1 l0_2).bind fun t107 => (if t107 = true then ((ref05_Top.f k a0_0 a0_1 l0_2).bind fun t108 => (law05_StateForward.j0 k a1 a2 (t108 == 1099511627776) a0_0 a0_1 l0_2)) else (law05_StateForward.j0 k a1 a2 true a0_0 a0_1 l0_2)))))) else (some false)) = some r := H
 have A4 := Aside0.mk A40
 clear A40
 by_cases c5 : t102 = true
 ·subst c5
  have H1 : ((law05_great.f k (([(⟨a0_0, a0_1, l0_2⟩ : S24)] : List (S24)))).bind fun t106 => (if t106 = true then (law05_StateForward.j0 k a1 a2 true a0_0 a0_1 l0_2) else (if (a2.size : Int) > 200 then (law05_StateForward.j0 k a1 a2 true a0_0 a0_1 l0_2) else ((ref05_Right.f k a0_0 a0_1 l0_2).bind fun t107 => (if t107 = true then ((ref05_Top.f k a0_0 a0_1 l0_2).bind fun t108 => (law05_StateForward.j0 k a1 a2 (t108 == 1099511627776) a0_0 a0_1 l0_2)) else (law05_StateForward.j0 k a1 a2 true a0_0 a0_1 l0_2)))))) = some r := by rw [if_pos rfl] at H; exact H
  clear H
  have H := H1
  clear H1
  have HC6 := Aside0.mk H
  clear H
  go_enter Try.func5, Try.ntmps5
  go_upto_region 3 with (first | ((with_reducible refine qq_ (N := 3) rfl ?_); (try (refine qz_ (by rfl) ?_; dsimp only)); refine qp_ ?hg (N := 3) ?hd (cs := #[.int .i64 a0_0, .int .i64 a0_1, .slice A0_2 l0_2.length c0_2]) (t := 24) ?hr ?_; (case hd => rfl); (case hg => rfl); (case hr => first | (go_simp; done) | (go_simp; rfl)); intro gb101 hg w7 hbox hb; have n0_ := Aside0.mk (Kd.qo_ (Kd.V_elderB (by (with_reducible repeat (first | apply Kd.qn_ | apply Kd.qm_ | apply Kd.V_drew)); exact HO0_2.out) gb101 (Nat.le_of_eq hg.symm)) hb); have n1_ := Aside0.mk (ql_ (by repeat (first | (with_reducible first | exact HB.out | apply qc_ | apply qa_ | apply qb_) | exact HB.out)) hb); have n2_ := Aside0.mk (hbox); have n3_ := Aside0.mk ((by rw [hg]; exact (qj_ (by repeat (first | (with_reducible first | exact HB.out | apply qc_ | apply qa_ | apply qb_) | exact HB.out))) : w.heap.size ≤ gb101)); have n4_ := Aside0.mk ((by rw [hg]; exact (qj_ (by repeat (first | (with_reducible first | exact HB.out | apply qc_ | apply qa_ | apply qb_) | exact HB.out))) : w.heap.size ≤ gb101)); clear HO0_2; clear HB; have HO0_2 := n0_; have HB := n1_; have BK101 := n2_; have GW101 := n3_; have GE101 := n4_; clear n0_ n1_ n2_ n3_ n4_; clear hb hbox hg) | ((with_reducible refine qr_ (f := 9) rfl ?_); refine goesL_ (some 11) rfl rfl Try.func9 (by kernel_rfl) rfl #[] rfl (by (try simp only [List.map_toArray, List.map_cons, List.map_nil]); first | done | rfl | (simp only [List.length_drop, List.length_take]; rfl)) ?_; (with_reducible refine (law05_alive.calls k  true _ A4.out).mono ?_); rintro e w8 ⟨rfl, hb⟩; refine ⟨_, rfl, ?_⟩; have n0_ := Aside0.mk (Kd.qo_ (by (with_reducible repeat (first | apply Kd.qn_ | apply Kd.qm_ | apply Kd.V_drew)); exact HO0_2.out) hb); have n1_ := Aside0.mk (qk_ (g := gb101) (o := .cells #[.int .i64 a0_0, .int .i64 a0_1, .slice A0_2 l0_2.length c0_2] 24 (0, 0)) (by (with_reducible repeat (first | refine qe_ ?_ _ | refine qh_ ?_ | refine qd_ ?_ _)); exact BK101.out) hb); have n2_ := Aside0.mk (ql_ (by repeat (first | (with_reducible first | exact HB.out | apply qc_ | apply qa_ | apply qb_ | refine qf_ ?_ GE101.out) | exact HB.out)) hb); clear HO0_2; clear BK101; clear HB; have HO0_2 := n0_; have BK101 := n1_; have HB := n2_; clear n0_ n1_ n2_; (try clear hb); (try clear hb2); (try clear hk); (try clear hi)))
  (try simp only [Act.put, sa_, sb_, sc_])
  go_cut [30] (fun v30 wc => ∃ (kq : Nat) (x30_5 : Bool), v30 = .bool x30_5 ∧ Aside0 (law05_StateForward.j0 kq a1 a2 x30_5 a0_0 a0_1 l0_2 = some r) ∧ Aside0 (kq ≤ k) ∧ Aside0 (Kd.V k40 40 wc w.heap.size (fun k_ => (P0_2_ k_ ∨ w.heap.size ≤ k_) ∧ k_ ≠ gb101) (.slice A0_2 l0_2.length c0_2) l0_2) ∧ Aside0 (wc.heap[gb101]? = some (.cells #[.int .i64 a0_0, .int .i64 a0_1, (.slice A0_2 l0_2.length c0_2)] 24 (0, 0))) ∧ Aside0 (Below w.heap.size w wc))
  case first =>
   have H := HC6.out
   clear HC6
   obtain ⟨y103, hy103⟩ : ∃ y_ : List (S24), y_ = (([(⟨a0_0, a0_1, l0_2⟩ : S24)] : List (S24))) := ⟨_, rfl⟩
   replace H : ((law05_great.f k y103).bind fun t106 => (if t106 = true then (law05_StateForward.j0 k a1 a2 true a0_0 a0_1 l0_2) else (if (a2.size : Int) > 200 then (law05_StateForward.j0 k a1 a2 true a0_0 a0_1 l0_2) else ((ref05_Right.f k a0_0 a0_1 l0_2).bind fun t107 => (if t107 = true then ((ref05_Top.f k a0_0 a0_1 l0_2).bind fun t108 => (law05_StateForward.j0 k a1 a2 (t108 == 1099511627776) a0_0 a0_1 l0_2)) else (law05_StateForward.j0 k a1 a2 true a0_0 a0_1 l0_2)))))) = some r := by first | (rw [hy103]; with_reducible exact H) | (have H2_ := (Option.bind_some _ _).symm.trans H; rw [hy103]; with_reducible exact H2_) | (have H2_ := (Option.bind_some _ _).symm.trans H; with_reducible exact H2_) | with_reducible exact H | (rw [hy103]; exact H) | exact H
   have Ny103 := Aside0.mk hy103
   clear hy103
   replace H := ob_ H
   obtain ⟨t106, A90, H⟩ := H
   replace H : (if t106 = true then (law05_StateForward.j0 k a1 a2 true a0_0 a0_1 l0_2) else (if (a2.size : Int) > 200 then (law05_StateForward.j0 k a1 a2 true a0_0 a0_1 l0_2) else ((ref05_Right.f k a0_0 a0_1 l0_2).bind fun t107 => (if t107 = true then ((ref05_Top.f k a0_0 a0_1 l0_2).bind fun t108 => (law05_StateForward.j0 k a1 a2 (t108 == 1099511627776) a0_0 a0_1 l0_2)) else (law05_StateForward.j0 k a1 a2 true a0_0 a0_1 l0_2))))) = some r := H
   have A9 := Aside0.mk A90
   clear A90
   by_cases c10 : t106 = true
   ·subst c10
    have H1 : (law05_StateForward.j0 k a1 a2 true a0_0 a0_1 l0_2) = some r := by rw [if_pos rfl] at H; exact H
    clear H
    have H := H1
    clear H1
    have H' := Aside0.mk H
    clear H
    have hcz11_0 : w8.cell? ⟨gb101, 0, none⟩ = some (.int .i64 a0_0) := (qg_ BK101.out 0).trans rfl
    have hcz11_1 : w8.cell? ⟨gb101, 1, none⟩ = some (.int .i64 a0_1) := (qg_ BK101.out 1).trans rfl
    have hcz11_2 : w8.cell? ⟨gb101, 2, none⟩ = some (.slice A0_2 l0_2.length c0_2) := (qg_ BK101.out 2).trans rfl
    have hfz11_0 := qi_ BK101.out 0
    have hfz11_1 := qi_ BK101.out 1
    have hfz11_2 := qi_ BK101.out 2
    go_wp2_with (first | ((with_reducible refine qq_ (N := 14) rfl ?_); (try (refine qz_ (by rfl) ?_; dsimp only)); refine Kd.N_lit k24 _ 24 ?hg (N' := 14) ?hd (xs := ([(⟨a0_0, a0_1, l0_2⟩ : S24)] : List (S24))) (inner := [.int .i64 a0_0, .int .i64 a0_1, .slice A0_2 l0_2.length c0_2]) (ok := (fun k_ => (P0_2_ k_ ∨ w.heap.size ≤ k_) ∧ k_ ≠ gb101)) (okp := (fun k_ => (P0_2_ k_ ∨ w.heap.size ≤ k_) ∧ k_ ≠ gb101)) ?hr ?hp (fun _ hk => hk) ((show ∀ k_, w8.heap.size ≤ k_ → (fun k_ => (P0_2_ k_ ∨ w.heap.size ≤ k_) ∧ k_ ≠ gb101) k_ from fun k_ hk => ⟨(.inr (Nat.le_trans (qj_ (by repeat (first | (with_reducible first | exact HB.out | apply qc_ | apply qa_ | apply qb_ | refine qf_ ?_ GE101.out) | exact HB.out))) hk)), Kd.freshB (g := gb101) (o := .cells #[.int .i64 a0_0, .int .i64 a0_1, .slice A0_2 l0_2.length c0_2] 24 (0, 0)) (by (with_reducible repeat (first | refine qe_ ?_ _ | refine qh_ ?_ | refine qd_ ?_ _)); exact BK101.out) k_ hk⟩) _ (Nat.le_refl _)) (Below.refl _ _) (Nat.le_refl _) (by simp) ?_; (case hd => rfl); (case hg => rfl); (case hr => first | (go_simp; done) | (go_simp; rfl)); (case hp => exact (Reps.c3 (show Kd.FK k24 _ _ (⟨a0_0, a0_1, l0_2⟩ : S24) [.int .i64 a0_0, .int .i64 a0_1, .slice A0_2 l0_2.length c0_2] from (k24_mkF _ _ (⟨a0_0, a0_1, l0_2⟩ : S24) (Kd.V_reads' (Kd.V_mono (ok' := (fun k_ => (P0_2_ k_ ∨ w.heap.size ≤ k_) ∧ k_ ≠ gb101)) (HO0_2.out) (fun k_ hk => ⟨hk.1, hk.2⟩))).2.1 (Kd.V_F (Kd.V_mono (ok' := (fun k_ => (P0_2_ k_ ∨ w.heap.size ≤ k_) ∧ k_ ≠ gb101)) (HO0_2.out) (fun k_ hk => ⟨hk.1, hk.2⟩))))) (Reps.none _ _))); intro v104 w12 ho13 hb hg_ hnew_; clear hg_ hnew_; (first | rw [← Ny103.out] at ho13 | (simp only [Int.reduceToNat] at ho13; rw [← Ny103.out] at ho13)); have n0_ := Aside0.mk (Kd.V_elder' (by (with_reducible repeat (first | apply Kd.qn_ | apply Kd.qm_ | apply Kd.V_drew)); exact HO0_2.out) (by first | exact Kd.N_base ho13 | exact Kd.S_base ho13) hb); have n1_ := Aside0.mk (Kd.N_lower ho13 (qj_ (by repeat (first | (with_reducible first | exact HB.out | apply qc_ | apply qa_ | apply qb_ | refine qf_ ?_ GE101.out) | exact HB.out)))); have n2_ := Aside0.mk (qk_ (g := gb101) (o := .cells #[.int .i64 a0_0, .int .i64 a0_1, .slice A0_2 l0_2.length c0_2] 24 (0, 0)) (by (with_reducible repeat (first | refine qe_ ?_ _ | refine qh_ ?_ | refine qd_ ?_ _)); exact BK101.out) hb); have n3_ := Aside0.mk (ql_ (by repeat (first | (with_reducible first | exact HB.out | apply qc_ | apply qa_ | apply qb_ | refine qf_ ?_ GE101.out) | exact HB.out)) hb); clear HO0_2; clear BK101; clear HB; have HO0_2 := n0_; have HO105 := n1_; have BK101 := n2_; have HB := n3_; clear n0_ n1_ n2_ n3_; clear hb ho13; obtain ⟨Ao14, co14, eo14⟩ := Kd.N_slice HO105.out; subst eo14) | ((with_reducible refine qr_ (f := 10) rfl ?_); refine goesL_ (some 15) rfl rfl Try.func10 (by kernel_rfl) rfl #[.slice Ao14 y103.length co14] rfl (by (try simp only [List.map_toArray, List.map_cons, List.map_nil]); first | done | rfl | (simp only [List.length_drop, List.length_take]; rfl)) ?_; (with_reducible refine (law05_great.calls k _ _ y103 true _ ?side1 ?side2 A9.out).mono ?_); (case side1 => repeat (first | exact (Kd.N_reads' HO105.out).2.2 | (with_reducible refine Kd.qu_ ?_ _) | (with_reducible refine Kd.qt_ ?_ _) | (with_reducible refine Kd.C_drew ?_))); (case side2 => exact (Kd.N_reads' HO105.out).2.1); rintro e w15 ⟨rfl, hb⟩; refine ⟨_, rfl, ?_⟩; have n0_ := Aside0.mk (Kd.qo_ (by (with_reducible repeat (first | apply Kd.qn_ | apply Kd.qm_ | apply Kd.V_drew)); exact HO0_2.out) hb); have n1_ := Aside0.mk (Kd.N_below (by (with_reducible repeat (first | apply Kd.N_alloc | apply Kd.N_drewN | apply Kd.N_drew)); exact HO105.out) hb); have n2_ := Aside0.mk (qk_ (g := gb101) (o := .cells #[.int .i64 a0_0, .int .i64 a0_1, .slice A0_2 l0_2.length c0_2] 24 (0, 0)) (by (with_reducible repeat (first | refine qe_ ?_ _ | refine qh_ ?_ | refine qd_ ?_ _)); exact BK101.out) hb); have n3_ := Aside0.mk (ql_ (by repeat (first | (with_reducible first | exact HB.out | apply qc_ | apply qa_ | apply qb_ | refine qf_ ?_ GE101.out) | exact HB.out)) hb); clear HO0_2; clear HO105; clear BK101; clear HB; have HO0_2 := n0_; have HO105 := n1_; have BK101 := n2_; have HB := n3_; clear n0_ n1_ n2_ n3_; (try clear hb); (try clear hb2); (try clear hk); (try clear hi)))
    go_meet
    case rel => exact ⟨_, (true), (by first | rfl | (simp; done) | (simp [*]; done)), H', ⟨by first | omega | exact Nat.le_refl _⟩, ⟨by (with_reducible repeat (first | apply Kd.qn_ | apply Kd.qm_ | apply Kd.V_drew)); exact Kd.V_mono HO0_2.out (fun _ hk => ⟨hk.1.1, hk.1.2⟩)⟩, ⟨by (with_reducible repeat (first | refine qe_ ?_ _ | refine qh_ ?_ | refine qd_ ?_ _)); exact BK101.out⟩, ⟨by repeat (first | (with_reducible first | exact HB.out | apply qc_ | apply qa_ | apply qb_ | refine qf_ ?_ GE101.out) | exact HB.out)⟩⟩
   ·replace c10 := Bool.eq_false_iff.mpr c10
    subst c10
    have H1 : (if (a2.size : Int) > 200 then (law05_StateForward.j0 k a1 a2 true a0_0 a0_1 l0_2) else ((ref05_Right.f k a0_0 a0_1 l0_2).bind fun t107 => (if t107 = true then ((ref05_Top.f k a0_0 a0_1 l0_2).bind fun t108 => (law05_StateForward.j0 k a1 a2 (t108 == 1099511627776) a0_0 a0_1 l0_2)) else (law05_StateForward.j0 k a1 a2 true a0_0 a0_1 l0_2)))) = some r := by rw [if_neg (show ¬ (false = true) by decide)] at H; exact H
    clear H
    have H := H1
    clear H1
    by_cases c16 : (a2.size : Int) > 200
    ·rw [if_pos c16] at H
     have c16b0 : decide (200 < (a2.size : Int)) = true := decide_eq_true c16
     have c16b1 : decide (200 < a2.size) = true := decide_eq_true (by omega)
     clear c16
     (first | rw [c16b0] | (simp only [i64_w, i32_w]; rw [c16b0]) | skip)
     have H' := Aside0.mk H
     clear H
     have hcz17_0 : w8.cell? ⟨gb101, 0, none⟩ = some (.int .i64 a0_0) := (qg_ BK101.out 0).trans rfl
     have hcz17_1 : w8.cell? ⟨gb101, 1, none⟩ = some (.int .i64 a0_1) := (qg_ BK101.out 1).trans rfl
     have hcz17_2 : w8.cell? ⟨gb101, 2, none⟩ = some (.slice A0_2 l0_2.length c0_2) := (qg_ BK101.out 2).trans rfl
     have hfz17_0 := qi_ BK101.out 0
     have hfz17_1 := qi_ BK101.out 1
     have hfz17_2 := qi_ BK101.out 2
     go_wp2_with (first | ((with_reducible refine qq_ (N := 14) rfl ?_); (try (refine qz_ (by rfl) ?_; dsimp only)); refine Kd.N_lit k24 _ 24 ?hg (N' := 14) ?hd (xs := ([(⟨a0_0, a0_1, l0_2⟩ : S24)] : List (S24))) (inner := [.int .i64 a0_0, .int .i64 a0_1, .slice A0_2 l0_2.length c0_2]) (ok := (fun k_ => (P0_2_ k_ ∨ w.heap.size ≤ k_) ∧ k_ ≠ gb101)) (okp := (fun k_ => (P0_2_ k_ ∨ w.heap.size ≤ k_) ∧ k_ ≠ gb101)) ?hr ?hp (fun _ hk => hk) ((show ∀ k_, w8.heap.size ≤ k_ → (fun k_ => (P0_2_ k_ ∨ w.heap.size ≤ k_) ∧ k_ ≠ gb101) k_ from fun k_ hk => ⟨(.inr (Nat.le_trans (qj_ (by repeat (first | (with_reducible first | exact HB.out | apply qc_ | apply qa_ | apply qb_ | refine qf_ ?_ GE101.out) | exact HB.out))) hk)), Kd.freshB (g := gb101) (o := .cells #[.int .i64 a0_0, .int .i64 a0_1, .slice A0_2 l0_2.length c0_2] 24 (0, 0)) (by (with_reducible repeat (first | refine qe_ ?_ _ | refine qh_ ?_ | refine qd_ ?_ _)); exact BK101.out) k_ hk⟩) _ (Nat.le_refl _)) (Below.refl _ _) (Nat.le_refl _) (by simp) ?_; (case hd => rfl); (case hg => rfl); (case hr => first | (go_simp; done) | (go_simp; rfl)); (case hp => exact (Reps.c3 (show Kd.FK k24 _ _ (⟨a0_0, a0_1, l0_2⟩ : S24) [.int .i64 a0_0, .int .i64 a0_1, .slice A0_2 l0_2.length c0_2] from (k24_mkF _ _ (⟨a0_0, a0_1, l0_2⟩ : S24) (Kd.V_reads' (Kd.V_mono (ok' := (fun k_ => (P0_2_ k_ ∨ w.heap.size ≤ k_) ∧ k_ ≠ gb101)) (HO0_2.out) (fun k_ hk => ⟨hk.1, hk.2⟩))).2.1 (Kd.V_F (Kd.V_mono (ok' := (fun k_ => (P0_2_ k_ ∨ w.heap.size ≤ k_) ∧ k_ ≠ gb101)) (HO0_2.out) (fun k_ hk => ⟨hk.1, hk.2⟩))))) (Reps.none _ _))); intro v104 w18 ho19 hb hg_ hnew_; clear hg_ hnew_; (first | rw [← Ny103.out] at ho19 | (simp only [Int.reduceToNat] at ho19; rw [← Ny103.out] at ho19)); have n0_ := Aside0.mk (Kd.V_elder' (by (with_reducible repeat (first | apply Kd.qn_ | apply Kd.qm_ | apply Kd.V_drew)); exact HO0_2.out) (by first | exact Kd.N_base ho19 | exact Kd.S_base ho19) hb); have n1_ := Aside0.mk (Kd.N_lower ho19 (qj_ (by repeat (first | (with_reducible first | exact HB.out | apply qc_ | apply qa_ | apply qb_ | refine qf_ ?_ GE101.out) | exact HB.out)))); have n2_ := Aside0.mk (qk_ (g := gb101) (o := .cells #[.int .i64 a0_0, .int .i64 a0_1, .slice A0_2 l0_2.length c0_2] 24 (0, 0)) (by (with_reducible repeat (first | refine qe_ ?_ _ | refine qh_ ?_ | refine qd_ ?_ _)); exact BK101.out) hb); have n3_ := Aside0.mk (ql_ (by repeat (first | (with_reducible first | exact HB.out | apply qc_ | apply qa_ | apply qb_ | refine qf_ ?_ GE101.out) | exact HB.out)) hb); clear HO0_2; clear BK101; clear HB; have HO0_2 := n0_; have HO105 := n1_; have BK101 := n2_; have HB := n3_; clear n0_ n1_ n2_ n3_; clear hb ho19; obtain ⟨Ao20, co20, eo20⟩ := Kd.N_slice HO105.out; subst eo20) | ((with_reducible refine qr_ (f := 10) rfl ?_); refine goesL_ (some 15) rfl rfl Try.func10 (by kernel_rfl) rfl #[.slice Ao20 y103.length co20] rfl (by (try simp only [List.map_toArray, List.map_cons, List.map_nil]); first | done | rfl | (simp only [List.length_drop, List.length_take]; rfl)) ?_; (with_reducible refine (law05_great.calls k _ _ y103 false _ ?side1 ?side2 A9.out).mono ?_); (case side1 => repeat (first | exact (Kd.N_reads' HO105.out).2.2 | (with_reducible refine Kd.qu_ ?_ _) | (with_reducible refine Kd.qt_ ?_ _) | (with_reducible refine Kd.C_drew ?_))); (case side2 => exact (Kd.N_reads' HO105.out).2.1); rintro e w21 ⟨rfl, hb⟩; refine ⟨_, rfl, ?_⟩; have n0_ := Aside0.mk (Kd.qo_ (by (with_reducible repeat (first | apply Kd.qn_ | apply Kd.qm_ | apply Kd.V_drew)); exact HO0_2.out) hb); have n1_ := Aside0.mk (Kd.N_below (by (with_reducible repeat (first | apply Kd.N_alloc | apply Kd.N_drewN | apply Kd.N_drew)); exact HO105.out) hb); have n2_ := Aside0.mk (qk_ (g := gb101) (o := .cells #[.int .i64 a0_0, .int .i64 a0_1, .slice A0_2 l0_2.length c0_2] 24 (0, 0)) (by (with_reducible repeat (first | refine qe_ ?_ _ | refine qh_ ?_ | refine qd_ ?_ _)); exact BK101.out) hb); have n3_ := Aside0.mk (ql_ (by repeat (first | (with_reducible first | exact HB.out | apply qc_ | apply qa_ | apply qb_ | refine qf_ ?_ GE101.out) | exact HB.out)) hb); clear HO0_2; clear HO105; clear BK101; clear HB; have HO0_2 := n0_; have HO105 := n1_; have BK101 := n2_; have HB := n3_; clear n0_ n1_ n2_ n3_; (try clear hb); (try clear hb2); (try clear hk); (try clear hi)))
     go_meet
     case rel => exact ⟨_, (true), (by first | rfl | (simp; done) | (simp [*]; done)), H', ⟨by first | omega | exact Nat.le_refl _⟩, ⟨by (with_reducible repeat (first | apply Kd.qn_ | apply Kd.qm_ | apply Kd.V_drew)); exact Kd.V_mono HO0_2.out (fun _ hk => ⟨hk.1.1, hk.1.2⟩)⟩, ⟨by (with_reducible repeat (first | refine qe_ ?_ _ | refine qh_ ?_ | refine qd_ ?_ _)); exact BK101.out⟩, ⟨by repeat (first | (with_reducible first | exact HB.out | apply qc_ | apply qa_ | apply qb_ | refine qf_ ?_ GE101.out) | exact HB.out)⟩⟩
    ·rw [if_neg c16] at H
     have c16b0 : decide (200 < (a2.size : Int)) = false := decide_eq_false c16
     have c16b1 : decide (200 < a2.size) = false := decide_eq_false (by omega)
     clear c16
     (first | rw [c16b0] | (simp only [i64_w, i32_w]; rw [c16b0]) | skip)
     replace H := ob_ H
     obtain ⟨t107, A220, H⟩ := H
     replace H : (if t107 = true then ((ref05_Top.f k a0_0 a0_1 l0_2).bind fun t108 => (law05_StateForward.j0 k a1 a2 (t108 == 1099511627776) a0_0 a0_1 l0_2)) else (law05_StateForward.j0 k a1 a2 true a0_0 a0_1 l0_2)) = some r := H
     have A22 := Aside0.mk A220
     clear A220
     by_cases c23 : t107 = true
     ·subst c23
      have H1 : ((ref05_Top.f k a0_0 a0_1 l0_2).bind fun t108 => (law05_StateForward.j0 k a1 a2 (t108 == 1099511627776) a0_0 a0_1 l0_2)) = some r := by rw [if_pos rfl] at H; exact H
      clear H
      have H := H1
      clear H1
      replace H := ob_ H
      obtain ⟨t108, A240, H⟩ := H
      replace H : (law05_StateForward.j0 k a1 a2 (t108 == 1099511627776) a0_0 a0_1 l0_2) = some r := H
      have A24 := Aside0.mk A240
      clear A240
      have H' := Aside0.mk H
      clear H
      have hcz25_0 : w8.cell? ⟨gb101, 0, none⟩ = some (.int .i64 a0_0) := (qg_ BK101.out 0).trans rfl
      have hcz25_1 : w8.cell? ⟨gb101, 1, none⟩ = some (.int .i64 a0_1) := (qg_ BK101.out 1).trans rfl
      have hcz25_2 : w8.cell? ⟨gb101, 2, none⟩ = some (.slice A0_2 l0_2.length c0_2) := (qg_ BK101.out 2).trans rfl
      have hfz25_0 := qi_ BK101.out 0
      have hfz25_1 := qi_ BK101.out 1
      have hfz25_2 := qi_ BK101.out 2
      go_wp2_with (first | ((with_reducible refine qq_ (N := 14) rfl ?_); (try (refine qz_ (by rfl) ?_; dsimp only)); refine Kd.N_lit k24 _ 24 ?hg (N' := 14) ?hd (xs := ([(⟨a0_0, a0_1, l0_2⟩ : S24)] : List (S24))) (inner := [.int .i64 a0_0, .int .i64 a0_1, .slice A0_2 l0_2.length c0_2]) (ok := (fun k_ => (P0_2_ k_ ∨ w.heap.size ≤ k_) ∧ k_ ≠ gb101)) (okp := (fun k_ => (P0_2_ k_ ∨ w.heap.size ≤ k_) ∧ k_ ≠ gb101)) ?hr ?hp (fun _ hk => hk) ((show ∀ k_, w8.heap.size ≤ k_ → (fun k_ => (P0_2_ k_ ∨ w.heap.size ≤ k_) ∧ k_ ≠ gb101) k_ from fun k_ hk => ⟨(.inr (Nat.le_trans (qj_ (by repeat (first | (with_reducible first | exact HB.out | apply qc_ | apply qa_ | apply qb_ | refine qf_ ?_ GE101.out) | exact HB.out))) hk)), Kd.freshB (g := gb101) (o := .cells #[.int .i64 a0_0, .int .i64 a0_1, .slice A0_2 l0_2.length c0_2] 24 (0, 0)) (by (with_reducible repeat (first | refine qe_ ?_ _ | refine qh_ ?_ | refine qd_ ?_ _)); exact BK101.out) k_ hk⟩) _ (Nat.le_refl _)) (Below.refl _ _) (Nat.le_refl _) (by simp) ?_; (case hd => rfl); (case hg => rfl); (case hr => first | (go_simp; done) | (go_simp; rfl)); (case hp => exact (Reps.c3 (show Kd.FK k24 _ _ (⟨a0_0, a0_1, l0_2⟩ : S24) [.int .i64 a0_0, .int .i64 a0_1, .slice A0_2 l0_2.length c0_2] from (k24_mkF _ _ (⟨a0_0, a0_1, l0_2⟩ : S24) (Kd.V_reads' (Kd.V_mono (ok' := (fun k_ => (P0_2_ k_ ∨ w.heap.size ≤ k_) ∧ k_ ≠ gb101)) (HO0_2.out) (fun k_ hk => ⟨hk.1, hk.2⟩))).2.1 (Kd.V_F (Kd.V_mono (ok' := (fun k_ => (P0_2_ k_ ∨ w.heap.size ≤ k_) ∧ k_ ≠ gb101)) (HO0_2.out) (fun k_ hk => ⟨hk.1, hk.2⟩))))) (Reps.none _ _))); intro v104 w26 ho27 hb hg_ hnew_; clear hg_ hnew_; (first | rw [← Ny103.out] at ho27 | (simp only [Int.reduceToNat] at ho27; rw [← Ny103.out] at ho27)); have n0_ := Aside0.mk (Kd.V_elder' (by (with_reducible repeat (first | apply Kd.qn_ | apply Kd.qm_ | apply Kd.V_drew)); exact HO0_2.out) (by first | exact Kd.N_base ho27 | exact Kd.S_base ho27) hb); have n1_ := Aside0.mk (Kd.N_lower ho27 (qj_ (by repeat (first | (with_reducible first | exact HB.out | apply qc_ | apply qa_ | apply qb_ | refine qf_ ?_ GE101.out) | exact HB.out)))); have n2_ := Aside0.mk (qk_ (g := gb101) (o := .cells #[.int .i64 a0_0, .int .i64 a0_1, .slice A0_2 l0_2.length c0_2] 24 (0, 0)) (by (with_reducible repeat (first | refine qe_ ?_ _ | refine qh_ ?_ | refine qd_ ?_ _)); exact BK101.out) hb); have n3_ := Aside0.mk (ql_ (by repeat (first | (with_reducible first | exact HB.out | apply qc_ | apply qa_ | apply qb_ | refine qf_ ?_ GE101.out) | exact HB.out)) hb); clear HO0_2; clear BK101; clear HB; have HO0_2 := n0_; have HO105 := n1_; have BK101 := n2_; have HB := n3_; clear n0_ n1_ n2_ n3_; clear hb ho27; obtain ⟨Ao28, co28, eo28⟩ := Kd.N_slice HO105.out; subst eo28) | ((with_reducible refine qr_ (f := 10) rfl ?_); refine goesL_ (some 15) rfl rfl Try.func10 (by kernel_rfl) rfl #[.slice Ao28 y103.length co28] rfl (by (try simp only [List.map_toArray, List.map_cons, List.map_nil]); first | done | rfl | (simp only [List.length_drop, List.length_take]; rfl)) ?_; (with_reducible refine (law05_great.calls k _ _ y103 false _ ?side1 ?side2 A9.out).mono ?_); (case side1 => repeat (first | exact (Kd.N_reads' HO105.out).2.2 | (with_reducible refine Kd.qu_ ?_ _) | (with_reducible refine Kd.qt_ ?_ _) | (with_reducible refine Kd.C_drew ?_))); (case side2 => exact (Kd.N_reads' HO105.out).2.1); rintro e w29 ⟨rfl, hb⟩; refine ⟨_, rfl, ?_⟩; have n0_ := Aside0.mk (Kd.qo_ (by (with_reducible repeat (first | apply Kd.qn_ | apply Kd.qm_ | apply Kd.V_drew)); exact HO0_2.out) hb); have n1_ := Aside0.mk (Kd.N_below (by (with_reducible repeat (first | apply Kd.N_alloc | apply Kd.N_drewN | apply Kd.N_drew)); exact HO105.out) hb); have n2_ := Aside0.mk (qk_ (g := gb101) (o := .cells #[.int .i64 a0_0, .int .i64 a0_1, .slice A0_2 l0_2.length c0_2] 24 (0, 0)) (by (with_reducible repeat (first | refine qe_ ?_ _ | refine qh_ ?_ | refine qd_ ?_ _)); exact BK101.out) hb); have n3_ := Aside0.mk (ql_ (by repeat (first | (with_reducible first | exact HB.out | apply qc_ | apply qa_ | apply qb_ | refine qf_ ?_ GE101.out) | exact HB.out)) hb); clear HO0_2; clear HO105; clear BK101; clear HB; have HO0_2 := n0_; have HO105 := n1_; have BK101 := n2_; have HB := n3_; clear n0_ n1_ n2_ n3_; (try clear hb); (try clear hb2); (try clear hk); (try clear hi); have hcz30_0 : w29.cell? ⟨gb101, 0, none⟩ = some (.int .i64 a0_0) := (qg_ BK101.out 0).trans rfl; have hcz30_1 : w29.cell? ⟨gb101, 1, none⟩ = some (.int .i64 a0_1) := (qg_ BK101.out 1).trans rfl; have hcz30_2 : w29.cell? ⟨gb101, 2, none⟩ = some (.slice A0_2 l0_2.length c0_2) := (qg_ BK101.out 2).trans rfl; have hfz30_0 := qi_ BK101.out 0; have hfz30_1 := qi_ BK101.out 1; have hfz30_2 := qi_ BK101.out 2) | (go_at_call 17; (with_reducible refine (ref05_Right.calls k a0_0 a0_1 _ _ l0_2 true _ ?side1 ?side2 A22.out).mono ?_); (case side1 => repeat (first | exact (Kd.V_reads' HO0_2.out).2.2 | (with_reducible refine Kd.qu_ ?_ _) | (with_reducible refine Kd.qt_ ?_ _) | (with_reducible refine Kd.C_drew ?_))); (case side2 => exact (Kd.V_reads' HO0_2.out).2.1); rintro e w31 ⟨rfl, hb⟩; have n0_ := Aside0.mk (Kd.qo_ (by (with_reducible repeat (first | apply Kd.qn_ | apply Kd.qm_ | apply Kd.V_drew)); exact HO0_2.out) hb); have n1_ := Aside0.mk (Kd.N_below (by (with_reducible repeat (first | apply Kd.N_alloc | apply Kd.N_drewN | apply Kd.N_drew)); exact HO105.out) hb); have n2_ := Aside0.mk (qk_ (g := gb101) (o := .cells #[.int .i64 a0_0, .int .i64 a0_1, .slice A0_2 l0_2.length c0_2] 24 (0, 0)) (by (with_reducible repeat (first | refine qe_ ?_ _ | refine qh_ ?_ | refine qd_ ?_ _)); exact BK101.out) hb); have n3_ := Aside0.mk (ql_ (by repeat (first | (with_reducible first | exact HB.out | apply qc_ | apply qa_ | apply qb_ | refine qf_ ?_ GE101.out) | exact HB.out)) hb); clear HO0_2; clear HO105; clear BK101; clear HB; have HO0_2 := n0_; have HO105 := n1_; have BK101 := n2_; have HB := n3_; clear n0_ n1_ n2_ n3_; (try clear hb); (try clear hb2); (try clear hk); (try clear hi); have hcz32_0 : w31.cell? ⟨gb101, 0, none⟩ = some (.int .i64 a0_0) := (qg_ BK101.out 0).trans rfl; have hcz32_1 : w31.cell? ⟨gb101, 1, none⟩ = some (.int .i64 a0_1) := (qg_ BK101.out 1).trans rfl; have hcz32_2 : w31.cell? ⟨gb101, 2, none⟩ = some (.slice A0_2 l0_2.length c0_2) := (qg_ BK101.out 2).trans rfl; have hfz32_0 := qi_ BK101.out 0; have hfz32_1 := qi_ BK101.out 1; have hfz32_2 := qi_ BK101.out 2) | (go_at_call 23; (with_reducible refine (ref05_Top.calls k a0_0 a0_1 _ _ l0_2 t108 _ ?side1 ?side2 A24.out).mono ?_); (case side1 => repeat (first | exact (Kd.V_reads' HO0_2.out).2.2 | (with_reducible refine Kd.qu_ ?_ _) | (with_reducible refine Kd.qt_ ?_ _) | (with_reducible refine Kd.C_drew ?_))); (case side2 => exact (Kd.V_reads' HO0_2.out).2.1); rintro e w33 ⟨rfl, hb⟩; have n0_ := Aside0.mk (Kd.qo_ (by (with_reducible repeat (first | apply Kd.qn_ | apply Kd.qm_ | apply Kd.V_drew)); exact HO0_2.out) hb); have n1_ := Aside0.mk (Kd.N_below (by (with_reducible repeat (first | apply Kd.N_alloc | apply Kd.N_drewN | apply Kd.N_drew)); exact HO105.out) hb); have n2_ := Aside0.mk (qk_ (g := gb101) (o := .cells #[.int .i64 a0_0, .int .i64 a0_1, .slice A0_2 l0_2.length c0_2] 24 (0, 0)) (by (with_reducible repeat (first | refine qe_ ?_ _ | refine qh_ ?_ | refine qd_ ?_ _)); exact BK101.out) hb); have n3_ := Aside0.mk (ql_ (by repeat (first | (with_reducible first | exact HB.out | apply qc_ | apply qa_ | apply qb_ | refine qf_ ?_ GE101.out) | exact HB.out)) hb); clear HO0_2; clear HO105; clear BK101; clear HB; have HO0_2 := n0_; have HO105 := n1_; have BK101 := n2_; have HB := n3_; clear n0_ n1_ n2_ n3_; (try clear hb); (try clear hb2); (try clear hk); (try clear hi)))
      go_meet
      case rel => exact ⟨_, ((t108 == 1099511627776)), (by first | rfl | (simp; done) | (simp [*]; done)), H', ⟨by first | omega | exact Nat.le_refl _⟩, ⟨by (with_reducible repeat (first | apply Kd.qn_ | apply Kd.qm_ | apply Kd.V_drew)); exact Kd.V_mono HO0_2.out (fun _ hk => ⟨hk.1.1, hk.1.2⟩)⟩, ⟨by (with_reducible repeat (first | refine qe_ ?_ _ | refine qh_ ?_ | refine qd_ ?_ _)); exact BK101.out⟩, ⟨by repeat (first | (with_reducible first | exact HB.out | apply qc_ | apply qa_ | apply qb_ | refine qf_ ?_ GE101.out) | exact HB.out)⟩⟩
     ·replace c23 := Bool.eq_false_iff.mpr c23
      subst c23
      have H1 : (law05_StateForward.j0 k a1 a2 true a0_0 a0_1 l0_2) = some r := by rw [if_neg (show ¬ (false = true) by decide)] at H; exact H
      clear H
      have H := H1
      clear H1
      have H' := Aside0.mk H
      clear H
      have hcz34_0 : w8.cell? ⟨gb101, 0, none⟩ = some (.int .i64 a0_0) := (qg_ BK101.out 0).trans rfl
      have hcz34_1 : w8.cell? ⟨gb101, 1, none⟩ = some (.int .i64 a0_1) := (qg_ BK101.out 1).trans rfl
      have hcz34_2 : w8.cell? ⟨gb101, 2, none⟩ = some (.slice A0_2 l0_2.length c0_2) := (qg_ BK101.out 2).trans rfl
      have hfz34_0 := qi_ BK101.out 0
      have hfz34_1 := qi_ BK101.out 1
      have hfz34_2 := qi_ BK101.out 2
      go_wp2_with (first | ((with_reducible refine qq_ (N := 14) rfl ?_); (try (refine qz_ (by rfl) ?_; dsimp only)); refine Kd.N_lit k24 _ 24 ?hg (N' := 14) ?hd (xs := ([(⟨a0_0, a0_1, l0_2⟩ : S24)] : List (S24))) (inner := [.int .i64 a0_0, .int .i64 a0_1, .slice A0_2 l0_2.length c0_2]) (ok := (fun k_ => (P0_2_ k_ ∨ w.heap.size ≤ k_) ∧ k_ ≠ gb101)) (okp := (fun k_ => (P0_2_ k_ ∨ w.heap.size ≤ k_) ∧ k_ ≠ gb101)) ?hr ?hp (fun _ hk => hk) ((show ∀ k_, w8.heap.size ≤ k_ → (fun k_ => (P0_2_ k_ ∨ w.heap.size ≤ k_) ∧ k_ ≠ gb101) k_ from fun k_ hk => ⟨(.inr (Nat.le_trans (qj_ (by repeat (first | (with_reducible first | exact HB.out | apply qc_ | apply qa_ | apply qb_ | refine qf_ ?_ GE101.out) | exact HB.out))) hk)), Kd.freshB (g := gb101) (o := .cells #[.int .i64 a0_0, .int .i64 a0_1, .slice A0_2 l0_2.length c0_2] 24 (0, 0)) (by (with_reducible repeat (first | refine qe_ ?_ _ | refine qh_ ?_ | refine qd_ ?_ _)); exact BK101.out) k_ hk⟩) _ (Nat.le_refl _)) (Below.refl _ _) (Nat.le_refl _) (by simp) ?_; (case hd => rfl); (case hg => rfl); (case hr => first | (go_simp; done) | (go_simp; rfl)); (case hp => exact (Reps.c3 (show Kd.FK k24 _ _ (⟨a0_0, a0_1, l0_2⟩ : S24) [.int .i64 a0_0, .int .i64 a0_1, .slice A0_2 l0_2.length c0_2] from (k24_mkF _ _ (⟨a0_0, a0_1, l0_2⟩ : S24) (Kd.V_reads' (Kd.V_mono (ok' := (fun k_ => (P0_2_ k_ ∨ w.heap.size ≤ k_) ∧ k_ ≠ gb101)) (HO0_2.out) (fun k_ hk => ⟨hk.1, hk.2⟩))).2.1 (Kd.V_F (Kd.V_mono (ok' := (fun k_ => (P0_2_ k_ ∨ w.heap.size ≤ k_) ∧ k_ ≠ gb101)) (HO0_2.out) (fun k_ hk => ⟨hk.1, hk.2⟩))))) (Reps.none _ _))); intro v104 w35 ho36 hb hg_ hnew_; clear hg_ hnew_; (first | rw [← Ny103.out] at ho36 | (simp only [Int.reduceToNat] at ho36; rw [← Ny103.out] at ho36)); have n0_ := Aside0.mk (Kd.V_elder' (by (with_reducible repeat (first | apply Kd.qn_ | apply Kd.qm_ | apply Kd.V_drew)); exact HO0_2.out) (by first | exact Kd.N_base ho36 | exact Kd.S_base ho36) hb); have n1_ := Aside0.mk (Kd.N_lower ho36 (qj_ (by repeat (first | (with_reducible first | exact HB.out | apply qc_ | apply qa_ | apply qb_ | refine qf_ ?_ GE101.out) | exact HB.out)))); have n2_ := Aside0.mk (qk_ (g := gb101) (o := .cells #[.int .i64 a0_0, .int .i64 a0_1, .slice A0_2 l0_2.length c0_2] 24 (0, 0)) (by (with_reducible repeat (first | refine qe_ ?_ _ | refine qh_ ?_ | refine qd_ ?_ _)); exact BK101.out) hb); have n3_ := Aside0.mk (ql_ (by repeat (first | (with_reducible first | exact HB.out | apply qc_ | apply qa_ | apply qb_ | refine qf_ ?_ GE101.out) | exact HB.out)) hb); clear HO0_2; clear BK101; clear HB; have HO0_2 := n0_; have HO105 := n1_; have BK101 := n2_; have HB := n3_; clear n0_ n1_ n2_ n3_; clear hb ho36; obtain ⟨Ao37, co37, eo37⟩ := Kd.N_slice HO105.out; subst eo37) | ((with_reducible refine qr_ (f := 10) rfl ?_); refine goesL_ (some 15) rfl rfl Try.func10 (by kernel_rfl) rfl #[.slice Ao37 y103.length co37] rfl (by (try simp only [List.map_toArray, List.map_cons, List.map_nil]); first | done | rfl | (simp only [List.length_drop, List.length_take]; rfl)) ?_; (with_reducible refine (law05_great.calls k _ _ y103 false _ ?side1 ?side2 A9.out).mono ?_); (case side1 => repeat (first | exact (Kd.N_reads' HO105.out).2.2 | (with_reducible refine Kd.qu_ ?_ _) | (with_reducible refine Kd.qt_ ?_ _) | (with_reducible refine Kd.C_drew ?_))); (case side2 => exact (Kd.N_reads' HO105.out).2.1); rintro e w38 ⟨rfl, hb⟩; refine ⟨_, rfl, ?_⟩; have n0_ := Aside0.mk (Kd.qo_ (by (with_reducible repeat (first | apply Kd.qn_ | apply Kd.qm_ | apply Kd.V_drew)); exact HO0_2.out) hb); have n1_ := Aside0.mk (Kd.N_below (by (with_reducible repeat (first | apply Kd.N_alloc | apply Kd.N_drewN | apply Kd.N_drew)); exact HO105.out) hb); have n2_ := Aside0.mk (qk_ (g := gb101) (o := .cells #[.int .i64 a0_0, .int .i64 a0_1, .slice A0_2 l0_2.length c0_2] 24 (0, 0)) (by (with_reducible repeat (first | refine qe_ ?_ _ | refine qh_ ?_ | refine qd_ ?_ _)); exact BK101.out) hb); have n3_ := Aside0.mk (ql_ (by repeat (first | (with_reducible first | exact HB.out | apply qc_ | apply qa_ | apply qb_ | refine qf_ ?_ GE101.out) | exact HB.out)) hb); clear HO0_2; clear HO105; clear BK101; clear HB; have HO0_2 := n0_; have HO105 := n1_; have BK101 := n2_; have HB := n3_; clear n0_ n1_ n2_ n3_; (try clear hb); (try clear hb2); (try clear hk); (try clear hi); have hcz39_0 : w38.cell? ⟨gb101, 0, none⟩ = some (.int .i64 a0_0) := (qg_ BK101.out 0).trans rfl; have hcz39_1 : w38.cell? ⟨gb101, 1, none⟩ = some (.int .i64 a0_1) := (qg_ BK101.out 1).trans rfl; have hcz39_2 : w38.cell? ⟨gb101, 2, none⟩ = some (.slice A0_2 l0_2.length c0_2) := (qg_ BK101.out 2).trans rfl; have hfz39_0 := qi_ BK101.out 0; have hfz39_1 := qi_ BK101.out 1; have hfz39_2 := qi_ BK101.out 2) | (go_at_call 17; (with_reducible refine (ref05_Right.calls k a0_0 a0_1 _ _ l0_2 false _ ?side1 ?side2 A22.out).mono ?_); (case side1 => repeat (first | exact (Kd.V_reads' HO0_2.out).2.2 | (with_reducible refine Kd.qu_ ?_ _) | (with_reducible refine Kd.qt_ ?_ _) | (with_reducible refine Kd.C_drew ?_))); (case side2 => exact (Kd.V_reads' HO0_2.out).2.1); rintro e w40 ⟨rfl, hb⟩; have n0_ := Aside0.mk (Kd.qo_ (by (with_reducible repeat (first | apply Kd.qn_ | apply Kd.qm_ | apply Kd.V_drew)); exact HO0_2.out) hb); have n1_ := Aside0.mk (Kd.N_below (by (with_reducible repeat (first | apply Kd.N_alloc | apply Kd.N_drewN | apply Kd.N_drew)); exact HO105.out) hb); have n2_ := Aside0.mk (qk_ (g := gb101) (o := .cells #[.int .i64 a0_0, .int .i64 a0_1, .slice A0_2 l0_2.length c0_2] 24 (0, 0)) (by (with_reducible repeat (first | refine qe_ ?_ _ | refine qh_ ?_ | refine qd_ ?_ _)); exact BK101.out) hb); have n3_ := Aside0.mk (ql_ (by repeat (first | (with_reducible first | exact HB.out | apply qc_ | apply qa_ | apply qb_ | refine qf_ ?_ GE101.out) | exact HB.out)) hb); clear HO0_2; clear HO105; clear BK101; clear HB; have HO0_2 := n0_; have HO105 := n1_; have BK101 := n2_; have HB := n3_; clear n0_ n1_ n2_ n3_; (try clear hb); (try clear hb2); (try clear hk); (try clear hi)))
      go_meet
      case rel => exact ⟨_, (true), (by first | rfl | (simp; done) | (simp [*]; done)), H', ⟨by first | omega | exact Nat.le_refl _⟩, ⟨by (with_reducible repeat (first | apply Kd.qn_ | apply Kd.qm_ | apply Kd.V_drew)); exact Kd.V_mono HO0_2.out (fun _ hk => ⟨hk.1.1, hk.1.2⟩)⟩, ⟨by (with_reducible repeat (first | refine qe_ ?_ _ | refine qh_ ?_ | refine qd_ ?_ _)); exact BK101.out⟩, ⟨by repeat (first | (with_reducible first | exact HB.out | apply qc_ | apply qa_ | apply qb_ | refine qf_ ?_ GE101.out) | exact HB.out)⟩⟩
  case rest =>
   clear HC6
   try clear c1
   try clear c2
   try clear p2
   try clear c3
   try clear c5
   try clear c9
   try clear c10
   try clear c16
   try clear c16b0
   try clear c16b1
   try clear c23
   try clear hcz11_0
   try clear hcz11_1
   try clear hcz11_2
   try clear hcz17_0
   try clear hcz17_1
   try clear hcz17_2
   try clear hcz25_0
   try clear hcz25_1
   try clear hcz25_2
   try clear hcz30_0
   try clear hcz30_1
   try clear hcz30_2
   try clear hcz32_0
   try clear hcz32_1
   try clear hcz32_2
   try clear hcz34_0
   try clear hcz34_1
   try clear hcz34_2
   try clear hcz39_0
   try clear hcz39_1
   try clear hcz39_2
   try clear hfz11_0
   try clear hfz11_1
   try clear hfz11_2
   try clear hfz17_0
   try clear hfz17_1
   try clear hfz17_2
   try clear hfz25_0
   try clear hfz25_1
   try clear hfz25_2
   try clear hfz30_0
   try clear hfz30_1
   try clear hfz30_2
   try clear hfz32_0
   try clear hfz32_1
   try clear hfz32_2
   try clear hfz34_0
   try clear hfz34_1
   try clear hfz34_2
   try clear hfz39_0
   try clear hfz39_1
   try clear hfz39_2
   obtain ⟨kq, x30_5, rfl, HA, HJ5, HO_102002, BK101, HB⟩ := hcut
   cases kq with
   | zero => exact absurd HA.out (by simp [law05_StateForward.j0])
   | succ kj5 =>
    have H := HA.out
    clear HA
    simp only [law05_StateForward.j0] at H
    by_cases c41 : x30_5 = true
    ·subst c41
     have H1 : (some true) = some r := by rw [if_pos rfl] at H; exact H
     clear H
     have H := H1
     clear H1
     obtain rfl := Option.some.inj H
     go_wp2
     go_ret
     exact ⟨by first | rfl | (simp [errW_none, errW_some] <;> rfl) | (simp [*, errW_none, errW_some] <;> rfl), by repeat (first | (with_reducible first | exact HB.out | apply qc_ | apply qa_ | apply qb_ | refine qf_ ?_ GE101.out) | exact HB.out)⟩
    ·replace c41 := Bool.eq_false_iff.mpr c41
     subst c41
     have H1 : ((state_Set.f kj5 a0_0 a0_1 l0_2 (Int.tmod (wrap64 (a1)) 12) a2).bind fun bt109 => ((state_Beat.f kj5 a0_0 a0_1 l0_2).bind fun bt116 => (if bt109.2.2.2 = 0 then (if bt116.2.2.2 = 0 then ((state_Over.f bt109.1 bt109.2.1 bt109.2.2.1 a0_0 a0_1 l0_2).bind fun t123 => (if t123 = true then ((state_Over.f bt116.1 bt116.2.1 bt116.2.2.1 a0_0 a0_1 l0_2).bind fun t124 => (if t124 = true then ((state_Over.f a0_0 a0_1 l0_2 bt109.1 bt109.2.1 bt109.2.2.1).bind fun t125 => (if t125 = true then (some false) else ((state_Over.f a0_0 a0_1 l0_2 bt116.1 bt116.2.1 bt116.2.2.1).bind fun t126 => (if t126 = true then (some false) else ((state_Top.f kj5 bt109.1 bt109.2.1 bt109.2.2.1).bind fun t127 => ((state_Top.f kj5 a0_0 a0_1 l0_2).bind fun t128 => (if t127 = (wrap64 (t128 + 1)) then ((state_Top.f kj5 bt116.1 bt116.2.1 bt116.2.2.1).bind fun t129 => ((state_Top.f kj5 a0_0 a0_1 l0_2).bind fun t130 => (if t129 = (wrap64 (t130 + 1)) then ((state_Right.f kj5 bt109.1 bt109.2.1 bt109.2.2.1).bind fun t131 => (if t131 = true then ((state_Right.f kj5 bt116.1 bt116.2.1 bt116.2.2.1).bind fun t132 => (some t132)) else (some false))) else (some false)))) else (some false)))))))) else (some false))) else (some false))) else (some false)) else (some false)))) = some r := by rw [if_neg (show ¬ (false = true) by decide)] at H; exact H
     clear H
     have H := H1
     clear H1
     replace H := ob_ H
     obtain ⟨⟨t109, t110, t111, t114⟩, A420, H⟩ := H
     replace H : ((state_Beat.f kj5 a0_0 a0_1 l0_2).bind fun bt116 => (if t114 = 0 then (if bt116.2.2.2 = 0 then ((state_Over.f t109 t110 t111 a0_0 a0_1 l0_2).bind fun t123 => (if t123 = true then ((state_Over.f bt116.1 bt116.2.1 bt116.2.2.1 a0_0 a0_1 l0_2).bind fun t124 => (if t124 = true then ((state_Over.f a0_0 a0_1 l0_2 t109 t110 t111).bind fun t125 => (if t125 = true then (some false) else ((state_Over.f a0_0 a0_1 l0_2 bt116.1 bt116.2.1 bt116.2.2.1).bind fun t126 => (if t126 = true then (some false) else ((state_Top.f kj5 t109 t110 t111).bind fun t127 => ((state_Top.f kj5 a0_0 a0_1 l0_2).bind fun t128 => (if t127 = (wrap64 (t128 + 1)) then ((state_Top.f kj5 bt116.1 bt116.2.1 bt116.2.2.1).bind fun t129 => ((state_Top.f kj5 a0_0 a0_1 l0_2).bind fun t130 => (if t129 = (wrap64 (t130 + 1)) then ((state_Right.f kj5 t109 t110 t111).bind fun t131 => (if t131 = true then ((state_Right.f kj5 bt116.1 bt116.2.1 bt116.2.2.1).bind fun t132 => (some t132)) else (some false))) else (some false)))) else (some false)))))))) else (some false))) else (some false))) else (some false)) else (some false))) = some r := H
     have A42 := Aside0.mk A420
     clear A420
     replace H := ob_ H
     obtain ⟨⟨t116, t117, t118, t121⟩, A430, H⟩ := H
     replace H : (if t114 = 0 then (if t121 = 0 then ((state_Over.f t109 t110 t111 a0_0 a0_1 l0_2).bind fun t123 => (if t123 = true then ((state_Over.f t116 t117 t118 a0_0 a0_1 l0_2).bind fun t124 => (if t124 = true then ((state_Over.f a0_0 a0_1 l0_2 t109 t110 t111).bind fun t125 => (if t125 = true then (some false) else ((state_Over.f a0_0 a0_1 l0_2 t116 t117 t118).bind fun t126 => (if t126 = true then (some false) else ((state_Top.f kj5 t109 t110 t111).bind fun t127 => ((state_Top.f kj5 a0_0 a0_1 l0_2).bind fun t128 => (if t127 = (wrap64 (t128 + 1)) then ((state_Top.f kj5 t116 t117 t118).bind fun t129 => ((state_Top.f kj5 a0_0 a0_1 l0_2).bind fun t130 => (if t129 = (wrap64 (t130 + 1)) then ((state_Right.f kj5 t109 t110 t111).bind fun t131 => (if t131 = true then ((state_Right.f kj5 t116 t117 t118).bind fun t132 => (some t132)) else (some false))) else (some false)))) else (some false)))))))) else (some false))) else (some false))) else (some false)) else (some false)) = some r := H
     have A43 := Aside0.mk A430
     clear A430
     by_cases c44 : t114 = 0
     ·rw [if_pos c44] at H
      have c44b0 : (t114 == 0) = true := beq_iff_eq.mpr c44
      have c44b1 : (t114 != 0) = false := bne_eq_false_iff_eq.mpr c44
      clear c44
      by_cases c45 : t121 = 0
      ·rw [if_pos c45] at H
       have c45b0 : (t121 == 0) = true := beq_iff_eq.mpr c45
       have c45b1 : (t121 != 0) = false := bne_eq_false_iff_eq.mpr c45
       clear c45
       replace H := ob_ H
       obtain ⟨t123, A460, H⟩ := H
       replace H : (if t123 = true then ((state_Over.f t116 t117 t118 a0_0 a0_1 l0_2).bind fun t124 => (if t124 = true then ((state_Over.f a0_0 a0_1 l0_2 t109 t110 t111).bind fun t125 => (if t125 = true then (some false) else ((state_Over.f a0_0 a0_1 l0_2 t116 t117 t118).bind fun t126 => (if t126 = true then (some false) else ((state_Top.f kj5 t109 t110 t111).bind fun t127 => ((state_Top.f kj5 a0_0 a0_1 l0_2).bind fun t128 => (if t127 = (wrap64 (t128 + 1)) then ((state_Top.f kj5 t116 t117 t118).bind fun t129 => ((state_Top.f kj5 a0_0 a0_1 l0_2).bind fun t130 => (if t129 = (wrap64 (t130 + 1)) then ((state_Right.f kj5 t109 t110 t111).bind fun t131 => (if t131 = true then ((state_Right.f kj5 t116 t117 t118).bind fun t132 => (some t132)) else (some false))) else (some false)))) else (some false)))))))) else (some false))) else (some false)) = some r := H
       have A46 := Aside0.mk A460
       clear A460
       by_cases c47 : t123 = true
       ·subst c47
        have H1 : ((state_Over.f t116 t117 t118 a0_0 a0_1 l0_2).bind fun t124 => (if t124 = true then ((state_Over.f a0_0 a0_1 l0_2 t109 t110 t111).bind fun t125 => (if t125 = true then (some false) else ((state_Over.f a0_0 a0_1 l0_2 t116 t117 t118).bind fun t126 => (if t126 = true then (some false) else ((state_Top.f kj5 t109 t110 t111).bind fun t127 => ((state_Top.f kj5 a0_0 a0_1 l0_2).bind fun t128 => (if t127 = (wrap64 (t128 + 1)) then ((state_Top.f kj5 t116 t117 t118).bind fun t129 => ((state_Top.f kj5 a0_0 a0_1 l0_2).bind fun t130 => (if t129 = (wrap64 (t130 + 1)) then ((state_Right.f kj5 t109 t110 t111).bind fun t131 => (if t131 = true then ((state_Right.f kj5 t116 t117 t118).bind fun t132 => (some t132)) else (some false))) else (some false)))) else (some false)))))))) else (some false))) = some r := by rw [if_pos rfl] at H; exact H
        clear H
        have H := H1
        clear H1
        replace H := ob_ H
        obtain ⟨t124, A480, H⟩ := H
        replace H : (if t124 = true then ((state_Over.f a0_0 a0_1 l0_2 t109 t110 t111).bind fun t125 => (if t125 = true then (some false) else ((state_Over.f a0_0 a0_1 l0_2 t116 t117 t118).bind fun t126 => (if t126 = true then (some false) else ((state_Top.f kj5 t109 t110 t111).bind fun t127 => ((state_Top.f kj5 a0_0 a0_1 l0_2).bind fun t128 => (if t127 = (wrap64 (t128 + 1)) then ((state_Top.f kj5 t116 t117 t118).bind fun t129 => ((state_Top.f kj5 a0_0 a0_1 l0_2).bind fun t130 => (if t129 = (wrap64 (t130 + 1)) then ((state_Right.f kj5 t109 t110 t111).bind fun t131 => (if t131 = true then ((state_Right.f kj5 t116 t117 t118).bind fun t132 => (some t132)) else (some false))) else (some false)))) else (some false)))))))) else (some false)) = some r := H
        have A48 := Aside0.mk A480
        clear A480
        by_cases c49 : t124 = true
        ·subst c49
         have H1 : ((state_Over.f a0_0 a0_1 l0_2 t109 t110 t111).bind fun t125 => (if t125 = true then (some false) else ((state_Over.f a0_0 a0_1 l0_2 t116 t117 t118).bind fun t126 => (if t126 = true then (some false) else ((state_Top.f kj5 t109 t110 t111).bind fun t127 => ((state_Top.f kj5 a0_0 a0_1 l0_2).bind fun t128 => (if t127 = (wrap64 (t128 + 1)) then ((state_Top.f kj5 t116 t117 t118).bind fun t129 => ((state_Top.f kj5 a0_0 a0_1 l0_2).bind fun t130 => (if t129 = (wrap64 (t130 + 1)) then ((state_Right.f kj5 t109 t110 t111).bind fun t131 => (if t131 = true then ((state_Right.f kj5 t116 t117 t118).bind fun t132 => (some t132)) else (some false))) else (some false)))) else (some false)))))))) = some r := by rw [if_pos rfl] at H; exact H
         clear H
         have H := H1
         clear H1
         replace H := ob_ H
         obtain ⟨t125, A500, H⟩ := H
         replace H : (if t125 = true then (some false) else ((state_Over.f a0_0 a0_1 l0_2 t116 t117 t118).bind fun t126 => (if t126 = true then (some false) else ((state_Top.f kj5 t109 t110 t111).bind fun t127 => ((state_Top.f kj5 a0_0 a0_1 l0_2).bind fun t128 => (if t127 = (wrap64 (t128 + 1)) then ((state_Top.f kj5 t116 t117 t118).bind fun t129 => ((state_Top.f kj5 a0_0 a0_1 l0_2).bind fun t130 => (if t129 = (wrap64 (t130 + 1)) then ((state_Right.f kj5 t109 t110 t111).bind fun t131 => (if t131 = true then ((state_Right.f kj5 t116 t117 t118).bind fun t132 => (some t132)) else (some false))) else (some false)))) else (some false))))))) = some r := H
         have A50 := Aside0.mk A500
         clear A500
         by_cases c51 : t125 = true
         ·rw [if_pos c51] at H
          exact absurd ((Option.some.inj H).trans HRT.out) (by decide)
         ·replace c51 := Bool.eq_false_iff.mpr c51
          subst c51
          have H1 : ((state_Over.f a0_0 a0_1 l0_2 t116 t117 t118).bind fun t126 => (if t126 = true then (some false) else ((state_Top.f kj5 t109 t110 t111).bind fun t127 => ((state_Top.f kj5 a0_0 a0_1 l0_2).bind fun t128 => (if t127 = (wrap64 (t128 + 1)) then ((state_Top.f kj5 t116 t117 t118).bind fun t129 => ((state_Top.f kj5 a0_0 a0_1 l0_2).bind fun t130 => (if t129 = (wrap64 (t130 + 1)) then ((state_Right.f kj5 t109 t110 t111).bind fun t131 => (if t131 = true then ((state_Right.f kj5 t116 t117 t118).bind fun t132 => (some t132)) else (some false))) else (some false)))) else (some false)))))) = some r := by rw [if_neg (show ¬ (false = true) by decide)] at H; exact H
          clear H
          have H := H1
          clear H1
          replace H := ob_ H
          obtain ⟨t126, A710, H⟩ := H
          replace H : (if t126 = true then (some false) else ((state_Top.f kj5 t109 t110 t111).bind fun t127 => ((state_Top.f kj5 a0_0 a0_1 l0_2).bind fun t128 => (if t127 = (wrap64 (t128 + 1)) then ((state_Top.f kj5 t116 t117 t118).bind fun t129 => ((state_Top.f kj5 a0_0 a0_1 l0_2).bind fun t130 => (if t129 = (wrap64 (t130 + 1)) then ((state_Right.f kj5 t109 t110 t111).bind fun t131 => (if t131 = true then ((state_Right.f kj5 t116 t117 t118).bind fun t132 => (some t132)) else (some false))) else (some false)))) else (some false))))) = some r := H
          have A71 := Aside0.mk A710
          clear A710
          by_cases c72 : t126 = true
          ·rw [if_pos c72] at H
           exact absurd ((Option.some.inj H).trans HRT.out) (by decide)
          ·replace c72 := Bool.eq_false_iff.mpr c72
           subst c72
           have H1 : ((state_Top.f kj5 t109 t110 t111).bind fun t127 => ((state_Top.f kj5 a0_0 a0_1 l0_2).bind fun t128 => (if t127 = (wrap64 (t128 + 1)) then ((state_Top.f kj5 t116 t117 t118).bind fun t129 => ((state_Top.f kj5 a0_0 a0_1 l0_2).bind fun t130 => (if t129 = (wrap64 (t130 + 1)) then ((state_Right.f kj5 t109 t110 t111).bind fun t131 => (if t131 = true then ((state_Right.f kj5 t116 t117 t118).bind fun t132 => (some t132)) else (some false))) else (some false)))) else (some false)))) = some r := by rw [if_neg (show ¬ (false = true) by decide)] at H; exact H
           clear H
           have H := H1
           clear H1
           replace H := ob_ H
           obtain ⟨t127, A930, H⟩ := H
           replace H : ((state_Top.f kj5 a0_0 a0_1 l0_2).bind fun t128 => (if t127 = (wrap64 (t128 + 1)) then ((state_Top.f kj5 t116 t117 t118).bind fun t129 => ((state_Top.f kj5 a0_0 a0_1 l0_2).bind fun t130 => (if t129 = (wrap64 (t130 + 1)) then ((state_Right.f kj5 t109 t110 t111).bind fun t131 => (if t131 = true then ((state_Right.f kj5 t116 t117 t118).bind fun t132 => (some t132)) else (some false))) else (some false)))) else (some false))) = some r := H
           have A93 := Aside0.mk A930
           clear A930
           replace H := ob_ H
           obtain ⟨t128, A940, H⟩ := H
           replace H : (if t127 = (wrap64 (t128 + 1)) then ((state_Top.f kj5 t116 t117 t118).bind fun t129 => ((state_Top.f kj5 a0_0 a0_1 l0_2).bind fun t130 => (if t129 = (wrap64 (t130 + 1)) then ((state_Right.f kj5 t109 t110 t111).bind fun t131 => (if t131 = true then ((state_Right.f kj5 t116 t117 t118).bind fun t132 => (some t132)) else (some false))) else (some false)))) else (some false)) = some r := H
           have A94 := Aside0.mk A940
           clear A940
           by_cases c95 : t127 = (wrap64 (t128 + 1))
           ·rw [if_pos c95] at H
            have c95b0 : (t127 == (wrap64 (t128 + 1))) = true := beq_iff_eq.mpr c95
            have c95b1 : (t127 != (wrap64 (t128 + 1))) = false := bne_eq_false_iff_eq.mpr c95
            clear c95
            replace H := ob_ H
            obtain ⟨t129, A960, H⟩ := H
            replace H : ((state_Top.f kj5 a0_0 a0_1 l0_2).bind fun t130 => (if t129 = (wrap64 (t130 + 1)) then ((state_Right.f kj5 t109 t110 t111).bind fun t131 => (if t131 = true then ((state_Right.f kj5 t116 t117 t118).bind fun t132 => (some t132)) else (some false))) else (some false))) = some r := H
            have A96 := Aside0.mk A960
            clear A960
            replace H := ob_ H
            obtain ⟨t130, A970, H⟩ := H
            replace H : (if t129 = (wrap64 (t130 + 1)) then ((state_Right.f kj5 t109 t110 t111).bind fun t131 => (if t131 = true then ((state_Right.f kj5 t116 t117 t118).bind fun t132 => (some t132)) else (some false))) else (some false)) = some r := H
            have A97 := Aside0.mk A970
            clear A970
            by_cases c98 : t129 = (wrap64 (t130 + 1))
            ·rw [if_pos c98] at H
             have c98b0 : (t129 == (wrap64 (t130 + 1))) = true := beq_iff_eq.mpr c98
             have c98b1 : (t129 != (wrap64 (t130 + 1))) = false := bne_eq_false_iff_eq.mpr c98
             clear c98
             replace H := ob_ H
             obtain ⟨t131, A990, H⟩ := H
             replace H : (if t131 = true then ((state_Right.f kj5 t116 t117 t118).bind fun t132 => (some t132)) else (some false)) = some r := H
             have A99 := Aside0.mk A990
             clear A990
             by_cases c100 : t131 = true
             ·subst c100
              have H1 : ((state_Right.f kj5 t116 t117 t118).bind fun t132 => (some t132)) = some r := by rw [if_pos rfl] at H; exact H
              clear H
              have H := H1
              clear H1
              replace H := ob_ H
              obtain ⟨t132, A1010, H⟩ := H
              replace H : (some t132) = some r := H
              have A101 := Aside0.mk A1010
              clear A1010
              obtain rfl := Option.some.inj H
              have hcz102_0 : wc.cell? ⟨gb101, 0, none⟩ = some (.int .i64 a0_0) := (qg_ BK101.out 0).trans rfl
              have hcz102_1 : wc.cell? ⟨gb101, 1, none⟩ = some (.int .i64 a0_1) := (qg_ BK101.out 1).trans rfl
              have hcz102_2 : wc.cell? ⟨gb101, 2, none⟩ = some (.slice A0_2 l0_2.length c0_2) := (qg_ BK101.out 2).trans rfl
              have hfz102_0 := qi_ BK101.out 0
              have hfz102_1 := qi_ BK101.out 1
              have hfz102_2 := qi_ BK101.out 2
              try go_wp2_with (first | ((with_reducible refine qr_ (f := 12) rfl ?_); refine goesL_ (some 37) rfl rfl Try.func12 (by kernel_rfl) rfl #[.agg #[.int .i64 a0_0, .int .i64 a0_1, .slice A0_2 l0_2.length c0_2], .int .i64 (Int.tmod (wrap64 (a1)) 12), .string a2] rfl (by (try simp only [List.map_toArray, List.map_cons, List.map_nil]); first | done | rfl | (simp only [List.length_drop, List.length_take]; rfl)) ?_; (with_reducible refine (state_Set.calls kj5 a0_0 a0_1 (fun k_ => ((P0_2_ k_ ∨ w.heap.size ≤ k_) ∧ k_ ≠ gb101)) _ _ l0_2 (Int.tmod (wrap64 (a1)) 12) a2 t109 t110 t111 t114 _ ?side1 A42.out).mono ?_); (case side1 => exact HO_102002.out); rintro e w103 ⟨v112, rfl, ho0, hb⟩; refine ⟨_, rfl, ?_⟩; have n0_ := Aside0.mk (Kd.qo_ (by (with_reducible repeat (first | apply Kd.qn_ | apply Kd.qm_ | apply Kd.V_drew)); exact HO_102002.out) hb); have n1_ := Aside0.mk (Kd.V_lower (Kd.V_mono (ok' := fun k_ => (P0_2_ k_ ∨ w.heap.size ≤ k_) ∧ k_ ≠ gb101) ho0 (fun k_ hk_ => ⟨Or.elim hk_ (fun hs_ => hs_.1) (fun hn_ => (.inr (Nat.le_trans (qj_ (by repeat (first | (with_reducible first | exact HB.out | apply qc_ | apply qa_ | apply qb_ | refine qf_ ?_ GE101.out) | exact HB.out))) hn_))), Or.elim hk_ (fun hs_ => hs_.2) (fun hn_ => (Kd.freshB (g := gb101) (o := .cells #[.int .i64 a0_0, .int .i64 a0_1, .slice A0_2 l0_2.length c0_2] 24 (0, 0)) (by (with_reducible repeat (first | refine qe_ ?_ _ | refine qh_ ?_ | refine qd_ ?_ _)); exact BK101.out) k_ hn_))⟩)) (qj_ (by repeat (first | (with_reducible first | exact HB.out | apply qc_ | apply qa_ | apply qb_ | refine qf_ ?_ GE101.out) | exact HB.out)))); have n2_ := Aside0.mk (qk_ (g := gb101) (o := .cells #[.int .i64 a0_0, .int .i64 a0_1, .slice A0_2 l0_2.length c0_2] 24 (0, 0)) (by (with_reducible repeat (first | refine qe_ ?_ _ | refine qh_ ?_ | refine qd_ ?_ _)); exact BK101.out) hb); have n3_ := Aside0.mk (ql_ (by repeat (first | (with_reducible first | exact HB.out | apply qc_ | apply qa_ | apply qb_ | refine qf_ ?_ GE101.out) | exact HB.out)) hb); clear HO_102002; clear BK101; clear HB; have HO_102002 := n0_; have HO113 := n1_; have BK101 := n2_; have HB := n3_; clear n0_ n1_ n2_ n3_; (try clear hb); (try clear hb2); (try clear hk); (try clear hi); (try clear ho0)) | ((with_reducible refine qq_ (N := 7) rfl ?_); (try (refine qz_ (by rfl) ?_; dsimp only)); refine qp_ ?hg (N := 7) ?hd (cs := #[.int .i64 0, .int .i64 0, .slice none 0 0]) (t := 24) ?hr ?_; (case hd => rfl); (case hg => rfl); (case hr => first | (go_simp; done) | (go_simp; rfl)); intro gb115 hg w104 hbox hb; have n0_ := Aside0.mk (Kd.qo_ (Kd.V_elderB (by (with_reducible repeat (first | apply Kd.qn_ | apply Kd.qm_ | apply Kd.V_drew)); exact HO_102002.out) gb115 (Nat.le_of_eq hg.symm)) hb); have n1_ := Aside0.mk (Kd.qo_ (Kd.V_elderB (by (with_reducible repeat (first | apply Kd.qn_ | apply Kd.qm_ | apply Kd.V_drew)); exact HO113.out) gb115 (Nat.le_of_eq hg.symm)) hb); have n2_ := Aside0.mk (qk_ (g := gb101) (o := .cells #[.int .i64 a0_0, .int .i64 a0_1, .slice A0_2 l0_2.length c0_2] 24 (0, 0)) (by (with_reducible repeat (first | refine qe_ ?_ _ | refine qh_ ?_ | refine qd_ ?_ _)); exact BK101.out) hb); have n3_ := Aside0.mk (ql_ (by repeat (first | (with_reducible first | exact HB.out | apply qc_ | apply qa_ | apply qb_ | refine qf_ ?_ GE101.out) | exact HB.out)) hb); have n4_ := Aside0.mk (hbox); have n5_ := Aside0.mk ((by rw [hg]; exact (qj_ (by repeat (first | (with_reducible first | exact HB.out | apply qc_ | apply qa_ | apply qb_ | refine qf_ ?_ GE101.out) | exact HB.out))) : w.heap.size ≤ gb115)); have n6_ := Aside0.mk ((by rw [hg]; exact (qj_ (by repeat (first | (with_reducible first | exact HB.out | apply qc_ | apply qa_ | apply qb_ | refine qf_ ?_ GE101.out) | exact HB.out))) : w.heap.size ≤ gb115)); have n7_ := Aside0.mk ((by rw [hg]; exact Nat.ne_of_lt (blk_lt (g := gb101) (o := .cells #[.int .i64 a0_0, .int .i64 a0_1, .slice A0_2 l0_2.length c0_2] 24 (0, 0)) (by (with_reducible repeat (first | refine qe_ ?_ _ | refine qh_ ?_ | refine qd_ ?_ _)); exact BK101.out)) : gb101 ≠ gb115)); have n8_ := Aside0.mk ((by rw [hg]; exact Nat.ne_of_gt (blk_lt (g := gb101) (o := .cells #[.int .i64 a0_0, .int .i64 a0_1, .slice A0_2 l0_2.length c0_2] 24 (0, 0)) (by (with_reducible repeat (first | refine qe_ ?_ _ | refine qh_ ?_ | refine qd_ ?_ _)); exact BK101.out)) : gb115 ≠ gb101)); clear HO_102002; clear HO113; clear BK101; clear HB; have HO_102002 := n0_; have HO113 := n1_; have BK101 := n2_; have HB := n3_; have BK115 := n4_; have GW115 := n5_; have GE115 := n6_; have NB101_115 := n7_; have NB115_101 := n8_; clear n0_ n1_ n2_ n3_ n4_ n5_ n6_ n7_ n8_; clear hb hbox hg; have hnb105 := NB115_101.out; have hnc105 := NB101_115.out; have hcz106_0 : w104.cell? ⟨gb115, 0, none⟩ = some (.int .i64 0) := (qg_ BK115.out 0).trans rfl; have hcz106_1 : w104.cell? ⟨gb115, 1, none⟩ = some (.int .i64 0) := (qg_ BK115.out 1).trans rfl; have hcz106_2 : w104.cell? ⟨gb115, 2, none⟩ = some (.slice none 0 0) := (qg_ BK115.out 2).trans rfl; have hfz106_0 := qi_ BK115.out 0; have hfz106_1 := qi_ BK115.out 1; have hfz106_2 := qi_ BK115.out 2; obtain ⟨Ao107, co107, eo107⟩ := Kd.V_slice HO113.out; subst eo107) | ((with_reducible refine gate_store (t := 24) (p := 7) rfl ?_); refine store_event (t := 24) (p := 7) (v := ?vo_w108) (w1 := (((w104.setCell ⟨gb115, 0, none⟩ (.int .i64 t109)).setCell ⟨gb115, 1, none⟩ (.int .i64 t110)).setCell ⟨gb115, 2, none⟩ (.slice Ao107 t111.length co107))) ?hg ?ho ?hn ?hr ?_; (case ho => rfl); (case hg => rfl); (case hn => rfl); (case hr => first | (go_simp; done) | (go_simp; rfl)); intro w108 hw; have n0_ : Aside0 (Kd.V k40 40 w108 w.heap.size (fun k_ => (P0_2_ k_ ∨ w.heap.size ≤ k_) ∧ k_ ≠ gb101 ∧ k_ ≠ gb115) (.slice A0_2 l0_2.length c0_2) l0_2) := ⟨(by rw [hw]; exact (by (with_reducible repeat (first | apply Kd.qn_ | apply Kd.qm_ | apply Kd.V_drew)); exact Kd.V_mono (Kd.V_far (p := ⟨gb115, 2, none⟩) (Kd.V_far (p := ⟨gb115, 1, none⟩) (Kd.V_far (p := ⟨gb115, 0, none⟩) (Kd.V_mono HO_102002.out (fun k_ hk => (⟨hk, hk.2⟩ : _ ∧ k_ ≠ gb115))) (fun _ hk => hk.2) (.int .i64 t109)) (fun _ hk => hk.2) (.int .i64 t110)) (fun _ hk => hk.2) (.slice Ao107 t111.length co107)) (fun _ hk => ⟨hk.1.1.1, ⟨hk.1.1.2, hk.1.2⟩⟩)))⟩; have n1_ : Aside0 (Kd.V k40 40 w108 w.heap.size (fun k_ => (P0_2_ k_ ∨ w.heap.size ≤ k_) ∧ k_ ≠ gb101 ∧ k_ ≠ gb115) (.slice Ao107 t111.length co107) t111) := ⟨(by rw [hw]; exact (by (with_reducible repeat (first | apply Kd.qn_ | apply Kd.qm_ | apply Kd.V_drew)); exact Kd.V_mono (Kd.V_far (p := ⟨gb115, 2, none⟩) (Kd.V_far (p := ⟨gb115, 1, none⟩) (Kd.V_far (p := ⟨gb115, 0, none⟩) (Kd.V_mono HO113.out (fun k_ hk => (⟨hk, hk.2⟩ : _ ∧ k_ ≠ gb115))) (fun _ hk => hk.2) (.int .i64 t109)) (fun _ hk => hk.2) (.int .i64 t110)) (fun _ hk => hk.2) (.slice Ao107 t111.length co107)) (fun _ hk => ⟨hk.1.1.1, ⟨hk.1.1.2, hk.1.2⟩⟩)))⟩; have n2_ : Aside0 (w108.heap[gb101]? = some (.cells #[.int .i64 a0_0, .int .i64 a0_1, .slice A0_2 l0_2.length c0_2] 24 (0, 0))) := ⟨(by rw [hw]; exact (by (with_reducible repeat (first | refine qe_ ?_ _ | refine qh_ ?_ | refine qd_ ?_ _)); refine qx_ ?_ NB101_115.out _; (with_reducible repeat (first | refine qe_ ?_ _ | refine qh_ ?_ | refine qd_ ?_ _)); refine qx_ ?_ NB101_115.out _; (with_reducible repeat (first | refine qe_ ?_ _ | refine qh_ ?_ | refine qd_ ?_ _)); refine qx_ ?_ NB101_115.out _; (with_reducible repeat (first | refine qe_ ?_ _ | refine qh_ ?_ | refine qd_ ?_ _)); exact BK101.out))⟩; have n3_ : Aside0 (w108.heap[gb115]? = some (.cells #[.int .i64 t109, .int .i64 t110, .slice Ao107 t111.length co107] 24 (0, 0))) := ⟨(by rw [hw]; exact (by (with_reducible repeat (first | refine qe_ ?_ _ | refine qh_ ?_ | refine qd_ ?_ _)); refine qs_ (cs := #[.int .i64 t109, .int .i64 t110, .slice none 0 0]) ?_ 2 _ rfl; (with_reducible repeat (first | refine qe_ ?_ _ | refine qh_ ?_ | refine qd_ ?_ _)); refine qs_ (cs := #[.int .i64 t109, .int .i64 0, .slice none 0 0]) ?_ 1 _ rfl; (with_reducible repeat (first | refine qe_ ?_ _ | refine qh_ ?_ | refine qd_ ?_ _)); refine qs_ (cs := #[.int .i64 0, .int .i64 0, .slice none 0 0]) ?_ 0 _ rfl; (with_reducible repeat (first | refine qe_ ?_ _ | refine qh_ ?_ | refine qd_ ?_ _)); exact BK115.out))⟩; have n4_ : Aside0 (Below w.heap.size w w108) := ⟨(by rw [hw]; exact (by repeat (first | (with_reducible first | exact HB.out | apply qc_ | apply qa_ | apply qb_ | refine qf_ ?_ GE101.out | refine qf_ ?_ GE115.out) | exact HB.out)))⟩; clear hw; clear HO_102002; clear HO113; clear BK101; clear BK115; clear HB; have HO_102002 := n0_; have HO113 := n1_; have BK101 := n2_; have BK115 := n3_; have HB := n4_; clear n0_ n1_ n2_ n3_ n4_; have hcz109_0 : w108.cell? ⟨gb101, 0, none⟩ = some (.int .i64 a0_0) := (qg_ BK101.out 0).trans rfl; have hcz109_1 : w108.cell? ⟨gb101, 1, none⟩ = some (.int .i64 a0_1) := (qg_ BK101.out 1).trans rfl; have hcz109_2 : w108.cell? ⟨gb101, 2, none⟩ = some (.slice A0_2 l0_2.length c0_2) := (qg_ BK101.out 2).trans rfl; have hfz109_0 := qi_ BK101.out 0; have hfz109_1 := qi_ BK101.out 1; have hfz109_2 := qi_ BK101.out 2) | ((with_reducible refine qr_ (f := 14) rfl ?_); refine goesL_ (some 42) rfl rfl Try.func14 (by kernel_rfl) rfl #[.agg #[.int .i64 a0_0, .int .i64 a0_1, .slice A0_2 l0_2.length c0_2]] rfl (by (try simp only [List.map_toArray, List.map_cons, List.map_nil]); first | done | rfl | (simp only [List.length_drop, List.length_take]; rfl)) ?_; (with_reducible refine (state_Beat.calls kj5 a0_0 a0_1 (fun k_ => ((P0_2_ k_ ∨ w.heap.size ≤ k_) ∧ (k_ ≠ gb101 ∧ k_ ≠ gb115))) _ _ l0_2 t116 t117 t118 t121 _ ?side1 A43.out).mono ?_); (case side1 => exact HO_102002.out); rintro e w110 ⟨v119, rfl, ho0, hb⟩; refine ⟨_, rfl, ?_⟩; have n0_ := Aside0.mk (Kd.qo_ (by (with_reducible repeat (first | apply Kd.qn_ | apply Kd.qm_ | apply Kd.V_drew)); exact HO_102002.out) hb); have n1_ := Aside0.mk (Kd.qo_ (by (with_reducible repeat (first | apply Kd.qn_ | apply Kd.qm_ | apply Kd.V_drew)); exact HO113.out) hb); have n2_ := Aside0.mk (Kd.V_lower (Kd.V_mono (ok' := fun k_ => (P0_2_ k_ ∨ w.heap.size ≤ k_) ∧ k_ ≠ gb101 ∧ k_ ≠ gb115) ho0 (fun k_ hk_ => ⟨Or.elim hk_ (fun hs_ => hs_.1) (fun hn_ => (.inr (Nat.le_trans (qj_ (by repeat (first | (with_reducible first | exact HB.out | apply qc_ | apply qa_ | apply qb_ | refine qf_ ?_ GE101.out | refine qf_ ?_ GE115.out) | exact HB.out))) hn_))), Or.elim hk_ (fun hs_ => hs_.2.1) (fun hn_ => (Kd.freshB (g := gb101) (o := .cells #[.int .i64 a0_0, .int .i64 a0_1, .slice A0_2 l0_2.length c0_2] 24 (0, 0)) (by (with_reducible repeat (first | refine qe_ ?_ _ | refine qh_ ?_ | refine qd_ ?_ _)); exact BK101.out) k_ hn_)), Or.elim hk_ (fun hs_ => hs_.2.2) (fun hn_ => (Kd.freshB (g := gb115) (o := .cells #[.int .i64 t109, .int .i64 t110, .slice Ao107 t111.length co107] 24 (0, 0)) (by (with_reducible repeat (first | refine qe_ ?_ _ | refine qh_ ?_ | refine qd_ ?_ _)); exact BK115.out) k_ hn_))⟩)) (qj_ (by repeat (first | (with_reducible first | exact HB.out | apply qc_ | apply qa_ | apply qb_ | refine qf_ ?_ GE101.out | refine qf_ ?_ GE115.out) | exact HB.out)))); have n3_ := Aside0.mk (qk_ (g := gb101) (o := .cells #[.int .i64 a0_0, .int .i64 a0_1, .slice A0_2 l0_2.length c0_2] 24 (0, 0)) (by (with_reducible repeat (first | refine qe_ ?_ _ | refine qh_ ?_ | refine qd_ ?_ _)); exact BK101.out) hb); have n4_ := Aside0.mk (qk_ (g := gb115) (o := .cells #[.int .i64 t109, .int .i64 t110, .slice Ao107 t111.length co107] 24 (0, 0)) (by (with_reducible repeat (first | refine qe_ ?_ _ | refine qh_ ?_ | refine qd_ ?_ _)); exact BK115.out) hb); have n5_ := Aside0.mk (ql_ (by repeat (first | (with_reducible first | exact HB.out | apply qc_ | apply qa_ | apply qb_ | refine qf_ ?_ GE101.out | refine qf_ ?_ GE115.out) | exact HB.out)) hb); clear HO_102002; clear HO113; clear BK101; clear BK115; clear HB; have HO_102002 := n0_; have HO113 := n1_; have HO120 := n2_; have BK101 := n3_; have BK115 := n4_; have HB := n5_; clear n0_ n1_ n2_ n3_ n4_ n5_; (try clear hb); (try clear hb2); (try clear hk); (try clear hi); (try clear ho0)) | ((with_reducible refine qq_ (N := 9) rfl ?_); (try (refine qz_ (by rfl) ?_; dsimp only)); refine qp_ ?hg (N := 9) ?hd (cs := #[.int .i64 0, .int .i64 0, .slice none 0 0]) (t := 24) ?hr ?_; (case hd => rfl); (case hg => rfl); (case hr => first | (go_simp; done) | (go_simp; rfl)); intro gb122 hg w111 hbox hb; have n0_ := Aside0.mk (Kd.qo_ (Kd.V_elderB (by (with_reducible repeat (first | apply Kd.qn_ | apply Kd.qm_ | apply Kd.V_drew)); exact HO_102002.out) gb122 (Nat.le_of_eq hg.symm)) hb); have n1_ := Aside0.mk (Kd.qo_ (Kd.V_elderB (by (with_reducible repeat (first | apply Kd.qn_ | apply Kd.qm_ | apply Kd.V_drew)); exact HO113.out) gb122 (Nat.le_of_eq hg.symm)) hb); have n2_ := Aside0.mk (Kd.qo_ (Kd.V_elderB (by (with_reducible repeat (first | apply Kd.qn_ | apply Kd.qm_ | apply Kd.V_drew)); exact HO120.out) gb122 (Nat.le_of_eq hg.symm)) hb); have n3_ := Aside0.mk (qk_ (g := gb101) (o := .cells #[.int .i64 a0_0, .int .i64 a0_1, .slice A0_2 l0_2.length c0_2] 24 (0, 0)) (by (with_reducible repeat (first | refine qe_ ?_ _ | refine qh_ ?_ | refine qd_ ?_ _)); exact BK101.out) hb); have n4_ := Aside0.mk (qk_ (g := gb115) (o := .cells #[.int .i64 t109, .int .i64 t110, .slice Ao107 t111.length co107] 24 (0, 0)) (by (with_reducible repeat (first | refine qe_ ?_ _ | refine qh_ ?_ | refine qd_ ?_ _)); exact BK115.out) hb); have n5_ := Aside0.mk (ql_ (by repeat (first | (with_reducible first | exact HB.out | apply qc_ | apply qa_ | apply qb_ | refine qf_ ?_ GE101.out | refine qf_ ?_ GE115.out) | exact HB.out)) hb); have n6_ := Aside0.mk (hbox); have n7_ := Aside0.mk ((by rw [hg]; exact (qj_ (by repeat (first | (with_reducible first | exact HB.out | apply qc_ | apply qa_ | apply qb_ | refine qf_ ?_ GE101.out | refine qf_ ?_ GE115.out) | exact HB.out))) : w.heap.size ≤ gb122)); have n8_ := Aside0.mk ((by rw [hg]; exact (qj_ (by repeat (first | (with_reducible first | exact HB.out | apply qc_ | apply qa_ | apply qb_ | refine qf_ ?_ GE101.out | refine qf_ ?_ GE115.out) | exact HB.out))) : w.heap.size ≤ gb122)); have n9_ := Aside0.mk ((by rw [hg]; exact Nat.ne_of_lt (blk_lt (g := gb101) (o := .cells #[.int .i64 a0_0, .int .i64 a0_1, .slice A0_2 l0_2.length c0_2] 24 (0, 0)) (by (with_reducible repeat (first | refine qe_ ?_ _ | refine qh_ ?_ | refine qd_ ?_ _)); exact BK101.out)) : gb101 ≠ gb122)); have n10_ := Aside0.mk ((by rw [hg]; exact Nat.ne_of_gt (blk_lt (g := gb101) (o := .cells #[.int .i64 a0_0, .int .i64 a0_1, .slice A0_2 l0_2.length c0_2] 24 (0, 0)) (by (with_reducible repeat (first | refine qe_ ?_ _ | refine qh_ ?_ | refine qd_ ?_ _)); exact BK101.out)) : gb122 ≠ gb101)); have n11_ := Aside0.mk ((by rw [hg]; exact Nat.ne_of_lt (blk_lt (g := gb115) (o := .cells #[.int .i64 t109, .int .i64 t110, .slice Ao107 t111.length co107] 24 (0, 0)) (by (with_reducible repeat (first | refine qe_ ?_ _ | refine qh_ ?_ | refine qd_ ?_ _)); exact BK115.out)) : gb115 ≠ gb122)); have n12_ := Aside0.mk ((by rw [hg]; exact Nat.ne_of_gt (blk_lt (g := gb115) (o := .cells #[.int .i64 t109, .int .i64 t110, .slice Ao107 t111.length co107] 24 (0, 0)) (by (with_reducible repeat (first | refine qe_ ?_ _ | refine qh_ ?_ | refine qd_ ?_ _)); exact BK115.out)) : gb122 ≠ gb115)); clear HO_102002; clear HO113; clear HO120; clear BK101; clear BK115; clear HB; have HO_102002 := n0_; have HO113 := n1_; have HO120 := n2_; have BK101 := n3_; have BK115 := n4_; have HB := n5_; have BK122 := n6_; have GW122 := n7_; have GE122 := n8_; have NB101_122 := n9_; have NB122_101 := n10_; have NB115_122 := n11_; have NB122_115 := n12_; clear n0_ n1_ n2_ n3_ n4_ n5_ n6_ n7_ n8_ n9_ n10_ n11_ n12_; clear hb hbox hg; have hnb112 := NB122_101.out; have hnc112 := NB101_122.out; have hnb113 := NB122_115.out; have hnc113 := NB115_122.out; have hcz114_0 : w111.cell? ⟨gb122, 0, none⟩ = some (.int .i64 0) := (qg_ BK122.out 0).trans rfl; have hcz114_1 : w111.cell? ⟨gb122, 1, none⟩ = some (.int .i64 0) := (qg_ BK122.out 1).trans rfl; have hcz114_2 : w111.cell? ⟨gb122, 2, none⟩ = some (.slice none 0 0) := (qg_ BK122.out 2).trans rfl; have hfz114_0 := qi_ BK122.out 0; have hfz114_1 := qi_ BK122.out 1; have hfz114_2 := qi_ BK122.out 2; obtain ⟨Ao115, co115, eo115⟩ := Kd.V_slice HO120.out; subst eo115))
              have n0_ : Aside0 (Kd.V k40 40 (((w111.setCell ⟨gb122, 0, none⟩ (.int .i64 t116)).setCell ⟨gb122, 1, none⟩ (.int .i64 t117)).setCell ⟨gb122, 2, none⟩ (.slice Ao115 t118.length co115)) w.heap.size (fun k_ => (P0_2_ k_ ∨ w.heap.size ≤ k_) ∧ k_ ≠ gb101 ∧ k_ ≠ gb115 ∧ k_ ≠ gb122) (.slice A0_2 l0_2.length c0_2) l0_2) := ⟨by (with_reducible repeat (first | apply Kd.qn_ | apply Kd.qm_ | apply Kd.V_drew)); exact Kd.V_mono (Kd.V_far (p := ⟨gb122, 2, none⟩) (Kd.V_far (p := ⟨gb122, 1, none⟩) (Kd.V_far (p := ⟨gb122, 0, none⟩) (Kd.V_mono HO_102002.out (fun k_ hk => (⟨hk, hk.2⟩ : _ ∧ k_ ≠ gb122))) (fun _ hk => hk.2) (.int .i64 t116)) (fun _ hk => hk.2) (.int .i64 t117)) (fun _ hk => hk.2) (.slice Ao115 t118.length co115)) (fun _ hk => ⟨hk.1.1.1, ⟨hk.1.1.2.1, ⟨hk.1.1.2.2, hk.1.2⟩⟩⟩)⟩
              have n1_ : Aside0 (Kd.V k40 40 (((w111.setCell ⟨gb122, 0, none⟩ (.int .i64 t116)).setCell ⟨gb122, 1, none⟩ (.int .i64 t117)).setCell ⟨gb122, 2, none⟩ (.slice Ao115 t118.length co115)) w.heap.size (fun k_ => (P0_2_ k_ ∨ w.heap.size ≤ k_) ∧ k_ ≠ gb101 ∧ k_ ≠ gb115 ∧ k_ ≠ gb122) (.slice Ao107 t111.length co107) t111) := ⟨by (with_reducible repeat (first | apply Kd.qn_ | apply Kd.qm_ | apply Kd.V_drew)); exact Kd.V_mono (Kd.V_far (p := ⟨gb122, 2, none⟩) (Kd.V_far (p := ⟨gb122, 1, none⟩) (Kd.V_far (p := ⟨gb122, 0, none⟩) (Kd.V_mono HO113.out (fun k_ hk => (⟨hk, hk.2⟩ : _ ∧ k_ ≠ gb122))) (fun _ hk => hk.2) (.int .i64 t116)) (fun _ hk => hk.2) (.int .i64 t117)) (fun _ hk => hk.2) (.slice Ao115 t118.length co115)) (fun _ hk => ⟨hk.1.1.1, ⟨hk.1.1.2.1, ⟨hk.1.1.2.2, hk.1.2⟩⟩⟩)⟩
              have n2_ : Aside0 (Kd.V k40 40 (((w111.setCell ⟨gb122, 0, none⟩ (.int .i64 t116)).setCell ⟨gb122, 1, none⟩ (.int .i64 t117)).setCell ⟨gb122, 2, none⟩ (.slice Ao115 t118.length co115)) w.heap.size (fun k_ => (P0_2_ k_ ∨ w.heap.size ≤ k_) ∧ k_ ≠ gb101 ∧ k_ ≠ gb115 ∧ k_ ≠ gb122) (.slice Ao115 t118.length co115) t118) := ⟨by (with_reducible repeat (first | apply Kd.qn_ | apply Kd.qm_ | apply Kd.V_drew)); exact Kd.V_mono (Kd.V_far (p := ⟨gb122, 2, none⟩) (Kd.V_far (p := ⟨gb122, 1, none⟩) (Kd.V_far (p := ⟨gb122, 0, none⟩) (Kd.V_mono HO120.out (fun k_ hk => (⟨hk, hk.2⟩ : _ ∧ k_ ≠ gb122))) (fun _ hk => hk.2) (.int .i64 t116)) (fun _ hk => hk.2) (.int .i64 t117)) (fun _ hk => hk.2) (.slice Ao115 t118.length co115)) (fun _ hk => ⟨hk.1.1.1, ⟨hk.1.1.2.1, ⟨hk.1.1.2.2, hk.1.2⟩⟩⟩)⟩
              have n3_ : Aside0 ((((w111.setCell ⟨gb122, 0, none⟩ (.int .i64 t116)).setCell ⟨gb122, 1, none⟩ (.int .i64 t117)).setCell ⟨gb122, 2, none⟩ (.slice Ao115 t118.length co115)).heap[gb101]? = some (.cells #[.int .i64 a0_0, .int .i64 a0_1, .slice A0_2 l0_2.length c0_2] 24 (0, 0))) := ⟨by (with_reducible repeat (first | refine qe_ ?_ _ | refine qh_ ?_ | refine qd_ ?_ _)); refine qx_ ?_ NB101_122.out _; (with_reducible repeat (first | refine qe_ ?_ _ | refine qh_ ?_ | refine qd_ ?_ _)); refine qx_ ?_ NB101_122.out _; (with_reducible repeat (first | refine qe_ ?_ _ | refine qh_ ?_ | refine qd_ ?_ _)); refine qx_ ?_ NB101_122.out _; (with_reducible repeat (first | refine qe_ ?_ _ | refine qh_ ?_ | refine qd_ ?_ _)); exact BK101.out⟩
              have n4_ : Aside0 ((((w111.setCell ⟨gb122, 0, none⟩ (.int .i64 t116)).setCell ⟨gb122, 1, none⟩ (.int .i64 t117)).setCell ⟨gb122, 2, none⟩ (.slice Ao115 t118.length co115)).heap[gb115]? = some (.cells #[.int .i64 t109, .int .i64 t110, .slice Ao107 t111.length co107] 24 (0, 0))) := ⟨by (with_reducible repeat (first | refine qe_ ?_ _ | refine qh_ ?_ | refine qd_ ?_ _)); refine qx_ ?_ NB115_122.out _; (with_reducible repeat (first | refine qe_ ?_ _ | refine qh_ ?_ | refine qd_ ?_ _)); refine qx_ ?_ NB115_122.out _; (with_reducible repeat (first | refine qe_ ?_ _ | refine qh_ ?_ | refine qd_ ?_ _)); refine qx_ ?_ NB115_122.out _; (with_reducible repeat (first | refine qe_ ?_ _ | refine qh_ ?_ | refine qd_ ?_ _)); exact BK115.out⟩
              have n5_ : Aside0 ((((w111.setCell ⟨gb122, 0, none⟩ (.int .i64 t116)).setCell ⟨gb122, 1, none⟩ (.int .i64 t117)).setCell ⟨gb122, 2, none⟩ (.slice Ao115 t118.length co115)).heap[gb122]? = some (.cells #[.int .i64 t116, .int .i64 t117, .slice Ao115 t118.length co115] 24 (0, 0))) := ⟨by (with_reducible repeat (first | refine qe_ ?_ _ | refine qh_ ?_ | refine qd_ ?_ _)); refine qs_ (cs := #[.int .i64 t116, .int .i64 t117, .slice none 0 0]) ?_ 2 _ rfl; (with_reducible repeat (first | refine qe_ ?_ _ | refine qh_ ?_ | refine qd_ ?_ _)); refine qs_ (cs := #[.int .i64 t116, .int .i64 0, .slice none 0 0]) ?_ 1 _ rfl; (with_reducible repeat (first | refine qe_ ?_ _ | refine qh_ ?_ | refine qd_ ?_ _)); refine qs_ (cs := #[.int .i64 0, .int .i64 0, .slice none 0 0]) ?_ 0 _ rfl; (with_reducible repeat (first | refine qe_ ?_ _ | refine qh_ ?_ | refine qd_ ?_ _)); exact BK122.out⟩
              have n6_ : Aside0 (Below w.heap.size w (((w111.setCell ⟨gb122, 0, none⟩ (.int .i64 t116)).setCell ⟨gb122, 1, none⟩ (.int .i64 t117)).setCell ⟨gb122, 2, none⟩ (.slice Ao115 t118.length co115))) := ⟨by repeat (first | (with_reducible first | exact HB.out | apply qc_ | apply qa_ | apply qb_ | refine qf_ ?_ GE101.out | refine qf_ ?_ GE115.out | refine qf_ ?_ GE122.out) | exact HB.out)⟩
              (try clear HO_102002)
              (try clear HO113)
              (try clear HO120)
              (try clear BK101)
              (try clear BK115)
              (try clear BK122)
              (try clear HB)
              generalize (((w111.setCell ⟨gb122, 0, none⟩ (.int .i64 t116)).setCell ⟨gb122, 1, none⟩ (.int .i64 t117)).setCell ⟨gb122, 2, none⟩ (.slice Ao115 t118.length co115)) = w116 at n0_ n1_ n2_ n3_ n4_ n5_ n6_ ⊢
              have HO_102002 := n0_
              have HO113 := n1_
              have HO120 := n2_
              have BK101 := n3_
              have BK115 := n4_
              have BK122 := n5_
              have HB := n6_
              clear n0_ n1_ n2_ n3_ n4_ n5_ n6_
              have n0_ := Aside0.mk (Kd.V_drew HO_102002.out)
              have n1_ := Aside0.mk (Kd.V_drew HO113.out)
              have n2_ := Aside0.mk (Kd.V_drew HO120.out)
              have n3_ := Aside0.mk (qh_ BK101.out)
              have n4_ := Aside0.mk (qh_ BK115.out)
              have n5_ := Aside0.mk (qh_ BK122.out)
              have n6_ := Aside0.mk (qb_ HB.out)
              clear HO_102002
              clear HO113
              clear HO120
              clear BK101
              clear BK115
              clear BK122
              clear HB
              have HO_102002 := n0_
              have HO113 := n1_
              have HO120 := n2_
              have BK101 := n3_
              have BK115 := n4_
              have BK122 := n5_
              have HB := n6_
              clear n0_ n1_ n2_ n3_ n4_ n5_ n6_
              refine start_ (n := 53) (S := fun w' => w'.cell? ⟨gb115, 0, none⟩ = some (.int .i64 t109) ∧ w'.cell? ⟨gb115, 1, none⟩ = some (.int .i64 t110) ∧ w'.cell? ⟨gb115, 2, none⟩ = some (.slice Ao107 t111.length co107) ∧ w'.cell? ⟨gb101, 0, none⟩ = some (.int .i64 a0_0) ∧ w'.cell? ⟨gb101, 1, none⟩ = some (.int .i64 a0_1) ∧ w'.cell? ⟨gb101, 2, none⟩ = some (.slice A0_2 l0_2.length c0_2) ∧ w'.cell? ⟨gb122, 0, none⟩ = some (.int .i64 t116) ∧ w'.cell? ⟨gb122, 1, none⟩ = some (.int .i64 t117) ∧ w'.cell? ⟨gb122, 2, none⟩ = some (.slice Ao115 t118.length co115)) (ds := []) #[false,false,false,false,false,false,false,false,false,false,false,false,false,false,false,false,false,false,false,false,false,false,false,false,false,false,false,false,false,false,false,false,false,false,false,false,false,false,false,false,false,false,false,false,false,false,false,false,false,false,false,false,false] (by kernel_rfl) rfl rfl ⟨(qg_ BK115.out 0).trans rfl, (qg_ BK115.out 1).trans rfl, (qg_ BK115.out 2).trans rfl, (qg_ BK101.out 0).trans rfl, (qg_ BK101.out 1).trans rfl, (qg_ BK101.out 2).trans rfl, (qg_ BK122.out 0).trans rfl, (qg_ BK122.out 1).trans rfl, (qg_ BK122.out 2).trans rfl⟩ (fun hHeld => ?_); refine with_tabW law05_StateForward.tab7 law05_StateForward.bits7 (fun HT_ HW_ => ?_)
              generalize w116.drew = w117 at HO_102002 HO113 HO120 BK101 BK115 BK122 HB hHeld ⊢
              refine pure_ (i := 0) (N := some 45) (v := ?_) (a' := ?_) #[true,false,false,false,false,false,false,false,false,false,false,false,false,false,false,false,false,false,false,false,false,false,false,false,false,false,false,false,false,false,false,false,false,false,false,false,false,false,false,false,false,false,false,false,false,false,false,false,false,false,false,false,false] rfl rfl (any_of HT_.out (by kernel_rfl)) (fun _ _ _ h => h) (Or.inl ⟨by rfl, ?_⟩) ?_ ?_
              rotate_left
              ·intro w'
               go_simp
               with_reducible rfl
              rotate_left
              ·simp only [Act.put, sa_, sb_, sc_, i64_w, i32_w]
               rfl
              refine pure_ (i := 1) (N := some 46) (v := ?_) (a' := ?_) #[true,true,false,false,false,false,false,false,false,false,false,false,false,false,false,false,false,false,false,false,false,false,false,false,false,false,false,false,false,false,false,false,false,false,false,false,false,false,false,false,false,false,false,false,false,false,false,false,false,false,false,false,false] rfl rfl (any_of HT_.out (by kernel_rfl)) (fun _ _ _ h => h) (Or.inl ⟨by rfl, ?_⟩) ?_ ?_
              rotate_left
              ·intro w'
               go_simp
               with_reducible rfl
              rotate_left
              ·simp only [Act.put, sa_, sb_, sc_, i64_w, i32_w]
               rfl
              refine pure_ (i := 2) (N := some 47) (v := ?_) (a' := ?_) #[true,true,true,false,false,false,false,false,false,false,false,false,false,false,false,false,false,false,false,false,false,false,false,false,false,false,false,false,false,false,false,false,false,false,false,false,false,false,false,false,false,false,false,false,false,false,false,false,false,false,false,false,false] rfl rfl (any_of HT_.out (by kernel_rfl)) (fun _ _ _ h => h) (Or.inl ⟨by rfl, ?_⟩) ?_ ?_
              rotate_left
              ·intro w'
               go_simp
               with_reducible rfl
              rotate_left
              ·simp only [Act.put, sa_, sb_, sc_, i64_w, i32_w]
               rfl
              refine pure_ (i := 3) (N := some 48) (v := ?_) (a' := ?_) #[true,true,true,true,false,false,false,false,false,false,false,false,false,false,false,false,false,false,false,false,false,false,false,false,false,false,false,false,false,false,false,false,false,false,false,false,false,false,false,false,false,false,false,false,false,false,false,false,false,false,false,false,false] rfl rfl (any_of HT_.out (by kernel_rfl)) (fun _ _ _ h => h) (Or.inl ⟨by rfl, ?_⟩) ?_ ?_
              rotate_left
              ·intro w'
               go_simp
               with_reducible rfl
              rotate_left
              ·simp only [Act.put, sa_, sb_, sc_, i64_w, i32_w]
               rfl
              refine pure_ (i := 4) (N := some 49) (v := ?_) (a' := ?_) #[true,true,true,true,true,false,false,false,false,false,false,false,false,false,false,false,false,false,false,false,false,false,false,false,false,false,false,false,false,false,false,false,false,false,false,false,false,false,false,false,false,false,false,false,false,false,false,false,false,false,false,false,false] rfl rfl (any_of HT_.out (by kernel_rfl)) (fun _ _ _ h => h) (Or.inl ⟨by rfl, ?_⟩) ?_ ?_
              rotate_left
              ·intro w'
               go_simp
               with_reducible rfl
              rotate_left
              ·simp only [Act.put, sa_, sb_, sc_, i64_w, i32_w]
               rfl
              refine pure_ (i := 5) (N := some 50) (v := ?_) (a' := ?_) #[true,true,true,true,true,true,false,false,false,false,false,false,false,false,false,false,false,false,false,false,false,false,false,false,false,false,false,false,false,false,false,false,false,false,false,false,false,false,false,false,false,false,false,false,false,false,false,false,false,false,false,false,false] rfl rfl (any_of HT_.out (by kernel_rfl)) (fun _ _ _ h => h) (Or.inl ⟨by rfl, ?_⟩) ?_ ?_
              rotate_left
              ·intro w'
               go_simp
               with_reducible rfl
              rotate_left
              ·simp only [Act.put, sa_, sb_, sc_, i64_w, i32_w]
               rfl
              refine pure_ (i := 6) (N := some 51) (v := ?_) (a' := ?_) #[true,true,true,true,true,true,true,false,false,false,false,false,false,false,false,false,false,false,false,false,false,false,false,false,false,false,false,false,false,false,false,false,false,false,false,false,false,false,false,false,false,false,false,false,false,false,false,false,false,false,false,false,false] rfl rfl (any_of HT_.out (by kernel_rfl)) (fun _ _ _ h => h) (Or.inl ⟨by rfl, ?_⟩) ?_ ?_
              rotate_left
              ·intro w'
               go_simp
               with_reducible rfl
              rotate_left
              ·simp only [Act.put, sa_, sb_, sc_, i64_w, i32_w]
               rfl
              refine take_ (i := 7) (N := some 52) (v := ?_) (a' := ?_) #[true,true,true,true,true,true,true,true,false,false,false,false,false,false,false,false,false,false,false,false,false,false,false,false,false,false,false,false,false,false,false,false,false,false,false,false,false,false,false,false,false,false,false,false,false,false,false,false,false,false,false,false,false] rfl rfl (qy_ HT_.out HW_.out (by kernel_rfl)) (fun _ _ _ h => h) (Or.inl ⟨by rfl, ?_⟩) hHeld ?_ ?_
              rotate_left
              ·rintro w' ⟨s0, s1, s2, s3, s4, s5, s6, s7, s8⟩
               go_simp
               with_reducible rfl
              rotate_left
              ·simp only [Act.put, sa_, sb_, sc_, i64_w, i32_w]
               rfl
              refine take_ (i := 8) (N := some 53) (v := ?_) (a' := ?_) #[true,true,true,true,true,true,true,true,true,false,false,false,false,false,false,false,false,false,false,false,false,false,false,false,false,false,false,false,false,false,false,false,false,false,false,false,false,false,false,false,false,false,false,false,false,false,false,false,false,false,false,false,false] rfl rfl (qy_ HT_.out HW_.out (by kernel_rfl)) (fun _ _ _ h => h) (Or.inl ⟨by rfl, ?_⟩) hHeld ?_ ?_
              rotate_left
              ·rintro w' ⟨s0, s1, s2, s3, s4, s5, s6, s7, s8⟩
               go_simp
               with_reducible rfl
              rotate_left
              ·simp only [Act.put, sa_, sb_, sc_, i64_w, i32_w]
               rfl
              refine one_ (i := 9) (N := some 54) #[true,true,true,true,true,true,true,true,true,true,false,false,false,false,false,false,false,false,false,false,false,false,false,false,false,false,false,false,false,false,false,false,false,false,false,false,false,false,false,false,false,false,false,false,false,false,false,false,false,false,false,false,false] rfl rfl (one_of HT_.out (by kernel_rfl)) (by decide) (fun K hK => ?_)
              refine goes_ Try.func20 (by kernel_rfl) rfl #[.agg #[.int .i64 t109, .int .i64 t110, .slice Ao107 t111.length co107], .agg #[.int .i64 a0_0, .int .i64 a0_1, .slice A0_2 l0_2.length c0_2]] (by rfl) rfl rfl (by (try simp only [List.map_toArray, List.map_cons, List.map_nil]); first | done | rfl | (simp only [List.length_drop, List.length_take]; rfl)) ?_
              with_reducible refine (state_Over.calls t109 t110 _ _ t111 a0_0 a0_1 _ _ l0_2 true _ ?side1 ?side2 ?side3 ?side4 A46.out).mono ?_
              (case side1 => repeat (first | exact (Kd.V_reads' HO113.out).2.2 | (with_reducible refine Kd.qu_ ?_ _) | (with_reducible refine Kd.qt_ ?_ _) | (with_reducible refine Kd.C_drew ?_)))
              (case side2 => exact (Kd.V_reads' HO113.out).2.1)
              (case side3 => repeat (first | exact (Kd.V_reads' HO_102002.out).2.2 | (with_reducible refine Kd.qu_ ?_ _) | (with_reducible refine Kd.qt_ ?_ _) | (with_reducible refine Kd.C_drew ?_)))
              (case side4 => exact (Kd.V_reads' HO_102002.out).2.1)
              rintro e w118 ⟨rfl, hb⟩
              refine ⟨_, rfl, ?_⟩
              have n0_ := Aside0.mk (Kd.qo_ (by (with_reducible repeat (first | apply Kd.qn_ | apply Kd.qm_ | apply Kd.V_drew)); exact HO_102002.out) hb)
              have n1_ := Aside0.mk (Kd.qo_ (by (with_reducible repeat (first | apply Kd.qn_ | apply Kd.qm_ | apply Kd.V_drew)); exact HO113.out) hb)
              have n2_ := Aside0.mk (Kd.qo_ (by (with_reducible repeat (first | apply Kd.qn_ | apply Kd.qm_ | apply Kd.V_drew)); exact HO120.out) hb)
              have n3_ := Aside0.mk (qk_ (g := gb101) (o := .cells #[.int .i64 a0_0, .int .i64 a0_1, .slice A0_2 l0_2.length c0_2] 24 (0, 0)) (by (with_reducible repeat (first | refine qe_ ?_ _ | refine qh_ ?_ | refine qd_ ?_ _)); exact BK101.out) hb)
              have n4_ := Aside0.mk (qk_ (g := gb115) (o := .cells #[.int .i64 t109, .int .i64 t110, .slice Ao107 t111.length co107] 24 (0, 0)) (by (with_reducible repeat (first | refine qe_ ?_ _ | refine qh_ ?_ | refine qd_ ?_ _)); exact BK115.out) hb)
              have n5_ := Aside0.mk (qk_ (g := gb122) (o := .cells #[.int .i64 t116, .int .i64 t117, .slice Ao115 t118.length co115] 24 (0, 0)) (by (with_reducible repeat (first | refine qe_ ?_ _ | refine qh_ ?_ | refine qd_ ?_ _)); exact BK122.out) hb)
              have n6_ := Aside0.mk (ql_ (by repeat (first | (with_reducible first | exact HB.out | apply qc_ | apply qa_ | apply qb_ | refine qf_ ?_ GE101.out | refine qf_ ?_ GE115.out | refine qf_ ?_ GE122.out) | exact HB.out)) hb)
              clear HO_102002
              clear HO113
              clear HO120
              clear BK101
              clear BK115
              clear BK122
              clear HB
              have HO_102002 := n0_
              have HO113 := n1_
              have HO120 := n2_
              have BK101 := n3_
              have BK115 := n4_
              have BK122 := n5_
              have HB := n6_
              clear n0_ n1_ n2_ n3_ n4_ n5_ n6_
              (try clear hb)
              (try clear hb2)
              (try clear hk)
              (try clear hi)
              refine hK.out _ _ ⟨(qg_ BK115.out 0).trans rfl, (qg_ BK115.out 1).trans rfl, (qg_ BK115.out 2).trans rfl, (qg_ BK101.out 0).trans rfl, (qg_ BK101.out 1).trans rfl, (qg_ BK101.out 2).trans rfl, (qg_ BK122.out 0).trans rfl, (qg_ BK122.out 1).trans rfl, (qg_ BK122.out 2).trans rfl⟩ (fun hHeld => ?_)
              clear hK K
              refine norm_ (a' := ?_) ?_ ?_
              rotate_left
              ·show Act.put _ (some 54) _ = _
               simp only [Act.put, sa_, sb_, sc_, i64_w, i32_w]
               rfl
              refine pure_ (i := 10) (N := some 55) (v := ?_) (a' := ?_) #[true,true,true,true,true,true,true,true,true,true,true,false,false,false,false,false,false,false,false,false,false,false,false,false,false,false,false,false,false,false,false,false,false,false,false,false,false,false,false,false,false,false,false,false,false,false,false,false,false,false,false,false,false] rfl rfl (any_of HT_.out (by kernel_rfl)) (fun _ _ _ h => h) (Or.inl ⟨by rfl, ?_⟩) ?_ ?_
              rotate_left
              ·intro w'
               go_simp
               with_reducible rfl
              rotate_left
              ·simp only [Act.put, sa_, sb_, sc_, i64_w, i32_w]
               rfl
              refine pure_ (i := 11) (N := some 56) (v := ?_) (a' := ?_) #[true,true,true,true,true,true,true,true,true,true,true,true,false,false,false,false,false,false,false,false,false,false,false,false,false,false,false,false,false,false,false,false,false,false,false,false,false,false,false,false,false,false,false,false,false,false,false,false,false,false,false,false,false] rfl rfl (any_of HT_.out (by kernel_rfl)) (fun _ _ _ h => h) (Or.inl ⟨by rfl, ?_⟩) ?_ ?_
              rotate_left
              ·intro w'
               go_simp
               with_reducible rfl
              rotate_left
              ·simp only [Act.put, sa_, sb_, sc_, i64_w, i32_w]
               rfl
              refine take_ (i := 12) (N := some 57) (v := ?_) (a' := ?_) #[true,true,true,true,true,true,true,true,true,true,true,true,true,false,false,false,false,false,false,false,false,false,false,false,false,false,false,false,false,false,false,false,false,false,false,false,false,false,false,false,false,false,false,false,false,false,false,false,false,false,false,false,false] rfl rfl (qy_ HT_.out HW_.out (by kernel_rfl)) (fun _ _ _ h => h) (Or.inl ⟨by rfl, ?_⟩) hHeld ?_ ?_
              rotate_left
              ·rintro w' ⟨s0, s1, s2, s3, s4, s5, s6, s7, s8⟩
               go_simp
               with_reducible rfl
              rotate_left
              ·simp only [Act.put, sa_, sb_, sc_, i64_w, i32_w]
               rfl
              refine take_ (i := 13) (N := some 58) (v := ?_) (a' := ?_) #[true,true,true,true,true,true,true,true,true,true,true,true,true,true,false,false,false,false,false,false,false,false,false,false,false,false,false,false,false,false,false,false,false,false,false,false,false,false,false,false,false,false,false,false,false,false,false,false,false,false,false,false,false] rfl rfl (qy_ HT_.out HW_.out (by kernel_rfl)) (fun _ _ _ h => h) (Or.inl ⟨by rfl, ?_⟩) hHeld ?_ ?_
              rotate_left
              ·rintro w' ⟨s0, s1, s2, s3, s4, s5, s6, s7, s8⟩
               go_simp
               with_reducible rfl
              rotate_left
              ·simp only [Act.put, sa_, sb_, sc_, i64_w, i32_w]
               rfl
              refine one_ (i := 14) (N := some 59) #[true,true,true,true,true,true,true,true,true,true,true,true,true,true,true,false,false,false,false,false,false,false,false,false,false,false,false,false,false,false,false,false,false,false,false,false,false,false,false,false,false,false,false,false,false,false,false,false,false,false,false,false,false] rfl rfl (one_of HT_.out (by kernel_rfl)) (by decide) (fun K hK => ?_)
              refine goes_ Try.func20 (by kernel_rfl) rfl #[.agg #[.int .i64 t116, .int .i64 t117, .slice Ao115 t118.length co115], .agg #[.int .i64 a0_0, .int .i64 a0_1, .slice A0_2 l0_2.length c0_2]] (by rfl) rfl rfl (by (try simp only [List.map_toArray, List.map_cons, List.map_nil]); first | done | rfl | (simp only [List.length_drop, List.length_take]; rfl)) ?_
              with_reducible refine (state_Over.calls t116 t117 _ _ t118 a0_0 a0_1 _ _ l0_2 true _ ?side1 ?side2 ?side3 ?side4 A48.out).mono ?_
              (case side1 => repeat (first | exact (Kd.V_reads' HO120.out).2.2 | (with_reducible refine Kd.qu_ ?_ _) | (with_reducible refine Kd.qt_ ?_ _) | (with_reducible refine Kd.C_drew ?_)))
              (case side2 => exact (Kd.V_reads' HO120.out).2.1)
              (case side3 => repeat (first | exact (Kd.V_reads' HO_102002.out).2.2 | (with_reducible refine Kd.qu_ ?_ _) | (with_reducible refine Kd.qt_ ?_ _) | (with_reducible refine Kd.C_drew ?_)))
              (case side4 => exact (Kd.V_reads' HO_102002.out).2.1)
              rintro e w119 ⟨rfl, hb⟩
              refine ⟨_, rfl, ?_⟩
              have n0_ := Aside0.mk (Kd.qo_ (by (with_reducible repeat (first | apply Kd.qn_ | apply Kd.qm_ | apply Kd.V_drew)); exact HO_102002.out) hb)
              have n1_ := Aside0.mk (Kd.qo_ (by (with_reducible repeat (first | apply Kd.qn_ | apply Kd.qm_ | apply Kd.V_drew)); exact HO113.out) hb)
              have n2_ := Aside0.mk (Kd.qo_ (by (with_reducible repeat (first | apply Kd.qn_ | apply Kd.qm_ | apply Kd.V_drew)); exact HO120.out) hb)
              have n3_ := Aside0.mk (qk_ (g := gb101) (o := .cells #[.int .i64 a0_0, .int .i64 a0_1, .slice A0_2 l0_2.length c0_2] 24 (0, 0)) (by (with_reducible repeat (first | refine qe_ ?_ _ | refine qh_ ?_ | refine qd_ ?_ _)); exact BK101.out) hb)
              have n4_ := Aside0.mk (qk_ (g := gb115) (o := .cells #[.int .i64 t109, .int .i64 t110, .slice Ao107 t111.length co107] 24 (0, 0)) (by (with_reducible repeat (first | refine qe_ ?_ _ | refine qh_ ?_ | refine qd_ ?_ _)); exact BK115.out) hb)
              have n5_ := Aside0.mk (qk_ (g := gb122) (o := .cells #[.int .i64 t116, .int .i64 t117, .slice Ao115 t118.length co115] 24 (0, 0)) (by (with_reducible repeat (first | refine qe_ ?_ _ | refine qh_ ?_ | refine qd_ ?_ _)); exact BK122.out) hb)
              have n6_ := Aside0.mk (ql_ (by repeat (first | (with_reducible first | exact HB.out | apply qc_ | apply qa_ | apply qb_ | refine qf_ ?_ GE101.out | refine qf_ ?_ GE115.out | refine qf_ ?_ GE122.out) | exact HB.out)) hb)
              clear HO_102002
              clear HO113
              clear HO120
              clear BK101
              clear BK115
              clear BK122
              clear HB
              have HO_102002 := n0_
              have HO113 := n1_
              have HO120 := n2_
              have BK101 := n3_
              have BK115 := n4_
              have BK122 := n5_
              have HB := n6_
              clear n0_ n1_ n2_ n3_ n4_ n5_ n6_
              (try clear hb)
              (try clear hb2)
              (try clear hk)
              (try clear hi)
              refine hK.out _ _ ⟨(qg_ BK115.out 0).trans rfl, (qg_ BK115.out 1).trans rfl, (qg_ BK115.out 2).trans rfl, (qg_ BK101.out 0).trans rfl, (qg_ BK101.out 1).trans rfl, (qg_ BK101.out 2).trans rfl, (qg_ BK122.out 0).trans rfl, (qg_ BK122.out 1).trans rfl, (qg_ BK122.out 2).trans rfl⟩ (fun hHeld => ?_)
              clear hK K
              refine norm_ (a' := ?_) ?_ ?_
              rotate_left
              ·show Act.put _ (some 59) _ = _
               simp only [Act.put, sa_, sb_, sc_, i64_w, i32_w]
               rfl
              refine pure_ (i := 15) (N := some 60) (v := ?_) (a' := ?_) #[true,true,true,true,true,true,true,true,true,true,true,true,true,true,true,true,false,false,false,false,false,false,false,false,false,false,false,false,false,false,false,false,false,false,false,false,false,false,false,false,false,false,false,false,false,false,false,false,false,false,false,false,false] rfl rfl (any_of HT_.out (by kernel_rfl)) (fun _ _ _ h => h) (Or.inl ⟨by rfl, ?_⟩) ?_ ?_
              rotate_left
              ·intro w'
               go_simp
               with_reducible rfl
              rotate_left
              ·simp only [Act.put, sa_, sb_, sc_, i64_w, i32_w]
               rfl
              refine pure_ (i := 16) (N := some 61) (v := ?_) (a' := ?_) #[true,true,true,true,true,true,true,true,true,true,true,true,true,true,true,true,true,false,false,false,false,false,false,false,false,false,false,false,false,false,false,false,false,false,false,false,false,false,false,false,false,false,false,false,false,false,false,false,false,false,false,false,false] rfl rfl (any_of HT_.out (by kernel_rfl)) (fun _ _ _ h => h) (Or.inl ⟨by rfl, ?_⟩) ?_ ?_
              rotate_left
              ·intro w'
               go_simp
               with_reducible rfl
              rotate_left
              ·simp only [Act.put, sa_, sb_, sc_, i64_w, i32_w]
               rfl
              refine take_ (i := 17) (N := some 62) (v := ?_) (a' := ?_) #[true,true,true,true,true,true,true,true,true,true,true,true,true,true,true,true,true,true,false,false,false,false,false,false,false,false,false,false,false,false,false,false,false,false,false,false,false,false,false,false,false,false,false,false,false,false,false,false,false,false,false,false,false] rfl rfl (qy_ HT_.out HW_.out (by kernel_rfl)) (fun _ _ _ h => h) (Or.inl ⟨by rfl, ?_⟩) hHeld ?_ ?_
              rotate_left
              ·rintro w' ⟨s0, s1, s2, s3, s4, s5, s6, s7, s8⟩
               go_simp
               with_reducible rfl
              rotate_left
              ·simp only [Act.put, sa_, sb_, sc_, i64_w, i32_w]
               rfl
              refine take_ (i := 18) (N := some 63) (v := ?_) (a' := ?_) #[true,true,true,true,true,true,true,true,true,true,true,true,true,true,true,true,true,true,true,false,false,false,false,false,false,false,false,false,false,false,false,false,false,false,false,false,false,false,false,false,false,false,false,false,false,false,false,false,false,false,false,false,false] rfl rfl (qy_ HT_.out HW_.out (by kernel_rfl)) (fun _ _ _ h => h) (Or.inl ⟨by rfl, ?_⟩) hHeld ?_ ?_
              rotate_left
              ·rintro w' ⟨s0, s1, s2, s3, s4, s5, s6, s7, s8⟩
               go_simp
               with_reducible rfl
              rotate_left
              ·simp only [Act.put, sa_, sb_, sc_, i64_w, i32_w]
               rfl
              refine one_ (i := 19) (N := some 64) #[true,true,true,true,true,true,true,true,true,true,true,true,true,true,true,true,true,true,true,true,false,false,false,false,false,false,false,false,false,false,false,false,false,false,false,false,false,false,false,false,false,false,false,false,false,false,false,false,false,false,false,false,false] rfl rfl (one_of HT_.out (by kernel_rfl)) (by decide) (fun K hK => ?_)
              refine goes_ Try.func20 (by kernel_rfl) rfl #[.agg #[.int .i64 a0_0, .int .i64 a0_1, .slice A0_2 l0_2.length c0_2], .agg #[.int .i64 t109, .int .i64 t110, .slice Ao107 t111.length co107]] (by rfl) rfl rfl (by (try simp only [List.map_toArray, List.map_cons, List.map_nil]); first | done | rfl | (simp only [List.length_drop, List.length_take]; rfl)) ?_
              with_reducible refine (state_Over.calls a0_0 a0_1 _ _ l0_2 t109 t110 _ _ t111 false _ ?side1 ?side2 ?side3 ?side4 A50.out).mono ?_
              (case side1 => repeat (first | exact (Kd.V_reads' HO_102002.out).2.2 | (with_reducible refine Kd.qu_ ?_ _) | (with_reducible refine Kd.qt_ ?_ _) | (with_reducible refine Kd.C_drew ?_)))
              (case side2 => exact (Kd.V_reads' HO_102002.out).2.1)
              (case side3 => repeat (first | exact (Kd.V_reads' HO113.out).2.2 | (with_reducible refine Kd.qu_ ?_ _) | (with_reducible refine Kd.qt_ ?_ _) | (with_reducible refine Kd.C_drew ?_)))
              (case side4 => exact (Kd.V_reads' HO113.out).2.1)
              rintro e w120 ⟨rfl, hb⟩
              refine ⟨_, rfl, ?_⟩
              have n0_ := Aside0.mk (Kd.qo_ (by (with_reducible repeat (first | apply Kd.qn_ | apply Kd.qm_ | apply Kd.V_drew)); exact HO_102002.out) hb)
              have n1_ := Aside0.mk (Kd.qo_ (by (with_reducible repeat (first | apply Kd.qn_ | apply Kd.qm_ | apply Kd.V_drew)); exact HO113.out) hb)
              have n2_ := Aside0.mk (Kd.qo_ (by (with_reducible repeat (first | apply Kd.qn_ | apply Kd.qm_ | apply Kd.V_drew)); exact HO120.out) hb)
              have n3_ := Aside0.mk (qk_ (g := gb101) (o := .cells #[.int .i64 a0_0, .int .i64 a0_1, .slice A0_2 l0_2.length c0_2] 24 (0, 0)) (by (with_reducible repeat (first | refine qe_ ?_ _ | refine qh_ ?_ | refine qd_ ?_ _)); exact BK101.out) hb)
              have n4_ := Aside0.mk (qk_ (g := gb115) (o := .cells #[.int .i64 t109, .int .i64 t110, .slice Ao107 t111.length co107] 24 (0, 0)) (by (with_reducible repeat (first | refine qe_ ?_ _ | refine qh_ ?_ | refine qd_ ?_ _)); exact BK115.out) hb)
              have n5_ := Aside0.mk (qk_ (g := gb122) (o := .cells #[.int .i64 t116, .int .i64 t117, .slice Ao115 t118.length co115] 24 (0, 0)) (by (with_reducible repeat (first | refine qe_ ?_ _ | refine qh_ ?_ | refine qd_ ?_ _)); exact BK122.out) hb)
              have n6_ := Aside0.mk (ql_ (by repeat (first | (with_reducible first | exact HB.out | apply qc_ | apply qa_ | apply qb_ | refine qf_ ?_ GE101.out | refine qf_ ?_ GE115.out | refine qf_ ?_ GE122.out) | exact HB.out)) hb)
              clear HO_102002
              clear HO113
              clear HO120
              clear BK101
              clear BK115
              clear BK122
              clear HB
              have HO_102002 := n0_
              have HO113 := n1_
              have HO120 := n2_
              have BK101 := n3_
              have BK115 := n4_
              have BK122 := n5_
              have HB := n6_
              clear n0_ n1_ n2_ n3_ n4_ n5_ n6_
              (try clear hb)
              (try clear hb2)
              (try clear hk)
              (try clear hi)
              refine hK.out _ _ ⟨(qg_ BK115.out 0).trans rfl, (qg_ BK115.out 1).trans rfl, (qg_ BK115.out 2).trans rfl, (qg_ BK101.out 0).trans rfl, (qg_ BK101.out 1).trans rfl, (qg_ BK101.out 2).trans rfl, (qg_ BK122.out 0).trans rfl, (qg_ BK122.out 1).trans rfl, (qg_ BK122.out 2).trans rfl⟩ (fun hHeld => ?_)
              clear hK K
              refine norm_ (a' := ?_) ?_ ?_
              rotate_left
              ·show Act.put _ (some 64) _ = _
               simp only [Act.put, sa_, sb_, sc_, i64_w, i32_w]
               rfl
              refine pure_ (i := 20) (N := some 65) (v := ?_) (a' := ?_) #[true,true,true,true,true,true,true,true,true,true,true,true,true,true,true,true,true,true,true,true,true,false,false,false,false,false,false,false,false,false,false,false,false,false,false,false,false,false,false,false,false,false,false,false,false,false,false,false,false,false,false,false,false] rfl rfl (any_of HT_.out (by kernel_rfl)) (fun _ _ _ h => h) (Or.inl ⟨by rfl, ?_⟩) ?_ ?_
              rotate_left
              ·intro w'
               go_simp
               with_reducible rfl
              rotate_left
              ·simp only [Act.put, sa_, sb_, sc_, i64_w, i32_w]
               rfl
              refine pure_ (i := 21) (N := some 66) (v := ?_) (a' := ?_) #[true,true,true,true,true,true,true,true,true,true,true,true,true,true,true,true,true,true,true,true,true,true,false,false,false,false,false,false,false,false,false,false,false,false,false,false,false,false,false,false,false,false,false,false,false,false,false,false,false,false,false,false,false] rfl rfl (any_of HT_.out (by kernel_rfl)) (fun _ _ _ h => h) (Or.inl ⟨by rfl, ?_⟩) ?_ ?_
              rotate_left
              ·intro w'
               go_simp
               with_reducible rfl
              rotate_left
              ·simp only [Act.put, sa_, sb_, sc_, i64_w, i32_w]
               rfl
              refine pure_ (i := 22) (N := some 67) (v := ?_) (a' := ?_) #[true,true,true,true,true,true,true,true,true,true,true,true,true,true,true,true,true,true,true,true,true,true,true,false,false,false,false,false,false,false,false,false,false,false,false,false,false,false,false,false,false,false,false,false,false,false,false,false,false,false,false,false,false] rfl rfl (any_of HT_.out (by kernel_rfl)) (fun _ _ _ h => h) (Or.inl ⟨by rfl, ?_⟩) ?_ ?_
              rotate_left
              ·intro w'
               go_simp
               with_reducible rfl
              rotate_left
              ·simp only [Act.put, sa_, sb_, sc_, i64_w, i32_w]
               rfl
              refine take_ (i := 23) (N := some 68) (v := ?_) (a' := ?_) #[true,true,true,true,true,true,true,true,true,true,true,true,true,true,true,true,true,true,true,true,true,true,true,true,false,false,false,false,false,false,false,false,false,false,false,false,false,false,false,false,false,false,false,false,false,false,false,false,false,false,false,false,false] rfl rfl (qy_ HT_.out HW_.out (by kernel_rfl)) (fun _ _ _ h => h) (Or.inl ⟨by rfl, ?_⟩) hHeld ?_ ?_
              rotate_left
              ·rintro w' ⟨s0, s1, s2, s3, s4, s5, s6, s7, s8⟩
               go_simp
               with_reducible rfl
              rotate_left
              ·simp only [Act.put, sa_, sb_, sc_, i64_w, i32_w]
               rfl
              refine take_ (i := 24) (N := some 69) (v := ?_) (a' := ?_) #[true,true,true,true,true,true,true,true,true,true,true,true,true,true,true,true,true,true,true,true,true,true,true,true,true,false,false,false,false,false,false,false,false,false,false,false,false,false,false,false,false,false,false,false,false,false,false,false,false,false,false,false,false] rfl rfl (qy_ HT_.out HW_.out (by kernel_rfl)) (fun _ _ _ h => h) (Or.inl ⟨by rfl, ?_⟩) hHeld ?_ ?_
              rotate_left
              ·rintro w' ⟨s0, s1, s2, s3, s4, s5, s6, s7, s8⟩
               go_simp
               with_reducible rfl
              rotate_left
              ·simp only [Act.put, sa_, sb_, sc_, i64_w, i32_w]
               rfl
              refine one_ (i := 25) (N := some 70) #[true,true,true,true,true,true,true,true,true,true,true,true,true,true,true,true,true,true,true,true,true,true,true,true,true,true,false,false,false,false,false,false,false,false,false,false,false,false,false,false,false,false,false,false,false,false,false,false,false,false,false,false,false] rfl rfl (one_of HT_.out (by kernel_rfl)) (by decide) (fun K hK => ?_)
              refine goes_ Try.func20 (by kernel_rfl) rfl #[.agg #[.int .i64 a0_0, .int .i64 a0_1, .slice A0_2 l0_2.length c0_2], .agg #[.int .i64 t116, .int .i64 t117, .slice Ao115 t118.length co115]] (by rfl) rfl rfl (by (try simp only [List.map_toArray, List.map_cons, List.map_nil]); first | done | rfl | (simp only [List.length_drop, List.length_take]; rfl)) ?_
              with_reducible refine (state_Over.calls a0_0 a0_1 _ _ l0_2 t116 t117 _ _ t118 false _ ?side1 ?side2 ?side3 ?side4 A71.out).mono ?_
              (case side1 => repeat (first | exact (Kd.V_reads' HO_102002.out).2.2 | (with_reducible refine Kd.qu_ ?_ _) | (with_reducible refine Kd.qt_ ?_ _) | (with_reducible refine Kd.C_drew ?_)))
              (case side2 => exact (Kd.V_reads' HO_102002.out).2.1)
              (case side3 => repeat (first | exact (Kd.V_reads' HO120.out).2.2 | (with_reducible refine Kd.qu_ ?_ _) | (with_reducible refine Kd.qt_ ?_ _) | (with_reducible refine Kd.C_drew ?_)))
              (case side4 => exact (Kd.V_reads' HO120.out).2.1)
              rintro e w121 ⟨rfl, hb⟩
              refine ⟨_, rfl, ?_⟩
              have n0_ := Aside0.mk (Kd.qo_ (by (with_reducible repeat (first | apply Kd.qn_ | apply Kd.qm_ | apply Kd.V_drew)); exact HO_102002.out) hb)
              have n1_ := Aside0.mk (Kd.qo_ (by (with_reducible repeat (first | apply Kd.qn_ | apply Kd.qm_ | apply Kd.V_drew)); exact HO113.out) hb)
              have n2_ := Aside0.mk (Kd.qo_ (by (with_reducible repeat (first | apply Kd.qn_ | apply Kd.qm_ | apply Kd.V_drew)); exact HO120.out) hb)
              have n3_ := Aside0.mk (qk_ (g := gb101) (o := .cells #[.int .i64 a0_0, .int .i64 a0_1, .slice A0_2 l0_2.length c0_2] 24 (0, 0)) (by (with_reducible repeat (first | refine qe_ ?_ _ | refine qh_ ?_ | refine qd_ ?_ _)); exact BK101.out) hb)
              have n4_ := Aside0.mk (qk_ (g := gb115) (o := .cells #[.int .i64 t109, .int .i64 t110, .slice Ao107 t111.length co107] 24 (0, 0)) (by (with_reducible repeat (first | refine qe_ ?_ _ | refine qh_ ?_ | refine qd_ ?_ _)); exact BK115.out) hb)
              have n5_ := Aside0.mk (qk_ (g := gb122) (o := .cells #[.int .i64 t116, .int .i64 t117, .slice Ao115 t118.length co115] 24 (0, 0)) (by (with_reducible repeat (first | refine qe_ ?_ _ | refine qh_ ?_ | refine qd_ ?_ _)); exact BK122.out) hb)
              have n6_ := Aside0.mk (ql_ (by repeat (first | (with_reducible first | exact HB.out | apply qc_ | apply qa_ | apply qb_ | refine qf_ ?_ GE101.out | refine qf_ ?_ GE115.out | refine qf_ ?_ GE122.out) | exact HB.out)) hb)
              clear HO_102002
              clear HO113
              clear HO120
              clear BK101
              clear BK115
              clear BK122
              clear HB
              have HO_102002 := n0_
              have HO113 := n1_
              have HO120 := n2_
              have BK101 := n3_
              have BK115 := n4_
              have BK122 := n5_
              have HB := n6_
              clear n0_ n1_ n2_ n3_ n4_ n5_ n6_
              (try clear hb)
              (try clear hb2)
              (try clear hk)
              (try clear hi)
              refine hK.out _ _ ⟨(qg_ BK115.out 0).trans rfl, (qg_ BK115.out 1).trans rfl, (qg_ BK115.out 2).trans rfl, (qg_ BK101.out 0).trans rfl, (qg_ BK101.out 1).trans rfl, (qg_ BK101.out 2).trans rfl, (qg_ BK122.out 0).trans rfl, (qg_ BK122.out 1).trans rfl, (qg_ BK122.out 2).trans rfl⟩ (fun hHeld => ?_)
              clear hK K
              refine norm_ (a' := ?_) ?_ ?_
              rotate_left
              ·show Act.put _ (some 70) _ = _
               simp only [Act.put, sa_, sb_, sc_, i64_w, i32_w]
               rfl
              refine pure_ (i := 26) (N := some 71) (v := ?_) (a' := ?_) #[true,true,true,true,true,true,true,true,true,true,true,true,true,true,true,true,true,true,true,true,true,true,true,true,true,true,true,false,false,false,false,false,false,false,false,false,false,false,false,false,false,false,false,false,false,false,false,false,false,false,false,false,false] rfl rfl (any_of HT_.out (by kernel_rfl)) (fun _ _ _ h => h) (Or.inl ⟨by rfl, ?_⟩) ?_ ?_
              rotate_left
              ·intro w'
               go_simp
               with_reducible rfl
              rotate_left
              ·simp only [Act.put, sa_, sb_, sc_, i64_w, i32_w]
               rfl
              refine pure_ (i := 27) (N := some 72) (v := ?_) (a' := ?_) #[true,true,true,true,true,true,true,true,true,true,true,true,true,true,true,true,true,true,true,true,true,true,true,true,true,true,true,true,false,false,false,false,false,false,false,false,false,false,false,false,false,false,false,false,false,false,false,false,false,false,false,false,false] rfl rfl (any_of HT_.out (by kernel_rfl)) (fun _ _ _ h => h) (Or.inl ⟨by rfl, ?_⟩) ?_ ?_
              rotate_left
              ·intro w'
               go_simp
               with_reducible rfl
              rotate_left
              ·simp only [Act.put, sa_, sb_, sc_, i64_w, i32_w]
               rfl
              refine pure_ (i := 28) (N := some 73) (v := ?_) (a' := ?_) #[true,true,true,true,true,true,true,true,true,true,true,true,true,true,true,true,true,true,true,true,true,true,true,true,true,true,true,true,true,false,false,false,false,false,false,false,false,false,false,false,false,false,false,false,false,false,false,false,false,false,false,false,false] rfl rfl (any_of HT_.out (by kernel_rfl)) (fun _ _ _ h => h) (Or.inl ⟨by rfl, ?_⟩) ?_ ?_
              rotate_left
              ·intro w'
               go_simp
               with_reducible rfl
              rotate_left
              ·simp only [Act.put, sa_, sb_, sc_, i64_w, i32_w]
               rfl
              refine take_ (i := 29) (N := some 74) (v := ?_) (a' := ?_) #[true,true,true,true,true,true,true,true,true,true,true,true,true,true,true,true,true,true,true,true,true,true,true,true,true,true,true,true,true,true,false,false,false,false,false,false,false,false,false,false,false,false,false,false,false,false,false,false,false,false,false,false,false] rfl rfl (qy_ HT_.out HW_.out (by kernel_rfl)) (fun _ _ _ h => h) (Or.inl ⟨by rfl, ?_⟩) hHeld ?_ ?_
              rotate_left
              ·rintro w' ⟨s0, s1, s2, s3, s4, s5, s6, s7, s8⟩
               go_simp
               with_reducible rfl
              rotate_left
              ·simp only [Act.put, sa_, sb_, sc_, i64_w, i32_w]
               rfl
              refine take_ (i := 31) (N := some 76) (v := ?_) (a' := ?_) #[true,true,true,true,true,true,true,true,true,true,true,true,true,true,true,true,true,true,true,true,true,true,true,true,true,true,true,true,true,true,false,true,false,false,false,false,false,false,false,false,false,false,false,false,false,false,false,false,false,false,false,false,false] rfl rfl (qy_ HT_.out HW_.out (by kernel_rfl)) (fun _ _ _ h => h) (Or.inl ⟨by rfl, ?_⟩) hHeld ?_ ?_
              rotate_left
              ·rintro w' ⟨s0, s1, s2, s3, s4, s5, s6, s7, s8⟩
               go_simp
               with_reducible rfl
              rotate_left
              ·simp only [Act.put, sa_, sb_, sc_, i64_w, i32_w]
               rfl
              refine one_ (i := 30) (N := some 75) #[true,true,true,true,true,true,true,true,true,true,true,true,true,true,true,true,true,true,true,true,true,true,true,true,true,true,true,true,true,true,true,true,false,false,false,false,false,false,false,false,false,false,false,false,false,false,false,false,false,false,false,false,false] rfl rfl (one_of HT_.out (by kernel_rfl)) (by decide) (fun K hK => ?_)
              refine goes_ Try.func24 (by kernel_rfl) rfl #[.agg #[.int .i64 t109, .int .i64 t110, .slice Ao107 t111.length co107]] (by rfl) rfl rfl (by (try simp only [List.map_toArray, List.map_cons, List.map_nil]); first | done | rfl | (simp only [List.length_drop, List.length_take]; rfl)) ?_
              with_reducible refine (state_Top.calls kj5 t109 t110 _ _ t111 t127 _ ?side1 ?side2 A93.out).mono ?_
              (case side1 => repeat (first | exact (Kd.V_reads' HO113.out).2.2 | (with_reducible refine Kd.qu_ ?_ _) | (with_reducible refine Kd.qt_ ?_ _) | (with_reducible refine Kd.C_drew ?_)))
              (case side2 => exact (Kd.V_reads' HO113.out).2.1)
              rintro e w122 ⟨rfl, hb⟩
              refine ⟨_, rfl, ?_⟩
              have n0_ := Aside0.mk (Kd.qo_ (by (with_reducible repeat (first | apply Kd.qn_ | apply Kd.qm_ | apply Kd.V_drew)); exact HO_102002.out) hb)
              have n1_ := Aside0.mk (Kd.qo_ (by (with_reducible repeat (first | apply Kd.qn_ | apply Kd.qm_ | apply Kd.V_drew)); exact HO113.out) hb)
              have n2_ := Aside0.mk (Kd.qo_ (by (with_reducible repeat (first | apply Kd.qn_ | apply Kd.qm_ | apply Kd.V_drew)); exact HO120.out) hb)
              have n3_ := Aside0.mk (qk_ (g := gb101) (o := .cells #[.int .i64 a0_0, .int .i64 a0_1, .slice A0_2 l0_2.length c0_2] 24 (0, 0)) (by (with_reducible repeat (first | refine qe_ ?_ _ | refine qh_ ?_ | refine qd_ ?_ _)); exact BK101.out) hb)
              have n4_ := Aside0.mk (qk_ (g := gb115) (o := .cells #[.int .i64 t109, .int .i64 t110, .slice Ao107 t111.length co107] 24 (0, 0)) (by (with_reducible repeat (first | refine qe_ ?_ _ | refine qh_ ?_ | refine qd_ ?_ _)); exact BK115.out) hb)
              have n5_ := Aside0.mk (qk_ (g := gb122) (o := .cells #[.int .i64 t116, .int .i64 t117, .slice Ao115 t118.length co115] 24 (0, 0)) (by (with_reducible repeat (first | refine qe_ ?_ _ | refine qh_ ?_ | refine qd_ ?_ _)); exact BK122.out) hb)
              have n6_ := Aside0.mk (ql_ (by repeat (first | (with_reducible first | exact HB.out | apply qc_ | apply qa_ | apply qb_ | refine qf_ ?_ GE101.out | refine qf_ ?_ GE115.out | refine qf_ ?_ GE122.out) | exact HB.out)) hb)
              clear HO_102002
              clear HO113
              clear HO120
              clear BK101
              clear BK115
              clear BK122
              clear HB
              have HO_102002 := n0_
              have HO113 := n1_
              have HO120 := n2_
              have BK101 := n3_
              have BK115 := n4_
              have BK122 := n5_
              have HB := n6_
              clear n0_ n1_ n2_ n3_ n4_ n5_ n6_
              (try clear hb)
              (try clear hb2)
              (try clear hk)
              (try clear hi)
              refine hK.out _ _ ⟨(qg_ BK115.out 0).trans rfl, (qg_ BK115.out 1).trans rfl, (qg_ BK115.out 2).trans rfl, (qg_ BK101.out 0).trans rfl, (qg_ BK101.out 1).trans rfl, (qg_ BK101.out 2).trans rfl, (qg_ BK122.out 0).trans rfl, (qg_ BK122.out 1).trans rfl, (qg_ BK122.out 2).trans rfl⟩ (fun hHeld => ?_)
              clear hK K
              refine norm_ (a' := ?_) ?_ ?_
              rotate_left
              ·show Act.put _ (some 75) _ = _
               simp only [Act.put, sa_, sb_, sc_, i64_w, i32_w]
               rfl
              refine one_ (i := 32) (N := some 77) #[true,true,true,true,true,true,true,true,true,true,true,true,true,true,true,true,true,true,true,true,true,true,true,true,true,true,true,true,true,true,true,true,true,false,false,false,false,false,false,false,false,false,false,false,false,false,false,false,false,false,false,false,false] rfl rfl (one_of HT_.out (by kernel_rfl)) (by decide) (fun K hK => ?_)
              refine goes_ Try.func24 (by kernel_rfl) rfl #[.agg #[.int .i64 a0_0, .int .i64 a0_1, .slice A0_2 l0_2.length c0_2]] (by rfl) rfl rfl (by (try simp only [List.map_toArray, List.map_cons, List.map_nil]); first | done | rfl | (simp only [List.length_drop, List.length_take]; rfl)) ?_
              with_reducible refine (state_Top.calls kj5 a0_0 a0_1 _ _ l0_2 t128 _ ?side1 ?side2 A94.out).mono ?_
              (case side1 => repeat (first | exact (Kd.V_reads' HO_102002.out).2.2 | (with_reducible refine Kd.qu_ ?_ _) | (with_reducible refine Kd.qt_ ?_ _) | (with_reducible refine Kd.C_drew ?_)))
              (case side2 => exact (Kd.V_reads' HO_102002.out).2.1)
              rintro e w123 ⟨rfl, hb⟩
              refine ⟨_, rfl, ?_⟩
              have n0_ := Aside0.mk (Kd.qo_ (by (with_reducible repeat (first | apply Kd.qn_ | apply Kd.qm_ | apply Kd.V_drew)); exact HO_102002.out) hb)
              have n1_ := Aside0.mk (Kd.qo_ (by (with_reducible repeat (first | apply Kd.qn_ | apply Kd.qm_ | apply Kd.V_drew)); exact HO113.out) hb)
              have n2_ := Aside0.mk (Kd.qo_ (by (with_reducible repeat (first | apply Kd.qn_ | apply Kd.qm_ | apply Kd.V_drew)); exact HO120.out) hb)
              have n3_ := Aside0.mk (qk_ (g := gb101) (o := .cells #[.int .i64 a0_0, .int .i64 a0_1, .slice A0_2 l0_2.length c0_2] 24 (0, 0)) (by (with_reducible repeat (first | refine qe_ ?_ _ | refine qh_ ?_ | refine qd_ ?_ _)); exact BK101.out) hb)
              have n4_ := Aside0.mk (qk_ (g := gb115) (o := .cells #[.int .i64 t109, .int .i64 t110, .slice Ao107 t111.length co107] 24 (0, 0)) (by (with_reducible repeat (first | refine qe_ ?_ _ | refine qh_ ?_ | refine qd_ ?_ _)); exact BK115.out) hb)
              have n5_ := Aside0.mk (qk_ (g := gb122) (o := .cells #[.int .i64 t116, .int .i64 t117, .slice Ao115 t118.length co115] 24 (0, 0)) (by (with_reducible repeat (first | refine qe_ ?_ _ | refine qh_ ?_ | refine qd_ ?_ _)); exact BK122.out) hb)
              have n6_ := Aside0.mk (ql_ (by repeat (first | (with_reducible first | exact HB.out | apply qc_ | apply qa_ | apply qb_ | refine qf_ ?_ GE101.out | refine qf_ ?_ GE115.out | refine qf_ ?_ GE122.out) | exact HB.out)) hb)
              clear HO_102002
              clear HO113
              clear HO120
              clear BK101
              clear BK115
              clear BK122
              clear HB
              have HO_102002 := n0_
              have HO113 := n1_
              have HO120 := n2_
              have BK101 := n3_
              have BK115 := n4_
              have BK122 := n5_
              have HB := n6_
              clear n0_ n1_ n2_ n3_ n4_ n5_ n6_
              (try clear hb)
              (try clear hb2)
              (try clear hk)
              (try clear hi)
              refine hK.out _ _ ⟨(qg_ BK115.out 0).trans rfl, (qg_ BK115.out 1).trans rfl, (qg_ BK115.out 2).trans rfl, (qg_ BK101.out 0).trans rfl, (qg_ BK101.out 1).trans rfl, (qg_ BK101.out 2).trans rfl, (qg_ BK122.out 0).trans rfl, (qg_ BK122.out 1).trans rfl, (qg_ BK122.out 2).trans rfl⟩ (fun hHeld => ?_)
              clear hK K
              refine norm_ (a' := ?_) ?_ ?_
              rotate_left
              ·show Act.put _ (some 77) _ = _
               simp only [Act.put, sa_, sb_, sc_, i64_w, i32_w]
               rfl
              refine pure_ (i := 33) (N := some 78) (v := ?_) (a' := ?_) #[true,true,true,true,true,true,true,true,true,true,true,true,true,true,true,true,true,true,true,true,true,true,true,true,true,true,true,true,true,true,true,true,true,true,false,false,false,false,false,false,false,false,false,false,false,false,false,false,false,false,false,false,false] rfl rfl (any_of HT_.out (by kernel_rfl)) (fun _ _ _ h => h) (Or.inl ⟨by rfl, ?_⟩) ?_ ?_
              rotate_left
              ·intro w'
               go_simp
               with_reducible rfl
              rotate_left
              ·simp only [Act.put, sa_, sb_, sc_, i64_w, i32_w]
               rfl
              refine pure_ (i := 34) (N := some 79) (v := ?_) (a' := ?_) #[true,true,true,true,true,true,true,true,true,true,true,true,true,true,true,true,true,true,true,true,true,true,true,true,true,true,true,true,true,true,true,true,true,true,true,false,false,false,false,false,false,false,false,false,false,false,false,false,false,false,false,false,false] rfl rfl (any_of HT_.out (by kernel_rfl)) (fun _ _ _ h => h) (Or.inl ⟨by rfl, ?_⟩) ?_ ?_
              rotate_left
              ·intro w'
               go_simp
               with_reducible rfl
              rotate_left
              ·simp only [Act.put, sa_, sb_, sc_, i64_w, i32_w]
               rfl
              refine pure_ (i := 35) (N := some 80) (v := ?_) (a' := ?_) #[true,true,true,true,true,true,true,true,true,true,true,true,true,true,true,true,true,true,true,true,true,true,true,true,true,true,true,true,true,true,true,true,true,true,true,true,false,false,false,false,false,false,false,false,false,false,false,false,false,false,false,false,false] rfl rfl (any_of HT_.out (by kernel_rfl)) (fun _ _ _ h => h) (Or.inl ⟨by rfl, ?_⟩) ?_ ?_
              rotate_left
              ·intro w'
               go_simp
               with_reducible rfl
              rotate_left
              ·simp only [Act.put, sa_, sb_, sc_, i64_w, i32_w]
               rfl
              refine pure_ (i := 36) (N := some 81) (v := ?_) (a' := ?_) #[true,true,true,true,true,true,true,true,true,true,true,true,true,true,true,true,true,true,true,true,true,true,true,true,true,true,true,true,true,true,true,true,true,true,true,true,true,false,false,false,false,false,false,false,false,false,false,false,false,false,false,false,false] rfl rfl (any_of HT_.out (by kernel_rfl)) (fun _ _ _ h => h) (Or.inl ⟨by rfl, ?_⟩) ?_ ?_
              rotate_left
              ·intro w'
               go_simp
               with_reducible rfl
              rotate_left
              ·simp only [Act.put, sa_, sb_, sc_, i64_w, i32_w]
               rfl
              refine take_ (i := 37) (N := some 82) (v := ?_) (a' := ?_) #[true,true,true,true,true,true,true,true,true,true,true,true,true,true,true,true,true,true,true,true,true,true,true,true,true,true,true,true,true,true,true,true,true,true,true,true,true,true,false,false,false,false,false,false,false,false,false,false,false,false,false,false,false] rfl rfl (qy_ HT_.out HW_.out (by kernel_rfl)) (fun _ _ _ h => h) (Or.inl ⟨by rfl, ?_⟩) hHeld ?_ ?_
              rotate_left
              ·rintro w' ⟨s0, s1, s2, s3, s4, s5, s6, s7, s8⟩
               go_simp
               with_reducible rfl
              rotate_left
              ·simp only [Act.put, sa_, sb_, sc_, i64_w, i32_w]
               rfl
              refine take_ (i := 39) (N := some 84) (v := ?_) (a' := ?_) #[true,true,true,true,true,true,true,true,true,true,true,true,true,true,true,true,true,true,true,true,true,true,true,true,true,true,true,true,true,true,true,true,true,true,true,true,true,true,false,true,false,false,false,false,false,false,false,false,false,false,false,false,false] rfl rfl (qy_ HT_.out HW_.out (by kernel_rfl)) (fun _ _ _ h => h) (Or.inl ⟨by rfl, ?_⟩) hHeld ?_ ?_
              rotate_left
              ·rintro w' ⟨s0, s1, s2, s3, s4, s5, s6, s7, s8⟩
               go_simp
               with_reducible rfl
              rotate_left
              ·simp only [Act.put, sa_, sb_, sc_, i64_w, i32_w]
               rfl
              refine one_ (i := 38) (N := some 83) #[true,true,true,true,true,true,true,true,true,true,true,true,true,true,true,true,true,true,true,true,true,true,true,true,true,true,true,true,true,true,true,true,true,true,true,true,true,true,true,true,false,false,false,false,false,false,false,false,false,false,false,false,false] rfl rfl (one_of HT_.out (by kernel_rfl)) (by decide) (fun K hK => ?_)
              refine goes_ Try.func24 (by kernel_rfl) rfl #[.agg #[.int .i64 t116, .int .i64 t117, .slice Ao115 t118.length co115]] (by rfl) rfl rfl (by (try simp only [List.map_toArray, List.map_cons, List.map_nil]); first | done | rfl | (simp only [List.length_drop, List.length_take]; rfl)) ?_
              with_reducible refine (state_Top.calls kj5 t116 t117 _ _ t118 t129 _ ?side1 ?side2 A96.out).mono ?_
              (case side1 => repeat (first | exact (Kd.V_reads' HO120.out).2.2 | (with_reducible refine Kd.qu_ ?_ _) | (with_reducible refine Kd.qt_ ?_ _) | (with_reducible refine Kd.C_drew ?_)))
              (case side2 => exact (Kd.V_reads' HO120.out).2.1)
              rintro e w124 ⟨rfl, hb⟩
              refine ⟨_, rfl, ?_⟩
              have n0_ := Aside0.mk (Kd.qo_ (by (with_reducible repeat (first | apply Kd.qn_ | apply Kd.qm_ | apply Kd.V_drew)); exact HO_102002.out) hb)
              have n1_ := Aside0.mk (Kd.qo_ (by (with_reducible repeat (first | apply Kd.qn_ | apply Kd.qm_ | apply Kd.V_drew)); exact HO113.out) hb)
              have n2_ := Aside0.mk (Kd.qo_ (by (with_reducible repeat (first | apply Kd.qn_ | apply Kd.qm_ | apply Kd.V_drew)); exact HO120.out) hb)
              have n3_ := Aside0.mk (qk_ (g := gb101) (o := .cells #[.int .i64 a0_0, .int .i64 a0_1, .slice A0_2 l0_2.length c0_2] 24 (0, 0)) (by (with_reducible repeat (first | refine qe_ ?_ _ | refine qh_ ?_ | refine qd_ ?_ _)); exact BK101.out) hb)
              have n4_ := Aside0.mk (qk_ (g := gb115) (o := .cells #[.int .i64 t109, .int .i64 t110, .slice Ao107 t111.length co107] 24 (0, 0)) (by (with_reducible repeat (first | refine qe_ ?_ _ | refine qh_ ?_ | refine qd_ ?_ _)); exact BK115.out) hb)
              have n5_ := Aside0.mk (qk_ (g := gb122) (o := .cells #[.int .i64 t116, .int .i64 t117, .slice Ao115 t118.length co115] 24 (0, 0)) (by (with_reducible repeat (first | refine qe_ ?_ _ | refine qh_ ?_ | refine qd_ ?_ _)); exact BK122.out) hb)
              have n6_ := Aside0.mk (ql_ (by repeat (first | (with_reducible first | exact HB.out | apply qc_ | apply qa_ | apply qb_ | refine qf_ ?_ GE101.out | refine qf_ ?_ GE115.out | refine qf_ ?_ GE122.out) | exact HB.out)) hb)
              clear HO_102002
              clear HO113
              clear HO120
              clear BK101
              clear BK115
              clear BK122
              clear HB
              have HO_102002 := n0_
              have HO113 := n1_
              have HO120 := n2_
              have BK101 := n3_
              have BK115 := n4_
              have BK122 := n5_
              have HB := n6_
              clear n0_ n1_ n2_ n3_ n4_ n5_ n6_
              (try clear hb)
              (try clear hb2)
              (try clear hk)
              (try clear hi)
              refine hK.out _ _ ⟨(qg_ BK115.out 0).trans rfl, (qg_ BK115.out 1).trans rfl, (qg_ BK115.out 2).trans rfl, (qg_ BK101.out 0).trans rfl, (qg_ BK101.out 1).trans rfl, (qg_ BK101.out 2).trans rfl, (qg_ BK122.out 0).trans rfl, (qg_ BK122.out 1).trans rfl, (qg_ BK122.out 2).trans rfl⟩ (fun hHeld => ?_)
              clear hK K
              refine norm_ (a' := ?_) ?_ ?_
              rotate_left
              ·show Act.put _ (some 83) _ = _
               simp only [Act.put, sa_, sb_, sc_, i64_w, i32_w]
               rfl
              refine one_ (i := 40) (N := some 85) #[true,true,true,true,true,true,true,true,true,true,true,true,true,true,true,true,true,true,true,true,true,true,true,true,true,true,true,true,true,true,true,true,true,true,true,true,true,true,true,true,true,false,false,false,false,false,false,false,false,false,false,false,false] rfl rfl (one_of HT_.out (by kernel_rfl)) (by decide) (fun K hK => ?_)
              refine goes_ Try.func24 (by kernel_rfl) rfl #[.agg #[.int .i64 a0_0, .int .i64 a0_1, .slice A0_2 l0_2.length c0_2]] (by rfl) rfl rfl (by (try simp only [List.map_toArray, List.map_cons, List.map_nil]); first | done | rfl | (simp only [List.length_drop, List.length_take]; rfl)) ?_
              with_reducible refine (state_Top.calls kj5 a0_0 a0_1 _ _ l0_2 t130 _ ?side1 ?side2 A97.out).mono ?_
              (case side1 => repeat (first | exact (Kd.V_reads' HO_102002.out).2.2 | (with_reducible refine Kd.qu_ ?_ _) | (with_reducible refine Kd.qt_ ?_ _) | (with_reducible refine Kd.C_drew ?_)))
              (case side2 => exact (Kd.V_reads' HO_102002.out).2.1)
              rintro e w125 ⟨rfl, hb⟩
              refine ⟨_, rfl, ?_⟩
              have n0_ := Aside0.mk (Kd.qo_ (by (with_reducible repeat (first | apply Kd.qn_ | apply Kd.qm_ | apply Kd.V_drew)); exact HO_102002.out) hb)
              have n1_ := Aside0.mk (Kd.qo_ (by (with_reducible repeat (first | apply Kd.qn_ | apply Kd.qm_ | apply Kd.V_drew)); exact HO113.out) hb)
              have n2_ := Aside0.mk (Kd.qo_ (by (with_reducible repeat (first | apply Kd.qn_ | apply Kd.qm_ | apply Kd.V_drew)); exact HO120.out) hb)
              have n3_ := Aside0.mk (qk_ (g := gb101) (o := .cells #[.int .i64 a0_0, .int .i64 a0_1, .slice A0_2 l0_2.length c0_2] 24 (0, 0)) (by (with_reducible repeat (first | refine qe_ ?_ _ | refine qh_ ?_ | refine qd_ ?_ _)); exact BK101.out) hb)
              have n4_ := Aside0.mk (qk_ (g := gb115) (o := .cells #[.int .i64 t109, .int .i64 t110, .slice Ao107 t111.length co107] 24 (0, 0)) (by (with_reducible repeat (first | refine qe_ ?_ _ | refine qh_ ?_ | refine qd_ ?_ _)); exact BK115.out) hb)
              have n5_ := Aside0.mk (qk_ (g := gb122) (o := .cells #[.int .i64 t116, .int .i64 t117, .slice Ao115 t118.length co115] 24 (0, 0)) (by (with_reducible repeat (first | refine qe_ ?_ _ | refine qh_ ?_ | refine qd_ ?_ _)); exact BK122.out) hb)
              have n6_ := Aside0.mk (ql_ (by repeat (first | (with_reducible first | exact HB.out | apply qc_ | apply qa_ | apply qb_ | refine qf_ ?_ GE101.out | refine qf_ ?_ GE115.out | refine qf_ ?_ GE122.out) | exact HB.out)) hb)
              clear HO_102002
              clear HO113
              clear HO120
              clear BK101
              clear BK115
              clear BK122
              clear HB
              have HO_102002 := n0_
              have HO113 := n1_
              have HO120 := n2_
              have BK101 := n3_
              have BK115 := n4_
              have BK122 := n5_
              have HB := n6_
              clear n0_ n1_ n2_ n3_ n4_ n5_ n6_
              (try clear hb)
              (try clear hb2)
              (try clear hk)
              (try clear hi)
              refine hK.out _ _ ⟨(qg_ BK115.out 0).trans rfl, (qg_ BK115.out 1).trans rfl, (qg_ BK115.out 2).trans rfl, (qg_ BK101.out 0).trans rfl, (qg_ BK101.out 1).trans rfl, (qg_ BK101.out 2).trans rfl, (qg_ BK122.out 0).trans rfl, (qg_ BK122.out 1).trans rfl, (qg_ BK122.out 2).trans rfl⟩ (fun hHeld => ?_)
              clear hK K
              refine norm_ (a' := ?_) ?_ ?_
              rotate_left
              ·show Act.put _ (some 85) _ = _
               simp only [Act.put, sa_, sb_, sc_, i64_w, i32_w]
               rfl
              refine pure_ (i := 41) (N := some 86) (v := ?_) (a' := ?_) #[true,true,true,true,true,true,true,true,true,true,true,true,true,true,true,true,true,true,true,true,true,true,true,true,true,true,true,true,true,true,true,true,true,true,true,true,true,true,true,true,true,true,false,false,false,false,false,false,false,false,false,false,false] rfl rfl (any_of HT_.out (by kernel_rfl)) (fun _ _ _ h => h) (Or.inl ⟨by rfl, ?_⟩) ?_ ?_
              rotate_left
              ·intro w'
               go_simp
               with_reducible rfl
              rotate_left
              ·simp only [Act.put, sa_, sb_, sc_, i64_w, i32_w]
               rfl
              refine pure_ (i := 42) (N := some 87) (v := ?_) (a' := ?_) #[true,true,true,true,true,true,true,true,true,true,true,true,true,true,true,true,true,true,true,true,true,true,true,true,true,true,true,true,true,true,true,true,true,true,true,true,true,true,true,true,true,true,true,false,false,false,false,false,false,false,false,false,false] rfl rfl (any_of HT_.out (by kernel_rfl)) (fun _ _ _ h => h) (Or.inl ⟨by rfl, ?_⟩) ?_ ?_
              rotate_left
              ·intro w'
               go_simp
               with_reducible rfl
              rotate_left
              ·simp only [Act.put, sa_, sb_, sc_, i64_w, i32_w]
               rfl
              refine pure_ (i := 43) (N := some 88) (v := ?_) (a' := ?_) #[true,true,true,true,true,true,true,true,true,true,true,true,true,true,true,true,true,true,true,true,true,true,true,true,true,true,true,true,true,true,true,true,true,true,true,true,true,true,true,true,true,true,true,true,false,false,false,false,false,false,false,false,false] rfl rfl (any_of HT_.out (by kernel_rfl)) (fun _ _ _ h => h) (Or.inl ⟨by rfl, ?_⟩) ?_ ?_
              rotate_left
              ·intro w'
               go_simp
               with_reducible rfl
              rotate_left
              ·simp only [Act.put, sa_, sb_, sc_, i64_w, i32_w]
               rfl
              refine pure_ (i := 44) (N := some 89) (v := ?_) (a' := ?_) #[true,true,true,true,true,true,true,true,true,true,true,true,true,true,true,true,true,true,true,true,true,true,true,true,true,true,true,true,true,true,true,true,true,true,true,true,true,true,true,true,true,true,true,true,true,false,false,false,false,false,false,false,false] rfl rfl (any_of HT_.out (by kernel_rfl)) (fun _ _ _ h => h) (Or.inl ⟨by rfl, ?_⟩) ?_ ?_
              rotate_left
              ·intro w'
               go_simp
               with_reducible rfl
              rotate_left
              ·simp only [Act.put, sa_, sb_, sc_, i64_w, i32_w]
               rfl
              refine take_ (i := 45) (N := some 90) (v := ?_) (a' := ?_) #[true,true,true,true,true,true,true,true,true,true,true,true,true,true,true,true,true,true,true,true,true,true,true,true,true,true,true,true,true,true,true,true,true,true,true,true,true,true,true,true,true,true,true,true,true,true,false,false,false,false,false,false,false] rfl rfl (qy_ HT_.out HW_.out (by kernel_rfl)) (fun _ _ _ h => h) (Or.inl ⟨by rfl, ?_⟩) hHeld ?_ ?_
              rotate_left
              ·rintro w' ⟨s0, s1, s2, s3, s4, s5, s6, s7, s8⟩
               go_simp
               with_reducible rfl
              rotate_left
              ·simp only [Act.put, sa_, sb_, sc_, i64_w, i32_w]
               rfl
              refine one_ (i := 46) (N := some 91) #[true,true,true,true,true,true,true,true,true,true,true,true,true,true,true,true,true,true,true,true,true,true,true,true,true,true,true,true,true,true,true,true,true,true,true,true,true,true,true,true,true,true,true,true,true,true,true,false,false,false,false,false,false] rfl rfl (one_of HT_.out (by kernel_rfl)) (by decide) (fun K hK => ?_)
              refine goes_ Try.func21 (by kernel_rfl) rfl #[.agg #[.int .i64 t109, .int .i64 t110, .slice Ao107 t111.length co107]] (by rfl) rfl rfl (by (try simp only [List.map_toArray, List.map_cons, List.map_nil]); first | done | rfl | (simp only [List.length_drop, List.length_take]; rfl)) ?_
              with_reducible refine (state_Right.calls kj5 t109 t110 _ _ t111 true _ ?side1 ?side2 A99.out).mono ?_
              (case side1 => repeat (first | exact (Kd.V_reads' HO113.out).2.2 | (with_reducible refine Kd.qu_ ?_ _) | (with_reducible refine Kd.qt_ ?_ _) | (with_reducible refine Kd.C_drew ?_)))
              (case side2 => exact (Kd.V_reads' HO113.out).2.1)
              rintro e w126 ⟨rfl, hb⟩
              refine ⟨_, rfl, ?_⟩
              have n0_ := Aside0.mk (Kd.qo_ (by (with_reducible repeat (first | apply Kd.qn_ | apply Kd.qm_ | apply Kd.V_drew)); exact HO_102002.out) hb)
              have n1_ := Aside0.mk (Kd.qo_ (by (with_reducible repeat (first | apply Kd.qn_ | apply Kd.qm_ | apply Kd.V_drew)); exact HO113.out) hb)
              have n2_ := Aside0.mk (Kd.qo_ (by (with_reducible repeat (first | apply Kd.qn_ | apply Kd.qm_ | apply Kd.V_drew)); exact HO120.out) hb)
              have n3_ := Aside0.mk (qk_ (g := gb101) (o := .cells #[.int .i64 a0_0, .int .i64 a0_1, .slice A0_2 l0_2.length c0_2] 24 (0, 0)) (by (with_reducible repeat (first | refine qe_ ?_ _ | refine qh_ ?_ | refine qd_ ?_ _)); exact BK101.out) hb)
              have n4_ := Aside0.mk (qk_ (g := gb115) (o := .cells #[.int .i64 t109, .int .i64 t110, .slice Ao107 t111.length co107] 24 (0, 0)) (by (with_reducible repeat (first | refine qe_ ?_ _ | refine qh_ ?_ | refine qd_ ?_ _)); exact BK115.out) hb)
              have n5_ := Aside0.mk (qk_ (g := gb122) (o := .cells #[.int .i64 t116, .int .i64 t117, .slice Ao115 t118.length co115] 24 (0, 0)) (by (with_reducible repeat (first | refine qe_ ?_ _ | refine qh_ ?_ | refine qd_ ?_ _)); exact BK122.out) hb)
              have n6_ := Aside0.mk (ql_ (by repeat (first | (with_reducible first | exact HB.out | apply qc_ | apply qa_ | apply qb_ | refine qf_ ?_ GE101.out | refine qf_ ?_ GE115.out | refine qf_ ?_ GE122.out) | exact HB.out)) hb)
              clear HO_102002
              clear HO113
              clear HO120
              clear BK101
              clear BK115
              clear BK122
              clear HB
              have HO_102002 := n0_
              have HO113 := n1_
              have HO120 := n2_
              have BK101 := n3_
              have BK115 := n4_
              have BK122 := n5_
              have HB := n6_
              clear n0_ n1_ n2_ n3_ n4_ n5_ n6_
              (try clear hb)
              (try clear hb2)
              (try clear hk)
              (try clear hi)
              refine hK.out _ _ ⟨(qg_ BK115.out 0).trans rfl, (qg_ BK115.out 1).trans rfl, (qg_ BK115.out 2).trans rfl, (qg_ BK101.out 0).trans rfl, (qg_ BK101.out 1).trans rfl, (qg_ BK101.out 2).trans rfl, (qg_ BK122.out 0).trans rfl, (qg_ BK122.out 1).trans rfl, (qg_ BK122.out 2).trans rfl⟩ (fun hHeld => ?_)
              clear hK K
              refine norm_ (a' := ?_) ?_ ?_
              rotate_left
              ·show Act.put _ (some 91) _ = _
               simp only [Act.put, sa_, sb_, sc_, i64_w, i32_w]
               rfl
              refine pure_ (i := 47) (N := some 92) (v := ?_) (a' := ?_) #[true,true,true,true,true,true,true,true,true,true,true,true,true,true,true,true,true,true,true,true,true,true,true,true,true,true,true,true,true,true,true,true,true,true,true,true,true,true,true,true,true,true,true,true,true,true,true,true,false,false,false,false,false] rfl rfl (any_of HT_.out (by kernel_rfl)) (fun _ _ _ h => h) (Or.inl ⟨by rfl, ?_⟩) ?_ ?_
              rotate_left
              ·intro w'
               go_simp
               with_reducible rfl
              rotate_left
              ·simp only [Act.put, sa_, sb_, sc_, i64_w, i32_w]
               rfl
              refine pure_ (i := 48) (N := some 93) (v := ?_) (a' := ?_) #[true,true,true,true,true,true,true,true,true,true,true,true,true,true,true,true,true,true,true,true,true,true,true,true,true,true,true,true,true,true,true,true,true,true,true,true,true,true,true,true,true,true,true,true,true,true,true,true,true,false,false,false,false] rfl rfl (any_of HT_.out (by kernel_rfl)) (fun _ _ _ h => h) (Or.inl ⟨by rfl, ?_⟩) ?_ ?_
              rotate_left
              ·intro w'
               go_simp
               with_reducible rfl
              rotate_left
              ·simp only [Act.put, sa_, sb_, sc_, i64_w, i32_w]
               rfl
              refine take_ (i := 49) (N := some 94) (v := ?_) (a' := ?_) #[true,true,true,true,true,true,true,true,true,true,true,true,true,true,true,true,true,true,true,true,true,true,true,true,true,true,true,true,true,true,true,true,true,true,true,true,true,true,true,true,true,true,true,true,true,true,true,true,true,true,false,false,false] rfl rfl (qy_ HT_.out HW_.out (by kernel_rfl)) (fun _ _ _ h => h) (Or.inl ⟨by rfl, ?_⟩) hHeld ?_ ?_
              rotate_left
              ·rintro w' ⟨s0, s1, s2, s3, s4, s5, s6, s7, s8⟩
               go_simp
               with_reducible rfl
              rotate_left
              ·simp only [Act.put, sa_, sb_, sc_, i64_w, i32_w]
               rfl
              refine one_ (i := 50) (N := some 95) #[true,true,true,true,true,true,true,true,true,true,true,true,true,true,true,true,true,true,true,true,true,true,true,true,true,true,true,true,true,true,true,true,true,true,true,true,true,true,true,true,true,true,true,true,true,true,true,true,true,true,true,false,false] rfl rfl (one_of HT_.out (by kernel_rfl)) (by decide) (fun K hK => ?_)
              refine goes_ Try.func21 (by kernel_rfl) rfl #[.agg #[.int .i64 t116, .int .i64 t117, .slice Ao115 t118.length co115]] (by rfl) rfl rfl (by (try simp only [List.map_toArray, List.map_cons, List.map_nil]); first | done | rfl | (simp only [List.length_drop, List.length_take]; rfl)) ?_
              with_reducible refine (state_Right.calls kj5 t116 t117 _ _ t118 t132 _ ?side1 ?side2 A101.out).mono ?_
              (case side1 => repeat (first | exact (Kd.V_reads' HO120.out).2.2 | (with_reducible refine Kd.qu_ ?_ _) | (with_reducible refine Kd.qt_ ?_ _) | (with_reducible refine Kd.C_drew ?_)))
              (case side2 => exact (Kd.V_reads' HO120.out).2.1)
              rintro e w127 ⟨rfl, hb⟩
              refine ⟨_, rfl, ?_⟩
              have n0_ := Aside0.mk (Kd.qo_ (by (with_reducible repeat (first | apply Kd.qn_ | apply Kd.qm_ | apply Kd.V_drew)); exact HO_102002.out) hb)
              have n1_ := Aside0.mk (Kd.qo_ (by (with_reducible repeat (first | apply Kd.qn_ | apply Kd.qm_ | apply Kd.V_drew)); exact HO113.out) hb)
              have n2_ := Aside0.mk (Kd.qo_ (by (with_reducible repeat (first | apply Kd.qn_ | apply Kd.qm_ | apply Kd.V_drew)); exact HO120.out) hb)
              have n3_ := Aside0.mk (qk_ (g := gb101) (o := .cells #[.int .i64 a0_0, .int .i64 a0_1, .slice A0_2 l0_2.length c0_2] 24 (0, 0)) (by (with_reducible repeat (first | refine qe_ ?_ _ | refine qh_ ?_ | refine qd_ ?_ _)); exact BK101.out) hb)
              have n4_ := Aside0.mk (qk_ (g := gb115) (o := .cells #[.int .i64 t109, .int .i64 t110, .slice Ao107 t111.length co107] 24 (0, 0)) (by (with_reducible repeat (first | refine qe_ ?_ _ | refine qh_ ?_ | refine qd_ ?_ _)); exact BK115.out) hb)
              have n5_ := Aside0.mk (qk_ (g := gb122) (o := .cells #[.int .i64 t116, .int .i64 t117, .slice Ao115 t118.length co115] 24 (0, 0)) (by (with_reducible repeat (first | refine qe_ ?_ _ | refine qh_ ?_ | refine qd_ ?_ _)); exact BK122.out) hb)
              have n6_ := Aside0.mk (ql_ (by repeat (first | (with_reducible first | exact HB.out | apply qc_ | apply qa_ | apply qb_ | refine qf_ ?_ GE101.out | refine qf_ ?_ GE115.out | refine qf_ ?_ GE122.out) | exact HB.out)) hb)
              clear HO_102002
              clear HO113
              clear HO120
              clear BK101
              clear BK115
              clear BK122
              clear HB
              have HO_102002 := n0_
              have HO113 := n1_
              have HO120 := n2_
              have BK101 := n3_
              have BK115 := n4_
              have BK122 := n5_
              have HB := n6_
              clear n0_ n1_ n2_ n3_ n4_ n5_ n6_
              (try clear hb)
              (try clear hb2)
              (try clear hk)
              (try clear hi)
              refine hK.out _ _ ⟨(qg_ BK115.out 0).trans rfl, (qg_ BK115.out 1).trans rfl, (qg_ BK115.out 2).trans rfl, (qg_ BK101.out 0).trans rfl, (qg_ BK101.out 1).trans rfl, (qg_ BK101.out 2).trans rfl, (qg_ BK122.out 0).trans rfl, (qg_ BK122.out 1).trans rfl, (qg_ BK122.out 2).trans rfl⟩ (fun hHeld => ?_)
              clear hK K
              refine norm_ (a' := ?_) ?_ ?_
              rotate_left
              ·show Act.put _ (some 95) _ = _
               simp only [Act.put, sa_, sb_, sc_, i64_w, i32_w]
               rfl
              refine pure_ (i := 51) (N := some 96) (v := ?_) (a' := ?_) #[true,true,true,true,true,true,true,true,true,true,true,true,true,true,true,true,true,true,true,true,true,true,true,true,true,true,true,true,true,true,true,true,true,true,true,true,true,true,true,true,true,true,true,true,true,true,true,true,true,true,true,true,false] rfl rfl (any_of HT_.out (by kernel_rfl)) (fun _ _ _ h => h) (Or.inl ⟨by rfl, ?_⟩) ?_ ?_
              rotate_left
              ·intro w'
               go_simp
               with_reducible rfl
              rotate_left
              ·simp only [Act.put, sa_, sb_, sc_, i64_w, i32_w]
               rfl
              refine pure_ (i := 52) (N := some 6) (v := ?_) (a' := ?_) #[true,true,true,true,true,true,true,true,true,true,true,true,true,true,true,true,true,true,true,true,true,true,true,true,true,true,true,true,true,true,true,true,true,true,true,true,true,true,true,true,true,true,true,true,true,true,true,true,true,true,true,true,true] rfl rfl (any_of HT_.out (by kernel_rfl)) (fun _ _ _ h => h) (Or.inl ⟨by rfl, ?_⟩) ?_ ?_
              rotate_left
              ·intro w'
               go_simp
               with_reducible rfl
              rotate_left
              ·simp only [Act.put, sa_, sb_, sc_, i64_w, i32_w]
               rfl
              refine done_ (done_of HT_.out (by kernel_rfl)) ?_
              try go_wp2
              go_ret
              exact ⟨by first | rfl | (simp [errW_none, errW_some] <;> rfl) | (simp [*, errW_none, errW_some] <;> rfl), by repeat (first | (with_reducible first | exact HB.out | apply qc_ | apply qa_ | apply qb_ | refine qf_ ?_ GE101.out | refine qf_ ?_ GE115.out | refine qf_ ?_ GE122.out) | exact HB.out)⟩
             ·rw [if_neg c100] at H
              exact absurd ((Option.some.inj H).trans HRT.out) (by decide)
            ·rw [if_neg c98] at H
             exact absurd ((Option.some.inj H).trans HRT.out) (by decide)
           ·rw [if_neg c95] at H
            exact absurd ((Option.some.inj H).trans HRT.out) (by decide)
        ·rw [if_neg c49] at H
         exact absurd ((Option.some.inj H).trans HRT.out) (by decide)
       ·rw [if_neg c47] at H
        exact absurd ((Option.some.inj H).trans HRT.out) (by decide)
      ·rw [if_neg c45] at H
       exact absurd ((Option.some.inj H).trans HRT.out) (by decide)
     ·rw [if_neg c44] at H
      exact absurd ((Option.some.inj H).trans HRT.out) (by decide)
 ·rw [if_neg c5] at H
  exact absurd ((Option.some.inj H).trans HRT.out) (by decide)
end Go.Proofs.Ytfoeahjbkmdgfaa.P

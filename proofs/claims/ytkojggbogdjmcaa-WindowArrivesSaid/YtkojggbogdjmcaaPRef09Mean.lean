/- What this function of the program comes to, and that the machine's call does it: written by a program (wip/tool). No condition. -/
import Derived.Test.YtkojggbogdjmcaaP0
import Derived.Test.YtkojggbogdjmcaaPRef09Add
import Derived.Test.YtkojggbogdjmcaaPRef09Below
import Derived.Test.YtkojggbogdjmcaaPRef09Mul
import Derived.Test.YtkojggbogdjmcaaHw
namespace Go.Proofs.Ytkojggbogdjmcaa.P
open Go.RowKit Go.Proofs.YtkojggbogdjmcaaW.PrintWords Go.Proofs.YtkojggbogdjmcaaW.PrintLast Go.Proofs.YtkojggbogdjmcaaW.PrintMore
attribute [local go_sem] max2_int min2_int max_two min_two max_three min_three max_four min_four   -- for this text's walks alone
set_option linter.unusedVariables false
set_option linter.unusedSimpArgs false
/-! ### ref09_Mean: function 24 -/
mutual
def ref09_Mean.l0 : Nat → List Int → Int → Int → Int → Option (Int)
 | 0, _, _, _, _ => none
 | k + 1, x0, x4, x102000, x102001 => if x4 < (x0.length : Int) then (if 0 ≤ x4 then ((ref09_Add.f x102000 x102001 0 (mn (mx (rd x0 x4) 0) 1125899906842624)).bind fun bt103 => (ref09_Mean.l0 k x0 (wrap64 (x4 + 1)) bt103.1 bt103.2)) else (none)) else (if (x0.length : Int) = 0 then (some 0) else (ref09_Mean.l1 k x0 0 50 x102000 x102001))
def ref09_Mean.l1 : Nat → List Int → Int → Int → Int → Int → Option (Int)
 | 0, _, _, _, _, _ => none
 | k + 1, x0, x5, x6, x102000, x102001 => if x6 ≥ 0 then (if 0 ≤ (IntKind.u64.wrap (x6)) then ((ref09_Mul.f k (x0.length : Int) (wrap64 (x5 + (shl .i64 1 (IntKind.u64.wrap (x6)))))).bind fun bt105 => ((ref09_Below.f x102000 x102001 bt105.1 bt105.2).bind fun t107 => (if t107 = true then (ref09_Mean.l1 k x0 x5 (wrap64 (x6 - 1)) x102000 x102001) else (ref09_Mean.l1 k x0 (wrap64 (x5 + (shl .i64 1 (IntKind.u64.wrap (x6))))) (wrap64 (x6 - 1)) x102000 x102001)))) else (none)) else (some x5)
end
def ref09_Mean.f (k : Nat) (l0 : List Int) : Option (Int) := ref09_Mean.l0 k l0 0 0 0
theorem ref09_Mean.mono_l : ∀ k, (∀ y0 y1 y2 y3, LeO (ref09_Mean.l0 k y0 y1 y2 y3) (ref09_Mean.l0 (k + 1) y0 y1 y2 y3)) ∧ (∀ y0 y1 y2 y3 y4, LeO (ref09_Mean.l1 k y0 y1 y2 y3 y4) (ref09_Mean.l1 (k + 1) y0 y1 y2 y3 y4))
 | 0 => ⟨fun _ _ _ _ r h => by simp [ref09_Mean.l0] at h, fun _ _ _ _ _ r h => by simp [ref09_Mean.l1] at h⟩
 | k + 1 => by
  obtain ⟨ih0, ih1⟩ := ref09_Mean.mono_l k
  refine ⟨?_, ?_⟩
  ·intro y0 y1 y2 y3
   unfold ref09_Mean.l0
   repeat' first
   | (with_reducible exact ih0 _ _ _ _)
   | (with_reducible exact ih1 _ _ _ _ _)
   | (with_reducible exact ref09_Mul.mono _ _ _)
   | (with_reducible exact LeO.refl _)
   | (with_reducible exact LeO.none _)
   | (with_reducible refine LeO.ite ?_ ?_)
   | (with_reducible refine LeO.bind ?_ (fun _ => ?_))
   | exact ih0 _ _ _ _
   | exact ih1 _ _ _ _ _
   | exact ref09_Mul.mono _ _ _
   | exact LeO.none _
   | refine LeO.ite ?_ ?_
   | refine LeO.bind ?_ (fun _ => ?_)
  ·intro y0 y1 y2 y3 y4
   unfold ref09_Mean.l1
   repeat' first
   | (with_reducible exact ih0 _ _ _ _)
   | (with_reducible exact ih1 _ _ _ _ _)
   | (with_reducible exact ref09_Mul.mono _ _ _)
   | (with_reducible exact LeO.refl _)
   | (with_reducible exact LeO.none _)
   | (with_reducible refine LeO.ite ?_ ?_)
   | (with_reducible refine LeO.bind ?_ (fun _ => ?_))
   | exact ih0 _ _ _ _
   | exact ih1 _ _ _ _ _
   | exact ref09_Mul.mono _ _ _
   | exact LeO.none _
   | refine LeO.ite ?_ ?_
   | refine LeO.bind ?_ (fun _ => ?_)
theorem ref09_Mean.mono : ∀ a0 k, LeO (ref09_Mean.f k a0) (ref09_Mean.f (k + 1) a0) := by
 intro a0 k
 obtain ⟨ih0, ih1⟩ := ref09_Mean.mono_l k
 unfold ref09_Mean.f
 repeat' first
   | (with_reducible exact ih0 _ _ _ _)
   | (with_reducible exact ih1 _ _ _ _ _)
   | (with_reducible exact ref09_Mul.mono _ _ _)
   | (with_reducible exact LeO.refl _)
   | (with_reducible exact LeO.none _)
   | (with_reducible refine LeO.ite ?_ ?_)
   | (with_reducible refine LeO.bind ?_ (fun _ => ?_))
   | exact ih0 _ _ _ _
   | exact ih1 _ _ _ _ _
   | exact ref09_Mul.mono _ _ _
   | exact LeO.none _
   | refine LeO.ite ?_ ?_
   | refine LeO.bind ?_ (fun _ => ?_)
def ref09_Mean.T5 : Bool × List (List Nat × List Nat) := (true, [([], []), ([], []), ([], []), ([1, 2], [1, 2]), ([3], [3]), ([4], [4]), ([5], [5]), ([6], [6]), ([7], [7]), ([0, 8], [0, 8]), ([9, 9, 0, 1, 2, 3, 4, 5, 6, 7, 8, 9], [9])])
def ref09_Mean.B5 : List Nat := [0, 0, 0, 6, 14, 30, 62, 126, 254, 511, 1023]
theorem ref09_Mean.tab5 : rtab .any (opsOf Try.f24 5) = ref09_Mean.T5 := by kernel_rfl
theorem ref09_Mean.bits5 : waitsOk ref09_Mean.T5.2 ref09_Mean.B5 = true := by kernel_rfl
set_option maxHeartbeats 8000000 in
set_option maxRecDepth 100000 in
theorem ref09_Mean.calls (k : Nat) (A0 : Option Addr) (c0 : Nat) (l0 : List Int) (r : Int) (w : World) (hr0 : Kd.C (Kd.int .i64) w A0 l0.length l0) (hc0 : l0.length ≤ c0) (h : ref09_Mean.f k l0 = some r) :
  Calls Try.prog 24 #[.slice A0 l0.length c0] w fun e w' => e = .returned (.int .i64 r) ∧ Below w.heap.size w w' := by
 have hu52 := Try.underlying52
 have HR0 := Aside0.mk hr0
 have HC0 := Aside0.mk hc0
 clear hr0 hc0
 have HB := Aside0.mk (Below.refl w.heap.size w)
 have H : (ref09_Mean.l0 k l0 0 0 0) = some r := h
 clear h
 have H' := Aside0.mk H
 clear H
 go_enter Try.func24, Try.ntmps24
 go_wp2_with (first | ((with_reducible refine gate_dst (N := 3) rfl ?_); refine qo_ ?hg (N := 3) ?hd (cs := #[.int .u64 0, .int .u64 0]) (t := 52) ?hr ?_; (case hd => rfl); (case hg => rfl); (case hr => first | (go_simp; done) | (go_simp; rfl)); intro gb101 hg w2 hbox hb; have n0_ := Aside0.mk (ql_ (by repeat (first | (with_reducible first | exact HB.out | apply qf_ | apply qa_ | apply qg_) | exact HB.out)) hb); have n1_ := Aside0.mk (hbox); have n2_ := Aside0.mk ((by rw [hg]; exact (qk_ (by repeat (first | (with_reducible first | exact HB.out | apply qf_ | apply qa_ | apply qg_) | exact HB.out))) : w.heap.size ≤ gb101)); have n3_ := Aside0.mk ((by rw [hg]; exact (qk_ (by repeat (first | (with_reducible first | exact HB.out | apply qf_ | apply qa_ | apply qg_) | exact HB.out))) : w.heap.size ≤ gb101)); clear HB; have HB := n0_; have BK101 := n1_; have GW101 := n2_; have GE101 := n3_; clear n0_ n1_ n2_ n3_; clear hb hbox hg; have hcz3_0 : w2.cell? ⟨gb101, 0, none⟩ = some (.int .u64 0) := (qh_ BK101.out 0).trans rfl; have hcz3_1 : w2.cell? ⟨gb101, 1, none⟩ = some (.int .u64 0) := (qh_ BK101.out 1).trans rfl; have hfz3_0 := qi_ BK101.out 0; have hfz3_1 := qi_ BK101.out 1))
 go_loopg [4] k (fun kq v4 w' => ∃ (x4_1 : Int) (x102000_1 : Int) (x102001_1 : Int), v4 = .int .i64 x4_1 ∧ Aside0 (ref09_Mean.l0 kq l0 x4_1 x102000_1 x102001_1 = some r) ∧ Aside0 (kq ≤ k) ∧ Aside0 (w'.heap[gb101]? = some (.cells #[.int .u64 x102000_1, .int .u64 x102001_1] 52 (0, 0))) ∧ Aside0 (Below w.heap.size w w'))
 case atStart => exact ⟨(0), (0), (0), (by first | rfl | (simp; done) | (simp [*]; done)), H', ⟨Nat.le_refl _⟩, ⟨by (with_reducible repeat (first | refine qc_ ?_ _ | refine qe_ ?_ | refine qd_ ?_ _)); refine blk_put (cs := #[.int .u64 0, .int .u64 0]) ?_ 1 _ rfl; (with_reducible repeat (first | refine qc_ ?_ _ | refine qe_ ?_ | refine qd_ ?_ _)); refine blk_put (cs := #[.int .u64 0, .int .u64 0]) ?_ 0 _ rfl; (with_reducible repeat (first | refine qc_ ?_ _ | refine qe_ ?_ | refine qd_ ?_ _)); exact BK101.out⟩, ⟨by repeat (first | (with_reducible first | exact HB.out | apply qf_ | apply qa_ | apply qg_ | refine qb_ ?_ GE101.out) | exact HB.out)⟩⟩
 case round =>
  clear H'
  try clear c2
  try clear p2
  try clear hcz3_0
  try clear hcz3_1
  try clear hfz3_0
  try clear hfz3_1
  obtain ⟨x4_1, x102000_1, x102001_1, rfl, HA, HK1, BK101, HB⟩ := hrel
  cases gk with
  | zero => exact absurd HA.out (by simp [ref09_Mean.l0])
  | succ k1 =>
   have H := HA.out
   clear HA
   simp only [ref09_Mean.l0] at H
   by_cases c4 : x4_1 < (l0.length : Int)
   ·rw [if_pos c4] at H
    have c4b0 : decide (x4_1 < (l0.length : Int)) = true := decide_eq_true c4
    clear c4
    by_cases c5 : 0 ≤ x4_1
    ·rw [if_pos c5] at H
     have c5b0 : decide (0 ≤ x4_1) = true := decide_eq_true c5
     clear c5
     obtain ⟨ji6, hji6⟩ : ∃ j_ : Int, (mx (rd l0 x4_1) 0) = j_ := ⟨_, rfl⟩
     replace H : ((ref09_Add.f x102000_1 x102001_1 0 (mn (ji6) 1125899906842624)).bind fun bt103 => (ref09_Mean.l0 k1 l0 (wrap64 (x4_1 + 1)) bt103.1 bt103.2)) = some r := by first | (rw [hji6] at H; exact H) | (simp only [hji6] at H ⊢; exact H)
     have hji6_ : (if (rd l0 x4_1) < 0 then 0 else (rd l0 x4_1)) = ji6 := hji6
     obtain ⟨ji7, hji7⟩ : ∃ j_ : Int, (mn (ji6) 1125899906842624) = j_ := ⟨_, rfl⟩
     replace H : ((ref09_Add.f x102000_1 x102001_1 0 (ji7)).bind fun bt103 => (ref09_Mean.l0 k1 l0 (wrap64 (x4_1 + 1)) bt103.1 bt103.2)) = some r := by first | (rw [hji7] at H; exact H) | (simp only [hji7] at H ⊢; exact H)
     have hji7_ : (if 1125899906842624 < (ji6) then 1125899906842624 else (ji6)) = ji7 := hji7
     replace H := ob_ H
     obtain ⟨⟨t103, t104⟩, A80, H⟩ := H
     replace H : (ref09_Mean.l0 k1 l0 (wrap64 (x4_1 + 1)) t103 t104) = some r := H
     have A8 := Aside0.mk A80
     clear A80
     have H' := Aside0.mk H
     clear H
     try go_wp2
     have n0_ := Aside0.mk (qe_ BK101.out)
     have n1_ := Aside0.mk (qg_ HB.out)
     clear BK101
     clear HB
     have BK101 := n0_
     have HB := n1_
     clear n0_ n1_
     have p102 : 0 ≤ (x4_1 : Int) := of_decide_eq_true (by first | (with_reducible assumption) | assumption)
     have q102 : x4_1 < (l0.length : Int) := of_decide_eq_true (by first | (with_reducible assumption) | assumption)
     obtain ⟨ad102, e102, hx102_0⟩ := Kd.at_int HR0.out x4_1 p102 q102
     have hw102_0 := hx102_0
     cases e102
     replace hx102_0 := (HB.out.cell (wb_ w _ hx102_0)).trans hx102_0
     replace p102 := eq_true p102
     replace q102 := eq_true q102
     refine start_ (n := 11) (S := fun w' => w'.cell? ⟨gb101, 0, none⟩ = some (.int .u64 x102000_1) ∧ w'.cell? ⟨gb101, 1, none⟩ = some (.int .u64 x102001_1) ∧ w'.cell? (ad102.add (x4_1).toNat) = some (.int .i64 (rd l0 x4_1))) (ds := [10]) #[false,false,false,false,false,false,false,false,false,false,false] (by kernel_rfl) rfl rfl ⟨(qh_ BK101.out 0).trans rfl, (qh_ BK101.out 1).trans rfl, ((HB.out.cell (wb_ w _ hw102_0)).trans hw102_0)⟩ (fun hHeld => ?_); refine with_tabW ref09_Mean.tab5 ref09_Mean.bits5 (fun HT_ HW_ => ?_)
     generalize wr.drew = w9 at BK101 HB hx102_0 hHeld ⊢
     refine pure_ (i := 1) (N := some 16) (v := ?_) (a' := ?_) #[false,true,false,false,false,false,false,false,false,false,false] rfl rfl (any_of HT_.out (by kernel_rfl)) (fun _ _ _ h => h) (Or.inl ⟨by rfl, ?_⟩) ?_ ?_
     rotate_left
     ·intro w'
      go_simp
      with_reducible rfl
     rotate_left
     ·simp only [Act.put, sa_, sb_, sc_, i64_w, i32_w]
      rfl
     refine pure_ (i := 2) (N := some 17) (v := ?_) (a' := ?_) #[false,true,true,false,false,false,false,false,false,false,false] rfl rfl (any_of HT_.out (by kernel_rfl)) (fun _ _ _ h => h) (Or.inl ⟨by rfl, ?_⟩) ?_ ?_
     rotate_left
     ·intro w'
      go_simp
      with_reducible rfl
     rotate_left
     ·simp only [Act.put, sa_, sb_, sc_, i64_w, i32_w]
      rfl
     refine pure_ (i := 3) (N := some 18) (v := ?_) (a' := ?_) #[false,true,true,true,false,false,false,false,false,false,false] rfl rfl (any_of HT_.out (by kernel_rfl)) (fun _ _ _ h => h) (Or.inl ⟨by rfl, ?_⟩) ?_ ?_
     rotate_left
     ·intro w'
      go_simp
      with_reducible rfl
     rotate_left
     ·simp only [Act.put, sa_, sb_, sc_, i64_w, i32_w]
      rfl
     refine take_ (i := 0) (N := some 15) (v := ?_) (a' := ?_) #[true,true,true,true,false,false,false,false,false,false,false] rfl rfl (take_ofW HT_.out HW_.out (by kernel_rfl)) (fun _ _ _ h => h) (Or.inl ⟨by rfl, ?_⟩) hHeld ?_ ?_
     rotate_left
     ·rintro w' ⟨s0, s1, s2⟩
      go_simp
      with_reducible rfl
     rotate_left
     ·simp only [Act.put, sa_, sb_, sc_, i64_w, i32_w]
      rfl
     refine take_ (i := 4) (N := some 19) (v := ?_) (a' := ?_) #[true,true,true,true,true,false,false,false,false,false,false] rfl rfl (take_ofW HT_.out HW_.out (by kernel_rfl)) (fun _ _ _ h => h) (Or.inl ⟨by rfl, ?_⟩) hHeld ?_ ?_
     rotate_left
     ·rintro w' ⟨s0, s1, s2⟩
      go_simp
      with_reducible rfl
     rotate_left
     ·simp only [Act.put, sa_, sb_, sc_, i64_w, i32_w]
      rfl
     refine pure_ (i := 5) (N := some 20) (v := ?_) (a' := ?_) #[true,true,true,true,true,true,false,false,false,false,false] rfl rfl (any_of HT_.out (by kernel_rfl)) (fun _ _ _ h => h) (Or.inl ⟨by rfl, ?_⟩) ?_ ?_
     rotate_left
     ·intro w'
      go_simp
      with_reducible rfl
     rotate_left
     ·simp only [Act.put, sa_, sb_, sc_, i64_w, i32_w]
      rfl
     refine pure_ (i := 6) (N := some 21) (v := ?_) (a' := ?_) #[true,true,true,true,true,true,true,false,false,false,false] rfl rfl (any_of HT_.out (by kernel_rfl)) (fun _ _ _ h => h) (Or.inl ⟨by rfl, ?_⟩) ?_ ?_
     rotate_left
     ·intro w'
      go_simp
      with_reducible rfl
     rotate_left
     ·simp only [Act.put, sa_, sb_, sc_, i64_w, i32_w]
      rfl
     refine pure_ (i := 7) (N := some 22) (v := ?_) (a' := ?_) #[true,true,true,true,true,true,true,true,false,false,false] rfl rfl (any_of HT_.out (by kernel_rfl)) (fun _ _ _ h => h) (Or.inl ⟨by rfl, ?_⟩) ?_ ?_
     rotate_left
     ·intro w'
      go_simp
      with_reducible rfl
     rotate_left
     ·simp only [Act.put, sa_, sb_, sc_, i64_w, i32_w]
      rfl
     refine pure_ (i := 8) (N := some 23) (v := ?_) (a' := ?_) #[true,true,true,true,true,true,true,true,true,false,false] rfl rfl (any_of HT_.out (by kernel_rfl)) (fun _ _ _ h => h) (Or.inl ⟨by rfl, ?_⟩) ?_ ?_
     rotate_left
     ·intro w'
      go_simp
      with_reducible rfl
     rotate_left
     ·simp only [Act.put, sa_, sb_, sc_, i64_w, i32_w]
      rfl
     refine one_ (i := 9) (N := some 24) #[true,true,true,true,true,true,true,true,true,true,false] rfl rfl (one_of HT_.out (by kernel_rfl)) (by decide) (fun K hK => ?_)
     refine goes_ Try.func29 (by kernel_rfl) rfl #[.agg #[.int .u64 x102000_1, .int .u64 x102001_1], .agg #[.int .u64 0, .int .u64 ji7]] (by rfl) rfl rfl (by (try simp only [List.map_toArray, List.map_cons, List.map_nil]); first | done | (rw [show IntKind.u64.wrap ji7 = ji7 by rw [← hji7, ← hji6, IntKind.wrap_u64]; unfold mn mx; (repeat' split) <;> omega]; rfl) | rfl | (simp only [List.length_drop, List.length_take]; rfl)) ?_
     with_reducible refine (ref09_Add.calls x102000_1 x102001_1 0 ji7 t103 t104 _ A8.out).mono ?_
     rintro e w10 ⟨rfl, hb⟩
     refine ⟨_, rfl, ?_⟩
     have n0_ := Aside0.mk (qj_ (g := gb101) (o := .cells #[.int .u64 x102000_1, .int .u64 x102001_1] 52 (0, 0)) (by (with_reducible repeat (first | refine qc_ ?_ _ | refine qe_ ?_ | refine qd_ ?_ _)); exact BK101.out) hb)
     have n1_ := Aside0.mk (ql_ (by repeat (first | (with_reducible first | exact HB.out | apply qf_ | apply qa_ | apply qg_ | refine qb_ ?_ GE101.out) | exact HB.out)) hb)
     clear BK101
     clear HB
     have BK101 := n0_
     have HB := n1_
     clear n0_ n1_
     (try clear hb)
     (try clear hb2)
     (try clear hk)
     (try clear hi)
     refine hK.out _ _ ⟨(qh_ BK101.out 0).trans rfl, (qh_ BK101.out 1).trans rfl, ((HB.out.cell (wb_ w _ hw102_0)).trans hw102_0)⟩ (fun hHeld => ?_)
     clear hK K
     refine norm_ (a' := ?_) ?_ ?_
     rotate_left
     ·show Act.put _ (some 24) _ = _
      simp only [Act.put, sa_, sb_, sc_, i64_w, i32_w]
      rfl
     refine last_ (i := 10) (N := none) #[true,true,true,true,true,true,true,true,true,true,true] rfl rfl (one_of HT_.out (by kernel_rfl)) (by decide) (fun K hK => ?_)
     have hs11 : w10.cell? ⟨gb101, 0, none⟩ = some (.int .u64 x102000_1) := (qh_ BK101.out 0).trans rfl
     have hfs11 := qi_ BK101.out 0
     have hs12 : w10.cell? ⟨gb101, 1, none⟩ = some (.int .u64 x102001_1) := (qh_ BK101.out 1).trans rfl
     have hfs12 := qi_ BK101.out 1
     refine skip_ (w1 := ?_) (by rfl) rfl ?_ ?_
     rotate_left
     ·go_simp
      rfl
     refine hK.out _ _ ?_
     clear hK K
     refine done_ (done_of HT_.out (by kernel_rfl)) ?_
     try go_wp2
     go_roundg k1
     case measure => have := HK1.out; omega
     case rel => exact ⟨(wrap64 (x4_1 + 1)), (t103), (t104), (by first | rfl | (simp; done) | (simp [*]; done)), H', ⟨by have := HK1.out; omega⟩, ⟨by (with_reducible repeat (first | refine qc_ ?_ _ | refine qe_ ?_ | refine qd_ ?_ _)); refine blk_put (cs := #[.int .u64 t103, .int .u64 x102001_1]) ?_ 1 _ rfl; (with_reducible repeat (first | refine qc_ ?_ _ | refine qe_ ?_ | refine qd_ ?_ _)); refine blk_put (cs := #[.int .u64 x102000_1, .int .u64 x102001_1]) ?_ 0 _ rfl; (with_reducible repeat (first | refine qc_ ?_ _ | refine qe_ ?_ | refine qd_ ?_ _)); exact BK101.out⟩, ⟨by repeat (first | (with_reducible first | exact HB.out | apply qf_ | apply qa_ | apply qg_ | refine qb_ ?_ GE101.out) | exact HB.out)⟩⟩
    ·rw [if_neg c5] at H
     exact absurd H (by simp)
   ·rw [if_neg c4] at H
    have c4b0 : decide (x4_1 < (l0.length : Int)) = false := decide_eq_false c4
    clear c4
    by_cases c13 : (l0.length : Int) = 0
    ·rw [if_pos c13] at H
     have c13b0 : ((l0.length : Int) == 0) = true := beq_iff_eq.mpr c13
     have c13b1 : ((l0.length : Int) != 0) = false := bne_eq_false_iff_eq.mpr c13
     clear c13
     obtain rfl := Option.some.inj H
     go_wp2
     go_ret
     exact ⟨by first | rfl | (simp [errW_none, errW_some] <;> rfl) | (simp [*, errW_none, errW_some] <;> rfl), by repeat (first | (with_reducible first | exact HB.out | apply qf_ | apply qa_ | apply qg_ | refine qb_ ?_ GE101.out) | exact HB.out)⟩
    ·rw [if_neg c13] at H
     have c13b0 : ((l0.length : Int) == 0) = false := beq_eq_false_iff_ne.mpr c13
     have c13b1 : ((l0.length : Int) != 0) = true := bne_iff_ne.mpr c13
     have c13b2 : ¬ (l0 = []) := fun h_ => c13 (by rw [h_]; rfl)
     have H' := Aside0.mk H
     clear H
     go_wp2
     go_loopg [5, 6] k1 (fun kq v5 v6 w' => ∃ (x5_2 : Int) (x6_2 : Int), v5 = .int .i64 x5_2 ∧ v6 = .int .i64 x6_2 ∧ Aside0 (ref09_Mean.l1 kq l0 x5_2 x6_2 x102000_1 x102001_1 = some r) ∧ Aside0 (kq ≤ k1) ∧ Aside0 (w'.heap[gb101]? = some (.cells #[.int .u64 x102000_1, .int .u64 x102001_1] 52 (0, 0))) ∧ Aside0 (Below w.heap.size w w'))
     case atStart => exact ⟨(0), (50), (by first | rfl | (simp; done) | (simp [*]; done)), (by first | rfl | (simp; done) | (simp [*]; done)), H', ⟨Nat.le_refl _⟩, ⟨by (with_reducible repeat (first | refine qc_ ?_ _ | refine qe_ ?_ | refine qd_ ?_ _)); exact BK101.out⟩, ⟨by repeat (first | (with_reducible first | exact HB.out | apply qf_ | apply qa_ | apply qg_ | refine qb_ ?_ GE101.out) | exact HB.out)⟩⟩
     case round =>
      clear H'
      try clear c1
      try clear p1
      try clear q1
      try clear hx1
      try clear c2
      try clear p2
      try clear c4
      try clear c4b0
      try clear c5
      try clear c5b0
      try clear p6
      try clear p10
      try clear q10
      try clear hx10
      try clear c13
      try clear c13b0
      try clear c13b1
      try clear c13b2
      try clear hcz3_0
      try clear hcz3_1
      try clear hfz3_0
      try clear hfz3_1
      try clear hx102_0
      try clear p102
      try clear p2
      try clear q102
      obtain ⟨x5_2, x6_2, rfl, rfl, HA, HK2, BK101, HB⟩ := hrel
      cases gk with
      | zero => exact absurd HA.out (by simp [ref09_Mean.l1])
      | succ k2 =>
       have H := HA.out
       clear HA
       simp only [ref09_Mean.l1] at H
       by_cases c14 : x6_2 ≥ 0
       ·rw [if_pos c14] at H
        have c14b0 : decide (0 ≤ x6_2) = true := decide_eq_true c14
        clear c14
        obtain ⟨ji15, hji15⟩ : ∃ j_ : Int, (IntKind.u64.wrap (x6_2)) = j_ := ⟨_, rfl⟩
        replace H : (if 0 ≤ (ji15) then ((ref09_Mul.f k2 (l0.length : Int) (wrap64 (x5_2 + (shl .i64 1 (ji15))))).bind fun bt105 => ((ref09_Below.f x102000_1 x102001_1 bt105.1 bt105.2).bind fun t107 => (if t107 = true then (ref09_Mean.l1 k2 l0 x5_2 (wrap64 (x6_2 - 1)) x102000_1 x102001_1) else (ref09_Mean.l1 k2 l0 (wrap64 (x5_2 + (shl .i64 1 (ji15)))) (wrap64 (x6_2 - 1)) x102000_1 x102001_1)))) else (none)) = some r := by first | (rw [hji15] at H; exact H) | (simp only [hji15] at H ⊢; exact H)
        by_cases c16 : 0 ≤ (ji15)
        ·rw [if_pos c16] at H
         have c16b0 := eq_true c16
         have c16b1 : decide (0 ≤ (ji15)) = true := decide_eq_true c16
         clear c16
         obtain ⟨ji17, hji17⟩ : ∃ j_ : Int, (shl .i64 1 (ji15)) = j_ := ⟨_, rfl⟩
         replace H : ((ref09_Mul.f k2 (l0.length : Int) (wrap64 (x5_2 + (ji17)))).bind fun bt105 => ((ref09_Below.f x102000_1 x102001_1 bt105.1 bt105.2).bind fun t107 => (if t107 = true then (ref09_Mean.l1 k2 l0 x5_2 (wrap64 (x6_2 - 1)) x102000_1 x102001_1) else (ref09_Mean.l1 k2 l0 (wrap64 (x5_2 + (ji17))) (wrap64 (x6_2 - 1)) x102000_1 x102001_1)))) = some r := by first | (rw [hji17] at H; exact H) | (simp only [hji17] at H ⊢; exact H)
         have hji17_ : (IntKind.i64.wrap (1 * 2 ^ min (ji15).toNat 64)) = ji17 := hji17
         have hji17z : (ji15) ≤ 64 → (IntKind.i64.wrap (1 * 2 ^ (ji15).toNat)) = ji17 := shl_small hji17
         have hji17u : (IntKind.i64.wrap (2 ^ min (ji15).toNat 64)) = ji17 := by have h_ := hji17_; rw [Int.one_mul] at h_; exact h_
         have hji17v : (ji15) ≤ 64 → (IntKind.i64.wrap (2 ^ (ji15).toNat)) = ji17 := fun hle_ => by have h_ := hji17z hle_; rw [Int.one_mul] at h_; exact h_
         have hji17y : (wrap64 (1 * 2 ^ min (ji15).toNat 64)) = ji17 := (i64_w _).symm.trans hji17_
         have hji17x : (ji15) ≤ 64 → (wrap64 (1 * 2 ^ (ji15).toNat)) = ji17 := fun h_ => (i64_w _).symm.trans (hji17z h_)
         replace H := ob_ H
         obtain ⟨⟨t105, t106⟩, A180, H⟩ := H
         replace H : ((ref09_Below.f x102000_1 x102001_1 t105 t106).bind fun t107 => (if t107 = true then (ref09_Mean.l1 k2 l0 x5_2 (wrap64 (x6_2 - 1)) x102000_1 x102001_1) else (ref09_Mean.l1 k2 l0 (wrap64 (x5_2 + (ji17))) (wrap64 (x6_2 - 1)) x102000_1 x102001_1))) = some r := H
         have A18 := Aside0.mk A180
         clear A180
         replace H := ob_ H
         obtain ⟨t107, A190, H⟩ := H
         replace H : (if t107 = true then (ref09_Mean.l1 k2 l0 x5_2 (wrap64 (x6_2 - 1)) x102000_1 x102001_1) else (ref09_Mean.l1 k2 l0 (wrap64 (x5_2 + (ji17))) (wrap64 (x6_2 - 1)) x102000_1 x102001_1)) = some r := H
         have A19 := Aside0.mk A190
         clear A190
         by_cases c20 : t107 = true
         ·subst c20
          have H1 : (ref09_Mean.l1 k2 l0 x5_2 (wrap64 (x6_2 - 1)) x102000_1 x102001_1) = some r := by rw [if_pos rfl] at H; exact H
          clear H
          have H := H1
          clear H1
          have H' := Aside0.mk H
          clear H
          try go_wp2
          have n0_ := Aside0.mk (qe_ BK101.out)
          have n1_ := Aside0.mk (qg_ HB.out)
          clear BK101
          clear HB
          have BK101 := n0_
          have HB := n1_
          clear n0_ n1_
          refine start_ (n := 7) (S := fun w' => w'.cell? ⟨gb101, 0, none⟩ = some (.int .u64 x102000_1) ∧ w'.cell? ⟨gb101, 1, none⟩ = some (.int .u64 x102001_1)) (ds := []) #[false,false,false,false,false,false,false] (by kernel_rfl) rfl rfl ⟨(qh_ BK101.out 0).trans rfl, (qh_ BK101.out 1).trans rfl⟩ (fun hHeld => ?_)
          generalize wr.drew = w21 at BK101 HB hHeld ⊢
          refine pure_ (i := 1) (N := some 38) (v := ?_) (a' := ?_) #[false,true,false,false,false,false,false] rfl rfl (by kernel_rfl) (fun _ _ _ h => h) (Or.inl ⟨by rfl, ?_⟩) ?_ ?_
          rotate_left
          ·intro w'
           go_simp
           with_reducible rfl
          rotate_left
          ·simp only [Act.put, sa_, sb_, sc_, i64_w, i32_w]
           rfl
          refine pure_ (i := 2) (N := some 39) (v := ?_) (a' := ?_) #[false,true,true,false,false,false,false] rfl rfl (by kernel_rfl) (fun _ _ _ h => h) (Or.inl ⟨by rfl, ?_⟩) ?_ ?_
          rotate_left
          ·intro w'
           go_simp
           with_reducible rfl
          rotate_left
          ·simp only [Act.put, sa_, sb_, sc_, i64_w, i32_w]
           rfl
          refine pure_ (i := 3) (N := some 40) (v := ?_) (a' := ?_) #[false,true,true,true,false,false,false] rfl rfl (by kernel_rfl) (fun _ _ _ h => h) (Or.inl ⟨by rfl, ?_⟩) ?_ ?_
          rotate_left
          ·intro w'
           go_simp
           with_reducible rfl
          rotate_left
          ·simp only [Act.put, sa_, sb_, sc_, i64_w, i32_w]
           rfl
          refine take_ (i := 0) (N := some 37) (v := ?_) (a' := ?_) #[true,true,true,true,false,false,false] rfl rfl (by kernel_rfl) (fun _ _ _ h => h) (Or.inl ⟨by rfl, ?_⟩) hHeld ?_ ?_
          rotate_left
          ·rintro w' ⟨s0, s1⟩
           go_simp
           with_reducible rfl
          rotate_left
          ·simp only [Act.put, sa_, sb_, sc_, i64_w, i32_w]
           rfl
          refine one_ (i := 4) (N := some 41) #[true,true,true,true,true,false,false] rfl rfl (by kernel_rfl) (by decide) (fun K hK => ?_)
          refine goes_ Try.func31 (by kernel_rfl) rfl #[.int .i64 (l0.length : Int), .int .i64 (wrap64 (x5_2 + (ji17)))] (by rfl) rfl rfl (by (try simp only [List.map_toArray, List.map_cons, List.map_nil]); first | done | (simp only [hji17]; rfl) | rfl | (simp only [List.length_drop, List.length_take]; rfl)) ?_
          with_reducible refine (ref09_Mul.calls k2 (l0.length : Int) (wrap64 (x5_2 + (ji17))) t105 t106 _ A18.out).mono ?_
          rintro e w22 ⟨rfl, hb⟩
          refine ⟨_, rfl, ?_⟩
          have n0_ := Aside0.mk (qj_ (g := gb101) (o := .cells #[.int .u64 x102000_1, .int .u64 x102001_1] 52 (0, 0)) (by (with_reducible repeat (first | refine qc_ ?_ _ | refine qe_ ?_ | refine qd_ ?_ _)); exact BK101.out) hb)
          have n1_ := Aside0.mk (ql_ (by repeat (first | (with_reducible first | exact HB.out | apply qf_ | apply qa_ | apply qg_ | refine qb_ ?_ GE101.out) | exact HB.out)) hb)
          clear BK101
          clear HB
          have BK101 := n0_
          have HB := n1_
          clear n0_ n1_
          (try clear hb)
          (try clear hb2)
          (try clear hk)
          (try clear hi)
          refine hK.out _ _ ⟨(qh_ BK101.out 0).trans rfl, (qh_ BK101.out 1).trans rfl⟩ (fun hHeld => ?_)
          clear hK K
          refine norm_ (a' := ?_) ?_ ?_
          rotate_left
          ·show Act.put _ (some 41) _ = _
           simp only [Act.put, sa_, sb_, sc_, i64_w, i32_w]
           rfl
          refine one_ (i := 5) (N := some 42) #[true,true,true,true,true,true,false] rfl rfl (by kernel_rfl) (by decide) (fun K hK => ?_)
          refine goes_ Try.func30 (by kernel_rfl) rfl #[.agg #[.int .u64 x102000_1, .int .u64 x102001_1], .agg #[.int .u64 t105, .int .u64 t106]] (by rfl) rfl rfl (by (try simp only [List.map_toArray, List.map_cons, List.map_nil]); first | done | rfl | (simp only [List.length_drop, List.length_take]; rfl)) ?_
          with_reducible refine (ref09_Below.calls x102000_1 x102001_1 t105 t106 true _ A19.out).mono ?_
          rintro e w23 ⟨rfl, hb⟩
          refine ⟨_, rfl, ?_⟩
          have n0_ := Aside0.mk (qj_ (g := gb101) (o := .cells #[.int .u64 x102000_1, .int .u64 x102001_1] 52 (0, 0)) (by (with_reducible repeat (first | refine qc_ ?_ _ | refine qe_ ?_ | refine qd_ ?_ _)); exact BK101.out) hb)
          have n1_ := Aside0.mk (ql_ (by repeat (first | (with_reducible first | exact HB.out | apply qf_ | apply qa_ | apply qg_ | refine qb_ ?_ GE101.out) | exact HB.out)) hb)
          clear BK101
          clear HB
          have BK101 := n0_
          have HB := n1_
          clear n0_ n1_
          (try clear hb)
          (try clear hb2)
          (try clear hk)
          (try clear hi)
          refine hK.out _ _ ⟨(qh_ BK101.out 0).trans rfl, (qh_ BK101.out 1).trans rfl⟩ (fun hHeld => ?_)
          clear hK K
          refine norm_ (a' := ?_) ?_ ?_
          rotate_left
          ·show Act.put _ (some 42) _ = _
           simp only [Act.put, sa_, sb_, sc_, i64_w, i32_w]
           rfl
          refine pure_ (i := 6) (N := some 43) (v := ?_) (a' := ?_) #[true,true,true,true,true,true,true] rfl rfl (by kernel_rfl) (fun _ _ _ h => h) (Or.inl ⟨by rfl, ?_⟩) ?_ ?_
          rotate_left
          ·intro w'
           go_simp
           with_reducible rfl
          rotate_left
          ·simp only [Act.put, sa_, sb_, sc_, i64_w, i32_w]
           rfl
          refine done_ (by kernel_rfl) ?_
          try go_wp2
          go_roundg k2
          case measure => have := HK1.out; have := HK2.out; omega
          case rel => exact ⟨(x5_2), (wrap64 (x6_2 - 1)), (by first | rfl | (simp; done) | (simp [*]; done)), (by first | rfl | (simp; done) | (simp [*]; done)), H', ⟨by have := HK1.out; have := HK2.out; omega⟩, ⟨by (with_reducible repeat (first | refine qc_ ?_ _ | refine qe_ ?_ | refine qd_ ?_ _)); exact BK101.out⟩, ⟨by repeat (first | (with_reducible first | exact HB.out | apply qf_ | apply qa_ | apply qg_ | refine qb_ ?_ GE101.out) | exact HB.out)⟩⟩
         ·replace c20 := Bool.eq_false_iff.mpr c20
          subst c20
          have H1 : (ref09_Mean.l1 k2 l0 (wrap64 (x5_2 + (ji17))) (wrap64 (x6_2 - 1)) x102000_1 x102001_1) = some r := by rw [if_neg (show ¬ (false = true) by decide)] at H; exact H
          clear H
          have H := H1
          clear H1
          have H' := Aside0.mk H
          clear H
          try go_wp2
          have n0_ := Aside0.mk (qe_ BK101.out)
          have n1_ := Aside0.mk (qg_ HB.out)
          clear BK101
          clear HB
          have BK101 := n0_
          have HB := n1_
          clear n0_ n1_
          refine start_ (n := 7) (S := fun w' => w'.cell? ⟨gb101, 0, none⟩ = some (.int .u64 x102000_1) ∧ w'.cell? ⟨gb101, 1, none⟩ = some (.int .u64 x102001_1)) (ds := []) #[false,false,false,false,false,false,false] (by kernel_rfl) rfl rfl ⟨(qh_ BK101.out 0).trans rfl, (qh_ BK101.out 1).trans rfl⟩ (fun hHeld => ?_)
          generalize wr.drew = w24 at BK101 HB hHeld ⊢
          refine pure_ (i := 1) (N := some 38) (v := ?_) (a' := ?_) #[false,true,false,false,false,false,false] rfl rfl (by kernel_rfl) (fun _ _ _ h => h) (Or.inl ⟨by rfl, ?_⟩) ?_ ?_
          rotate_left
          ·intro w'
           go_simp
           with_reducible rfl
          rotate_left
          ·simp only [Act.put, sa_, sb_, sc_, i64_w, i32_w]
           rfl
          refine pure_ (i := 2) (N := some 39) (v := ?_) (a' := ?_) #[false,true,true,false,false,false,false] rfl rfl (by kernel_rfl) (fun _ _ _ h => h) (Or.inl ⟨by rfl, ?_⟩) ?_ ?_
          rotate_left
          ·intro w'
           go_simp
           with_reducible rfl
          rotate_left
          ·simp only [Act.put, sa_, sb_, sc_, i64_w, i32_w]
           rfl
          refine pure_ (i := 3) (N := some 40) (v := ?_) (a' := ?_) #[false,true,true,true,false,false,false] rfl rfl (by kernel_rfl) (fun _ _ _ h => h) (Or.inl ⟨by rfl, ?_⟩) ?_ ?_
          rotate_left
          ·intro w'
           go_simp
           with_reducible rfl
          rotate_left
          ·simp only [Act.put, sa_, sb_, sc_, i64_w, i32_w]
           rfl
          refine take_ (i := 0) (N := some 37) (v := ?_) (a' := ?_) #[true,true,true,true,false,false,false] rfl rfl (by kernel_rfl) (fun _ _ _ h => h) (Or.inl ⟨by rfl, ?_⟩) hHeld ?_ ?_
          rotate_left
          ·rintro w' ⟨s0, s1⟩
           go_simp
           with_reducible rfl
          rotate_left
          ·simp only [Act.put, sa_, sb_, sc_, i64_w, i32_w]
           rfl
          refine one_ (i := 4) (N := some 41) #[true,true,true,true,true,false,false] rfl rfl (by kernel_rfl) (by decide) (fun K hK => ?_)
          refine goes_ Try.func31 (by kernel_rfl) rfl #[.int .i64 (l0.length : Int), .int .i64 (wrap64 (x5_2 + (ji17)))] (by rfl) rfl rfl (by (try simp only [List.map_toArray, List.map_cons, List.map_nil]); first | done | (simp only [hji17]; rfl) | rfl | (simp only [List.length_drop, List.length_take]; rfl)) ?_
          with_reducible refine (ref09_Mul.calls k2 (l0.length : Int) (wrap64 (x5_2 + (ji17))) t105 t106 _ A18.out).mono ?_
          rintro e w25 ⟨rfl, hb⟩
          refine ⟨_, rfl, ?_⟩
          have n0_ := Aside0.mk (qj_ (g := gb101) (o := .cells #[.int .u64 x102000_1, .int .u64 x102001_1] 52 (0, 0)) (by (with_reducible repeat (first | refine qc_ ?_ _ | refine qe_ ?_ | refine qd_ ?_ _)); exact BK101.out) hb)
          have n1_ := Aside0.mk (ql_ (by repeat (first | (with_reducible first | exact HB.out | apply qf_ | apply qa_ | apply qg_ | refine qb_ ?_ GE101.out) | exact HB.out)) hb)
          clear BK101
          clear HB
          have BK101 := n0_
          have HB := n1_
          clear n0_ n1_
          (try clear hb)
          (try clear hb2)
          (try clear hk)
          (try clear hi)
          refine hK.out _ _ ⟨(qh_ BK101.out 0).trans rfl, (qh_ BK101.out 1).trans rfl⟩ (fun hHeld => ?_)
          clear hK K
          refine norm_ (a' := ?_) ?_ ?_
          rotate_left
          ·show Act.put _ (some 41) _ = _
           simp only [Act.put, sa_, sb_, sc_, i64_w, i32_w]
           rfl
          refine one_ (i := 5) (N := some 42) #[true,true,true,true,true,true,false] rfl rfl (by kernel_rfl) (by decide) (fun K hK => ?_)
          refine goes_ Try.func30 (by kernel_rfl) rfl #[.agg #[.int .u64 x102000_1, .int .u64 x102001_1], .agg #[.int .u64 t105, .int .u64 t106]] (by rfl) rfl rfl (by (try simp only [List.map_toArray, List.map_cons, List.map_nil]); first | done | rfl | (simp only [List.length_drop, List.length_take]; rfl)) ?_
          with_reducible refine (ref09_Below.calls x102000_1 x102001_1 t105 t106 false _ A19.out).mono ?_
          rintro e w26 ⟨rfl, hb⟩
          refine ⟨_, rfl, ?_⟩
          have n0_ := Aside0.mk (qj_ (g := gb101) (o := .cells #[.int .u64 x102000_1, .int .u64 x102001_1] 52 (0, 0)) (by (with_reducible repeat (first | refine qc_ ?_ _ | refine qe_ ?_ | refine qd_ ?_ _)); exact BK101.out) hb)
          have n1_ := Aside0.mk (ql_ (by repeat (first | (with_reducible first | exact HB.out | apply qf_ | apply qa_ | apply qg_ | refine qb_ ?_ GE101.out) | exact HB.out)) hb)
          clear BK101
          clear HB
          have BK101 := n0_
          have HB := n1_
          clear n0_ n1_
          (try clear hb)
          (try clear hb2)
          (try clear hk)
          (try clear hi)
          refine hK.out _ _ ⟨(qh_ BK101.out 0).trans rfl, (qh_ BK101.out 1).trans rfl⟩ (fun hHeld => ?_)
          clear hK K
          refine norm_ (a' := ?_) ?_ ?_
          rotate_left
          ·show Act.put _ (some 42) _ = _
           simp only [Act.put, sa_, sb_, sc_, i64_w, i32_w]
           rfl
          refine pure_ (i := 6) (N := some 43) (v := ?_) (a' := ?_) #[true,true,true,true,true,true,true] rfl rfl (by kernel_rfl) (fun _ _ _ h => h) (Or.inl ⟨by rfl, ?_⟩) ?_ ?_
          rotate_left
          ·intro w'
           go_simp
           with_reducible rfl
          rotate_left
          ·simp only [Act.put, sa_, sb_, sc_, i64_w, i32_w]
           rfl
          refine done_ (by kernel_rfl) ?_
          try go_wp2
          go_roundg k2
          case measure => have := HK1.out; have := HK2.out; omega
          case rel => exact ⟨(wrap64 (x5_2 + (ji17))), (wrap64 (x6_2 - 1)), (by first | rfl | (simp; done) | (simp only [← hji17] <;> (first | rfl | simp)) | (simp [*]; done)), (by first | rfl | (simp; done) | (simp [*]; done)), H', ⟨by have := HK1.out; have := HK2.out; omega⟩, ⟨by (with_reducible repeat (first | refine qc_ ?_ _ | refine qe_ ?_ | refine qd_ ?_ _)); exact BK101.out⟩, ⟨by repeat (first | (with_reducible first | exact HB.out | apply qf_ | apply qa_ | apply qg_ | refine qb_ ?_ GE101.out) | exact HB.out)⟩⟩
        ·rw [if_neg c16] at H
         exact absurd H (by simp)
       ·rw [if_neg c14] at H
        have c14b0 : decide (0 ≤ x6_2) = false := decide_eq_false c14
        clear c14
        obtain rfl := Option.some.inj H
        go_wp2
        go_ret
        exact ⟨by first | rfl | (simp [errW_none, errW_some] <;> rfl) | (simp [*, errW_none, errW_some] <;> rfl), by repeat (first | (with_reducible first | exact HB.out | apply qf_ | apply qa_ | apply qg_ | refine qb_ ?_ GE101.out) | exact HB.out)⟩
end Go.Proofs.Ytkojggbogdjmcaa.P

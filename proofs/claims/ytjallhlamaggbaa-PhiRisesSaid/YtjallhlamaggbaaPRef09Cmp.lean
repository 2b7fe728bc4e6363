/- What this function of the program comes to, and that the machine's call does it: written by a program (wip/tool). No condition. -/
import Derived.Test.YtjallhlamaggbaaP0
import Derived.Test.YtjallhlamaggbaaPRef09Mul
import Derived.Test.YtjallhlamaggbaaPRef09Below
import Derived.Test.YtjallhlamaggbaaHw
namespace Go.Proofs.Ytjallhlamaggbaa.P
open Go.RowKit Go.Proofs.YtjallhlamaggbaaW.PrintWords Go.Proofs.YtjallhlamaggbaaW.PrintLast Go.Proofs.YtjallhlamaggbaaW.PrintMore
attribute [local go_sem] max2_int min2_int max_two min_two max_three min_three max_four min_four   -- for this text's walks alone
set_option linter.unusedVariables false
set_option linter.unusedSimpArgs false
/-! ### ref09_Cmp: function 12 -/
def ref09_Cmp.j0 : Nat → Int → Int → Int → Int → Bool → Option (Int)
 | 0, _, _, _, _, _ => none
 | k + 1, x0, x1, x2, x3, x24 => if x24 = true then (some 0) else ((ref09_Mul.f k x0 x3).bind fun bt101 => ((ref09_Mul.f k x2 x1).bind fun bt103 => ((ref09_Below.f bt101.1 bt101.2 bt103.1 bt103.2).bind fun t107 => (if t107 = true then (some (-1)) else ((ref09_Below.f bt103.1 bt103.2 bt101.1 bt101.2).bind fun t108 => (if t108 = true then (some 1) else (some 0)))))))
def ref09_Cmp.f (k : Nat) (a0 : Int) (a1 : Int) (a2 : Int) (a3 : Int) : Option (Int) := if a0 < 0 then (ref09_Cmp.j0 k a0 a1 a2 a3 true) else (if a2 < 0 then (ref09_Cmp.j0 k a0 a1 a2 a3 true) else (if a1 < 1 then (ref09_Cmp.j0 k a0 a1 a2 a3 true) else (ref09_Cmp.j0 k a0 a1 a2 a3 (decide (a3 < 1)))))
theorem ref09_Cmp.mono_l : ∀ k, (∀ y0 y1 y2 y3 y4, LeO (ref09_Cmp.j0 k y0 y1 y2 y3 y4) (ref09_Cmp.j0 (k + 1) y0 y1 y2 y3 y4))
 | 0 => fun _ _ _ _ _ r h => by simp [ref09_Cmp.j0] at h
 | k + 1 => by
  have ih0 := ref09_Cmp.mono_l k
  ·intro y0 y1 y2 y3 y4
   unfold ref09_Cmp.j0
   repeat' first
   | (with_reducible exact ih0 _ _ _ _ _)
   | (with_reducible exact ref09_Mul.mono _ _ _)
   | (with_reducible exact LeO.refl _)
   | (with_reducible exact LeO.none _)
   | (with_reducible refine LeO.ite ?_ ?_)
   | (with_reducible refine LeO.bind ?_ (fun _ => ?_))
   | exact ih0 _ _ _ _ _
   | exact ref09_Mul.mono _ _ _
   | exact LeO.none _
   | refine LeO.ite ?_ ?_
   | refine LeO.bind ?_ (fun _ => ?_)
theorem ref09_Cmp.mono : ∀ a0 a1 a2 a3 k, LeO (ref09_Cmp.f k a0 a1 a2 a3) (ref09_Cmp.f (k + 1) a0 a1 a2 a3) := by
 intro a0 a1 a2 a3 k
 have ih0 := ref09_Cmp.mono_l k
 unfold ref09_Cmp.f
 repeat' first
   | (with_reducible exact ih0 _ _ _ _ _)
   | (with_reducible exact ref09_Mul.mono _ _ _)
   | (with_reducible exact LeO.refl _)
   | (with_reducible exact LeO.none _)
   | (with_reducible refine LeO.ite ?_ ?_)
   | (with_reducible refine LeO.bind ?_ (fun _ => ?_))
   | exact ih0 _ _ _ _ _
   | exact ref09_Mul.mono _ _ _
   | exact LeO.none _
   | refine LeO.ite ?_ ?_
   | refine LeO.bind ?_ (fun _ => ?_)
set_option maxHeartbeats 8000000 in
set_option maxRecDepth 100000 in
theorem ref09_Cmp.calls (k : Nat) (a0 : Int) (a1 : Int) (a2 : Int) (a3 : Int) (r : Int) (w : World) (h : ref09_Cmp.f k a0 a1 a2 a3 = some r) :
  Calls Try.prog 12 #[.int .i64 a0, .int .i64 a1, .int .i64 a2, .int .i64 a3] w fun e w' => e = .returned (.int .i64 r) ∧ Below w.heap.size w w' := by
 have hu52 := Try.underlying52
 have HB := Aside0.mk (Below.refl w.heap.size w)
 have H : (if a0 < 0 then (ref09_Cmp.j0 k a0 a1 a2 a3 true) else (if a2 < 0 then (ref09_Cmp.j0 k a0 a1 a2 a3 true) else (if a1 < 1 then (ref09_Cmp.j0 k a0 a1 a2 a3 true) else (ref09_Cmp.j0 k a0 a1 a2 a3 (decide (a3 < 1)))))) = some r := h
 clear h
 have HC5 := Aside0.mk H
 clear H
 go_enter Try.func12, Try.ntmps12
 go_upto_region 1 with (fail)
 go_cut [24] (fun v24 wc => ∃ (kq : Nat) (x24_4 : Bool), v24 = .bool x24_4 ∧ Aside0 (ref09_Cmp.j0 kq a0 a1 a2 a3 x24_4 = some r) ∧ Aside0 (kq ≤ k) ∧ Aside0 (Below w.heap.size w wc))
 case first =>
  have H := HC5.out
  clear HC5
  by_cases c6 : a0 < 0
  ·rw [if_pos c6] at H
   have c6b0 : decide (a0 < 0) = true := decide_eq_true c6
   clear c6
   (first | rw [c6b0] | (simp only [i64_w, i32_w]; rw [c6b0]) | skip)
   have H' := Aside0.mk H
   clear H
   go_wp2
   go_meet
   case rel => exact ⟨_, (true), (by first | rfl | (simp; done) | (simp [*]; done)), H', ⟨by first | omega | exact Nat.le_refl _⟩, ⟨by repeat (first | (with_reducible first | exact HB.out | apply qc_ | apply qa_ | apply qb_) | exact HB.out)⟩⟩
  ·rw [if_neg c6] at H
   have c6b0 : decide (a0 < 0) = false := decide_eq_false c6
   clear c6
   (first | rw [c6b0] | (simp only [i64_w, i32_w]; rw [c6b0]) | skip)
   by_cases c7 : a2 < 0
   ·rw [if_pos c7] at H
    have c7b0 : decide (a2 < 0) = true := decide_eq_true c7
    clear c7
    have H' := Aside0.mk H
    clear H
    go_wp2
    go_meet
    case rel => exact ⟨_, (true), (by first | rfl | (simp; done) | (simp [*]; done)), H', ⟨by first | omega | exact Nat.le_refl _⟩, ⟨by repeat (first | (with_reducible first | exact HB.out | apply qc_ | apply qa_ | apply qb_) | exact HB.out)⟩⟩
   ·rw [if_neg c7] at H
    have c7b0 : decide (a2 < 0) = false := decide_eq_false c7
    clear c7
    by_cases c8 : a1 < 1
    ·rw [if_pos c8] at H
     have c8b0 : decide (a1 < 1) = true := decide_eq_true c8
     clear c8
     have H' := Aside0.mk H
     clear H
     go_wp2
     go_meet
     case rel => exact ⟨_, (true), (by first | rfl | (simp; done) | (simp [*]; done)), H', ⟨by first | omega | exact Nat.le_refl _⟩, ⟨by repeat (first | (with_reducible first | exact HB.out | apply qc_ | apply qa_ | apply qb_) | exact HB.out)⟩⟩
    ·rw [if_neg c8] at H
     have c8b0 : decide (a1 < 1) = false := decide_eq_false c8
     clear c8
     have H' := Aside0.mk H
     clear H
     go_wp2
     go_meet
     case rel => exact ⟨_, (decide (a3 < 1)), (by first | rfl | (simp; done) | (simp [*]; done)), H', ⟨by first | omega | exact Nat.le_refl _⟩, ⟨by repeat (first | (with_reducible first | exact HB.out | apply qc_ | apply qa_ | apply qb_) | exact HB.out)⟩⟩
 case rest =>
  clear HC5
  try clear c1
  try clear p2
  try clear c6
  try clear c6b0
  try clear c7
  try clear c7b0
  try clear c8
  try clear c8b0
  obtain ⟨kq, x24_4, rfl, HA, HJ4, HB⟩ := hcut
  cases kq with
  | zero => exact absurd HA.out (by simp [ref09_Cmp.j0])
  | succ kj4 =>
   have H := HA.out
   clear HA
   simp only [ref09_Cmp.j0] at H
   by_cases c9 : x24_4 = true
   ·subst c9
    have H1 : (some 0) = some r := by rw [if_pos rfl] at H; exact H
    clear H
    have H := H1
    clear H1
    obtain rfl := Option.some.inj H
    go_wp2
    go_ret
    exact ⟨by first | rfl | (simp [errW_none, errW_some] <;> rfl) | (simp [*, errW_none, errW_some] <;> rfl), by repeat (first | (with_reducible first | exact HB.out | apply qc_ | apply qa_ | apply qb_) | exact HB.out)⟩
   ·replace c9 := Bool.eq_false_iff.mpr c9
    subst c9
    have H1 : ((ref09_Mul.f kj4 a0 a3).bind fun bt101 => ((ref09_Mul.f kj4 a2 a1).bind fun bt103 => ((ref09_Below.f bt101.1 bt101.2 bt103.1 bt103.2).bind fun t107 => (if t107 = true then (some (-1)) else ((ref09_Below.f bt103.1 bt103.2 bt101.1 bt101.2).bind fun t108 => (if t108 = true then (some 1) else (some 0))))))) = some r := by rw [if_neg (show ¬ (false = true) by decide)] at H; exact H
    clear H
    have H := H1
    clear H1
    replace H := ob_ H
    obtain ⟨⟨t101, t102⟩, A100, H⟩ := H
    replace H : ((ref09_Mul.f kj4 a2 a1).bind fun bt103 => ((ref09_Below.f t101 t102 bt103.1 bt103.2).bind fun t107 => (if t107 = true then (some (-1)) else ((ref09_Below.f bt103.1 bt103.2 t101 t102).bind fun t108 => (if t108 = true then (some 1) else (some 0)))))) = some r := H
    have A10 := Aside0.mk A100
    clear A100
    replace H := ob_ H
    obtain ⟨⟨t103, t104⟩, A110, H⟩ := H
    replace H : ((ref09_Below.f t101 t102 t103 t104).bind fun t107 => (if t107 = true then (some (-1)) else ((ref09_Below.f t103 t104 t101 t102).bind fun t108 => (if t108 = true then (some 1) else (some 0))))) = some r := H
    have A11 := Aside0.mk A110
    clear A110
    replace H := ob_ H
    obtain ⟨t107, A120, H⟩ := H
    replace H : (if t107 = true then (some (-1)) else ((ref09_Below.f t103 t104 t101 t102).bind fun t108 => (if t108 = true then (some 1) else (some 0)))) = some r := H
    have A12 := Aside0.mk A120
    clear A120
    by_cases c13 : t107 = true
    ·subst c13
     have H1 : (some (-1)) = some r := by rw [if_pos rfl] at H; exact H
     clear H
     have H := H1
     clear H1
     obtain rfl := Option.some.inj H
     go_wp2_with (first | ((with_reducible refine qm_ (f := 22) rfl ?_); refine goesL_ (some 27) rfl rfl Try.func22 (by kernel_rfl) rfl #[.int .i64 a0, .int .i64 a3] rfl (by (try simp only [List.map_toArray, List.map_cons, List.map_nil]); first | done | rfl | (simp only [List.length_drop, List.length_take]; rfl)) ?_; (with_reducible refine (ref09_Mul.calls kj4 a0 a3 t101 t102 _ A10.out).mono ?_); rintro e w14 ⟨rfl, hb⟩; refine ⟨_, rfl, ?_⟩; have n0_ := Aside0.mk (qj_ (by repeat (first | (with_reducible first | exact HB.out | apply qc_ | apply qa_ | apply qb_) | exact HB.out)) hb); clear HB; have HB := n0_; clear n0_; (try clear hb); (try clear hb2); (try clear hk); (try clear hi)) | ((with_reducible refine qm_ (f := 22) rfl ?_); refine goesL_ (some 30) rfl rfl Try.func22 (by kernel_rfl) rfl #[.int .i64 a2, .int .i64 a1] rfl (by (try simp only [List.map_toArray, List.map_cons, List.map_nil]); first | done | rfl | (simp only [List.length_drop, List.length_take]; rfl)) ?_; (with_reducible refine (ref09_Mul.calls kj4 a2 a1 t103 t104 _ A11.out).mono ?_); rintro e w15 ⟨rfl, hb⟩; refine ⟨_, rfl, ?_⟩; have n0_ := Aside0.mk (qj_ (by repeat (first | (with_reducible first | exact HB.out | apply qc_ | apply qa_ | apply qb_) | exact HB.out)) hb); clear HB; have HB := n0_; clear n0_; (try clear hb); (try clear hb2); (try clear hk); (try clear hi)) | ((with_reducible refine qo_ (N := 9) rfl ?_); refine qn_ ?hg (N := 9) ?hd (cs := #[.int .u64 0, .int .u64 0]) (t := 52) ?hr ?_; (case hd => rfl); (case hg => rfl); (case hr => first | (go_simp; done) | (go_simp; rfl)); intro gb105 hg w16 hbox hb; have n0_ := Aside0.mk (qj_ (by repeat (first | (with_reducible first | exact HB.out | apply qc_ | apply qa_ | apply qb_) | exact HB.out)) hb); have n1_ := Aside0.mk (hbox); have n2_ := Aside0.mk ((by rw [hg]; exact (ql_ (by repeat (first | (with_reducible first | exact HB.out | apply qc_ | apply qa_ | apply qb_) | exact HB.out))) : w.heap.size ≤ gb105)); have n3_ := Aside0.mk ((by rw [hg]; exact (ql_ (by repeat (first | (with_reducible first | exact HB.out | apply qc_ | apply qa_ | apply qb_) | exact HB.out))) : w.heap.size ≤ gb105)); clear HB; have HB := n0_; have BK105 := n1_; have GW105 := n2_; have GE105 := n3_; clear n0_ n1_ n2_ n3_; clear hb hbox hg) | ((with_reducible refine qo_ (N := 10) rfl ?_); refine qn_ ?hg (N := 10) ?hd (cs := #[.int .u64 0, .int .u64 0]) (t := 52) ?hr ?_; (case hd => rfl); (case hg => rfl); (case hr => first | (go_simp; done) | (go_simp; rfl)); intro gb106 hg w17 hbox hb; have n0_ := Aside0.mk (qk_ (g := gb105) (o := .cells #[.int .u64 0, .int .u64 0] 52 (0, 0)) (by (with_reducible repeat (first | refine qe_ ?_ _ | refine qg_ ?_ | refine qf_ ?_ _)); exact BK105.out) hb); have n1_ := Aside0.mk (qj_ (by repeat (first | (with_reducible first | exact HB.out | apply qc_ | apply qa_ | apply qb_ | refine qd_ ?_ GE105.out) | exact HB.out)) hb); have n2_ := Aside0.mk (hbox); have n3_ := Aside0.mk ((by rw [hg]; exact (ql_ (by repeat (first | (with_reducible first | exact HB.out | apply qc_ | apply qa_ | apply qb_ | refine qd_ ?_ GE105.out) | exact HB.out))) : w.heap.size ≤ gb106)); have n4_ := Aside0.mk ((by rw [hg]; exact (ql_ (by repeat (first | (with_reducible first | exact HB.out | apply qc_ | apply qa_ | apply qb_ | refine qd_ ?_ GE105.out) | exact HB.out))) : w.heap.size ≤ gb106)); have n5_ := Aside0.mk ((by rw [hg]; exact Nat.ne_of_lt (blk_lt (g := gb105) (o := .cells #[.int .u64 0, .int .u64 0] 52 (0, 0)) (by (with_reducible repeat (first | refine qe_ ?_ _ | refine qg_ ?_ | refine qf_ ?_ _)); exact BK105.out)) : gb105 ≠ gb106)); have n6_ := Aside0.mk ((by rw [hg]; exact Nat.ne_of_gt (blk_lt (g := gb105) (o := .cells #[.int .u64 0, .int .u64 0] 52 (0, 0)) (by (with_reducible repeat (first | refine qe_ ?_ _ | refine qg_ ?_ | refine qf_ ?_ _)); exact BK105.out)) : gb106 ≠ gb105)); clear BK105; clear HB; have BK105 := n0_; have HB := n1_; have BK106 := n2_; have GW106 := n3_; have GE106 := n4_; have NB105_106 := n5_; have NB106_105 := n6_; clear n0_ n1_ n2_ n3_ n4_ n5_ n6_; clear hb hbox hg; have hnb18 := NB105_106.out; have hnc18 := NB106_105.out; have hcz19_0 : w17.cell? ⟨gb105, 0, none⟩ = some (.int .u64 0) := (qi_ BK105.out 0).trans rfl; have hcz19_1 : w17.cell? ⟨gb105, 1, none⟩ = some (.int .u64 0) := (qi_ BK105.out 1).trans rfl; have hfz19_0 := qh_ BK105.out 0; have hfz19_1 := qh_ BK105.out 1; have hcz20_0 : w17.cell? ⟨gb106, 0, none⟩ = some (.int .u64 0) := (qi_ BK106.out 0).trans rfl; have hcz20_1 : w17.cell? ⟨gb106, 1, none⟩ = some (.int .u64 0) := (qi_ BK106.out 1).trans rfl; have hfz20_0 := qh_ BK106.out 0; have hfz20_1 := qh_ BK106.out 1) | ((with_reducible refine qm_ (f := 23) rfl ?_); refine goesL_ (some 34) rfl rfl Try.func23 (by kernel_rfl) rfl #[.agg #[.int .u64 t101, .int .u64 t102], .agg #[.int .u64 t103, .int .u64 t104]] rfl (by (try simp only [List.map_toArray, List.map_cons, List.map_nil]); first | done | rfl | (simp only [List.length_drop, List.length_take]; rfl)) ?_; (with_reducible refine (ref09_Below.calls t101 t102 t103 t104 true _ A12.out).mono ?_); rintro e w21 ⟨rfl, hb⟩; refine ⟨_, rfl, ?_⟩; have n0_ := Aside0.mk (qk_ (g := gb105) (o := .cells #[.int .u64 t101, .int .u64 t102] 52 (0, 0)) (by (with_reducible repeat (first | refine qe_ ?_ _ | refine qg_ ?_ | refine qf_ ?_ _)); refine qs_ ?_ NB105_106.out _; (with_reducible repeat (first | refine qe_ ?_ _ | refine qg_ ?_ | refine qf_ ?_ _)); refine qs_ ?_ NB105_106.out _; (with_reducible repeat (first | refine qe_ ?_ _ | refine qg_ ?_ | refine qf_ ?_ _)); refine qr_ (cs := #[.int .u64 t101, .int .u64 0]) ?_ 1 _ rfl; (with_reducible repeat (first | refine qe_ ?_ _ | refine qg_ ?_ | refine qf_ ?_ _)); refine qr_ (cs := #[.int .u64 0, .int .u64 0]) ?_ 0 _ rfl; (with_reducible repeat (first | refine qe_ ?_ _ | refine qg_ ?_ | refine qf_ ?_ _)); exact BK105.out) hb); have n1_ := Aside0.mk (qk_ (g := gb106) (o := .cells #[.int .u64 t103, .int .u64 t104] 52 (0, 0)) (by (with_reducible repeat (first | refine qe_ ?_ _ | refine qg_ ?_ | refine qf_ ?_ _)); refine qr_ (cs := #[.int .u64 t103, .int .u64 0]) ?_ 1 _ rfl; (with_reducible repeat (first | refine qe_ ?_ _ | refine qg_ ?_ | refine qf_ ?_ _)); refine qr_ (cs := #[.int .u64 0, .int .u64 0]) ?_ 0 _ rfl; (with_reducible repeat (first | refine qe_ ?_ _ | refine qg_ ?_ | refine qf_ ?_ _)); refine qs_ ?_ NB106_105.out _; (with_reducible repeat (first | refine qe_ ?_ _ | refine qg_ ?_ | refine qf_ ?_ _)); refine qs_ ?_ NB106_105.out _; (with_reducible repeat (first | refine qe_ ?_ _ | refine qg_ ?_ | refine qf_ ?_ _)); exact BK106.out) hb); have n2_ := Aside0.mk (qj_ (by repeat (first | (with_reducible first | exact HB.out | apply qc_ | apply qa_ | apply qb_ | refine qd_ ?_ GE105.out | refine qd_ ?_ GE106.out) | exact HB.out)) hb); clear BK105; clear BK106; clear HB; have BK105 := n0_; have BK106 := n1_; have HB := n2_; clear n0_ n1_ n2_; (try clear hb); (try clear hb2); (try clear hk); (try clear hi)))
     go_ret
     exact ⟨by first | rfl | (simp [errW_none, errW_some] <;> rfl) | (simp [*, errW_none, errW_some] <;> rfl), by repeat (first | (with_reducible first | exact HB.out | apply qc_ | apply qa_ | apply qb_ | refine qd_ ?_ GE105.out | refine qd_ ?_ GE106.out) | exact HB.out)⟩
    ·replace c13 := Bool.eq_false_iff.mpr c13
     subst c13
     have H1 : ((ref09_Below.f t103 t104 t101 t102).bind fun t108 => (if t108 = true then (some 1) else (some 0))) = some r := by rw [if_neg (show ¬ (false = true) by decide)] at H; exact H
     clear H
     have H := H1
     clear H1
     replace H := ob_ H
     obtain ⟨t108, A220, H⟩ := H
     replace H : (if t108 = true then (some 1) else (some 0)) = some r := H
     have A22 := Aside0.mk A220
     clear A220
     by_cases c23 : t108 = true
     ·subst c23
      have H1 : (some 1) = some r := by rw [if_pos rfl] at H; exact H
      clear H
      have H := H1
      clear H1
      obtain rfl := Option.some.inj H
      go_wp2_with (first | ((with_reducible refine qm_ (f := 22) rfl ?_); refine goesL_ (some 27) rfl rfl Try.func22 (by kernel_rfl) rfl #[.int .i64 a0, .int .i64 a3] rfl (by (try simp only [List.map_toArray, List.map_cons, List.map_nil]); first | done | rfl | (simp only [List.length_drop, List.length_take]; rfl)) ?_; (with_reducible refine (ref09_Mul.calls kj4 a0 a3 t101 t102 _ A10.out).mono ?_); rintro e w24 ⟨rfl, hb⟩; refine ⟨_, rfl, ?_⟩; have n0_ := Aside0.mk (qj_ (by repeat (first | (with_reducible first | exact HB.out | apply qc_ | apply qa_ | apply qb_) | exact HB.out)) hb); clear HB; have HB := n0_; clear n0_; (try clear hb); (try clear hb2); (try clear hk); (try clear hi)) | ((with_reducible refine qm_ (f := 22) rfl ?_); refine goesL_ (some 30) rfl rfl Try.func22 (by kernel_rfl) rfl #[.int .i64 a2, .int .i64 a1] rfl (by (try simp only [List.map_toArray, List.map_cons, List.map_nil]); first | done | rfl | (simp only [List.length_drop, List.length_take]; rfl)) ?_; (with_reducible refine (ref09_Mul.calls kj4 a2 a1 t103 t104 _ A11.out).mono ?_); rintro e w25 ⟨rfl, hb⟩; refine ⟨_, rfl, ?_⟩; have n0_ := Aside0.mk (qj_ (by repeat (first | (with_reducible first | exact HB.out | apply qc_ | apply qa_ | apply qb_) | exact HB.out)) hb); clear HB; have HB := n0_; clear n0_; (try clear hb); (try clear hb2); (try clear hk); (try clear hi)) | ((with_reducible refine qo_ (N := 9) rfl ?_); refine qn_ ?hg (N := 9) ?hd (cs := #[.int .u64 0, .int .u64 0]) (t := 52) ?hr ?_; (case hd => rfl); (case hg => rfl); (case hr => first | (go_simp; done) | (go_simp; rfl)); intro gb105 hg w26 hbox hb; have n0_ := Aside0.mk (qj_ (by repeat (first | (with_reducible first | exact HB.out | apply qc_ | apply qa_ | apply qb_) | exact HB.out)) hb); have n1_ := Aside0.mk (hbox); have n2_ := Aside0.mk ((by rw [hg]; exact (ql_ (by repeat (first | (with_reducible first | exact HB.out | apply qc_ | apply qa_ | apply qb_) | exact HB.out))) : w.heap.size ≤ gb105)); have n3_ := Aside0.mk ((by rw [hg]; exact (ql_ (by repeat (first | (with_reducible first | exact HB.out | apply qc_ | apply qa_ | apply qb_) | exact HB.out))) : w.heap.size ≤ gb105)); clear HB; have HB := n0_; have BK105 := n1_; have GW105 := n2_; have GE105 := n3_; clear n0_ n1_ n2_ n3_; clear hb hbox hg) | ((with_reducible refine qo_ (N := 10) rfl ?_); refine qn_ ?hg (N := 10) ?hd (cs := #[.int .u64 0, .int .u64 0]) (t := 52) ?hr ?_; (case hd => rfl); (case hg => rfl); (case hr => first | (go_simp; done) | (go_simp; rfl)); intro gb106 hg w27 hbox hb; have n0_ := Aside0.mk (qk_ (g := gb105) (o := .cells #[.int .u64 0, .int .u64 0] 52 (0, 0)) (by (with_reducible repeat (first | refine qe_ ?_ _ | refine qg_ ?_ | refine qf_ ?_ _)); exact BK105.out) hb); have n1_ := Aside0.mk (qj_ (by repeat (first | (with_reducible first | exact HB.out | apply qc_ | apply qa_ | apply qb_ | refine qd_ ?_ GE105.out) | exact HB.out)) hb); have n2_ := Aside0.mk (hbox); have n3_ := Aside0.mk ((by rw [hg]; exact (ql_ (by repeat (first | (with_reducible first | exact HB.out | apply qc_ | apply qa_ | apply qb_ | refine qd_ ?_ GE105.out) | exact HB.out))) : w.heap.size ≤ gb106)); have n4_ := Aside0.mk ((by rw [hg]; exact (ql_ (by repeat (first | (with_reducible first | exact HB.out | apply qc_ | apply qa_ | apply qb_ | refine qd_ ?_ GE105.out) | exact HB.out))) : w.heap.size ≤ gb106)); have n5_ := Aside0.mk ((by rw [hg]; exact Nat.ne_of_lt (blk_lt (g := gb105) (o := .cells #[.int .u64 0, .int .u64 0] 52 (0, 0)) (by (with_reducible repeat (first | refine qe_ ?_ _ | refine qg_ ?_ | refine qf_ ?_ _)); exact BK105.out)) : gb105 ≠ gb106)); have n6_ := Aside0.mk ((by rw [hg]; exact Nat.ne_of_gt (blk_lt (g := gb105) (o := .cells #[.int .u64 0, .int .u64 0] 52 (0, 0)) (by (with_reducible repeat (first | refine qe_ ?_ _ | refine qg_ ?_ | refine qf_ ?_ _)); exact BK105.out)) : gb106 ≠ gb105)); clear BK105; clear HB; have BK105 := n0_; have HB := n1_; have BK106 := n2_; have GW106 := n3_; have GE106 := n4_; have NB105_106 := n5_; have NB106_105 := n6_; clear n0_ n1_ n2_ n3_ n4_ n5_ n6_; clear hb hbox hg; have hnb28 := NB105_106.out; have hnc28 := NB106_105.out; have hcz29_0 : w27.cell? ⟨gb105, 0, none⟩ = some (.int .u64 0) := (qi_ BK105.out 0).trans rfl; have hcz29_1 : w27.cell? ⟨gb105, 1, none⟩ = some (.int .u64 0) := (qi_ BK105.out 1).trans rfl; have hfz29_0 := qh_ BK105.out 0; have hfz29_1 := qh_ BK105.out 1; have hcz30_0 : w27.cell? ⟨gb106, 0, none⟩ = some (.int .u64 0) := (qi_ BK106.out 0).trans rfl; have hcz30_1 : w27.cell? ⟨gb106, 1, none⟩ = some (.int .u64 0) := (qi_ BK106.out 1).trans rfl; have hfz30_0 := qh_ BK106.out 0; have hfz30_1 := qh_ BK106.out 1) | ((with_reducible refine qm_ (f := 23) rfl ?_); refine goesL_ (some 34) rfl rfl Try.func23 (by kernel_rfl) rfl #[.agg #[.int .u64 t101, .int .u64 t102], .agg #[.int .u64 t103, .int .u64 t104]] rfl (by (try simp only [List.map_toArray, List.map_cons, List.map_nil]); first | done | rfl | (simp only [List.length_drop, List.length_take]; rfl)) ?_; (with_reducible refine (ref09_Below.calls t101 t102 t103 t104 false _ A12.out).mono ?_); rintro e w31 ⟨rfl, hb⟩; refine ⟨_, rfl, ?_⟩; have n0_ := Aside0.mk (qk_ (g := gb105) (o := .cells #[.int .u64 t101, .int .u64 t102] 52 (0, 0)) (by (with_reducible repeat (first | refine qe_ ?_ _ | refine qg_ ?_ | refine qf_ ?_ _)); refine qs_ ?_ NB105_106.out _; (with_reducible repeat (first | refine qe_ ?_ _ | refine qg_ ?_ | refine qf_ ?_ _)); refine qs_ ?_ NB105_106.out _; (with_reducible repeat (first | refine qe_ ?_ _ | refine qg_ ?_ | refine qf_ ?_ _)); refine qr_ (cs := #[.int .u64 t101, .int .u64 0]) ?_ 1 _ rfl; (with_reducible repeat (first | refine qe_ ?_ _ | refine qg_ ?_ | refine qf_ ?_ _)); refine qr_ (cs := #[.int .u64 0, .int .u64 0]) ?_ 0 _ rfl; (with_reducible repeat (first | refine qe_ ?_ _ | refine qg_ ?_ | refine qf_ ?_ _)); exact BK105.out) hb); have n1_ := Aside0.mk (qk_ (g := gb106) (o := .cells #[.int .u64 t103, .int .u64 t104] 52 (0, 0)) (by (with_reducible repeat (first | refine qe_ ?_ _ | refine qg_ ?_ | refine qf_ ?_ _)); refine qr_ (cs := #[.int .u64 t103, .int .u64 0]) ?_ 1 _ rfl; (with_reducible repeat (first | refine qe_ ?_ _ | refine qg_ ?_ | refine qf_ ?_ _)); refine qr_ (cs := #[.int .u64 0, .int .u64 0]) ?_ 0 _ rfl; (with_reducible repeat (first | refine qe_ ?_ _ | refine qg_ ?_ | refine qf_ ?_ _)); refine qs_ ?_ NB106_105.out _; (with_reducible repeat (first | refine qe_ ?_ _ | refine qg_ ?_ | refine qf_ ?_ _)); refine qs_ ?_ NB106_105.out _; (with_reducible repeat (first | refine qe_ ?_ _ | refine qg_ ?_ | refine qf_ ?_ _)); exact BK106.out) hb); have n2_ := Aside0.mk (qj_ (by repeat (first | (with_reducible first | exact HB.out | apply qc_ | apply qa_ | apply qb_ | refine qd_ ?_ GE105.out | refine qd_ ?_ GE106.out) | exact HB.out)) hb); clear BK105; clear BK106; clear HB; have BK105 := n0_; have BK106 := n1_; have HB := n2_; clear n0_ n1_ n2_; (try clear hb); (try clear hb2); (try clear hk); (try clear hi); have hcz32_0 : w31.cell? ⟨gb106, 0, none⟩ = some (.int .u64 t103) := (qi_ BK106.out 0).trans rfl; have hcz32_1 : w31.cell? ⟨gb106, 1, none⟩ = some (.int .u64 t104) := (qi_ BK106.out 1).trans rfl; have hfz32_0 := qh_ BK106.out 0; have hfz32_1 := qh_ BK106.out 1; have hcz33_0 : w31.cell? ⟨gb105, 0, none⟩ = some (.int .u64 t101) := (qi_ BK105.out 0).trans rfl; have hcz33_1 : w31.cell? ⟨gb105, 1, none⟩ = some (.int .u64 t102) := (qi_ BK105.out 1).trans rfl; have hfz33_0 := qh_ BK105.out 0; have hfz33_1 := qh_ BK105.out 1) | ((with_reducible refine qm_ (f := 23) rfl ?_); refine goesL_ (some 38) rfl rfl Try.func23 (by kernel_rfl) rfl #[.agg #[.int .u64 t103, .int .u64 t104], .agg #[.int .u64 t101, .int .u64 t102]] rfl (by (try simp only [List.map_toArray, List.map_cons, List.map_nil]); first | done | rfl | (simp only [List.length_drop, List.length_take]; rfl)) ?_; (with_reducible refine (ref09_Below.calls t103 t104 t101 t102 true _ A22.out).mono ?_); rintro e w34 ⟨rfl, hb⟩; refine ⟨_, rfl, ?_⟩; have n0_ := Aside0.mk (qk_ (g := gb105) (o := .cells #[.int .u64 t101, .int .u64 t102] 52 (0, 0)) (by (with_reducible repeat (first | refine qe_ ?_ _ | refine qg_ ?_ | refine qf_ ?_ _)); exact BK105.out) hb); have n1_ := Aside0.mk (qk_ (g := gb106) (o := .cells #[.int .u64 t103, .int .u64 t104] 52 (0, 0)) (by (with_reducible repeat (first | refine qe_ ?_ _ | refine qg_ ?_ | refine qf_ ?_ _)); exact BK106.out) hb); have n2_ := Aside0.mk (qj_ (by repeat (first | (with_reducible first | exact HB.out | apply qc_ | apply qa_ | apply qb_ | refine qd_ ?_ GE105.out | refine qd_ ?_ GE106.out) | exact HB.out)) hb); clear BK105; clear BK106; clear HB; have BK105 := n0_; have BK106 := n1_; have HB := n2_; clear n0_ n1_ n2_; (try clear hb); (try clear hb2); (try clear hk); (try clear hi)))
      go_ret
      exact ⟨by first | rfl | (simp [errW_none, errW_some] <;> rfl) | (simp [*, errW_none, errW_some] <;> rfl), by repeat (first | (with_reducible first | exact HB.out | apply qc_ | apply qa_ | apply qb_ | refine qd_ ?_ GE105.out | refine qd_ ?_ GE106.out) | exact HB.out)⟩
     ·replace c23 := Bool.eq_false_iff.mpr c23
      subst c23
      have H1 : (some 0) = some r := by rw [if_neg (show ¬ (false = true) by decide)] at H; exact H
      clear H
      have H := H1
      clear H1
      obtain rfl := Option.some.inj H
      go_wp2_with (first | ((with_reducible refine qm_ (f := 22) rfl ?_); refine goesL_ (some 27) rfl rfl Try.func22 (by kernel_rfl) rfl #[.int .i64 a0, .int .i64 a3] rfl (by (try simp only [List.map_toArray, List.map_cons, List.map_nil]); first | done | rfl | (simp only [List.length_drop, List.length_take]; rfl)) ?_; (with_reducible refine (ref09_Mul.calls kj4 a0 a3 t101 t102 _ A10.out).mono ?_); rintro e w35 ⟨rfl, hb⟩; refine ⟨_, rfl, ?_⟩; have n0_ := Aside0.mk (qj_ (by repeat (first | (with_reducible first | exact HB.out | apply qc_ | apply qa_ | apply qb_) | exact HB.out)) hb); clear HB; have HB := n0_; clear n0_; (try clear hb); (try clear hb2); (try clear hk); (try clear hi)) | ((with_reducible refine qm_ (f := 22) rfl ?_); refine goesL_ (some 30) rfl rfl Try.func22 (by kernel_rfl) rfl #[.int .i64 a2, .int .i64 a1] rfl (by (try simp only [List.map_toArray, List.map_cons, List.map_nil]); first | done | rfl | (simp only [List.length_drop, List.length_take]; rfl)) ?_; (with_reducible refine (ref09_Mul.calls kj4 a2 a1 t103 t104 _ A11.out).mono ?_); rintro e w36 ⟨rfl, hb⟩; refine ⟨_, rfl, ?_⟩; have n0_ := Aside0.mk (qj_ (by repeat (first | (with_reducible first | exact HB.out | apply qc_ | apply qa_ | apply qb_) | exact HB.out)) hb); clear HB; have HB := n0_; clear n0_; (try clear hb); (try clear hb2); (try clear hk); (try clear hi)) | ((with_reducible refine qo_ (N := 9) rfl ?_); refine qn_ ?hg (N := 9) ?hd (cs := #[.int .u64 0, .int .u64 0]) (t := 52) ?hr ?_; (case hd => rfl); (case hg => rfl); (case hr => first | (go_simp; done) | (go_simp; rfl)); intro gb105 hg w37 hbox hb; have n0_ := Aside0.mk (qj_ (by repeat (first | (with_reducible first | exact HB.out | apply qc_ | apply qa_ | apply qb_) | exact HB.out)) hb); have n1_ := Aside0.mk (hbox); have n2_ := Aside0.mk ((by rw [hg]; exact (ql_ (by repeat (first | (with_reducible first | exact HB.out | apply qc_ | apply qa_ | apply qb_) | exact HB.out))) : w.heap.size ≤ gb105)); have n3_ := Aside0.mk ((by rw [hg]; exact (ql_ (by repeat (first | (with_reducible first | exact HB.out | apply qc_ | apply qa_ | apply qb_) | exact HB.out))) : w.heap.size ≤ gb105)); clear HB; have HB := n0_; have BK105 := n1_; have GW105 := n2_; have GE105 := n3_; clear n0_ n1_ n2_ n3_; clear hb hbox hg) | ((with_reducible refine qo_ (N := 10) rfl ?_); refine qn_ ?hg (N := 10) ?hd (cs := #[.int .u64 0, .int .u64 0]) (t := 52) ?hr ?_; (case hd => rfl); (case hg => rfl); (case hr => first | (go_simp; done) | (go_simp; rfl)); intro gb106 hg w38 hbox hb; have n0_ := Aside0.mk (qk_ (g := gb105) (o := .cells #[.int .u64 0, .int .u64 0] 52 (0, 0)) (by (with_reducible repeat (first | refine qe_ ?_ _ | refine qg_ ?_ | refine qf_ ?_ _)); exact BK105.out) hb); have n1_ := Aside0.mk (qj_ (by repeat (first | (with_reducible first | exact HB.out | apply qc_ | apply qa_ | apply qb_ | refine qd_ ?_ GE105.out) | exact HB.out)) hb); have n2_ := Aside0.mk (hbox); have n3_ := Aside0.mk ((by rw [hg]; exact (ql_ (by repeat (first | (with_reducible first | exact HB.out | apply qc_ | apply qa_ | apply qb_ | refine qd_ ?_ GE105.out) | exact HB.out))) : w.heap.size ≤ gb106)); have n4_ := Aside0.mk ((by rw [hg]; exact (ql_ (by repeat (first | (with_reducible first | exact HB.out | apply qc_ | apply qa_ | apply qb_ | refine qd_ ?_ GE105.out) | exact HB.out))) : w.heap.size ≤ gb106)); have n5_ := Aside0.mk ((by rw [hg]; exact Nat.ne_of_lt (blk_lt (g := gb105) (o := .cells #[.int .u64 0, .int .u64 0] 52 (0, 0)) (by (with_reducible repeat (first | refine qe_ ?_ _ | refine qg_ ?_ | refine qf_ ?_ _)); exact BK105.out)) : gb105 ≠ gb106)); have n6_ := Aside0.mk ((by rw [hg]; exact Nat.ne_of_gt (blk_lt (g := gb105) (o := .cells #[.int .u64 0, .int .u64 0] 52 (0, 0)) (by (with_reducible repeat (first | refine qe_ ?_ _ | refine qg_ ?_ | refine qf_ ?_ _)); exact BK105.out)) : gb106 ≠ gb105)); clear BK105; clear HB; have BK105 := n0_; have HB := n1_; have BK106 := n2_; have GW106 := n3_; have GE106 := n4_; have NB105_106 := n5_; have NB106_105 := n6_; clear n0_ n1_ n2_ n3_ n4_ n5_ n6_; clear hb hbox hg; have hnb39 := NB105_106.out; have hnc39 := NB106_105.out; have hcz40_0 : w38.cell? ⟨gb105, 0, none⟩ = some (.int .u64 0) := (qi_ BK105.out 0).trans rfl; have hcz40_1 : w38.cell? ⟨gb105, 1, none⟩ = some (.int .u64 0) := (qi_ BK105.out 1).trans rfl; have hfz40_0 := qh_ BK105.out 0; have hfz40_1 := qh_ BK105.out 1; have hcz41_0 : w38.cell? ⟨gb106, 0, none⟩ = some (.int .u64 0) := (qi_ BK106.out 0).trans rfl; have hcz41_1 : w38.cell? ⟨gb106, 1, none⟩ = some (.int .u64 0) := (qi_ BK106.out 1).trans rfl; have hfz41_0 := qh_ BK106.out 0; have hfz41_1 := qh_ BK106.out 1) | ((with_reducible refine qm_ (f := 23) rfl ?_); refine goesL_ (some 34) rfl rfl Try.func23 (by kernel_rfl) rfl #[.agg #[.int .u64 t101, .int .u64 t102], .agg #[.int .u64 t103, .int .u64 t104]] rfl (by (try simp only [List.map_toArray, List.map_cons, List.map_nil]); first | done | rfl | (simp only [List.length_drop, List.length_take]; rfl)) ?_; (with_reducible refine (ref09_Below.calls t101 t102 t103 t104 false _ A12.out).mono ?_); rintro e w42 ⟨rfl, hb⟩; refine ⟨_, rfl, ?_⟩; have n0_ := Aside0.mk (qk_ (g := gb105) (o := .cells #[.int .u64 t101, .int .u64 t102] 52 (0, 0)) (by (with_reducible repeat (first | refine qe_ ?_ _ | refine qg_ ?_ | refine qf_ ?_ _)); refine qs_ ?_ NB105_106.out _; (with_reducible repeat (first | refine qe_ ?_ _ | refine qg_ ?_ | refine qf_ ?_ _)); refine qs_ ?_ NB105_106.out _; (with_reducible repeat (first | refine qe_ ?_ _ | refine qg_ ?_ | refine qf_ ?_ _)); refine qr_ (cs := #[.int .u64 t101, .int .u64 0]) ?_ 1 _ rfl; (with_reducible repeat (first | refine qe_ ?_ _ | refine qg_ ?_ | refine qf_ ?_ _)); refine qr_ (cs := #[.int .u64 0, .int .u64 0]) ?_ 0 _ rfl; (with_reducible repeat (first | refine qe_ ?_ _ | refine qg_ ?_ | refine qf_ ?_ _)); exact BK105.out) hb); have n1_ := Aside0.mk (qk_ (g := gb106) (o := .cells #[.int .u64 t103, .int .u64 t104] 52 (0, 0)) (by (with_reducible repeat (first | refine qe_ ?_ _ | refine qg_ ?_ | refine qf_ ?_ _)); refine qr_ (cs := #[.int .u64 t103, .int .u64 0]) ?_ 1 _ rfl; (with_reducible repeat (first | refine qe_ ?_ _ | refine qg_ ?_ | refine qf_ ?_ _)); refine qr_ (cs := #[.int .u64 0, .int .u64 0]) ?_ 0 _ rfl; (with_reducible repeat (first | refine qe_ ?_ _ | refine qg_ ?_ | refine qf_ ?_ _)); refine qs_ ?_ NB106_105.out _; (with_reducible repeat (first | refine qe_ ?_ _ | refine qg_ ?_ | refine qf_ ?_ _)); refine qs_ ?_ NB106_105.out _; (with_reducible repeat (first | refine qe_ ?_ _ | refine qg_ ?_ | refine qf_ ?_ _)); exact BK106.out) hb); have n2_ := Aside0.mk (qj_ (by repeat (first | (with_reducible first | exact HB.out | apply qc_ | apply qa_ | apply qb_ | refine qd_ ?_ GE105.out | refine qd_ ?_ GE106.out) | exact HB.out)) hb); clear BK105; clear BK106; clear HB; have BK105 := n0_; have BK106 := n1_; have HB := n2_; clear n0_ n1_ n2_; (try clear hb); (try clear hb2); (try clear hk); (try clear hi); have hcz43_0 : w42.cell? ⟨gb106, 0, none⟩ = some (.int .u64 t103) := (qi_ BK106.out 0).trans rfl; have hcz43_1 : w42.cell? ⟨gb106, 1, none⟩ = some (.int .u64 t104) := (qi_ BK106.out 1).trans rfl; have hfz43_0 := qh_ BK106.out 0; have hfz43_1 := qh_ BK106.out 1; have hcz44_0 : w42.cell? ⟨gb105, 0, none⟩ = some (.int .u64 t101) := (qi_ BK105.out 0).trans rfl; have hcz44_1 : w42.cell? ⟨gb105, 1, none⟩ = some (.int .u64 t102) := (qi_ BK105.out 1).trans rfl; have hfz44_0 := qh_ BK105.out 0; have hfz44_1 := qh_ BK105.out 1) | ((with_reducible refine qm_ (f := 23) rfl ?_); refine goesL_ (some 38) rfl rfl Try.func23 (by kernel_rfl) rfl #[.agg #[.int .u64 t103, .int .u64 t104], .agg #[.int .u64 t101, .int .u64 t102]] rfl (by (try simp only [List.map_toArray, List.map_cons, List.map_nil]); first | done | rfl | (simp only [List.length_drop, List.length_take]; rfl)) ?_; (with_reducible refine (ref09_Below.calls t103 t104 t101 t102 false _ A22.out).mono ?_); rintro e w45 ⟨rfl, hb⟩; refine ⟨_, rfl, ?_⟩; have n0_ := Aside0.mk (qk_ (g := gb105) (o := .cells #[.int .u64 t101, .int .u64 t102] 52 (0, 0)) (by (with_reducible repeat (first | refine qe_ ?_ _ | refine qg_ ?_ | refine qf_ ?_ _)); exact BK105.out) hb); have n1_ := Aside0.mk (qk_ (g := gb106) (o := .cells #[.int .u64 t103, .int .u64 t104] 52 (0, 0)) (by (with_reducible repeat (first | refine qe_ ?_ _ | refine qg_ ?_ | refine qf_ ?_ _)); exact BK106.out) hb); have n2_ := Aside0.mk (qj_ (by repeat (first | (with_reducible first | exact HB.out | apply qc_ | apply qa_ | apply qb_ | refine qd_ ?_ GE105.out | refine qd_ ?_ GE106.out) | exact HB.out)) hb); clear BK105; clear BK106; clear HB; have BK105 := n0_; have BK106 := n1_; have HB := n2_; clear n0_ n1_ n2_; (try clear hb); (try clear hb2); (try clear hk); (try clear hi)))
      go_ret
      exact ⟨by first | rfl | (simp [errW_none, errW_some] <;> rfl) | (simp [*, errW_none, errW_some] <;> rfl), by repeat (first | (with_reducible first | exact HB.out | apply qc_ | apply qa_ | apply qb_ | refine qd_ ?_ GE105.out | refine qd_ ?_ GE106.out) | exact HB.out)⟩
end Go.Proofs.Ytjallhlamaggbaa.P

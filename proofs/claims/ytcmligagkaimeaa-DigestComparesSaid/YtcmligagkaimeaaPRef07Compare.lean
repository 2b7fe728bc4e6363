/- What this function of the program comes to, and that the machine's call does it: written by a program (wip/tool). No condition. -/
import Derived.Test.YtcmligagkaimeaaP0
import Derived.Test.YtcmligagkaimeaaPRef06Get
import Derived.Test.YtcmligagkaimeaaPRef07Find
import Derived.Test.YtcmligagkaimeaaPRef05Top
import Derived.Test.YtcmligagkaimeaaHw
namespace Go.Proofs.Ytcmligagkaimeaa.P
open Go.RowKit Go.Proofs.YtcmligagkaimeaaW.PrintWords Go.Proofs.YtcmligagkaimeaaW.PrintLast Go.Proofs.YtcmligagkaimeaaW.PrintMore
attribute [local go_sem] max2_int min2_int max_two min_two max_three min_three max_four min_four   -- for this text's walks alone
set_option linter.unusedVariables false
set_option linter.unusedSimpArgs false
/-! ### ref07_Compare: function 15 -/
mutual
def ref07_Compare.l0 : Nat → List (S35) → List (S30) → List (S30) → List (S30) → Int → Option ((List (S30)) × (List (S30)))
 | 0, _, _, _, _, _ => none
 | k + 1, x0, x1, x6, x7, x8 => if x8 < 8 then ((ref06_Get.f k x0 x8).bind fun bt101 => ((ref07_find.f k x1 x8).bind fun bt108 => ((ref05_Top.f k bt101.1 bt101.2.1 bt101.2.2.1).bind fun t113 => (if bt101.2.2.2 = true then (ref07_Compare.j1 k x0 x1 x6 x7 x8 bt101.2.2.2 bt108.2.2.2 t113 false bt101.1 bt101.2.1 bt101.2.2.1 bt108.1 bt108.2.1 bt108.2.2.1) else (ref07_Compare.j1 k x0 x1 x6 x7 x8 bt101.2.2.2 bt108.2.2.2 t113 (!bt108.2.2.2) bt101.1 bt101.2.1 bt101.2.2.1 bt108.1 bt108.2.1 bt108.2.2.1))))) else (some (x6, x7))
def ref07_Compare.j1 : Nat → List (S35) → List (S30) → List (S30) → List (S30) → Int → Bool → Bool → Int → Bool → Int → Int → List (S55) → Int → Int → Int → Option ((List (S30)) × (List (S30)))
 | 0, _, _, _, _, _, _, _, _, _, _, _, _, _, _, _ => none
 | k + 1, x0, x1, x6, x7, x8, x10, x12, x13, x32, x108000, x108001, x108002, x113000, x113001, x113002 => if x32 = true then (ref07_Compare.l0 k x0 x1 x6 x7 (wrap64 (x8 + 1))) else (if x10 = true then (if x12 = true then (ref07_Compare.j2 k x0 x1 x6 x7 x8 x12 x13 (decide (x113001 > x108000)) x108000 x108001 x108002 x113000 x113001 x113002) else (ref07_Compare.j2 k x0 x1 x6 x7 x8 x12 x13 false x108000 x108001 x108002 x113000 x113001 x113002)) else (ref07_Compare.j2 k x0 x1 x6 x7 x8 x12 x13 true x108000 x108001 x108002 x113000 x113001 x113002))
def ref07_Compare.j2 : Nat → List (S35) → List (S30) → List (S30) → List (S30) → Int → Bool → Int → Bool → Int → Int → List (S55) → Int → Int → Int → Option ((List (S30)) × (List (S30)))
 | 0, _, _, _, _, _, _, _, _, _, _, _, _, _, _ => none
 | k + 1, x0, x1, x6, x7, x8, x12, x13, x39, x108000, x108001, x108002, x113000, x113001, x113002 => if x39 = true then (if x6.length < 5864062014805 then (ref07_Compare.l0 k x0 x1 (x6 ++ [(⟨x8, x113001, 0⟩ : S30)]) x7 (wrap64 (x8 + 1))) else (none)) else (if x12 = true then (ref07_Compare.j3 k x0 x1 x6 x7 x8 x13 (decide (x108000 > x113001)) x108000 x108001 x108002 x113000 x113001 x113002) else (ref07_Compare.j3 k x0 x1 x6 x7 x8 x13 true x108000 x108001 x108002 x113000 x113001 x113002))
def ref07_Compare.j3 : Nat → List (S35) → List (S30) → List (S30) → List (S30) → Int → Int → Bool → Int → Int → List (S55) → Int → Int → Int → Option ((List (S30)) × (List (S30)))
 | 0, _, _, _, _, _, _, _, _, _, _, _, _, _ => none
 | k + 1, x0, x1, x6, x7, x8, x13, x59, x108000, x108001, x108002, x113000, x113001, x113002 => if x59 = true then (if x7.length < 5864062014805 then (ref07_Compare.l0 k x0 x1 x6 (x7 ++ [(⟨x8, x108000, 0⟩ : S30)]) (wrap64 (x8 + 1))) else (none)) else (if x113002 > x13 then (if x6.length < 5864062014805 then (ref07_Compare.l0 k x0 x1 (x6 ++ [(⟨x8, x108000, x13⟩ : S30)]) x7 (wrap64 (x8 + 1))) else (none)) else (if x13 > x113002 then (if x7.length < 5864062014805 then (ref07_Compare.l0 k x0 x1 x6 (x7 ++ [(⟨x8, x108000, x113002⟩ : S30)]) (wrap64 (x8 + 1))) else (none)) else (ref07_Compare.l0 k x0 x1 x6 x7 (wrap64 (x8 + 1)))))
end
def ref07_Compare.f (k : Nat) (l0 : List (S35)) (l1 : List (S30)) : Option ((List (S30)) × (List (S30))) := ref07_Compare.l0 k l0 l1 ([] : List (S30)) ([] : List (S30)) 0
theorem ref07_Compare.mono_l : ∀ k, (∀ y0 y1 y2 y3 y4, LeO (ref07_Compare.l0 k y0 y1 y2 y3 y4) (ref07_Compare.l0 (k + 1) y0 y1 y2 y3 y4)) ∧ (∀ y0 y1 y2 y3 y4 y5 y6 y7 y8 y9 y10 y11 y12 y13 y14, LeO (ref07_Compare.j1 k y0 y1 y2 y3 y4 y5 y6 y7 y8 y9 y10 y11 y12 y13 y14) (ref07_Compare.j1 (k + 1) y0 y1 y2 y3 y4 y5 y6 y7 y8 y9 y10 y11 y12 y13 y14)) ∧ (∀ y0 y1 y2 y3 y4 y5 y6 y7 y8 y9 y10 y11 y12 y13, LeO (ref07_Compare.j2 k y0 y1 y2 y3 y4 y5 y6 y7 y8 y9 y10 y11 y12 y13) (ref07_Compare.j2 (k + 1) y0 y1 y2 y3 y4 y5 y6 y7 y8 y9 y10 y11 y12 y13)) ∧ (∀ y0 y1 y2 y3 y4 y5 y6 y7 y8 y9 y10 y11 y12, LeO (ref07_Compare.j3 k y0 y1 y2 y3 y4 y5 y6 y7 y8 y9 y10 y11 y12) (ref07_Compare.j3 (k + 1) y0 y1 y2 y3 y4 y5 y6 y7 y8 y9 y10 y11 y12))
 | 0 => ⟨fun _ _ _ _ _ r h => by simp [ref07_Compare.l0] at h, fun _ _ _ _ _ _ _ _ _ _ _ _ _ _ _ r h => by simp [ref07_Compare.j1] at h, fun _ _ _ _ _ _ _ _ _ _ _ _ _ _ r h => by simp [ref07_Compare.j2] at h, fun _ _ _ _ _ _ _ _ _ _ _ _ _ r h => by simp [ref07_Compare.j3] at h⟩
 | k + 1 => by
  obtain ⟨ih0, ih1, ih2, ih3⟩ := ref07_Compare.mono_l k
  refine ⟨?_, ?_, ?_, ?_⟩
  ·intro y0 y1 y2 y3 y4
   unfold ref07_Compare.l0
   repeat' first
   | (with_reducible exact ih0 _ _ _ _ _)
   | (with_reducible exact ih1 _ _ _ _ _ _ _ _ _ _ _ _ _ _ _)
   | (with_reducible exact ih2 _ _ _ _ _ _ _ _ _ _ _ _ _ _)
   | (with_reducible exact ih3 _ _ _ _ _ _ _ _ _ _ _ _ _)
   | (with_reducible exact ref05_Top.mono _ _ _ _)
   | (with_reducible exact ref06_Get.mono _ _ _)
   | (with_reducible exact ref07_find.mono _ _ _)
   | (with_reducible exact LeO.refl _)
   | (with_reducible exact LeO.none _)
   | (with_reducible refine LeO.ite ?_ ?_)
   | (with_reducible refine LeO.bind ?_ (fun _ => ?_))
   | exact ih0 _ _ _ _ _
   | exact ih1 _ _ _ _ _ _ _ _ _ _ _ _ _ _ _
   | exact ih2 _ _ _ _ _ _ _ _ _ _ _ _ _ _
   | exact ih3 _ _ _ _ _ _ _ _ _ _ _ _ _
   | exact ref05_Top.mono _ _ _ _
   | exact ref06_Get.mono _ _ _
   | exact ref07_find.mono _ _ _
   | exact LeO.none _
   | refine LeO.ite ?_ ?_
   | refine LeO.bind ?_ (fun _ => ?_)
  ·intro y0 y1 y2 y3 y4 y5 y6 y7 y8 y9 y10 y11 y12 y13 y14
   unfold ref07_Compare.j1
   repeat' first
   | (with_reducible exact ih0 _ _ _ _ _)
   | (with_reducible exact ih1 _ _ _ _ _ _ _ _ _ _ _ _ _ _ _)
   | (with_reducible exact ih2 _ _ _ _ _ _ _ _ _ _ _ _ _ _)
   | (with_reducible exact ih3 _ _ _ _ _ _ _ _ _ _ _ _ _)
   | (with_reducible exact ref05_Top.mono _ _ _ _)
   | (with_reducible exact ref06_Get.mono _ _ _)
   | (with_reducible exact ref07_find.mono _ _ _)
   | (with_reducible exact LeO.refl _)
   | (with_reducible exact LeO.none _)
   | (with_reducible refine LeO.ite ?_ ?_)
   | (with_reducible refine LeO.bind ?_ (fun _ => ?_))
   | exact ih0 _ _ _ _ _
   | exact ih1 _ _ _ _ _ _ _ _ _ _ _ _ _ _ _
   | exact ih2 _ _ _ _ _ _ _ _ _ _ _ _ _ _
   | exact ih3 _ _ _ _ _ _ _ _ _ _ _ _ _
   | exact ref05_Top.mono _ _ _ _
   | exact ref06_Get.mono _ _ _
   | exact ref07_find.mono _ _ _
   | exact LeO.none _
   | refine LeO.ite ?_ ?_
   | refine LeO.bind ?_ (fun _ => ?_)
  ·intro y0 y1 y2 y3 y4 y5 y6 y7 y8 y9 y10 y11 y12 y13
   unfold ref07_Compare.j2
   repeat' first
   | (with_reducible exact ih0 _ _ _ _ _)
   | (with_reducible exact ih1 _ _ _ _ _ _ _ _ _ _ _ _ _ _ _)
   | (with_reducible exact ih2 _ _ _ _ _ _ _ _ _ _ _ _ _ _)
   | (with_reducible exact ih3 _ _ _ _ _ _ _ _ _ _ _ _ _)
   | (with_reducible exact ref05_Top.mono _ _ _ _)
   | (with_reducible exact ref06_Get.mono _ _ _)
   | (with_reducible exact ref07_find.mono _ _ _)
   | (with_reducible exact LeO.refl _)
   | (with_reducible exact LeO.none _)
   | (with_reducible refine LeO.ite ?_ ?_)
   | (with_reducible refine LeO.bind ?_ (fun _ => ?_))
   | exact ih0 _ _ _ _ _
   | exact ih1 _ _ _ _ _ _ _ _ _ _ _ _ _ _ _
   | exact ih2 _ _ _ _ _ _ _ _ _ _ _ _ _ _
   | exact ih3 _ _ _ _ _ _ _ _ _ _ _ _ _
   | exact ref05_Top.mono _ _ _ _
   | exact ref06_Get.mono _ _ _
   | exact ref07_find.mono _ _ _
   | exact LeO.none _
   | refine LeO.ite ?_ ?_
   | refine LeO.bind ?_ (fun _ => ?_)
  ·intro y0 y1 y2 y3 y4 y5 y6 y7 y8 y9 y10 y11 y12
   unfold ref07_Compare.j3
   repeat' first
   | (with_reducible exact ih0 _ _ _ _ _)
   | (with_reducible exact ih1 _ _ _ _ _ _ _ _ _ _ _ _ _ _ _)
   | (with_reducible exact ih2 _ _ _ _ _ _ _ _ _ _ _ _ _ _)
   | (with_reducible exact ih3 _ _ _ _ _ _ _ _ _ _ _ _ _)
   | (with_reducible exact ref05_Top.mono _ _ _ _)
   | (with_reducible exact ref06_Get.mono _ _ _)
   | (with_reducible exact ref07_find.mono _ _ _)
   | (with_reducible exact LeO.refl _)
   | (with_reducible exact LeO.none _)
   | (with_reducible refine LeO.ite ?_ ?_)
   | (with_reducible refine LeO.bind ?_ (fun _ => ?_))
   | exact ih0 _ _ _ _ _
   | exact ih1 _ _ _ _ _ _ _ _ _ _ _ _ _ _ _
   | exact ih2 _ _ _ _ _ _ _ _ _ _ _ _ _ _
   | exact ih3 _ _ _ _ _ _ _ _ _ _ _ _ _
   | exact ref05_Top.mono _ _ _ _
   | exact ref06_Get.mono _ _ _
   | exact ref07_find.mono _ _ _
   | exact LeO.none _
   | refine LeO.ite ?_ ?_
   | refine LeO.bind ?_ (fun _ => ?_)
theorem ref07_Compare.mono : ∀ a0 a1 k, LeO (ref07_Compare.f k a0 a1) (ref07_Compare.f (k + 1) a0 a1) := by
 intro a0 a1 k
 obtain ⟨ih0, ih1, ih2, ih3⟩ := ref07_Compare.mono_l k
 unfold ref07_Compare.f
 repeat' first
   | (with_reducible exact ih0 _ _ _ _ _)
   | (with_reducible exact ih1 _ _ _ _ _ _ _ _ _ _ _ _ _ _ _)
   | (with_reducible exact ih2 _ _ _ _ _ _ _ _ _ _ _ _ _ _)
   | (with_reducible exact ih3 _ _ _ _ _ _ _ _ _ _ _ _ _)
   | (with_reducible exact ref05_Top.mono _ _ _ _)
   | (with_reducible exact ref06_Get.mono _ _ _)
   | (with_reducible exact ref07_find.mono _ _ _)
   | (with_reducible exact LeO.refl _)
   | (with_reducible exact LeO.none _)
   | (with_reducible refine LeO.ite ?_ ?_)
   | (with_reducible refine LeO.bind ?_ (fun _ => ?_))
   | exact ih0 _ _ _ _ _
   | exact ih1 _ _ _ _ _ _ _ _ _ _ _ _ _ _ _
   | exact ih2 _ _ _ _ _ _ _ _ _ _ _ _ _ _
   | exact ih3 _ _ _ _ _ _ _ _ _ _ _ _ _
   | exact ref05_Top.mono _ _ _ _
   | exact ref06_Get.mono _ _ _
   | exact ref07_find.mono _ _ _
   | exact LeO.none _
   | refine LeO.ite ?_ ?_
   | refine LeO.bind ?_ (fun _ => ?_)
set_option maxHeartbeats 8000000 in
set_option maxRecDepth 100000 in
theorem ref07_Compare.calls (k : Nat) (A0 : Option Addr) (c0 : Nat) (l0 : List (S35)) (A1 : Option Addr) (c1 : Nat) (l1 : List (S30)) (r1 : List (S30)) (r2 : List (S30)) (w : World) (hr0 : Kd.C k35 w A0 l0.length l0) (hc0 : l0.length ≤ c0) (hr1 : Kd.C k30 w A1 l1.length l1) (hc1 : l1.length ≤ c1) (h : ref07_Compare.f k l0 l1 = some (r1, r2)) :
  Calls Try.prog 15 #[.slice A0 l0.length c0, .slice A1 l1.length c1] w fun e w' => ∃ v0_ v1_ : Value, e = .returned (.tuple #[v0_, v1_]) ∧ Kd.R k30 30 w' w.heap.size (fun k_ => some k_ ≠ (v1_ : Value).ownBlock) v0_ r1 ∧ Kd.R k30 30 w' w.heap.size (fun k_ => some k_ ≠ (v0_ : Value).ownBlock) v1_ r2 ∧ Below w.heap.size w w' := by
 have hu33 := Try.underlying33
 have hu30 := Try.underlying30
 have HR0 := Aside0.mk hr0
 have HC0 := Aside0.mk hc0
 clear hr0 hc0
 have HR1 := Aside0.mk hr1
 have HC1 := Aside0.mk hc1
 clear hr1 hc1
 have HB := Aside0.mk (Below.refl w.heap.size w)
 have H : (ref07_Compare.l0 k l0 l1 ([] : List (S30)) ([] : List (S30)) 0) = some (r1, r2) := h
 clear h
 have H' := Aside0.mk H
 clear H
 go_enter Try.func15, Try.ntmps15
 go_wp2
 go_loopg [6, 7, 8] k (fun kq v6 v7 v8 w' => ∃ (x6_1 : List (S30)) (x7_1 : List (S30)) (x8_1 : Int), v8 = .int .i64 x8_1 ∧ Aside0 (ref07_Compare.l0 kq l0 l1 x6_1 x7_1 x8_1 = some (r1, r2)) ∧ Aside0 (kq ≤ k) ∧ Aside0 (Kd.R k30 30 w' w.heap.size (fun k_ => some k_ ≠ (v7 : Value).ownBlock) v6 x6_1) ∧ Aside0 (Kd.R k30 30 w' w.heap.size (fun k_ => some k_ ≠ (v6 : Value).ownBlock) v7 x7_1) ∧ Aside0 (Below w.heap.size w w'))
 case atStart => exact ⟨(([] : List (S30))), (([] : List (S30))), (0), (by first | rfl | (simp; done) | (simp [*]; done)), H', ⟨Nat.le_refl _⟩, ⟨by first | exact Kd.R_nil _ _ _ _ _ | exact Kd.N_nil _ _ _ _ _ | exact Kd.V_nil _ _ _ _ _ | exact Kd.Q_nil _ _ _ _ _ | exact Kd.S_nil _ _ _ _ _⟩, ⟨by first | exact Kd.R_nil _ _ _ _ _ | exact Kd.N_nil _ _ _ _ _ | exact Kd.V_nil _ _ _ _ _ | exact Kd.Q_nil _ _ _ _ _ | exact Kd.S_nil _ _ _ _ _⟩, ⟨by repeat (first | (with_reducible first | exact HB.out | apply qc_ | apply qa_ | apply qb_) | exact HB.out)⟩⟩
 case round =>
  clear H'
  try clear c1
  try clear p2
  obtain ⟨x6_1, x7_1, x8_1, rfl, HA, HK1, HO_6, HO_7, HB⟩ := hrel
  cases gk with
  | zero => exact absurd HA.out (by simp [ref07_Compare.l0])
  | succ k1 =>
   have H := HA.out
   clear HA
   simp only [ref07_Compare.l0] at H
   by_cases c3 : x8_1 < 8
   ·rw [if_pos c3] at H
    have c3b0 : decide (x8_1 < 8) = true := decide_eq_true c3
    clear c3
    replace H := ob_ H
    obtain ⟨⟨t101, t102, t103, t106⟩, A40, H⟩ := H
    replace H : ((ref07_find.f k1 l1 x8_1).bind fun bt108 => ((ref05_Top.f k1 t101 t102 t103).bind fun t113 => (if t106 = true then (ref07_Compare.j1 k1 l0 l1 x6_1 x7_1 x8_1 t106 bt108.2.2.2 t113 false t101 t102 t103 bt108.1 bt108.2.1 bt108.2.2.1) else (ref07_Compare.j1 k1 l0 l1 x6_1 x7_1 x8_1 t106 bt108.2.2.2 t113 (!bt108.2.2.2) t101 t102 t103 bt108.1 bt108.2.1 bt108.2.2.1)))) = some (r1, r2) := H
    have A4 := Aside0.mk A40
    clear A40
    replace H := ob_ H
    obtain ⟨⟨t108, t109, t110, t111⟩, A50, H⟩ := H
    replace H : ((ref05_Top.f k1 t101 t102 t103).bind fun t113 => (if t106 = true then (ref07_Compare.j1 k1 l0 l1 x6_1 x7_1 x8_1 t106 t111 t113 false t101 t102 t103 t108 t109 t110) else (ref07_Compare.j1 k1 l0 l1 x6_1 x7_1 x8_1 t106 t111 t113 (!t111) t101 t102 t103 t108 t109 t110))) = some (r1, r2) := H
    have A5 := Aside0.mk A50
    clear A50
    replace H := ob_ H
    obtain ⟨t113, A60, H⟩ := H
    replace H : (if t106 = true then (ref07_Compare.j1 k1 l0 l1 x6_1 x7_1 x8_1 t106 t111 t113 false t101 t102 t103 t108 t109 t110) else (ref07_Compare.j1 k1 l0 l1 x6_1 x7_1 x8_1 t106 t111 t113 (!t111) t101 t102 t103 t108 t109 t110)) = some (r1, r2) := H
    have A6 := Aside0.mk A60
    clear A60
    have HC7 := Aside0.mk H
    clear H
    go_upto_region 8 with (first | ((with_reducible refine qm_ (f := 23) rfl ?_); refine goesL_ (some 21) rfl rfl Try.func23 (by kernel_rfl) rfl #[.slice A0 l0.length c0, .int .i64 x8_1] rfl (by (try simp only [List.map_toArray, List.map_cons, List.map_nil]); first | done | rfl | (simp only [List.length_drop, List.length_take]; rfl)) ?_; (with_reducible refine (ref06_Get.calls k1 _ _ l0 x8_1 t101 t102 t103 t106 _ ?side1 ?side2 A4.out).mono ?_); (case side1 => repeat (first | exact (Kd.qr_ HR0.out HB.out) | (with_reducible refine Kd.qp_ ?_ _) | (with_reducible refine Kd.qo_ ?_ _) | (with_reducible refine Kd.C_drew ?_))); (case side2 => exact HC0.out); rintro e w8 ⟨v104, rfl, ho0, hb⟩; refine ⟨_, rfl, ?_⟩; have n0_ := Aside0.mk (Kd.qw_ (by (with_reducible repeat (first | apply Kd.qe_ | apply Kd.qd_ | apply Kd.R_drew)); exact HO_6.out) hb); have n1_ := Aside0.mk (Kd.qw_ (by (with_reducible repeat (first | apply Kd.qe_ | apply Kd.qd_ | apply Kd.R_drew)); exact HO_7.out) hb); have n2_ := Aside0.mk (Kd.qt_ ho0 (qg_ (by repeat (first | (with_reducible first | exact HB.out | apply qc_ | apply qa_ | apply qb_) | exact HB.out)))); have n3_ := Aside0.mk (qi_ (by repeat (first | (with_reducible first | exact HB.out | apply qc_ | apply qa_ | apply qb_) | exact HB.out)) hb); clear HO_6; clear HO_7; clear HB; have HO_6 := n0_; have HO_7 := n1_; have HO105 := n2_; have HB := n3_; clear n0_ n1_ n2_ n3_; (try clear hb); (try clear hb2); (try clear hk); (try clear hi); (try clear ho0)) | ((with_reducible refine qv_ (N := 9) rfl ?_); refine qs_ ?hg (N := 9) ?hd (cs := #[.int .i64 0, .int .i64 0, .slice none 0 0]) (t := 33) ?hr ?_; (case hd => rfl); (case hg => rfl); (case hr => first | (go_simp; done) | (go_simp; rfl)); intro gb107 hg w9 hbox hb; have n0_ := Aside0.mk (Kd.qw_ (by (with_reducible repeat (first | apply Kd.qe_ | apply Kd.qd_ | apply Kd.R_drew)); exact HO_6.out) hb); have n1_ := Aside0.mk (Kd.qw_ (by (with_reducible repeat (first | apply Kd.qe_ | apply Kd.qd_ | apply Kd.R_drew)); exact HO_7.out) hb); have n2_ := Aside0.mk (Kd.qw_ (by (with_reducible repeat (first | apply Kd.qe_ | apply Kd.qd_ | apply Kd.R_drew)); exact HO105.out) hb); have n3_ := Aside0.mk (qi_ (by repeat (first | (with_reducible first | exact HB.out | apply qc_ | apply qa_ | apply qb_) | exact HB.out)) hb); have n4_ := Aside0.mk (hbox); have n5_ := Aside0.mk ((by rw [hg]; exact (qg_ (by repeat (first | (with_reducible first | exact HB.out | apply qc_ | apply qa_ | apply qb_) | exact HB.out))) : w.heap.size ≤ gb107)); have n6_ := Aside0.mk ((by rw [hg]; exact (qg_ (by repeat (first | (with_reducible first | exact HB.out | apply qc_ | apply qa_ | apply qb_) | exact HB.out))) : w.heap.size ≤ gb107)); clear HO_6; clear HO_7; clear HO105; clear HB; have HO_6 := n0_; have HO_7 := n1_; have HO105 := n2_; have HB := n3_; have BK107 := n4_; have GW107 := n5_; have GE107 := n6_; clear n0_ n1_ n2_ n3_ n4_ n5_ n6_; clear hb hbox hg; have hcz10_0 : w9.cell? ⟨gb107, 0, none⟩ = some (.int .i64 0) := (qj_ BK107.out 0).trans rfl; have hcz10_1 : w9.cell? ⟨gb107, 1, none⟩ = some (.int .i64 0) := (qj_ BK107.out 1).trans rfl; have hcz10_2 : w9.cell? ⟨gb107, 2, none⟩ = some (.slice none 0 0) := (qj_ BK107.out 2).trans rfl; have hfz10_0 := qh_ BK107.out 0; have hfz10_1 := qh_ BK107.out 1; have hfz10_2 := qh_ BK107.out 2; obtain ⟨Ao11, co11, eo11⟩ := Kd.qu_ HO105.out; subst eo11) | ((with_reducible refine qm_ (f := 24) rfl ?_); refine goesL_ (some 27) rfl rfl Try.func24 (by kernel_rfl) rfl #[.slice A1 l1.length c1, .int .i64 x8_1] rfl (by (try simp only [List.map_toArray, List.map_cons, List.map_nil]); first | done | rfl | (simp only [List.length_drop, List.length_take]; rfl)) ?_; (with_reducible refine (ref07_find.calls k1 _ _ l1 x8_1 t108 t109 t110 t111 _ ?side1 ?side2 A5.out).mono ?_); (case side1 => exact Kd.qr_ HR1.out (by repeat (first | (with_reducible first | exact HB.out | apply qc_ | apply qa_ | apply qb_ | refine qk_ ?_ GE107.out) | exact HB.out))); (case side2 => exact HC1.out); rintro e w12 ⟨rfl, hb⟩; refine ⟨_, rfl, ?_⟩; have n0_ := Aside0.mk (Kd.qw_ (by (with_reducible repeat (first | apply Kd.qe_ | apply Kd.qd_ | apply Kd.R_drew)); exact (Kd.R_mono (Kd.R_far (p := ⟨gb107, 2, none⟩) (Kd.R_far (p := ⟨gb107, 1, none⟩) (Kd.R_far (p := ⟨gb107, 0, none⟩) (Kd.R_types HO_6.out BK107.out (by decide)) (fun _ hk => hk.2) (.int .i64 t101)) (fun _ hk => hk.2) (.int .i64 t102)) (fun _ hk => hk.2) (.slice Ao11 t103.length co11)) (fun _ h_ => h_.1))) hb); have n1_ := Aside0.mk (Kd.qw_ (by (with_reducible repeat (first | apply Kd.qe_ | apply Kd.qd_ | apply Kd.R_drew)); exact (Kd.R_mono (Kd.R_far (p := ⟨gb107, 2, none⟩) (Kd.R_far (p := ⟨gb107, 1, none⟩) (Kd.R_far (p := ⟨gb107, 0, none⟩) (Kd.R_types HO_7.out BK107.out (by decide)) (fun _ hk => hk.2) (.int .i64 t101)) (fun _ hk => hk.2) (.int .i64 t102)) (fun _ hk => hk.2) (.slice Ao11 t103.length co11)) (fun _ h_ => h_.1))) hb); have n2_ := Aside0.mk (Kd.qw_ (by (with_reducible repeat (first | apply Kd.qe_ | apply Kd.qd_ | apply Kd.R_drew)); exact (Kd.R_mono (Kd.R_far (p := ⟨gb107, 2, none⟩) (Kd.R_far (p := ⟨gb107, 1, none⟩) (Kd.R_far (p := ⟨gb107, 0, none⟩) (Kd.R_types HO105.out BK107.out (by decide)) (fun _ hk => hk.2) (.int .i64 t101)) (fun _ hk => hk.2) (.int .i64 t102)) (fun _ hk => hk.2) (.slice Ao11 t103.length co11)) (fun _ h_ => h_.1))) hb); have n3_ := Aside0.mk (blk_below (g := gb107) (o := .cells #[.int .i64 t101, .int .i64 t102, .slice Ao11 t103.length co11] 33 (0, 0)) (by (with_reducible repeat (first | refine qn_ ?_ _ | refine qq_ ?_ | refine ql_ ?_ _)); refine blk_put (cs := #[.int .i64 t101, .int .i64 t102, .slice none 0 0]) ?_ 2 _ rfl; (with_reducible repeat (first | refine qn_ ?_ _ | refine qq_ ?_ | refine ql_ ?_ _)); refine blk_put (cs := #[.int .i64 t101, .int .i64 0, .slice none 0 0]) ?_ 1 _ rfl; (with_reducible repeat (first | refine qn_ ?_ _ | refine qq_ ?_ | refine ql_ ?_ _)); refine blk_put (cs := #[.int .i64 0, .int .i64 0, .slice none 0 0]) ?_ 0 _ rfl; (with_reducible repeat (first | refine qn_ ?_ _ | refine qq_ ?_ | refine ql_ ?_ _)); exact BK107.out) hb); have n4_ := Aside0.mk (qi_ (by repeat (first | (with_reducible first | exact HB.out | apply qc_ | apply qa_ | apply qb_ | refine qk_ ?_ GE107.out) | exact HB.out)) hb); clear HO_6; clear HO_7; clear HO105; clear BK107; clear HB; have HO_6 := n0_; have HO_7 := n1_; have HO105 := n2_; have BK107 := n3_; have HB := n4_; clear n0_ n1_ n2_ n3_ n4_; (try clear hb); (try clear hb2); (try clear hk); (try clear hi)) | ((with_reducible refine qv_ (N := 11) rfl ?_); refine qs_ ?hg (N := 11) ?hd (cs := #[.int .i64 0, .int .i64 0, .int .i64 0]) (t := 30) ?hr ?_; (case hd => rfl); (case hg => rfl); (case hr => first | (go_simp; done) | (go_simp; rfl)); intro gb112 hg w13 hbox hb; have n0_ := Aside0.mk (Kd.qw_ (Kd.R_elderB (by (with_reducible repeat (first | apply Kd.qe_ | apply Kd.qd_ | apply Kd.R_drew)); exact HO_6.out) gb112 (Nat.le_of_eq hg.symm)) hb); have n1_ := Aside0.mk (Kd.qw_ (Kd.R_elderB (by (with_reducible repeat (first | apply Kd.qe_ | apply Kd.qd_ | apply Kd.R_drew)); exact HO_7.out) gb112 (Nat.le_of_eq hg.symm)) hb); have n2_ := Aside0.mk (Kd.qw_ (by (with_reducible repeat (first | apply Kd.qe_ | apply Kd.qd_ | apply Kd.R_drew)); exact HO105.out) hb); have n3_ := Aside0.mk (blk_below (g := gb107) (o := .cells #[.int .i64 t101, .int .i64 t102, .slice Ao11 t103.length co11] 33 (0, 0)) (by (with_reducible repeat (first | refine qn_ ?_ _ | refine qq_ ?_ | refine ql_ ?_ _)); exact BK107.out) hb); have n4_ := Aside0.mk (qi_ (by repeat (first | (with_reducible first | exact HB.out | apply qc_ | apply qa_ | apply qb_ | refine qk_ ?_ GE107.out) | exact HB.out)) hb); have n5_ := Aside0.mk (hbox); have n6_ := Aside0.mk ((by rw [hg]; exact (qg_ (by repeat (first | (with_reducible first | exact HB.out | apply qc_ | apply qa_ | apply qb_ | refine qk_ ?_ GE107.out) | exact HB.out))) : w.heap.size ≤ gb112)); have n7_ := Aside0.mk ((by rw [hg]; exact (qg_ (by repeat (first | (with_reducible first | exact HB.out | apply qc_ | apply qa_ | apply qb_ | refine qk_ ?_ GE107.out) | exact HB.out))) : w.heap.size ≤ gb112)); have n8_ := Aside0.mk ((by rw [hg]; exact Nat.ne_of_lt (blk_lt (g := gb107) (o := .cells #[.int .i64 t101, .int .i64 t102, .slice Ao11 t103.length co11] 33 (0, 0)) (by (with_reducible repeat (first | refine qn_ ?_ _ | refine qq_ ?_ | refine ql_ ?_ _)); exact BK107.out)) : gb107 ≠ gb112)); have n9_ := Aside0.mk ((by rw [hg]; exact Nat.ne_of_gt (blk_lt (g := gb107) (o := .cells #[.int .i64 t101, .int .i64 t102, .slice Ao11 t103.length co11] 33 (0, 0)) (by (with_reducible repeat (first | refine qn_ ?_ _ | refine qq_ ?_ | refine ql_ ?_ _)); exact BK107.out)) : gb112 ≠ gb107)); clear HO_6; clear HO_7; clear HO105; clear BK107; clear HB; have HO_6 := n0_; have HO_7 := n1_; have HO105 := n2_; have BK107 := n3_; have HB := n4_; have BK112 := n5_; have GW112 := n6_; have GE112 := n7_; have NB107_112 := n8_; have NB112_107 := n9_; clear n0_ n1_ n2_ n3_ n4_ n5_ n6_ n7_ n8_ n9_; clear hb hbox hg; have hnb14 := NB112_107.out; have hnc14 := NB107_112.out; have hcz15_0 : w13.cell? ⟨gb112, 0, none⟩ = some (.int .i64 0) := (qj_ BK112.out 0).trans rfl; have hcz15_1 : w13.cell? ⟨gb112, 1, none⟩ = some (.int .i64 0) := (qj_ BK112.out 1).trans rfl; have hcz15_2 : w13.cell? ⟨gb112, 2, none⟩ = some (.int .i64 0) := (qj_ BK112.out 2).trans rfl; have hfz15_0 := qh_ BK112.out 0; have hfz15_1 := qh_ BK112.out 1; have hfz15_2 := qh_ BK112.out 2; have hcz16_0 : w13.cell? ⟨gb107, 0, none⟩ = some (.int .i64 t101) := (qj_ BK107.out 0).trans rfl; have hcz16_1 : w13.cell? ⟨gb107, 1, none⟩ = some (.int .i64 t102) := (qj_ BK107.out 1).trans rfl; have hcz16_2 : w13.cell? ⟨gb107, 2, none⟩ = some (.slice Ao11 t103.length co11) := (qj_ BK107.out 2).trans rfl; have hfz16_0 := qh_ BK107.out 0; have hfz16_1 := qh_ BK107.out 1; have hfz16_2 := qh_ BK107.out 2) | ((with_reducible refine qm_ (f := 25) rfl ?_); refine goesL_ (some 31) rfl rfl Try.func25 (by kernel_rfl) rfl #[.agg #[.int .i64 t101, .int .i64 t102, .slice Ao11 t103.length co11]] rfl (by (try simp only [List.map_toArray, List.map_cons, List.map_nil]); first | done | rfl | (simp only [List.length_drop, List.length_take]; rfl)) ?_; (with_reducible refine (ref05_Top.calls k1 t101 t102 _ _ t103 t113 _ ?side1 ?side2 A6.out).mono ?_); (case side1 => refine (Kd.R_reads' (e := 55) (base := w.heap.size) (ok := fun k_ => True) (n := t103.length) (c := co11) ?_).2.2; exact (by (with_reducible repeat (first | apply Kd.qe_ | apply Kd.qd_ | apply Kd.R_drew)); exact (Kd.R_mono (Kd.R_far (p := ⟨gb112, 2, none⟩) (Kd.R_far (p := ⟨gb112, 1, none⟩) (Kd.R_far (p := ⟨gb112, 0, none⟩) (Kd.R_types HO105.out BK112.out (by decide)) (fun _ hk => hk.2) (.int .i64 t108)) (fun _ hk => hk.2) (.int .i64 t109)) (fun _ hk => hk.2) (.int .i64 t110)) (fun _ h_ => h_.1)))); (case side2 => exact (Kd.R_reads' HO105.out).2.1); rintro e w17 ⟨rfl, hb⟩; refine ⟨_, rfl, ?_⟩; have n0_ := Aside0.mk (Kd.qw_ (by (with_reducible repeat (first | apply Kd.qe_ | apply Kd.qd_ | apply Kd.R_drew)); exact (Kd.R_mono (Kd.R_far (p := ⟨gb112, 2, none⟩) (Kd.R_far (p := ⟨gb112, 1, none⟩) (Kd.R_far (p := ⟨gb112, 0, none⟩) (Kd.R_mono HO_6.out (fun k_ hk => (⟨hk, hk.2⟩ : _ ∧ k_ ≠ gb112))) (fun _ hk => hk.2) (.int .i64 t108)) (fun _ hk => hk.2) (.int .i64 t109)) (fun _ hk => hk.2) (.int .i64 t110)) (fun _ h_ => h_.1))) hb); have n1_ := Aside0.mk (Kd.qw_ (by (with_reducible repeat (first | apply Kd.qe_ | apply Kd.qd_ | apply Kd.R_drew)); exact (Kd.R_mono (Kd.R_far (p := ⟨gb112, 2, none⟩) (Kd.R_far (p := ⟨gb112, 1, none⟩) (Kd.R_far (p := ⟨gb112, 0, none⟩) (Kd.R_mono HO_7.out (fun k_ hk => (⟨hk, hk.2⟩ : _ ∧ k_ ≠ gb112))) (fun _ hk => hk.2) (.int .i64 t108)) (fun _ hk => hk.2) (.int .i64 t109)) (fun _ hk => hk.2) (.int .i64 t110)) (fun _ h_ => h_.1))) hb); have n2_ := Aside0.mk (Kd.qw_ (by (with_reducible repeat (first | apply Kd.qe_ | apply Kd.qd_ | apply Kd.R_drew)); exact (Kd.R_mono (Kd.R_far (p := ⟨gb112, 2, none⟩) (Kd.R_far (p := ⟨gb112, 1, none⟩) (Kd.R_far (p := ⟨gb112, 0, none⟩) (Kd.R_types HO105.out BK112.out (by decide)) (fun _ hk => hk.2) (.int .i64 t108)) (fun _ hk => hk.2) (.int .i64 t109)) (fun _ hk => hk.2) (.int .i64 t110)) (fun _ h_ => h_.1))) hb); have n3_ := Aside0.mk (blk_below (g := gb107) (o := .cells #[.int .i64 t101, .int .i64 t102, .slice Ao11 t103.length co11] 33 (0, 0)) (by (with_reducible repeat (first | refine qn_ ?_ _ | refine qq_ ?_ | refine ql_ ?_ _)); refine blk_far ?_ NB107_112.out _; (with_reducible repeat (first | refine qn_ ?_ _ | refine qq_ ?_ | refine ql_ ?_ _)); refine blk_far ?_ NB107_112.out _; (with_reducible repeat (first | refine qn_ ?_ _ | refine qq_ ?_ | refine ql_ ?_ _)); refine blk_far ?_ NB107_112.out _; (with_reducible repeat (first | refine qn_ ?_ _ | refine qq_ ?_ | refine ql_ ?_ _)); exact BK107.out) hb); have n4_ := Aside0.mk (blk_below (g := gb112) (o := .cells #[.int .i64 t108, .int .i64 t109, .int .i64 t110] 30 (0, 0)) (by (with_reducible repeat (first | refine qn_ ?_ _ | refine qq_ ?_ | refine ql_ ?_ _)); refine blk_put (cs := #[.int .i64 t108, .int .i64 t109, .int .i64 0]) ?_ 2 _ rfl; (with_reducible repeat (first | refine qn_ ?_ _ | refine qq_ ?_ | refine ql_ ?_ _)); refine blk_put (cs := #[.int .i64 t108, .int .i64 0, .int .i64 0]) ?_ 1 _ rfl; (with_reducible repeat (first | refine qn_ ?_ _ | refine qq_ ?_ | refine ql_ ?_ _)); refine blk_put (cs := #[.int .i64 0, .int .i64 0, .int .i64 0]) ?_ 0 _ rfl; (with_reducible repeat (first | refine qn_ ?_ _ | refine qq_ ?_ | refine ql_ ?_ _)); exact BK112.out) hb); have n5_ := Aside0.mk (qi_ (by repeat (first | (with_reducible first | exact HB.out | apply qc_ | apply qa_ | apply qb_ | refine qk_ ?_ GE107.out | refine qk_ ?_ GE112.out) | exact HB.out)) hb); clear HO_6; clear HO_7; clear HO105; clear BK107; clear BK112; clear HB; have HO_6 := n0_; have HO_7 := n1_; have HO105 := n2_; have BK107 := n3_; have BK112 := n4_; have HB := n5_; clear n0_ n1_ n2_ n3_ n4_ n5_; (try clear hb); (try clear hb2); (try clear hk); (try clear hi)))
    (try simp only [Act.put, sa_, sb_, sc_])
    go_cut [32] (fun v32 wc => ∃ (kq : Nat) (x32_6 : Bool), v32 = .bool x32_6 ∧ Aside0 (ref07_Compare.j1 kq l0 l1 x6_1 x7_1 x8_1 t106 t111 t113 x32_6 t101 t102 t103 t108 t109 t110 = some (r1, r2)) ∧ Aside0 (kq ≤ k1) ∧ Aside0 (Kd.R k30 30 wc w.heap.size (fun k_ => some k_ ≠ (u7 : Value).ownBlock ∧ k_ ≠ gb112) u6 x6_1) ∧ Aside0 (Kd.R k30 30 wc w.heap.size (fun k_ => some k_ ≠ (u6 : Value).ownBlock ∧ k_ ≠ gb112) u7 x7_1) ∧ Aside0 (Kd.R k55 55 wc w.heap.size (fun _ => True) (.slice Ao11 t103.length co11) t103) ∧ Aside0 (wc.heap[gb107]? = some (.cells #[.int .i64 t101, .int .i64 t102, (.slice Ao11 t103.length co11)] 33 (0, 0))) ∧ Aside0 (wc.heap[gb112]? = some (.cells #[.int .i64 t108, .int .i64 t109, .int .i64 t110] 30 (0, 0))) ∧ Aside0 (Below w.heap.size w wc))
    case first =>
     have H := HC7.out
     clear HC7
     by_cases c18 : t106 = true
     ·subst c18
      have H1 : (ref07_Compare.j1 k1 l0 l1 x6_1 x7_1 x8_1 true t111 t113 false t101 t102 t103 t108 t109 t110) = some (r1, r2) := by rw [if_pos rfl] at H; exact H
      clear H
      have H := H1
      clear H1
      have H' := Aside0.mk H
      clear H
      go_wp2
      go_meet
      case rel => exact ⟨_, (false), (by first | rfl | (simp; done) | (simp [*]; done)), H', ⟨by have := HK1.out; first | omega | exact Nat.le_refl _⟩, ⟨by (with_reducible repeat (first | apply Kd.qe_ | apply Kd.qd_ | apply Kd.R_drew)); exact HO_6.out⟩, ⟨by (with_reducible repeat (first | apply Kd.qe_ | apply Kd.qd_ | apply Kd.R_drew)); exact HO_7.out⟩, ⟨by (with_reducible repeat (first | apply Kd.qe_ | apply Kd.qd_ | apply Kd.R_drew)); exact HO105.out⟩, ⟨by (with_reducible repeat (first | refine qn_ ?_ _ | refine qq_ ?_ | refine ql_ ?_ _)); exact BK107.out⟩, ⟨by (with_reducible repeat (first | refine qn_ ?_ _ | refine qq_ ?_ | refine ql_ ?_ _)); exact BK112.out⟩, ⟨by repeat (first | (with_reducible first | exact HB.out | apply qc_ | apply qa_ | apply qb_ | refine qk_ ?_ GE107.out | refine qk_ ?_ GE112.out) | exact HB.out)⟩⟩
     ·replace c18 := Bool.eq_false_iff.mpr c18
      subst c18
      have H1 : (ref07_Compare.j1 k1 l0 l1 x6_1 x7_1 x8_1 false t111 t113 (!t111) t101 t102 t103 t108 t109 t110) = some (r1, r2) := by rw [if_neg (show ¬ (false = true) by decide)] at H; exact H
      clear H
      have H := H1
      clear H1
      have H' := Aside0.mk H
      clear H
      go_wp2
      go_meet
      case rel => exact ⟨_, (!t111), (by first | rfl | (simp; done) | (simp [*]; done)), H', ⟨by have := HK1.out; first | omega | exact Nat.le_refl _⟩, ⟨by (with_reducible repeat (first | apply Kd.qe_ | apply Kd.qd_ | apply Kd.R_drew)); exact HO_6.out⟩, ⟨by (with_reducible repeat (first | apply Kd.qe_ | apply Kd.qd_ | apply Kd.R_drew)); exact HO_7.out⟩, ⟨by (with_reducible repeat (first | apply Kd.qe_ | apply Kd.qd_ | apply Kd.R_drew)); exact HO105.out⟩, ⟨by (with_reducible repeat (first | refine qn_ ?_ _ | refine qq_ ?_ | refine ql_ ?_ _)); exact BK107.out⟩, ⟨by (with_reducible repeat (first | refine qn_ ?_ _ | refine qq_ ?_ | refine ql_ ?_ _)); exact BK112.out⟩, ⟨by repeat (first | (with_reducible first | exact HB.out | apply qc_ | apply qa_ | apply qb_ | refine qk_ ?_ GE107.out | refine qk_ ?_ GE112.out) | exact HB.out)⟩⟩
    case rest =>
     clear HC7
     try clear c1
     try clear c2
     try clear p2
     try clear c3
     try clear c3b0
     try clear c14
     try clear c15
     try clear c18
     try clear hcz10_0
     try clear hcz10_1
     try clear hcz10_2
     try clear hcz15_0
     try clear hcz15_1
     try clear hcz15_2
     try clear hcz16_0
     try clear hcz16_1
     try clear hcz16_2
     try clear hfz10_0
     try clear hfz10_1
     try clear hfz10_2
     try clear hfz15_0
     try clear hfz15_1
     try clear hfz15_2
     try clear hfz16_0
     try clear hfz16_1
     try clear hfz16_2
     try clear p2
     obtain ⟨kq, x32_6, rfl, HA, HJ6, HO_6, HO_7, HO_108002, BK107, BK112, HB⟩ := hcut
     cases kq with
     | zero => exact absurd HA.out (by simp [ref07_Compare.j1])
     | succ kj6 =>
      have H := HA.out
      clear HA
      simp only [ref07_Compare.j1] at H
      by_cases c19 : x32_6 = true
      ·subst c19
       have H1 : (ref07_Compare.l0 kj6 l0 l1 x6_1 x7_1 (wrap64 (x8_1 + 1))) = some (r1, r2) := by rw [if_pos rfl] at H; exact H
       clear H
       have H := H1
       clear H1
       have H' := Aside0.mk H
       clear H
       go_wp2
       go_roundg kj6
       case measure => have := HK1.out; have := HJ6.out; omega
       case rel => exact ⟨(x6_1), (x7_1), (wrap64 (x8_1 + 1)), (by first | rfl | (simp; done) | (simp [*]; done)), H', ⟨by have := HK1.out; have := HJ6.out; omega⟩, ⟨by (with_reducible repeat (first | apply Kd.qe_ | apply Kd.qd_ | apply Kd.R_drew)); exact Kd.R_mono HO_6.out (fun _ hk => hk.1)⟩, ⟨by (with_reducible repeat (first | apply Kd.qe_ | apply Kd.qd_ | apply Kd.R_drew)); exact Kd.R_mono HO_7.out (fun _ hk => hk.1)⟩, ⟨by repeat (first | (with_reducible first | exact HB.out | apply qc_ | apply qa_ | apply qb_ | refine qk_ ?_ GE107.out | refine qk_ ?_ GE112.out) | exact HB.out)⟩⟩
      ·replace c19 := Bool.eq_false_iff.mpr c19
       subst c19
       have H1 : (if t106 = true then (if t111 = true then (ref07_Compare.j2 kj6 l0 l1 x6_1 x7_1 x8_1 t111 t113 (decide (t109 > t101)) t101 t102 t103 t108 t109 t110) else (ref07_Compare.j2 kj6 l0 l1 x6_1 x7_1 x8_1 t111 t113 false t101 t102 t103 t108 t109 t110)) else (ref07_Compare.j2 kj6 l0 l1 x6_1 x7_1 x8_1 t111 t113 true t101 t102 t103 t108 t109 t110)) = some (r1, r2) := by rw [if_neg (show ¬ (false = true) by decide)] at H; exact H
       clear H
       have H := H1
       clear H1
       have HC20 := Aside0.mk H
       clear H
       go_upto_region 9 with (fail)
       go_cut [39] (fun v39 wc => ∃ (kq : Nat) (x39_19 : Bool), v39 = .bool x39_19 ∧ Aside0 (ref07_Compare.j2 kq l0 l1 x6_1 x7_1 x8_1 t111 t113 x39_19 t101 t102 t103 t108 t109 t110 = some (r1, r2)) ∧ Aside0 (kq ≤ kj6) ∧ Aside0 (Kd.R k30 30 wc w.heap.size (fun k_ => some k_ ≠ (u7 : Value).ownBlock ∧ k_ ≠ gb112) u6 x6_1) ∧ Aside0 (Kd.R k30 30 wc w.heap.size (fun k_ => some k_ ≠ (u6 : Value).ownBlock ∧ k_ ≠ gb112) u7 x7_1) ∧ Aside0 (Kd.R k55 55 wc w.heap.size (fun _ => True) (.slice Ao11 t103.length co11) t103) ∧ Aside0 (wc.heap[gb107]? = some (.cells #[.int .i64 t101, .int .i64 t102, (.slice Ao11 t103.length co11)] 33 (0, 0))) ∧ Aside0 (wc.heap[gb112]? = some (.cells #[.int .i64 t108, .int .i64 t109, .int .i64 t110] 30 (0, 0))) ∧ Aside0 (Below w.heap.size w wc))
       case first =>
        have H := HC20.out
        clear HC20
        by_cases c21 : t106 = true
        ·subst c21
         have H1 : (if t111 = true then (ref07_Compare.j2 kj6 l0 l1 x6_1 x7_1 x8_1 t111 t113 (decide (t109 > t101)) t101 t102 t103 t108 t109 t110) else (ref07_Compare.j2 kj6 l0 l1 x6_1 x7_1 x8_1 t111 t113 false t101 t102 t103 t108 t109 t110)) = some (r1, r2) := by rw [if_pos rfl] at H; exact H
         clear H
         have H := H1
         clear H1
         by_cases c22 : t111 = true
         ·subst c22
          have H1 : (ref07_Compare.j2 kj6 l0 l1 x6_1 x7_1 x8_1 true t113 (decide (t109 > t101)) t101 t102 t103 t108 t109 t110) = some (r1, r2) := by rw [if_pos rfl] at H; exact H
          clear H
          have H := H1
          clear H1
          have H' := Aside0.mk H
          clear H
          have hnb23 := NB112_107.out
          have hnc23 := NB107_112.out
          have hcz24_0 : wc.cell? ⟨gb112, 0, none⟩ = some (.int .i64 t108) := (qj_ BK112.out 0).trans rfl
          have hcz24_1 : wc.cell? ⟨gb112, 1, none⟩ = some (.int .i64 t109) := (qj_ BK112.out 1).trans rfl
          have hcz24_2 : wc.cell? ⟨gb112, 2, none⟩ = some (.int .i64 t110) := (qj_ BK112.out 2).trans rfl
          have hfz24_0 := qh_ BK112.out 0
          have hfz24_1 := qh_ BK112.out 1
          have hfz24_2 := qh_ BK112.out 2
          have hcz25_0 : wc.cell? ⟨gb107, 0, none⟩ = some (.int .i64 t101) := (qj_ BK107.out 0).trans rfl
          have hcz25_1 : wc.cell? ⟨gb107, 1, none⟩ = some (.int .i64 t102) := (qj_ BK107.out 1).trans rfl
          have hcz25_2 : wc.cell? ⟨gb107, 2, none⟩ = some (.slice Ao11 t103.length co11) := (qj_ BK107.out 2).trans rfl
          have hfz25_0 := qh_ BK107.out 0
          have hfz25_1 := qh_ BK107.out 1
          have hfz25_2 := qh_ BK107.out 2
          go_wp2
          go_meet
          case rel => exact ⟨_, (decide (t109 > t101)), (by first | rfl | (simp; done) | (simp [*]; done)), H', ⟨by have := HK1.out; have := HJ6.out; first | omega | exact Nat.le_refl _⟩, ⟨by (with_reducible repeat (first | apply Kd.qe_ | apply Kd.qd_ | apply Kd.R_drew)); exact HO_6.out⟩, ⟨by (with_reducible repeat (first | apply Kd.qe_ | apply Kd.qd_ | apply Kd.R_drew)); exact HO_7.out⟩, ⟨by (with_reducible repeat (first | apply Kd.qe_ | apply Kd.qd_ | apply Kd.R_drew)); exact HO_108002.out⟩, ⟨by (with_reducible repeat (first | refine qn_ ?_ _ | refine qq_ ?_ | refine ql_ ?_ _)); exact BK107.out⟩, ⟨by (with_reducible repeat (first | refine qn_ ?_ _ | refine qq_ ?_ | refine ql_ ?_ _)); exact BK112.out⟩, ⟨by repeat (first | (with_reducible first | exact HB.out | apply qc_ | apply qa_ | apply qb_ | refine qk_ ?_ GE107.out | refine qk_ ?_ GE112.out) | exact HB.out)⟩⟩
         ·replace c22 := Bool.eq_false_iff.mpr c22
          subst c22
          have H1 : (ref07_Compare.j2 kj6 l0 l1 x6_1 x7_1 x8_1 false t113 false t101 t102 t103 t108 t109 t110) = some (r1, r2) := by rw [if_neg (show ¬ (false = true) by decide)] at H; exact H
          clear H
          have H := H1
          clear H1
          have H' := Aside0.mk H
          clear H
          go_wp2
          go_meet
          case rel => exact ⟨_, (false), (by first | rfl | (simp; done) | (simp [*]; done)), H', ⟨by have := HK1.out; have := HJ6.out; first | omega | exact Nat.le_refl _⟩, ⟨by (with_reducible repeat (first | apply Kd.qe_ | apply Kd.qd_ | apply Kd.R_drew)); exact HO_6.out⟩, ⟨by (with_reducible repeat (first | apply Kd.qe_ | apply Kd.qd_ | apply Kd.R_drew)); exact HO_7.out⟩, ⟨by (with_reducible repeat (first | apply Kd.qe_ | apply Kd.qd_ | apply Kd.R_drew)); exact HO_108002.out⟩, ⟨by (with_reducible repeat (first | refine qn_ ?_ _ | refine qq_ ?_ | refine ql_ ?_ _)); exact BK107.out⟩, ⟨by (with_reducible repeat (first | refine qn_ ?_ _ | refine qq_ ?_ | refine ql_ ?_ _)); exact BK112.out⟩, ⟨by repeat (first | (with_reducible first | exact HB.out | apply qc_ | apply qa_ | apply qb_ | refine qk_ ?_ GE107.out | refine qk_ ?_ GE112.out) | exact HB.out)⟩⟩
        ·replace c21 := Bool.eq_false_iff.mpr c21
         subst c21
         have H1 : (ref07_Compare.j2 kj6 l0 l1 x6_1 x7_1 x8_1 t111 t113 true t101 t102 t103 t108 t109 t110) = some (r1, r2) := by rw [if_neg (show ¬ (false = true) by decide)] at H; exact H
         clear H
         have H := H1
         clear H1
         have H' := Aside0.mk H
         clear H
         go_wp2
         go_meet
         case rel => exact ⟨_, (true), (by first | rfl | (simp; done) | (simp [*]; done)), H', ⟨by have := HK1.out; have := HJ6.out; first | omega | exact Nat.le_refl _⟩, ⟨by (with_reducible repeat (first | apply Kd.qe_ | apply Kd.qd_ | apply Kd.R_drew)); exact HO_6.out⟩, ⟨by (with_reducible repeat (first | apply Kd.qe_ | apply Kd.qd_ | apply Kd.R_drew)); exact HO_7.out⟩, ⟨by (with_reducible repeat (first | apply Kd.qe_ | apply Kd.qd_ | apply Kd.R_drew)); exact HO_108002.out⟩, ⟨by (with_reducible repeat (first | refine qn_ ?_ _ | refine qq_ ?_ | refine ql_ ?_ _)); exact BK107.out⟩, ⟨by (with_reducible repeat (first | refine qn_ ?_ _ | refine qq_ ?_ | refine ql_ ?_ _)); exact BK112.out⟩, ⟨by repeat (first | (with_reducible first | exact HB.out | apply qc_ | apply qa_ | apply qb_ | refine qk_ ?_ GE107.out | refine qk_ ?_ GE112.out) | exact HB.out)⟩⟩
       case rest =>
        clear HC20
        try clear c1
        try clear c2
        try clear p2
        try clear c3
        try clear c3b0
        try clear p6
        try clear c14
        try clear c15
        try clear c18
        try clear c19
        try clear c21
        try clear c22
        try clear c23
        try clear c24
        try clear c25
        try clear hcz10_0
        try clear hcz10_1
        try clear hcz10_2
        try clear hcz15_0
        try clear hcz15_1
        try clear hcz15_2
        try clear hcz16_0
        try clear hcz16_1
        try clear hcz16_2
        try clear hcz24_0
        try clear hcz24_1
        try clear hcz24_2
        try clear hcz25_0
        try clear hcz25_1
        try clear hcz25_2
        try clear hfz10_0
        try clear hfz10_1
        try clear hfz10_2
        try clear hfz15_0
        try clear hfz15_1
        try clear hfz15_2
        try clear hfz16_0
        try clear hfz16_1
        try clear hfz16_2
        try clear hfz24_0
        try clear hfz24_1
        try clear hfz24_2
        try clear hfz25_0
        try clear hfz25_1
        try clear hfz25_2
        try clear p2
        obtain ⟨kq, x39_19, rfl, HA, HJ19, HO_6, HO_7, HO_108002, BK107, BK112, HB⟩ := hcut
        cases kq with
        | zero => exact absurd HA.out (by simp [ref07_Compare.j2])
        | succ kj19 =>
         have H := HA.out
         clear HA
         simp only [ref07_Compare.j2] at H
         by_cases c26 : x39_19 = true
         ·subst c26
          have H1 : (if x6_1.length < 5864062014805 then (ref07_Compare.l0 kj19 l0 l1 (x6_1 ++ [(⟨x8_1, t109, 0⟩ : S30)]) x7_1 (wrap64 (x8_1 + 1))) else (none)) = some (r1, r2) := by rw [if_pos rfl] at H; exact H
          clear H
          have H := H1
          clear H1
          by_cases c27 : x6_1.length < 5864062014805
          ·rw [if_pos c27] at H
           have LMc27 := Aside0.mk c27
           clear c27
           obtain ⟨y114, hy114⟩ : ∃ y_ : List (S30), y_ = (x6_1 ++ [(⟨x8_1, t109, 0⟩ : S30)]) := ⟨_, rfl⟩
           replace H : (ref07_Compare.l0 kj19 l0 l1 y114 x7_1 (wrap64 (x8_1 + 1))) = some (r1, r2) := by first | (rw [hy114]; with_reducible exact H) | (have H2_ := (Option.bind_some _ _).symm.trans H; rw [hy114]; with_reducible exact H2_) | (have H2_ := (Option.bind_some _ _).symm.trans H; with_reducible exact H2_) | with_reducible exact H | (rw [hy114]; exact H) | exact H
           have Ny114 := Aside0.mk hy114
           clear hy114
           have H' := Aside0.mk H
           clear H
           have hnb28 := NB112_107.out
           have hnc28 := NB107_112.out
           have hcz29_0 : wc.cell? ⟨gb112, 0, none⟩ = some (.int .i64 t108) := (qj_ BK112.out 0).trans rfl
           have hcz29_1 : wc.cell? ⟨gb112, 1, none⟩ = some (.int .i64 t109) := (qj_ BK112.out 1).trans rfl
           have hcz29_2 : wc.cell? ⟨gb112, 2, none⟩ = some (.int .i64 t110) := (qj_ BK112.out 2).trans rfl
           have hfz29_0 := qh_ BK112.out 0
           have hfz29_1 := qh_ BK112.out 1
           have hfz29_2 := qh_ BK112.out 2
           go_wp2_with (first | ((with_reducible refine gate_builtin (b := .append) (xs := #[.tmp 52, .tmp 57]) rfl ?_); at_builtin; refine Kd.R_append k30 (w0 := w) w.heap.size rfl (.tmp 52) (.tmp 57) 23 30 (.agg #[(.int .i64 0), (.int .i64 0), (.int .i64 0)]) 24 rfl Try.underlying23 info30 rfl (by decide) (by omega) u6 x6_1 (⟨x8_1, t109, 0⟩ : S30) [.int .i64 x8_1, .int .i64 t109, .int .i64 0] (fun k_ => some k_ ≠ (u7 : Value).ownBlock ∧ k_ ≠ gb112) (fun _ => False) rfl rfl ?aP (fun _ hk => hk.elim) ?aF ?aO ?aB ?aS ?aL ?_; (case aP => exact k30_mkM _ _ _ (⟨x8_1, t109, 0⟩ : S30)); (case aB => exact (by repeat (first | (with_reducible first | exact HB.out | apply qc_ | apply qa_ | apply qb_ | refine qk_ ?_ GE107.out | refine qk_ ?_ GE112.out) | exact HB.out))); (case aF => exact (fun k_ hk => ⟨Kd.fresh' (Kd.R_lt (by (with_reducible repeat (first | apply Kd.qe_ | apply Kd.qd_ | apply Kd.R_drew)); exact HO_7.out)) k_ hk, Kd.freshB (g := gb112) (o := .cells #[.int .i64 t108, .int .i64 t109, .int .i64 t110] 30 (0, 0)) (by (with_reducible repeat (first | refine qn_ ?_ _ | refine qq_ ?_ | refine ql_ ?_ _)); exact BK112.out) k_ hk⟩)); (case aO => exact (by (with_reducible repeat (first | apply Kd.qe_ | apply Kd.qd_ | apply Kd.R_drew)); exact HO_6.out)); (case aS => exact (qg_ (by repeat (first | (with_reducible first | exact HB.out | apply qc_ | apply qa_ | apply qb_ | refine qk_ ?_ GE107.out | refine qk_ ?_ GE112.out) | exact HB.out)))); (case aL => have := LMc27.out; omega); intro v115 w30 ho hb hg hat; rw [← Ny114.out] at ho; have n0_ := Aside0.mk (Kd.R_after (ok := (fun k_ => k_ ≠ gb112)) (by (with_reducible repeat (first | apply Kd.qe_ | apply Kd.qd_ | apply Kd.R_drew)); exact Kd.R_mono HO_7.out (fun _ hk => ⟨hk.2, hk.1⟩)) hg hat); have n1_ := Aside0.mk (Kd.R_over' (by (with_reducible repeat (first | apply Kd.qe_ | apply Kd.qd_ | apply Kd.R_drew)); exact HO_108002.out) (Kd.R_typed (by (with_reducible repeat (first | apply Kd.qe_ | apply Kd.qd_ | apply Kd.R_drew)); exact HO_6.out)) (by decide) hg); have n2_ := Aside0.mk (blk_grown (g := gb107) (o := .cells #[.int .i64 t101, .int .i64 t102, .slice Ao11 t103.length co11] 33 (0, 0)) (by (with_reducible repeat (first | refine qn_ ?_ _ | refine qq_ ?_ | refine ql_ ?_ _)); exact BK107.out) hg (Kd.R_ne HO_6.out BK107.out (by decide))); have n3_ := Aside0.mk (blk_grown (g := gb112) (o := .cells #[.int .i64 t108, .int .i64 t109, .int .i64 t110] 30 (0, 0)) (by (with_reducible repeat (first | refine qn_ ?_ _ | refine qq_ ?_ | refine ql_ ?_ _)); exact BK112.out) hg (Kd.R_away HO_6.out (fun _ hk => hk.2))); have n4_ := Aside0.mk (hb); have n5_ := Aside0.mk (ho); clear HO_7; clear HO_108002; clear BK107; clear BK112; clear HB; clear HO_6; have HO_7 := n0_; have HO_108002 := n1_; have BK107 := n2_; have BK112 := n3_; have HB := n4_; have HO116 := n5_; clear n0_ n1_ n2_ n3_ n4_ n5_; clear ho hb hg hat))
           go_roundg kj19
           case measure => have := HK1.out; have := HJ6.out; have := HJ19.out; omega
           case rel => exact ⟨(y114), (x7_1), (wrap64 (x8_1 + 1)), (by first | rfl | (simp; done) | (simp [*]; done)), H', ⟨by have := HK1.out; have := HJ6.out; have := HJ19.out; omega⟩, ⟨by (with_reducible repeat (first | apply Kd.qe_ | apply Kd.qd_ | apply Kd.R_drew)); exact Kd.R_mono HO116.out (fun _ hk => hk.1)⟩, ⟨by (with_reducible repeat (first | apply Kd.qe_ | apply Kd.qd_ | apply Kd.R_drew)); exact Kd.R_mono HO_7.out (fun _ hk => hk.2)⟩, ⟨by repeat (first | (with_reducible first | exact HB.out | apply qc_ | apply qa_ | apply qb_ | refine qk_ ?_ GE107.out | refine qk_ ?_ GE112.out) | exact HB.out)⟩⟩
          ·rw [if_neg c27] at H
           exact absurd H (by simp)
         ·replace c26 := Bool.eq_false_iff.mpr c26
          subst c26
          have H1 : (if t111 = true then (ref07_Compare.j3 kj19 l0 l1 x6_1 x7_1 x8_1 t113 (decide (t101 > t109)) t101 t102 t103 t108 t109 t110) else (ref07_Compare.j3 kj19 l0 l1 x6_1 x7_1 x8_1 t113 true t101 t102 t103 t108 t109 t110)) = some (r1, r2) := by rw [if_neg (show ¬ (false = true) by decide)] at H; exact H
          clear H
          have H := H1
          clear H1
          have HC31 := Aside0.mk H
          clear H
          go_upto_region 11 with (fail)
          go_cut [59] (fun v59 wc => ∃ (kq : Nat) (x59_30 : Bool), v59 = .bool x59_30 ∧ Aside0 (ref07_Compare.j3 kq l0 l1 x6_1 x7_1 x8_1 t113 x59_30 t101 t102 t103 t108 t109 t110 = some (r1, r2)) ∧ Aside0 (kq ≤ kj19) ∧ Aside0 (Kd.R k30 30 wc w.heap.size (fun k_ => some k_ ≠ (u7 : Value).ownBlock ∧ k_ ≠ gb112) u6 x6_1) ∧ Aside0 (Kd.R k30 30 wc w.heap.size (fun k_ => some k_ ≠ (u6 : Value).ownBlock ∧ k_ ≠ gb112) u7 x7_1) ∧ Aside0 (Kd.R k55 55 wc w.heap.size (fun _ => True) (.slice Ao11 t103.length co11) t103) ∧ Aside0 (wc.heap[gb107]? = some (.cells #[.int .i64 t101, .int .i64 t102, (.slice Ao11 t103.length co11)] 33 (0, 0))) ∧ Aside0 (wc.heap[gb112]? = some (.cells #[.int .i64 t108, .int .i64 t109, .int .i64 t110] 30 (0, 0))) ∧ Aside0 (Below w.heap.size w wc))
          case first =>
           have H := HC31.out
           clear HC31
           by_cases c32 : t111 = true
           ·subst c32
            have H1 : (ref07_Compare.j3 kj19 l0 l1 x6_1 x7_1 x8_1 t113 (decide (t101 > t109)) t101 t102 t103 t108 t109 t110) = some (r1, r2) := by rw [if_pos rfl] at H; exact H
            clear H
            have H := H1
            clear H1
            have H' := Aside0.mk H
            clear H
            have hnb33 := NB107_112.out
            have hnc33 := NB112_107.out
            have hcz34_0 : wc.cell? ⟨gb107, 0, none⟩ = some (.int .i64 t101) := (qj_ BK107.out 0).trans rfl
            have hcz34_1 : wc.cell? ⟨gb107, 1, none⟩ = some (.int .i64 t102) := (qj_ BK107.out 1).trans rfl
            have hcz34_2 : wc.cell? ⟨gb107, 2, none⟩ = some (.slice Ao11 t103.length co11) := (qj_ BK107.out 2).trans rfl
            have hfz34_0 := qh_ BK107.out 0
            have hfz34_1 := qh_ BK107.out 1
            have hfz34_2 := qh_ BK107.out 2
            have hcz35_0 : wc.cell? ⟨gb112, 0, none⟩ = some (.int .i64 t108) := (qj_ BK112.out 0).trans rfl
            have hcz35_1 : wc.cell? ⟨gb112, 1, none⟩ = some (.int .i64 t109) := (qj_ BK112.out 1).trans rfl
            have hcz35_2 : wc.cell? ⟨gb112, 2, none⟩ = some (.int .i64 t110) := (qj_ BK112.out 2).trans rfl
            have hfz35_0 := qh_ BK112.out 0
            have hfz35_1 := qh_ BK112.out 1
            have hfz35_2 := qh_ BK112.out 2
            go_wp2
            go_meet
            case rel => exact ⟨_, (decide (t101 > t109)), (by first | rfl | (simp; done) | (simp [*]; done)), H', ⟨by have := HK1.out; have := HJ6.out; have := HJ19.out; first | omega | exact Nat.le_refl _⟩, ⟨by (with_reducible repeat (first | apply Kd.qe_ | apply Kd.qd_ | apply Kd.R_drew)); exact HO_6.out⟩, ⟨by (with_reducible repeat (first | apply Kd.qe_ | apply Kd.qd_ | apply Kd.R_drew)); exact HO_7.out⟩, ⟨by (with_reducible repeat (first | apply Kd.qe_ | apply Kd.qd_ | apply Kd.R_drew)); exact HO_108002.out⟩, ⟨by (with_reducible repeat (first | refine qn_ ?_ _ | refine qq_ ?_ | refine ql_ ?_ _)); exact BK107.out⟩, ⟨by (with_reducible repeat (first | refine qn_ ?_ _ | refine qq_ ?_ | refine ql_ ?_ _)); exact BK112.out⟩, ⟨by repeat (first | (with_reducible first | exact HB.out | apply qc_ | apply qa_ | apply qb_ | refine qk_ ?_ GE107.out | refine qk_ ?_ GE112.out) | exact HB.out)⟩⟩
           ·replace c32 := Bool.eq_false_iff.mpr c32
            subst c32
            have H1 : (ref07_Compare.j3 kj19 l0 l1 x6_1 x7_1 x8_1 t113 true t101 t102 t103 t108 t109 t110) = some (r1, r2) := by rw [if_neg (show ¬ (false = true) by decide)] at H; exact H
            clear H
            have H := H1
            clear H1
            have H' := Aside0.mk H
            clear H
            go_wp2
            go_meet
            case rel => exact ⟨_, (true), (by first | rfl | (simp; done) | (simp [*]; done)), H', ⟨by have := HK1.out; have := HJ6.out; have := HJ19.out; first | omega | exact Nat.le_refl _⟩, ⟨by (with_reducible repeat (first | apply Kd.qe_ | apply Kd.qd_ | apply Kd.R_drew)); exact HO_6.out⟩, ⟨by (with_reducible repeat (first | apply Kd.qe_ | apply Kd.qd_ | apply Kd.R_drew)); exact HO_7.out⟩, ⟨by (with_reducible repeat (first | apply Kd.qe_ | apply Kd.qd_ | apply Kd.R_drew)); exact HO_108002.out⟩, ⟨by (with_reducible repeat (first | refine qn_ ?_ _ | refine qq_ ?_ | refine ql_ ?_ _)); exact BK107.out⟩, ⟨by (with_reducible repeat (first | refine qn_ ?_ _ | refine qq_ ?_ | refine ql_ ?_ _)); exact BK112.out⟩, ⟨by repeat (first | (with_reducible first | exact HB.out | apply qc_ | apply qa_ | apply qb_ | refine qk_ ?_ GE107.out | refine qk_ ?_ GE112.out) | exact HB.out)⟩⟩
          case rest =>
           clear HC31
           try clear c1
           try clear c2
           try clear p2
           try clear c3
           try clear c3b0
           try clear p6
           try clear c14
           try clear c15
           try clear c18
           try clear c19
           try clear c21
           try clear c22
           try clear c23
           try clear c24
           try clear c25
           try clear c26
           try clear c27
           try clear c28
           try clear c32
           try clear c33
           try clear hcz10_0
           try clear hcz10_1
           try clear hcz10_2
           try clear hcz15_0
           try clear hcz15_1
           try clear hcz15_2
           try clear hcz16_0
           try clear hcz16_1
           try clear hcz16_2
           try clear hcz24_0
           try clear hcz24_1
           try clear hcz24_2
           try clear hcz25_0
           try clear hcz25_1
           try clear hcz25_2
           try clear hcz29_0
           try clear hcz29_1
           try clear hcz29_2
           try clear hcz34_0
           try clear hcz34_1
           try clear hcz34_2
           try clear hcz35_0
           try clear hcz35_1
           try clear hcz35_2
           try clear hfz10_0
           try clear hfz10_1
           try clear hfz10_2
           try clear hfz15_0
           try clear hfz15_1
           try clear hfz15_2
           try clear hfz16_0
           try clear hfz16_1
           try clear hfz16_2
           try clear hfz24_0
           try clear hfz24_1
           try clear hfz24_2
           try clear hfz25_0
           try clear hfz25_1
           try clear hfz25_2
           try clear hfz29_0
           try clear hfz29_1
           try clear hfz29_2
           try clear hfz34_0
           try clear hfz34_1
           try clear hfz34_2
           try clear hfz35_0
           try clear hfz35_1
           try clear hfz35_2
           try clear p2
           try clear p6
           obtain ⟨kq, x59_30, rfl, HA, HJ30, HO_6, HO_7, HO_108002, BK107, BK112, HB⟩ := hcut
           cases kq with
           | zero => exact absurd HA.out (by simp [ref07_Compare.j3])
           | succ kj30 =>
            have H := HA.out
            clear HA
            simp only [ref07_Compare.j3] at H
            by_cases c36 : x59_30 = true
            ·subst c36
             have H1 : (if x7_1.length < 5864062014805 then (ref07_Compare.l0 kj30 l0 l1 x6_1 (x7_1 ++ [(⟨x8_1, t101, 0⟩ : S30)]) (wrap64 (x8_1 + 1))) else (none)) = some (r1, r2) := by rw [if_pos rfl] at H; exact H
             clear H
             have H := H1
             clear H1
             by_cases c37 : x7_1.length < 5864062014805
             ·rw [if_pos c37] at H
              have LMc37 := Aside0.mk c37
              clear c37
              obtain ⟨y117, hy117⟩ : ∃ y_ : List (S30), y_ = (x7_1 ++ [(⟨x8_1, t101, 0⟩ : S30)]) := ⟨_, rfl⟩
              replace H : (ref07_Compare.l0 kj30 l0 l1 x6_1 y117 (wrap64 (x8_1 + 1))) = some (r1, r2) := by first | (rw [hy117]; with_reducible exact H) | (have H2_ := (Option.bind_some _ _).symm.trans H; rw [hy117]; with_reducible exact H2_) | (have H2_ := (Option.bind_some _ _).symm.trans H; with_reducible exact H2_) | with_reducible exact H | (rw [hy117]; exact H) | exact H
              have Ny117 := Aside0.mk hy117
              clear hy117
              have H' := Aside0.mk H
              clear H
              have hnb38 := NB107_112.out
              have hnc38 := NB112_107.out
              have hcz39_0 : wc.cell? ⟨gb107, 0, none⟩ = some (.int .i64 t101) := (qj_ BK107.out 0).trans rfl
              have hcz39_1 : wc.cell? ⟨gb107, 1, none⟩ = some (.int .i64 t102) := (qj_ BK107.out 1).trans rfl
              have hcz39_2 : wc.cell? ⟨gb107, 2, none⟩ = some (.slice Ao11 t103.length co11) := (qj_ BK107.out 2).trans rfl
              have hfz39_0 := qh_ BK107.out 0
              have hfz39_1 := qh_ BK107.out 1
              have hfz39_2 := qh_ BK107.out 2
              go_wp2_with (first | ((with_reducible refine gate_builtin (b := .append) (xs := #[.tmp 69, .tmp 74]) rfl ?_); at_builtin; refine Kd.R_append k30 (w0 := w) w.heap.size rfl (.tmp 69) (.tmp 74) 23 30 (.agg #[(.int .i64 0), (.int .i64 0), (.int .i64 0)]) 24 rfl Try.underlying23 info30 rfl (by decide) (by omega) u7 x7_1 (⟨x8_1, t101, 0⟩ : S30) [.int .i64 x8_1, .int .i64 t101, .int .i64 0] (fun k_ => some k_ ≠ (u6 : Value).ownBlock ∧ k_ ≠ gb112) (fun _ => False) rfl rfl ?aP (fun _ hk => hk.elim) ?aF ?aO ?aB ?aS ?aL ?_; (case aP => exact k30_mkM _ _ _ (⟨x8_1, t101, 0⟩ : S30)); (case aB => exact (by repeat (first | (with_reducible first | exact HB.out | apply qc_ | apply qa_ | apply qb_ | refine qk_ ?_ GE107.out | refine qk_ ?_ GE112.out) | exact HB.out))); (case aF => exact (fun k_ hk => ⟨Kd.fresh' (Kd.R_lt (by (with_reducible repeat (first | apply Kd.qe_ | apply Kd.qd_ | apply Kd.R_drew)); exact HO_6.out)) k_ hk, Kd.freshB (g := gb112) (o := .cells #[.int .i64 t108, .int .i64 t109, .int .i64 t110] 30 (0, 0)) (by (with_reducible repeat (first | refine qn_ ?_ _ | refine qq_ ?_ | refine ql_ ?_ _)); exact BK112.out) k_ hk⟩)); (case aO => exact (by (with_reducible repeat (first | apply Kd.qe_ | apply Kd.qd_ | apply Kd.R_drew)); exact HO_7.out)); (case aS => exact (qg_ (by repeat (first | (with_reducible first | exact HB.out | apply qc_ | apply qa_ | apply qb_ | refine qk_ ?_ GE107.out | refine qk_ ?_ GE112.out) | exact HB.out)))); (case aL => have := LMc37.out; omega); intro v118 w40 ho hb hg hat; rw [← Ny117.out] at ho; have n0_ := Aside0.mk (Kd.R_after (ok := (fun k_ => k_ ≠ gb112)) (by (with_reducible repeat (first | apply Kd.qe_ | apply Kd.qd_ | apply Kd.R_drew)); exact Kd.R_mono HO_6.out (fun _ hk => ⟨hk.2, hk.1⟩)) hg hat); have n1_ := Aside0.mk (Kd.R_over' (by (with_reducible repeat (first | apply Kd.qe_ | apply Kd.qd_ | apply Kd.R_drew)); exact HO_108002.out) (Kd.R_typed (by (with_reducible repeat (first | apply Kd.qe_ | apply Kd.qd_ | apply Kd.R_drew)); exact HO_7.out)) (by decide) hg); have n2_ := Aside0.mk (blk_grown (g := gb107) (o := .cells #[.int .i64 t101, .int .i64 t102, .slice Ao11 t103.length co11] 33 (0, 0)) (by (with_reducible repeat (first | refine qn_ ?_ _ | refine qq_ ?_ | refine ql_ ?_ _)); exact BK107.out) hg (Kd.R_ne HO_7.out BK107.out (by decide))); have n3_ := Aside0.mk (blk_grown (g := gb112) (o := .cells #[.int .i64 t108, .int .i64 t109, .int .i64 t110] 30 (0, 0)) (by (with_reducible repeat (first | refine qn_ ?_ _ | refine qq_ ?_ | refine ql_ ?_ _)); exact BK112.out) hg (Kd.R_away HO_7.out (fun _ hk => hk.2))); have n4_ := Aside0.mk (hb); have n5_ := Aside0.mk (ho); clear HO_6; clear HO_108002; clear BK107; clear BK112; clear HB; clear HO_7; have HO_6 := n0_; have HO_108002 := n1_; have BK107 := n2_; have BK112 := n3_; have HB := n4_; have HO119 := n5_; clear n0_ n1_ n2_ n3_ n4_ n5_; clear ho hb hg hat))
              go_roundg kj30
              case measure => have := HK1.out; have := HJ6.out; have := HJ19.out; have := HJ30.out; omega
              case rel => exact ⟨(x6_1), (y117), (wrap64 (x8_1 + 1)), (by first | rfl | (simp; done) | (simp [*]; done)), H', ⟨by have := HK1.out; have := HJ6.out; have := HJ19.out; have := HJ30.out; omega⟩, ⟨by (with_reducible repeat (first | apply Kd.qe_ | apply Kd.qd_ | apply Kd.R_drew)); exact Kd.R_mono HO_6.out (fun _ hk => hk.2)⟩, ⟨by (with_reducible repeat (first | apply Kd.qe_ | apply Kd.qd_ | apply Kd.R_drew)); exact Kd.R_mono HO119.out (fun _ hk => hk.1)⟩, ⟨by repeat (first | (with_reducible first | exact HB.out | apply qc_ | apply qa_ | apply qb_ | refine qk_ ?_ GE107.out | refine qk_ ?_ GE112.out) | exact HB.out)⟩⟩
             ·rw [if_neg c37] at H
              exact absurd H (by simp)
            ·replace c36 := Bool.eq_false_iff.mpr c36
             subst c36
             have H1 : (if t110 > t113 then (if x6_1.length < 5864062014805 then (ref07_Compare.l0 kj30 l0 l1 (x6_1 ++ [(⟨x8_1, t101, t113⟩ : S30)]) x7_1 (wrap64 (x8_1 + 1))) else (none)) else (if t113 > t110 then (if x7_1.length < 5864062014805 then (ref07_Compare.l0 kj30 l0 l1 x6_1 (x7_1 ++ [(⟨x8_1, t101, t110⟩ : S30)]) (wrap64 (x8_1 + 1))) else (none)) else (ref07_Compare.l0 kj30 l0 l1 x6_1 x7_1 (wrap64 (x8_1 + 1))))) = some (r1, r2) := by rw [if_neg (show ¬ (false = true) by decide)] at H; exact H
             clear H
             have H := H1
             clear H1
             by_cases c41 : t110 > t113
             ·rw [if_pos c41] at H
              have c41b0 : decide (t113 < t110) = true := decide_eq_true c41
              clear c41
              by_cases c42 : x6_1.length < 5864062014805
              ·rw [if_pos c42] at H
               have LMc42 := Aside0.mk c42
               clear c42
               obtain ⟨y120, hy120⟩ : ∃ y_ : List (S30), y_ = (x6_1 ++ [(⟨x8_1, t101, t113⟩ : S30)]) := ⟨_, rfl⟩
               replace H : (ref07_Compare.l0 kj30 l0 l1 y120 x7_1 (wrap64 (x8_1 + 1))) = some (r1, r2) := by first | (rw [hy120]; with_reducible exact H) | (have H2_ := (Option.bind_some _ _).symm.trans H; rw [hy120]; with_reducible exact H2_) | (have H2_ := (Option.bind_some _ _).symm.trans H; with_reducible exact H2_) | with_reducible exact H | (rw [hy120]; exact H) | exact H
               have Ny120 := Aside0.mk hy120
               clear hy120
               have H' := Aside0.mk H
               clear H
               have hnb43 := NB112_107.out
               have hnc43 := NB107_112.out
               have hcz44_0 : wc.cell? ⟨gb112, 0, none⟩ = some (.int .i64 t108) := (qj_ BK112.out 0).trans rfl
               have hcz44_1 : wc.cell? ⟨gb112, 1, none⟩ = some (.int .i64 t109) := (qj_ BK112.out 1).trans rfl
               have hcz44_2 : wc.cell? ⟨gb112, 2, none⟩ = some (.int .i64 t110) := (qj_ BK112.out 2).trans rfl
               have hfz44_0 := qh_ BK112.out 0
               have hfz44_1 := qh_ BK112.out 1
               have hfz44_2 := qh_ BK112.out 2
               have hcz45_0 : wc.cell? ⟨gb107, 0, none⟩ = some (.int .i64 t101) := (qj_ BK107.out 0).trans rfl
               have hcz45_1 : wc.cell? ⟨gb107, 1, none⟩ = some (.int .i64 t102) := (qj_ BK107.out 1).trans rfl
               have hcz45_2 : wc.cell? ⟨gb107, 2, none⟩ = some (.slice Ao11 t103.length co11) := (qj_ BK107.out 2).trans rfl
               have hfz45_0 := qh_ BK107.out 0
               have hfz45_1 := qh_ BK107.out 1
               have hfz45_2 := qh_ BK107.out 2
               go_wp2_with (first | ((with_reducible refine gate_builtin (b := .append) (xs := #[.tmp 81, .tmp 87]) rfl ?_); at_builtin; refine Kd.R_append k30 (w0 := w) w.heap.size rfl (.tmp 81) (.tmp 87) 23 30 (.agg #[(.int .i64 0), (.int .i64 0), (.int .i64 0)]) 24 rfl Try.underlying23 info30 rfl (by decide) (by omega) u6 x6_1 (⟨x8_1, t101, t113⟩ : S30) [.int .i64 x8_1, .int .i64 t101, .int .i64 t113] (fun k_ => some k_ ≠ (u7 : Value).ownBlock ∧ k_ ≠ gb112) (fun _ => False) rfl rfl ?aP (fun _ hk => hk.elim) ?aF ?aO ?aB ?aS ?aL ?_; (case aP => exact k30_mkM _ _ _ (⟨x8_1, t101, t113⟩ : S30)); (case aB => exact (by repeat (first | (with_reducible first | exact HB.out | apply qc_ | apply qa_ | apply qb_ | refine qk_ ?_ GE107.out | refine qk_ ?_ GE112.out) | exact HB.out))); (case aF => exact (fun k_ hk => ⟨Kd.fresh' (Kd.R_lt (by (with_reducible repeat (first | apply Kd.qe_ | apply Kd.qd_ | apply Kd.R_drew)); exact HO_7.out)) k_ hk, Kd.freshB (g := gb112) (o := .cells #[.int .i64 t108, .int .i64 t109, .int .i64 t110] 30 (0, 0)) (by (with_reducible repeat (first | refine qn_ ?_ _ | refine qq_ ?_ | refine ql_ ?_ _)); exact BK112.out) k_ hk⟩)); (case aO => exact (by (with_reducible repeat (first | apply Kd.qe_ | apply Kd.qd_ | apply Kd.R_drew)); exact HO_6.out)); (case aS => exact (qg_ (by repeat (first | (with_reducible first | exact HB.out | apply qc_ | apply qa_ | apply qb_ | refine qk_ ?_ GE107.out | refine qk_ ?_ GE112.out) | exact HB.out)))); (case aL => have := LMc42.out; omega); intro v121 w46 ho hb hg hat; rw [← Ny120.out] at ho; have n0_ := Aside0.mk (Kd.R_after (ok := (fun k_ => k_ ≠ gb112)) (by (with_reducible repeat (first | apply Kd.qe_ | apply Kd.qd_ | apply Kd.R_drew)); exact Kd.R_mono HO_7.out (fun _ hk => ⟨hk.2, hk.1⟩)) hg hat); have n1_ := Aside0.mk (Kd.R_over' (by (with_reducible repeat (first | apply Kd.qe_ | apply Kd.qd_ | apply Kd.R_drew)); exact HO_108002.out) (Kd.R_typed (by (with_reducible repeat (first | apply Kd.qe_ | apply Kd.qd_ | apply Kd.R_drew)); exact HO_6.out)) (by decide) hg); have n2_ := Aside0.mk (blk_grown (g := gb107) (o := .cells #[.int .i64 t101, .int .i64 t102, .slice Ao11 t103.length co11] 33 (0, 0)) (by (with_reducible repeat (first | refine qn_ ?_ _ | refine qq_ ?_ | refine ql_ ?_ _)); exact BK107.out) hg (Kd.R_ne HO_6.out BK107.out (by decide))); have n3_ := Aside0.mk (blk_grown (g := gb112) (o := .cells #[.int .i64 t108, .int .i64 t109, .int .i64 t110] 30 (0, 0)) (by (with_reducible repeat (first | refine qn_ ?_ _ | refine qq_ ?_ | refine ql_ ?_ _)); exact BK112.out) hg (Kd.R_away HO_6.out (fun _ hk => hk.2))); have n4_ := Aside0.mk (hb); have n5_ := Aside0.mk (ho); clear HO_7; clear HO_108002; clear BK107; clear BK112; clear HB; clear HO_6; have HO_7 := n0_; have HO_108002 := n1_; have BK107 := n2_; have BK112 := n3_; have HB := n4_; have HO122 := n5_; clear n0_ n1_ n2_ n3_ n4_ n5_; clear ho hb hg hat))
               go_roundg kj30
               case measure => have := HK1.out; have := HJ6.out; have := HJ19.out; have := HJ30.out; omega
               case rel => exact ⟨(y120), (x7_1), (wrap64 (x8_1 + 1)), (by first | rfl | (simp; done) | (simp [*]; done)), H', ⟨by have := HK1.out; have := HJ6.out; have := HJ19.out; have := HJ30.out; omega⟩, ⟨by (with_reducible repeat (first | apply Kd.qe_ | apply Kd.qd_ | apply Kd.R_drew)); exact Kd.R_mono HO122.out (fun _ hk => hk.1)⟩, ⟨by (with_reducible repeat (first | apply Kd.qe_ | apply Kd.qd_ | apply Kd.R_drew)); exact Kd.R_mono HO_7.out (fun _ hk => hk.2)⟩, ⟨by repeat (first | (with_reducible first | exact HB.out | apply qc_ | apply qa_ | apply qb_ | refine qk_ ?_ GE107.out | refine qk_ ?_ GE112.out) | exact HB.out)⟩⟩
              ·rw [if_neg c42] at H
               exact absurd H (by simp)
             ·rw [if_neg c41] at H
              have c41b0 : decide (t113 < t110) = false := decide_eq_false c41
              clear c41
              by_cases c47 : t113 > t110
              ·rw [if_pos c47] at H
               have c47b0 : decide (t110 < t113) = true := decide_eq_true c47
               clear c47
               by_cases c48 : x7_1.length < 5864062014805
               ·rw [if_pos c48] at H
                have LMc48 := Aside0.mk c48
                clear c48
                obtain ⟨y123, hy123⟩ : ∃ y_ : List (S30), y_ = (x7_1 ++ [(⟨x8_1, t101, t110⟩ : S30)]) := ⟨_, rfl⟩
                replace H : (ref07_Compare.l0 kj30 l0 l1 x6_1 y123 (wrap64 (x8_1 + 1))) = some (r1, r2) := by first | (rw [hy123]; with_reducible exact H) | (have H2_ := (Option.bind_some _ _).symm.trans H; rw [hy123]; with_reducible exact H2_) | (have H2_ := (Option.bind_some _ _).symm.trans H; with_reducible exact H2_) | with_reducible exact H | (rw [hy123]; exact H) | exact H
                have Ny123 := Aside0.mk hy123
                clear hy123
                have H' := Aside0.mk H
                clear H
                have hnb49 := NB112_107.out
                have hnc49 := NB107_112.out
                have hcz50_0 : wc.cell? ⟨gb112, 0, none⟩ = some (.int .i64 t108) := (qj_ BK112.out 0).trans rfl
                have hcz50_1 : wc.cell? ⟨gb112, 1, none⟩ = some (.int .i64 t109) := (qj_ BK112.out 1).trans rfl
                have hcz50_2 : wc.cell? ⟨gb112, 2, none⟩ = some (.int .i64 t110) := (qj_ BK112.out 2).trans rfl
                have hfz50_0 := qh_ BK112.out 0
                have hfz50_1 := qh_ BK112.out 1
                have hfz50_2 := qh_ BK112.out 2
                have hcz51_0 : wc.cell? ⟨gb107, 0, none⟩ = some (.int .i64 t101) := (qj_ BK107.out 0).trans rfl
                have hcz51_1 : wc.cell? ⟨gb107, 1, none⟩ = some (.int .i64 t102) := (qj_ BK107.out 1).trans rfl
                have hcz51_2 : wc.cell? ⟨gb107, 2, none⟩ = some (.slice Ao11 t103.length co11) := (qj_ BK107.out 2).trans rfl
                have hfz51_0 := qh_ BK107.out 0
                have hfz51_1 := qh_ BK107.out 1
                have hfz51_2 := qh_ BK107.out 2
                go_wp2_with (first | ((with_reducible refine gate_builtin (b := .append) (xs := #[.tmp 94, .tmp 101]) rfl ?_); at_builtin; refine Kd.R_append k30 (w0 := w) w.heap.size rfl (.tmp 94) (.tmp 101) 23 30 (.agg #[(.int .i64 0), (.int .i64 0), (.int .i64 0)]) 24 rfl Try.underlying23 info30 rfl (by decide) (by omega) u7 x7_1 (⟨x8_1, t101, t110⟩ : S30) [.int .i64 x8_1, .int .i64 t101, .int .i64 t110] (fun k_ => some k_ ≠ (u6 : Value).ownBlock ∧ k_ ≠ gb112) (fun _ => False) rfl rfl ?aP (fun _ hk => hk.elim) ?aF ?aO ?aB ?aS ?aL ?_; (case aP => exact k30_mkM _ _ _ (⟨x8_1, t101, t110⟩ : S30)); (case aB => exact (by repeat (first | (with_reducible first | exact HB.out | apply qc_ | apply qa_ | apply qb_ | refine qk_ ?_ GE107.out | refine qk_ ?_ GE112.out) | exact HB.out))); (case aF => exact (fun k_ hk => ⟨Kd.fresh' (Kd.R_lt (by (with_reducible repeat (first | apply Kd.qe_ | apply Kd.qd_ | apply Kd.R_drew)); exact HO_6.out)) k_ hk, Kd.freshB (g := gb112) (o := .cells #[.int .i64 t108, .int .i64 t109, .int .i64 t110] 30 (0, 0)) (by (with_reducible repeat (first | refine qn_ ?_ _ | refine qq_ ?_ | refine ql_ ?_ _)); exact BK112.out) k_ hk⟩)); (case aO => exact (by (with_reducible repeat (first | apply Kd.qe_ | apply Kd.qd_ | apply Kd.R_drew)); exact HO_7.out)); (case aS => exact (qg_ (by repeat (first | (with_reducible first | exact HB.out | apply qc_ | apply qa_ | apply qb_ | refine qk_ ?_ GE107.out | refine qk_ ?_ GE112.out) | exact HB.out)))); (case aL => have := LMc48.out; omega); intro v124 w52 ho hb hg hat; rw [← Ny123.out] at ho; have n0_ := Aside0.mk (Kd.R_after (ok := (fun k_ => k_ ≠ gb112)) (by (with_reducible repeat (first | apply Kd.qe_ | apply Kd.qd_ | apply Kd.R_drew)); exact Kd.R_mono HO_6.out (fun _ hk => ⟨hk.2, hk.1⟩)) hg hat); have n1_ := Aside0.mk (Kd.R_over' (by (with_reducible repeat (first | apply Kd.qe_ | apply Kd.qd_ | apply Kd.R_drew)); exact HO_108002.out) (Kd.R_typed (by (with_reducible repeat (first | apply Kd.qe_ | apply Kd.qd_ | apply Kd.R_drew)); exact HO_7.out)) (by decide) hg); have n2_ := Aside0.mk (blk_grown (g := gb107) (o := .cells #[.int .i64 t101, .int .i64 t102, .slice Ao11 t103.length co11] 33 (0, 0)) (by (with_reducible repeat (first | refine qn_ ?_ _ | refine qq_ ?_ | refine ql_ ?_ _)); exact BK107.out) hg (Kd.R_ne HO_7.out BK107.out (by decide))); have n3_ := Aside0.mk (blk_grown (g := gb112) (o := .cells #[.int .i64 t108, .int .i64 t109, .int .i64 t110] 30 (0, 0)) (by (with_reducible repeat (first | refine qn_ ?_ _ | refine qq_ ?_ | refine ql_ ?_ _)); exact BK112.out) hg (Kd.R_away HO_7.out (fun _ hk => hk.2))); have n4_ := Aside0.mk (hb); have n5_ := Aside0.mk (ho); clear HO_6; clear HO_108002; clear BK107; clear BK112; clear HB; clear HO_7; have HO_6 := n0_; have HO_108002 := n1_; have BK107 := n2_; have BK112 := n3_; have HB := n4_; have HO125 := n5_; clear n0_ n1_ n2_ n3_ n4_ n5_; clear ho hb hg hat))
                go_roundg kj30
                case measure => have := HK1.out; have := HJ6.out; have := HJ19.out; have := HJ30.out; omega
                case rel => exact ⟨(x6_1), (y123), (wrap64 (x8_1 + 1)), (by first | rfl | (simp; done) | (simp [*]; done)), H', ⟨by have := HK1.out; have := HJ6.out; have := HJ19.out; have := HJ30.out; omega⟩, ⟨by (with_reducible repeat (first | apply Kd.qe_ | apply Kd.qd_ | apply Kd.R_drew)); exact Kd.R_mono HO_6.out (fun _ hk => hk.2)⟩, ⟨by (with_reducible repeat (first | apply Kd.qe_ | apply Kd.qd_ | apply Kd.R_drew)); exact Kd.R_mono HO125.out (fun _ hk => hk.1)⟩, ⟨by repeat (first | (with_reducible first | exact HB.out | apply qc_ | apply qa_ | apply qb_ | refine qk_ ?_ GE107.out | refine qk_ ?_ GE112.out) | exact HB.out)⟩⟩
               ·rw [if_neg c48] at H
                exact absurd H (by simp)
              ·rw [if_neg c47] at H
               have c47b0 : decide (t110 < t113) = false := decide_eq_false c47
               clear c47
               have H' := Aside0.mk H
               clear H
               have hnb53 := NB112_107.out
               have hnc53 := NB107_112.out
               have hcz54_0 : wc.cell? ⟨gb112, 0, none⟩ = some (.int .i64 t108) := (qj_ BK112.out 0).trans rfl
               have hcz54_1 : wc.cell? ⟨gb112, 1, none⟩ = some (.int .i64 t109) := (qj_ BK112.out 1).trans rfl
               have hcz54_2 : wc.cell? ⟨gb112, 2, none⟩ = some (.int .i64 t110) := (qj_ BK112.out 2).trans rfl
               have hfz54_0 := qh_ BK112.out 0
               have hfz54_1 := qh_ BK112.out 1
               have hfz54_2 := qh_ BK112.out 2
               go_wp2
               go_roundg kj30
               case measure => have := HK1.out; have := HJ6.out; have := HJ19.out; have := HJ30.out; omega
               case rel => exact ⟨(x6_1), (x7_1), (wrap64 (x8_1 + 1)), (by first | rfl | (simp; done) | (simp [*]; done)), H', ⟨by have := HK1.out; have := HJ6.out; have := HJ19.out; have := HJ30.out; omega⟩, ⟨by (with_reducible repeat (first | apply Kd.qe_ | apply Kd.qd_ | apply Kd.R_drew)); exact Kd.R_mono HO_6.out (fun _ hk => hk.1)⟩, ⟨by (with_reducible repeat (first | apply Kd.qe_ | apply Kd.qd_ | apply Kd.R_drew)); exact Kd.R_mono HO_7.out (fun _ hk => hk.1)⟩, ⟨by repeat (first | (with_reducible first | exact HB.out | apply qc_ | apply qa_ | apply qb_ | refine qk_ ?_ GE107.out | refine qk_ ?_ GE112.out) | exact HB.out)⟩⟩
   ·rw [if_neg c3] at H
    have c3b0 : decide (x8_1 < 8) = false := decide_eq_false c3
    clear c3
    simp only [Option.some.injEq, Prod.mk.injEq] at H
    obtain ⟨rfl, rfl⟩ := H
    go_wp2
    go_ret2
    exact ⟨_, _, by first | rfl | (simp [errW_none, errW_some] <;> rfl) | (simp [*, errW_none, errW_some] <;> rfl), by (with_reducible repeat (first | apply Kd.qe_ | apply Kd.qd_ | apply Kd.R_drew)); exact HO_6.out, by (with_reducible repeat (first | apply Kd.qe_ | apply Kd.qd_ | apply Kd.R_drew)); exact HO_7.out, by repeat (first | (with_reducible first | exact HB.out | apply qc_ | apply qa_ | apply qb_) | exact HB.out)⟩
end Go.Proofs.Ytcmligagkaimeaa.P

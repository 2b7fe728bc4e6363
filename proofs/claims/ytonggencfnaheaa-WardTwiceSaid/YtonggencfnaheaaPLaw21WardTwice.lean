/- What this function of the program comes to, and that the machine's call does it: written by a program (wip/tool). No condition. -/
import Derived.Test.YtonggencfnaheaaP0
import Derived.Test.YtonggencfnaheaaPWardPut
import Derived.Test.YtonggencfnaheaaPLaw21Alive
import Derived.Test.YtonggencfnaheaaPRef21Right
import Derived.Test.YtonggencfnaheaaPRef21Same
import Derived.Test.YtonggencfnaheaaHw
namespace Go.Proofs.Ytonggencfnaheaa.P
open Go.RowKit Go.Proofs.YtonggencfnaheaaW.PrintWords Go.Proofs.YtonggencfnaheaaW.PrintLast Go.Proofs.YtonggencfnaheaaW.PrintMore
attribute [local go_sem] max2_int min2_int max_two min_two max_three min_three max_four min_four Go.Proofs.YtonggencfnaheaaW.Hw.string_gtr   -- for this text's walks alone
set_option linter.unusedVariables false
set_option linter.unusedSimpArgs false
/-! ### law21_WardTwice: function 5 -/
def law21_WardTwice.j0 : Nat → List (S44) → Int → Bool → Int → Int → Option (Bool)
 | 0, _, _, _, _, _ => none
 | k + 1, x0, x1, x25, x102000, x102001 => if x25 = true then (some true) else ((ward_Put.f k x0 (Int.tmod (wrap64 (x1)) 8) (wrap64 (x102000))).bind fun bt104 => ((ward_Put.f k bt104.1 (Int.tmod (wrap64 (x1)) 8) (wrap64 (x102001))).bind fun bt108 => ((ward_Put.f k x0 (Int.tmod (wrap64 (x1)) 8) (wrap64 (x102001))).bind fun bt112 => ((ward_Put.f k bt112.1 (Int.tmod (wrap64 (x1)) 8) (wrap64 (x102000))).bind fun bt116 => ((ward_Put.f k x0 (Int.tmod (wrap64 (x1)) 8) (wrap64 (mx x102000 x102001))).bind fun bt120 => (if bt108.2 = 0 then (if bt116.2 = 0 then (if bt120.2 = 0 then ((ref21_Same.f k bt108.1 bt116.1).bind fun t124 => (if t124 = true then ((ref21_Same.f k bt108.1 bt120.1).bind fun t125 => (if t125 = true then (if (bt108.1.length : Int) ≥ (x0.length : Int) then (some (decide ((bt108.1.length : Int) ≤ (wrap64 ((x0.length : Int) + 1))))) else (some false)) else (some false))) else (some false))) else (some false)) else (some false)) else (some false)))))))
def law21_WardTwice.f (k : Nat) (l0 : List (S44)) (a1 : Int) (a2_0 : Int) (a2_1 : Int) : Option (Bool) := (law21_alive.f k).bind fun t102 => (if t102 = true then (if (l0.length : Int) > 100 then (law21_WardTwice.j0 k l0 a1 true a2_0 a2_1) else ((ref21_Right.f k l0).bind fun t103 => (law21_WardTwice.j0 k l0 a1 (!t103) a2_0 a2_1))) else (some false))
theorem law21_WardTwice.mono_l : ∀ k, (∀ y0 y1 y2 y3 y4, LeO (law21_WardTwice.j0 k y0 y1 y2 y3 y4) (law21_WardTwice.j0 (k + 1) y0 y1 y2 y3 y4))
 | 0 => fun _ _ _ _ _ r h => by simp [law21_WardTwice.j0] at h
 | k + 1 => by
  have ih0 := law21_WardTwice.mono_l k
  ·intro y0 y1 y2 y3 y4
   unfold law21_WardTwice.j0
   repeat' first
   | (with_reducible exact ih0 _ _ _ _ _)
   | (with_reducible exact law21_alive.mono _)
   | (with_reducible exact ref21_Right.mono _ _)
   | (with_reducible exact ref21_Same.mono _ _ _)
   | (with_reducible exact ward_Put.mono _ _ _ _)
   | (with_reducible exact LeO.refl _)
   | (with_reducible exact LeO.none _)
   | (with_reducible refine LeO.ite ?_ ?_)
   | (with_reducible refine LeO.bind ?_ (fun _ => ?_))
   | exact ih0 _ _ _ _ _
   | exact law21_alive.mono _
   | exact ref21_Right.mono _ _
   | exact ref21_Same.mono _ _ _
   | exact ward_Put.mono _ _ _ _
   | exact LeO.none _
   | refine LeO.ite ?_ ?_
   | refine LeO.bind ?_ (fun _ => ?_)
theorem law21_WardTwice.mono : ∀ a0 a1 a2 a3 k, LeO (law21_WardTwice.f k a0 a1 a2 a3) (law21_WardTwice.f (k + 1) a0 a1 a2 a3) := by
 intro a0 a1 a2 a3 k
 have ih0 := law21_WardTwice.mono_l k
 unfold law21_WardTwice.f
 repeat' first
   | (with_reducible exact ih0 _ _ _ _ _)
   | (with_reducible exact law21_alive.mono _)
   | (with_reducible exact ref21_Right.mono _ _)
   | (with_reducible exact ref21_Same.mono _ _ _)
   | (with_reducible exact ward_Put.mono _ _ _ _)
   | (with_reducible exact LeO.refl _)
   | (with_reducible exact LeO.none _)
   | (with_reducible refine LeO.ite ?_ ?_)
   | (with_reducible refine LeO.bind ?_ (fun _ => ?_))
   | exact ih0 _ _ _ _ _
   | exact law21_alive.mono _
   | exact ref21_Right.mono _ _
   | exact ref21_Same.mono _ _ _
   | exact ward_Put.mono _ _ _ _
   | exact LeO.none _
   | refine LeO.ite ?_ ?_
   | refine LeO.bind ?_ (fun _ => ?_)
set_option maxHeartbeats 8000000 in
set_option maxRecDepth 100000 in
theorem law21_WardTwice.calls (k : Nat) (A0 : Option Addr) (c0 : Nat) (l0 : List (S44)) (a1 : Int) (a2_0 : Int) (a2_1 : Int) (r : Bool) (w : World) (hr0 : Kd.C k44 w A0 l0.length l0) (hc0 : l0.length ≤ c0) (h : law21_WardTwice.f k l0 a1 a2_0 a2_1 = some r) (hrt : r = true) :
  Calls Try.prog 5 #[.slice A0 l0.length c0, .int .u8 a1, .agg #[.int .u16 a2_0, .int .u16 a2_1]] w fun e w' => e = .returned (.bool r) ∧ Below w.heap.size w w' := by
 have HRT := Aside0.mk hrt
 clear hrt
 have hu31 := Try.underlying31
 have HR0 := Aside0.mk hr0
 have HC0 := Aside0.mk hc0
 clear hr0 hc0
 have HB := Aside0.mk (Below.refl w.heap.size w)
 have H : ((law21_alive.f k).bind fun t102 => (if t102 = true then (if (l0.length : Int) > 100 then (law21_WardTwice.j0 k l0 a1 true a2_0 a2_1) else ((ref21_Right.f k l0).bind fun t103 => (law21_WardTwice.j0 k l0 a1 (!t103) a2_0 a2_1))) else (some false))) = some r := h
 clear h
 replace H := ob_ H
 obtain ⟨t102, A40, H⟩ := H
 replace H : (if t102 = true then (if (l0.length : Int) > 100 then (law21_WardTwice.j0 k l0 a1 true a2_0 a2_1) else ((ref21_Right.f k l0).bind fun t103 => (law21_WardTwice.j0 k l0 a1 (!t103) a2_0 a2_1))) else (some false)) = some r := H
 have A4 := Aside0.mk A40
 clear A40
 by_cases c5 : t102 = true
 ·subst c5
  have H1 : (if (l0.length : Int) > 100 then (law21_WardTwice.j0 k l0 a1 true a2_0 a2_1) else ((ref21_Right.f k l0).bind fun t103 => (law21_WardTwice.j0 k l0 a1 (!t103) a2_0 a2_1))) = some r := by rw [if_pos rfl] at H; exact H
  clear H
  have H := H1
  clear H1
  have HC6 := Aside0.mk H
  clear H
  go_enter Try.func5, Try.ntmps5
  go_upto_region 3 with (first | ((with_reducible refine gate_dst (N := 5) rfl ?_); (try (refine gate_guard (by rfl) ?_; dsimp only)); refine box_event ?hg (N := 5) ?hd (cs := #[.int .u16 a2_0, .int .u16 a2_1]) (t := 31) ?hr ?_; (case hd => rfl); (case hg => rfl); (case hr => first | (go_simp; done) | (go_simp; rfl)); intro gb101 hg w7 hbox hb; have n0_ := Aside0.mk (qd_ (by repeat (first | (with_reducible first | exact HB.out | apply qb_ | apply qa_ | apply qc_) | exact HB.out)) hb); have n1_ := Aside0.mk (hbox); have n2_ := Aside0.mk ((by rw [hg]; exact (qg_ (by repeat (first | (with_reducible first | exact HB.out | apply qb_ | apply qa_ | apply qc_) | exact HB.out))) : w.heap.size ≤ gb101)); have n3_ := Aside0.mk ((by rw [hg]; exact (qg_ (by repeat (first | (with_reducible first | exact HB.out | apply qb_ | apply qa_ | apply qc_) | exact HB.out))) : w.heap.size ≤ gb101)); clear HB; have HB := n0_; have BK101 := n1_; have GW101 := n2_; have GE101 := n3_; clear n0_ n1_ n2_ n3_; clear hb hbox hg) | ((with_reducible refine gate_callee (f := 7) rfl ?_); refine goesL_ (some 16) rfl rfl Try.func7 (by kernel_rfl) rfl #[] rfl (by (try simp only [List.map_toArray, List.map_cons, List.map_nil]); first | done | rfl | (simp only [List.length_drop, List.length_take]; rfl)) ?_; (with_reducible refine (law21_alive.calls k  true _ A4.out).mono ?_); rintro e w8 ⟨rfl, hb⟩; refine ⟨_, rfl, ?_⟩; have n0_ := Aside0.mk (blk_below (g := gb101) (o := .cells #[.int .u16 a2_0, .int .u16 a2_1] 31 (0, 0)) (by (with_reducible repeat (first | refine qh_ ?_ _ | refine qj_ ?_ | refine qi_ ?_ _)); exact BK101.out) hb); have n1_ := Aside0.mk (qd_ (by repeat (first | (with_reducible first | exact HB.out | apply qb_ | apply qa_ | apply qc_ | refine qf_ ?_ GE101.out) | exact HB.out)) hb); clear BK101; clear HB; have BK101 := n0_; have HB := n1_; clear n0_ n1_; (try clear hb); (try clear hb2); (try clear hk); (try clear hi)))
  (try simp only [Act.put, sa_, sb_, sc_])
  go_cut [25] (fun v25 wc => ∃ (kq : Nat) (x25_5 : Bool), v25 = .bool x25_5 ∧ Aside0 (law21_WardTwice.j0 kq l0 a1 x25_5 a2_0 a2_1 = some r) ∧ Aside0 (kq ≤ k) ∧ Aside0 (wc.heap[gb101]? = some (.cells #[.int .u16 a2_0, .int .u16 a2_1] 31 (0, 0))) ∧ Aside0 (Below w.heap.size w wc))
  case first =>
   have H := HC6.out
   clear HC6
   by_cases c9 : (l0.length : Int) > 100
   ·rw [if_pos c9] at H
    have c9b0 : decide (100 < (l0.length : Int)) = true := decide_eq_true c9
    have c9b1 : decide (100 < l0.length) = true := decide_eq_true (by omega)
    clear c9
    (first | rw [c9b0] | (simp only [i64_w, i32_w]; rw [c9b0]) | skip)
    have H' := Aside0.mk H
    clear H
    go_wp2
    go_meet
    case rel => exact ⟨_, (true), (by first | rfl | (simp; done) | (simp [*]; done)), H', ⟨by first | omega | exact Nat.le_refl _⟩, ⟨by (with_reducible repeat (first | refine qh_ ?_ _ | refine qj_ ?_ | refine qi_ ?_ _)); exact BK101.out⟩, ⟨by repeat (first | (with_reducible first | exact HB.out | apply qb_ | apply qa_ | apply qc_ | refine qf_ ?_ GE101.out) | exact HB.out)⟩⟩
   ·rw [if_neg c9] at H
    have c9b0 : decide (100 < (l0.length : Int)) = false := decide_eq_false c9
    have c9b1 : decide (100 < l0.length) = false := decide_eq_false (by omega)
    clear c9
    (first | rw [c9b0] | (simp only [i64_w, i32_w]; rw [c9b0]) | skip)
    replace H := ob_ H
    obtain ⟨t103, A100, H⟩ := H
    replace H : (law21_WardTwice.j0 k l0 a1 (!t103) a2_0 a2_1) = some r := H
    have A10 := Aside0.mk A100
    clear A100
    have H' := Aside0.mk H
    clear H
    go_wp2_with (first | (go_at_call 12; (with_reducible refine (ref21_Right.calls k _ _ l0 t103 _ ?side1 ?side2 A10.out).mono ?_); (case side1 => repeat (first | exact (Kd.C_below HR0.out HB.out) | (with_reducible refine Kd.qq_ ?_ _) | (with_reducible refine Kd.qp_ ?_ _) | (with_reducible refine Kd.C_drew ?_))); (case side2 => exact HC0.out); rintro e w' ⟨rfl, ⟨nd, rfl⟩⟩))
    go_meet
    case rel => exact ⟨_, (!t103), (by first | rfl | (simp; done) | (simp [*]; done)), H', ⟨by first | omega | exact Nat.le_refl _⟩, ⟨by (with_reducible repeat (first | refine qh_ ?_ _ | refine qj_ ?_ | refine qi_ ?_ _)); exact BK101.out⟩, ⟨by repeat (first | (with_reducible first | exact HB.out | apply qb_ | apply qa_ | apply qc_ | refine qf_ ?_ GE101.out) | exact HB.out)⟩⟩
  case rest =>
   clear HC6
   try clear p2
   try clear c5
   try clear c7
   try clear c9
   try clear c9b0
   try clear c9b1
   obtain ⟨kq, x25_5, rfl, HA, HJ5, BK101, HB⟩ := hcut
   cases kq with
   | zero => exact absurd HA.out (by simp [law21_WardTwice.j0])
   | succ kj5 =>
    have H := HA.out
    clear HA
    simp only [law21_WardTwice.j0] at H
    by_cases c11 : x25_5 = true
    ·subst c11
     have H1 : (some true) = some r := by rw [if_pos rfl] at H; exact H
     clear H
     have H := H1
     clear H1
     obtain rfl := Option.some.inj H
     go_wp2
     go_ret
     exact ⟨by first | rfl | (simp [errW_none, errW_some] <;> rfl) | (simp [*, errW_none, errW_some] <;> rfl), by repeat (first | (with_reducible first | exact HB.out | apply qb_ | apply qa_ | apply qc_ | refine qf_ ?_ GE101.out) | exact HB.out)⟩
    ·replace c11 := Bool.eq_false_iff.mpr c11
     subst c11
     have H1 : ((ward_Put.f kj5 l0 (Int.tmod (wrap64 (a1)) 8) (wrap64 (a2_0))).bind fun bt104 => ((ward_Put.f kj5 bt104.1 (Int.tmod (wrap64 (a1)) 8) (wrap64 (a2_1))).bind fun bt108 => ((ward_Put.f kj5 l0 (Int.tmod (wrap64 (a1)) 8) (wrap64 (a2_1))).bind fun bt112 => ((ward_Put.f kj5 bt112.1 (Int.tmod (wrap64 (a1)) 8) (wrap64 (a2_0))).bind fun bt116 => ((ward_Put.f kj5 l0 (Int.tmod (wrap64 (a1)) 8) (wrap64 (mx a2_0 a2_1))).bind fun bt120 => (if bt108.2 = 0 then (if bt116.2 = 0 then (if bt120.2 = 0 then ((ref21_Same.f kj5 bt108.1 bt116.1).bind fun t124 => (if t124 = true then ((ref21_Same.f kj5 bt108.1 bt120.1).bind fun t125 => (if t125 = true then (if (bt108.1.length : Int) ≥ (l0.length : Int) then (some (decide ((bt108.1.length : Int) ≤ (wrap64 ((l0.length : Int) + 1))))) else (some false)) else (some false))) else (some false))) else (some false)) else (some false)) else (some false))))))) = some r := by rw [if_neg (show ¬ (false = true) by decide)] at H; exact H
     clear H
     have H := H1
     clear H1
     replace H := ob_ H
     obtain ⟨⟨t104, t107⟩, A120, H⟩ := H
     replace H : ((ward_Put.f kj5 t104 (Int.tmod (wrap64 (a1)) 8) (wrap64 (a2_1))).bind fun bt108 => ((ward_Put.f kj5 l0 (Int.tmod (wrap64 (a1)) 8) (wrap64 (a2_1))).bind fun bt112 => ((ward_Put.f kj5 bt112.1 (Int.tmod (wrap64 (a1)) 8) (wrap64 (a2_0))).bind fun bt116 => ((ward_Put.f kj5 l0 (Int.tmod (wrap64 (a1)) 8) (wrap64 (mx a2_0 a2_1))).bind fun bt120 => (if bt108.2 = 0 then (if bt116.2 = 0 then (if bt120.2 = 0 then ((ref21_Same.f kj5 bt108.1 bt116.1).bind fun t124 => (if t124 = true then ((ref21_Same.f kj5 bt108.1 bt120.1).bind fun t125 => (if t125 = true then (if (bt108.1.length : Int) ≥ (l0.length : Int) then (some (decide ((bt108.1.length : Int) ≤ (wrap64 ((l0.length : Int) + 1))))) else (some false)) else (some false))) else (some false))) else (some false)) else (some false)) else (some false)))))) = some r := H
     have A12 := Aside0.mk A120
     clear A120
     replace H := ob_ H
     obtain ⟨⟨t108, t111⟩, A130, H⟩ := H
     replace H : ((ward_Put.f kj5 l0 (Int.tmod (wrap64 (a1)) 8) (wrap64 (a2_1))).bind fun bt112 => ((ward_Put.f kj5 bt112.1 (Int.tmod (wrap64 (a1)) 8) (wrap64 (a2_0))).bind fun bt116 => ((ward_Put.f kj5 l0 (Int.tmod (wrap64 (a1)) 8) (wrap64 (mx a2_0 a2_1))).bind fun bt120 => (if t111 = 0 then (if bt116.2 = 0 then (if bt120.2 = 0 then ((ref21_Same.f kj5 t108 bt116.1).bind fun t124 => (if t124 = true then ((ref21_Same.f kj5 t108 bt120.1).bind fun t125 => (if t125 = true then (if (t108.length : Int) ≥ (l0.length : Int) then (some (decide ((t108.length : Int) ≤ (wrap64 ((l0.length : Int) + 1))))) else (some false)) else (some false))) else (some false))) else (some false)) else (some false)) else (some false))))) = some r := H
     have A13 := Aside0.mk A130
     clear A130
     replace H := ob_ H
     obtain ⟨⟨t112, t115⟩, A140, H⟩ := H
     replace H : ((ward_Put.f kj5 t112 (Int.tmod (wrap64 (a1)) 8) (wrap64 (a2_0))).bind fun bt116 => ((ward_Put.f kj5 l0 (Int.tmod (wrap64 (a1)) 8) (wrap64 (mx a2_0 a2_1))).bind fun bt120 => (if t111 = 0 then (if bt116.2 = 0 then (if bt120.2 = 0 then ((ref21_Same.f kj5 t108 bt116.1).bind fun t124 => (if t124 = true then ((ref21_Same.f kj5 t108 bt120.1).bind fun t125 => (if t125 = true then (if (t108.length : Int) ≥ (l0.length : Int) then (some (decide ((t108.length : Int) ≤ (wrap64 ((l0.length : Int) + 1))))) else (some false)) else (some false))) else (some false))) else (some false)) else (some false)) else (some false)))) = some r := H
     have A14 := Aside0.mk A140
     clear A140
     replace H := ob_ H
     obtain ⟨⟨t116, t119⟩, A150, H⟩ := H
     replace H : ((ward_Put.f kj5 l0 (Int.tmod (wrap64 (a1)) 8) (wrap64 (mx a2_0 a2_1))).bind fun bt120 => (if t111 = 0 then (if t119 = 0 then (if bt120.2 = 0 then ((ref21_Same.f kj5 t108 t116).bind fun t124 => (if t124 = true then ((ref21_Same.f kj5 t108 bt120.1).bind fun t125 => (if t125 = true then (if (t108.length : Int) ≥ (l0.length : Int) then (some (decide ((t108.length : Int) ≤ (wrap64 ((l0.length : Int) + 1))))) else (some false)) else (some false))) else (some false))) else (some false)) else (some false)) else (some false))) = some r := H
     have A15 := Aside0.mk A150
     clear A150
     obtain ⟨ji16, hji16⟩ : ∃ j_ : Int, (mx a2_0 a2_1) = j_ := ⟨_, rfl⟩
     replace H : ((ward_Put.f kj5 l0 (Int.tmod (wrap64 (a1)) 8) (wrap64 (ji16))).bind fun bt120 => (if t111 = 0 then (if t119 = 0 then (if bt120.2 = 0 then ((ref21_Same.f kj5 t108 t116).bind fun t124 => (if t124 = true then ((ref21_Same.f kj5 t108 bt120.1).bind fun t125 => (if t125 = true then (if (t108.length : Int) ≥ (l0.length : Int) then (some (decide ((t108.length : Int) ≤ (wrap64 ((l0.length : Int) + 1))))) else (some false)) else (some false))) else (some false))) else (some false)) else (some false)) else (some false))) = some r := by first | (rw [hji16] at H; exact H) | (simp only [hji16] at H ⊢; exact H)
     (try rw [hji16] at A12)
     (try rw [hji16] at A13)
     (try rw [hji16] at A14)
     (try rw [hji16] at A15)
     have hji16_ : (if a2_0 < a2_1 then a2_1 else a2_0) = ji16 := hji16
     replace H := ob_ H
     obtain ⟨⟨t120, t123⟩, A170, H⟩ := H
     replace H : (if t111 = 0 then (if t119 = 0 then (if t123 = 0 then ((ref21_Same.f kj5 t108 t116).bind fun t124 => (if t124 = true then ((ref21_Same.f kj5 t108 t120).bind fun t125 => (if t125 = true then (if (t108.length : Int) ≥ (l0.length : Int) then (some (decide ((t108.length : Int) ≤ (wrap64 ((l0.length : Int) + 1))))) else (some false)) else (some false))) else (some false))) else (some false)) else (some false)) else (some false)) = some r := H
     have A17 := Aside0.mk A170
     clear A170
     by_cases c18 : t111 = 0
     ·rw [if_pos c18] at H
      have c18b0 : (t111 == 0) = true := beq_iff_eq.mpr c18
      have c18b1 : (t111 != 0) = false := bne_eq_false_iff_eq.mpr c18
      clear c18
      by_cases c19 : t119 = 0
      ·rw [if_pos c19] at H
       have c19b0 : (t119 == 0) = true := beq_iff_eq.mpr c19
       have c19b1 : (t119 != 0) = false := bne_eq_false_iff_eq.mpr c19
       clear c19
       by_cases c20 : t123 = 0
       ·rw [if_pos c20] at H
        have c20b0 : (t123 == 0) = true := beq_iff_eq.mpr c20
        have c20b1 : (t123 != 0) = false := bne_eq_false_iff_eq.mpr c20
        clear c20
        replace H := ob_ H
        obtain ⟨t124, A210, H⟩ := H
        replace H : (if t124 = true then ((ref21_Same.f kj5 t108 t120).bind fun t125 => (if t125 = true then (if (t108.length : Int) ≥ (l0.length : Int) then (some (decide ((t108.length : Int) ≤ (wrap64 ((l0.length : Int) + 1))))) else (some false)) else (some false))) else (some false)) = some r := H
        have A21 := Aside0.mk A210
        clear A210
        by_cases c22 : t124 = true
        ·subst c22
         have H1 : ((ref21_Same.f kj5 t108 t120).bind fun t125 => (if t125 = true then (if (t108.length : Int) ≥ (l0.length : Int) then (some (decide ((t108.length : Int) ≤ (wrap64 ((l0.length : Int) + 1))))) else (some false)) else (some false))) = some r := by rw [if_pos rfl] at H; exact H
         clear H
         have H := H1
         clear H1
         replace H := ob_ H
         obtain ⟨t125, A230, H⟩ := H
         replace H : (if t125 = true then (if (t108.length : Int) ≥ (l0.length : Int) then (some (decide ((t108.length : Int) ≤ (wrap64 ((l0.length : Int) + 1))))) else (some false)) else (some false)) = some r := H
         have A23 := Aside0.mk A230
         clear A230
         by_cases c24 : t125 = true
         ·subst c24
          have H1 : (if (t108.length : Int) ≥ (l0.length : Int) then (some (decide ((t108.length : Int) ≤ (wrap64 ((l0.length : Int) + 1))))) else (some false)) = some r := by rw [if_pos rfl] at H; exact H
          clear H
          have H := H1
          clear H1
          by_cases c25 : (t108.length : Int) ≥ (l0.length : Int)
          ·rw [if_pos c25] at H
           have c25b0 : decide ((l0.length : Int) ≤ (t108.length : Int)) = true := decide_eq_true c25
           have c25b1 : decide (l0.length ≤ t108.length) = true := decide_eq_true (Int.ofNat_le.mp c25)
           clear c25
           obtain rfl := Option.some.inj H
           have hcz26_0 : wc.cell? ⟨gb101, 0, none⟩ = some (.int .u16 a2_0) := (qe_ BK101.out 0).trans rfl
           have hcz26_1 : wc.cell? ⟨gb101, 1, none⟩ = some (.int .u16 a2_1) := (qe_ BK101.out 1).trans rfl
           have hfz26_0 := qm_ BK101.out 0
           have hfz26_1 := qm_ BK101.out 1
           go_wp2_with (first | ((with_reducible refine gate_callee (f := 13) rfl ?_); refine goesL_ (some 35) rfl rfl Try.func13 (by kernel_rfl) rfl #[.slice A0 l0.length c0, .int .i64 (Int.tmod (wrap64 (a1)) 8), .int .i64 (wrap64 (a2_0))] rfl (by (try simp only [List.map_toArray, List.map_cons, List.map_nil]); first | done | rfl | (simp only [List.length_drop, List.length_take]; rfl)) ?_; (with_reducible refine (ward_Put.calls kj5 (fun k_ => k_ < w.heap.size) _ _ l0 (Int.tmod (wrap64 (a1)) 8) (wrap64 (a2_0)) t104 t107 _ ?side1 A12.out).mono ?_); (case side1 => exact Kd.V_mk HC0.out (Kd.F_below (Kd.C_F k44_heap HR0.out) (by repeat (first | (with_reducible first | exact HB.out | apply qb_ | apply qa_ | apply qc_ | refine qf_ ?_ GE101.out) | exact HB.out)))); rintro e w27 ⟨v105, rfl, ho0, hb⟩; refine ⟨_, rfl, ?_⟩; have n0_ := Aside0.mk (Kd.V_lower (Kd.V_mono (ok' := fun k_ => k_ ≠ gb101) ho0 (fun k_ hk_ => Or.elim hk_ (fun hs_ => fun e_ => Nat.not_le.2 hs_ (by rw [e_]; exact GW101.out)) (fun hn_ => (Kd.freshB (g := gb101) (o := .cells #[.int .u16 a2_0, .int .u16 a2_1] 31 (0, 0)) (by (with_reducible repeat (first | refine qh_ ?_ _ | refine qj_ ?_ | refine qi_ ?_ _)); exact BK101.out) k_ hn_)))) (qg_ (by repeat (first | (with_reducible first | exact HB.out | apply qb_ | apply qa_ | apply qc_ | refine qf_ ?_ GE101.out) | exact HB.out)))); have n1_ := Aside0.mk (blk_below (g := gb101) (o := .cells #[.int .u16 a2_0, .int .u16 a2_1] 31 (0, 0)) (by (with_reducible repeat (first | refine qh_ ?_ _ | refine qj_ ?_ | refine qi_ ?_ _)); exact BK101.out) hb); have n2_ := Aside0.mk (qd_ (by repeat (first | (with_reducible first | exact HB.out | apply qb_ | apply qa_ | apply qc_ | refine qf_ ?_ GE101.out) | exact HB.out)) hb); clear BK101; clear HB; have HO106 := n0_; have BK101 := n1_; have HB := n2_; clear n0_ n1_ n2_; (try clear hb); (try clear hb2); (try clear hk); (try clear hi); (try clear ho0); have hcz28_0 : w27.cell? ⟨gb101, 0, none⟩ = some (.int .u16 a2_0) := (qe_ BK101.out 0).trans rfl; have hcz28_1 : w27.cell? ⟨gb101, 1, none⟩ = some (.int .u16 a2_1) := (qe_ BK101.out 1).trans rfl; have hfz28_0 := qm_ BK101.out 0; have hfz28_1 := qm_ BK101.out 1; obtain ⟨Ao29, co29, eo29⟩ := Kd.V_slice HO106.out; subst eo29) | ((with_reducible refine gate_callee (f := 13) rfl ?_); refine goesL_ (some 44) rfl rfl Try.func13 (by kernel_rfl) rfl #[.slice Ao29 t104.length co29, .int .i64 (Int.tmod (wrap64 (a1)) 8), .int .i64 (wrap64 (a2_1))] rfl (by (try simp only [List.map_toArray, List.map_cons, List.map_nil]); first | done | rfl | (simp only [List.length_drop, List.length_take]; rfl)) ?_; (with_reducible refine (ward_Put.calls kj5 (fun k_ => k_ ≠ gb101) _ _ t104 (Int.tmod (wrap64 (a1)) 8) (wrap64 (a2_1)) t108 t111 _ ?side1 A13.out).mono ?_); (case side1 => exact HO106.out); rintro e w30 ⟨v109, rfl, ho0, hb⟩; refine ⟨_, rfl, ?_⟩; have n0_ := Aside0.mk (Kd.V_below (by (with_reducible repeat (first | apply Kd.qo_ | apply Kd.qn_ | apply Kd.V_drew)); exact HO106.out) hb); have n1_ := Aside0.mk (Kd.V_lower (Kd.V_mono (ok' := fun k_ => k_ ≠ gb101) ho0 (fun k_ hk_ => Or.elim hk_ (fun hs_ => hs_) (fun hn_ => (Kd.freshB (g := gb101) (o := .cells #[.int .u16 a2_0, .int .u16 a2_1] 31 (0, 0)) (by (with_reducible repeat (first | refine qh_ ?_ _ | refine qj_ ?_ | refine qi_ ?_ _)); exact BK101.out) k_ hn_)))) (qg_ (by repeat (first | (with_reducible first | exact HB.out | apply qb_ | apply qa_ | apply qc_ | refine qf_ ?_ GE101.out) | exact HB.out)))); have n2_ := Aside0.mk (blk_below (g := gb101) (o := .cells #[.int .u16 a2_0, .int .u16 a2_1] 31 (0, 0)) (by (with_reducible repeat (first | refine qh_ ?_ _ | refine qj_ ?_ | refine qi_ ?_ _)); exact BK101.out) hb); have n3_ := Aside0.mk (qd_ (by repeat (first | (with_reducible first | exact HB.out | apply qb_ | apply qa_ | apply qc_ | refine qf_ ?_ GE101.out) | exact HB.out)) hb); clear HO106; clear BK101; clear HB; have HO106 := n0_; have HO110 := n1_; have BK101 := n2_; have HB := n3_; clear n0_ n1_ n2_ n3_; (try clear hb); (try clear hb2); (try clear hk); (try clear hi); (try clear ho0); have hcz31_0 : w30.cell? ⟨gb101, 0, none⟩ = some (.int .u16 a2_0) := (qe_ BK101.out 0).trans rfl; have hcz31_1 : w30.cell? ⟨gb101, 1, none⟩ = some (.int .u16 a2_1) := (qe_ BK101.out 1).trans rfl; have hfz31_0 := qm_ BK101.out 0; have hfz31_1 := qm_ BK101.out 1) | ((with_reducible refine gate_callee (f := 13) rfl ?_); refine goesL_ (some 53) rfl rfl Try.func13 (by kernel_rfl) rfl #[.slice A0 l0.length c0, .int .i64 (Int.tmod (wrap64 (a1)) 8), .int .i64 (wrap64 (a2_1))] rfl (by (try simp only [List.map_toArray, List.map_cons, List.map_nil]); first | done | rfl | (simp only [List.length_drop, List.length_take]; rfl)) ?_; (with_reducible refine (ward_Put.calls kj5 (fun k_ => k_ < w.heap.size) _ _ l0 (Int.tmod (wrap64 (a1)) 8) (wrap64 (a2_1)) t112 t115 _ ?side1 A14.out).mono ?_); (case side1 => exact Kd.V_mk HC0.out (Kd.F_below (Kd.C_F k44_heap HR0.out) (by repeat (first | (with_reducible first | exact HB.out | apply qb_ | apply qa_ | apply qc_ | refine qf_ ?_ GE101.out) | exact HB.out)))); rintro e w32 ⟨v113, rfl, ho0, hb⟩; refine ⟨_, rfl, ?_⟩; have n0_ := Aside0.mk (Kd.V_below (by (with_reducible repeat (first | apply Kd.qo_ | apply Kd.qn_ | apply Kd.V_drew)); exact HO106.out) hb); have n1_ := Aside0.mk (Kd.V_below (by (with_reducible repeat (first | apply Kd.qo_ | apply Kd.qn_ | apply Kd.V_drew)); exact HO110.out) hb); have n2_ := Aside0.mk (Kd.V_lower (Kd.V_mono (ok' := fun k_ => k_ ≠ gb101) ho0 (fun k_ hk_ => Or.elim hk_ (fun hs_ => fun e_ => Nat.not_le.2 hs_ (by rw [e_]; exact GW101.out)) (fun hn_ => (Kd.freshB (g := gb101) (o := .cells #[.int .u16 a2_0, .int .u16 a2_1] 31 (0, 0)) (by (with_reducible repeat (first | refine qh_ ?_ _ | refine qj_ ?_ | refine qi_ ?_ _)); exact BK101.out) k_ hn_)))) (qg_ (by repeat (first | (with_reducible first | exact HB.out | apply qb_ | apply qa_ | apply qc_ | refine qf_ ?_ GE101.out) | exact HB.out)))); have n3_ := Aside0.mk (blk_below (g := gb101) (o := .cells #[.int .u16 a2_0, .int .u16 a2_1] 31 (0, 0)) (by (with_reducible repeat (first | refine qh_ ?_ _ | refine qj_ ?_ | refine qi_ ?_ _)); exact BK101.out) hb); have n4_ := Aside0.mk (qd_ (by repeat (first | (with_reducible first | exact HB.out | apply qb_ | apply qa_ | apply qc_ | refine qf_ ?_ GE101.out) | exact HB.out)) hb); clear HO106; clear HO110; clear BK101; clear HB; have HO106 := n0_; have HO110 := n1_; have HO114 := n2_; have BK101 := n3_; have HB := n4_; clear n0_ n1_ n2_ n3_ n4_; (try clear hb); (try clear hb2); (try clear hk); (try clear hi); (try clear ho0); have hcz33_0 : w32.cell? ⟨gb101, 0, none⟩ = some (.int .u16 a2_0) := (qe_ BK101.out 0).trans rfl; have hcz33_1 : w32.cell? ⟨gb101, 1, none⟩ = some (.int .u16 a2_1) := (qe_ BK101.out 1).trans rfl; have hfz33_0 := qm_ BK101.out 0; have hfz33_1 := qm_ BK101.out 1; obtain ⟨Ao34, co34, eo34⟩ := Kd.V_slice HO114.out; subst eo34) | ((with_reducible refine gate_callee (f := 13) rfl ?_); refine goesL_ (some 62) rfl rfl Try.func13 (by kernel_rfl) rfl #[.slice Ao34 t112.length co34, .int .i64 (Int.tmod (wrap64 (a1)) 8), .int .i64 (wrap64 (a2_0))] rfl (by (try simp only [List.map_toArray, List.map_cons, List.map_nil]); first | done | rfl | (simp only [List.length_drop, List.length_take]; rfl)) ?_; (with_reducible refine (ward_Put.calls kj5 (fun k_ => k_ ≠ gb101) _ _ t112 (Int.tmod (wrap64 (a1)) 8) (wrap64 (a2_0)) t116 t119 _ ?side1 A15.out).mono ?_); (case side1 => exact HO114.out); rintro e w35 ⟨v117, rfl, ho0, hb⟩; refine ⟨_, rfl, ?_⟩; have n0_ := Aside0.mk (Kd.V_below (by (with_reducible repeat (first | apply Kd.qo_ | apply Kd.qn_ | apply Kd.V_drew)); exact HO106.out) hb); have n1_ := Aside0.mk (Kd.V_below (by (with_reducible repeat (first | apply Kd.qo_ | apply Kd.qn_ | apply Kd.V_drew)); exact HO110.out) hb); have n2_ := Aside0.mk (Kd.V_below (by (with_reducible repeat (first | apply Kd.qo_ | apply Kd.qn_ | apply Kd.V_drew)); exact HO114.out) hb); have n3_ := Aside0.mk (Kd.V_lower (Kd.V_mono (ok' := fun k_ => k_ ≠ gb101) ho0 (fun k_ hk_ => Or.elim hk_ (fun hs_ => hs_) (fun hn_ => (Kd.freshB (g := gb101) (o := .cells #[.int .u16 a2_0, .int .u16 a2_1] 31 (0, 0)) (by (with_reducible repeat (first | refine qh_ ?_ _ | refine qj_ ?_ | refine qi_ ?_ _)); exact BK101.out) k_ hn_)))) (qg_ (by repeat (first | (with_reducible first | exact HB.out | apply qb_ | apply qa_ | apply qc_ | refine qf_ ?_ GE101.out) | exact HB.out)))); have n4_ := Aside0.mk (blk_below (g := gb101) (o := .cells #[.int .u16 a2_0, .int .u16 a2_1] 31 (0, 0)) (by (with_reducible repeat (first | refine qh_ ?_ _ | refine qj_ ?_ | refine qi_ ?_ _)); exact BK101.out) hb); have n5_ := Aside0.mk (qd_ (by repeat (first | (with_reducible first | exact HB.out | apply qb_ | apply qa_ | apply qc_ | refine qf_ ?_ GE101.out) | exact HB.out)) hb); clear HO106; clear HO110; clear HO114; clear BK101; clear HB; have HO106 := n0_; have HO110 := n1_; have HO114 := n2_; have HO118 := n3_; have BK101 := n4_; have HB := n5_; clear n0_ n1_ n2_ n3_ n4_ n5_; (try clear hb); (try clear hb2); (try clear hk); (try clear hi); (try clear ho0); have hcz36_0 : w35.cell? ⟨gb101, 0, none⟩ = some (.int .u16 a2_0) := (qe_ BK101.out 0).trans rfl; have hcz36_1 : w35.cell? ⟨gb101, 1, none⟩ = some (.int .u16 a2_1) := (qe_ BK101.out 1).trans rfl; have hfz36_0 := qm_ BK101.out 0; have hfz36_1 := qm_ BK101.out 1) | ((with_reducible refine gate_callee (f := 13) rfl ?_); refine goesL_ (some 74) rfl rfl Try.func13 (by kernel_rfl) rfl #[.slice A0 l0.length c0, .int .i64 (Int.tmod (wrap64 (a1)) 8), .int .i64 (wrap64 (ji16))] rfl (by (try simp only [List.map_toArray, List.map_cons, List.map_nil]); first | done | (simp only [hji16]; rfl) | rfl | (simp only [List.length_drop, List.length_take]; rfl)) ?_; (with_reducible refine (ward_Put.calls kj5 (fun k_ => k_ < w.heap.size) _ _ l0 (Int.tmod (wrap64 (a1)) 8) (wrap64 (ji16)) t120 t123 _ ?side1 A17.out).mono ?_); (case side1 => exact Kd.V_mk HC0.out (Kd.F_below (Kd.C_F k44_heap HR0.out) (by repeat (first | (with_reducible first | exact HB.out | apply qb_ | apply qa_ | apply qc_ | refine qf_ ?_ GE101.out) | exact HB.out)))); rintro e w37 ⟨v121, rfl, ho0, hb⟩; refine ⟨_, rfl, ?_⟩; have n0_ := Aside0.mk (Kd.V_below (by (with_reducible repeat (first | apply Kd.qo_ | apply Kd.qn_ | apply Kd.V_drew)); exact HO106.out) hb); have n1_ := Aside0.mk (Kd.V_below (by (with_reducible repeat (first | apply Kd.qo_ | apply Kd.qn_ | apply Kd.V_drew)); exact HO110.out) hb); have n2_ := Aside0.mk (Kd.V_below (by (with_reducible repeat (first | apply Kd.qo_ | apply Kd.qn_ | apply Kd.V_drew)); exact HO114.out) hb); have n3_ := Aside0.mk (Kd.V_below (by (with_reducible repeat (first | apply Kd.qo_ | apply Kd.qn_ | apply Kd.V_drew)); exact HO118.out) hb); have n4_ := Aside0.mk (Kd.V_lower (Kd.V_mono (ok' := fun k_ => k_ ≠ gb101) ho0 (fun k_ hk_ => Or.elim hk_ (fun hs_ => fun e_ => Nat.not_le.2 hs_ (by rw [e_]; exact GW101.out)) (fun hn_ => (Kd.freshB (g := gb101) (o := .cells #[.int .u16 a2_0, .int .u16 a2_1] 31 (0, 0)) (by (with_reducible repeat (first | refine qh_ ?_ _ | refine qj_ ?_ | refine qi_ ?_ _)); exact BK101.out) k_ hn_)))) (qg_ (by repeat (first | (with_reducible first | exact HB.out | apply qb_ | apply qa_ | apply qc_ | refine qf_ ?_ GE101.out) | exact HB.out)))); have n5_ := Aside0.mk (blk_below (g := gb101) (o := .cells #[.int .u16 a2_0, .int .u16 a2_1] 31 (0, 0)) (by (with_reducible repeat (first | refine qh_ ?_ _ | refine qj_ ?_ | refine qi_ ?_ _)); exact BK101.out) hb); have n6_ := Aside0.mk (qd_ (by repeat (first | (with_reducible first | exact HB.out | apply qb_ | apply qa_ | apply qc_ | refine qf_ ?_ GE101.out) | exact HB.out)) hb); clear HO106; clear HO110; clear HO114; clear HO118; clear BK101; clear HB; have HO106 := n0_; have HO110 := n1_; have HO114 := n2_; have HO118 := n3_; have HO122 := n4_; have BK101 := n5_; have HB := n6_; clear n0_ n1_ n2_ n3_ n4_ n5_ n6_; (try clear hb); (try clear hb2); (try clear hk); (try clear hi); (try clear ho0); obtain ⟨Ao38, co38, eo38⟩ := Kd.V_slice HO110.out; subst eo38; obtain ⟨Ao39, co39, eo39⟩ := Kd.V_slice HO118.out; subst eo39) | (go_at_call 16; (with_reducible refine (ref21_Same.calls kj5 _ _ t108 _ _ t116 true _ ?side1 ?side2 ?side3 ?side4 A21.out).mono ?_); (case side1 => repeat (first | exact (Kd.V_reads' HO110.out).2.2 | (with_reducible refine Kd.qq_ ?_ _) | (with_reducible refine Kd.qp_ ?_ _) | (with_reducible refine Kd.C_drew ?_))); (case side2 => exact (Kd.V_reads' HO110.out).2.1); (case side3 => repeat (first | exact (Kd.V_reads' HO118.out).2.2 | (with_reducible refine Kd.qq_ ?_ _) | (with_reducible refine Kd.qp_ ?_ _) | (with_reducible refine Kd.C_drew ?_))); (case side4 => exact (Kd.V_reads' HO118.out).2.1); rintro e w' ⟨rfl, ⟨nd, rfl⟩⟩; obtain ⟨Ao40, co40, eo40⟩ := Kd.V_slice HO122.out; subst eo40) | (go_at_call 16; (with_reducible refine (ref21_Same.calls kj5 _ _ t108 _ _ t120 true _ ?side1 ?side2 ?side3 ?side4 A23.out).mono ?_); (case side1 => repeat (first | exact (Kd.V_reads' HO110.out).2.2 | (with_reducible refine Kd.qq_ ?_ _) | (with_reducible refine Kd.qp_ ?_ _) | (with_reducible refine Kd.C_drew ?_))); (case side2 => exact (Kd.V_reads' HO110.out).2.1); (case side3 => repeat (first | exact (Kd.V_reads' HO122.out).2.2 | (with_reducible refine Kd.qq_ ?_ _) | (with_reducible refine Kd.qp_ ?_ _) | (with_reducible refine Kd.C_drew ?_))); (case side4 => exact (Kd.V_reads' HO122.out).2.1); rintro e w' ⟨rfl, ⟨nd, rfl⟩⟩))
           go_ret
           exact ⟨by first | rfl | (simp [errW_none, errW_some] <;> rfl) | (simp only [← hji16]; first | rfl | (simp [errW_none, errW_some] <;> rfl)) | (simp [*, errW_none, errW_some] <;> rfl), by repeat (first | (with_reducible first | exact HB.out | apply qb_ | apply qa_ | apply qc_ | refine qf_ ?_ GE101.out) | exact HB.out)⟩
          ·rw [if_neg c25] at H
           exact absurd ((Option.some.inj H).trans HRT.out) (by decide)
         ·rw [if_neg c24] at H
          exact absurd ((Option.some.inj H).trans HRT.out) (by decide)
        ·rw [if_neg c22] at H
         exact absurd ((Option.some.inj H).trans HRT.out) (by decide)
       ·rw [if_neg c20] at H
        exact absurd ((Option.some.inj H).trans HRT.out) (by decide)
      ·rw [if_neg c19] at H
       exact absurd ((Option.some.inj H).trans HRT.out) (by decide)
     ·rw [if_neg c18] at H
      exact absurd ((Option.some.inj H).trans HRT.out) (by decide)
 ·rw [if_neg c5] at H
  exact absurd ((Option.some.inj H).trans HRT.out) (by decide)
end Go.Proofs.Ytonggencfnaheaa.P

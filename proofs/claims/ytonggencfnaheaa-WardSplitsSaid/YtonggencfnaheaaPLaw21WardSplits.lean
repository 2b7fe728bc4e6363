/- What this function of the program comes to, and that the machine's call does it: written by a program (wip/tool). No condition. -/
import Derived.Test.YtonggencfnaheaaP0
import Derived.Test.YtonggencfnaheaaPWardSplit
import Derived.Test.YtonggencfnaheaaPWardPast
import Derived.Test.YtonggencfnaheaaPRef06Ints
import Derived.Test.YtonggencfnaheaaPLaw21Alive
import Derived.Test.YtonggencfnaheaaPRef21Split
import Derived.Test.YtonggencfnaheaaHw
namespace Go.Proofs.Ytonggencfnaheaa.P
open Go.RowKit Go.Proofs.YtonggencfnaheaaW.PrintWords Go.Proofs.YtonggencfnaheaaW.PrintLast Go.Proofs.YtonggencfnaheaaW.PrintMore
attribute [local go_sem] max2_int min2_int max_two min_two max_three min_three max_four min_four Go.Proofs.YtonggencfnaheaaW.Hw.string_gtr   -- for this text's walks alone
set_option linter.unusedVariables false
set_option linter.unusedSimpArgs false
/-! ### law21_WardSplits: function 3 -/
def law21_WardSplits.j0 : Nat → List (S44) → List Int → Int → Bool → Option (Bool)
 | 0, _, _, _, _ => none
 | k + 1, x0, x1, x2, x22 => if x22 = true then (some true) else ((ward_Split.f k x0 x1 x2).bind fun bt102 => ((ref21_Split.f k x0 x1 x2).bind fun bt108 => ((ward_Past.f x0 x2).bind fun t114 => ((ward_Split.f k t114 x1 x2).bind fun bt117 => ((ref06_Ints.f k bt102.1 bt108.1).bind fun t123 => (if t123 = true then ((ref06_Ints.f k bt102.2 bt108.2).bind fun t124 => (if t124 = true then ((ref06_Ints.f k bt102.1 bt117.1).bind fun t125 => (if t125 = true then ((ref06_Ints.f k bt102.2 bt117.2).bind fun t126 => (if t126 = true then (some ((wrap64 ((bt102.1.length : Int) + (bt102.2.length : Int))) == (x1.length : Int))) else (some false))) else (some false))) else (some false))) else (some false)))))))
def law21_WardSplits.f (k : Nat) (l0 : List (S44)) (l1 : List Int) (a2 : Int) : Option (Bool) := (law21_alive.f k).bind fun t101 => (if t101 = true then (if (l0.length : Int) > 100 then (law21_WardSplits.j0 k l0 l1 a2 true) else (law21_WardSplits.j0 k l0 l1 a2 (decide ((l1.length : Int) > 100)))) else (some false))
theorem law21_WardSplits.mono_l : ∀ k, (∀ y0 y1 y2 y3, LeO (law21_WardSplits.j0 k y0 y1 y2 y3) (law21_WardSplits.j0 (k + 1) y0 y1 y2 y3))
 | 0 => fun _ _ _ _ r h => by simp [law21_WardSplits.j0] at h
 | k + 1 => by
  have ih0 := law21_WardSplits.mono_l k
  ·intro y0 y1 y2 y3
   unfold law21_WardSplits.j0
   repeat' first
   | (with_reducible exact ih0 _ _ _ _)
   | (with_reducible exact law21_alive.mono _)
   | (with_reducible exact ref06_Ints.mono _ _ _)
   | (with_reducible exact ref21_Split.mono _ _ _ _)
   | (with_reducible exact ward_Split.mono _ _ _ _)
   | (with_reducible exact LeO.refl _)
   | (with_reducible exact LeO.none _)
   | (with_reducible refine LeO.ite ?_ ?_)
   | (with_reducible refine LeO.bind ?_ (fun _ => ?_))
   | exact ih0 _ _ _ _
   | exact law21_alive.mono _
   | exact ref06_Ints.mono _ _ _
   | exact ref21_Split.mono _ _ _ _
   | exact ward_Split.mono _ _ _ _
   | exact LeO.none _
   | refine LeO.ite ?_ ?_
   | refine LeO.bind ?_ (fun _ => ?_)
theorem law21_WardSplits.mono : ∀ a0 a1 a2 k, LeO (law21_WardSplits.f k a0 a1 a2) (law21_WardSplits.f (k + 1) a0 a1 a2) := by
 intro a0 a1 a2 k
 have ih0 := law21_WardSplits.mono_l k
 unfold law21_WardSplits.f
 repeat' first
   | (with_reducible exact ih0 _ _ _ _)
   | (with_reducible exact law21_alive.mono _)
   | (with_reducible exact ref06_Ints.mono _ _ _)
   | (with_reducible exact ref21_Split.mono _ _ _ _)
   | (with_reducible exact ward_Split.mono _ _ _ _)
   | (with_reducible exact LeO.refl _)
   | (with_reducible exact LeO.none _)
   | (with_reducible refine LeO.ite ?_ ?_)
   | (with_reducible refine LeO.bind ?_ (fun _ => ?_))
   | exact ih0 _ _ _ _
   | exact law21_alive.mono _
   | exact ref06_Ints.mono _ _ _
   | exact ref21_Split.mono _ _ _ _
   | exact ward_Split.mono _ _ _ _
   | exact LeO.none _
   | refine LeO.ite ?_ ?_
   | refine LeO.bind ?_ (fun _ => ?_)
set_option maxHeartbeats 8000000 in
set_option maxRecDepth 100000 in
theorem law21_WardSplits.calls (k : Nat) (A0 : Option Addr) (c0 : Nat) (l0 : List (S44)) (A1 : Option Addr) (c1 : Nat) (l1 : List Int) (a2 : Int) (r : Bool) (w : World) (hr0 : Kd.C k44 w A0 l0.length l0) (hc0 : l0.length ≤ c0) (hr1 : Kd.C (Kd.int .i64) w A1 l1.length l1) (hc1 : l1.length ≤ c1) (h : law21_WardSplits.f k l0 l1 a2 = some r) (hrt : r = true) :
  Calls Try.prog 3 #[.slice A0 l0.length c0, .slice A1 l1.length c1, .int .i64 a2] w fun e w' => e = .returned (.bool r) ∧ Below w.heap.size w w' := by
 have HRT := Aside0.mk hrt
 clear hrt
 have HR0 := Aside0.mk hr0
 have HC0 := Aside0.mk hc0
 clear hr0 hc0
 have HR1 := Aside0.mk hr1
 have HC1 := Aside0.mk hc1
 clear hr1 hc1
 have HB := Aside0.mk (Below.refl w.heap.size w)
 have H : ((law21_alive.f k).bind fun t101 => (if t101 = true then (if (l0.length : Int) > 100 then (law21_WardSplits.j0 k l0 l1 a2 true) else (law21_WardSplits.j0 k l0 l1 a2 (decide ((l1.length : Int) > 100)))) else (some false))) = some r := h
 clear h
 replace H := ob_ H
 obtain ⟨t101, A40, H⟩ := H
 replace H : (if t101 = true then (if (l0.length : Int) > 100 then (law21_WardSplits.j0 k l0 l1 a2 true) else (law21_WardSplits.j0 k l0 l1 a2 (decide ((l1.length : Int) > 100)))) else (some false)) = some r := H
 have A4 := Aside0.mk A40
 clear A40
 by_cases c5 : t101 = true
 ·subst c5
  have H1 : (if (l0.length : Int) > 100 then (law21_WardSplits.j0 k l0 l1 a2 true) else (law21_WardSplits.j0 k l0 l1 a2 (decide ((l1.length : Int) > 100)))) = some r := by rw [if_pos rfl] at H; exact H
  clear H
  have H := H1
  clear H1
  have HC6 := Aside0.mk H
  clear H
  go_enter Try.func3, Try.ntmps3
  go_upto_region 3 with (first | ((with_reducible refine gate_callee (f := 7) rfl ?_); refine goesL_ (some 13) rfl rfl Try.func7 (by kernel_rfl) rfl #[] rfl (by (try simp only [List.map_toArray, List.map_cons, List.map_nil]); first | done | rfl | (simp only [List.length_drop, List.length_take]; rfl)) ?_; (with_reducible refine (law21_alive.calls k  true _ A4.out).mono ?_); rintro e w7 ⟨rfl, hb⟩; refine ⟨_, rfl, ?_⟩; have n0_ := Aside0.mk (qd_ (by repeat (first | (with_reducible first | exact HB.out | apply qb_ | apply qa_ | apply qc_) | exact HB.out)) hb); clear HB; have HB := n0_; clear n0_; (try clear hb); (try clear hb2); (try clear hk); (try clear hi)))
  (try simp only [Act.put, sa_, sb_, sc_])
  go_cut [22] (fun v22 wc => ∃ (kq : Nat) (x22_5 : Bool), v22 = .bool x22_5 ∧ Aside0 (law21_WardSplits.j0 kq l0 l1 a2 x22_5 = some r) ∧ Aside0 (kq ≤ k) ∧ Aside0 (Below w.heap.size w wc))
  case first =>
   have H := HC6.out
   clear HC6
   by_cases c8 : (l0.length : Int) > 100
   ·rw [if_pos c8] at H
    have c8b0 : decide (100 < (l0.length : Int)) = true := decide_eq_true c8
    have c8b1 : decide (100 < l0.length) = true := decide_eq_true (by omega)
    clear c8
    (first | rw [c8b0] | (simp only [i64_w, i32_w]; rw [c8b0]) | skip)
    have H' := Aside0.mk H
    clear H
    go_wp2
    go_meet
    case rel => exact ⟨_, (true), (by first | rfl | (simp; done) | (simp [*]; done)), H', ⟨by first | omega | exact Nat.le_refl _⟩, ⟨by repeat (first | (with_reducible first | exact HB.out | apply qb_ | apply qa_ | apply qc_) | exact HB.out)⟩⟩
   ·rw [if_neg c8] at H
    have c8b0 : decide (100 < (l0.length : Int)) = false := decide_eq_false c8
    have c8b1 : decide (100 < l0.length) = false := decide_eq_false (by omega)
    clear c8
    (first | rw [c8b0] | (simp only [i64_w, i32_w]; rw [c8b0]) | skip)
    have H' := Aside0.mk H
    clear H
    go_wp2
    go_meet
    case rel => exact ⟨_, (decide ((l1.length : Int) > 100)), (by first | rfl | (simp; done) | (simp [*]; done)), H', ⟨by first | omega | exact Nat.le_refl _⟩, ⟨by repeat (first | (with_reducible first | exact HB.out | apply qb_ | apply qa_ | apply qc_) | exact HB.out)⟩⟩
  case rest =>
   clear HC6
   try clear c1
   try clear p2
   try clear c3
   try clear c5
   try clear c7
   try clear c8
   try clear c8b0
   try clear c8b1
   obtain ⟨kq, x22_5, rfl, HA, HJ5, HB⟩ := hcut
   cases kq with
   | zero => exact absurd HA.out (by simp [law21_WardSplits.j0])
   | succ kj5 =>
    have H := HA.out
    clear HA
    simp only [law21_WardSplits.j0] at H
    by_cases c9 : x22_5 = true
    ·subst c9
     have H1 : (some true) = some r := by rw [if_pos rfl] at H; exact H
     clear H
     have H := H1
     clear H1
     obtain rfl := Option.some.inj H
     go_wp2
     go_ret
     exact ⟨by first | rfl | (simp [errW_none, errW_some] <;> rfl) | (simp [*, errW_none, errW_some] <;> rfl), by repeat (first | (with_reducible first | exact HB.out | apply qb_ | apply qa_ | apply qc_) | exact HB.out)⟩
    ·replace c9 := Bool.eq_false_iff.mpr c9
     subst c9
     have H1 : ((ward_Split.f kj5 l0 l1 a2).bind fun bt102 => ((ref21_Split.f kj5 l0 l1 a2).bind fun bt108 => ((ward_Past.f l0 a2).bind fun t114 => ((ward_Split.f kj5 t114 l1 a2).bind fun bt117 => ((ref06_Ints.f kj5 bt102.1 bt108.1).bind fun t123 => (if t123 = true then ((ref06_Ints.f kj5 bt102.2 bt108.2).bind fun t124 => (if t124 = true then ((ref06_Ints.f kj5 bt102.1 bt117.1).bind fun t125 => (if t125 = true then ((ref06_Ints.f kj5 bt102.2 bt117.2).bind fun t126 => (if t126 = true then (some ((wrap64 ((bt102.1.length : Int) + (bt102.2.length : Int))) == (l1.length : Int))) else (some false))) else (some false))) else (some false))) else (some false))))))) = some r := by rw [if_neg (show ¬ (false = true) by decide)] at H; exact H
     clear H
     have H := H1
     clear H1
     replace H := ob_ H
     obtain ⟨⟨t102, t103⟩, A100, H⟩ := H
     replace H : ((ref21_Split.f kj5 l0 l1 a2).bind fun bt108 => ((ward_Past.f l0 a2).bind fun t114 => ((ward_Split.f kj5 t114 l1 a2).bind fun bt117 => ((ref06_Ints.f kj5 t102 bt108.1).bind fun t123 => (if t123 = true then ((ref06_Ints.f kj5 t103 bt108.2).bind fun t124 => (if t124 = true then ((ref06_Ints.f kj5 t102 bt117.1).bind fun t125 => (if t125 = true then ((ref06_Ints.f kj5 t103 bt117.2).bind fun t126 => (if t126 = true then (some ((wrap64 ((t102.length : Int) + (t103.length : Int))) == (l1.length : Int))) else (some false))) else (some false))) else (some false))) else (some false)))))) = some r := H
     have A10 := Aside0.mk A100
     clear A100
     replace H := ob_ H
     obtain ⟨⟨t108, t109⟩, A110, H⟩ := H
     replace H : ((ward_Past.f l0 a2).bind fun t114 => ((ward_Split.f kj5 t114 l1 a2).bind fun bt117 => ((ref06_Ints.f kj5 t102 t108).bind fun t123 => (if t123 = true then ((ref06_Ints.f kj5 t103 t109).bind fun t124 => (if t124 = true then ((ref06_Ints.f kj5 t102 bt117.1).bind fun t125 => (if t125 = true then ((ref06_Ints.f kj5 t103 bt117.2).bind fun t126 => (if t126 = true then (some ((wrap64 ((t102.length : Int) + (t103.length : Int))) == (l1.length : Int))) else (some false))) else (some false))) else (some false))) else (some false))))) = some r := H
     have A11 := Aside0.mk A110
     clear A110
     replace H := ob_ H
     obtain ⟨t114, A120, H⟩ := H
     replace H : ((ward_Split.f kj5 t114 l1 a2).bind fun bt117 => ((ref06_Ints.f kj5 t102 t108).bind fun t123 => (if t123 = true then ((ref06_Ints.f kj5 t103 t109).bind fun t124 => (if t124 = true then ((ref06_Ints.f kj5 t102 bt117.1).bind fun t125 => (if t125 = true then ((ref06_Ints.f kj5 t103 bt117.2).bind fun t126 => (if t126 = true then (some ((wrap64 ((t102.length : Int) + (t103.length : Int))) == (l1.length : Int))) else (some false))) else (some false))) else (some false))) else (some false)))) = some r := H
     have A12 := Aside0.mk A120
     clear A120
     replace H := ob_ H
     obtain ⟨⟨t117, t118⟩, A130, H⟩ := H
     replace H : ((ref06_Ints.f kj5 t102 t108).bind fun t123 => (if t123 = true then ((ref06_Ints.f kj5 t103 t109).bind fun t124 => (if t124 = true then ((ref06_Ints.f kj5 t102 t117).bind fun t125 => (if t125 = true then ((ref06_Ints.f kj5 t103 t118).bind fun t126 => (if t126 = true then (some ((wrap64 ((t102.length : Int) + (t103.length : Int))) == (l1.length : Int))) else (some false))) else (some false))) else (some false))) else (some false))) = some r := H
     have A13 := Aside0.mk A130
     clear A130
     replace H := ob_ H
     obtain ⟨t123, A140, H⟩ := H
     replace H : (if t123 = true then ((ref06_Ints.f kj5 t103 t109).bind fun t124 => (if t124 = true then ((ref06_Ints.f kj5 t102 t117).bind fun t125 => (if t125 = true then ((ref06_Ints.f kj5 t103 t118).bind fun t126 => (if t126 = true then (some ((wrap64 ((t102.length : Int) + (t103.length : Int))) == (l1.length : Int))) else (some false))) else (some false))) else (some false))) else (some false)) = some r := H
     have A14 := Aside0.mk A140
     clear A140
     by_cases c15 : t123 = true
     ·subst c15
      have H1 : ((ref06_Ints.f kj5 t103 t109).bind fun t124 => (if t124 = true then ((ref06_Ints.f kj5 t102 t117).bind fun t125 => (if t125 = true then ((ref06_Ints.f kj5 t103 t118).bind fun t126 => (if t126 = true then (some ((wrap64 ((t102.length : Int) + (t103.length : Int))) == (l1.length : Int))) else (some false))) else (some false))) else (some false))) = some r := by rw [if_pos rfl] at H; exact H
      clear H
      have H := H1
      clear H1
      replace H := ob_ H
      obtain ⟨t124, A160, H⟩ := H
      replace H : (if t124 = true then ((ref06_Ints.f kj5 t102 t117).bind fun t125 => (if t125 = true then ((ref06_Ints.f kj5 t103 t118).bind fun t126 => (if t126 = true then (some ((wrap64 ((t102.length : Int) + (t103.length : Int))) == (l1.length : Int))) else (some false))) else (some false))) else (some false)) = some r := H
      have A16 := Aside0.mk A160
      clear A160
      by_cases c17 : t124 = true
      ·subst c17
       have H1 : ((ref06_Ints.f kj5 t102 t117).bind fun t125 => (if t125 = true then ((ref06_Ints.f kj5 t103 t118).bind fun t126 => (if t126 = true then (some ((wrap64 ((t102.length : Int) + (t103.length : Int))) == (l1.length : Int))) else (some false))) else (some false))) = some r := by rw [if_pos rfl] at H; exact H
       clear H
       have H := H1
       clear H1
       replace H := ob_ H
       obtain ⟨t125, A180, H⟩ := H
       replace H : (if t125 = true then ((ref06_Ints.f kj5 t103 t118).bind fun t126 => (if t126 = true then (some ((wrap64 ((t102.length : Int) + (t103.length : Int))) == (l1.length : Int))) else (some false))) else (some false)) = some r := H
       have A18 := Aside0.mk A180
       clear A180
       by_cases c19 : t125 = true
       ·subst c19
        have H1 : ((ref06_Ints.f kj5 t103 t118).bind fun t126 => (if t126 = true then (some ((wrap64 ((t102.length : Int) + (t103.length : Int))) == (l1.length : Int))) else (some false))) = some r := by rw [if_pos rfl] at H; exact H
        clear H
        have H := H1
        clear H1
        replace H := ob_ H
        obtain ⟨t126, A200, H⟩ := H
        replace H : (if t126 = true then (some ((wrap64 ((t102.length : Int) + (t103.length : Int))) == (l1.length : Int))) else (some false)) = some r := H
        have A20 := Aside0.mk A200
        clear A200
        by_cases c21 : t126 = true
        ·subst c21
         have H1 : (some ((wrap64 ((t102.length : Int) + (t103.length : Int))) == (l1.length : Int))) = some r := by rw [if_pos rfl] at H; exact H
         clear H
         have H := H1
         clear H1
         obtain rfl := Option.some.inj H
         go_wp2_with (first | ((with_reducible refine gate_callee (f := 8) rfl ?_); refine goesL_ (some 27) rfl rfl Try.func8 (by kernel_rfl) rfl #[.slice A0 l0.length c0, .slice A1 l1.length c1, .int .i64 a2] rfl (by (try simp only [List.map_toArray, List.map_cons, List.map_nil]); first | done | rfl | (simp only [List.length_drop, List.length_take]; rfl)) ?_; (with_reducible refine (ward_Split.calls kj5 _ _ l0 _ _ l1 a2 t102 t103 _ ?side1 ?side2 ?side3 ?side4 A10.out).mono ?_); (case side1 => repeat (first | exact (Kd.C_below HR0.out HB.out) | (with_reducible refine Kd.qq_ ?_ _) | (with_reducible refine Kd.qp_ ?_ _) | (with_reducible refine Kd.C_drew ?_))); (case side2 => exact HC0.out); (case side3 => repeat (first | exact (Kd.C_below HR1.out HB.out) | (with_reducible refine Kd.qq_ ?_ _) | (with_reducible refine Kd.qp_ ?_ _) | (with_reducible refine Kd.C_drew ?_))); (case side4 => exact HC1.out); rintro e w22 ⟨v104, v106, rfl, ho0, ho1, hb⟩; refine ⟨_, rfl, ?_⟩; have n0_ := Aside0.mk (Kd.R_lower ho0 (qg_ (by repeat (first | (with_reducible first | exact HB.out | apply qb_ | apply qa_ | apply qc_) | exact HB.out)))); have n1_ := Aside0.mk (Kd.R_lower ho1 (qg_ (by repeat (first | (with_reducible first | exact HB.out | apply qb_ | apply qa_ | apply qc_) | exact HB.out)))); have n2_ := Aside0.mk (qd_ (by repeat (first | (with_reducible first | exact HB.out | apply qb_ | apply qa_ | apply qc_) | exact HB.out)) hb); clear HB; have HO105 := n0_; have HO107 := n1_; have HB := n2_; clear n0_ n1_ n2_; (try clear hb); (try clear hb2); (try clear hk); (try clear hi); (try clear ho0); (try clear ho1)) | ((with_reducible refine gate_callee (f := 9) rfl ?_); refine goesL_ (some 34) rfl rfl Try.func9 (by kernel_rfl) rfl #[.slice A0 l0.length c0, .slice A1 l1.length c1, .int .i64 a2] rfl (by (try simp only [List.map_toArray, List.map_cons, List.map_nil]); first | done | rfl | (simp only [List.length_drop, List.length_take]; rfl)) ?_; (with_reducible refine (ref21_Split.calls kj5 _ _ l0 _ _ l1 a2 t108 t109 _ ?side1 ?side2 ?side3 ?side4 A11.out).mono ?_); (case side1 => repeat (first | exact (Kd.C_below HR0.out HB.out) | (with_reducible refine Kd.qq_ ?_ _) | (with_reducible refine Kd.qp_ ?_ _) | (with_reducible refine Kd.C_drew ?_))); (case side2 => exact HC0.out); (case side3 => repeat (first | exact (Kd.C_below HR1.out HB.out) | (with_reducible refine Kd.qq_ ?_ _) | (with_reducible refine Kd.qp_ ?_ _) | (with_reducible refine Kd.C_drew ?_))); (case side4 => exact HC1.out); rintro e w23 ⟨v110, v112, rfl, ho0, ho1, hb⟩; refine ⟨_, rfl, ?_⟩; have n0_ := Aside0.mk (Kd.R_mono (Kd.R_told (Kd.R_told (Kd.R_old (by (with_reducible repeat (first | apply Kd.ql_ | apply Kd.qk_ | apply Kd.R_drew)); exact HO105.out) hb) (Kd.R_base ho0)) (Kd.R_base ho1)) (fun _ h_ => h_.1)); have n1_ := Aside0.mk (Kd.R_mono (Kd.R_told (Kd.R_told (Kd.R_old (by (with_reducible repeat (first | apply Kd.ql_ | apply Kd.qk_ | apply Kd.R_drew)); exact HO107.out) hb) (Kd.R_base ho0)) (Kd.R_base ho1)) (fun _ h_ => h_.1)); have n2_ := Aside0.mk (Kd.R_lower (Kd.R_new' (Kd.R_new' ho0 (Kd.R_lt (by (with_reducible repeat (first | apply Kd.ql_ | apply Kd.qk_ | apply Kd.R_drew)); exact HO105.out))) (Kd.R_lt (by (with_reducible repeat (first | apply Kd.ql_ | apply Kd.qk_ | apply Kd.R_drew)); exact HO107.out))) (qg_ (by repeat (first | (with_reducible first | exact HB.out | apply qb_ | apply qa_ | apply qc_) | exact HB.out)))); have n3_ := Aside0.mk (Kd.R_lower (Kd.R_new' (Kd.R_new' ho1 (Kd.R_lt (by (with_reducible repeat (first | apply Kd.ql_ | apply Kd.qk_ | apply Kd.R_drew)); exact HO105.out))) (Kd.R_lt (by (with_reducible repeat (first | apply Kd.ql_ | apply Kd.qk_ | apply Kd.R_drew)); exact HO107.out))) (qg_ (by repeat (first | (with_reducible first | exact HB.out | apply qb_ | apply qa_ | apply qc_) | exact HB.out)))); have n4_ := Aside0.mk (qd_ (by repeat (first | (with_reducible first | exact HB.out | apply qb_ | apply qa_ | apply qc_) | exact HB.out)) hb); clear HO105; clear HO107; clear HB; have HO105 := n0_; have HO107 := n1_; have HO111 := n2_; have HO113 := n3_; have HB := n4_; clear n0_ n1_ n2_ n3_ n4_; (try clear hb); (try clear hb2); (try clear hk); (try clear hi); (try clear ho0); (try clear ho1)) | ((with_reducible refine gate_callee (f := 10) rfl ?_); refine goesL_ (some 40) rfl rfl Try.func10 (by kernel_rfl) rfl #[.slice A0 l0.length c0, .int .i64 a2] rfl (by (try simp only [List.map_toArray, List.map_cons, List.map_nil]); first | done | rfl | (simp only [List.length_drop, List.length_take]; rfl)) ?_; (with_reducible refine (ward_Past.calls _ _ l0 a2 t114 _ ?side1 ?side2 A12.out).mono ?_); (case side1 => repeat (first | exact (Kd.C_below HR0.out HB.out) | (with_reducible refine Kd.qq_ ?_ _) | (with_reducible refine Kd.qp_ ?_ _) | (with_reducible refine Kd.C_drew ?_))); (case side2 => exact HC0.out); rintro e w24 ⟨v115, rfl, ho0, hb⟩; refine ⟨_, rfl, ?_⟩; have n0_ := Aside0.mk (Kd.R_below (by (with_reducible repeat (first | apply Kd.ql_ | apply Kd.qk_ | apply Kd.R_drew)); exact HO105.out) hb); have n1_ := Aside0.mk (Kd.R_below (by (with_reducible repeat (first | apply Kd.ql_ | apply Kd.qk_ | apply Kd.R_drew)); exact HO107.out) hb); have n2_ := Aside0.mk (Kd.R_below (by (with_reducible repeat (first | apply Kd.ql_ | apply Kd.qk_ | apply Kd.R_drew)); exact HO111.out) hb); have n3_ := Aside0.mk (Kd.R_below (by (with_reducible repeat (first | apply Kd.ql_ | apply Kd.qk_ | apply Kd.R_drew)); exact HO113.out) hb); have n4_ := Aside0.mk (Kd.R_lower ho0 (qg_ (by repeat (first | (with_reducible first | exact HB.out | apply qb_ | apply qa_ | apply qc_) | exact HB.out)))); have n5_ := Aside0.mk (qd_ (by repeat (first | (with_reducible first | exact HB.out | apply qb_ | apply qa_ | apply qc_) | exact HB.out)) hb); clear HO105; clear HO107; clear HO111; clear HO113; clear HB; have HO105 := n0_; have HO107 := n1_; have HO111 := n2_; have HO113 := n3_; have HO116 := n4_; have HB := n5_; clear n0_ n1_ n2_ n3_ n4_ n5_; (try clear hb); (try clear hb2); (try clear hk); (try clear hi); (try clear ho0); obtain ⟨Ao25, co25, eo25⟩ := Kd.R_slice HO116.out; subst eo25) | ((with_reducible refine gate_callee (f := 8) rfl ?_); refine goesL_ (some 43) rfl rfl Try.func8 (by kernel_rfl) rfl #[.slice Ao25 t114.length co25, .slice A1 l1.length c1, .int .i64 a2] rfl (by (try simp only [List.map_toArray, List.map_cons, List.map_nil]); first | done | rfl | (simp only [List.length_drop, List.length_take]; rfl)) ?_; (with_reducible refine (ward_Split.calls kj5 _ _ t114 _ _ l1 a2 t117 t118 _ ?side1 ?side2 ?side3 ?side4 A13.out).mono ?_); (case side1 => repeat (first | exact (Kd.R_reads' HO116.out).2.2 | (with_reducible refine Kd.qq_ ?_ _) | (with_reducible refine Kd.qp_ ?_ _) | (with_reducible refine Kd.C_drew ?_))); (case side2 => exact (Kd.R_reads' HO116.out).2.1); (case side3 => repeat (first | exact (Kd.C_below HR1.out HB.out) | (with_reducible refine Kd.qq_ ?_ _) | (with_reducible refine Kd.qp_ ?_ _) | (with_reducible refine Kd.C_drew ?_))); (case side4 => exact HC1.out); rintro e w26 ⟨v119, v121, rfl, ho0, ho1, hb⟩; refine ⟨_, rfl, ?_⟩; have n0_ := Aside0.mk (Kd.R_mono (Kd.R_told (Kd.R_told (Kd.R_old (by (with_reducible repeat (first | apply Kd.ql_ | apply Kd.qk_ | apply Kd.R_drew)); exact HO105.out) hb) (Kd.R_base ho0)) (Kd.R_base ho1)) (fun _ h_ => h_.1)); have n1_ := Aside0.mk (Kd.R_mono (Kd.R_told (Kd.R_told (Kd.R_old (by (with_reducible repeat (first | apply Kd.ql_ | apply Kd.qk_ | apply Kd.R_drew)); exact HO107.out) hb) (Kd.R_base ho0)) (Kd.R_base ho1)) (fun _ h_ => h_.1)); have n2_ := Aside0.mk (Kd.R_mono (Kd.R_told (Kd.R_told (Kd.R_old (by (with_reducible repeat (first | apply Kd.ql_ | apply Kd.qk_ | apply Kd.R_drew)); exact HO111.out) hb) (Kd.R_base ho0)) (Kd.R_base ho1)) (fun _ h_ => h_.1)); have n3_ := Aside0.mk (Kd.R_mono (Kd.R_told (Kd.R_told (Kd.R_old (by (with_reducible repeat (first | apply Kd.ql_ | apply Kd.qk_ | apply Kd.R_drew)); exact HO113.out) hb) (Kd.R_base ho0)) (Kd.R_base ho1)) (fun _ h_ => h_.1)); have n4_ := Aside0.mk (Kd.R_below (by (with_reducible repeat (first | apply Kd.ql_ | apply Kd.qk_ | apply Kd.R_drew)); exact HO116.out) hb); have n5_ := Aside0.mk (Kd.R_lower (Kd.R_new' (Kd.R_new' (Kd.R_new' (Kd.R_new' ho0 (Kd.R_lt (by (with_reducible repeat (first | apply Kd.ql_ | apply Kd.qk_ | apply Kd.R_drew)); exact HO105.out))) (Kd.R_lt (by (with_reducible repeat (first | apply Kd.ql_ | apply Kd.qk_ | apply Kd.R_drew)); exact HO107.out))) (Kd.R_lt (by (with_reducible repeat (first | apply Kd.ql_ | apply Kd.qk_ | apply Kd.R_drew)); exact HO111.out))) (Kd.R_lt (by (with_reducible repeat (first | apply Kd.ql_ | apply Kd.qk_ | apply Kd.R_drew)); exact HO113.out))) (qg_ (by repeat (first | (with_reducible first | exact HB.out | apply qb_ | apply qa_ | apply qc_) | exact HB.out)))); have n6_ := Aside0.mk (Kd.R_lower (Kd.R_new' (Kd.R_new' (Kd.R_new' (Kd.R_new' ho1 (Kd.R_lt (by (with_reducible repeat (first | apply Kd.ql_ | apply Kd.qk_ | apply Kd.R_drew)); exact HO105.out))) (Kd.R_lt (by (with_reducible repeat (first | apply Kd.ql_ | apply Kd.qk_ | apply Kd.R_drew)); exact HO107.out))) (Kd.R_lt (by (with_reducible repeat (first | apply Kd.ql_ | apply Kd.qk_ | apply Kd.R_drew)); exact HO111.out))) (Kd.R_lt (by (with_reducible repeat (first | apply Kd.ql_ | apply Kd.qk_ | apply Kd.R_drew)); exact HO113.out))) (qg_ (by repeat (first | (with_reducible first | exact HB.out | apply qb_ | apply qa_ | apply qc_) | exact HB.out)))); have n7_ := Aside0.mk (qd_ (by repeat (first | (with_reducible first | exact HB.out | apply qb_ | apply qa_ | apply qc_) | exact HB.out)) hb); clear HO105; clear HO107; clear HO111; clear HO113; clear HO116; clear HB; have HO105 := n0_; have HO107 := n1_; have HO111 := n2_; have HO113 := n3_; have HO116 := n4_; have HO120 := n5_; have HO122 := n6_; have HB := n7_; clear n0_ n1_ n2_ n3_ n4_ n5_ n6_ n7_; (try clear hb); (try clear hb2); (try clear hk); (try clear hi); (try clear ho0); (try clear ho1); obtain ⟨Ao27, co27, eo27⟩ := Kd.R_slice HO105.out; subst eo27; obtain ⟨Ao28, co28, eo28⟩ := Kd.R_slice HO111.out; subst eo28) | ((with_reducible refine gate_callee (f := 11) rfl ?_); refine goesL_ (some 48) rfl rfl Try.func11 (by kernel_rfl) rfl #[.slice Ao27 t102.length co27, .slice Ao28 t108.length co28] rfl (by (try simp only [List.map_toArray, List.map_cons, List.map_nil]); first | done | rfl | (simp only [List.length_drop, List.length_take]; rfl)) ?_; (with_reducible refine (ref06_Ints.calls kj5 _ _ t102 _ _ t108 true _ ?side1 ?side2 ?side3 ?side4 A14.out).mono ?_); (case side1 => repeat (first | exact (Kd.R_reads' HO105.out).2.2 | (with_reducible refine Kd.qq_ ?_ _) | (with_reducible refine Kd.qp_ ?_ _) | (with_reducible refine Kd.C_drew ?_))); (case side2 => exact (Kd.R_reads' HO105.out).2.1); (case side3 => repeat (first | exact (Kd.R_reads' HO111.out).2.2 | (with_reducible refine Kd.qq_ ?_ _) | (with_reducible refine Kd.qp_ ?_ _) | (with_reducible refine Kd.C_drew ?_))); (case side4 => exact (Kd.R_reads' HO111.out).2.1); rintro e w' ⟨rfl, ⟨nd, rfl⟩⟩; refine ⟨_, rfl, ?_⟩; obtain ⟨Ao29, co29, eo29⟩ := Kd.R_slice HO107.out; subst eo29; obtain ⟨Ao30, co30, eo30⟩ := Kd.R_slice HO113.out; subst eo30) | (go_at_call 11; (with_reducible refine (ref06_Ints.calls kj5 _ _ t103 _ _ t109 true _ ?side1 ?side2 ?side3 ?side4 A16.out).mono ?_); (case side1 => repeat (first | exact (Kd.R_reads' HO107.out).2.2 | (with_reducible refine Kd.qq_ ?_ _) | (with_reducible refine Kd.qp_ ?_ _) | (with_reducible refine Kd.C_drew ?_))); (case side2 => exact (Kd.R_reads' HO107.out).2.1); (case side3 => repeat (first | exact (Kd.R_reads' HO113.out).2.2 | (with_reducible refine Kd.qq_ ?_ _) | (with_reducible refine Kd.qp_ ?_ _) | (with_reducible refine Kd.C_drew ?_))); (case side4 => exact (Kd.R_reads' HO113.out).2.1); rintro e w' ⟨rfl, ⟨nd, rfl⟩⟩; obtain ⟨Ao31, co31, eo31⟩ := Kd.R_slice HO120.out; subst eo31) | (go_at_call 11; (with_reducible refine (ref06_Ints.calls kj5 _ _ t102 _ _ t117 true _ ?side1 ?side2 ?side3 ?side4 A18.out).mono ?_); (case side1 => repeat (first | exact (Kd.R_reads' HO105.out).2.2 | (with_reducible refine Kd.qq_ ?_ _) | (with_reducible refine Kd.qp_ ?_ _) | (with_reducible refine Kd.C_drew ?_))); (case side2 => exact (Kd.R_reads' HO105.out).2.1); (case side3 => repeat (first | exact (Kd.R_reads' HO120.out).2.2 | (with_reducible refine Kd.qq_ ?_ _) | (with_reducible refine Kd.qp_ ?_ _) | (with_reducible refine Kd.C_drew ?_))); (case side4 => exact (Kd.R_reads' HO120.out).2.1); rintro e w' ⟨rfl, ⟨nd, rfl⟩⟩; obtain ⟨Ao32, co32, eo32⟩ := Kd.R_slice HO122.out; subst eo32) | (go_at_call 11; (with_reducible refine (ref06_Ints.calls kj5 _ _ t103 _ _ t118 true _ ?side1 ?side2 ?side3 ?side4 A20.out).mono ?_); (case side1 => repeat (first | exact (Kd.R_reads' HO107.out).2.2 | (with_reducible refine Kd.qq_ ?_ _) | (with_reducible refine Kd.qp_ ?_ _) | (with_reducible refine Kd.C_drew ?_))); (case side2 => exact (Kd.R_reads' HO107.out).2.1); (case side3 => repeat (first | exact (Kd.R_reads' HO122.out).2.2 | (with_reducible refine Kd.qq_ ?_ _) | (with_reducible refine Kd.qp_ ?_ _) | (with_reducible refine Kd.C_drew ?_))); (case side4 => exact (Kd.R_reads' HO122.out).2.1); rintro e w' ⟨rfl, ⟨nd, rfl⟩⟩))
         go_ret
         exact ⟨by first | rfl | (simp [errW_none, errW_some] <;> rfl) | (simp [*, errW_none, errW_some] <;> rfl), by repeat (first | (with_reducible first | exact HB.out | apply qb_ | apply qa_ | apply qc_) | exact HB.out)⟩
        ·rw [if_neg c21] at H
         exact absurd ((Option.some.inj H).trans HRT.out) (by decide)
       ·rw [if_neg c19] at H
        exact absurd ((Option.some.inj H).trans HRT.out) (by decide)
      ·rw [if_neg c17] at H
       exact absurd ((Option.some.inj H).trans HRT.out) (by decide)
     ·rw [if_neg c15] at H
      exact absurd ((Option.some.inj H).trans HRT.out) (by decide)
 ·rw [if_neg c5] at H
  exact absurd ((Option.some.inj H).trans HRT.out) (by decide)
end Go.Proofs.Ytonggencfnaheaa.P

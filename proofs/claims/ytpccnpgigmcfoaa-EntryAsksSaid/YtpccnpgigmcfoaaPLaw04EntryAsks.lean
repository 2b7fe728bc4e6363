/- What this function of the program comes to, and that the machine's call does it: written by a program (wip/tool). No condition. -/
import Derived.Test.YtpccnpgigmcfoaaP0
import Derived.Test.YtpccnpgigmcfoaaPEq0
import Derived.Test.YtpccnpgigmcfoaaPRef04Same
import Derived.Test.YtpccnpgigmcfoaaPEntryGet
import Derived.Test.YtpccnpgigmcfoaaPEntryMay
import Derived.Test.YtpccnpgigmcfoaaPEntryRight
import Derived.Test.YtpccnpgigmcfoaaPEntryTop
import Derived.Test.YtpccnpgigmcfoaaPEntryAbove
import Derived.Test.YtpccnpgigmcfoaaPLaw04Alive
import Derived.Test.YtpccnpgigmcfoaaPRef04Great
import Derived.Test.YtpccnpgigmcfoaaPRef04May
import Derived.Test.YtpccnpgigmcfoaaPRef04Right
import Derived.Test.YtpccnpgigmcfoaaPRef04Get
import Derived.Test.YtpccnpgigmcfoaaPRef04Above
import Derived.Test.YtpccnpgigmcfoaaPRef04Top
import Derived.Test.YtpccnpgigmcfoaaPEntrySame
import Derived.Test.YtpccnpgigmcfoaaHw
namespace Go.Proofs.Ytpccnpgigmcfoaa.P
open Go.RowKit Go.Proofs.YtpccnpgigmcfoaaW.PrintWords Go.Proofs.YtpccnpgigmcfoaaW.PrintLast Go.Proofs.YtpccnpgigmcfoaaW.PrintMore
attribute [local go_sem] max2_int min2_int max_two min_two max_three min_three max_four min_four Go.Proofs.YtpccnpgigmcfoaaW.Hw.string_gtr   -- for this text's walks alone
set_option linter.unusedVariables false
set_option linter.unusedSimpArgs false
attribute [local go_sem high] eqA30
/-! ### law04_EntryAsks: function 5 -/
mutual
def law04_EntryAsks.j0 : Nat → List (S30) → List (S30) → Int → Bool → Option (Bool)
 | 0, _, _, _, _ => none
 | k + 1, x0, x1, x2, x19 => if x19 = true then (some true) else ((entry_Get.f x0 x2).bind fun bt104 => ((ref04_Get.f k x0 x2).bind fun bt109 => (law04_EntryAsks.l0 k x0 x1 x2 bt104.2.2.2 bt109.2.2.2 0 bt104.1 bt104.2.1 bt104.2.2.1 bt109.1 bt109.2.1 bt109.2.2.1)))
def law04_EntryAsks.l0 : Nat → List (S30) → List (S30) → Int → Bool → Bool → Int → Int → Int → ByteArray → Int → Int → ByteArray → Option (Bool)
 | 0, _, _, _, _, _, _, _, _, _, _, _, _ => none
 | k + 1, x0, x1, x2, x8, x10, x11, x109000, x109001, x109002, x114000, x114001, x114002 => if x11 < (x0.length : Int) then (if 0 ≤ x11 then ((entry_May.f ((rd_T30 x0 x11).f0) ((rd_T30 x0 x11).f1) ((rd_T30 x0 x11).f2)).bind fun t115 => ((ref04_May.f ((rd_T30 x0 x11).f0) ((rd_T30 x0 x11).f1) ((rd_T30 x0 x11).f2)).bind fun t117 => (if (t115 != t117) = true then (some false) else (law04_EntryAsks.l0 k x0 x1 x2 x8 x10 (wrap64 (x11 + 1)) x109000 x109001 x109002 x114000 x114001 x114002)))) else (none)) else (if (x109000 == x114000 && (x109001 == x114001 && (x109002.toList == x114002.toList))) = true then (if (x8 == x10) = true then ((entry_Above.f x0 x2).bind fun t118 => ((ref04_Above.f k x0 x2).bind fun t121 => ((ref04_Same.f k t118 t121).bind fun t124 => (if t124 = true then ((entry_Top.f k x0).bind fun t125 => ((ref04_Top.f k x0).bind fun t126 => (if t125 = t126 then ((entry_Right.f k x0).bind fun t127 => ((ref04_Right.f k x0).bind fun t128 => (if (t127 == t128) = true then ((entry_Same.f k x0 x1).bind fun t129 => ((ref04_Same.f k x0 x1).bind fun t130 => (if (t129 == t130) = true then ((entry_Same.f k x0 x0).bind fun t131 => (some t131)) else (some false)))) else (some false)))) else (some false)))) else (some false))))) else (some false)) else (some false))
end
def law04_EntryAsks.f (k : Nat) (l0 : List (S30)) (l1 : List (S30)) (a2 : Int) : Option (Bool) := (law04_alive.f k).bind fun t101 => (if t101 = true then ((ref04_Great.f k l0).bind fun t102 => (if t102 = true then (law04_EntryAsks.j0 k l0 l1 a2 true) else ((ref04_Great.f k l1).bind fun t103 => (law04_EntryAsks.j0 k l0 l1 a2 t103)))) else (some false))
theorem law04_EntryAsks.mono_l : ∀ k, (∀ y0 y1 y2 y3, LeO (law04_EntryAsks.j0 k y0 y1 y2 y3) (law04_EntryAsks.j0 (k + 1) y0 y1 y2 y3)) ∧ (∀ y0 y1 y2 y3 y4 y5 y6 y7 y8 y9 y10 y11, LeO (law04_EntryAsks.l0 k y0 y1 y2 y3 y4 y5 y6 y7 y8 y9 y10 y11) (law04_EntryAsks.l0 (k + 1) y0 y1 y2 y3 y4 y5 y6 y7 y8 y9 y10 y11))
 | 0 => ⟨fun _ _ _ _ r h => by simp [law04_EntryAsks.j0] at h, fun _ _ _ _ _ _ _ _ _ _ _ _ r h => by simp [law04_EntryAsks.l0] at h⟩
 | k + 1 => by
  obtain ⟨ih0, ih1⟩ := law04_EntryAsks.mono_l k
  refine ⟨?_, ?_⟩
  ·intro y0 y1 y2 y3
   unfold law04_EntryAsks.j0
   repeat' first
   | (with_reducible exact ih0 _ _ _ _)
   | (with_reducible exact ih1 _ _ _ _ _ _ _ _ _ _ _ _)
   | (with_reducible exact law04_alive.mono _)
   | (with_reducible exact ref04_Above.mono _ _ _)
   | (with_reducible exact ref04_Get.mono _ _ _)
   | (with_reducible exact ref04_Great.mono _ _)
   | (with_reducible exact ref04_Right.mono _ _)
   | (with_reducible exact ref04_Same.mono _ _ _)
   | (with_reducible exact ref04_Top.mono _ _)
   | (with_reducible exact entry_Right.mono _ _)
   | (with_reducible exact entry_Same.mono _ _ _)
   | (with_reducible exact entry_Top.mono _ _)
   | (with_reducible exact LeO.refl _)
   | (with_reducible exact LeO.none _)
   | (with_reducible refine LeO.ite ?_ ?_)
   | (with_reducible refine LeO.bind ?_ (fun _ => ?_))
   | exact ih0 _ _ _ _
   | exact ih1 _ _ _ _ _ _ _ _ _ _ _ _
   | exact law04_alive.mono _
   | exact ref04_Above.mono _ _ _
   | exact ref04_Get.mono _ _ _
   | exact ref04_Great.mono _ _
   | exact ref04_Right.mono _ _
   | exact ref04_Same.mono _ _ _
   | exact ref04_Top.mono _ _
   | exact entry_Right.mono _ _
   | exact entry_Same.mono _ _ _
   | exact entry_Top.mono _ _
   | exact LeO.none _
   | refine LeO.ite ?_ ?_
   | refine LeO.bind ?_ (fun _ => ?_)
  ·intro y0 y1 y2 y3 y4 y5 y6 y7 y8 y9 y10 y11
   unfold law04_EntryAsks.l0
   repeat' first
   | (with_reducible exact ih0 _ _ _ _)
   | (with_reducible exact ih1 _ _ _ _ _ _ _ _ _ _ _ _)
   | (with_reducible exact law04_alive.mono _)
   | (with_reducible exact ref04_Above.mono _ _ _)
   | (with_reducible exact ref04_Get.mono _ _ _)
   | (with_reducible exact ref04_Great.mono _ _)
   | (with_reducible exact ref04_Right.mono _ _)
   | (with_reducible exact ref04_Same.mono _ _ _)
   | (with_reducible exact ref04_Top.mono _ _)
   | (with_reducible exact entry_Right.mono _ _)
   | (with_reducible exact entry_Same.mono _ _ _)
   | (with_reducible exact entry_Top.mono _ _)
   | (with_reducible exact LeO.refl _)
   | (with_reducible exact LeO.none _)
   | (with_reducible refine LeO.ite ?_ ?_)
   | (with_reducible refine LeO.bind ?_ (fun _ => ?_))
   | exact ih0 _ _ _ _
   | exact ih1 _ _ _ _ _ _ _ _ _ _ _ _
   | exact law04_alive.mono _
   | exact ref04_Above.mono _ _ _
   | exact ref04_Get.mono _ _ _
   | exact ref04_Great.mono _ _
   | exact ref04_Right.mono _ _
   | exact ref04_Same.mono _ _ _
   | exact ref04_Top.mono _ _
   | exact entry_Right.mono _ _
   | exact entry_Same.mono _ _ _
   | exact entry_Top.mono _ _
   | exact LeO.none _
   | refine LeO.ite ?_ ?_
   | refine LeO.bind ?_ (fun _ => ?_)
theorem law04_EntryAsks.mono : ∀ a0 a1 a2 k, LeO (law04_EntryAsks.f k a0 a1 a2) (law04_EntryAsks.f (k + 1) a0 a1 a2) := by
 intro a0 a1 a2 k
 obtain ⟨ih0, ih1⟩ := law04_EntryAsks.mono_l k
 unfold law04_EntryAsks.f
 repeat' first
   | (with_reducible exact ih0 _ _ _ _)
   | (with_reducible exact ih1 _ _ _ _ _ _ _ _ _ _ _ _)
   | (with_reducible exact law04_alive.mono _)
   | (with_reducible exact ref04_Above.mono _ _ _)
   | (with_reducible exact ref04_Get.mono _ _ _)
   | (with_reducible exact ref04_Great.mono _ _)
   | (with_reducible exact ref04_Right.mono _ _)
   | (with_reducible exact ref04_Same.mono _ _ _)
   | (with_reducible exact ref04_Top.mono _ _)
   | (with_reducible exact entry_Right.mono _ _)
   | (with_reducible exact entry_Same.mono _ _ _)
   | (with_reducible exact entry_Top.mono _ _)
   | (with_reducible exact LeO.refl _)
   | (with_reducible exact LeO.none _)
   | (with_reducible refine LeO.ite ?_ ?_)
   | (with_reducible refine LeO.bind ?_ (fun _ => ?_))
   | exact ih0 _ _ _ _
   | exact ih1 _ _ _ _ _ _ _ _ _ _ _ _
   | exact law04_alive.mono _
   | exact ref04_Above.mono _ _ _
   | exact ref04_Get.mono _ _ _
   | exact ref04_Great.mono _ _
   | exact ref04_Right.mono _ _
   | exact ref04_Same.mono _ _ _
   | exact ref04_Top.mono _ _
   | exact entry_Right.mono _ _
   | exact entry_Same.mono _ _ _
   | exact entry_Top.mono _ _
   | exact LeO.none _
   | refine LeO.ite ?_ ?_
   | refine LeO.bind ?_ (fun _ => ?_)
def law04_EntryAsks.T10 : Bool × List (List Nat × List Nat) := (true, [([], []), ([], []), ([0, 1], [0, 1]), ([2], [2]), ([3], [3]), ([], []), ([], []), ([5, 6], [5, 6]), ([7], [7]), ([8, 4], [8]), ([4, 9], [4, 9])])
def law04_EntryAsks.B10 : List Nat := [0, 0, 3, 7, 15, 0, 0, 96, 224, 511, 1023]
theorem law04_EntryAsks.tab10 : rtab .any (opsOf Try.f5 10) = law04_EntryAsks.T10 := by kernel_rfl
theorem law04_EntryAsks.bits10 : waitsOk law04_EntryAsks.T10.2 law04_EntryAsks.B10 = true := by kernel_rfl
set_option maxHeartbeats 8000000 in
set_option maxRecDepth 100000 in
theorem law04_EntryAsks.calls (k : Nat) (A0 : Option Addr) (c0 : Nat) (l0 : List (S30)) (A1 : Option Addr) (c1 : Nat) (l1 : List (S30)) (a2 : Int) (r : Bool) (w : World) (hr0 : Kd.C k30 w A0 l0.length l0) (hc0 : l0.length ≤ c0) (hr1 : Kd.C k30 w A1 l1.length l1) (hc1 : l1.length ≤ c1) (h : law04_EntryAsks.f k l0 l1 a2 = some r) (hrt : r = true) :
  Calls Try.prog 5 #[.slice A0 l0.length c0, .slice A1 l1.length c1, .int .i64 a2] w fun e w' => e = .returned (.bool r) ∧ Below w.heap.size w w' := by
 have HRT := Aside0.mk hrt
 clear hrt
 have hu30 := Try.underlying30
 have HR0 := Aside0.mk hr0
 have HC0 := Aside0.mk hc0
 clear hr0 hc0
 have HR1 := Aside0.mk hr1
 have HC1 := Aside0.mk hc1
 clear hr1 hc1
 have HB := Aside0.mk (Below.refl w.heap.size w)
 have H : ((law04_alive.f k).bind fun t101 => (if t101 = true then ((ref04_Great.f k l0).bind fun t102 => (if t102 = true then (law04_EntryAsks.j0 k l0 l1 a2 true) else ((ref04_Great.f k l1).bind fun t103 => (law04_EntryAsks.j0 k l0 l1 a2 t103)))) else (some false))) = some r := h
 clear h
 replace H := ob_ H
 obtain ⟨t101, A40, H⟩ := H
 replace H : (if t101 = true then ((ref04_Great.f k l0).bind fun t102 => (if t102 = true then (law04_EntryAsks.j0 k l0 l1 a2 true) else ((ref04_Great.f k l1).bind fun t103 => (law04_EntryAsks.j0 k l0 l1 a2 t103)))) else (some false)) = some r := H
 have A4 := Aside0.mk A40
 clear A40
 by_cases c5 : t101 = true
 ·subst c5
  have H1 : ((ref04_Great.f k l0).bind fun t102 => (if t102 = true then (law04_EntryAsks.j0 k l0 l1 a2 true) else ((ref04_Great.f k l1).bind fun t103 => (law04_EntryAsks.j0 k l0 l1 a2 t103)))) = some r := by rw [if_pos rfl] at H; exact H
  clear H
  have H := H1
  clear H1
  have HC6 := Aside0.mk H
  clear H
  go_enter Try.func5, Try.ntmps5
  go_upto_region 3 with (first | ((with_reducible refine qs_ (f := 8) rfl ?_); refine goesL_ (some 12) rfl rfl Try.func8 (by kernel_rfl) rfl #[] rfl (by (try simp only [List.map_toArray, List.map_cons, List.map_nil]); first | done | rfl | (simp only [List.length_drop, List.length_take]; rfl)) ?_; (with_reducible refine (law04_alive.calls k  true _ A4.out).mono ?_); rintro e w7 ⟨rfl, hb⟩; refine ⟨_, rfl, ?_⟩; have n0_ := Aside0.mk (qf_ (by repeat (first | (with_reducible first | exact HB.out | apply qc_ | apply qa_ | apply qb_) | exact HB.out)) hb); clear HB; have HB := n0_; clear n0_; (try clear hb); (try clear hb2); (try clear hk); (try clear hi)))
  (try simp only [Act.put, sa_, sb_, sc_])
  go_cut [19] (fun v19 wc => ∃ (kq : Nat) (x19_5 : Bool), v19 = .bool x19_5 ∧ Aside0 (law04_EntryAsks.j0 kq l0 l1 a2 x19_5 = some r) ∧ Aside0 (kq ≤ k) ∧ Aside0 (Below w.heap.size w wc))
  case first =>
   have H := HC6.out
   clear HC6
   replace H := ob_ H
   obtain ⟨t102, A80, H⟩ := H
   replace H : (if t102 = true then (law04_EntryAsks.j0 k l0 l1 a2 true) else ((ref04_Great.f k l1).bind fun t103 => (law04_EntryAsks.j0 k l0 l1 a2 t103))) = some r := H
   have A8 := Aside0.mk A80
   clear A80
   by_cases c9 : t102 = true
   ·subst c9
    have H1 : (law04_EntryAsks.j0 k l0 l1 a2 true) = some r := by rw [if_pos rfl] at H; exact H
    clear H
    have H := H1
    clear H1
    have H' := Aside0.mk H
    clear H
    go_wp2_with (first | ((with_reducible refine qs_ (f := 9) rfl ?_); refine goesL_ (some 15) rfl rfl Try.func9 (by kernel_rfl) rfl #[.slice A0 l0.length c0] rfl (by (try simp only [List.map_toArray, List.map_cons, List.map_nil]); first | done | rfl | (simp only [List.length_drop, List.length_take]; rfl)) ?_; (with_reducible refine (ref04_Great.calls k _ _ l0 true _ ?side1 ?side2 A8.out).mono ?_); (case side1 => repeat (first | exact (Kd.qq_ HR0.out HB.out) | (with_reducible refine Kd.qo_ ?_ _) | (with_reducible refine Kd.qn_ ?_ _) | (with_reducible refine Kd.C_drew ?_))); (case side2 => exact HC0.out); rintro e w' ⟨rfl, ⟨nd, rfl⟩⟩; refine ⟨_, rfl, ?_⟩))
    go_meet
    case rel => exact ⟨_, (true), (by first | rfl | (simp; done) | (simp [*]; done)), H', ⟨by first | omega | exact Nat.le_refl _⟩, ⟨by repeat (first | (with_reducible first | exact HB.out | apply qc_ | apply qa_ | apply qb_) | exact HB.out)⟩⟩
   ·replace c9 := Bool.eq_false_iff.mpr c9
    subst c9
    have H1 : ((ref04_Great.f k l1).bind fun t103 => (law04_EntryAsks.j0 k l0 l1 a2 t103)) = some r := by rw [if_neg (show ¬ (false = true) by decide)] at H; exact H
    clear H
    have H := H1
    clear H1
    replace H := ob_ H
    obtain ⟨t103, A100, H⟩ := H
    replace H : (law04_EntryAsks.j0 k l0 l1 a2 t103) = some r := H
    have A10 := Aside0.mk A100
    clear A100
    have H' := Aside0.mk H
    clear H
    go_wp2_with (first | ((with_reducible refine qs_ (f := 9) rfl ?_); refine goesL_ (some 15) rfl rfl Try.func9 (by kernel_rfl) rfl #[.slice A0 l0.length c0] rfl (by (try simp only [List.map_toArray, List.map_cons, List.map_nil]); first | done | rfl | (simp only [List.length_drop, List.length_take]; rfl)) ?_; (with_reducible refine (ref04_Great.calls k _ _ l0 false _ ?side1 ?side2 A8.out).mono ?_); (case side1 => repeat (first | exact (Kd.qq_ HR0.out HB.out) | (with_reducible refine Kd.qo_ ?_ _) | (with_reducible refine Kd.qn_ ?_ _) | (with_reducible refine Kd.C_drew ?_))); (case side2 => exact HC0.out); rintro e w' ⟨rfl, ⟨nd, rfl⟩⟩; refine ⟨_, rfl, ?_⟩) | (go_at_call 9; (with_reducible refine (ref04_Great.calls k _ _ l1 t103 _ ?side1 ?side2 A10.out).mono ?_); (case side1 => repeat (first | exact (Kd.qq_ HR1.out (by repeat (first | (with_reducible first | exact HB.out | apply qc_ | apply qa_ | apply qb_) | exact HB.out))) | (with_reducible refine Kd.qo_ ?_ _) | (with_reducible refine Kd.qn_ ?_ _) | (with_reducible refine Kd.C_drew ?_))); (case side2 => exact HC1.out); rintro e w' ⟨rfl, ⟨nd, rfl⟩⟩))
    go_meet
    case rel => exact ⟨_, (t103), (by first | rfl | (simp; done) | (simp [*]; done)), H', ⟨by first | omega | exact Nat.le_refl _⟩, ⟨by repeat (first | (with_reducible first | exact HB.out | apply qc_ | apply qa_ | apply qb_) | exact HB.out)⟩⟩
  case rest =>
   clear HC6
   try clear c1
   try clear p2
   try clear c5
   try clear c8
   try clear c9
   obtain ⟨kq, x19_5, rfl, HA, HJ5, HB⟩ := hcut
   cases kq with
   | zero => exact absurd HA.out (by simp [law04_EntryAsks.j0])
   | succ kj5 =>
    have H := HA.out
    clear HA
    simp only [law04_EntryAsks.j0] at H
    by_cases c11 : x19_5 = true
    ·subst c11
     have H1 : (some true) = some r := by rw [if_pos rfl] at H; exact H
     clear H
     have H := H1
     clear H1
     obtain rfl := Option.some.inj H
     go_wp2
     go_ret
     exact ⟨by first | rfl | (simp [errW_none, errW_some] <;> rfl) | (simp [*, errW_none, errW_some] <;> rfl), by repeat (first | (with_reducible first | exact HB.out | apply qc_ | apply qa_ | apply qb_) | exact HB.out)⟩
    ·replace c11 := Bool.eq_false_iff.mpr c11
     subst c11
     have H1 : ((entry_Get.f l0 a2).bind fun bt104 => ((ref04_Get.f kj5 l0 a2).bind fun bt109 => (law04_EntryAsks.l0 kj5 l0 l1 a2 bt104.2.2.2 bt109.2.2.2 0 bt104.1 bt104.2.1 bt104.2.2.1 bt109.1 bt109.2.1 bt109.2.2.1))) = some r := by rw [if_neg (show ¬ (false = true) by decide)] at H; exact H
     clear H
     have H := H1
     clear H1
     replace H := ob_ H
     obtain ⟨⟨t104, t105, t106, t107⟩, A120, H⟩ := H
     replace H : ((ref04_Get.f kj5 l0 a2).bind fun bt109 => (law04_EntryAsks.l0 kj5 l0 l1 a2 t107 bt109.2.2.2 0 t104 t105 t106 bt109.1 bt109.2.1 bt109.2.2.1)) = some r := H
     have A12 := Aside0.mk A120
     clear A120
     replace H := ob_ H
     obtain ⟨⟨t109, t110, t111, t112⟩, A130, H⟩ := H
     replace H : (law04_EntryAsks.l0 kj5 l0 l1 a2 t107 t112 0 t104 t105 t106 t109 t110 t111) = some r := H
     have A13 := Aside0.mk A130
     clear A130
     have H' := Aside0.mk H
     clear H
     go_wp2_with (first | ((with_reducible refine qs_ (f := 16) rfl ?_); refine goesL_ (some 23) rfl rfl Try.func16 (by kernel_rfl) rfl #[.slice A0 l0.length c0, .int .i64 a2] rfl (by (try simp only [List.map_toArray, List.map_cons, List.map_nil]); first | done | rfl | (simp only [List.length_drop, List.length_take]; rfl)) ?_; (with_reducible refine (entry_Get.calls _ _ l0 a2 t104 t105 t106 t107 _ ?side1 ?side2 A12.out).mono ?_); (case side1 => repeat (first | exact (Kd.qq_ HR0.out HB.out) | (with_reducible refine Kd.qo_ ?_ _) | (with_reducible refine Kd.qn_ ?_ _) | (with_reducible refine Kd.C_drew ?_))); (case side2 => exact HC0.out); rintro e w14 ⟨rfl, hb⟩; refine ⟨_, rfl, ?_⟩; have n0_ := Aside0.mk (qf_ (by repeat (first | (with_reducible first | exact HB.out | apply qc_ | apply qa_ | apply qb_) | exact HB.out)) hb); clear HB; have HB := n0_; clear n0_; (try clear hb); (try clear hb2); (try clear hk); (try clear hi)) | ((with_reducible refine gate_dst (N := 7) rfl ?_); refine qt_ ?hg (N := 7) ?hd (cs := #[.int .i64 0, .int .i64 0, .string (⟨#[]⟩ : ByteArray)]) (t := 30) ?hr ?_; (case hd => rfl); (case hg => rfl); (case hr => first | (go_simp; done) | (go_simp; rfl)); intro gb108 hg w15 hbox hb; have n0_ := Aside0.mk (qf_ (by repeat (first | (with_reducible first | exact HB.out | apply qc_ | apply qa_ | apply qb_) | exact HB.out)) hb); have n1_ := Aside0.mk (hbox); have n2_ := Aside0.mk ((by rw [hg]; exact (qi_ (by repeat (first | (with_reducible first | exact HB.out | apply qc_ | apply qa_ | apply qb_) | exact HB.out))) : w.heap.size ≤ gb108)); have n3_ := Aside0.mk ((by rw [hg]; exact (qi_ (by repeat (first | (with_reducible first | exact HB.out | apply qc_ | apply qa_ | apply qb_) | exact HB.out))) : w.heap.size ≤ gb108)); clear HB; have HB := n0_; have BK108 := n1_; have GW108 := n2_; have GE108 := n3_; clear n0_ n1_ n2_ n3_; clear hb hbox hg; have hcz16_0 : w15.cell? ⟨gb108, 0, none⟩ = some (.int .i64 0) := (qh_ BK108.out 0).trans rfl; have hcz16_1 : w15.cell? ⟨gb108, 1, none⟩ = some (.int .i64 0) := (qh_ BK108.out 1).trans rfl; have hcz16_2 : w15.cell? ⟨gb108, 2, none⟩ = some (.string (⟨#[]⟩ : ByteArray)) := (qh_ BK108.out 2).trans rfl; have hfz16_0 := qg_ BK108.out 0; have hfz16_1 := qg_ BK108.out 1; have hfz16_2 := qg_ BK108.out 2) | ((with_reducible refine qs_ (f := 17) rfl ?_); refine goesL_ (some 29) rfl rfl Try.func17 (by kernel_rfl) rfl #[.slice A0 l0.length c0, .int .i64 a2] rfl (by (try simp only [List.map_toArray, List.map_cons, List.map_nil]); first | done | rfl | (simp only [List.length_drop, List.length_take]; rfl)) ?_; (with_reducible refine (ref04_Get.calls kj5 _ _ l0 a2 t109 t110 t111 t112 _ ?side1 ?side2 A13.out).mono ?_); (case side1 => exact Kd.qq_ HR0.out (by repeat (first | (with_reducible first | exact HB.out | apply qc_ | apply qa_ | apply qb_ | refine qk_ ?_ GE108.out) | exact HB.out))); (case side2 => exact HC0.out); rintro e w17 ⟨rfl, hb⟩; refine ⟨_, rfl, ?_⟩; have n0_ := Aside0.mk (blk_below (g := gb108) (o := .cells #[.int .i64 t104, .int .i64 t105, .string t106] 30 (0, 0)) (by (with_reducible repeat (first | refine ql_ ?_ _ | refine qp_ ?_ | refine qm_ ?_ _)); refine blk_put (cs := #[.int .i64 t104, .int .i64 t105, .string (⟨#[]⟩ : ByteArray)]) ?_ 2 _ rfl; (with_reducible repeat (first | refine ql_ ?_ _ | refine qp_ ?_ | refine qm_ ?_ _)); refine blk_put (cs := #[.int .i64 t104, .int .i64 0, .string (⟨#[]⟩ : ByteArray)]) ?_ 1 _ rfl; (with_reducible repeat (first | refine ql_ ?_ _ | refine qp_ ?_ | refine qm_ ?_ _)); refine blk_put (cs := #[.int .i64 0, .int .i64 0, .string (⟨#[]⟩ : ByteArray)]) ?_ 0 _ rfl; (with_reducible repeat (first | refine ql_ ?_ _ | refine qp_ ?_ | refine qm_ ?_ _)); exact BK108.out) hb); have n1_ := Aside0.mk (qf_ (by repeat (first | (with_reducible first | exact HB.out | apply qc_ | apply qa_ | apply qb_ | refine qk_ ?_ GE108.out) | exact HB.out)) hb); clear BK108; clear HB; have BK108 := n0_; have HB := n1_; clear n0_ n1_; (try clear hb); (try clear hb2); (try clear hk); (try clear hi)) | ((with_reducible refine gate_dst (N := 9) rfl ?_); refine qt_ ?hg (N := 9) ?hd (cs := #[.int .i64 0, .int .i64 0, .string (⟨#[]⟩ : ByteArray)]) (t := 30) ?hr ?_; (case hd => rfl); (case hg => rfl); (case hr => first | (go_simp; done) | (go_simp; rfl)); intro gb113 hg w18 hbox hb; have n0_ := Aside0.mk (blk_below (g := gb108) (o := .cells #[.int .i64 t104, .int .i64 t105, .string t106] 30 (0, 0)) (by (with_reducible repeat (first | refine ql_ ?_ _ | refine qp_ ?_ | refine qm_ ?_ _)); exact BK108.out) hb); have n1_ := Aside0.mk (qf_ (by repeat (first | (with_reducible first | exact HB.out | apply qc_ | apply qa_ | apply qb_ | refine qk_ ?_ GE108.out) | exact HB.out)) hb); have n2_ := Aside0.mk (hbox); have n3_ := Aside0.mk ((by rw [hg]; exact (qi_ (by repeat (first | (with_reducible first | exact HB.out | apply qc_ | apply qa_ | apply qb_ | refine qk_ ?_ GE108.out) | exact HB.out))) : w.heap.size ≤ gb113)); have n4_ := Aside0.mk ((by rw [hg]; exact (qi_ (by repeat (first | (with_reducible first | exact HB.out | apply qc_ | apply qa_ | apply qb_ | refine qk_ ?_ GE108.out) | exact HB.out))) : w.heap.size ≤ gb113)); have n5_ := Aside0.mk ((by rw [hg]; exact Nat.ne_of_lt (blk_lt (g := gb108) (o := .cells #[.int .i64 t104, .int .i64 t105, .string t106] 30 (0, 0)) (by (with_reducible repeat (first | refine ql_ ?_ _ | refine qp_ ?_ | refine qm_ ?_ _)); exact BK108.out)) : gb108 ≠ gb113)); have n6_ := Aside0.mk ((by rw [hg]; exact Nat.ne_of_gt (blk_lt (g := gb108) (o := .cells #[.int .i64 t104, .int .i64 t105, .string t106] 30 (0, 0)) (by (with_reducible repeat (first | refine ql_ ?_ _ | refine qp_ ?_ | refine qm_ ?_ _)); exact BK108.out)) : gb113 ≠ gb108)); clear BK108; clear HB; have BK108 := n0_; have HB := n1_; have BK113 := n2_; have GW113 := n3_; have GE113 := n4_; have NB108_113 := n5_; have NB113_108 := n6_; clear n0_ n1_ n2_ n3_ n4_ n5_ n6_; clear hb hbox hg; have hnb19 := NB113_108.out; have hnc19 := NB108_113.out; have hcz20_0 : w18.cell? ⟨gb113, 0, none⟩ = some (.int .i64 0) := (qh_ BK113.out 0).trans rfl; have hcz20_1 : w18.cell? ⟨gb113, 1, none⟩ = some (.int .i64 0) := (qh_ BK113.out 1).trans rfl; have hcz20_2 : w18.cell? ⟨gb113, 2, none⟩ = some (.string (⟨#[]⟩ : ByteArray)) := (qh_ BK113.out 2).trans rfl; have hfz20_0 := qg_ BK113.out 0; have hfz20_1 := qg_ BK113.out 1; have hfz20_2 := qg_ BK113.out 2))
     go_loopg [11] kj5 (fun kq v11 w' => ∃ (x11_2 : Int), v11 = .int .i64 x11_2 ∧ Aside0 (law04_EntryAsks.l0 kq l0 l1 a2 t107 t112 x11_2 t104 t105 t106 t109 t110 t111 = some r) ∧ Aside0 (kq ≤ kj5) ∧ Aside0 (w'.heap[gb108]? = some (.cells #[.int .i64 t104, .int .i64 t105, .string t106] 30 (0, 0))) ∧ Aside0 (w'.heap[gb113]? = some (.cells #[.int .i64 t109, .int .i64 t110, .string t111] 30 (0, 0))) ∧ Aside0 (Below w.heap.size w w'))
     case atStart => exact ⟨(0), (by first | rfl | (simp; done) | (simp [*]; done)), H', ⟨Nat.le_refl _⟩, ⟨by (with_reducible repeat (first | refine ql_ ?_ _ | refine qp_ ?_ | refine qm_ ?_ _)); refine blk_far ?_ NB108_113.out _; (with_reducible repeat (first | refine ql_ ?_ _ | refine qp_ ?_ | refine qm_ ?_ _)); refine blk_far ?_ NB108_113.out _; (with_reducible repeat (first | refine ql_ ?_ _ | refine qp_ ?_ | refine qm_ ?_ _)); refine blk_far ?_ NB108_113.out _; (with_reducible repeat (first | refine ql_ ?_ _ | refine qp_ ?_ | refine qm_ ?_ _)); exact BK108.out⟩, ⟨by (with_reducible repeat (first | refine ql_ ?_ _ | refine qp_ ?_ | refine qm_ ?_ _)); refine blk_put (cs := #[.int .i64 t109, .int .i64 t110, .string (⟨#[]⟩ : ByteArray)]) ?_ 2 _ rfl; (with_reducible repeat (first | refine ql_ ?_ _ | refine qp_ ?_ | refine qm_ ?_ _)); refine blk_put (cs := #[.int .i64 t109, .int .i64 0, .string (⟨#[]⟩ : ByteArray)]) ?_ 1 _ rfl; (with_reducible repeat (first | refine ql_ ?_ _ | refine qp_ ?_ | refine qm_ ?_ _)); refine blk_put (cs := #[.int .i64 0, .int .i64 0, .string (⟨#[]⟩ : ByteArray)]) ?_ 0 _ rfl; (with_reducible repeat (first | refine ql_ ?_ _ | refine qp_ ?_ | refine qm_ ?_ _)); exact BK113.out⟩, ⟨by repeat (first | (with_reducible first | exact HB.out | apply qc_ | apply qa_ | apply qb_ | refine qk_ ?_ GE108.out | refine qk_ ?_ GE113.out) | exact HB.out)⟩⟩
     case round =>
      clear H'
      try clear c1
      try clear p2
      try clear c5
      try clear c8
      try clear c9
      try clear c11
      try clear c16
      try clear c17
      try clear c19
      try clear hcz16_0
      try clear hcz16_1
      try clear hcz16_2
      try clear hcz20_0
      try clear hcz20_1
      try clear hcz20_2
      try clear hfz16_0
      try clear hfz16_1
      try clear hfz16_2
      try clear hfz20_0
      try clear hfz20_1
      try clear hfz20_2
      try clear p2
      obtain ⟨x11_2, rfl, HA, HK2, BK108, BK113, HB⟩ := hrel
      cases gk with
      | zero => exact absurd HA.out (by simp [law04_EntryAsks.l0])
      | succ k2 =>
       have H := HA.out
       clear HA
       simp only [law04_EntryAsks.l0] at H
       by_cases c21 : x11_2 < (l0.length : Int)
       ·rw [if_pos c21] at H
        have c21b0 : decide (x11_2 < (l0.length : Int)) = true := decide_eq_true c21
        clear c21
        by_cases c22 : 0 ≤ x11_2
        ·rw [if_pos c22] at H
         have c22b0 : decide (0 ≤ x11_2) = true := decide_eq_true c22
         clear c22
         replace H := ob_ H
         obtain ⟨t115, A230, H⟩ := H
         replace H : ((ref04_May.f ((rd_T30 l0 x11_2).f0) ((rd_T30 l0 x11_2).f1) ((rd_T30 l0 x11_2).f2)).bind fun t117 => (if (t115 != t117) = true then (some false) else (law04_EntryAsks.l0 k2 l0 l1 a2 t107 t112 (wrap64 (x11_2 + 1)) t104 t105 t106 t109 t110 t111))) = some r := H
         have A23 := Aside0.mk A230
         clear A230
         replace H := ob_ H
         obtain ⟨t117, A240, H⟩ := H
         replace H : (if (t115 != t117) = true then (some false) else (law04_EntryAsks.l0 k2 l0 l1 a2 t107 t112 (wrap64 (x11_2 + 1)) t104 t105 t106 t109 t110 t111)) = some r := H
         have A24 := Aside0.mk A240
         clear A240
         by_cases c25 : (t115 != t117) = true
         ·rw [if_pos c25] at H
          exact absurd ((Option.some.inj H).trans HRT.out) (by decide)
         ·rw [if_neg c25] at H
          have c25b0 : (t115 != t117) = false := by simpa using c25
          (try (have c25b1 : decide (t115 = t117) = true := by simpa using c25))
          (try (have c25b2 : (t115 == t117) = true := by simpa using c25))
          clear c25
          have H' := Aside0.mk H
          clear H
          try go_wp2
          have n0_ := Aside0.mk (qp_ BK108.out)
          have n1_ := Aside0.mk (qp_ BK113.out)
          have n2_ := Aside0.mk (qb_ HB.out)
          clear BK108
          clear BK113
          clear HB
          have BK108 := n0_
          have BK113 := n1_
          have HB := n2_
          clear n0_ n1_ n2_
          have p114 : 0 ≤ (x11_2 : Int) := of_decide_eq_true (by first | (with_reducible assumption) | assumption)
          have q114 : x11_2 < (l0.length : Int) := of_decide_eq_true (by first | (with_reducible assumption) | assumption)
          obtain ⟨ad114, e114, hx114_0, hx114_1, hx114_2⟩ := at_T30 HR0.out x11_2 p114 q114
          have hw114_2 := hx114_2
          have hw114_1 := hx114_1
          have hw114_0 := hx114_0
          cases e114
          replace hx114_0 := (HB.out.cell (wb_ w _ hx114_0)).trans hx114_0
          replace hx114_1 := (HB.out.cell (wb_ w _ hx114_1)).trans hx114_1
          replace hx114_2 := (HB.out.cell (wb_ w _ hx114_2)).trans hx114_2
          replace p114 := eq_true p114
          replace q114 := eq_true q114
          have p116 : 0 ≤ (x11_2 : Int) := of_decide_eq_true (by first | (with_reducible assumption) | assumption)
          have q116 : x11_2 < (l0.length : Int) := of_decide_eq_true (by first | (with_reducible assumption) | assumption)
          obtain ⟨ad116, e116, hx116_0, hx116_1, hx116_2⟩ := at_T30 HR0.out x11_2 p116 q116
          have hw116_2 := hx116_2
          have hw116_1 := hx116_1
          have hw116_0 := hx116_0
          obtain rfl : ad114 = ad116 := (by injection e116)
          replace hx116_0 := (HB.out.cell (wb_ w _ hx116_0)).trans hx116_0
          replace hx116_1 := (HB.out.cell (wb_ w _ hx116_1)).trans hx116_1
          replace hx116_2 := (HB.out.cell (wb_ w _ hx116_2)).trans hx116_2
          replace p116 := eq_true p116
          replace q116 := eq_true q116
          refine start_ (n := 11) (S := fun w' => w'.cell? (ad114.add ((x11_2).toNat * 3)) = some (.int .i64 ((rd_T30 l0 x11_2).f0)) ∧ w'.cell? ⟨(ad114.add ((x11_2).toNat * 3)).block, (ad114.add ((x11_2).toNat * 3)).off + 1, none⟩ = some (.int .i64 ((rd_T30 l0 x11_2).f1)) ∧ w'.cell? ⟨(ad114.add ((x11_2).toNat * 3)).block, (ad114.add ((x11_2).toNat * 3)).off + 2, none⟩ = some (.string ((rd_T30 l0 x11_2).f2)) ∧ w'.cell? (ad114.add ((x11_2).toNat * 3)) = some (.int .i64 ((rd_T30 l0 x11_2).f0)) ∧ w'.cell? ⟨(ad114.add ((x11_2).toNat * 3)).block, (ad114.add ((x11_2).toNat * 3)).off + 1, none⟩ = some (.int .i64 ((rd_T30 l0 x11_2).f1)) ∧ w'.cell? ⟨(ad114.add ((x11_2).toNat * 3)).block, (ad114.add ((x11_2).toNat * 3)).off + 2, none⟩ = some (.string ((rd_T30 l0 x11_2).f2))) (ds := []) #[false,false,false,false,false,false,false,false,false,false,false] (by kernel_rfl) rfl rfl ⟨((HB.out.cell (wb_ w _ hw114_0)).trans hw114_0), ((HB.out.cell (wb_ w _ hw114_1)).trans hw114_1), ((HB.out.cell (wb_ w _ hw114_2)).trans hw114_2), ((HB.out.cell (wb_ w _ hw116_0)).trans hw116_0), ((HB.out.cell (wb_ w _ hw116_1)).trans hw116_1), ((HB.out.cell (wb_ w _ hw116_2)).trans hw116_2)⟩ (fun hHeld => ?_); refine with_tabW law04_EntryAsks.tab10 law04_EntryAsks.bits10 (fun HT_ HW_ => ?_)
          generalize wr.drew = w29 at BK108 BK113 HB hx114_0 hx114_1 hx114_2 hx116_0 hx116_1 hx116_2 hHeld ⊢
          refine pure_ (i := 0) (N := some 38) (v := ?_) (a' := ?_) #[true,false,false,false,false,false,false,false,false,false,false] rfl rfl (any_of HT_.out (by kernel_rfl)) (fun _ _ _ h => h) (Or.inl ⟨by rfl, ?_⟩) ?_ ?_
          rotate_left
          ·intro w'
           go_simp
           with_reducible rfl
          rotate_left
          ·simp only [Act.put, sa_, sb_, sc_, i64_w, i32_w]
           rfl
          refine pure_ (i := 1) (N := some 39) (v := ?_) (a' := ?_) #[true,true,false,false,false,false,false,false,false,false,false] rfl rfl (any_of HT_.out (by kernel_rfl)) (fun _ _ _ h => h) (Or.inl ⟨by rfl, ?_⟩) ?_ ?_
          rotate_left
          ·intro w'
           go_simp
           with_reducible rfl
          rotate_left
          ·simp only [Act.put, sa_, sb_, sc_, i64_w, i32_w]
           rfl
          refine pure_ (i := 2) (N := some 40) (v := ?_) (a' := ?_) #[true,true,true,false,false,false,false,false,false,false,false] rfl rfl (any_of HT_.out (by kernel_rfl)) (fun _ _ _ h => h) (Or.inl ⟨by rfl, ?_⟩) ?_ ?_
          rotate_left
          ·intro w'
           go_simp
           with_reducible rfl
          rotate_left
          ·simp only [Act.put, sa_, sb_, sc_, i64_w, i32_w]
           rfl
          refine pure_ (i := 5) (N := some 43) (v := ?_) (a' := ?_) #[true,true,true,false,false,true,false,false,false,false,false] rfl rfl (any_of HT_.out (by kernel_rfl)) (fun _ _ _ h => h) (Or.inl ⟨by rfl, ?_⟩) ?_ ?_
          rotate_left
          ·intro w'
           go_simp
           with_reducible rfl
          rotate_left
          ·simp only [Act.put, sa_, sb_, sc_, i64_w, i32_w]
           rfl
          refine pure_ (i := 6) (N := some 44) (v := ?_) (a' := ?_) #[true,true,true,false,false,true,true,false,false,false,false] rfl rfl (any_of HT_.out (by kernel_rfl)) (fun _ _ _ h => h) (Or.inl ⟨by rfl, ?_⟩) ?_ ?_
          rotate_left
          ·intro w'
           go_simp
           with_reducible rfl
          rotate_left
          ·simp only [Act.put, sa_, sb_, sc_, i64_w, i32_w]
           rfl
          refine pure_ (i := 7) (N := some 45) (v := ?_) (a' := ?_) #[true,true,true,false,false,true,true,true,false,false,false] rfl rfl (any_of HT_.out (by kernel_rfl)) (fun _ _ _ h => h) (Or.inl ⟨by rfl, ?_⟩) ?_ ?_
          rotate_left
          ·intro w'
           go_simp
           with_reducible rfl
          rotate_left
          ·simp only [Act.put, sa_, sb_, sc_, i64_w, i32_w]
           rfl
          refine take_ (i := 3) (N := some 41) (v := ?_) (a' := ?_) #[true,true,true,true,false,true,true,true,false,false,false] rfl rfl (take_ofW HT_.out HW_.out (by kernel_rfl)) (fun _ _ _ h => h) (Or.inl ⟨by rfl, ?_⟩) hHeld ?_ ?_
          rotate_left
          ·rintro w' ⟨s0, s1, s2, s3, s4, s5⟩
           go_simp
           with_reducible rfl
          rotate_left
          ·simp only [Act.put, sa_, sb_, sc_, i64_w, i32_w]
           rfl
          refine take_ (i := 8) (N := some 46) (v := ?_) (a' := ?_) #[true,true,true,true,false,true,true,true,true,false,false] rfl rfl (take_ofW HT_.out HW_.out (by kernel_rfl)) (fun _ _ _ h => h) (Or.inl ⟨by rfl, ?_⟩) hHeld ?_ ?_
          rotate_left
          ·rintro w' ⟨s0, s1, s2, s3, s4, s5⟩
           go_simp
           with_reducible rfl
          rotate_left
          ·simp only [Act.put, sa_, sb_, sc_, i64_w, i32_w]
           rfl
          refine one_ (i := 4) (N := some 42) #[true,true,true,true,true,true,true,true,true,false,false] rfl rfl (one_of HT_.out (by kernel_rfl)) (by decide) (fun K hK => ?_)
          refine goes_ Try.func18 (by kernel_rfl) rfl #[.agg #[.int .i64 ((rd_T30 l0 x11_2).f0), .int .i64 ((rd_T30 l0 x11_2).f1), .string ((rd_T30 l0 x11_2).f2)]] (by rfl) rfl rfl (by (try simp only [List.map_toArray, List.map_cons, List.map_nil]); first | done | rfl | (simp only [List.length_drop, List.length_take]; rfl)) ?_
          with_reducible refine (entry_May.calls ((rd_T30 l0 x11_2).f0) ((rd_T30 l0 x11_2).f1) ((rd_T30 l0 x11_2).f2) t115 _ A23.out).mono ?_
          rintro e w30 ⟨rfl, hb⟩
          refine ⟨_, rfl, ?_⟩
          have n0_ := Aside0.mk (blk_below (g := gb108) (o := .cells #[.int .i64 t104, .int .i64 t105, .string t106] 30 (0, 0)) (by (with_reducible repeat (first | refine ql_ ?_ _ | refine qp_ ?_ | refine qm_ ?_ _)); exact BK108.out) hb)
          have n1_ := Aside0.mk (blk_below (g := gb113) (o := .cells #[.int .i64 t109, .int .i64 t110, .string t111] 30 (0, 0)) (by (with_reducible repeat (first | refine ql_ ?_ _ | refine qp_ ?_ | refine qm_ ?_ _)); exact BK113.out) hb)
          have n2_ := Aside0.mk (qf_ (by repeat (first | (with_reducible first | exact HB.out | apply qc_ | apply qa_ | apply qb_ | refine qk_ ?_ GE108.out | refine qk_ ?_ GE113.out) | exact HB.out)) hb)
          clear BK108
          clear BK113
          clear HB
          have BK108 := n0_
          have BK113 := n1_
          have HB := n2_
          clear n0_ n1_ n2_
          (try clear hb)
          (try clear hb2)
          (try clear hk)
          (try clear hi)
          refine hK.out _ _ ⟨((HB.out.cell (wb_ w _ hw114_0)).trans hw114_0), ((HB.out.cell (wb_ w _ hw114_1)).trans hw114_1), ((HB.out.cell (wb_ w _ hw114_2)).trans hw114_2), ((HB.out.cell (wb_ w _ hw116_0)).trans hw116_0), ((HB.out.cell (wb_ w _ hw116_1)).trans hw116_1), ((HB.out.cell (wb_ w _ hw116_2)).trans hw116_2)⟩ (fun hHeld => ?_)
          clear hK K
          refine norm_ (a' := ?_) ?_ ?_
          rotate_left
          ·show Act.put _ (some 42) _ = _
           simp only [Act.put, sa_, sb_, sc_, i64_w, i32_w]
           rfl
          refine one_ (i := 9) (N := some 47) #[true,true,true,true,true,true,true,true,true,true,false] rfl rfl (one_of HT_.out (by kernel_rfl)) (by decide) (fun K hK => ?_)
          refine goes_ Try.func19 (by kernel_rfl) rfl #[.agg #[.int .i64 ((rd_T30 l0 x11_2).f0), .int .i64 ((rd_T30 l0 x11_2).f1), .string ((rd_T30 l0 x11_2).f2)]] (by rfl) rfl rfl (by (try simp only [List.map_toArray, List.map_cons, List.map_nil]); first | done | rfl | (simp only [List.length_drop, List.length_take]; rfl)) ?_
          with_reducible refine (ref04_May.calls ((rd_T30 l0 x11_2).f0) ((rd_T30 l0 x11_2).f1) ((rd_T30 l0 x11_2).f2) t117 _ A24.out).mono ?_
          rintro e w31 ⟨rfl, hb⟩
          refine ⟨_, rfl, ?_⟩
          have n0_ := Aside0.mk (blk_below (g := gb108) (o := .cells #[.int .i64 t104, .int .i64 t105, .string t106] 30 (0, 0)) (by (with_reducible repeat (first | refine ql_ ?_ _ | refine qp_ ?_ | refine qm_ ?_ _)); exact BK108.out) hb)
          have n1_ := Aside0.mk (blk_below (g := gb113) (o := .cells #[.int .i64 t109, .int .i64 t110, .string t111] 30 (0, 0)) (by (with_reducible repeat (first | refine ql_ ?_ _ | refine qp_ ?_ | refine qm_ ?_ _)); exact BK113.out) hb)
          have n2_ := Aside0.mk (qf_ (by repeat (first | (with_reducible first | exact HB.out | apply qc_ | apply qa_ | apply qb_ | refine qk_ ?_ GE108.out | refine qk_ ?_ GE113.out) | exact HB.out)) hb)
          clear BK108
          clear BK113
          clear HB
          have BK108 := n0_
          have BK113 := n1_
          have HB := n2_
          clear n0_ n1_ n2_
          (try clear hb)
          (try clear hb2)
          (try clear hk)
          (try clear hi)
          refine hK.out _ _ ⟨((HB.out.cell (wb_ w _ hw114_0)).trans hw114_0), ((HB.out.cell (wb_ w _ hw114_1)).trans hw114_1), ((HB.out.cell (wb_ w _ hw114_2)).trans hw114_2), ((HB.out.cell (wb_ w _ hw116_0)).trans hw116_0), ((HB.out.cell (wb_ w _ hw116_1)).trans hw116_1), ((HB.out.cell (wb_ w _ hw116_2)).trans hw116_2)⟩ (fun hHeld => ?_)
          clear hK K
          refine norm_ (a' := ?_) ?_ ?_
          rotate_left
          ·show Act.put _ (some 47) _ = _
           simp only [Act.put, sa_, sb_, sc_, i64_w, i32_w]
           rfl
          refine pure_ (i := 10) (N := some 48) (v := ?_) (a' := ?_) #[true,true,true,true,true,true,true,true,true,true,true] rfl rfl (any_of HT_.out (by kernel_rfl)) (fun _ _ _ h => h) (Or.inl ⟨by rfl, ?_⟩) ?_ ?_
          rotate_left
          ·intro w'
           go_simp
           with_reducible rfl
          rotate_left
          ·simp only [Act.put, sa_, sb_, sc_, i64_w, i32_w]
           rfl
          refine done_ (done_of HT_.out (by kernel_rfl)) ?_
          try go_wp2
          go_roundg k2
          case measure => have := HJ5.out; have := HK2.out; omega
          case rel => exact ⟨(wrap64 (x11_2 + 1)), (by first | rfl | (simp; done) | (simp [*]; done)), H', ⟨by have := HJ5.out; have := HK2.out; omega⟩, ⟨by (with_reducible repeat (first | refine ql_ ?_ _ | refine qp_ ?_ | refine qm_ ?_ _)); exact BK108.out⟩, ⟨by (with_reducible repeat (first | refine ql_ ?_ _ | refine qp_ ?_ | refine qm_ ?_ _)); exact BK113.out⟩, ⟨by repeat (first | (with_reducible first | exact HB.out | apply qc_ | apply qa_ | apply qb_ | refine qk_ ?_ GE108.out | refine qk_ ?_ GE113.out) | exact HB.out)⟩⟩
        ·rw [if_neg c22] at H
         exact absurd H (by simp)
       ·rw [if_neg c21] at H
        have c21b0 : decide (x11_2 < (l0.length : Int)) = false := decide_eq_false c21
        clear c21
        by_cases c32 : (t104 == t109 && (t105 == t110 && (t106.toList == t111.toList))) = true
        ·rw [if_pos c32] at H
         have c32b0 : (t104 == t109 && (t105 == t110 && (t106.toList == t111.toList))) = true := c32
         (try (have c32b1 : decide (t104 = t109 && (t105 == t110 && (t106.toList == t111.toList))) = true := by simpa using c32))
         (try (have c32b2 : (t104 == t109 && (t105 == t110 && (t106.toList == t111.toList))) = true := by simpa using c32))
         clear c32
         by_cases c33 : (t107 == t112) = true
         ·rw [if_pos c33] at H
          have c33b0 : (t107 == t112) = true := c33
          (try (have c33b1 : decide (t107 = t112) = true := by simpa using c33))
          (try (have c33b2 : (t107 == t112) = true := by simpa using c33))
          clear c33
          replace H := ob_ H
          obtain ⟨t118, A340, H⟩ := H
          replace H : ((ref04_Above.f k2 l0 a2).bind fun t121 => ((ref04_Same.f k2 t118 t121).bind fun t124 => (if t124 = true then ((entry_Top.f k2 l0).bind fun t125 => ((ref04_Top.f k2 l0).bind fun t126 => (if t125 = t126 then ((entry_Right.f k2 l0).bind fun t127 => ((ref04_Right.f k2 l0).bind fun t128 => (if (t127 == t128) = true then ((entry_Same.f k2 l0 l1).bind fun t129 => ((ref04_Same.f k2 l0 l1).bind fun t130 => (if (t129 == t130) = true then ((entry_Same.f k2 l0 l0).bind fun t131 => (some t131)) else (some false)))) else (some false)))) else (some false)))) else (some false)))) = some r := H
          have A34 := Aside0.mk A340
          clear A340
          replace H := ob_ H
          obtain ⟨t121, A350, H⟩ := H
          replace H : ((ref04_Same.f k2 t118 t121).bind fun t124 => (if t124 = true then ((entry_Top.f k2 l0).bind fun t125 => ((ref04_Top.f k2 l0).bind fun t126 => (if t125 = t126 then ((entry_Right.f k2 l0).bind fun t127 => ((ref04_Right.f k2 l0).bind fun t128 => (if (t127 == t128) = true then ((entry_Same.f k2 l0 l1).bind fun t129 => ((ref04_Same.f k2 l0 l1).bind fun t130 => (if (t129 == t130) = true then ((entry_Same.f k2 l0 l0).bind fun t131 => (some t131)) else (some false)))) else (some false)))) else (some false)))) else (some false))) = some r := H
          have A35 := Aside0.mk A350
          clear A350
          replace H := ob_ H
          obtain ⟨t124, A360, H⟩ := H
          replace H : (if t124 = true then ((entry_Top.f k2 l0).bind fun t125 => ((ref04_Top.f k2 l0).bind fun t126 => (if t125 = t126 then ((entry_Right.f k2 l0).bind fun t127 => ((ref04_Right.f k2 l0).bind fun t128 => (if (t127 == t128) = true then ((entry_Same.f k2 l0 l1).bind fun t129 => ((ref04_Same.f k2 l0 l1).bind fun t130 => (if (t129 == t130) = true then ((entry_Same.f k2 l0 l0).bind fun t131 => (some t131)) else (some false)))) else (some false)))) else (some false)))) else (some false)) = some r := H
          have A36 := Aside0.mk A360
          clear A360
          by_cases c37 : t124 = true
          ·subst c37
           have H1 : ((entry_Top.f k2 l0).bind fun t125 => ((ref04_Top.f k2 l0).bind fun t126 => (if t125 = t126 then ((entry_Right.f k2 l0).bind fun t127 => ((ref04_Right.f k2 l0).bind fun t128 => (if (t127 == t128) = true then ((entry_Same.f k2 l0 l1).bind fun t129 => ((ref04_Same.f k2 l0 l1).bind fun t130 => (if (t129 == t130) = true then ((entry_Same.f k2 l0 l0).bind fun t131 => (some t131)) else (some false)))) else (some false)))) else (some false)))) = some r := by rw [if_pos rfl] at H; exact H
           clear H
           have H := H1
           clear H1
           replace H := ob_ H
           obtain ⟨t125, A380, H⟩ := H
           replace H : ((ref04_Top.f k2 l0).bind fun t126 => (if t125 = t126 then ((entry_Right.f k2 l0).bind fun t127 => ((ref04_Right.f k2 l0).bind fun t128 => (if (t127 == t128) = true then ((entry_Same.f k2 l0 l1).bind fun t129 => ((ref04_Same.f k2 l0 l1).bind fun t130 => (if (t129 == t130) = true then ((entry_Same.f k2 l0 l0).bind fun t131 => (some t131)) else (some false)))) else (some false)))) else (some false))) = some r := H
           have A38 := Aside0.mk A380
           clear A380
           replace H := ob_ H
           obtain ⟨t126, A390, H⟩ := H
           replace H : (if t125 = t126 then ((entry_Right.f k2 l0).bind fun t127 => ((ref04_Right.f k2 l0).bind fun t128 => (if (t127 == t128) = true then ((entry_Same.f k2 l0 l1).bind fun t129 => ((ref04_Same.f k2 l0 l1).bind fun t130 => (if (t129 == t130) = true then ((entry_Same.f k2 l0 l0).bind fun t131 => (some t131)) else (some false)))) else (some false)))) else (some false)) = some r := H
           have A39 := Aside0.mk A390
           clear A390
           by_cases c40 : t125 = t126
           ·rw [if_pos c40] at H
            have c40b0 : (t125 == t126) = true := beq_iff_eq.mpr c40
            have c40b1 : (t125 != t126) = false := bne_eq_false_iff_eq.mpr c40
            clear c40
            replace H := ob_ H
            obtain ⟨t127, A410, H⟩ := H
            replace H : ((ref04_Right.f k2 l0).bind fun t128 => (if (t127 == t128) = true then ((entry_Same.f k2 l0 l1).bind fun t129 => ((ref04_Same.f k2 l0 l1).bind fun t130 => (if (t129 == t130) = true then ((entry_Same.f k2 l0 l0).bind fun t131 => (some t131)) else (some false)))) else (some false))) = some r := H
            have A41 := Aside0.mk A410
            clear A410
            replace H := ob_ H
            obtain ⟨t128, A420, H⟩ := H
            replace H : (if (t127 == t128) = true then ((entry_Same.f k2 l0 l1).bind fun t129 => ((ref04_Same.f k2 l0 l1).bind fun t130 => (if (t129 == t130) = true then ((entry_Same.f k2 l0 l0).bind fun t131 => (some t131)) else (some false)))) else (some false)) = some r := H
            have A42 := Aside0.mk A420
            clear A420
            by_cases c43 : (t127 == t128) = true
            ·rw [if_pos c43] at H
             have c43b0 : (t127 == t128) = true := c43
             (try (have c43b1 : decide (t127 = t128) = true := by simpa using c43))
             (try (have c43b2 : (t127 == t128) = true := by simpa using c43))
             clear c43
             replace H := ob_ H
             obtain ⟨t129, A440, H⟩ := H
             replace H : ((ref04_Same.f k2 l0 l1).bind fun t130 => (if (t129 == t130) = true then ((entry_Same.f k2 l0 l0).bind fun t131 => (some t131)) else (some false))) = some r := H
             have A44 := Aside0.mk A440
             clear A440
             replace H := ob_ H
             obtain ⟨t130, A450, H⟩ := H
             replace H : (if (t129 == t130) = true then ((entry_Same.f k2 l0 l0).bind fun t131 => (some t131)) else (some false)) = some r := H
             have A45 := Aside0.mk A450
             clear A450
             by_cases c46 : (t129 == t130) = true
             ·rw [if_pos c46] at H
              have c46b0 : (t129 == t130) = true := c46
              (try (have c46b1 : decide (t129 = t130) = true := by simpa using c46))
              (try (have c46b2 : (t129 == t130) = true := by simpa using c46))
              clear c46
              replace H := ob_ H
              obtain ⟨t131, A470, H⟩ := H
              replace H : (some t131) = some r := H
              have A47 := Aside0.mk A470
              clear A470
              obtain rfl := Option.some.inj H
              have hnb48 := NB108_113.out
              have hnc48 := NB113_108.out
              have hcz49_0 : wr.cell? ⟨gb108, 0, none⟩ = some (.int .i64 t104) := (qh_ BK108.out 0).trans rfl
              have hcz49_1 : wr.cell? ⟨gb108, 1, none⟩ = some (.int .i64 t105) := (qh_ BK108.out 1).trans rfl
              have hcz49_2 : wr.cell? ⟨gb108, 2, none⟩ = some (.string t106) := (qh_ BK108.out 2).trans rfl
              have hfz49_0 := qg_ BK108.out 0
              have hfz49_1 := qg_ BK108.out 1
              have hfz49_2 := qg_ BK108.out 2
              have hcz50_0 : wr.cell? ⟨gb113, 0, none⟩ = some (.int .i64 t109) := (qh_ BK113.out 0).trans rfl
              have hcz50_1 : wr.cell? ⟨gb113, 1, none⟩ = some (.int .i64 t110) := (qh_ BK113.out 1).trans rfl
              have hcz50_2 : wr.cell? ⟨gb113, 2, none⟩ = some (.string t111) := (qh_ BK113.out 2).trans rfl
              have hfz50_0 := qg_ BK113.out 0
              have hfz50_1 := qg_ BK113.out 1
              have hfz50_2 := qg_ BK113.out 2
              go_wp2_with (first | (go_at_call 20; (with_reducible refine (entry_Above.calls _ _ l0 a2 t118 _ ?side1 ?side2 A34.out).mono ?_); (case side1 => repeat (first | exact (Kd.qq_ HR0.out HB.out) | (with_reducible refine Kd.qo_ ?_ _) | (with_reducible refine Kd.qn_ ?_ _) | (with_reducible refine Kd.C_drew ?_))); (case side2 => exact HC0.out); rintro e w51 ⟨v119, rfl, ho0, hb⟩; have n0_ := Aside0.mk (Kd.R_lower (Kd.R_newB (Kd.R_newB ho0 (g := gb108) (o := .cells #[.int .i64 t104, .int .i64 t105, .string t106] 30 (0, 0)) (by (with_reducible repeat (first | refine ql_ ?_ _ | refine qp_ ?_ | refine qm_ ?_ _)); exact BK108.out)) (g := gb113) (o := .cells #[.int .i64 t109, .int .i64 t110, .string t111] 30 (0, 0)) (by (with_reducible repeat (first | refine ql_ ?_ _ | refine qp_ ?_ | refine qm_ ?_ _)); exact BK113.out)) (qi_ (by repeat (first | (with_reducible first | exact HB.out | apply qc_ | apply qa_ | apply qb_ | refine qk_ ?_ GE108.out | refine qk_ ?_ GE113.out) | exact HB.out)))); have n1_ := Aside0.mk (blk_below (g := gb108) (o := .cells #[.int .i64 t104, .int .i64 t105, .string t106] 30 (0, 0)) (by (with_reducible repeat (first | refine ql_ ?_ _ | refine qp_ ?_ | refine qm_ ?_ _)); exact BK108.out) hb); have n2_ := Aside0.mk (blk_below (g := gb113) (o := .cells #[.int .i64 t109, .int .i64 t110, .string t111] 30 (0, 0)) (by (with_reducible repeat (first | refine ql_ ?_ _ | refine qp_ ?_ | refine qm_ ?_ _)); exact BK113.out) hb); have n3_ := Aside0.mk (qf_ (by repeat (first | (with_reducible first | exact HB.out | apply qc_ | apply qa_ | apply qb_ | refine qk_ ?_ GE108.out | refine qk_ ?_ GE113.out) | exact HB.out)) hb); clear BK108; clear BK113; clear HB; have HO120 := n0_; have BK108 := n1_; have BK113 := n2_; have HB := n3_; clear n0_ n1_ n2_ n3_; (try clear hb); (try clear hb2); (try clear hk); (try clear hi); (try clear ho0)) | (go_at_call 21; (with_reducible refine (ref04_Above.calls k2 _ _ l0 a2 t121 _ ?side1 ?side2 A35.out).mono ?_); (case side1 => repeat (first | exact (Kd.qq_ HR0.out HB.out) | (with_reducible refine Kd.qo_ ?_ _) | (with_reducible refine Kd.qn_ ?_ _) | (with_reducible refine Kd.C_drew ?_))); (case side2 => exact HC0.out); rintro e w52 ⟨v122, rfl, ho0, hb⟩; have n0_ := Aside0.mk (Kd.R_elder' (by (with_reducible repeat (first | apply Kd.qe_ | apply Kd.qd_ | apply Kd.R_drew)); exact HO120.out) (Kd.R_base ho0) hb); have n1_ := Aside0.mk (Kd.R_lower (Kd.R_newB (Kd.R_newB (Kd.R_new' ho0 (Kd.R_lt (by (with_reducible repeat (first | apply Kd.qe_ | apply Kd.qd_ | apply Kd.R_drew)); exact HO120.out))) (g := gb108) (o := .cells #[.int .i64 t104, .int .i64 t105, .string t106] 30 (0, 0)) (by (with_reducible repeat (first | refine ql_ ?_ _ | refine qp_ ?_ | refine qm_ ?_ _)); exact BK108.out)) (g := gb113) (o := .cells #[.int .i64 t109, .int .i64 t110, .string t111] 30 (0, 0)) (by (with_reducible repeat (first | refine ql_ ?_ _ | refine qp_ ?_ | refine qm_ ?_ _)); exact BK113.out)) (qi_ (by repeat (first | (with_reducible first | exact HB.out | apply qc_ | apply qa_ | apply qb_ | refine qk_ ?_ GE108.out | refine qk_ ?_ GE113.out) | exact HB.out)))); have n2_ := Aside0.mk (blk_below (g := gb108) (o := .cells #[.int .i64 t104, .int .i64 t105, .string t106] 30 (0, 0)) (by (with_reducible repeat (first | refine ql_ ?_ _ | refine qp_ ?_ | refine qm_ ?_ _)); exact BK108.out) hb); have n3_ := Aside0.mk (blk_below (g := gb113) (o := .cells #[.int .i64 t109, .int .i64 t110, .string t111] 30 (0, 0)) (by (with_reducible repeat (first | refine ql_ ?_ _ | refine qp_ ?_ | refine qm_ ?_ _)); exact BK113.out) hb); have n4_ := Aside0.mk (qf_ (by repeat (first | (with_reducible first | exact HB.out | apply qc_ | apply qa_ | apply qb_ | refine qk_ ?_ GE108.out | refine qk_ ?_ GE113.out) | exact HB.out)) hb); clear HO120; clear BK108; clear BK113; clear HB; have HO120 := n0_; have HO123 := n1_; have BK108 := n2_; have BK113 := n3_; have HB := n4_; clear n0_ n1_ n2_ n3_ n4_; (try clear hb); (try clear hb2); (try clear hk); (try clear hi); (try clear ho0); obtain ⟨Ao53, co53, eo53⟩ := Kd.R_slice HO120.out; subst eo53; obtain ⟨Ao54, co54, eo54⟩ := Kd.R_slice HO123.out; subst eo54) | (go_at_call 12; (with_reducible refine (ref04_Same.calls k2 _ _ t118 _ _ t121 true _ ?side1 ?side2 ?side3 ?side4 A36.out).mono ?_); (case side1 => repeat (first | exact (Kd.R_reads' HO120.out).2.2 | (with_reducible refine Kd.qo_ ?_ _) | (with_reducible refine Kd.qn_ ?_ _) | (with_reducible refine Kd.C_drew ?_))); (case side2 => exact (Kd.R_reads' HO120.out).2.1); (case side3 => repeat (first | exact (Kd.R_reads' HO123.out).2.2 | (with_reducible refine Kd.qo_ ?_ _) | (with_reducible refine Kd.qn_ ?_ _) | (with_reducible refine Kd.C_drew ?_))); (case side4 => exact (Kd.R_reads' HO123.out).2.1); rintro e w' ⟨rfl, ⟨nd, rfl⟩⟩) | (go_at_call 15; (with_reducible refine (entry_Top.calls k2 _ _ l0 t125 _ ?side1 ?side2 A38.out).mono ?_); (case side1 => repeat (first | exact (Kd.qq_ HR0.out (by repeat (first | (with_reducible first | exact HB.out | apply qc_ | apply qa_ | apply qb_ | refine qk_ ?_ GE108.out | refine qk_ ?_ GE113.out) | exact HB.out))) | (with_reducible refine Kd.qo_ ?_ _) | (with_reducible refine Kd.qn_ ?_ _) | (with_reducible refine Kd.C_drew ?_))); (case side2 => exact HC0.out); rintro e w55 ⟨rfl, hb⟩; have n0_ := Aside0.mk (Kd.qj_ (by (with_reducible repeat (first | apply Kd.qe_ | apply Kd.qd_ | apply Kd.R_drew)); exact HO120.out) hb); have n1_ := Aside0.mk (Kd.qj_ (by (with_reducible repeat (first | apply Kd.qe_ | apply Kd.qd_ | apply Kd.R_drew)); exact HO123.out) hb); have n2_ := Aside0.mk (blk_below (g := gb108) (o := .cells #[.int .i64 t104, .int .i64 t105, .string t106] 30 (0, 0)) (by (with_reducible repeat (first | refine ql_ ?_ _ | refine qp_ ?_ | refine qm_ ?_ _)); exact BK108.out) hb); have n3_ := Aside0.mk (blk_below (g := gb113) (o := .cells #[.int .i64 t109, .int .i64 t110, .string t111] 30 (0, 0)) (by (with_reducible repeat (first | refine ql_ ?_ _ | refine qp_ ?_ | refine qm_ ?_ _)); exact BK113.out) hb); have n4_ := Aside0.mk (qf_ (by repeat (first | (with_reducible first | exact HB.out | apply qc_ | apply qa_ | apply qb_ | refine qk_ ?_ GE108.out | refine qk_ ?_ GE113.out) | exact HB.out)) hb); clear HO120; clear HO123; clear BK108; clear BK113; clear HB; have HO120 := n0_; have HO123 := n1_; have BK108 := n2_; have BK113 := n3_; have HB := n4_; clear n0_ n1_ n2_ n3_ n4_; (try clear hb); (try clear hb2); (try clear hk); (try clear hi)) | (go_at_call 22; (with_reducible refine (ref04_Top.calls k2 _ _ l0 t126 _ ?side1 ?side2 A39.out).mono ?_); (case side1 => repeat (first | exact (Kd.qq_ HR0.out HB.out) | (with_reducible refine Kd.qo_ ?_ _) | (with_reducible refine Kd.qn_ ?_ _) | (with_reducible refine Kd.C_drew ?_))); (case side2 => exact HC0.out); rintro e w56 ⟨rfl, hb⟩; have n0_ := Aside0.mk (Kd.qj_ (by (with_reducible repeat (first | apply Kd.qe_ | apply Kd.qd_ | apply Kd.R_drew)); exact HO120.out) hb); have n1_ := Aside0.mk (Kd.qj_ (by (with_reducible repeat (first | apply Kd.qe_ | apply Kd.qd_ | apply Kd.R_drew)); exact HO123.out) hb); have n2_ := Aside0.mk (blk_below (g := gb108) (o := .cells #[.int .i64 t104, .int .i64 t105, .string t106] 30 (0, 0)) (by (with_reducible repeat (first | refine ql_ ?_ _ | refine qp_ ?_ | refine qm_ ?_ _)); exact BK108.out) hb); have n3_ := Aside0.mk (blk_below (g := gb113) (o := .cells #[.int .i64 t109, .int .i64 t110, .string t111] 30 (0, 0)) (by (with_reducible repeat (first | refine ql_ ?_ _ | refine qp_ ?_ | refine qm_ ?_ _)); exact BK113.out) hb); have n4_ := Aside0.mk (qf_ (by repeat (first | (with_reducible first | exact HB.out | apply qc_ | apply qa_ | apply qb_ | refine qk_ ?_ GE108.out | refine qk_ ?_ GE113.out) | exact HB.out)) hb); clear HO120; clear HO123; clear BK108; clear BK113; clear HB; have HO120 := n0_; have HO123 := n1_; have BK108 := n2_; have BK113 := n3_; have HB := n4_; clear n0_ n1_ n2_ n3_ n4_; (try clear hb); (try clear hb2); (try clear hk); (try clear hi)) | (go_at_call 14; (with_reducible refine (entry_Right.calls k2 _ _ l0 t127 _ ?side1 ?side2 A41.out).mono ?_); (case side1 => repeat (first | exact (Kd.qq_ HR0.out HB.out) | (with_reducible refine Kd.qo_ ?_ _) | (with_reducible refine Kd.qn_ ?_ _) | (with_reducible refine Kd.C_drew ?_))); (case side2 => exact HC0.out); rintro e w57 ⟨rfl, hb⟩; have n0_ := Aside0.mk (Kd.qj_ (by (with_reducible repeat (first | apply Kd.qe_ | apply Kd.qd_ | apply Kd.R_drew)); exact HO120.out) hb); have n1_ := Aside0.mk (Kd.qj_ (by (with_reducible repeat (first | apply Kd.qe_ | apply Kd.qd_ | apply Kd.R_drew)); exact HO123.out) hb); have n2_ := Aside0.mk (blk_below (g := gb108) (o := .cells #[.int .i64 t104, .int .i64 t105, .string t106] 30 (0, 0)) (by (with_reducible repeat (first | refine ql_ ?_ _ | refine qp_ ?_ | refine qm_ ?_ _)); exact BK108.out) hb); have n3_ := Aside0.mk (blk_below (g := gb113) (o := .cells #[.int .i64 t109, .int .i64 t110, .string t111] 30 (0, 0)) (by (with_reducible repeat (first | refine ql_ ?_ _ | refine qp_ ?_ | refine qm_ ?_ _)); exact BK113.out) hb); have n4_ := Aside0.mk (qf_ (by repeat (first | (with_reducible first | exact HB.out | apply qc_ | apply qa_ | apply qb_ | refine qk_ ?_ GE108.out | refine qk_ ?_ GE113.out) | exact HB.out)) hb); clear HO120; clear HO123; clear BK108; clear BK113; clear HB; have HO120 := n0_; have HO123 := n1_; have BK108 := n2_; have BK113 := n3_; have HB := n4_; clear n0_ n1_ n2_ n3_ n4_; (try clear hb); (try clear hb2); (try clear hk); (try clear hi)) | (go_at_call 10; (with_reducible refine (ref04_Right.calls k2 _ _ l0 t128 _ ?side1 ?side2 A42.out).mono ?_); (case side1 => repeat (first | exact (Kd.qq_ HR0.out HB.out) | (with_reducible refine Kd.qo_ ?_ _) | (with_reducible refine Kd.qn_ ?_ _) | (with_reducible refine Kd.C_drew ?_))); (case side2 => exact HC0.out); rintro e w58 ⟨rfl, hb⟩; have n0_ := Aside0.mk (Kd.qj_ (by (with_reducible repeat (first | apply Kd.qe_ | apply Kd.qd_ | apply Kd.R_drew)); exact HO120.out) hb); have n1_ := Aside0.mk (Kd.qj_ (by (with_reducible repeat (first | apply Kd.qe_ | apply Kd.qd_ | apply Kd.R_drew)); exact HO123.out) hb); have n2_ := Aside0.mk (blk_below (g := gb108) (o := .cells #[.int .i64 t104, .int .i64 t105, .string t106] 30 (0, 0)) (by (with_reducible repeat (first | refine ql_ ?_ _ | refine qp_ ?_ | refine qm_ ?_ _)); exact BK108.out) hb); have n3_ := Aside0.mk (blk_below (g := gb113) (o := .cells #[.int .i64 t109, .int .i64 t110, .string t111] 30 (0, 0)) (by (with_reducible repeat (first | refine ql_ ?_ _ | refine qp_ ?_ | refine qm_ ?_ _)); exact BK113.out) hb); have n4_ := Aside0.mk (qf_ (by repeat (first | (with_reducible first | exact HB.out | apply qc_ | apply qa_ | apply qb_ | refine qk_ ?_ GE108.out | refine qk_ ?_ GE113.out) | exact HB.out)) hb); clear HO120; clear HO123; clear BK108; clear BK113; clear HB; have HO120 := n0_; have HO123 := n1_; have BK108 := n2_; have BK113 := n3_; have HB := n4_; clear n0_ n1_ n2_ n3_ n4_; (try clear hb); (try clear hb2); (try clear hk); (try clear hi)) | (go_at_call 23; (with_reducible refine (entry_Same.calls k2 _ _ l0 _ _ l1 t129 _ ?side1 ?side2 ?side3 ?side4 A44.out).mono ?_); (case side1 => repeat (first | exact (Kd.qq_ HR0.out HB.out) | (with_reducible refine Kd.qo_ ?_ _) | (with_reducible refine Kd.qn_ ?_ _) | (with_reducible refine Kd.C_drew ?_))); (case side2 => exact HC0.out); (case side3 => repeat (first | exact (Kd.qq_ HR1.out HB.out) | (with_reducible refine Kd.qo_ ?_ _) | (with_reducible refine Kd.qn_ ?_ _) | (with_reducible refine Kd.C_drew ?_))); (case side4 => exact HC1.out); rintro e w' ⟨rfl, ⟨nd, rfl⟩⟩) | (go_at_call 12; (with_reducible refine (ref04_Same.calls k2 _ _ l0 _ _ l1 t130 _ ?side1 ?side2 ?side3 ?side4 A45.out).mono ?_); (case side1 => repeat (first | exact (Kd.qq_ HR0.out (by repeat (first | (with_reducible first | exact HB.out | apply qc_ | apply qa_ | apply qb_ | refine qk_ ?_ GE108.out | refine qk_ ?_ GE113.out) | exact HB.out))) | (with_reducible refine Kd.qo_ ?_ _) | (with_reducible refine Kd.qn_ ?_ _) | (with_reducible refine Kd.C_drew ?_))); (case side2 => exact HC0.out); (case side3 => repeat (first | exact (Kd.qq_ HR1.out (by repeat (first | (with_reducible first | exact HB.out | apply qc_ | apply qa_ | apply qb_ | refine qk_ ?_ GE108.out | refine qk_ ?_ GE113.out) | exact HB.out))) | (with_reducible refine Kd.qo_ ?_ _) | (with_reducible refine Kd.qn_ ?_ _) | (with_reducible refine Kd.C_drew ?_))); (case side4 => exact HC1.out); rintro e w' ⟨rfl, ⟨nd, rfl⟩⟩) | (go_at_call 23; (with_reducible refine (entry_Same.calls k2 _ _ l0 _ _ l0 t131 _ ?side1 ?side2 ?side3 ?side4 A47.out).mono ?_); (case side1 => repeat (first | exact (Kd.qq_ HR0.out (by repeat (first | (with_reducible first | exact HB.out | apply qc_ | apply qa_ | apply qb_ | refine qk_ ?_ GE108.out | refine qk_ ?_ GE113.out) | exact HB.out))) | (with_reducible refine Kd.qo_ ?_ _) | (with_reducible refine Kd.qn_ ?_ _) | (with_reducible refine Kd.C_drew ?_))); (case side2 => exact HC0.out); (case side3 => repeat (first | exact (Kd.qq_ HR0.out (by repeat (first | (with_reducible first | exact HB.out | apply qc_ | apply qa_ | apply qb_ | refine qk_ ?_ GE108.out | refine qk_ ?_ GE113.out) | exact HB.out))) | (with_reducible refine Kd.qo_ ?_ _) | (with_reducible refine Kd.qn_ ?_ _) | (with_reducible refine Kd.C_drew ?_))); (case side4 => exact HC0.out); rintro e w' ⟨rfl, ⟨nd, rfl⟩⟩))
              go_ret
              exact ⟨by first | rfl | (simp [errW_none, errW_some] <;> rfl) | (simp [*, errW_none, errW_some] <;> rfl), by repeat (first | (with_reducible first | exact HB.out | apply qc_ | apply qa_ | apply qb_ | refine qk_ ?_ GE108.out | refine qk_ ?_ GE113.out) | exact HB.out)⟩
             ·rw [if_neg c46] at H
              exact absurd ((Option.some.inj H).trans HRT.out) (by decide)
            ·rw [if_neg c43] at H
             exact absurd ((Option.some.inj H).trans HRT.out) (by decide)
           ·rw [if_neg c40] at H
            exact absurd ((Option.some.inj H).trans HRT.out) (by decide)
          ·rw [if_neg c37] at H
           exact absurd ((Option.some.inj H).trans HRT.out) (by decide)
         ·rw [if_neg c33] at H
          have c33b0 : (t107 == t112) = false := by simpa using c33
          (try (have c33b1 : decide (t107 = t112) = false := by simpa using c33))
          (try (have c33b2 : (t107 == t112) = false := by simpa using c33))
          (try (have c33b3 : ¬ (t107 = t112) := by simpa using c33))
          clear c33
          obtain rfl := Option.some.inj H
          have hnb97 := NB108_113.out
          have hnc97 := NB113_108.out
          have hcz98_0 : wr.cell? ⟨gb108, 0, none⟩ = some (.int .i64 t104) := (qh_ BK108.out 0).trans rfl
          have hcz98_1 : wr.cell? ⟨gb108, 1, none⟩ = some (.int .i64 t105) := (qh_ BK108.out 1).trans rfl
          have hcz98_2 : wr.cell? ⟨gb108, 2, none⟩ = some (.string t106) := (qh_ BK108.out 2).trans rfl
          have hfz98_0 := qg_ BK108.out 0
          have hfz98_1 := qg_ BK108.out 1
          have hfz98_2 := qg_ BK108.out 2
          have hcz99_0 : wr.cell? ⟨gb113, 0, none⟩ = some (.int .i64 t109) := (qh_ BK113.out 0).trans rfl
          have hcz99_1 : wr.cell? ⟨gb113, 1, none⟩ = some (.int .i64 t110) := (qh_ BK113.out 1).trans rfl
          have hcz99_2 : wr.cell? ⟨gb113, 2, none⟩ = some (.string t111) := (qh_ BK113.out 2).trans rfl
          have hfz99_0 := qg_ BK113.out 0
          have hfz99_1 := qg_ BK113.out 1
          have hfz99_2 := qg_ BK113.out 2
          go_wp2
          go_ret
          exact ⟨by first | rfl | (simp [errW_none, errW_some] <;> rfl) | (simp [*, errW_none, errW_some] <;> rfl), by repeat (first | (with_reducible first | exact HB.out | apply qc_ | apply qa_ | apply qb_ | refine qk_ ?_ GE108.out | refine qk_ ?_ GE113.out) | exact HB.out)⟩
        ·rw [if_neg c32] at H
         have c32b0 : (t104 == t109 && (t105 == t110 && (t106.toList == t111.toList))) = false := by simpa using c32
         (try (have c32b1 : decide (t104 = t109 && (t105 == t110 && (t106.toList == t111.toList))) = false := by simpa using c32))
         (try (have c32b2 : (t104 == t109 && (t105 == t110 && (t106.toList == t111.toList))) = false := by simpa using c32))
         (try (have c32b3 : ¬ (t104 = t109 && (t105 == t110 && (t106.toList == t111.toList))) := by simpa using c32))
         clear c32
         obtain rfl := Option.some.inj H
         have hnb100 := NB108_113.out
         have hnc100 := NB113_108.out
         have hcz101_0 : wr.cell? ⟨gb108, 0, none⟩ = some (.int .i64 t104) := (qh_ BK108.out 0).trans rfl
         have hcz101_1 : wr.cell? ⟨gb108, 1, none⟩ = some (.int .i64 t105) := (qh_ BK108.out 1).trans rfl
         have hcz101_2 : wr.cell? ⟨gb108, 2, none⟩ = some (.string t106) := (qh_ BK108.out 2).trans rfl
         have hfz101_0 := qg_ BK108.out 0
         have hfz101_1 := qg_ BK108.out 1
         have hfz101_2 := qg_ BK108.out 2
         have hcz102_0 : wr.cell? ⟨gb113, 0, none⟩ = some (.int .i64 t109) := (qh_ BK113.out 0).trans rfl
         have hcz102_1 : wr.cell? ⟨gb113, 1, none⟩ = some (.int .i64 t110) := (qh_ BK113.out 1).trans rfl
         have hcz102_2 : wr.cell? ⟨gb113, 2, none⟩ = some (.string t111) := (qh_ BK113.out 2).trans rfl
         have hfz102_0 := qg_ BK113.out 0
         have hfz102_1 := qg_ BK113.out 1
         have hfz102_2 := qg_ BK113.out 2
         go_wp2
         go_ret
         exact ⟨by first | rfl | (simp [errW_none, errW_some] <;> rfl) | (simp [*, errW_none, errW_some] <;> rfl), by repeat (first | (with_reducible first | exact HB.out | apply qc_ | apply qa_ | apply qb_ | refine qk_ ?_ GE108.out | refine qk_ ?_ GE113.out) | exact HB.out)⟩
 ·rw [if_neg c5] at H
  exact absurd ((Option.some.inj H).trans HRT.out) (by decide)
end Go.Proofs.Ytpccnpgigmcfoaa.P

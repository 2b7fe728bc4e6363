/- What this function of the program comes to, and that the machine's call does it. No condition. -/
import Derived.Test.YtfoeahjbkmdgfaaPApiEntry45
import Derived.Test.YtfoeahjbkmdgfaaPRef04Get
import Derived.Test.YtfoeahjbkmdgfaaPRef04Right
namespace Go.Proofs.Ytfoeahjbkmdgfaa.P
set_option maxHeartbeats 8000000
set_option maxRecDepth 100000
open Go.RowKit Go.Proofs.YtfoeahjbkmdgfaaW.PrintWords Go.Proofs.YtfoeahjbkmdgfaaW.PrintLast Go.Proofs.YtfoeahjbkmdgfaaW.PrintMore
attribute [local go_sem] qw_ qu_ va_ qz_ qq_ qp_ qv_ qt_ Go.Proofs.YtfoeahjbkmdgfaaW.Hw.string_gtr
set_option linter.unusedVariables false
set_option linter.unusedSimpArgs false
def state_Copy.f (aC : Int) (aD : Int) (aB : List (S40)) : Option (Int × Int × (List (S40))) := (api_Entry_45.f aB).bind fun aJ => (some (aC, aD, aJ))
theorem state_Copy.calls (aC : Int) (aD : Int) (aI : Option Addr) (aH : Nat) (aB : List (S40)) (r1 : Int) (r2 : Int) (r3 : List (S40)) (w : World) (aM : Kd.C k40 w aI aB.length aB) (aN : aB.length ≤ aH) (h : state_Copy.f aC aD aB = some (r1, r2, r3)) :
  Calls Try.prog 27 #[.agg #[.int .i64 aC, .int .i64 aD, .slice aI aB.length aH]] w fun e w' => ∃ v2_ : Value, e = .returned (.agg #[.int .i64 r1, .int .i64 r2, v2_]) ∧ Kd.R k40 40 w' w.heap.size (fun _ => True) v2_ r3 ∧ Below w.heap.size w w' := by
 have hu24 := Try.underlying24; have aP := Zq_.mk aM; have aQ := Zq_.mk aN; clear aM aN; have HB := Zq_.mk (Below.refl w.heap.size w); have H : ((api_Entry_45.f aB).bind fun aJ => (some (aC, aD, aJ))) = some (r1, r2, r3) := h; clear h; replace H := ob_ H; obtain ⟨aJ, A20, H⟩ := H; replace H : (some (aC, aD, aJ)) = some (r1, r2, r3) := H; have A2 := Zq_.mk A20; clear A20; simp only [Option.some.injEq, Prod.mk.injEq] at H; obtain ⟨rfl, rfl, rfl⟩ := H
 go_enter Try.func27, Try.ntmps27
 go_wp2_with (first | ((with_reducible refine qi_ (N := 1) rfl ?_); refine bE_ 1 #[.int .i64 aC, .int .i64 aD, .slice aI aB.length aH] 24 ?_; intro aE hg w3 hbox hb; have aA := Zq_.mk (hbox); have GW101 := gW_ (w := w) hg (hB_ HB); have GE101 := gW_ (w := w) hg (hB_ HB); replace HB := Zq_.mk (qb_ (hB_ HB) hb); clear hb hbox hg) | ((with_reducible refine qi_ (N := 2) rfl ?_); refine bE_ 2 #[.int .i64 0, .int .i64 0, .slice none 0 0] 24 ?_; intro aK hg w4 hbox hb; have aG := Zq_.mk (hbox); have GW102 := gW_ (w := w) hg (by exact hSet_ HB); have GE102 := gW_ (w := w) hg (by exact hSet_ HB); replace HB := Zq_.mk (qb_ (by exact hSet_ HB) hb); have aL := Zq_.mk ((by rw [hg]; exact Nat.ne_of_lt (blk_lt (g := aE) (o := .cells #[.int .i64 aC, .int .i64 aD, .slice aI aB.length aH] 24 (0, 0)) (by exact bK_ aA)) : aE ≠ aK)); have aF := Zq_.mk ((by rw [hg]; exact Nat.ne_of_gt (blk_lt (g := aE) (o := .cells #[.int .i64 aC, .int .i64 aD, .slice aI aB.length aH] 24 (0, 0)) (by exact bK_ aA)) : aK ≠ aE)); replace aA := Zq_.mk (qa_ (g := aE) (o := .cells #[.int .i64 aC, .int .i64 aD, .slice aI aB.length aH] 24 (0, 0)) (by exact bK_ aA) hb); clear hb hbox hg; have hnb5 := aL.out; have hnc5 := aF.out; obtain ⟨hcz6_0, hcz6_1, hcz6_2⟩ := c3_ aA; obtain ⟨hfz6_0, hfz6_1, hfz6_2⟩ := f3_ aA) | ((with_reducible refine qn_ (f := 45) rfl ?_); refine goesL_ (some 5) rfl rfl Try.func45 (by kernel_rfl) rfl #[.slice aI aB.length aH] rfl (by (try simp only [List.map_toArray, List.map_cons, List.map_nil]); first | done | rfl | (simp only [List.length_drop, List.length_take]; rfl)) ?_; (with_reducible refine (api_Entry_45.calls _ _ aB aJ _ ?side1 ?side2 A2.out).mono ?_); (case side1 => exact cX_ (Kd.ve_ aP.out HB.out)); (case side2 => exact aQ.out); rintro e w7 ⟨v104, rfl, ho0, hb⟩; refine ⟨_, rfl, ?_⟩; have aO := Zq_.mk (Kd.qx_ ho0 (qe_ (by exact hSet_ HB))); replace aA := Zq_.mk (qa_ (g := aE) (o := .cells #[.int .i64 aC, .int .i64 aD, .slice aI aB.length aH] 24 (0, 0)) (by exact bK_ aA) hb); replace aG := Zq_.mk (qa_ (g := aK) (o := .cells #[.int .i64 0, .int .i64 0, .slice none 0 0] 24 (0, 0)) (by exact bK_ aG) hb); replace HB := Zq_.mk (qb_ (by exact hSet_ HB) hb); (try clear hb); (try clear ho0); obtain ⟨Ao8, co8, eo8⟩ := Kd.vb_ aO.out; subst eo8; obtain ⟨hcz9_0, hcz9_1, hcz9_2⟩ := c3_ aA; obtain ⟨hfz9_0, hfz9_1, hfz9_2⟩ := f3_ aA; obtain ⟨hcz10_0, hcz10_1, hcz10_2⟩ := c3_ aG; obtain ⟨hfz10_0, hfz10_1, hfz10_2⟩ := f3_ aG))
 refine bodyPost_ret (results_cell_row rfl _ _ aK 24 #[.int .i64 aC, .int .i64 aD, .slice Ao8 aJ.length co8] (0, 0) _ rfl (by refine bP_ (cs := #[.int .i64 aC, .int .i64 aD, .slice none 0 0]) 2 ?_; refine bP_ (cs := #[.int .i64 aC, .int .i64 0, .slice none 0 0]) 1 ?_; refine bP_ (cs := #[.int .i64 0, .int .i64 0, .slice none 0 0]) 0 ?_; refine bF_ aF ?_; (with_reducible repeat (first | refine qg_ ?_ _ | refine qf_ ?_ | refine qh_ ?_ _)); exact aG.out) Try.underlying24 rfl (by kernel_rfl)) rfl ?_; exact ⟨_, by exact eW_, by (with_reducible repeat (first | apply Kd.qm_ | apply Kd.ql_ | apply Kd.R_drew)); exact Kd.R_mono (Kd.R_far (Kd.R_far (Kd.R_far (Kd.R_far (Kd.vd_ (Kd.vd_ aO.out aA.out (by decide)) aG.out (by decide)) (fun _ hk => hk.1.2) _) (fun _ hk => hk.2) _) (fun _ hk => hk.2) _) (fun _ hk => hk.2) _) (fun _ hk => trivial), by exact hSet_ HB⟩
def state_Top.f (k : Nat) (aG : Int) (aC : Int) (aB : List (S40)) : Option (Int) := (entry_Top.f k aB).bind fun aD => (some (mx aC aD))
theorem state_Top.mono : ∀ a0 a1 a2 k, LeO (state_Top.f k a0 a1 a2) (state_Top.f (k + 1) a0 a1 a2) := by
 intro a0 a1 a2 k
 unfold state_Top.f
 repeat' first
   | (with_reducible exact entry_Top.mono _ _)
   | (with_reducible exact LeO.refl _)
   | (with_reducible exact LeO.none _)
   | (with_reducible refine LeO.ite ?_ ?_)
   | (with_reducible refine LeO.bind ?_ (fun _ => ?_))
   | exact entry_Top.mono _ _
   | exact LeO.none _
   | refine LeO.ite ?_ ?_
   | refine LeO.bind ?_ (fun _ => ?_)
theorem state_Top.calls (k : Nat) (aG : Int) (aC : Int) (aH : Option Addr) (aF : Nat) (aB : List (S40)) (r : Int) (w : World) (aI : Kd.C k40 w aH aB.length aB) (aJ : aB.length ≤ aF) (h : state_Top.f k aG aC aB = some r) :
  Calls Try.prog 24 #[.agg #[.int .i64 aG, .int .i64 aC, .slice aH aB.length aF]] w fun e w' => e = .returned (.int .i64 r) ∧ Below w.heap.size w w' := by
 have hu24 := Try.underlying24; have aL := Zq_.mk aI; have aM := Zq_.mk aJ; clear aI aJ; have HB := Zq_.mk (Below.refl w.heap.size w); have H : ((entry_Top.f k aB).bind fun aD => (some (mx aC aD))) = some r := h; clear h; replace H := ob_ H; obtain ⟨aD, A20, H⟩ := H; replace H : (some (mx aC aD)) = some r := H; have A2 := Zq_.mk A20; clear A20; obtain ⟨ji3, aE⟩ : ∃ j_ : Int, (mx aC aD) = j_ := ⟨_, rfl⟩
 replace H : (some ji3) = some r := by first | (rw [aE] at H; exact H) | (simp only [aE] at H ⊢; exact H)
 (try rw [aE] at A2); have hji3_ : (if aC < aD then aD else aC) = ji3 := aE; obtain rfl := Option.some.inj H
 go_enter Try.func24, Try.ntmps24
 try go_wp2_with (first | ((with_reducible refine qi_ (N := 1) rfl ?_); refine bE_ 1 #[.int .i64 aG, .int .i64 aC, .slice aH aB.length aF] 24 ?_; intro aK hg w4 hbox hb; have aA := Zq_.mk (hbox); have GW101 := gW_ (w := w) hg (hB_ HB); have GE101 := gW_ (w := w) hg (hB_ HB); replace HB := Zq_.mk (qb_ (hB_ HB) hb); clear hb hbox hg))
 replace aA := Zq_.mk (qf_ aA.out); replace HB := Zq_.mk (qs_ HB.out); refine gS_ 7 (hA_ (b0_ aA) (hA_ (b1_ aA) (hZ_ (b2_ aA)))) (fun hHeld => ?_); generalize w4.drew = w5 at aA HB hHeld ⊢; refine pure_ (i := 0) (N := some 3) (v := ?_) (a' := ?_) (bz_ 7 1) rfl rfl (by kernel_rfl) (fun _ _ _ h => h) (Or.inl ⟨by rfl, ?_⟩) ?_ ?_; rotate_left; (focus intro w'; go_simp; (with_reducible rfl)); rotate_left; (focus simp only [Act.put, sa_, sb_, sc_, i64_w, i32_w]; rfl); refine pure_ (i := 2) (N := some 5) (v := ?_) (a' := ?_) (bz_ 7 5) rfl rfl (by kernel_rfl) (fun _ _ _ h => h) (Or.inl ⟨by rfl, ?_⟩) ?_ ?_; rotate_left; (focus intro w'; go_simp; (with_reducible rfl)); rotate_left; (focus simp only [Act.put, sa_, sb_, sc_, i64_w, i32_w]; rfl); refine take_ (i := 1) (N := some 4) (v := ?_) (a' := ?_) (bz_ 7 7) rfl rfl (by kernel_rfl) (fun _ _ _ h => h) (Or.inl ⟨by rfl, ?_⟩) hHeld ?_ ?_; rotate_left; (focus rintro w' ⟨s0, s1, s2⟩; go_simp; (with_reducible rfl)); rotate_left; (focus simp only [Act.put, sa_, sb_, sc_, i64_w, i32_w]; rfl); refine take_ (i := 3) (N := some 6) (v := ?_) (a' := ?_) (bz_ 7 15) rfl rfl (by kernel_rfl) (fun _ _ _ h => h) (Or.inl ⟨by rfl, ?_⟩) hHeld ?_ ?_; rotate_left; (focus rintro w' ⟨s0, s1, s2⟩; go_simp; (with_reducible rfl)); rotate_left; (focus simp only [Act.put, sa_, sb_, sc_, i64_w, i32_w]; rfl); refine one_ (i := 4) (N := some 7) (bz_ 7 31) rfl rfl (by kernel_rfl) (by decide) (fun K hK => ?_); refine goes_ Try.func42 (by kernel_rfl) rfl #[.slice aH aB.length aF] (by rfl) rfl rfl (by (try simp only [List.map_toArray, List.map_cons, List.map_nil]); first | done | rfl | (simp only [List.length_drop, List.length_take]; rfl)) ?_
 with_reducible refine (entry_Top.calls k _ _ aB aD _ ?side1 ?side2 A2.out).mono ?_
 (case side1 => exact cX_ (Kd.ve_ aL.out HB.out)); (case side2 => exact aM.out); rintro e w6 ⟨rfl, hb⟩; refine ⟨_, rfl, ?_⟩; replace aA := Zq_.mk (qa_ (g := aK) (o := .cells #[.int .i64 aG, .int .i64 aC, .slice aH aB.length aF] 24 (0, 0)) (by exact bK_ aA) hb); replace HB := Zq_.mk (qb_ (by exact hSet_ HB) hb); (try clear hb); refine hK.out _ _ (c3_ aA) (fun hHeld => ?_); clear hK K; refine norm_ (a' := ?_) ?_ ?_; rotate_left
 ·show Act.put _ (some 7) _ = _
  simp only [Act.put, sa_, sb_, sc_, i64_w, i32_w]; rfl
 refine pure_ (i := 5) (N := some 8) (v := ?_) (a' := ?_) (bz_ 7 63) rfl rfl (by kernel_rfl) (fun _ _ _ h => h) (Or.inl ⟨by rfl, ?_⟩) ?_ ?_; rotate_left; (focus intro w'; go_simp; (with_reducible rfl)); rotate_left; (focus simp only [Act.put, sa_, sb_, sc_, i64_w, i32_w]; rfl); refine pure_ (i := 6) (N := some 2) (v := ?_) (a' := ?_) (bz_ 7 127) rfl rfl (by kernel_rfl) (fun _ _ _ h => h) (Or.inl ⟨by rfl, ?_⟩) ?_ ?_; rotate_left; (focus intro w'; go_simp; (with_reducible rfl)); rotate_left; (focus simp only [Act.put, sa_, sb_, sc_, i64_w, i32_w]; rfl); refine done_ (by kernel_rfl) ?_; (try go_wp2)
 go_ret
 exact ⟨by first | rfl | (simp [errW_none, errW_some] <;> rfl) | (simp only [← aE]; first | rfl | (simp [errW_none, errW_some] <;> rfl)) | (simp [*, errW_none, errW_some] <;> rfl), by exact hSet_ HB⟩
def entry_Get.f (l0 : List (S40)) (a1 : Int) : Option (Int × Int × ByteArray × Bool) := (entry_place.f l0 a1).bind fun aA => (if aA < 0 then (some (0, 0, (⟨#[]⟩ : ByteArray), false)) else (if 0 ≤ aA then (if aA < (l0.length : Int) then (some ((rd_T40 l0 aA).f0, (rd_T40 l0 aA).f1, (rd_T40 l0 aA).f2, true)) else (none)) else (none)))
theorem entry_Get.calls (A0 : Option Addr) (c0 : Nat) (l0 : List (S40)) (a1 : Int) (r1 : Int) (r2 : Int) (r3 : ByteArray) (r4 : Bool) (w : World) (hr0 : Kd.C k40 w A0 l0.length l0) (hc0 : l0.length ≤ c0) (h : entry_Get.f l0 a1 = some (r1, r2, r3, r4)) :
  Calls Try.prog 56 #[.slice A0 l0.length c0, .int .i64 a1] w fun e w' => e = .returned (.tuple #[.agg #[.int .i64 r1, .int .i64 r2, .string r3], .bool r4]) ∧ Below w.heap.size w w' := by
 have hu40 := Try.underlying40; have HR0 := Zq_.mk hr0; have HC0 := Zq_.mk hc0; clear hr0 hc0; have HB := Zq_.mk (Below.refl w.heap.size w); have H : ((entry_place.f l0 a1).bind fun aA => (if aA < 0 then (some (0, 0, (⟨#[]⟩ : ByteArray), false)) else (if 0 ≤ aA then (if aA < (l0.length : Int) then (some ((rd_T40 l0 aA).f0, (rd_T40 l0 aA).f1, (rd_T40 l0 aA).f2, true)) else (none)) else (none)))) = some (r1, r2, r3, r4) := h; clear h; replace H := ob_ H; obtain ⟨aA, A30, H⟩ := H; replace H : (if aA < 0 then (some (0, 0, (⟨#[]⟩ : ByteArray), false)) else (if 0 ≤ aA then (if aA < (l0.length : Int) then (some ((rd_T40 l0 aA).f0, (rd_T40 l0 aA).f1, (rd_T40 l0 aA).f2, true)) else (none)) else (none))) = some (r1, r2, r3, r4) := H; have A3 := Zq_.mk A30; clear A30
 by_cases c4 : aA < 0
 ·rw [if_pos c4] at H; have c4b0 : decide (aA < 0) = true := decide_eq_true c4; clear c4; simp only [Option.some.injEq, Prod.mk.injEq] at H; obtain ⟨rfl, rfl, rfl, rfl⟩ := H
  go_enter Try.func56, Try.ntmps56
  go_wp2_with (first | ((with_reducible refine qi_ (N := 4) rfl ?_); refine bE_ 4 #[.int .i64 0, .int .i64 0, .string (⟨#[]⟩ : ByteArray)] 40 ?_; intro aC hg w5 hbox hb; have aB := Zq_.mk (hbox); have aI := gW_ (w := w) hg (hB_ HB); have aJ := gW_ (w := w) hg (hB_ HB); replace HB := Zq_.mk (qb_ (hB_ HB) hb); clear hb hbox hg) | ((with_reducible refine qn_ (f := 63) rfl ?_); refine goesL_ (some 9) rfl rfl Try.func63 (by kernel_rfl) rfl #[.slice A0 l0.length c0, .int .i64 a1] rfl (by (try simp only [List.map_toArray, List.map_cons, List.map_nil]); first | done | rfl | (simp only [List.length_drop, List.length_take]; rfl)) ?_; (with_reducible refine (entry_place.calls _ _ l0 a1 aA _ ?side1 ?side2 A3.out).mono ?_); (case side1 => exact cX_ (Kd.ve_ HR0.out HB.out)); (case side2 => exact HC0.out); rintro e w6 ⟨rfl, hb⟩; refine ⟨_, rfl, ?_⟩; replace aB := Zq_.mk (qa_ (g := aC) (o := .cells #[.int .i64 0, .int .i64 0, .string (⟨#[]⟩ : ByteArray)] 40 (0, 0)) (by exact bK_ aB) hb); replace HB := Zq_.mk (qb_ (by exact hSet_ HB) hb); (try clear hb); obtain ⟨hcz7_0, hcz7_1, hcz7_2⟩ := c3_ aB; obtain ⟨hfz7_0, hfz7_1, hfz7_2⟩ := f3_ aB))
  refine bodyPost_ret (results_ct rfl _ _ aC 40 #[.int .i64 0, .int .i64 0, .string (⟨#[]⟩ : ByteArray)] (0, 0) _ rfl (by refine bP_ (cs := #[.int .i64 0, .int .i64 0, .string (⟨#[]⟩ : ByteArray)]) 2 ?_; refine bP_ (cs := #[.int .i64 0, .int .i64 0, .string (⟨#[]⟩ : ByteArray)]) 1 ?_; refine bP_ (cs := #[.int .i64 0, .int .i64 0, .string (⟨#[]⟩ : ByteArray)]) 0 ?_; (with_reducible repeat (first | refine qg_ ?_ _ | refine qf_ ?_ | refine qh_ ?_ _)); exact aB.out) Try.underlying40 rfl (by kernel_rfl)) rfl ?_; exact ⟨by exact eW_, by exact hSet_ HB⟩
 ·rw [if_neg c4] at H; have c4b0 : decide (aA < 0) = false := decide_eq_false c4; clear c4
  by_cases c8 : 0 ≤ aA
  ·rw [if_pos c8] at H; have c8b0 : decide (0 ≤ aA) = true := decide_eq_true c8; clear c8
   by_cases c9 : aA < (l0.length : Int)
   ·rw [if_pos c9] at H; have c9b0 : decide (aA < (l0.length : Int)) = true := decide_eq_true c9; clear c9; simp only [Option.some.injEq, Prod.mk.injEq] at H; obtain ⟨rfl, rfl, rfl, rfl⟩ := H
    go_enter Try.func56, Try.ntmps56
    go_wp2_with (first | ((with_reducible refine qi_ (N := 4) rfl ?_); refine bE_ 4 #[.int .i64 0, .int .i64 0, .string (⟨#[]⟩ : ByteArray)] 40 ?_; intro aC hg w10 hbox hb; have aB := Zq_.mk (hbox); have aI := gW_ (w := w) hg (hB_ HB); have aJ := gW_ (w := w) hg (hB_ HB); replace HB := Zq_.mk (qb_ (hB_ HB) hb); clear hb hbox hg) | ((with_reducible refine qn_ (f := 63) rfl ?_); refine goesL_ (some 9) rfl rfl Try.func63 (by kernel_rfl) rfl #[.slice A0 l0.length c0, .int .i64 a1] rfl (by (try simp only [List.map_toArray, List.map_cons, List.map_nil]); first | done | rfl | (simp only [List.length_drop, List.length_take]; rfl)) ?_; (with_reducible refine (entry_place.calls _ _ l0 a1 aA _ ?side1 ?side2 A3.out).mono ?_); (case side1 => exact cX_ (Kd.ve_ HR0.out HB.out)); (case side2 => exact HC0.out); rintro e w11 ⟨rfl, hb⟩; refine ⟨_, rfl, ?_⟩; replace aB := Zq_.mk (qa_ (g := aC) (o := .cells #[.int .i64 0, .int .i64 0, .string (⟨#[]⟩ : ByteArray)] 40 (0, 0)) (by exact bK_ aB) hb); replace HB := Zq_.mk (qb_ (by exact hSet_ HB) hb); (try clear hb); have aH : 0 ≤ (aA : Int) := dA_; have aG : aA < (l0.length : Int) := dA_; obtain ⟨ad103, e103, aF, aE, aD⟩ := at_T40 HR0.out aA aH aG; cases e103; replace aF := hC_ HB aF; replace aE := hC_ HB aE; replace aD := hC_ HB aD; replace aH := eq_true aH; replace aG := eq_true aG; obtain ⟨hcz12_0, hcz12_1, hcz12_2⟩ := c3_ aB; obtain ⟨hfz12_0, hfz12_1, hfz12_2⟩ := f3_ aB))
    refine bodyPost_ret (results_ct rfl _ _ aC 40 #[.int .i64 ((rd_T40 l0 aA).f0), .int .i64 ((rd_T40 l0 aA).f1), .string ((rd_T40 l0 aA).f2)] (0, 0) _ rfl (by refine bP_ (cs := #[.int .i64 ((rd_T40 l0 aA).f0), .int .i64 ((rd_T40 l0 aA).f1), .string (⟨#[]⟩ : ByteArray)]) 2 ?_; refine bP_ (cs := #[.int .i64 ((rd_T40 l0 aA).f0), .int .i64 0, .string (⟨#[]⟩ : ByteArray)]) 1 ?_; refine bP_ (cs := #[.int .i64 0, .int .i64 0, .string (⟨#[]⟩ : ByteArray)]) 0 ?_; (with_reducible repeat (first | refine qg_ ?_ _ | refine qf_ ?_ | refine qh_ ?_ _)); exact aB.out) Try.underlying40 rfl (by kernel_rfl)) rfl ?_; exact ⟨by exact eW_, by exact hSet_ HB⟩
   ·rw [if_neg c9] at H; exact absurd H (by simp)
  ·rw [if_neg c8] at H; exact absurd H (by simp)
def law05_great.l0 : Nat → List (S24) → Int → Option (Bool)
 | 0, _, _ => none
 | k + 1, x0, x3 => if x3 < (x0.length : Int) then (if 0 ≤ x3 then ((ref05_Great.f k ((rd_T24 x0 x3).f0) ((rd_T24 x0 x3).f1) ((rd_T24 x0 x3).f2)).bind fun aM => (if aM = true then (some true) else (law05_great.l0 k x0 (wrap64 (x3 + 1))))) else (none)) else (some false)
def law05_great.f (k : Nat) (l0 : List (S24)) : Option (Bool) := law05_great.l0 k l0 0
theorem law05_great.mono_l : ∀ k, (∀ y0 y1, LeO (law05_great.l0 k y0 y1) (law05_great.l0 (k + 1) y0 y1))
 | 0 => fun _ _ r h => by simp [law05_great.l0] at h
 | k + 1 => by
  have ih0 := law05_great.mono_l k
  ·intro y0 y1
   unfold law05_great.l0
   repeat' first
   | (with_reducible exact ih0 _ _)
   | (with_reducible exact ref05_Great.mono _ _ _ _)
   | (with_reducible exact LeO.refl _)
   | (with_reducible exact LeO.none _)
   | (with_reducible refine LeO.ite ?_ ?_)
   | (with_reducible refine LeO.bind ?_ (fun _ => ?_))
   | exact ih0 _ _
   | exact ref05_Great.mono _ _ _ _
   | exact LeO.none _
   | refine LeO.ite ?_ ?_
   | refine LeO.bind ?_ (fun _ => ?_)
theorem law05_great.mono : ∀ a0 k, LeO (law05_great.f k a0) (law05_great.f (k + 1) a0) := by
 intro a0 k; have ih0 := law05_great.mono_l k
 unfold law05_great.f
 repeat' first
   | (with_reducible exact ih0 _ _)
   | (with_reducible exact ref05_Great.mono _ _ _ _)
   | (with_reducible exact LeO.refl _)
   | (with_reducible exact LeO.none _)
   | (with_reducible refine LeO.ite ?_ ?_)
   | (with_reducible refine LeO.bind ?_ (fun _ => ?_))
   | exact ih0 _ _
   | exact ref05_Great.mono _ _ _ _
   | exact LeO.none _
   | refine LeO.ite ?_ ?_
   | refine LeO.bind ?_ (fun _ => ?_)
theorem law05_great.calls (k : Nat) (A0 : Option Addr) (c0 : Nat) (l0 : List (S24)) (r : Bool) (w : World) (hr0 : Kd.C k24 w A0 l0.length l0) (hc0 : l0.length ≤ c0) (h : law05_great.f k l0 = some r) :
  Calls Try.prog 10 #[.slice A0 l0.length c0] w fun e w' => e = .returned (.bool r) ∧ Below w.heap.size w w' := by
 have hu24 := Try.underlying24; have HR0 := Zq_.mk hr0; have HC0 := Zq_.mk hc0; clear hr0 hc0; have HB := Zq_.mk (Below.refl w.heap.size w); have H : (law05_great.l0 k l0 0) = some r := h; clear h; have H' := Zq_.mk H; clear H
 go_enter Try.func10, Try.ntmps10
 go_wp2
 go_loopg [3] k (fun kq v3 w' => ∃ (aA : Int), v3 = .int .i64 aA ∧ Zq_ (law05_great.l0 kq l0 aA = some r) ∧ Zq_ (kq ≤ k) ∧ Zq_ (Below w.heap.size w w'))
 case atStart => exact ⟨(0), eS_, H', ⟨Nat.le_refl _⟩, ⟨hB_ HB⟩⟩
 case round =>
  clear H'
  try clear c1
  obtain ⟨aA, rfl, HA, HK1, HB⟩ := hrel
  cases gk with
  | zero => exact absurd HA.out (by simp [law05_great.l0])
  | succ k1 =>
   have H := HA.out; clear HA; simp only [law05_great.l0] at H
   by_cases c2 : aA < (l0.length : Int)
   ·rw [if_pos c2] at H; have c2b0 : decide (aA < (l0.length : Int)) = true := decide_eq_true c2; clear c2
    by_cases c3 : 0 ≤ aA
    ·rw [if_pos c3] at H; have c3b0 : decide (0 ≤ aA) = true := decide_eq_true c3; clear c3; replace H := ob_ H; obtain ⟨aM, A40, H⟩ := H; replace H : (if aM = true then (some true) else (law05_great.l0 k1 l0 (wrap64 (aA + 1)))) = some r := H; have A4 := Zq_.mk A40; clear A40
     by_cases c5 : aM = true
     ·subst c5
      have H1 : (some true) = some r := by rw [if_pos rfl] at H; exact H
      clear H; have H := H1; clear H1; obtain rfl := Option.some.inj H; have aJ : 0 ≤ (aA : Int) := dA_; have aI : aA < (l0.length : Int) := dA_; obtain ⟨aO, aL, aK, aN, aD, aC, aB, aE, aF⟩ := at_T24 HR0.out aA aJ aI; cases aN; replace aD := hC_ HB aD; replace aC := hC_ HB aC; replace aB := hC_ HB aB; have aG := Zq_.mk aF; have aH := Zq_.mk aE; clear aF aE; replace aJ := eq_true aJ; replace aI := eq_true aI
      go_wp2_with (first | ((with_reducible refine qn_ (f := 29) rfl ?_); refine goesL_ (some 14) rfl rfl Try.func29 (by kernel_rfl) rfl #[.agg #[.int .i64 ((rd_T24 l0 aA).f0), .int .i64 ((rd_T24 l0 aA).f1), .slice aL ((rd_T24 l0 aA).f2).length aK]] rfl (by (try simp only [List.map_toArray, List.map_cons, List.map_nil]); first | done | rfl | (simp only [List.length_drop, List.length_take]; rfl)) ?_; (with_reducible refine (ref05_Great.calls k1 ((rd_T24 l0 aA).f0) ((rd_T24 l0 aA).f1) _ _ ((rd_T24 l0 aA).f2) true _ ?side1 ?side2 A4.out).mono ?_); (case side1 => exact cX_ (Kd.ve_ aG.out HB.out)); (case side2 => exact aH.out); rintro e w6 ⟨rfl, hb⟩; refine ⟨_, rfl, ?_⟩; replace HB := Zq_.mk (qb_ (hB_ HB) hb); (try clear hb)))
      go_ret
      exact ⟨by exact eW_, hB_ HB⟩
     ·replace c5 := Bool.eq_false_iff.mpr c5; subst c5
      have H1 : (law05_great.l0 k1 l0 (wrap64 (aA + 1))) = some r := by rw [if_neg (show ¬ (false = true) by decide)] at H; exact H
      clear H; have H := H1; clear H1; have H' := Zq_.mk H; clear H; have aJ : 0 ≤ (aA : Int) := dA_; have aI : aA < (l0.length : Int) := dA_; obtain ⟨aO, aL, aK, aN, aD, aC, aB, aE, aF⟩ := at_T24 HR0.out aA aJ aI; cases aN; replace aD := hC_ HB aD; replace aC := hC_ HB aC; replace aB := hC_ HB aB; have aG := Zq_.mk aF; have aH := Zq_.mk aE; clear aF aE; replace aJ := eq_true aJ; replace aI := eq_true aI
      go_wp2_with (first | ((with_reducible refine qn_ (f := 29) rfl ?_); refine goesL_ (some 14) rfl rfl Try.func29 (by kernel_rfl) rfl #[.agg #[.int .i64 ((rd_T24 l0 aA).f0), .int .i64 ((rd_T24 l0 aA).f1), .slice aL ((rd_T24 l0 aA).f2).length aK]] rfl (by (try simp only [List.map_toArray, List.map_cons, List.map_nil]); first | done | rfl | (simp only [List.length_drop, List.length_take]; rfl)) ?_; (with_reducible refine (ref05_Great.calls k1 ((rd_T24 l0 aA).f0) ((rd_T24 l0 aA).f1) _ _ ((rd_T24 l0 aA).f2) false _ ?side1 ?side2 A4.out).mono ?_); (case side1 => exact cX_ (Kd.ve_ aG.out HB.out)); (case side2 => exact aH.out); rintro e w7 ⟨rfl, hb⟩; refine ⟨_, rfl, ?_⟩; replace HB := Zq_.mk (qb_ (hB_ HB) hb); (try clear hb)))
      go_roundg k1
      case measure => have := HK1.out; omega
      case rel => exact ⟨(wrap64 (aA + 1)), eS_, H', ⟨by have := HK1.out; omega⟩, ⟨hB_ HB⟩⟩
    ·rw [if_neg c3] at H; exact absurd H (by simp)
   ·rw [if_neg c2] at H; have c2b0 : decide (aA < (l0.length : Int)) = false := decide_eq_false c2; clear c2; obtain rfl := Option.some.inj H
    go_wp2
    go_ret
    exact ⟨by exact eW_, hB_ HB⟩
def ref05_Right.f (k : Nat) (aC : Int) (aB : Int) (aD : List (S40)) : Option (Bool) := if aC ≥ 1 then (if aC ≤ 1099511627776 then (if aB ≥ 0 then (if aB ≤ 1099511627776 then ((ref04_Right.f k aD).bind fun aJ => (some aJ)) else (some false)) else (some false)) else (some false)) else (some false)
theorem ref05_Right.mono : ∀ a0 a1 a2 k, LeO (ref05_Right.f k a0 a1 a2) (ref05_Right.f (k + 1) a0 a1 a2) := by
 intro a0 a1 a2 k
 unfold ref05_Right.f
 repeat' first
   | (with_reducible exact ref04_Right.mono _ _)
   | (with_reducible exact LeO.refl _)
   | (with_reducible exact LeO.none _)
   | (with_reducible refine LeO.ite ?_ ?_)
   | (with_reducible refine LeO.bind ?_ (fun _ => ?_))
   | exact ref04_Right.mono _ _
   | exact LeO.none _
   | refine LeO.ite ?_ ?_
   | refine LeO.bind ?_ (fun _ => ?_)
theorem ref05_Right.calls (k : Nat) (aC : Int) (aB : Int) (aG : Option Addr) (aF : Nat) (aD : List (S40)) (r : Bool) (w : World) (aK : Kd.C k40 w aG aD.length aD) (aL : aD.length ≤ aF) (h : ref05_Right.f k aC aB aD = some r) :
  Calls Try.prog 17 #[.agg #[.int .i64 aC, .int .i64 aB, .slice aG aD.length aF]] w fun e w' => e = .returned (.bool r) ∧ Below w.heap.size w w' := by
 have hu24 := Try.underlying24; have aM := Zq_.mk aK; have aN := Zq_.mk aL; clear aK aL; have HB := Zq_.mk (Below.refl w.heap.size w); have H : (if aC ≥ 1 then (if aC ≤ 1099511627776 then (if aB ≥ 0 then (if aB ≤ 1099511627776 then ((ref04_Right.f k aD).bind fun aJ => (some aJ)) else (some false)) else (some false)) else (some false)) else (some false)) = some r := h; clear h
 by_cases c2 : aC ≥ 1
 ·rw [if_pos c2] at H; have c2b0 : decide (1 ≤ aC) = true := decide_eq_true c2; clear c2
  by_cases c3 : aC ≤ 1099511627776
  ·rw [if_pos c3] at H; have c3b0 : decide (aC ≤ 1099511627776) = true := decide_eq_true c3; clear c3
   by_cases c4 : aB ≥ 0
   ·rw [if_pos c4] at H; have c4b0 : decide (0 ≤ aB) = true := decide_eq_true c4; clear c4
    by_cases c5 : aB ≤ 1099511627776
    ·rw [if_pos c5] at H; have c5b0 : decide (aB ≤ 1099511627776) = true := decide_eq_true c5; clear c5; replace H := ob_ H; obtain ⟨aJ, A60, H⟩ := H; replace H : (some aJ) = some r := H; have A6 := Zq_.mk A60; clear A60; obtain rfl := Option.some.inj H
     go_enter Try.func17, Try.ntmps17
     go_wp2_with (first | ((with_reducible refine qi_ (N := 1) rfl ?_); refine bE_ 1 #[.int .i64 aC, .int .i64 aB, .slice aG aD.length aF] 24 ?_; intro aE hg w7 hbox hb; have aA := Zq_.mk (hbox); have aH := gW_ (w := w) hg (hB_ HB); have aI := gW_ (w := w) hg (hB_ HB); replace HB := Zq_.mk (qb_ (hB_ HB) hb); clear hb hbox hg; obtain ⟨hcz8_0, hcz8_1, hcz8_2⟩ := c3_ aA; obtain ⟨hfz8_0, hfz8_1, hfz8_2⟩ := f3_ aA) | (go_at_call 36; (with_reducible refine (ref04_Right.calls k _ _ aD aJ _ ?side1 ?side2 A6.out).mono ?_); (case side1 => exact cX_ (Kd.ve_ aM.out HB.out)); (case side2 => exact aN.out); rintro e w9 ⟨rfl, hb⟩; replace aA := Zq_.mk (qa_ (g := aE) (o := .cells #[.int .i64 aC, .int .i64 aB, .slice aG aD.length aF] 24 (0, 0)) (by exact bK_ aA) hb); replace HB := Zq_.mk (qb_ (by exact hSet_ HB) hb); (try clear hb)))
     go_ret
     exact ⟨by exact eW_, by exact hSet_ HB⟩
    ·rw [if_neg c5] at H; have c5b0 : decide (aB ≤ 1099511627776) = false := decide_eq_false c5; clear c5; obtain rfl := Option.some.inj H
     go_enter Try.func17, Try.ntmps17
     go_wp2_with (first | ((with_reducible refine qi_ (N := 1) rfl ?_); refine bE_ 1 #[.int .i64 aC, .int .i64 aB, .slice aG aD.length aF] 24 ?_; intro aE hg w10 hbox hb; have aA := Zq_.mk (hbox); have aH := gW_ (w := w) hg (hB_ HB); have aI := gW_ (w := w) hg (hB_ HB); replace HB := Zq_.mk (qb_ (hB_ HB) hb); clear hb hbox hg; obtain ⟨hcz11_0, hcz11_1, hcz11_2⟩ := c3_ aA; obtain ⟨hfz11_0, hfz11_1, hfz11_2⟩ := f3_ aA))
     go_ret
     exact ⟨by exact eW_, by exact hSet_ HB⟩
   ·rw [if_neg c4] at H; have c4b0 : decide (0 ≤ aB) = false := decide_eq_false c4; clear c4; obtain rfl := Option.some.inj H
    go_enter Try.func17, Try.ntmps17
    go_wp2_with (first | ((with_reducible refine qi_ (N := 1) rfl ?_); refine bE_ 1 #[.int .i64 aC, .int .i64 aB, .slice aG aD.length aF] 24 ?_; intro aE hg w12 hbox hb; have aA := Zq_.mk (hbox); have aH := gW_ (w := w) hg (hB_ HB); have aI := gW_ (w := w) hg (hB_ HB); replace HB := Zq_.mk (qb_ (hB_ HB) hb); clear hb hbox hg; obtain ⟨hcz13_0, hcz13_1, hcz13_2⟩ := c3_ aA; obtain ⟨hfz13_0, hfz13_1, hfz13_2⟩ := f3_ aA))
    go_ret
    exact ⟨by exact eW_, by exact hSet_ HB⟩
  ·rw [if_neg c3] at H; have c3b0 : decide (aC ≤ 1099511627776) = false := decide_eq_false c3; clear c3; obtain rfl := Option.some.inj H
   go_enter Try.func17, Try.ntmps17
   go_wp2_with (first | ((with_reducible refine qi_ (N := 1) rfl ?_); refine bE_ 1 #[.int .i64 aC, .int .i64 aB, .slice aG aD.length aF] 24 ?_; intro aE hg w14 hbox hb; have aA := Zq_.mk (hbox); have aH := gW_ (w := w) hg (hB_ HB); have aI := gW_ (w := w) hg (hB_ HB); replace HB := Zq_.mk (qb_ (hB_ HB) hb); clear hb hbox hg; obtain ⟨hcz15_0, hcz15_1, hcz15_2⟩ := c3_ aA; obtain ⟨hfz15_0, hfz15_1, hfz15_2⟩ := f3_ aA))
   go_ret
   exact ⟨by exact eW_, by exact hSet_ HB⟩
 ·rw [if_neg c2] at H; have c2b0 : decide (1 ≤ aC) = false := decide_eq_false c2; clear c2; obtain rfl := Option.some.inj H
  go_enter Try.func17, Try.ntmps17
  go_wp2_with (first | ((with_reducible refine qi_ (N := 1) rfl ?_); refine bE_ 1 #[.int .i64 aC, .int .i64 aB, .slice aG aD.length aF] 24 ?_; intro aE hg w16 hbox hb; have aA := Zq_.mk (hbox); have aH := gW_ (w := w) hg (hB_ HB); have aI := gW_ (w := w) hg (hB_ HB); replace HB := Zq_.mk (qb_ (hB_ HB) hb); clear hb hbox hg; obtain ⟨hcz17_0, hcz17_1, hcz17_2⟩ := c3_ aA; obtain ⟨hfz17_0, hfz17_1, hfz17_2⟩ := f3_ aA))
  go_ret
  exact ⟨by exact eW_, by exact hSet_ HB⟩
def ref05_Same.f (k : Nat) (aD : Int) (aC : Int) (aE : List (S40)) (aK : Int) (aJ : Int) (aN : List (S40)) : Option (Bool) := if aD = aK then (if aC = aJ then ((ref04_Same.f k aE aN).bind fun aO => (some aO)) else (some false)) else (some false)
theorem ref05_Same.mono : ∀ a0 a1 a2 a3 a4 a5 k, LeO (ref05_Same.f k a0 a1 a2 a3 a4 a5) (ref05_Same.f (k + 1) a0 a1 a2 a3 a4 a5) := by
 intro a0 a1 a2 a3 a4 a5 k
 unfold ref05_Same.f
 repeat' first
   | (with_reducible exact ref04_Same.mono _ _ _)
   | (with_reducible exact LeO.refl _)
   | (with_reducible exact LeO.none _)
   | (with_reducible refine LeO.ite ?_ ?_)
   | (with_reducible refine LeO.bind ?_ (fun _ => ?_))
   | exact ref04_Same.mono _ _ _
   | exact LeO.none _
   | refine LeO.ite ?_ ?_
   | refine LeO.bind ?_ (fun _ => ?_)
theorem ref05_Same.calls (k : Nat) (aD : Int) (aC : Int) (aI : Option Addr) (aH : Nat) (aE : List (S40)) (aK : Int) (aJ : Int) (aQ : Option Addr) (aP : Nat) (aN : List (S40)) (r : Bool) (w : World) (aS : Kd.C k40 w aI aE.length aE) (aU : aE.length ≤ aH) (aR : Kd.C k40 w aQ aN.length aN) (aT : aN.length ≤ aP) (h : ref05_Same.f k aD aC aE aK aJ aN = some r) :
  Calls Try.prog 16 #[.agg #[.int .i64 aD, .int .i64 aC, .slice aI aE.length aH], .agg #[.int .i64 aK, .int .i64 aJ, .slice aQ aN.length aP]] w fun e w' => e = .returned (.bool r) ∧ Below w.heap.size w w' := by
 have hu24 := Try.underlying24; have bA := Zq_.mk aS; have bC := Zq_.mk aU; clear aS aU; have aZ := Zq_.mk aR; have bB := Zq_.mk aT; clear aR aT; have HB := Zq_.mk (Below.refl w.heap.size w); have H : (if aD = aK then (if aC = aJ then ((ref04_Same.f k aE aN).bind fun aO => (some aO)) else (some false)) else (some false)) = some r := h; clear h
 by_cases c3 : aD = aK
 ·rw [if_pos c3] at H; have c3b0 : (aD == aK) = true := beq_iff_eq.mpr c3; have c3b1 : (aD != aK) = false := bne_eq_false_iff_eq.mpr c3; clear c3
  by_cases c4 : aC = aJ
  ·rw [if_pos c4] at H; have c4b0 : (aC == aJ) = true := beq_iff_eq.mpr c4; have c4b1 : (aC != aJ) = false := bne_eq_false_iff_eq.mpr c4; clear c4; replace H := ob_ H; obtain ⟨aO, A50, H⟩ := H; replace H : (some aO) = some r := H; have A5 := Zq_.mk A50; clear A50; obtain rfl := Option.some.inj H
   go_enter Try.func16, Try.ntmps16
   go_wp2_with (first | ((with_reducible refine qi_ (N := 2) rfl ?_); refine bE_ 2 #[.int .i64 aD, .int .i64 aC, .slice aI aE.length aH] 24 ?_; intro aB hg w6 hbox hb; have aA := Zq_.mk (hbox); have aW := gW_ (w := w) hg (hB_ HB); have aY := gW_ (w := w) hg (hB_ HB); replace HB := Zq_.mk (qb_ (hB_ HB) hb); clear hb hbox hg) | ((with_reducible refine qi_ (N := 3) rfl ?_); refine bE_ 3 #[.int .i64 aK, .int .i64 aJ, .slice aQ aN.length aP] 24 ?_; intro aL hg w7 hbox hb; have aM := Zq_.mk (hbox); have aV := gW_ (w := w) hg (by exact hSet_ HB); have aX := gW_ (w := w) hg (by exact hSet_ HB); replace HB := Zq_.mk (qb_ (by exact hSet_ HB) hb); have aG := Zq_.mk ((by rw [hg]; exact Nat.ne_of_lt (blk_lt (g := aB) (o := .cells #[.int .i64 aD, .int .i64 aC, .slice aI aE.length aH] 24 (0, 0)) (by exact bK_ aA)) : aB ≠ aL)); have aF := Zq_.mk ((by rw [hg]; exact Nat.ne_of_gt (blk_lt (g := aB) (o := .cells #[.int .i64 aD, .int .i64 aC, .slice aI aE.length aH] 24 (0, 0)) (by exact bK_ aA)) : aL ≠ aB)); replace aA := Zq_.mk (qa_ (g := aB) (o := .cells #[.int .i64 aD, .int .i64 aC, .slice aI aE.length aH] 24 (0, 0)) (by exact bK_ aA) hb); clear hb hbox hg; have hnb8 := aG.out; have hnc8 := aF.out; obtain ⟨hcz9_0, hcz9_1, hcz9_2⟩ := c3_ aA; obtain ⟨hfz9_0, hfz9_1, hfz9_2⟩ := f3_ aA; obtain ⟨hcz10_0, hcz10_1, hcz10_2⟩ := c3_ aM; obtain ⟨hfz10_0, hfz10_1, hfz10_2⟩ := f3_ aM) | (go_at_call 35; (with_reducible refine (ref04_Same.calls k _ _ aE _ _ aN aO _ ?side1 ?side2 ?side3 ?side4 A5.out).mono ?_); (case side1 => exact cX_ (Kd.ve_ bA.out HB.out)); (case side2 => exact bC.out); (case side3 => exact cX_ (Kd.ve_ aZ.out HB.out)); (case side4 => exact bB.out); rintro e w' ⟨rfl, ⟨nd, rfl⟩⟩))
   go_ret
   exact ⟨by exact eW_, by exact hSet_ HB⟩
  ·rw [if_neg c4] at H; have c4b0 : (aC == aJ) = false := beq_eq_false_iff_ne.mpr c4; have c4b1 : (aC != aJ) = true := bne_iff_ne.mpr c4; obtain rfl := Option.some.inj H
   go_enter Try.func16, Try.ntmps16
   go_wp2_with (first | ((with_reducible refine qi_ (N := 2) rfl ?_); refine bE_ 2 #[.int .i64 aD, .int .i64 aC, .slice aI aE.length aH] 24 ?_; intro aB hg w11 hbox hb; have aA := Zq_.mk (hbox); have aW := gW_ (w := w) hg (hB_ HB); have aY := gW_ (w := w) hg (hB_ HB); replace HB := Zq_.mk (qb_ (hB_ HB) hb); clear hb hbox hg) | ((with_reducible refine qi_ (N := 3) rfl ?_); refine bE_ 3 #[.int .i64 aK, .int .i64 aJ, .slice aQ aN.length aP] 24 ?_; intro aL hg w12 hbox hb; have aM := Zq_.mk (hbox); have aV := gW_ (w := w) hg (by exact hSet_ HB); have aX := gW_ (w := w) hg (by exact hSet_ HB); replace HB := Zq_.mk (qb_ (by exact hSet_ HB) hb); have aG := Zq_.mk ((by rw [hg]; exact Nat.ne_of_lt (blk_lt (g := aB) (o := .cells #[.int .i64 aD, .int .i64 aC, .slice aI aE.length aH] 24 (0, 0)) (by exact bK_ aA)) : aB ≠ aL)); have aF := Zq_.mk ((by rw [hg]; exact Nat.ne_of_gt (blk_lt (g := aB) (o := .cells #[.int .i64 aD, .int .i64 aC, .slice aI aE.length aH] 24 (0, 0)) (by exact bK_ aA)) : aL ≠ aB)); replace aA := Zq_.mk (qa_ (g := aB) (o := .cells #[.int .i64 aD, .int .i64 aC, .slice aI aE.length aH] 24 (0, 0)) (by exact bK_ aA) hb); clear hb hbox hg; have hnb13 := aG.out; have hnc13 := aF.out; obtain ⟨hcz14_0, hcz14_1, hcz14_2⟩ := c3_ aA; obtain ⟨hfz14_0, hfz14_1, hfz14_2⟩ := f3_ aA; obtain ⟨hcz15_0, hcz15_1, hcz15_2⟩ := c3_ aM; obtain ⟨hfz15_0, hfz15_1, hfz15_2⟩ := f3_ aM))
   go_ret
   exact ⟨by exact eW_, by exact hSet_ HB⟩
 ·rw [if_neg c3] at H; have c3b0 : (aD == aK) = false := beq_eq_false_iff_ne.mpr c3; have c3b1 : (aD != aK) = true := bne_iff_ne.mpr c3; obtain rfl := Option.some.inj H
  go_enter Try.func16, Try.ntmps16
  go_wp2_with (first | ((with_reducible refine qi_ (N := 2) rfl ?_); refine bE_ 2 #[.int .i64 aD, .int .i64 aC, .slice aI aE.length aH] 24 ?_; intro aB hg w16 hbox hb; have aA := Zq_.mk (hbox); have aW := gW_ (w := w) hg (hB_ HB); have aY := gW_ (w := w) hg (hB_ HB); replace HB := Zq_.mk (qb_ (hB_ HB) hb); clear hb hbox hg) | ((with_reducible refine qi_ (N := 3) rfl ?_); refine bE_ 3 #[.int .i64 aK, .int .i64 aJ, .slice aQ aN.length aP] 24 ?_; intro aL hg w17 hbox hb; have aM := Zq_.mk (hbox); have aV := gW_ (w := w) hg (by exact hSet_ HB); have aX := gW_ (w := w) hg (by exact hSet_ HB); replace HB := Zq_.mk (qb_ (by exact hSet_ HB) hb); have aG := Zq_.mk ((by rw [hg]; exact Nat.ne_of_lt (blk_lt (g := aB) (o := .cells #[.int .i64 aD, .int .i64 aC, .slice aI aE.length aH] 24 (0, 0)) (by exact bK_ aA)) : aB ≠ aL)); have aF := Zq_.mk ((by rw [hg]; exact Nat.ne_of_gt (blk_lt (g := aB) (o := .cells #[.int .i64 aD, .int .i64 aC, .slice aI aE.length aH] 24 (0, 0)) (by exact bK_ aA)) : aL ≠ aB)); replace aA := Zq_.mk (qa_ (g := aB) (o := .cells #[.int .i64 aD, .int .i64 aC, .slice aI aE.length aH] 24 (0, 0)) (by exact bK_ aA) hb); clear hb hbox hg; have hnb18 := aG.out; have hnc18 := aF.out; obtain ⟨hcz19_0, hcz19_1, hcz19_2⟩ := c3_ aA; obtain ⟨hfz19_0, hfz19_1, hfz19_2⟩ := f3_ aA; obtain ⟨hcz20_0, hcz20_1, hcz20_2⟩ := c3_ aM; obtain ⟨hfz20_0, hfz20_1, hfz20_2⟩ := f3_ aM))
  go_ret
  exact ⟨by exact eW_, by exact hSet_ HB⟩
def state_next.f (k : Nat) (aE : Int) (aD : Int) (aA : List (S40)) : Option (Int × Int) := (state_Top.f k aE aD aA).bind fun aC => (if (wrap64 (aC + 1)) > 1099511627776 then (some (0, 11)) else (some (wrap64 (aC + 1), 0)))
theorem state_next.mono : ∀ a0 a1 a2 k, LeO (state_next.f k a0 a1 a2) (state_next.f (k + 1) a0 a1 a2) := by
 intro a0 a1 a2 k
 unfold state_next.f
 repeat' first
   | (with_reducible exact state_Top.mono _ _ _ _)
   | (with_reducible exact LeO.refl _)
   | (with_reducible exact LeO.none _)
   | (with_reducible refine LeO.ite ?_ ?_)
   | (with_reducible refine LeO.bind ?_ (fun _ => ?_))
   | exact state_Top.mono _ _ _ _
   | exact LeO.none _
   | refine LeO.ite ?_ ?_
   | refine LeO.bind ?_ (fun _ => ?_)
theorem state_next.calls (k : Nat) (aE : Int) (aD : Int) (aG : Option Addr) (aF : Nat) (aA : List (S40)) (r1 : Int) (r2 : Int) (w : World) (aI : Kd.C k40 w aG aA.length aA) (aJ : aA.length ≤ aF) (h : state_next.f k aE aD aA = some (r1, r2)) :
  Calls Try.prog 31 #[.agg #[.int .i64 aE, .int .i64 aD, .slice aG aA.length aF]] w fun e w' => e = .returned (.tuple #[.int .i64 r1, .int .i64 r2]) ∧ Below w.heap.size w w' := by
 have hu24 := Try.underlying24; have aK := Zq_.mk aI; have aL := Zq_.mk aJ; clear aI aJ; have HB := Zq_.mk (Below.refl w.heap.size w); have H : ((state_Top.f k aE aD aA).bind fun aC => (if (wrap64 (aC + 1)) > 1099511627776 then (some (0, 11)) else (some (wrap64 (aC + 1), 0)))) = some (r1, r2) := h; clear h; replace H := ob_ H; obtain ⟨aC, A20, H⟩ := H; replace H : (if (wrap64 (aC + 1)) > 1099511627776 then (some (0, 11)) else (some (wrap64 (aC + 1), 0))) = some (r1, r2) := H; have A2 := Zq_.mk A20; clear A20
 by_cases c3 : (wrap64 (aC + 1)) > 1099511627776
 ·rw [if_pos c3] at H; have c3b0 : decide (1099511627776 < (wrap64 (aC + 1))) = true := decide_eq_true c3; clear c3; simp only [Option.some.injEq, Prod.mk.injEq] at H; obtain ⟨rfl, rfl⟩ := H
  go_enter Try.func31, Try.ntmps31
  go_wp2_with (first | ((with_reducible refine qi_ (N := 1) rfl ?_); refine bE_ 1 #[.int .i64 aE, .int .i64 aD, .slice aG aA.length aF] 24 ?_; intro aH hg w4 hbox hb; have aB := Zq_.mk (hbox); have aM := gW_ (w := w) hg (hB_ HB); have aN := gW_ (w := w) hg (hB_ HB); replace HB := Zq_.mk (qb_ (hB_ HB) hb); clear hb hbox hg; obtain ⟨hcz5_0, hcz5_1, hcz5_2⟩ := c3_ aB; obtain ⟨hfz5_0, hfz5_1, hfz5_2⟩ := f3_ aB) | ((with_reducible refine qn_ (f := 24) rfl ?_); refine goesL_ (some 6) rfl rfl Try.func24 (by kernel_rfl) rfl #[.agg #[.int .i64 aE, .int .i64 aD, .slice aG aA.length aF]] rfl (by (try simp only [List.map_toArray, List.map_cons, List.map_nil]); first | done | rfl | (simp only [List.length_drop, List.length_take]; rfl)) ?_; (with_reducible refine (state_Top.calls k aE aD _ _ aA aC _ ?side1 ?side2 A2.out).mono ?_); (case side1 => exact cX_ (Kd.ve_ aK.out HB.out)); (case side2 => exact aL.out); rintro e w6 ⟨rfl, hb⟩; refine ⟨_, rfl, ?_⟩; replace aB := Zq_.mk (qa_ (g := aH) (o := .cells #[.int .i64 aE, .int .i64 aD, .slice aG aA.length aF] 24 (0, 0)) (by exact bK_ aB) hb); replace HB := Zq_.mk (qb_ (by exact hSet_ HB) hb); (try clear hb)))
  go_ret2
  exact ⟨by exact eW_, by exact hSet_ HB⟩
 ·rw [if_neg c3] at H; have c3b0 : decide (1099511627776 < (wrap64 (aC + 1))) = false := decide_eq_false c3; clear c3; simp only [Option.some.injEq, Prod.mk.injEq] at H; obtain ⟨rfl, rfl⟩ := H
  go_enter Try.func31, Try.ntmps31
  go_wp2_with (first | ((with_reducible refine qi_ (N := 1) rfl ?_); refine bE_ 1 #[.int .i64 aE, .int .i64 aD, .slice aG aA.length aF] 24 ?_; intro aH hg w7 hbox hb; have aB := Zq_.mk (hbox); have aM := gW_ (w := w) hg (hB_ HB); have aN := gW_ (w := w) hg (hB_ HB); replace HB := Zq_.mk (qb_ (hB_ HB) hb); clear hb hbox hg; obtain ⟨hcz8_0, hcz8_1, hcz8_2⟩ := c3_ aB; obtain ⟨hfz8_0, hfz8_1, hfz8_2⟩ := f3_ aB) | ((with_reducible refine qn_ (f := 24) rfl ?_); refine goesL_ (some 6) rfl rfl Try.func24 (by kernel_rfl) rfl #[.agg #[.int .i64 aE, .int .i64 aD, .slice aG aA.length aF]] rfl (by (try simp only [List.map_toArray, List.map_cons, List.map_nil]); first | done | rfl | (simp only [List.length_drop, List.length_take]; rfl)) ?_; (with_reducible refine (state_Top.calls k aE aD _ _ aA aC _ ?side1 ?side2 A2.out).mono ?_); (case side1 => exact cX_ (Kd.ve_ aK.out HB.out)); (case side2 => exact aL.out); rintro e w9 ⟨rfl, hb⟩; refine ⟨_, rfl, ?_⟩; replace aB := Zq_.mk (qa_ (g := aH) (o := .cells #[.int .i64 aE, .int .i64 aD, .slice aG aA.length aF] 24 (0, 0)) (by exact bK_ aB) hb); replace HB := Zq_.mk (qb_ (by exact hSet_ HB) hb); (try clear hb)))
  go_ret2
  exact ⟨by exact eW_, by exact hSet_ HB⟩
end Go.Proofs.Ytfoeahjbkmdgfaa.P

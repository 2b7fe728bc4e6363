/- What this function of the program comes to, and that the machine's call does it. No condition. -/
import Derived.Test.YtgipbmjkgciccaaP0
import Derived.Test.YtgipbmjkgciccaaHw
namespace Go.Proofs.Ytgipbmjkgciccaa.P
set_option maxHeartbeats 8000000
set_option maxRecDepth 100000
open Go.RowKit Go.Proofs.YtgipbmjkgciccaaW.PrintWords Go.Proofs.YtgipbmjkgciccaaW.PrintLast Go.Proofs.YtgipbmjkgciccaaW.PrintMore
attribute [local go_sem] max2_int min2_int max_two min_two max_three min_three max_four min_four Go.Proofs.YtgipbmjkgciccaaW.Hw.string_gtr
set_option linter.unusedVariables false
set_option linter.unusedSimpArgs false
def entry_Top.l0 : Nat → Int → List (S58) → Int → Int → Option (Int)
 | 0, _, _, _, _ => none
 | k + 1, x3, x6, x7, x8 => if x8 < x7 then (if 0 ≤ x8 then (if x8 < (x6.length : Int) then (entry_Top.l0 k (mx x3 ((rd_T58 x6 x8).f1)) x6 x7 (wrap64 (x8 + 1))) else (none)) else (none)) else (some x3)
def entry_Top.f (k : Nat) (l0 : List (S58)) : Option (Int) := entry_Top.l0 k 0 l0 (l0.length : Int) 0
theorem entry_Top.mono_l : ∀ k, (∀ y0 y1 y2 y3, LeO (entry_Top.l0 k y0 y1 y2 y3) (entry_Top.l0 (k + 1) y0 y1 y2 y3))
 | 0 => fun _ _ _ _ r h => by simp [entry_Top.l0] at h
 | k + 1 => by
  have ih0 := entry_Top.mono_l k
  ·intro y0 y1 y2 y3
   unfold entry_Top.l0
   repeat' first
   | (with_reducible exact ih0 _ _ _ _)
   | (with_reducible exact LeO.refl _)
   | (with_reducible exact LeO.none _)
   | (with_reducible refine LeO.ite ?_ ?_)
   | (with_reducible refine LeO.bind ?_ (fun _ => ?_))
   | exact ih0 _ _ _ _
   | exact LeO.none _
   | refine LeO.ite ?_ ?_
   | refine LeO.bind ?_ (fun _ => ?_)
theorem entry_Top.mono : ∀ a0 k, LeO (entry_Top.f k a0) (entry_Top.f (k + 1) a0) := by
 intro a0 k; have ih0 := entry_Top.mono_l k
 unfold entry_Top.f
 repeat' first
   | (with_reducible exact ih0 _ _ _ _)
   | (with_reducible exact LeO.refl _)
   | (with_reducible exact LeO.none _)
   | (with_reducible refine LeO.ite ?_ ?_)
   | (with_reducible refine LeO.bind ?_ (fun _ => ?_))
   | exact ih0 _ _ _ _
   | exact LeO.none _
   | refine LeO.ite ?_ ?_
   | refine LeO.bind ?_ (fun _ => ?_)
theorem entry_Top.calls (k : Nat) (A0 : Option Addr) (c0 : Nat) (l0 : List (S58)) (r : Int) (w : World) (hr0 : Kd.C k58 w A0 l0.length l0) (hc0 : l0.length ≤ c0) (h : entry_Top.f k l0 = some r) :
  Calls Try.prog 70 #[.slice A0 l0.length c0] w fun e w' => e = .returned (.int .i64 r) ∧ Below w.heap.size w w' := by
 have hu58 := Try.underlying58; have HR0 := Zq_.mk hr0; have HC0 := Zq_.mk hc0; clear hr0 hc0; have HB := Zq_.mk (Below.refl w.heap.size w); have H : (entry_Top.l0 k 0 l0 (l0.length : Int) 0) = some r := h; clear h; have H' := Zq_.mk H; clear H
 go_enter Try.func70, Try.ntmps70
 go_wp2
 go_loopg [3, 8] k (fun kq v3 v8 w' => ∃ (x3_1 : Int) (x8_1 : Int), v3 = .int .i64 x3_1 ∧ v8 = .int .i64 x8_1 ∧ Zq_ (entry_Top.l0 kq x3_1 l0 (l0.length : Int) x8_1 = some r) ∧ Zq_ (kq ≤ k) ∧ Zq_ (Below w.heap.size w w'))
 case atStart => exact ⟨(0), (0), (by first | rfl | (simp; done) | (simp [*]; done)), (by first | rfl | (simp; done) | (simp [*]; done)), H', ⟨Nat.le_refl _⟩, ⟨hB_ HB⟩⟩
 case round =>
  clear H'; obtain ⟨x3_1, x8_1, rfl, rfl, HA, HK1, HB⟩ := hrel
  cases gk with
  | zero => exact absurd HA.out (by simp [entry_Top.l0])
  | succ k1 =>
   have H := HA.out; clear HA; simp only [entry_Top.l0] at H
   by_cases c2 : x8_1 < (l0.length : Int)
   ·rw [if_pos c2] at H; have c2b0 : decide (x8_1 < (l0.length : Int)) = true := decide_eq_true c2; clear c2
    by_cases c3 : 0 ≤ x8_1
    ·rw [if_pos c3] at H; have c3b0 : decide (0 ≤ x8_1) = true := decide_eq_true c3; clear c3
     by_cases c4 : x8_1 < (l0.length : Int)
     ·rw [if_pos c4] at H; have c4b0 : decide (x8_1 < (l0.length : Int)) = true := decide_eq_true c4; clear c4; obtain ⟨ji5, hji5⟩ : ∃ j_ : Int, (mx x3_1 ((rd_T58 l0 x8_1).f1)) = j_ := ⟨_, rfl⟩
      replace H : (entry_Top.l0 k1 ji5 l0 (l0.length : Int) (wrap64 (x8_1 + 1))) = some r := by first | (rw [hji5] at H; exact H) | (simp only [hji5] at H ⊢; exact H)
      have hji5_ : (if x3_1 < ((rd_T58 l0 x8_1).f1) then ((rd_T58 l0 x8_1).f1) else x3_1) = ji5 := hji5; have H' := Zq_.mk H; clear H; have p101 : 0 ≤ (x8_1 : Int) := dA_; have q101 : x8_1 < (l0.length : Int) := dA_; obtain ⟨ad101, e101, hx101_0, hx101_1, hx101_2⟩ := at_T58 HR0.out x8_1 p101 q101; cases e101; replace hx101_0 := hC_ HB hx101_0; replace hx101_1 := hC_ HB hx101_1; replace hx101_2 := hC_ HB hx101_2; replace p101 := eq_true p101; replace q101 := eq_true q101
      go_wp2_with (first | ((with_reducible refine qq_ (N := 5) rfl ?_); refine qo_ ?hg (N := 5) ?hd (cs := #[.int .i64 0, .int .i64 0, .string (⟨#[]⟩ : ByteArray)]) (t := 58) ?hr ?_; (case hd => rfl); (case hg => rfl); (case hr => first | (go_simp; done) | (go_simp; rfl)); intro gb102 hg w6 hbox hb; have BK102 := Zq_.mk (hbox); have GW102 := gW_ (w := w) hg (hB_ HB); have GE102 := gW_ (w := w) hg (hB_ HB); replace HB := Zq_.mk (ql_ (hB_ HB) hb); clear hb hbox hg; have hcz7_0 := cz_ BK102 0 (.int .i64 0); have hcz7_1 := cz_ BK102 1 (.int .i64 0); have hcz7_2 := cz_ BK102 2 (.string (⟨#[]⟩ : ByteArray)); have hfz7_0 := qe_ BK102.out 0; have hfz7_1 := qe_ BK102.out 1; have hfz7_2 := qe_ BK102.out 2))
      go_roundg k1
      case measure => have := HK1.out; omega
      case rel => exact ⟨(ji5), (wrap64 (x8_1 + 1)), (by first | rfl | (simp; done) | (simp only [← hji5] <;> (first | rfl | simp)) | (simp [*]; done)), (by first | rfl | (simp; done) | (simp [*]; done)), H', ⟨by have := HK1.out; omega⟩, ⟨by exact hSet_ HB⟩⟩
     ·rw [if_neg c4] at H; exact absurd H (by simp)
    ·rw [if_neg c3] at H; exact absurd H (by simp)
   ·rw [if_neg c2] at H; have c2b0 : decide (x8_1 < (l0.length : Int)) = false := decide_eq_false c2; clear c2; obtain rfl := Option.some.inj H
    go_wp2
    go_ret
    exact ⟨by first | rfl | (simp [errW_none, errW_some] <;> rfl) | (simp [*, errW_none, errW_some] <;> rfl), hB_ HB⟩
def state_Top.f (k : Nat) (a0_0 : Int) (a0_1 : Int) (l0_2 : List (S58)) : Option (Int) := (entry_Top.f k l0_2).bind fun t102 => (some (mx a0_1 t102))
theorem state_Top.mono : ∀ a0 a1 a2 k, LeO (state_Top.f k a0 a1 a2) (state_Top.f (k + 1) a0 a1 a2) := by
 intro a0 a1 a2 k
 unfold state_Top.f
 repeat' first
   | (with_reducible exact entry_Top.mono _ _)
   | (with_reducible exact LeO.refl _)
   | (with_reducible exact LeO.none _)
   | (with_reducible refine LeO.ite ?_ ?_)
   | (with_reducible refine LeO.bind ?_ (fun _ => ?_))
   | exact entry_Top.mono _ _
   | exact LeO.none _
   | refine LeO.ite ?_ ?_
   | refine LeO.bind ?_ (fun _ => ?_)
theorem state_Top.calls (k : Nat) (a0_0 : Int) (a0_1 : Int) (A0_2 : Option Addr) (c0_2 : Nat) (l0_2 : List (S58)) (r : Int) (w : World) (hr0_2 : Kd.C k58 w A0_2 l0_2.length l0_2) (hc0_2 : l0_2.length ≤ c0_2) (h : state_Top.f k a0_0 a0_1 l0_2 = some r) :
  Calls Try.prog 53 #[.agg #[.int .i64 a0_0, .int .i64 a0_1, .slice A0_2 l0_2.length c0_2]] w fun e w' => e = .returned (.int .i64 r) ∧ Below w.heap.size w w' := by
 have hu35 := Try.underlying35; have HR0_2 := Zq_.mk hr0_2; have HC0_2 := Zq_.mk hc0_2; clear hr0_2 hc0_2; have HB := Zq_.mk (Below.refl w.heap.size w); have H : ((entry_Top.f k l0_2).bind fun t102 => (some (mx a0_1 t102))) = some r := h; clear h; replace H := ob_ H; obtain ⟨t102, A20, H⟩ := H; replace H : (some (mx a0_1 t102)) = some r := H; have A2 := Zq_.mk A20; clear A20; obtain ⟨ji3, hji3⟩ : ∃ j_ : Int, (mx a0_1 t102) = j_ := ⟨_, rfl⟩
 replace H : (some ji3) = some r := by first | (rw [hji3] at H; exact H) | (simp only [hji3] at H ⊢; exact H)
 (try rw [hji3] at A2); have hji3_ : (if a0_1 < t102 then t102 else a0_1) = ji3 := hji3; obtain rfl := Option.some.inj H
 go_enter Try.func53, Try.ntmps53
 try go_wp2_with (first | ((with_reducible refine qq_ (N := 1) rfl ?_); refine qo_ ?hg (N := 1) ?hd (cs := #[.int .i64 a0_0, .int .i64 a0_1, .slice A0_2 l0_2.length c0_2]) (t := 35) ?hr ?_; (case hd => rfl); (case hg => rfl); (case hr => first | (go_simp; done) | (go_simp; rfl)); intro gb101 hg w4 hbox hb; have BK101 := Zq_.mk (hbox); have GW101 := gW_ (w := w) hg (hB_ HB); have GE101 := gW_ (w := w) hg (hB_ HB); replace HB := Zq_.mk (ql_ (hB_ HB) hb); clear hb hbox hg))
 replace BK101 := Zq_.mk (qi_ BK101.out); replace HB := Zq_.mk (qb_ HB.out); refine start_ (n := 7) (S := fun w' => w'.cell? ⟨gb101, 0, none⟩ = some (.int .i64 a0_0) ∧ w'.cell? ⟨gb101, 1, none⟩ = some (.int .i64 a0_1) ∧ w'.cell? ⟨gb101, 2, none⟩ = some (.slice A0_2 l0_2.length c0_2)) (ds := []) #[false,false,false,false,false,false,false] (by kernel_rfl) rfl rfl ⟨(qd_ BK101.out 0).trans rfl, (qd_ BK101.out 1).trans rfl, (qd_ BK101.out 2).trans rfl⟩ (fun hHeld => ?_); generalize w4.drew = w5 at BK101 HB hHeld ⊢; refine pure_ (i := 0) (N := some 3) (v := ?_) (a' := ?_) (bz_ 7 1) rfl rfl (by kernel_rfl) (fun _ _ _ h => h) (Or.inl ⟨by rfl, ?_⟩) ?_ ?_; rotate_left; (focus intro w'; go_simp; (with_reducible rfl)); rotate_left; (focus simp only [Act.put, sa_, sb_, sc_, i64_w, i32_w]; rfl); refine pure_ (i := 2) (N := some 5) (v := ?_) (a' := ?_) (bz_ 7 5) rfl rfl (by kernel_rfl) (fun _ _ _ h => h) (Or.inl ⟨by rfl, ?_⟩) ?_ ?_; rotate_left; (focus intro w'; go_simp; (with_reducible rfl)); rotate_left; (focus simp only [Act.put, sa_, sb_, sc_, i64_w, i32_w]; rfl); refine take_ (i := 1) (N := some 4) (v := ?_) (a' := ?_) (bz_ 7 7) rfl rfl (by kernel_rfl) (fun _ _ _ h => h) (Or.inl ⟨by rfl, ?_⟩) hHeld ?_ ?_; rotate_left; (focus rintro w' ⟨s0, s1, s2⟩; go_simp; (with_reducible rfl)); rotate_left; (focus simp only [Act.put, sa_, sb_, sc_, i64_w, i32_w]; rfl); refine take_ (i := 3) (N := some 6) (v := ?_) (a' := ?_) (bz_ 7 15) rfl rfl (by kernel_rfl) (fun _ _ _ h => h) (Or.inl ⟨by rfl, ?_⟩) hHeld ?_ ?_; rotate_left; (focus rintro w' ⟨s0, s1, s2⟩; go_simp; (with_reducible rfl)); rotate_left; (focus simp only [Act.put, sa_, sb_, sc_, i64_w, i32_w]; rfl); refine one_ (i := 4) (N := some 7) (bz_ 7 31) rfl rfl (by kernel_rfl) (by decide) (fun K hK => ?_); refine goes_ Try.func70 (by kernel_rfl) rfl #[.slice A0_2 l0_2.length c0_2] (by rfl) rfl rfl (by (try simp only [List.map_toArray, List.map_cons, List.map_nil]); first | done | rfl | (simp only [List.length_drop, List.length_take]; rfl)) ?_
 with_reducible refine (entry_Top.calls k _ _ l0_2 t102 _ ?side1 ?side2 A2.out).mono ?_
 (case side1 => exact cX_ (Kd.qz_ HR0_2.out HB.out)); (case side2 => exact HC0_2.out); rintro e w6 ⟨rfl, hb⟩; refine ⟨_, rfl, ?_⟩; replace BK101 := Zq_.mk (qs_ (g := gb101) (o := .cells #[.int .i64 a0_0, .int .i64 a0_1, .slice A0_2 l0_2.length c0_2] 35 (0, 0)) (by exact bK_ BK101) hb); replace HB := Zq_.mk (ql_ (by exact hSet_ HB) hb); (try clear hb); refine hK.out _ _ ⟨(qd_ BK101.out 0).trans rfl, (qd_ BK101.out 1).trans rfl, (qd_ BK101.out 2).trans rfl⟩ (fun hHeld => ?_); clear hK K; refine norm_ (a' := ?_) ?_ ?_; rotate_left
 ·show Act.put _ (some 7) _ = _
  simp only [Act.put, sa_, sb_, sc_, i64_w, i32_w]; rfl
 refine pure_ (i := 5) (N := some 8) (v := ?_) (a' := ?_) (bz_ 7 63) rfl rfl (by kernel_rfl) (fun _ _ _ h => h) (Or.inl ⟨by rfl, ?_⟩) ?_ ?_; rotate_left; (focus intro w'; go_simp; (with_reducible rfl)); rotate_left; (focus simp only [Act.put, sa_, sb_, sc_, i64_w, i32_w]; rfl); refine pure_ (i := 6) (N := some 2) (v := ?_) (a' := ?_) (bz_ 7 127) rfl rfl (by kernel_rfl) (fun _ _ _ h => h) (Or.inl ⟨by rfl, ?_⟩) ?_ ?_; rotate_left; (focus intro w'; go_simp; (with_reducible rfl)); rotate_left; (focus simp only [Act.put, sa_, sb_, sc_, i64_w, i32_w]; rfl); refine done_ (by kernel_rfl) ?_; (try go_wp2)
 go_ret
 exact ⟨by first | rfl | (simp [errW_none, errW_some] <;> rfl) | (simp only [← hji3]; first | rfl | (simp [errW_none, errW_some] <;> rfl)) | (simp [*, errW_none, errW_some] <;> rfl), by exact hSet_ HB⟩
end Go.Proofs.Ytgipbmjkgciccaa.P

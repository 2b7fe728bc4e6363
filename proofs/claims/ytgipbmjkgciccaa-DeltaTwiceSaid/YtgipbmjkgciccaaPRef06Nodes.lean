/- What this function of the program comes to, and that the machine's call does it. No condition. -/
import Derived.Test.YtgipbmjkgciccaaP0
import Derived.Test.YtgipbmjkgciccaaHw
import Derived.Test.YtgipbmjkgciccaaPApiEntry61
namespace Go.Proofs.Ytgipbmjkgciccaa.P
set_option maxHeartbeats 16000000
set_option maxRecDepth 100000
open Go.RowKit Go.Proofs.YtgipbmjkgciccaaW.PrintWords Go.Proofs.YtgipbmjkgciccaaW.PrintLast Go.Proofs.YtgipbmjkgciccaaW.PrintMore
attribute [local go_sem] qz_ qx_ vf_ ve_ qr_ qq_ qy_ qw_ Go.Proofs.YtgipbmjkgciccaaW.Hw.string_gtr
set_option linter.unusedVariables false
set_option linter.unusedSimpArgs false
def ref06_Ints.l0 : Nat → List Int → List Int → Int → Option (Bool)
 | 0, _, _, _ => none
 | k + 1, x0, x1, x5 => if x5 < (x0.length : Int) then (if 0 ≤ x5 then (if x5 < (x1.length : Int) then (if (rd x0 x5) = (rd x1 x5) then (ref06_Ints.l0 k x0 x1 (wrap64 (x5 + 1))) else (some false)) else (none)) else (none)) else (some true)
def ref06_Ints.f (k : Nat) (l0 : List Int) (l1 : List Int) : Option (Bool) := if (l0.length : Int) = (l1.length : Int) then (ref06_Ints.l0 k l0 l1 0) else (some false)
theorem ref06_Ints.mono_l : ∀ k, (∀ y0 y1 y2, LeO (ref06_Ints.l0 k y0 y1 y2) (ref06_Ints.l0 (k + 1) y0 y1 y2))
 | 0 => fun _ _ _ r h => by simp [ref06_Ints.l0] at h
 | k + 1 => by
  have ih0 := ref06_Ints.mono_l k
  ·intro y0 y1 y2
   unfold ref06_Ints.l0
   repeat' first
   | (with_reducible exact ih0 _ _ _)
   | (with_reducible exact LeO.refl _)
   | (with_reducible exact LeO.none _)
   | (with_reducible refine LeO.ite ?_ ?_)
   | (with_reducible refine LeO.bind ?_ (fun _ => ?_))
   | exact ih0 _ _ _
   | exact LeO.none _
   | refine LeO.ite ?_ ?_
   | refine LeO.bind ?_ (fun _ => ?_)
theorem ref06_Ints.mono : ∀ a0 a1 k, LeO (ref06_Ints.f k a0 a1) (ref06_Ints.f (k + 1) a0 a1) := by
 intro a0 a1 k; have ih0 := ref06_Ints.mono_l k
 unfold ref06_Ints.f
 repeat' first
   | (with_reducible exact ih0 _ _ _)
   | (with_reducible exact LeO.refl _)
   | (with_reducible exact LeO.none _)
   | (with_reducible refine LeO.ite ?_ ?_)
   | (with_reducible refine LeO.bind ?_ (fun _ => ?_))
   | exact ih0 _ _ _
   | exact LeO.none _
   | refine LeO.ite ?_ ?_
   | refine LeO.bind ?_ (fun _ => ?_)
theorem ref06_Ints.calls (k : Nat) (A0 : Option Addr) (c0 : Nat) (l0 : List Int) (A1 : Option Addr) (c1 : Nat) (l1 : List Int) (r : Bool) (w : World) (hr0 : Kd.C (Kd.int .i64) w A0 l0.length l0) (hc0 : l0.length ≤ c0) (hr1 : Kd.C (Kd.int .i64) w A1 l1.length l1) (hc1 : l1.length ≤ c1) (h : ref06_Ints.f k l0 l1 = some r) :
  Calls Try.prog 31 #[.slice A0 l0.length c0, .slice A1 l1.length c1] w fun e w' => e = .returned (.bool r) ∧ Drawn0 w w' := by
 have HR0 := Zq_.mk hr0; have HC0 := Zq_.mk hc0; clear hr0 hc0; have HR1 := Zq_.mk hr1; have HC1 := Zq_.mk hc1; clear hr1 hc1; have H : (if (l0.length : Int) = (l1.length : Int) then (ref06_Ints.l0 k l0 l1 0) else (some false)) = some r := h; clear h
 by_cases c3 : (l0.length : Int) = (l1.length : Int)
 ·rw [if_pos c3] at H; have aL : ((l0.length : Int) == (l1.length : Int)) = true := beq_iff_eq.mpr c3; have aK : ((l0.length : Int) != (l1.length : Int)) = false := bne_eq_false_iff_eq.mpr c3
  have aJ : (l0.length == l1.length) = true := by first | simpa using c3 | (simp at c3 ⊢; omega)
  clear c3; have H' := Zq_.mk H; clear H
  go_enter Try.func31, Try.ntmps31
  go_wp2
  repeat (go_quiet (fail); try go_wp2)
  go_loopg [5] k (fun kq v5 w' => ∃ (aA : Int), v5 = .int .i64 aA ∧ Zq_ (ref06_Ints.l0 kq l0 l1 aA = some r) ∧ Zq_ (kq ≤ k) ∧ Drawn0 w w')
  case atStart => exact ⟨(0), eS_, H', ⟨Nat.le_refl _⟩, by repeat (first | exact Drawn0.refl _ | apply Drawn0.step)⟩
  case round =>
   clear H'
   try clear c1
   try clear p2
   try clear c3
   try clear aL
   try clear aK
   try clear aJ
   obtain ⟨aA, rfl, HA, HK1, ⟨m1, rfl⟩⟩ := hrel
   cases gk with
   | zero => exact absurd HA.out (by simp [ref06_Ints.l0])
   | succ k1 =>
    have H := HA.out; clear HA; simp only [ref06_Ints.l0] at H
    by_cases c4 : aA < (l0.length : Int)
    ·rw [if_pos c4] at H; have c4b0 : decide (aA < (l0.length : Int)) = true := decide_eq_true c4; clear c4
     by_cases c5 : 0 ≤ aA
     ·rw [if_pos c5] at H; have c5b0 : decide (0 ≤ aA) = true := decide_eq_true c5; clear c5
      by_cases c6 : aA < (l1.length : Int)
      ·rw [if_pos c6] at H; have c6b0 : decide (aA < (l1.length : Int)) = true := decide_eq_true c6; clear c6
       by_cases c7 : (rd l0 aA) = (rd l1 aA)
       ·rw [if_pos c7] at H; have c7b0 : ((rd l0 aA) == (rd l1 aA)) = true := beq_iff_eq.mpr c7; have c7b1 : ((rd l0 aA) != (rd l1 aA)) = false := bne_eq_false_iff_eq.mpr c7; clear c7; have H' := Zq_.mk H; clear H; have aE : 0 ≤ (aA : Int) := dA_; have aC : aA < (l0.length : Int) := dA_; obtain ⟨aN, aI, aG⟩ := Kd.at_int HR0.out aA aE aC; cases aI; replace aE := eq_true aE; replace aC := eq_true aC; have aD : 0 ≤ (aA : Int) := dA_; have aB : aA < (l1.length : Int) := dA_; obtain ⟨aM, aH, aF⟩ := Kd.at_int HR1.out aA aD aB; cases aH; replace aD := eq_true aD; replace aB := eq_true aB
        go_wp2
        repeat (go_quiet (fail); try go_wp2)
        go_roundg k1
        case measure => have := HK1.out; omega
        case rel => exact ⟨(wrap64 (aA + 1)), eS_, H', ⟨by have := HK1.out; omega⟩, by repeat (first | exact Drawn0.refl _ | apply Drawn0.step)⟩
       ·rw [if_neg c7] at H; have c7b0 : ((rd l0 aA) == (rd l1 aA)) = false := beq_eq_false_iff_ne.mpr c7; have c7b1 : ((rd l0 aA) != (rd l1 aA)) = true := bne_iff_ne.mpr c7; obtain rfl := Option.some.inj H; have aE : 0 ≤ (aA : Int) := dA_; have aC : aA < (l0.length : Int) := dA_; obtain ⟨aN, aI, aG⟩ := Kd.at_int HR0.out aA aE aC; cases aI; replace aE := eq_true aE; replace aC := eq_true aC; have aD : 0 ≤ (aA : Int) := dA_; have aB : aA < (l1.length : Int) := dA_; obtain ⟨aM, aH, aF⟩ := Kd.at_int HR1.out aA aD aB; cases aH; replace aD := eq_true aD; replace aB := eq_true aB
        go_wp2
        repeat (go_quiet (fail); try go_wp2)
        go_ret
        exact ⟨by first | rfl | (simp; done) | (simp [*]; done), by repeat (first | exact Drawn0.refl _ | apply Drawn0.step)⟩
      ·rw [if_neg c6] at H; exact absurd H (by simp)
     ·rw [if_neg c5] at H; exact absurd H (by simp)
    ·rw [if_neg c4] at H; have c4b0 : decide (aA < (l0.length : Int)) = false := decide_eq_false c4; clear c4; obtain rfl := Option.some.inj H
     go_wp2
     repeat (go_quiet (fail); try go_wp2)
     go_ret
     exact ⟨by first | rfl | (simp; done) | (simp [*]; done), by repeat (first | exact Drawn0.refl _ | apply Drawn0.step)⟩
 ·rw [if_neg c3] at H; have aL : ((l0.length : Int) == (l1.length : Int)) = false := beq_eq_false_iff_ne.mpr c3; have aK : ((l0.length : Int) != (l1.length : Int)) = true := bne_iff_ne.mpr c3
  have aJ : (l0.length == l1.length) = false := by first | simpa using c3 | (simp at c3 ⊢; omega)
  obtain rfl := Option.some.inj H
  go_enter Try.func31, Try.ntmps31
  go_wp2
  repeat (go_quiet (fail); try go_wp2)
  go_ret
  exact ⟨by first | rfl | (simp; done) | (simp [*]; done), by repeat (first | exact Drawn0.refl _ | apply Drawn0.step)⟩
def entry_Top.l0 : Nat → Int → List (S58) → Int → Int → Option (Int)
 | 0, _, _, _, _ => none
 | k + 1, x3, x6, x7, x8 => if x8 < x7 then (if 0 ≤ x8 then (if x8 < (x6.length : Int) then (entry_Top.l0 k (mx x3 ((rd_T58 x6 x8).f1)) x6 x7 (wrap64 (x8 + 1))) else (none)) else (none)) else (some x3)
def entry_Top.f (k : Nat) (l0 : List (S58)) : Option (Int) := entry_Top.l0 k 0 l0 (l0.length : Int) 0
theorem entry_Top.mono_l : ∀ k, (∀ y0 y1 y2 y3, LeO (entry_Top.l0 k y0 y1 y2 y3) (entry_Top.l0 (k + 1) y0 y1 y2 y3))
 | 0 => fun _ _ _ _ r h => by simp [entry_Top.l0] at h
 | k + 1 => by
  have ih0 := entry_Top.mono_l k
  ·intro y0 y1 y2 y3
   unfold entry_Top.l0
   repeat' first
   | (with_reducible exact ih0 _ _ _ _)
   | (with_reducible exact LeO.refl _)
   | (with_reducible exact LeO.none _)
   | (with_reducible refine LeO.ite ?_ ?_)
   | (with_reducible refine LeO.bind ?_ (fun _ => ?_))
   | exact ih0 _ _ _ _
   | exact LeO.none _
   | refine LeO.ite ?_ ?_
   | refine LeO.bind ?_ (fun _ => ?_)
theorem entry_Top.mono : ∀ a0 k, LeO (entry_Top.f k a0) (entry_Top.f (k + 1) a0) := by
 intro a0 k; have ih0 := entry_Top.mono_l k
 unfold entry_Top.f
 repeat' first
   | (with_reducible exact ih0 _ _ _ _)
   | (with_reducible exact LeO.refl _)
   | (with_reducible exact LeO.none _)
   | (with_reducible refine LeO.ite ?_ ?_)
   | (with_reducible refine LeO.bind ?_ (fun _ => ?_))
   | exact ih0 _ _ _ _
   | exact LeO.none _
   | refine LeO.ite ?_ ?_
   | refine LeO.bind ?_ (fun _ => ?_)
theorem entry_Top.calls (k : Nat) (A0 : Option Addr) (c0 : Nat) (l0 : List (S58)) (r : Int) (w : World) (hr0 : Kd.C k58 w A0 l0.length l0) (hc0 : l0.length ≤ c0) (h : entry_Top.f k l0 = some r) :
  Calls Try.prog 70 #[.slice A0 l0.length c0] w fun e w' => e = .returned (.int .i64 r) ∧ Below w.heap.size w w' := by
 have hu58 := Try.underlying58; have HR0 := Zq_.mk hr0; have HC0 := Zq_.mk hc0; clear hr0 hc0; have HB := Zq_.mk (Below.refl w.heap.size w); have H : (entry_Top.l0 k 0 l0 (l0.length : Int) 0) = some r := h; clear h; have H' := Zq_.mk H; clear H
 go_enter Try.func70, Try.ntmps70
 go_wp2
 go_loopg [3, 8] k (fun kq v3 v8 w' => ∃ (aI : Int) (aA : Int), v3 = .int .i64 aI ∧ v8 = .int .i64 aA ∧ Zq_ (entry_Top.l0 kq aI l0 (l0.length : Int) aA = some r) ∧ Zq_ (kq ≤ k) ∧ Zq_ (Below w.heap.size w w'))
 case atStart => exact ⟨(0), (0), eS_, eS_, H', ⟨Nat.le_refl _⟩, ⟨hB_ HB⟩⟩
 case round =>
  clear H'; obtain ⟨aI, aA, rfl, rfl, HA, HK1, HB⟩ := hrel
  cases gk with
  | zero => exact absurd HA.out (by simp [entry_Top.l0])
  | succ k1 =>
   have H := HA.out; clear HA; simp only [entry_Top.l0] at H
   by_cases c2 : aA < (l0.length : Int)
   ·rw [if_pos c2] at H; have c2b0 : decide (aA < (l0.length : Int)) = true := decide_eq_true c2; clear c2
    by_cases c3 : 0 ≤ aA
    ·rw [if_pos c3] at H; have c3b0 : decide (0 ≤ aA) = true := decide_eq_true c3; clear c3
     by_cases c4 : aA < (l0.length : Int)
     ·rw [if_pos c4] at H; have c4b0 : decide (aA < (l0.length : Int)) = true := decide_eq_true c4; clear c4; obtain ⟨ji5, aN⟩ : ∃ j_ : Int, (mx aI ((rd_T58 l0 aA).f1)) = j_ := ⟨_, rfl⟩
      replace H : (entry_Top.l0 k1 ji5 l0 (l0.length : Int) (wrap64 (aA + 1))) = some r := by first | (rw [aN] at H; exact H) | (simp only [aN] at H ⊢; exact H)
      have hji5_ : (if aI < ((rd_T58 l0 aA).f1) then ((rd_T58 l0 aA).f1) else aI) = ji5 := aN; have H' := Zq_.mk H; clear H; have aS : 0 ≤ (aA : Int) := dA_; have aR : aA < (l0.length : Int) := dA_; obtain ⟨ad101, e101, aH, aG, aF⟩ := at_T58 HR0.out aA aS aR; cases e101; replace aH := hC_ HB aH; replace aG := hC_ HB aG; replace aF := hC_ HB aF; replace aS := eq_true aS; replace aR := eq_true aR
      go_wp2_with (first | ((with_reducible refine qe_ (N := 5) rfl ?_); refine bE_ 5 #[.int .i64 0, .int .i64 0, .string (⟨#[]⟩ : ByteArray)] 58 ?_; intro gb102 hg w6 hbox hb; have aQ := Zq_.mk (hbox); have GW102 := gW_ (w := w) hg (hB_ HB); have GE102 := gW_ (w := w) hg (hB_ HB); replace HB := Zq_.mk (qa_ (hB_ HB) hb); clear hb hbox hg; obtain ⟨hcz7_0, hcz7_1, hcz7_2⟩ := c3_ aQ; obtain ⟨hfz7_0, hfz7_1, hfz7_2⟩ := f3_ aQ))
      go_roundg k1
      case measure => have := HK1.out; omega
      case rel => exact ⟨(ji5), (wrap64 (aA + 1)), (by first | rfl | (simp; done) | (simp only [← aN] <;> (first | rfl | simp)) | (simp [*]; done)), eS_, H', ⟨by have := HK1.out; omega⟩, ⟨by exact hSet_ HB⟩⟩
     ·rw [if_neg c4] at H; exact absurd H (by simp)
    ·rw [if_neg c3] at H; exact absurd H (by simp)
   ·rw [if_neg c2] at H; have c2b0 : decide (aA < (l0.length : Int)) = false := decide_eq_false c2; clear c2; obtain rfl := Option.some.inj H
    go_wp2
    go_ret
    exact ⟨by exact eW_, hB_ HB⟩
def state_Top.f (k : Nat) (aL : Int) (aD : Int) (aC : List (S58)) : Option (Int) := (entry_Top.f k aC).bind fun aE => (some (mx aD aE))
theorem state_Top.mono : ∀ a0 a1 a2 k, LeO (state_Top.f k a0 a1 a2) (state_Top.f (k + 1) a0 a1 a2) := by
 intro a0 a1 a2 k
 unfold state_Top.f
 repeat' first
   | (with_reducible exact entry_Top.mono _ _)
   | (with_reducible exact LeO.refl _)
   | (with_reducible exact LeO.none _)
   | (with_reducible refine LeO.ite ?_ ?_)
   | (with_reducible refine LeO.bind ?_ (fun _ => ?_))
   | exact entry_Top.mono _ _
   | exact LeO.none _
   | refine LeO.ite ?_ ?_
   | refine LeO.bind ?_ (fun _ => ?_)
theorem state_Top.calls (k : Nat) (aL : Int) (aD : Int) (aM : Option Addr) (aK : Nat) (aC : List (S58)) (r : Int) (w : World) (aO : Kd.C k58 w aM aC.length aC) (aP : aC.length ≤ aK) (h : state_Top.f k aL aD aC = some r) :
  Calls Try.prog 53 #[.agg #[.int .i64 aL, .int .i64 aD, .slice aM aC.length aK]] w fun e w' => e = .returned (.int .i64 r) ∧ Below w.heap.size w w' := by
 have hu35 := Try.underlying35; have aU := Zq_.mk aO; have aV := Zq_.mk aP; clear aO aP; have HB := Zq_.mk (Below.refl w.heap.size w); have H : ((entry_Top.f k aC).bind fun aE => (some (mx aD aE))) = some r := h; clear h; replace H := ob_ H; obtain ⟨aE, A20, H⟩ := H; replace H : (some (mx aD aE)) = some r := H; have A2 := Zq_.mk A20; clear A20; obtain ⟨ji3, aJ⟩ : ∃ j_ : Int, (mx aD aE) = j_ := ⟨_, rfl⟩
 replace H : (some ji3) = some r := by first | (rw [aJ] at H; exact H) | (simp only [aJ] at H ⊢; exact H)
 (try rw [aJ] at A2); have hji3_ : (if aD < aE then aE else aD) = ji3 := aJ; obtain rfl := Option.some.inj H
 go_enter Try.func53, Try.ntmps53
 try go_wp2_with (first | ((with_reducible refine qe_ (N := 1) rfl ?_); refine bE_ 1 #[.int .i64 aL, .int .i64 aD, .slice aM aC.length aK] 35 ?_; intro aT hg w4 hbox hb; have aB := Zq_.mk (hbox); have GW101 := gW_ (w := w) hg (hB_ HB); have GE101 := gW_ (w := w) hg (hB_ HB); replace HB := Zq_.mk (qa_ (hB_ HB) hb); clear hb hbox hg))
 replace aB := Zq_.mk (qf_ aB.out); replace HB := Zq_.mk (qj_ HB.out); refine gS_ 7 (hA_ (b0_ aB) (hA_ (b1_ aB) (hZ_ (b2_ aB)))) (fun hHeld => ?_); generalize w4.drew = w5 at aB HB hHeld ⊢; refine pure_ (i := 0) (N := some 3) (v := ?_) (a' := ?_) (bz_ 7 1) rfl rfl (by kernel_rfl) (fun _ _ _ h => h) (Or.inl ⟨by rfl, ?_⟩) ?_ ?_; rotate_left; (focus intro w'; go_simp; (with_reducible rfl)); rotate_left; (focus simp only [Act.put, sa_, sb_, sc_, i64_w, i32_w]; rfl); refine pure_ (i := 2) (N := some 5) (v := ?_) (a' := ?_) (bz_ 7 5) rfl rfl (by kernel_rfl) (fun _ _ _ h => h) (Or.inl ⟨by rfl, ?_⟩) ?_ ?_; rotate_left; (focus intro w'; go_simp; (with_reducible rfl)); rotate_left; (focus simp only [Act.put, sa_, sb_, sc_, i64_w, i32_w]; rfl); refine take_ (i := 1) (N := some 4) (v := ?_) (a' := ?_) (bz_ 7 7) rfl rfl (by kernel_rfl) (fun _ _ _ h => h) (Or.inl ⟨by rfl, ?_⟩) hHeld ?_ ?_; rotate_left; (focus rintro w' ⟨s0, s1, s2⟩; go_simp; (with_reducible rfl)); rotate_left; (focus simp only [Act.put, sa_, sb_, sc_, i64_w, i32_w]; rfl); refine take_ (i := 3) (N := some 6) (v := ?_) (a' := ?_) (bz_ 7 15) rfl rfl (by kernel_rfl) (fun _ _ _ h => h) (Or.inl ⟨by rfl, ?_⟩) hHeld ?_ ?_; rotate_left; (focus rintro w' ⟨s0, s1, s2⟩; go_simp; (with_reducible rfl)); rotate_left; (focus simp only [Act.put, sa_, sb_, sc_, i64_w, i32_w]; rfl); refine one_ (i := 4) (N := some 7) (bz_ 7 31) rfl rfl (by kernel_rfl) (by decide) (fun K hK => ?_); refine goes_ Try.func70 (by kernel_rfl) rfl #[.slice aM aC.length aK] (by rfl) rfl rfl (by (try simp only [List.map_toArray, List.map_cons, List.map_nil]); first | done | rfl | (simp only [List.length_drop, List.length_take]; rfl)) ?_
 with_reducible refine (entry_Top.calls k _ _ aC aE _ ?side1 ?side2 A2.out).mono ?_
 (case side1 => exact cX_ (Kd.qk_ aU.out HB.out)); (case side2 => exact aV.out); rintro e w6 ⟨rfl, hb⟩; refine ⟨_, rfl, ?_⟩; replace aB := Zq_.mk (qd_ (g := aT) (o := .cells #[.int .i64 aL, .int .i64 aD, .slice aM aC.length aK] 35 (0, 0)) (by exact bK_ aB) hb); replace HB := Zq_.mk (qa_ (by exact hSet_ HB) hb); (try clear hb); refine hK.out _ _ (c3_ aB) (fun hHeld => ?_); clear hK K; refine norm_ (a' := ?_) ?_ ?_; rotate_left
 ·show Act.put _ (some 7) _ = _
  simp only [Act.put, sa_, sb_, sc_, i64_w, i32_w]; rfl
 refine pure_ (i := 5) (N := some 8) (v := ?_) (a' := ?_) (bz_ 7 63) rfl rfl (by kernel_rfl) (fun _ _ _ h => h) (Or.inl ⟨by rfl, ?_⟩) ?_ ?_; rotate_left; (focus intro w'; go_simp; (with_reducible rfl)); rotate_left; (focus simp only [Act.put, sa_, sb_, sc_, i64_w, i32_w]; rfl); refine pure_ (i := 6) (N := some 2) (v := ?_) (a' := ?_) (bz_ 7 127) rfl rfl (by kernel_rfl) (fun _ _ _ h => h) (Or.inl ⟨by rfl, ?_⟩) ?_ ?_; rotate_left; (focus intro w'; go_simp; (with_reducible rfl)); rotate_left; (focus simp only [Act.put, sa_, sb_, sc_, i64_w, i32_w]; rfl); refine done_ (by kernel_rfl) ?_; (try go_wp2)
 go_ret
 exact ⟨by first | rfl | (simp [errW_none, errW_some] <;> rfl) | (simp only [← aJ]; first | rfl | (simp [errW_none, errW_some] <;> rfl)) | (simp [*, errW_none, errW_some] <;> rfl), by exact hSet_ HB⟩
open Go.Proofs.YtgipbmjkgciccaaW.Hw in
theorem DeleteFuncE.calls (p : S58 → Bool) (g : Nat) (lb : Array Value) (eg : ∀ args w, (callFunc g args).run Try.prog w = .ok (.enter g args) w) (v : Value) (l0 : List S58) (base : Nat) (ok : Nat → Prop) (w : World)
  (hp : PredR Try.prog k58 g lb aggOf p w v.ownBlock) (hR : Kd.R k58 58 w base ok v l0) (hbase : base ≤ w.heap.size) :
  Calls Try.prog 74 #[v, .func (.func g) #[] lb] w fun e w' => ∃ v', e = .returned v' ∧ Kd.R k58 58 w' base ok v' (l0.filter (fun x => !p x)) ∧ w.grownBy w' v.ownBlock ∧ v'.ownBlock = v.ownBlock := by
 obtain ⟨A0, c0, rfl, hlc, hC⟩ := Kd.R_reads hR; have hcall := IndexFuncE.calls p g lb eg A0 c0 l0 w hp.k hC; have hrange := idxI_range p l0; generalize hix : idxI p l0 = ix at hcall hrange
 by_cases hm : ix = -1
 ·subst hm; have hfin := filter_miss hix; have HR := Zq_.mk hR; have HF := Zq_.mk hfin; clear hR hp hC hix hfin hlc hrange hbase
  go_enter Try.func74, Try.ntmps74
  go_wp2_with fail
  refine hcall.mono ?_; rintro e w1 ⟨rfl, hb1⟩
  go_wp2_with fail
  go_ret
  refine ⟨_, rfl, ?_, grown_of_below hb1 _, rfl⟩; rw [HF.out]; exact Kd.qm_ HR.out hb1
 ·obtain ⟨i0, rfl⟩ := Int.eq_ofNat_of_zero_le (show 0 ≤ ix by omega); have hmb : decide ((i0 : Int) = -1) = false := decide_eq_false hm; have hme : ((i0 : Int) == -1) = false := beq_false_of_ne hm
  have hlen : 0 < l0.length := by omega
  obtain ⟨gr, cap, hv, hgb, hglt, _, _⟩ := Kd.R_form hR hlen
  injection hv with hA _ hc
  subst hA; subst hc; have HR0 := Zq_.mk hR; have HP := Zq_.mk hp; have HS := Zq_.mk (Filt.start hix); have HM := Zq_.mk (Kd.C_max hC); have HLC := Zq_.mk hlc; have HG := Zq_.mk hglt; have HGB := Zq_.mk hgb; have HBS := Zq_.mk hbase; have HI0 := Zq_.mk hrange; have hw0 := Zq_.mk (show wrap64 ((i0 : Int) + 1) = ((i0 + 1 : Nat) : Int) by have := HM.out; have := HI0.out; unfold wrap64; omega); clear hR hp hC hix hlc hrange hbase hglt hgb hlen hm
  go_enter Try.func74, Try.ntmps74
  go_wp2_with fail
  refine hcall.mono ?_; rintro e w1 ⟨rfl, hb1⟩; have HB1 := Zq_.mk hb1; clear hb1 hcall
  go_wp2_with fail
  go_loopg [5, 6, 7] l0.length (fun gg s5 s6 _ wr => ∃ (i j : Int) (cur : List S58), s5 = .int .i64 i ∧ s6 = .int .i64 j ∧ Zq_ (0 ≤ i ∧ 0 ≤ j ∧ l0.length - j.toNat ≤ gg) ∧ Zq_ (Filt (fun x => !p x) l0 cur i.toNat j.toNat) ∧ Zq_ (w.grownBy wr (some gr)) ∧ Zq_ (Kd.R k58 58 wr base ok (.slice (some ⟨gr, 0, none⟩) l0.length c0) cur))
  case atStart => exact ⟨(i0 : Int), wrap64 ((i0 : Int) + 1), l0, rfl, rfl, ⟨by rw [hw0.out]; omega⟩, ⟨by rw [hw0.out]; simpa using HS.out⟩, ⟨grown_of_below HB1.out _⟩, ⟨Kd.qm_ HR0.out HB1.out⟩⟩
  case round =>
   obtain ⟨i, j, cur, rfl, rfl, HI, HF, HW, HR⟩ := hrel; have hlen := HF.out.len
   by_cases hlt : j < (l0.length : Int)
   ·have hltb : decide (j < (l0.length : Int)) = true := decide_eq_true hlt; have p1 := HI.out.2.1; have q1 := HI.out.1
    have hil : i < (l0.length : Int) := by have := HF.out.ij; have := HF.out.jn; omega
    obtain ⟨c, hcl, hM, hcc, hfr⟩ := Kd.R_elem HR.out z58 j p1 hlt; obtain ⟨x, hx⟩ : ∃ x, x = cur.getD j.toNat z58 := ⟨_, rfl⟩; rw [← hx] at hM; obtain rfl := k58_openM hM; obtain ⟨co, hclo, hMo, hcco, hfro⟩ := Kd.R_elem HR.out z58 i q1 hil; obtain rfl := k58_openM hMo; have hx_0 := hcc 0 _ rfl; have hx_1 := hcc 1 _ rfl; have hx_2 := hcc 2 _ rfl; simp only [show (k58).sz = 3 from rfl, Nat.add_zero] at hx_0 hx_1 hx_2
    have hcl2 : ∀ W, w.grownBy W (some gr) → Calls Try.prog g (#[.agg #[.int .i64 x.f0, .int .i64 x.f1, .string x.f2]] ++ lb) W (fun e w1 => e = .returned (.bool (p x)) ∧ Below W.heap.size W w1) := fun W hW => HP.out W x [.int .i64 x.f0, .int .i64 x.f1, .string x.f2] hW (k58_mk W x)
    have HL := Zq_.mk hlt; have HIL := Zq_.mk hil; have HX := Zq_.mk hx; have HN := Zq_.mk hlen; have HCC := Zq_.mk hcco; replace p1 := eq_true p1; replace q1 := eq_true q1; replace hlt := eq_true hlt; replace hil := eq_true hil; have hwj := Zq_.mk (show wrap64 (j + 1) = j + 1 by have := HI.out; have := HM.out; have := HL.out; unfold wrap64; omega); have hwi := Zq_.mk (show wrap64 (i + 1) = i + 1 by have := HI.out; have := HM.out; have := HIL.out; unfold wrap64; omega); clear hcl hM hcc hfr hclo hMo hcco hfro hx hlen
    go_wp2_with (first | ((with_reducible refine qe_ (N := 7) rfl ?_); refine bE_ 7 #[.int .i64 0, .int .i64 0, .string (⟨#[]⟩ : ByteArray)] 58 ?_; intro gb hgb w2 hbox hb2; have HBX := Zq_.mk hbox; have HB2 := Zq_.mk hb2; have HGE := Zq_.mk hgb; have hcz_0 : w2.cell? ⟨gb, 0, none⟩ = some (.int .i64 0) := (qc_ hbox 0).trans rfl; have hcz_1 : w2.cell? ⟨gb, 1, none⟩ = some (.int .i64 0) := (qc_ hbox 1).trans rfl; have hcz_2 : w2.cell? ⟨gb, 2, none⟩ = some (.string (⟨#[]⟩ : ByteArray)) := (qc_ hbox 2).trans rfl; have hfz_0 := qo_ hbox 0; have hfz_1 := qo_ hbox 1; have hfz_2 := qo_ hbox 2; clear hgb hbox hb2))
    have hge : wr.heap.size ≤ gb := by rw [HGE.out]; exact Nat.le_refl _
    have HBT := below_set (below_set (below_set HB2.out hge (j := 0) (v := .int .i64 x.f0)) hge (j := 1) (v := .int .i64 x.f1)) hge (j := 2) (v := .string x.f2); have hcl3 := hcl2 _ (grown_bel HW.out HBT); have HB0 := Zq_.mk HBT; have BK0 := Zq_.mk (blk_set (blk_set (blk_set HBX.out 0 (.int .i64 x.f0)) 1 (.int .i64 x.f1)) 2 (.string x.f2)); clear hcl2 HBT
    cases hq : p x with
    | true =>
     rw [hq] at hcl3; have HQ := Zq_.mk hq; clear hq; refine hcl3.mono ?_; rintro e w3 ⟨rfl, hb3⟩; have HB3 := Zq_.mk (qa_ HB0.out hb3); clear hb3 hcl3
     go_wp2_with fail
     go_roundg (l0.length - (j.toNat + 1))
     case measure => have h1 := HI.out; have h2 := HL.out; omega
     case rel => exact ⟨i, wrap64 (j + 1), cur, eS_, eS_, ⟨by rw [hwj.out]; have h1 := HI.out; have h2 := HL.out; omega⟩, ⟨by rw [hwj.out, show (j + 1).toNat = j.toNat + 1 by have h1 := HI.out; omega]; exact HF.out.skip z58 (by have h1 := HI.out; have h2 := HL.out; omega) (by simp only [← HX.out, HQ.out, Bool.not_true])⟩, ⟨grown_bel HW.out HB3.out⟩, ⟨Kd.qm_ HR.out HB3.out⟩⟩
    | false =>
     rw [hq] at hcl3; have HQ := Zq_.mk hq; clear hq; refine hcl3.mono ?_; rintro e w3 ⟨rfl, hb3⟩; have HB3 := Zq_.mk (qa_ HB0.out hb3); have BK3 := Zq_.mk (blk_bel BK0.out hb3); have hy_0 : w3.cell? ⟨gb, 0, none⟩ = some (.int .i64 x.f0) := (qc_ BK3.out 0).trans rfl; have hy_1 : w3.cell? ⟨gb, 1, none⟩ = some (.int .i64 x.f1) := (qc_ BK3.out 1).trans rfl; have hy_2 : w3.cell? ⟨gb, 2, none⟩ = some (.string x.f2) := (qc_ BK3.out 2).trans rfl; have HR3 := Zq_.mk (Kd.qm_ HR.out HB3.out); have HW3 := Zq_.mk (grown_bel HW.out HB3.out); have HBb := Zq_.mk (show Below base w w3 from (Below.refl base w).grown HW3.out HBS.out (fun k hk => by cases hk; exact HGB.out)); clear hb3 hcl3
     go_wp2_with (first | ((with_reducible refine gate_store (t := 58) (p := 33) rfl ?_); refine Kd.R_store k58 (w0 := w) (W := w3) base rfl rfl 58 (.tmp 33) (.tmp 32) rfl 58 (g := gr) (n := l0.length) (cap := c0) (o' := i.toNat * 3) i 0 cur x (.agg #[.int .i64 x.f0, .int .i64 x.f1, .string x.f2]) [.int .i64 x.f0, .int .i64 x.f1, .string x.f2] [.int .i64 (cur.getD i.toNat z58).f0, .int .i64 (cur.getD i.toNat z58).f1, .string (cur.getD i.toNat z58).f2] ok (fun k => ok k ∧ k ≠ gr) ?ha ?ho ?hx rfl (by kernel_rfl) ?h1 HR3.out (of_eq_true q1) (of_eq_true hil) rfl ?hcc (show (3 : Nat) ≤ 3 from Nat.le_refl 3) (k58_mkM w3 base _ x) (fun _ hk => hk) HBb.out ?_; (case ha => first | rfl | (go_simp; done) | (go_simp; rfl)); (case ho => first | rfl | (simp; done)); (case hx => first | rfl | (go_simp; done) | (go_simp; rfl)); (case h1 => intro q hq_; simp only [List.mem_cons, List.not_mem_nil, or_false] at hq_; rcases hq_ with rfl | rfl | rfl <;> rfl); (case hcc => intro jj u hu; rw [show w3.cell? ⟨gr, i.toNat * (k58).sz + jj, none⟩ = wr.cell? ⟨gr, i.toNat * (k58).sz + jj, none⟩ from HB3.out.cell (p := ⟨gr, i.toNat * (k58).sz + jj, none⟩) (wb_ wr _ (HCC.out jj u hu))]; exact HCC.out jj u hu); intro w4 hR4 hB4 hg4; have HR4 := Zq_.mk hR4; have HW4 := Zq_.mk (World.grownBy.trans HW3.out hg4); clear hR4 hB4 hg4))
     go_roundg (l0.length - (j.toNat + 1))
     case measure => have h1 := HI.out; have h2 := HL.out; omega
     case rel => exact ⟨wrap64 (i + 1), wrap64 (j + 1), cur.set i.toNat x, eS_, eS_, ⟨by rw [hwj.out, hwi.out]; have h1 := HI.out; have h2 := HL.out; omega⟩, ⟨by rw [hwj.out, hwi.out, show (j + 1).toNat = j.toNat + 1 by have h1 := HI.out; omega, show (i + 1).toNat = i.toNat + 1 by have h1 := HI.out; omega, HX.out]; exact HF.out.keep z58 (by have h1 := HI.out; have h2 := HL.out; omega) (by simp only [← HX.out, HQ.out, Bool.not_false])⟩, HW4, HR4⟩
   ·have hltb : decide (j < (l0.length : Int)) = false := decide_eq_false hlt; have HL := Zq_.mk hlt; have q1 := HI.out.1
    have hil : i < (l0.length : Int) := by have := HF.out.ij; have := HF.out.jn; have := HI.out; omega
    have hcap : (l0.length : Int) ≤ (c0 : Int) := by have := HLC.out; omega
    have HIL := Zq_.mk hil; have hlen := HF.out.len
    have hcells : ∀ q, q < (l0.length - i.toNat) * 3 → (wr.cell? ⟨gr, i.toNat * 3 + q, none⟩).isSome = true ∧ wr.frozen? ⟨gr, i.toNat * 3 + q, none⟩ = false := by
     intro q hq; obtain ⟨c, hcl, hM, hcc, hfr⟩ := Kd.R_elem HR.out z58 ((i.toNat + q / 3 : Nat) : Int) (by omega) (by omega); obtain rfl := k58_openM hM
     have e : i.toNat * 3 + q = ((i.toNat + q / 3 : Nat) : Int).toNat * (k58).sz + q % 3 := by rw [Int.toNat_natCast, show (k58).sz = 3 from rfl]; omega
     rw [e]; refine ⟨?_, hfr _⟩
     have h3 : q % 3 = 0 ∨ q % 3 = 1 ∨ q % 3 = 2 := by omega
     rcases h3 with h3 | h3 | h3 <;> rw [h3, hcc _ _ rfl] <;> rfl
    have hcl : ∀ ty, (Builtin.clear_ #[33] ty #[.slice (some ⟨gr, i.toNat * 3, none⟩) (l0.length - i.toNat) (c0 - i.toNat)]).run Try.prog wr = .ok (.tuple #[]) (wr.setCells gr (i.toNat * 3) (Builtin.zeroCells #[.int .i64 0, .int .i64 0, .string ⟨#[]⟩] (l0.length - i.toNat)).toList) := fun ty =>
     run_clear_rows wr 33 58 ty (.agg #[.int .i64 0, .int .i64 0, .string ⟨#[]⟩]) Try.underlying33 (fun _ => by kernel_rfl) (by intro u hu; simp only [Value.cells, List.mem_cons, List.not_mem_nil, or_false] at hu; rcases hu with rfl | rfl | rfl <;> rfl) gr (i.toNat * 3) _ _ (by omega) (fun q hq => (hcells q hq).1) (fun q hq => (hcells q hq).2)
    have HFIN := Zq_.mk (Kd.R_rest HR.out i.toNat (by omega) (Builtin.zeroCells #[.int .i64 0, .int .i64 0, .string ⟨#[]⟩] (l0.length - i.toNat)).toList (by rw [zero_len]; show _ * 3 = _ * 3; rw [hlen])); have HN := Zq_.mk hlen
    have hi2 : i ≤ (l0.length : Int) := by omega
    have hi3 : i ≤ (c0 : Int) := by omega
    have hne : (c0 = i.toNat) = False := eq_false (by omega); clear hcells hlt hlen; replace q1 := eq_true q1; replace hil := eq_true hil; replace hi2 := eq_true hi2; replace hi3 := eq_true hi3; replace hcap := eq_true hcap
    go_wp2_with fail
    go_ret
    refine ⟨_, rfl, ?_, World.grownBy.trans HW.out HFIN.out.2, rfl⟩; have h1 := HFIN.out.1; rw [HF.out.done (by have := HL.out; have := HI.out; omega)] at h1; exact h1
/-- How long rows are, all together. -/
def api_Named_79.tot (l0 : List (List S39)) : Nat := (l0.map List.length).sum
def api_Named_79.f (l0 : List (List S39)) : Option (List S39) := if api_Named_79.tot l0 < 1099511627776 then some l0.flatten else none
theorem api_Named_79.tot_take (l0 : List (List S39)) (i : Nat) (h : i < l0.length) : api_Named_79.tot (l0.take (i + 1)) = api_Named_79.tot (l0.take i) + (l0.getD i []).length := by
 unfold api_Named_79.tot
 rw [List.take_succ_eq_append_getElem h, List.map_append, List.sum_append, List.getD_eq_getElem?_getD, List.getElem?_eq_getElem h]
 simp
theorem api_Named_79.tot_le (l0 : List (List S39)) (i : Nat) : api_Named_79.tot (l0.take i) ≤ api_Named_79.tot l0 := by
 have h : api_Named_79.tot l0 = api_Named_79.tot (l0.take i) + api_Named_79.tot (l0.drop i) := by
  unfold api_Named_79.tot
  rw [← List.sum_append, ← List.map_append, List.take_append_drop]
 omega
theorem api_Named_79.flat_take (l0 : List (List S39)) (i : Nat) (h : i < l0.length) : (l0.take (i + 1)).flatten = (l0.take i).flatten ++ l0.getD i [] := by
 rw [List.take_succ_eq_append_getElem h, List.flatten_append, List.getD_eq_getElem?_getD, List.getElem?_eq_getElem h]
 simp
theorem api_Named_79.flat_len (l0 : List (List S39)) : l0.flatten.length = api_Named_79.tot l0 := by
 unfold api_Named_79.tot
 rw [List.length_flatten]
open Go.Proofs.YtgipbmjkgciccaaW.Hw in
theorem api_Named_79.calls (P0_ : Nat → Prop) (A0 : Option Addr) (c0 : Nat) (l0 : List (List S39)) (r : List S39) (w : World) (hs0 : Kd.V (Kd.slice 39 k39) 22 w w.heap.size (fun k_ => P0_ k_) (.slice A0 l0.length c0) l0) (h : api_Named_79.f l0 = some r) :
  Calls Try.prog 79 #[.slice A0 l0.length c0] w fun e w' => ∃ v0_ : Value, e = .returned v0_ ∧ Kd.V k39 39 w' w.heap.size (fun k_ => (P0_ k_ ∨ w.heap.size ≤ k_)) v0_ r ∧ Below w.heap.size w w' := by
 unfold api_Named_79.f at h
 by_cases hl : api_Named_79.tot l0 < 1099511627776
 case neg => rw [if_neg hl] at h; cases h
 rw [if_pos hl] at h; obtain rfl := Option.some.inj h; have hF0 := Kd.F_bound (Kd.V_F hs0); have HT := Zq_.mk hl; have HR := Zq_.mk hF0; have HL := Zq_.mk (Kd.F_max hF0); clear h hl hs0 hF0; have HB0 := Zq_.mk (Below.refl w.heap.size w)
 go_enter Try.func79, Try.ntmps79
 go_wp2
 go_loopg [3, 11] l0.length (fun kx s3 s11 wr => ∃ i : Nat, s3 = .int .i64 ((api_Named_79.tot (l0.take i) : Nat) : Int) ∧ s11 = .int .i64 (i : Int) ∧ Zq_ (i ≤ l0.length ∧ l0.length - i ≤ kx) ∧ Zq_ (Below w.heap.size w wr))
 case atStart => exact ⟨0, rfl, rfl, ⟨by omega⟩, HB0⟩
 case round =>
  obtain ⟨i, rfl, rfl, HI, BW⟩ := hrel
  by_cases hlt : i < l0.length
  ·have p1 : (0 : Int) ≤ (i : Int) := by omega
   have p2 : (i : Int) < (l0.length : Int) := by omega
   obtain ⟨ad, c, e_, hcl, hK, hcell, _⟩ := Kd.F_get HR.out ([] : List S39) (i : Int) p1 p2; cases e_; obtain ⟨Ai, ci, rfl, hli, hCi⟩ := Kd.FK_slice_open hK
   have hx_0 : wr.cell? (ad.add i) = some (.slice Ai (l0.getD i []).length ci) := by
    have h0 := hcell 0 _ rfl
    have e9 : ((i : Int).toNat * (Kd.slice 39 k39).sz + 0) = i := by show i * 1 + 0 = i; omega
    rw [e9] at h0; exact (BW.out.cell (wb_ w _ h0)).trans h0
   have hT := api_Named_79.tot_take l0 i hlt; have hT2 := api_Named_79.tot_le l0 (i + 1); have hT3 := HT.out
   have hw1 : wrap64 (((api_Named_79.tot (l0.take i) : Nat) : Int) + ((l0.getD i []).length : Int)) = ((api_Named_79.tot (l0.take (i + 1)) : Nat) : Int) := by unfold wrap64; omega
   have hlw := HL.out
   have hw2 : wrap64 ((i : Int) + 1) = ((i + 1 : Nat) : Int) := by unfold wrap64; omega
   have hneg : decide (((api_Named_79.tot (l0.take (i + 1)) : Nat) : Int) < 0) = false := decide_eq_false (Int.not_lt.2 (Int.natCast_nonneg _)); have p3 := decide_eq_true p2; have p5 := decide_eq_true hlt; have p6 := eq_true hlt; replace p1 := eq_true p1; replace p2 := eq_true p2; have HLT := Zq_.mk hlt; clear hcl hcell hK hli hCi hT hT2 hT3 hlw hlt; generalize (l0.getD i []).length = len at hx_0 hw1
   go_wp2
   go_roundg (l0.length - (i + 1))
   case measure => have h1 := HI.out; have h2 := HLT.out; omega
   case rel => exact ⟨i + 1, eS_, eS_, ⟨by have h1 := HI.out; have h2 := HLT.out; omega⟩, BW⟩
  ·obtain rfl : i = l0.length := by have := HI.out; omega
   have hT3 := HT.out
   have hG := fun W => GrowN.calls (api_Named_79.tot l0) (by omega) W
   rw [List.take_length]; have HG := Zq_.mk hG; clear hG hT3 hlt
   go_wp2_with (go_at_call 84; refine (HG.out _).mono ?_; rintro e w3 ⟨v3, rfl, ho3, hb3⟩; have HO3 := Zq_.mk (Kd.N_mono (Kd.R_N (Kd.vd_ (Kd.R_bound ho3) (qb_ BW.out))) (ok' := fun k_ => ((P0_ k_ ∧ k_ < w.heap.size) ∨ w.heap.size ≤ k_)) (fun k hk => Or.inr (Nat.le_trans (qb_ BW.out) hk.2.1))); have HB3 := Zq_.mk (qa_ BW.out hb3); clear ho3 hb3)
   go_loopg [6, 27] l0.length (fun kx s6 s27 wr => ∃ (i : Nat) (v : Value), s27 = .int .i64 (i : Int) ∧ v = s6 ∧ Zq_ (i ≤ l0.length ∧ l0.length - i ≤ kx) ∧ Zq_ (Below w.heap.size w wr) ∧ Zq_ (Kd.N k39 39 wr w.heap.size (fun k_ => ((P0_ k_ ∧ k_ < w.heap.size) ∨ w.heap.size ≤ k_)) v (l0.take i).flatten))
   case atStart => exact ⟨0, v3, rfl, rfl, ⟨by omega⟩, HB3, HO3⟩
   case round =>
    obtain ⟨i, v6, rfl, hv6, HI2, BW2, HO⟩ := hrel; subst hv6
    by_cases hlt : i < l0.length
    ·have p1 : (0 : Int) ≤ (i : Int) := by omega
     have p2 : (i : Int) < (l0.length : Int) := by omega
     obtain ⟨ad, c, e_, hcl, hK, hcell, _⟩ := Kd.F_get HR.out ([] : List S39) (i : Int) p1 p2; cases e_; obtain ⟨Ai, ci, rfl, hli, hCi⟩ := Kd.FK_slice_open hK
     have hx_0 : wr.cell? (ad.add i) = some (.slice Ai (l0.getD i []).length ci) := by
      have h0 := hcell 0 _ rfl
      have e9 : ((i : Int).toNat * (Kd.slice 39 k39).sz + 0) = i := by show i * 1 + 0 = i; omega
      rw [e9] at h0; exact (BW2.out.cell (wb_ w _ h0)).trans h0
     have HCI := Zq_.mk (show Kd.F k39 w (fun k_ => P0_ k_ ∧ k_ < w.heap.size) Ai (l0.getD i []).length (l0.getD i []) from hCi); have hlw := HL.out
     have hw2 : wrap64 ((i : Int) + 1) = ((i + 1 : Nat) : Int) := by unfold wrap64; omega
     have HTL := Zq_.mk (show ((l0.take i).flatten.length + (l0.getD i []).length) * 48 ≤ 140737488355328 by
      have h1 := api_Named_79.tot_take l0 i hlt; have h2 := api_Named_79.tot_le l0 (i + 1); have h3 := HT.out
      rw [api_Named_79.flat_len]; omega)
     have HF := Zq_.mk (api_Named_79.flat_take l0 i hlt); generalize l0.getD i [] = row at hx_0 HCI HTL HF; have p3 := decide_eq_true p2; have p5 := decide_eq_true hlt; have p6 := eq_true hlt; replace p1 := eq_true p1; replace p2 := eq_true p2; have HLT := Zq_.mk hlt; have NB6 := Zq_.mk (Kd.N_base HO.out); clear hcl hK hcell hli hCi hlw hlt
     go_wp2_with (first | ((with_reducible refine qs_ (b := .append) (xs := #[.tmp 31, .tmp 32]) rfl ?_); at_builtin; refine Kd.N_append_rows k39 (w0 := w) w.heap.size rfl (.tmp 31) (.tmp 32) 22 39 (.agg #[.int .i64 0, .int .i64 0, .int .i64 0, .slice none 0 0]) 48 rfl Try.underlying22 info39 rfl (by decide) (by omega) v6 (l0.take i).flatten row _ _ _ (fun k_ => ((P0_ k_ ∧ k_ < w.heap.size) ∨ w.heap.size ≤ k_)) (fun k_ => P0_ k_ ∧ k_ < w.heap.size) rfl rfl ?aO ?aR ?aK ?aF ?aB ?aS ?aL ?_; (case aR => exact (Kd.F_below HCI.out BW2.out)); (case aK => exact (fun k hk => ⟨Or.inl hk, fun e_ => by have h1 := NB6.out k e_.symm; have h2 := hk.2; omega⟩)); (case aB => exact BW2.out); (case aF => exact (fun k hk => Or.inr (Nat.le_trans (qb_ BW2.out) hk))); (case aO => exact HO.out); (case aS => exact (qb_ BW2.out)); (case aL => exact HTL.out); intro v7 w9 ho hb hg hat; rw [← HF.out] at ho; have HO2 := Zq_.mk ho; have HB2 := Zq_.mk hb; clear ho hb hg hat))
     go_roundg (l0.length - (i + 1))
     case measure => have h1 := HI2.out; have h2 := HLT.out; omega
     case rel => exact ⟨i + 1, v7, eS_, rfl, ⟨by have h1 := HI2.out; have h2 := HLT.out; omega⟩, HB2, HO2⟩
    ·obtain rfl : i = l0.length := by have := HI2.out; omega
     have HO2 := Zq_.mk (show Kd.V k39 39 wr w.heap.size (fun k_ => (P0_ k_ ∨ w.heap.size ≤ k_)) v6 l0.flatten by have h1 := HO.out; rw [List.take_length] at h1; exact Kd.V_mono (Kd.N_V h1) (fun k hk => hk.imp (fun h => h.1) id)); clear hlt
     go_wp2
     go_ret
     exact ⟨_, rfl, HO2.out, BW2.out⟩
def state_Copy.f (aH : Int) (aJ : Int) (aF : List (S58)) : Option (Int × Int × (List (S58))) := (api_Entry_61.f aF).bind fun aI => (some (aH, aJ, aI))
theorem state_Copy.calls (aH : Int) (aJ : Int) (aR : Option Addr) (aP : Nat) (aF : List (S58)) (r1 : Int) (r2 : Int) (r3 : List (S58)) (w : World) (bA : Kd.C k58 w aR aF.length aF) (bC : aF.length ≤ aP) (h : state_Copy.f aH aJ aF = some (r1, r2, r3)) :
  Calls Try.prog 40 #[.agg #[.int .i64 aH, .int .i64 aJ, .slice aR aF.length aP]] w fun e w' => ∃ v2_ : Value, e = .returned (.agg #[.int .i64 r1, .int .i64 r2, v2_]) ∧ Kd.R k58 58 w' w.heap.size (fun _ => True) v2_ r3 ∧ Below w.heap.size w w' := by
 have hu35 := Try.underlying35; have bH := Zq_.mk bA; have bJ := Zq_.mk bC; clear bA bC; have HB := Zq_.mk (Below.refl w.heap.size w); have H : ((api_Entry_61.f aF).bind fun aI => (some (aH, aJ, aI))) = some (r1, r2, r3) := h; clear h; replace H := ob_ H; obtain ⟨aI, A20, H⟩ := H; replace H : (some (aH, aJ, aI)) = some (r1, r2, r3) := H; have A2 := Zq_.mk A20; clear A20; simp only [Option.some.injEq, Prod.mk.injEq] at H; obtain ⟨rfl, rfl, rfl⟩ := H
 go_enter Try.func40, Try.ntmps40
 go_wp2_with (first | ((with_reducible refine qe_ (N := 1) rfl ?_); refine bE_ 1 #[.int .i64 aH, .int .i64 aJ, .slice aR aF.length aP] 35 ?_; intro aB hg w3 hbox hb; have aA := Zq_.mk (hbox); have bL := gW_ (w := w) hg (hB_ HB); have bN := gW_ (w := w) hg (hB_ HB); replace HB := Zq_.mk (qa_ (hB_ HB) hb); clear hb hbox hg) | ((with_reducible refine qe_ (N := 2) rfl ?_); refine bE_ 2 #[.int .i64 0, .int .i64 0, .slice none 0 0] 35 ?_; intro aG hg w4 hbox hb; have aC := Zq_.mk (hbox); have bK := gW_ (w := w) hg (by exact hSet_ HB); have bM := gW_ (w := w) hg (by exact hSet_ HB); replace HB := Zq_.mk (qa_ (by exact hSet_ HB) hb); have aK := Zq_.mk ((by rw [hg]; exact Nat.ne_of_lt (blk_lt (g := aB) (o := .cells #[.int .i64 aH, .int .i64 aJ, .slice aR aF.length aP] 35 (0, 0)) (by exact bK_ aA)) : aB ≠ aG)); have aD := Zq_.mk ((by rw [hg]; exact Nat.ne_of_gt (blk_lt (g := aB) (o := .cells #[.int .i64 aH, .int .i64 aJ, .slice aR aF.length aP] 35 (0, 0)) (by exact bK_ aA)) : aG ≠ aB)); replace aA := Zq_.mk (qd_ (g := aB) (o := .cells #[.int .i64 aH, .int .i64 aJ, .slice aR aF.length aP] 35 (0, 0)) (by exact bK_ aA) hb); clear hb hbox hg; have hnb5 := aK.out; have hnc5 := aD.out; obtain ⟨hcz6_0, hcz6_1, hcz6_2⟩ := c3_ aA; obtain ⟨hfz6_0, hfz6_1, hfz6_2⟩ := f3_ aA) | ((with_reducible refine qi_ (f := 61) rfl ?_); refine goesL_ (some 5) rfl rfl Try.func61 (by kernel_rfl) rfl #[.slice aR aF.length aP] rfl (by (try simp only [List.map_toArray, List.map_cons, List.map_nil]); first | done | rfl | (simp only [List.length_drop, List.length_take]; rfl)) ?_; (with_reducible refine (api_Entry_61.calls _ _ aF aI _ ?side1 ?side2 A2.out).mono ?_); (case side1 => exact cX_ (Kd.qk_ bH.out HB.out)); (case side2 => exact bJ.out); rintro e w7 ⟨v104, rfl, ho0, hb⟩; refine ⟨_, rfl, ?_⟩; have bE := Zq_.mk (Kd.vd_ ho0 (qb_ (by exact hSet_ HB))); replace aA := Zq_.mk (qd_ (g := aB) (o := .cells #[.int .i64 aH, .int .i64 aJ, .slice aR aF.length aP] 35 (0, 0)) (by exact bK_ aA) hb); replace aC := Zq_.mk (qd_ (g := aG) (o := .cells #[.int .i64 0, .int .i64 0, .slice none 0 0] 35 (0, 0)) (by exact bK_ aC) hb); replace HB := Zq_.mk (qa_ (by exact hSet_ HB) hb); (try clear hb); (try clear ho0); obtain ⟨Ao8, co8, eo8⟩ := Kd.vh_ bE.out; subst eo8; obtain ⟨hcz9_0, hcz9_1, hcz9_2⟩ := c3_ aA; obtain ⟨hfz9_0, hfz9_1, hfz9_2⟩ := f3_ aA; obtain ⟨aY, aX, aW⟩ := c3_ aC; obtain ⟨aV, aU, aT⟩ := f3_ aC))
 refine bodyPost_ret (results_cell_row rfl _ _ aG 35 #[.int .i64 aH, .int .i64 aJ, .slice Ao8 aI.length co8] (0, 0) _ rfl (by refine bP_ (cs := #[.int .i64 aH, .int .i64 aJ, .slice none 0 0]) 2 ?_; refine bP_ (cs := #[.int .i64 aH, .int .i64 0, .slice none 0 0]) 1 ?_; refine bP_ (cs := #[.int .i64 0, .int .i64 0, .slice none 0 0]) 0 ?_; refine bF_ aD ?_; (with_reducible repeat (first | refine qh_ ?_ _ | refine qf_ ?_ | refine qg_ ?_ _)); exact aC.out) Try.underlying35 rfl (by kernel_rfl)) rfl ?_; exact ⟨_, by exact eW_, by (with_reducible repeat (first | apply Kd.qu_ | apply Kd.qt_ | apply Kd.R_drew)); exact Kd.R_mono (Kd.R_far (Kd.R_far (Kd.R_far (Kd.R_far (Kd.vg_ (Kd.vg_ bE.out aA.out (by decide)) aC.out (by decide)) (fun _ hk => hk.1.2) _) (fun _ hk => hk.2) _) (fun _ hk => hk.2) _) (fun _ hk => hk.2) _) (fun _ hk => trivial), by exact hSet_ HB⟩
def view_own.f (a0 : Int) (aM : Int) (aL : Int) (aE : List (S58)) : Option (Int × Int × Int × (List (S58))) := (state_Copy.f aM aL aE).bind fun aN => (some (a0, aN.1, aN.2.1, aN.2.2))
theorem view_own.calls (a0 : Int) (aM : Int) (aL : Int) (aQ : Option Addr) (aO : Nat) (aE : List (S58)) (r1 : Int) (r2 : Int) (r3 : Int) (r4 : List (S58)) (w : World) (aZ : Kd.C k58 w aQ aE.length aE) (bB : aE.length ≤ aO) (h : view_own.f a0 aM aL aE = some (r1, r2, r3, r4)) :
  Calls Try.prog 66 #[.int .i64 a0, .agg #[.int .i64 aM, .int .i64 aL, .slice aQ aE.length aO]] w fun e w' => ∃ v3_ : Value, e = .returned (.agg #[.int .i64 r1, .int .i64 r2, .int .i64 r3, v3_]) ∧ Kd.R k58 58 w' w.heap.size (fun _ => True) v3_ r4 ∧ Below w.heap.size w w' := by
 have hu35 := Try.underlying35; have hu39 := Try.underlying39; have bG := Zq_.mk aZ; have bI := Zq_.mk bB; clear aZ bB; have HB := Zq_.mk (Below.refl w.heap.size w); have H : ((state_Copy.f aM aL aE).bind fun aN => (some (a0, aN.1, aN.2.1, aN.2.2))) = some (r1, r2, r3, r4) := h; clear h; replace H := ob_ H; obtain ⟨⟨aI, aS, bF⟩, A30, H⟩ := H; replace H : (some (a0, aI, aS, bF)) = some (r1, r2, r3, r4) := H; have A3 := Zq_.mk A30; clear A30; simp only [Option.some.injEq, Prod.mk.injEq] at H; obtain ⟨rfl, rfl, rfl, rfl⟩ := H
 go_enter Try.func66, Try.ntmps66
 go_wp2_with (first | ((with_reducible refine qe_ (N := 3) rfl ?_); refine bE_ 3 #[.int .i64 aM, .int .i64 aL, .slice aQ aE.length aO] 35 ?_; intro aB hg w4 hbox hb; have aA := Zq_.mk (hbox); have bL := gW_ (w := w) hg (hB_ HB); have bN := gW_ (w := w) hg (hB_ HB); replace HB := Zq_.mk (qa_ (hB_ HB) hb); clear hb hbox hg) | ((with_reducible refine qe_ (N := 4) rfl ?_); refine bE_ 4 #[.int .i64 0, .int .i64 0, .int .i64 0, .slice none 0 0] 39 ?_; intro aG hg w5 hbox hb; have aC := Zq_.mk (hbox); have bK := gW_ (w := w) hg (by exact hSet_ HB); have bM := gW_ (w := w) hg (by exact hSet_ HB); replace HB := Zq_.mk (qa_ (by exact hSet_ HB) hb); have aK := Zq_.mk ((by rw [hg]; exact Nat.ne_of_lt (blk_lt (g := aB) (o := .cells #[.int .i64 aM, .int .i64 aL, .slice aQ aE.length aO] 35 (0, 0)) (by exact bK_ aA)) : aB ≠ aG)); have aD := Zq_.mk ((by rw [hg]; exact Nat.ne_of_gt (blk_lt (g := aB) (o := .cells #[.int .i64 aM, .int .i64 aL, .slice aQ aE.length aO] 35 (0, 0)) (by exact bK_ aA)) : aG ≠ aB)); replace aA := Zq_.mk (qd_ (g := aB) (o := .cells #[.int .i64 aM, .int .i64 aL, .slice aQ aE.length aO] 35 (0, 0)) (by exact bK_ aA) hb); clear hb hbox hg; have hnb6 := aK.out; have hnc6 := aD.out; obtain ⟨hcz7_0, hcz7_1, hcz7_2⟩ := c3_ aA; obtain ⟨hfz7_0, hfz7_1, hfz7_2⟩ := f3_ aA) | ((with_reducible refine qi_ (f := 40) rfl ?_); refine goesL_ (some 7) rfl rfl Try.func40 (by kernel_rfl) rfl #[.agg #[.int .i64 aM, .int .i64 aL, .slice aQ aE.length aO]] rfl (by (try simp only [List.map_toArray, List.map_cons, List.map_nil]); first | done | rfl | (simp only [List.length_drop, List.length_take]; rfl)) ?_; (with_reducible refine (state_Copy.calls aM aL _ _ aE aI aS bF _ ?side1 ?side2 A3.out).mono ?_); (case side1 => exact cX_ (Kd.qk_ bG.out HB.out)); (case side2 => exact bI.out); rintro e w8 ⟨v106, rfl, ho0, hb⟩; refine ⟨_, rfl, ?_⟩; have bD := Zq_.mk (Kd.vd_ ho0 (qb_ (by exact hSet_ HB))); replace aA := Zq_.mk (qd_ (g := aB) (o := .cells #[.int .i64 aM, .int .i64 aL, .slice aQ aE.length aO] 35 (0, 0)) (by exact bK_ aA) hb); replace aC := Zq_.mk (qd_ (g := aG) (o := .cells #[.int .i64 0, .int .i64 0, .int .i64 0, .slice none 0 0] 39 (0, 0)) (by exact bK_ aC) hb); replace HB := Zq_.mk (qa_ (by exact hSet_ HB) hb); (try clear hb); (try clear ho0); obtain ⟨Ao9, co9, eo9⟩ := Kd.vh_ bD.out; subst eo9; obtain ⟨aY, aX, aW, hcz10_3⟩ := c4_ aC; obtain ⟨aV, aU, aT, hfz10_3⟩ := f4_ aC))
 refine bodyPost_ret (results_cell_row rfl _ _ aG 39 #[.int .i64 a0, .int .i64 aI, .int .i64 aS, .slice Ao9 bF.length co9] (0, 0) _ rfl (by refine bP_ (cs := #[.int .i64 a0, .int .i64 aI, .int .i64 aS, .slice none 0 0]) 3 ?_; refine bP_ (cs := #[.int .i64 a0, .int .i64 aI, .int .i64 0, .slice none 0 0]) 2 ?_; refine bP_ (cs := #[.int .i64 a0, .int .i64 0, .int .i64 0, .slice none 0 0]) 1 ?_; refine bP_ (cs := #[.int .i64 0, .int .i64 0, .int .i64 0, .slice none 0 0]) 0 ?_; (with_reducible repeat (first | refine qh_ ?_ _ | refine qf_ ?_ | refine qg_ ?_ _)); exact aC.out) Try.underlying39 rfl (by kernel_rfl)) rfl ?_; exact ⟨_, by exact eW_, by (with_reducible repeat (first | apply Kd.qu_ | apply Kd.qt_ | apply Kd.R_drew)); exact Kd.R_mono (Kd.R_far (Kd.R_far (Kd.R_far (Kd.R_far (Kd.vg_ bD.out aC.out (by decide)) (fun _ hk => hk.2) _) (fun _ hk => hk.2) _) (fun _ hk => hk.2) _) (fun _ hk => hk.2) _) (fun _ hk => trivial), by exact hSet_ HB⟩
end Go.Proofs.Ytgipbmjkgciccaa.P

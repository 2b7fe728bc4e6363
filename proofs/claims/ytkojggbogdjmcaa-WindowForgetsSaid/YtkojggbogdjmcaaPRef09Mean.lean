/- What printed functions come to, and that the machine's calls do it. No condition. -/
import Derived.Test.YtkojggbogdjmcaaPBitsAdd64
import Derived.Test.YtkojggbogdjmcaaPBitsDiv64
namespace Go.Proofs.Ytkojggbogdjmcaa.P
set_option maxHeartbeats 8000000
set_option maxRecDepth 100000
open Go.RowKit Go.Proofs.YtkojggbogdjmcaaW.PrintWords Go.Proofs.YtkojggbogdjmcaaW.PrintLast Go.Proofs.YtkojggbogdjmcaaW.PrintMore
attribute [local go_sem] max2_int min2_int max_two min_two qg_ qf_ max_four min_four Go.Proofs.YtkojggbogdjmcaaW.Hw.string_gtr
set_option linter.unusedVariables false
set_option linter.unusedSimpArgs false
mutual
def ref09_Mean.l0 : Nat → List Int → Int → Int → Int → Option (Int)
 | 0, _, _, _, _ => none
 | k + 1, x0, x4, aF, aE => if x4 < (x0.length : Int) then (if 0 ≤ x4 then ((ref09_Add.f aF aE 0 (mn (mx (rd x0 x4) 0) 1125899906842624)).bind fun aM => (ref09_Mean.l0 k x0 (wrap64 (x4 + 1)) aM.1 aM.2)) else (none)) else (if (x0.length : Int) = 0 then (some 0) else (ref09_Mean.l1 k x0 0 50 aF aE))
def ref09_Mean.l1 : Nat → List Int → Int → Int → Int → Int → Option (Int)
 | 0, _, _, _, _, _ => none
 | k + 1, x0, x5, x6, aF, aE => if x6 ≥ 0 then (if 0 ≤ (IntKind.u64.wrap (x6)) then ((ref09_Mul.f k (x0.length : Int) (wrap64 (x5 + (shl .i64 1 (IntKind.u64.wrap (x6)))))).bind fun aL => ((ref09_Below.f aF aE aL.1 aL.2).bind fun aO => (if aO = true then (ref09_Mean.l1 k x0 x5 (wrap64 (x6 - 1)) aF aE) else (ref09_Mean.l1 k x0 (wrap64 (x5 + (shl .i64 1 (IntKind.u64.wrap (x6))))) (wrap64 (x6 - 1)) aF aE)))) else (none)) else (some x5)
end
def ref09_Mean.f (k : Nat) (l0 : List Int) : Option (Int) := ref09_Mean.l0 k l0 0 0 0
theorem ref09_Mean.mono_l : ∀ k, (∀ y0 y1 y2 y3, LeO (ref09_Mean.l0 k y0 y1 y2 y3) (ref09_Mean.l0 (k + 1) y0 y1 y2 y3)) ∧ (∀ y0 y1 y2 y3 y4, LeO (ref09_Mean.l1 k y0 y1 y2 y3 y4) (ref09_Mean.l1 (k + 1) y0 y1 y2 y3 y4))
 | 0 => ⟨fun _ _ _ _ r h => by simp [ref09_Mean.l0] at h, fun _ _ _ _ _ r h => by simp [ref09_Mean.l1] at h⟩
 | k + 1 => by
  obtain ⟨ih0, ih1⟩ := ref09_Mean.mono_l k; refine ⟨?_, ?_⟩
  ·intro y0 y1 y2 y3
   unfold ref09_Mean.l0
   with_reducible repeat' first | exact ih0 _ _ _ _ | exact ih1 _ _ _ _ _ | exact ref09_Mul.mono _ _ _ | exact LeO.refl _ | exact LeO.none _ | refine LeO.ite ?_ ?_ | refine LeO.bind ?_ (fun _ => ?_)
  ·intro y0 y1 y2 y3 y4
   unfold ref09_Mean.l1
   with_reducible repeat' first | exact ih0 _ _ _ _ | exact ih1 _ _ _ _ _ | exact ref09_Mul.mono _ _ _ | exact LeO.refl _ | exact LeO.none _ | refine LeO.ite ?_ ?_ | refine LeO.bind ?_ (fun _ => ?_)
theorem ref09_Mean.mono : ∀ a0 k, LeO (ref09_Mean.f k a0) (ref09_Mean.f (k + 1) a0) := by
 intro a0 k; obtain ⟨ih0, ih1⟩ := ref09_Mean.mono_l k
 unfold ref09_Mean.f
 with_reducible repeat' first | exact ih0 _ _ _ _ | exact ih1 _ _ _ _ _ | exact ref09_Mul.mono _ _ _ | exact LeO.refl _ | exact LeO.none _ | refine LeO.ite ?_ ?_ | refine LeO.bind ?_ (fun _ => ?_)
def ref09_Mean.T5 : Bool × List (List Nat × List Nat) := (true, [([], []), ([], []), ([], []), ([1, 2], [1, 2]), ([3], [3]), ([4], [4]), ([5], [5]), ([6], [6]), ([7], [7]), ([0, 8], [0, 8]), ([9, 9, 0, 1, 2, 3, 4, 5, 6, 7, 8, 9], [9])])
def ref09_Mean.B5 : List Nat := [0, 0, 0, 6, 14, 30, 62, 126, 254, 511, 1023]
theorem ref09_Mean.tab5 : rtab .any (opsOf Try.f24 5) = ref09_Mean.T5 := by kernel_rfl
theorem ref09_Mean.bits5 : waitsOk ref09_Mean.T5.2 ref09_Mean.B5 = true := by kernel_rfl
theorem ref09_Mean.calls (k : Nat) (A0 : Option Addr) (c0 : Nat) (l0 : List Int) (r : Int) (w : World) (hr0 : Kd.C (Kd.int .i64) w A0 l0.length l0) (hc0 : l0.length ≤ c0) (h : ref09_Mean.f k l0 = some r) :
  Calls Try.prog 24 #[.slice A0 l0.length c0] w fun e w' => e = .returned (.int .i64 r) ∧ Below w.heap.size w w' := by
 have hu52 := Try.underlying52; have HR0 := Zq_.mk hr0; have HC0 := Zq_.mk hc0; clear hr0 hc0; have HB := Zq_.mk (Below.refl w.heap.size w); have H : (ref09_Mean.l0 k l0 0 0 0) = some r := h; clear h; have H' := Zq_.mk H; clear H
 go_enter Try.func24, Try.ntmps24
 go_wp2_with (first | ((with_reducible refine qd_ (N := 3) rfl ?_); refine bE_ 3 #[.int .u64 0, .int .u64 0] 52 ?_; intro aQ hg w2 hbox hb; have aC := Zq_.mk (hbox); have GW101 := gW_ (w := w) hg (hB_ HB); have GE101 := gW_ (w := w) hg (hB_ HB); replace HB := sB_ HB hb; clear hb hbox hg; obtain ⟨aX, aW⟩ := c2_ aC; obtain ⟨aV, aU⟩ := f2_ aC))
 go_loopg [4] k (fun kq v4 w' => ∃ (aD : Int) (aB : Int) (aA : Int), v4 = .int .i64 aD ∧ Zq_ (ref09_Mean.l0 kq l0 aD aB aA = some r) ∧ Zq_ (kq ≤ k) ∧ Zq_ (w'.heap[aQ]? = some (.cells #[.int .u64 aB, .int .u64 aA] 52 (0, 0))) ∧ Zq_ (Below w.heap.size w w'))
 case atStart => exact ⟨(0), (0), (0), eS_, H', ⟨Nat.le_refl _⟩, ⟨by exact bW2_ (bK_ aC)⟩, ⟨by exact hSet_ HB⟩⟩
 case round =>
  clear H'
  try clear c2
  try clear p2
  try clear aX
  try clear aW
  try clear aV
  try clear aU
  obtain ⟨aD, aB, aA, rfl, HA, HK1, aC, HB⟩ := hrel
  cases gk with
  | zero => exact absurd HA.out (by simp [ref09_Mean.l0])
  | succ k1 =>
   have H := HA.out; clear HA; simp only [ref09_Mean.l0] at H
   by_cases c4 : aD < (l0.length : Int)
   ·rw [if_pos c4] at H; have bH : decide (aD < (l0.length : Int)) = true := decide_eq_true c4; clear c4
    by_cases c5 : 0 ≤ aD
    ·rw [if_pos c5] at H; have c5b0 : decide (0 ≤ aD) = true := decide_eq_true c5; clear c5; obtain ⟨ji6, bB⟩ : ∃ j_ : Int, (mx (rd l0 aD) 0) = j_ := ⟨_, rfl⟩
     replace H : ((ref09_Add.f aB aA 0 (mn (ji6) 1125899906842624)).bind fun aM => (ref09_Mean.l0 k1 l0 (wrap64 (aD + 1)) aM.1 aM.2)) = some r := by first | (rw [bB] at H; exact H) | (simp only [bB] at H ⊢; exact H)
     have hji6_ : (if (rd l0 aD) < 0 then 0 else (rd l0 aD)) = ji6 := bB; obtain ⟨ji7, bA⟩ : ∃ j_ : Int, (mn (ji6) 1125899906842624) = j_ := ⟨_, rfl⟩
     replace H : ((ref09_Add.f aB aA 0 (ji7)).bind fun aM => (ref09_Mean.l0 k1 l0 (wrap64 (aD + 1)) aM.1 aM.2)) = some r := by first | (rw [bA] at H; exact H) | (simp only [bA] at H ⊢; exact H)
     have hji7_ : (if 1125899906842624 < (ji6) then 1125899906842624 else (ji6)) = ji7 := bA; replace H := ob_ H; obtain ⟨⟨bG, bF⟩, A80, H⟩ := H; (try dsimp only at H); have A8 := Zq_.mk A80; clear A80; have H' := Zq_.mk H; clear H; (try go_wp2); replace aC := Zq_.mk (qk_ aC.out); replace HB := Zq_.mk (below_drew1 HB.out); have aZ : 0 ≤ (aD : Int) := dA_; have aY : aD < (l0.length : Int) := dA_; obtain ⟨ad102, e102, aK⟩ := Kd.at_int HR0.out aD aZ aY; have aP := aK; cases e102; replace aK := hC_ HB aK; replace aZ := eq_true aZ; replace aY := eq_true aY; refine gD_ 11 [10] (hA_ (b0_ aC) (hA_ (b1_ aC) (hZ_ (hC_ HB aP)))) (fun hHeld => ?_); refine with_tabW ref09_Mean.tab5 ref09_Mean.bits5 (fun HT_ HW_ => ?_); generalize wr.drew = w9 at aC HB aK hHeld ⊢; refine pQ_ 1 HT_ ?_; refine pQ_ 2 HT_ ?_; refine pQ_ 3 HT_ ?_; refine tL_ 0 HT_ HW_ hHeld ?_; refine up0_ 4 ?_; (iterate 5 first | refine pN_ ?_ | refine tN_ ?_); refine oN_ 9 24 11 1023 HT_ (fun K hK => ?_); refine goes_ Try.func29 (by kernel_rfl) rfl #[.agg #[.int .u64 aB, .int .u64 aA], .agg #[.int .u64 0, .int .u64 ji7]] (by rfl) rfl rfl (by (try simp only [List.map_toArray, List.map_cons, List.map_nil]); first | done | (rw [show IntKind.u64.wrap ji7 = ji7 by rw [← bA, ← bB, IntKind.wrap_u64]; unfold mn mx; (repeat' split) <;> omega]; rfl) | rfl | (simp only [List.length_drop, List.length_take]; rfl)) ?_
     with_reducible refine (ref09_Add.calls aB aA 0 ji7 bG bF _ A8.out).mono ?_
     rintro e w10 ⟨rfl, hb⟩; refine ⟨_, rfl, ?_⟩; replace aC := kB_ aC hb; replace HB := sB_ HB hb; (try clear hb); refine hK.out _ _ ⟨b0_ aC, b1_ aC, (hC_ HB aP)⟩ (fun hHeld => ?_); clear hK K; refine norm_ (a' := ?_) ?_ ?_; rotate_left
     ·show Act.put _ (some 24) _ = _
      simp only [Act.put, sa_, sb_, sc_, i64_w, i32_w]; rfl
     refine last_ (i := 10) (N := none) (bz_ 11 2047) rfl rfl (one_of HT_.out (by kernel_rfl)) (by decide) (fun K hK => ?_); have hs11 : w10.cell? ⟨aQ, 0, none⟩ = some (.int .u64 aB) := (qe_ aC.out 0).trans rfl; have hfs11 := qa_ aC.out 0; have hs12 : w10.cell? ⟨aQ, 1, none⟩ = some (.int .u64 aA) := (qe_ aC.out 1).trans rfl; have hfs12 := qa_ aC.out 1; refine skip_ (w1 := ?_) (by rfl) rfl ?_ ?_; rotate_left; (focus go_simp; rfl); refine hK.out _ _ ?_; clear hK K; refine dN_ HT_ ?_; (try go_wp2)
     go_roundg k1
     case measure => have := HK1.out; omega
     case rel => exact ⟨(wrap64 (aD + 1)), (bG), (bF), eS_, H', ⟨by have := HK1.out; omega⟩, ⟨by exact bW2_ (bK_ aC)⟩, ⟨by exact hSet_ HB⟩⟩
    ·rw [if_neg c5] at H; exact absurd H (by simp)
   ·rw [if_neg c4] at H; have bH : decide (aD < (l0.length : Int)) = false := decide_eq_false c4; clear c4
    by_cases c13 : (l0.length : Int) = 0
    ·rw [if_pos c13] at H; have bE : ((l0.length : Int) == 0) = true := beq_iff_eq.mpr c13; have bD : ((l0.length : Int) != 0) = false := bne_eq_false_iff_eq.mpr c13; clear c13; obtain rfl := Option.some.inj H
     go_wp2
     go_ret
     exact ⟨by exact eW_, by exact hSet_ HB⟩
    ·rw [if_neg c13] at H; have bE : ((l0.length : Int) == 0) = false := beq_eq_false_iff_ne.mpr c13; have bD : ((l0.length : Int) != 0) = true := bne_iff_ne.mpr c13
     have bJ : ¬ (l0 = []) := fun h_ => c13 (by rw [h_]; rfl)
     have H' := Zq_.mk H; clear H
     go_wp2
     go_loopg [5, 6] k1 (fun kq v5 v6 w' => ∃ (aG : Int) (aI : Int), v5 = .int .i64 aG ∧ v6 = .int .i64 aI ∧ Zq_ (ref09_Mean.l1 kq l0 aG aI aB aA = some r) ∧ Zq_ (kq ≤ k1) ∧ Zq_ (w'.heap[aQ]? = some (.cells #[.int .u64 aB, .int .u64 aA] 52 (0, 0))) ∧ Zq_ (Below w.heap.size w w'))
     case atStart => exact ⟨(0), (50), eS_, eS_, H', ⟨Nat.le_refl _⟩, ⟨by (with_reducible repeat (first | refine qi_ ?_ _ | refine qk_ ?_ | refine qj_ ?_ _)); exact aC.out⟩, ⟨by exact hSet_ HB⟩⟩
     case round =>
      clear H'
      try clear c1
      try clear p1
      try clear q1
      try clear hx1
      try clear c2
      try clear p2
      try clear c4
      try clear bH
      try clear c5
      try clear c5b0
      try clear p6
      try clear p10
      try clear q10
      try clear hx10
      try clear c13
      try clear bE
      try clear bD
      try clear bJ
      try clear aX
      try clear aW
      try clear aV
      try clear aU
      try clear aK
      try clear aZ
      try clear p2
      try clear aY
      obtain ⟨aG, aI, rfl, rfl, HA, HK2, aC, HB⟩ := hrel
      cases gk with
      | zero => exact absurd HA.out (by simp [ref09_Mean.l1])
      | succ k2 =>
       have H := HA.out; clear HA; simp only [ref09_Mean.l1] at H
       by_cases c14 : aI ≥ 0
       ·rw [if_pos c14] at H; have bI : decide (0 ≤ aI) = true := decide_eq_true c14; clear c14; obtain ⟨aH, bC⟩ : ∃ j_ : Int, (IntKind.u64.wrap (aI)) = j_ := ⟨_, rfl⟩
        replace H : (if 0 ≤ (aH) then ((ref09_Mul.f k2 (l0.length : Int) (wrap64 (aG + (shl .i64 1 (aH))))).bind fun aL => ((ref09_Below.f aB aA aL.1 aL.2).bind fun aO => (if aO = true then (ref09_Mean.l1 k2 l0 aG (wrap64 (aI - 1)) aB aA) else (ref09_Mean.l1 k2 l0 (wrap64 (aG + (shl .i64 1 (aH)))) (wrap64 (aI - 1)) aB aA)))) else (none)) = some r := by first | (rw [bC] at H; exact H) | (simp only [bC] at H ⊢; exact H)
        by_cases c16 : 0 ≤ (aH)
        ·rw [if_pos c16] at H; have c16b0 := eq_true c16; have c16b1 : decide (0 ≤ (aH)) = true := decide_eq_true c16; clear c16; obtain ⟨aJ, aN⟩ : ∃ j_ : Int, (shl .i64 1 (aH)) = j_ := ⟨_, rfl⟩
         replace H : ((ref09_Mul.f k2 (l0.length : Int) (wrap64 (aG + (aJ)))).bind fun aL => ((ref09_Below.f aB aA aL.1 aL.2).bind fun aO => (if aO = true then (ref09_Mean.l1 k2 l0 aG (wrap64 (aI - 1)) aB aA) else (ref09_Mean.l1 k2 l0 (wrap64 (aG + (aJ))) (wrap64 (aI - 1)) aB aA)))) = some r := by first | (rw [aN] at H; exact H) | (simp only [aN] at H ⊢; exact H)
         have aT : (IntKind.i64.wrap (1 * 2 ^ min (aH).toNat 64)) = aJ := aN; have hji17z : (aH) ≤ 64 → (IntKind.i64.wrap (1 * 2 ^ (aH).toNat)) = aJ := shl_small aN
         have hji17u : (IntKind.i64.wrap (2 ^ min (aH).toNat 64)) = aJ := by have h_ := aT; rw [Int.one_mul] at h_; exact h_
         have hji17v : (aH) ≤ 64 → (IntKind.i64.wrap (2 ^ (aH).toNat)) = aJ := fun hle_ => by have h_ := hji17z hle_; rw [Int.one_mul] at h_; exact h_
         have hji17y : (wrap64 (1 * 2 ^ min (aH).toNat 64)) = aJ := (i64_w _).symm.trans aT
         have hji17x : (aH) ≤ 64 → (wrap64 (1 * 2 ^ (aH).toNat)) = aJ := fun h_ => (i64_w _).symm.trans (hji17z h_)
         replace H := ob_ H; obtain ⟨⟨aS, aR⟩, bL, H⟩ := H; (try dsimp only at H); have A18 := Zq_.mk bL; clear bL; replace H := ob_ H; obtain ⟨aO, bK, H⟩ := H; (try dsimp only at H); have A19 := Zq_.mk bK; clear bK
         by_cases c20 : aO = true
         ·subst c20
          rw [if_pos rfl] at H; have H' := Zq_.mk H; clear H; (try go_wp2); replace aC := Zq_.mk (qk_ aC.out); replace HB := Zq_.mk (below_drew1 HB.out); refine gS_ 7 (hA_ (b0_ aC) (hZ_ (b1_ aC))) (fun hHeld => ?_); generalize wr.drew = w21 at aC HB hHeld ⊢; refine pure_ (i := 1) (N := some 38) (v := ?_) (a' := ?_) (bz_ 7 2) rfl rfl (by kernel_rfl) (fun _ _ _ h => h) (Or.inl ⟨by rfl, ?_⟩) ?_ ?_; rotate_left; (focus intro w'; go_simp; (with_reducible rfl)); rotate_left; (focus simp only [Act.put, sa_, sb_, sc_, i64_w, i32_w]; rfl); refine pure_ (i := 2) (N := some 39) (v := ?_) (a' := ?_) (bz_ 7 6) rfl rfl (by kernel_rfl) (fun _ _ _ h => h) (Or.inl ⟨by rfl, ?_⟩) ?_ ?_; rotate_left; (focus intro w'; go_simp; (with_reducible rfl)); rotate_left; (focus simp only [Act.put, sa_, sb_, sc_, i64_w, i32_w]; rfl); refine pure_ (i := 3) (N := some 40) (v := ?_) (a' := ?_) (bz_ 7 14) rfl rfl (by kernel_rfl) (fun _ _ _ h => h) (Or.inl ⟨by rfl, ?_⟩) ?_ ?_; rotate_left; (focus intro w'; go_simp; (with_reducible rfl)); rotate_left; (focus simp only [Act.put, sa_, sb_, sc_, i64_w, i32_w]; rfl); refine take_ (i := 0) (N := some 37) (v := ?_) (a' := ?_) (bz_ 7 15) rfl rfl (by kernel_rfl) (fun _ _ _ h => h) (Or.inl ⟨by rfl, ?_⟩) hHeld ?_ ?_; rotate_left; (focus rintro w' ⟨s0, s1⟩; go_simp; (with_reducible rfl)); rotate_left; (focus simp only [Act.put, sa_, sb_, sc_, i64_w, i32_w]; rfl); refine one_ (i := 4) (N := some 41) (bz_ 7 31) rfl rfl (by kernel_rfl) (by decide) (fun K hK => ?_); refine goes_ Try.func31 (by kernel_rfl) rfl #[.int .i64 (l0.length : Int), .int .i64 (wrap64 (aG + (aJ)))] (by rfl) rfl rfl (by (try simp only [List.map_toArray, List.map_cons, List.map_nil]); first | done | (simp only [aN]; rfl) | rfl | (simp only [List.length_drop, List.length_take]; rfl)) ?_
          with_reducible refine (ref09_Mul.calls k2 (l0.length : Int) (wrap64 (aG + (aJ))) aS aR _ A18.out).mono ?_
          rintro e w22 ⟨rfl, hb⟩; refine ⟨_, rfl, ?_⟩; replace aC := kB_ aC hb; replace HB := sB_ HB hb; (try clear hb); refine hK.out _ _ (c2_ aC) (fun hHeld => ?_); clear hK K; refine norm_ (a' := ?_) ?_ ?_; rotate_left
          ·show Act.put _ (some 41) _ = _
           simp only [Act.put, sa_, sb_, sc_, i64_w, i32_w]; rfl
          refine one_ (i := 5) (N := some 42) (bz_ 7 63) rfl rfl (by kernel_rfl) (by decide) (fun K hK => ?_); refine goes_ Try.func30 (by kernel_rfl) rfl #[.agg #[.int .u64 aB, .int .u64 aA], .agg #[.int .u64 aS, .int .u64 aR]] (by rfl) rfl rfl aR_ ?_
          with_reducible refine (ref09_Below.calls aB aA aS aR true _ A19.out).mono ?_
          rintro e w23 ⟨rfl, hb⟩; refine ⟨_, rfl, ?_⟩; replace aC := kB_ aC hb; replace HB := sB_ HB hb; (try clear hb); refine hK.out _ _ (c2_ aC) (fun hHeld => ?_); clear hK K; refine norm_ (a' := ?_) ?_ ?_; rotate_left
          ·show Act.put _ (some 42) _ = _
           simp only [Act.put, sa_, sb_, sc_, i64_w, i32_w]; rfl
          refine pure_ (i := 6) (N := some 43) (v := ?_) (a' := ?_) (bz_ 7 127) rfl rfl (by kernel_rfl) (fun _ _ _ h => h) (Or.inl ⟨by rfl, ?_⟩) ?_ ?_; rotate_left; (focus intro w'; go_simp; (with_reducible rfl)); rotate_left; (focus simp only [Act.put, sa_, sb_, sc_, i64_w, i32_w]; rfl); refine done_ (by kernel_rfl) ?_; (try go_wp2)
          go_roundg k2
          case measure => have := HK1.out; have := HK2.out; omega
          case rel => exact ⟨(aG), (wrap64 (aI - 1)), eS_, eS_, H', ⟨by have := HK1.out; have := HK2.out; omega⟩, ⟨by (with_reducible repeat (first | refine qi_ ?_ _ | refine qk_ ?_ | refine qj_ ?_ _)); exact aC.out⟩, ⟨by exact hSet_ HB⟩⟩
         ·replace c20 := Bool.eq_false_iff.mpr c20; subst c20
          have H1 : (ref09_Mean.l1 k2 l0 (wrap64 (aG + (aJ))) (wrap64 (aI - 1)) aB aA) = some r := by rw [if_neg (show ¬ (false = true) by decide)] at H; exact H
          clear H; have H := H1; clear H1; have H' := Zq_.mk H; clear H; (try go_wp2); replace aC := Zq_.mk (qk_ aC.out); replace HB := Zq_.mk (below_drew1 HB.out); refine gS_ 7 (hA_ (b0_ aC) (hZ_ (b1_ aC))) (fun hHeld => ?_); generalize wr.drew = w24 at aC HB hHeld ⊢; refine pure_ (i := 1) (N := some 38) (v := ?_) (a' := ?_) (bz_ 7 2) rfl rfl (by kernel_rfl) (fun _ _ _ h => h) (Or.inl ⟨by rfl, ?_⟩) ?_ ?_; rotate_left; (focus intro w'; go_simp; (with_reducible rfl)); rotate_left; (focus simp only [Act.put, sa_, sb_, sc_, i64_w, i32_w]; rfl); refine pure_ (i := 2) (N := some 39) (v := ?_) (a' := ?_) (bz_ 7 6) rfl rfl (by kernel_rfl) (fun _ _ _ h => h) (Or.inl ⟨by rfl, ?_⟩) ?_ ?_; rotate_left; (focus intro w'; go_simp; (with_reducible rfl)); rotate_left; (focus simp only [Act.put, sa_, sb_, sc_, i64_w, i32_w]; rfl); refine pure_ (i := 3) (N := some 40) (v := ?_) (a' := ?_) (bz_ 7 14) rfl rfl (by kernel_rfl) (fun _ _ _ h => h) (Or.inl ⟨by rfl, ?_⟩) ?_ ?_; rotate_left; (focus intro w'; go_simp; (with_reducible rfl)); rotate_left; (focus simp only [Act.put, sa_, sb_, sc_, i64_w, i32_w]; rfl); refine take_ (i := 0) (N := some 37) (v := ?_) (a' := ?_) (bz_ 7 15) rfl rfl (by kernel_rfl) (fun _ _ _ h => h) (Or.inl ⟨by rfl, ?_⟩) hHeld ?_ ?_; rotate_left; (focus rintro w' ⟨s0, s1⟩; go_simp; (with_reducible rfl)); rotate_left; (focus simp only [Act.put, sa_, sb_, sc_, i64_w, i32_w]; rfl); refine one_ (i := 4) (N := some 41) (bz_ 7 31) rfl rfl (by kernel_rfl) (by decide) (fun K hK => ?_); refine goes_ Try.func31 (by kernel_rfl) rfl #[.int .i64 (l0.length : Int), .int .i64 (wrap64 (aG + (aJ)))] (by rfl) rfl rfl (by (try simp only [List.map_toArray, List.map_cons, List.map_nil]); first | done | (simp only [aN]; rfl) | rfl | (simp only [List.length_drop, List.length_take]; rfl)) ?_
          with_reducible refine (ref09_Mul.calls k2 (l0.length : Int) (wrap64 (aG + (aJ))) aS aR _ A18.out).mono ?_
          rintro e w25 ⟨rfl, hb⟩; refine ⟨_, rfl, ?_⟩; replace aC := kB_ aC hb; replace HB := sB_ HB hb; (try clear hb); refine hK.out _ _ (c2_ aC) (fun hHeld => ?_); clear hK K; refine norm_ (a' := ?_) ?_ ?_; rotate_left
          ·show Act.put _ (some 41) _ = _
           simp only [Act.put, sa_, sb_, sc_, i64_w, i32_w]; rfl
          refine one_ (i := 5) (N := some 42) (bz_ 7 63) rfl rfl (by kernel_rfl) (by decide) (fun K hK => ?_); refine goes_ Try.func30 (by kernel_rfl) rfl #[.agg #[.int .u64 aB, .int .u64 aA], .agg #[.int .u64 aS, .int .u64 aR]] (by rfl) rfl rfl aR_ ?_
          with_reducible refine (ref09_Below.calls aB aA aS aR false _ A19.out).mono ?_
          rintro e w26 ⟨rfl, hb⟩; refine ⟨_, rfl, ?_⟩; replace aC := kB_ aC hb; replace HB := sB_ HB hb; (try clear hb); refine hK.out _ _ (c2_ aC) (fun hHeld => ?_); clear hK K; refine norm_ (a' := ?_) ?_ ?_; rotate_left
          ·show Act.put _ (some 42) _ = _
           simp only [Act.put, sa_, sb_, sc_, i64_w, i32_w]; rfl
          refine pure_ (i := 6) (N := some 43) (v := ?_) (a' := ?_) (bz_ 7 127) rfl rfl (by kernel_rfl) (fun _ _ _ h => h) (Or.inl ⟨by rfl, ?_⟩) ?_ ?_; rotate_left; (focus intro w'; go_simp; (with_reducible rfl)); rotate_left; (focus simp only [Act.put, sa_, sb_, sc_, i64_w, i32_w]; rfl); refine done_ (by kernel_rfl) ?_; (try go_wp2)
          go_roundg k2
          case measure => have := HK1.out; have := HK2.out; omega
          case rel => exact ⟨(wrap64 (aG + (aJ))), (wrap64 (aI - 1)), (by first | rfl | (simp; done) | (simp only [← aN] <;> (first | rfl | simp)) | (simp [*]; done)), eS_, H', ⟨by have := HK1.out; have := HK2.out; omega⟩, ⟨by (with_reducible repeat (first | refine qi_ ?_ _ | refine qk_ ?_ | refine qj_ ?_ _)); exact aC.out⟩, ⟨by exact hSet_ HB⟩⟩
        ·rw [if_neg c16] at H; exact absurd H (by simp)
       ·rw [if_neg c14] at H; have bI : decide (0 ≤ aI) = false := decide_eq_false c14; clear c14; obtain rfl := Option.some.inj H
        go_wp2
        go_ret
        exact ⟨by exact eW_, by exact hSet_ HB⟩
def ref10_Mean.f (k : Nat) (aG : Int) (aA : List Int) (a1 : Int) : Option (Int) := if (aA.length : Int) = 0 then (some (mx 1 a1)) else ((ref09_Mean.f k aA).bind fun aC => (some (mx 1 aC)))
theorem ref10_Mean.mono : ∀ a0 a1 a2 k, LeO (ref10_Mean.f k a0 a1 a2) (ref10_Mean.f (k + 1) a0 a1 a2) := by
 intro a0 a1 a2 k
 unfold ref10_Mean.f
 with_reducible repeat' first | exact ref09_Mean.mono _ _ | exact LeO.refl _ | exact LeO.none _ | refine LeO.ite ?_ ?_ | refine LeO.bind ?_ (fun _ => ?_)
theorem ref10_Mean.calls (k : Nat) (aG : Int) (aH : Option Addr) (aF : Nat) (aA : List Int) (a1 : Int) (r : Int) (w : World) (aI : Kd.C (Kd.int .i64) w aH aA.length aA) (aJ : aA.length ≤ aF) (h : ref10_Mean.f k aG aA a1 = some r) :
  Calls Try.prog 16 #[.agg #[.int .i64 aG, .slice aH aA.length aF], .int .i64 a1] w fun e w' => e = .returned (.int .i64 r) ∧ Below w.heap.size w w' := by
 have hu27 := Try.underlying27; have aL := Zq_.mk aI; have aM := Zq_.mk aJ; clear aI aJ; have HB := Zq_.mk (Below.refl w.heap.size w); have H : (if (aA.length : Int) = 0 then (some (mx 1 a1)) else ((ref09_Mean.f k aA).bind fun aC => (some (mx 1 aC)))) = some r := h; clear h
 by_cases c3 : (aA.length : Int) = 0
 ·rw [if_pos c3] at H; have c3b0 : ((aA.length : Int) == 0) = true := beq_iff_eq.mpr c3; have c3b1 : ((aA.length : Int) != 0) = false := bne_eq_false_iff_eq.mpr c3; clear c3; obtain ⟨ji4, aE⟩ : ∃ j_ : Int, (mx 1 a1) = j_ := ⟨_, rfl⟩
  replace H : (some ji4) = some r := by first | (rw [aE] at H; exact H) | (simp only [aE] at H ⊢; exact H)
  (try (have hji4l : 1 ≤ ji4 := by (rw [← aE]; unfold mx; (repeat' split) <;> omega))); (try (have hji4m : 0 ≤ ji4 := by omega)); have hji4_ : (if 1 < a1 then a1 else 1) = ji4 := aE; obtain rfl := Option.some.inj H
  go_enter Try.func16, Try.ntmps16
  go_wp2_with (first | ((with_reducible refine qd_ (N := 2) rfl ?_); refine bE_ 2 #[.int .i64 aG, .slice aH aA.length aF] 27 ?_; intro aK hg w5 hbox hb; have aB := Zq_.mk (hbox); have aN := gW_ (w := w) hg (hB_ HB); have aO := gW_ (w := w) hg (hB_ HB); replace HB := sB_ HB hb; clear hb hbox hg; obtain ⟨hcz6_0, hcz6_1⟩ := c2_ aB; obtain ⟨hfz6_0, hfz6_1⟩ := f2_ aB))
  go_ret
  exact ⟨by first | rfl | (simp [errW_none, errW_some] <;> rfl) | (simp only [← aE]; first | rfl | (simp [errW_none, errW_some] <;> rfl)) | (simp [*, errW_none, errW_some] <;> rfl), by exact hSet_ HB⟩
 ·rw [if_neg c3] at H; have c3b0 : ((aA.length : Int) == 0) = false := beq_eq_false_iff_ne.mpr c3; have c3b1 : ((aA.length : Int) != 0) = true := bne_iff_ne.mpr c3
  have c3b2 : ¬ (aA = []) := fun h_ => c3 (by rw [h_]; rfl)
  replace H := ob_ H; obtain ⟨aC, A70, H⟩ := H; (try dsimp only at H); have A7 := Zq_.mk A70; clear A70; obtain ⟨ji8, aD⟩ : ∃ j_ : Int, (mx 1 aC) = j_ := ⟨_, rfl⟩
  replace H : (some ji8) = some r := by first | (rw [aD] at H; exact H) | (simp only [aD] at H ⊢; exact H)
  (try rw [aD] at A7); (try (have hji8l : 1 ≤ ji8 := by (rw [← aD]; unfold mx; (repeat' split) <;> omega))); (try (have hji8m : 0 ≤ ji8 := by omega)); have hji8_ : (if 1 < aC then aC else 1) = ji8 := aD; obtain rfl := Option.some.inj H
  go_enter Try.func16, Try.ntmps16
  go_wp2_with (first | ((with_reducible refine qd_ (N := 2) rfl ?_); refine bE_ 2 #[.int .i64 aG, .slice aH aA.length aF] 27 ?_; intro aK hg w9 hbox hb; have aB := Zq_.mk (hbox); have aN := gW_ (w := w) hg (hB_ HB); have aO := gW_ (w := w) hg (hB_ HB); replace HB := sB_ HB hb; clear hb hbox hg; obtain ⟨hcz10_0, hcz10_1⟩ := c2_ aB; obtain ⟨hfz10_0, hfz10_1⟩ := f2_ aB) | ((with_reducible refine qh_ (f := 24) rfl ?_); refine goesL_ (some 13) rfl rfl Try.func24 (by kernel_rfl) rfl #[.slice aH aA.length aF] rfl aR_ ?_; (with_reducible refine (ref09_Mean.calls k _ _ aA aC _ ?side1 ?side2 A7.out).mono ?_); (case side1 => exact cX_ (Kd.C_below aL.out HB.out)); (case side2 => exact aM.out); rintro e w11 ⟨rfl, hb⟩; refine ⟨_, rfl, ?_⟩; replace aB := kB_ aB hb; replace HB := sB_ HB hb; (try clear hb)))
  go_ret
  exact ⟨by first | rfl | (simp [errW_none, errW_some] <;> rfl) | (simp only [← aD]; first | rfl | (simp [errW_none, errW_some] <;> rfl)) | (simp [*, errW_none, errW_some] <;> rfl), by exact hSet_ HB⟩
def ratio_Mean.l0 : Nat → List Int → Int → Int → List Int → Int → Int → Option (Int)
 | 0, _, _, _, _, _, _ => none
 | k + 1, x0, x3, x4, x13, x14, x15 => if x15 < x14 then (if 0 ≤ x15 then (if x15 < (x13.length : Int) then ((ratio_Clamp.f (rd x13 x15) 0 1125899906842624).bind fun aD => ((bits_Add64.f x4 (IntKind.u64.wrap (aD)) 0).bind fun aE => (ratio_Mean.l0 k x0 (IntKind.u64.wrap (x3 + aE.2)) aE.1 x13 x14 (wrap64 (x15 + 1))))) else (none)) else (none)) else ((bits_Div64.f k x3 x4 (IntKind.u64.wrap ((x0.length : Int)))).bind fun aL => (some (wrap64 (aL.1))))
def ratio_Mean.f (k : Nat) (l0 : List Int) : Option (Int) := if (l0.length : Int) = 0 then (some 0) else (ratio_Mean.l0 k l0 0 0 l0 (l0.length : Int) 0)
theorem ratio_Mean.mono_l : ∀ k, (∀ y0 y1 y2 y3 y4 y5, LeO (ratio_Mean.l0 k y0 y1 y2 y3 y4 y5) (ratio_Mean.l0 (k + 1) y0 y1 y2 y3 y4 y5))
 | 0 => fun _ _ _ _ _ _ r h => by simp [ratio_Mean.l0] at h
 | k + 1 => by
  have ih0 := ratio_Mean.mono_l k
  ·intro y0 y1 y2 y3 y4 y5
   unfold ratio_Mean.l0
   with_reducible repeat' first | exact ih0 _ _ _ _ _ _ | exact bits_Div64.mono _ _ _ _ | exact LeO.refl _ | exact LeO.none _ | refine LeO.ite ?_ ?_ | refine LeO.bind ?_ (fun _ => ?_)
theorem ratio_Mean.mono : ∀ a0 k, LeO (ratio_Mean.f k a0) (ratio_Mean.f (k + 1) a0) := by
 intro a0 k; have ih0 := ratio_Mean.mono_l k
 unfold ratio_Mean.f
 with_reducible repeat' first | exact ih0 _ _ _ _ _ _ | exact bits_Div64.mono _ _ _ _ | exact LeO.refl _ | exact LeO.none _ | refine LeO.ite ?_ ?_ | refine LeO.bind ?_ (fun _ => ?_)
theorem ratio_Mean.calls (k : Nat) (A0 : Option Addr) (c0 : Nat) (l0 : List Int) (r : Int) (w : World) (hr0 : Kd.C (Kd.int .i64) w A0 l0.length l0) (hc0 : l0.length ≤ c0) (h : ratio_Mean.f k l0 = some r) :
  Calls Try.prog 22 #[.slice A0 l0.length c0] w fun e w' => e = .returned (.int .i64 r) ∧ Drawn0 w w' := by
 have HR0 := Zq_.mk hr0; have HC0 := Zq_.mk hc0; clear hr0 hc0; have H : (if (l0.length : Int) = 0 then (some 0) else (ratio_Mean.l0 k l0 0 0 l0 (l0.length : Int) 0)) = some r := h; clear h
 by_cases c2 : (l0.length : Int) = 0
 ·rw [if_pos c2] at H; have aK : ((l0.length : Int) == 0) = true := beq_iff_eq.mpr c2; have aJ : ((l0.length : Int) != 0) = false := bne_eq_false_iff_eq.mpr c2; clear c2; obtain rfl := Option.some.inj H
  go_enter Try.func22, Try.ntmps22
  go_wp2
  go_ret
  exact ⟨by first | rfl | (simp; done) | (simp [*]; done), by repeat (first | exact Drawn0.refl _ | apply Drawn0.step)⟩
 ·rw [if_neg c2] at H; have aK : ((l0.length : Int) == 0) = false := beq_eq_false_iff_ne.mpr c2; have aJ : ((l0.length : Int) != 0) = true := bne_iff_ne.mpr c2
  have c2b2 : ¬ (l0 = []) := fun h_ => c2 (by rw [h_]; rfl)
  have H' := Zq_.mk H; clear H
  go_enter Try.func22, Try.ntmps22
  go_wp2
  go_loopg [3, 4, 15] k (fun kq v3 v4 v15 w' => ∃ (aC : Int) (aB : Int) (aA : Int), v3 = .int .u64 aC ∧ v4 = .int .u64 aB ∧ v15 = .int .i64 aA ∧ Zq_ (ratio_Mean.l0 kq l0 aC aB l0 (l0.length : Int) aA = some r) ∧ Zq_ (kq ≤ k) ∧ Drawn0 w w')
  case atStart => exact ⟨(0), (0), (0), eS_, eS_, eS_, H', ⟨Nat.le_refl _⟩, by repeat (first | exact Drawn0.refl _ | apply Drawn0.step)⟩
  case round =>
   clear H'
   try clear c2
   try clear aK
   try clear aJ
   try clear c2b2
   try clear p2
   obtain ⟨aC, aB, aA, rfl, rfl, rfl, HA, HK1, ⟨m1, rfl⟩⟩ := hrel
   cases gk with
   | zero => exact absurd HA.out (by simp [ratio_Mean.l0])
   | succ k1 =>
    have H := HA.out; clear HA; simp only [ratio_Mean.l0] at H
    by_cases c3 : aA < (l0.length : Int)
    ·rw [if_pos c3] at H; have c3b0 : decide (aA < (l0.length : Int)) = true := decide_eq_true c3; clear c3
     by_cases c4 : 0 ≤ aA
     ·rw [if_pos c4] at H; have c4b0 : decide (0 ≤ aA) = true := decide_eq_true c4; clear c4
      by_cases c5 : aA < (l0.length : Int)
      ·rw [if_pos c5] at H; have c5b0 : decide (aA < (l0.length : Int)) = true := decide_eq_true c5; clear c5; replace H := ob_ H; obtain ⟨aD, A60, H⟩ := H; (try dsimp only at H); have A6 := Zq_.mk A60; clear A60; replace H := ob_ H; obtain ⟨⟨aI, aH⟩, A70, H⟩ := H; (try dsimp only at H); have A7 := Zq_.mk A70; clear A70; have H' := Zq_.mk H; clear H; have aG : 0 ≤ (aA : Int) := dA_; have aF : aA < (l0.length : Int) := dA_; obtain ⟨ad101, e101, hx101_0⟩ := Kd.at_int HR0.out aA aG aF; cases e101; replace aG := eq_true aG; replace aF := eq_true aF
       go_wp2_with (first | ((with_reducible refine qh_ (f := 19) rfl ?_); refine goesL_ (some 22) rfl rfl Try.func19 (by kernel_rfl) rfl #[.int .i64 (rd l0 aA), .int .i64 0, .int .i64 1125899906842624] rfl aR_ ?_; (with_reducible refine (ratio_Clamp.calls (rd l0 aA) 0 1125899906842624 aD _ A6.out).mono ?_); rintro e w' ⟨rfl, ⟨nd, rfl⟩⟩; refine ⟨_, rfl, ?_⟩) | (simp only [bits_Add64.run aB (IntKind.u64.wrap (aD)) 0 aI aH _ A7.out]))
       go_roundg k1
       case measure => have := HK1.out; omega
       case rel => exact ⟨(IntKind.u64.wrap (aC + aH)), (aI), (wrap64 (aA + 1)), eS_, eS_, eS_, H', ⟨by have := HK1.out; omega⟩, by repeat (first | exact Drawn0.refl _ | apply Drawn0.step)⟩
      ·rw [if_neg c5] at H; exact absurd H (by simp)
     ·rw [if_neg c4] at H; exact absurd H (by simp)
    ·rw [if_neg c3] at H; have c3b0 : decide (aA < (l0.length : Int)) = false := decide_eq_false c3; clear c3; replace H := ob_ H; obtain ⟨⟨t105, t106⟩, A80, H⟩ := H; (try dsimp only at H); have A8 := Zq_.mk A80; clear A80; obtain rfl := Option.some.inj H
     go_wp2_with (first | ((with_reducible refine qh_ (f := 28) rfl ?_); refine goesL_ (some 37) rfl rfl Try.func28 (by kernel_rfl) rfl #[.int .u64 aC, .int .u64 aB, .int .u64 (IntKind.u64.wrap ((l0.length : Int)))] rfl aR_ ?_; (with_reducible refine (bits_Div64.calls k1 aC aB (IntKind.u64.wrap ((l0.length : Int))) t105 t106 _ A8.out).mono ?_); rintro e w' ⟨rfl, ⟨nd, rfl⟩⟩; refine ⟨_, rfl, ?_⟩))
     go_ret
     exact ⟨by first | rfl | (simp; done) | (simp [*]; done), by repeat (first | exact Drawn0.refl _ | apply Drawn0.step)⟩
def window_Arrive.j0 : Nat → Int → Int → Bool → Int → List Int → Option (Int × List Int × Int)
 | 0, _, _, _, _, _ => none
 | k + 1, x1, x2, x22, bC, bH => if x22 = true then (some (bC, bH, 1)) else ((slices_Clone_int_int.f bH).bind fun aE => (if bC = (-1) then (if 0 ≤ (mx 0 (wrap64 ((aE.length : Int) - 16))) then (if (mx 0 (wrap64 ((aE.length : Int) - 16))) ≤ (aE.length : Int) then (some (x1, (aE.drop ((mx 0 (wrap64 ((aE.length : Int) - 16))) : Int).toNat), 0)) else (none)) else (none)) else ((ratio_Clamp.f (wrap64 (x1 - bC)) 1 (mx 1 x2)).bind fun aV => (if aE.length < 17592186044416 then ((some (aE ++ [aV] : List Int)).bind fun aD => (if 0 ≤ (mx 0 (wrap64 ((aD.length : Int) - 16))) then (if (mx 0 (wrap64 ((aD.length : Int) - 16))) ≤ (aD.length : Int) then (some (x1, (aD.drop ((mx 0 (wrap64 ((aD.length : Int) - 16))) : Int).toNat), 0)) else (none)) else (none))) else (none)))))
def window_Arrive.f (k : Nat) (aG : Int) (aI : List Int) (a1 : Int) (a2 : Int) : Option (Int × List Int × Int) := if a1 < (mx 0 aG) then (window_Arrive.j0 k a1 a2 true aG aI) else (if a1 > 1099511627776 then (window_Arrive.j0 k a1 a2 true aG aI) else ((window_Right.f aG aI).bind fun bD => (window_Arrive.j0 k a1 a2 (!bD) aG aI)))
theorem window_Arrive.mono_l : ∀ k, (∀ y0 y1 y2 y3 y4, LeO (window_Arrive.j0 k y0 y1 y2 y3 y4) (window_Arrive.j0 (k + 1) y0 y1 y2 y3 y4))
 | 0 => fun _ _ _ _ _ r h => by simp [window_Arrive.j0] at h
 | k + 1 => by
  have ih0 := window_Arrive.mono_l k
  ·intro y0 y1 y2 y3 y4
   unfold window_Arrive.j0
   with_reducible repeat' first | exact ih0 _ _ _ _ _ | exact LeO.refl _ | exact LeO.none _ | refine LeO.ite ?_ ?_ | refine LeO.bind ?_ (fun _ => ?_)
theorem window_Arrive.mono : ∀ a0 a1 a2 a3 k, LeO (window_Arrive.f k a0 a1 a2 a3) (window_Arrive.f (k + 1) a0 a1 a2 a3) := by
 intro a0 a1 a2 a3 k; have ih0 := window_Arrive.mono_l k
 unfold window_Arrive.f
 with_reducible repeat' first | exact ih0 _ _ _ _ _ | exact LeO.refl _ | exact LeO.none _ | refine LeO.ite ?_ ?_ | refine LeO.bind ?_ (fun _ => ?_)
theorem window_Arrive.calls (k : Nat) (aG : Int) (aW : Nat → Prop) (aY : Option Addr) (aX : Nat) (aI : List Int) (a1 : Int) (a2 : Int) (r1 : Int) (r2 : List Int) (r3 : Int) (w : World) (hs0_1 : Kd.V (Kd.int .i64) 3 w w.heap.size (fun k_ => aW k_) (.slice aY aI.length aX) aI) (h : window_Arrive.f k aG aI a1 a2 = some (r1, r2, r3)) :
  Calls Try.prog 9 #[.agg #[.int .i64 aG, .slice aY aI.length aX], .int .i64 a1, .int .i64 a2] w fun e w' => ∃ v1_ : Value, e = .returned (.tuple #[.agg #[.int .i64 r1, v1_], .int .i64 r3]) ∧ Kd.V (Kd.int .i64) 3 w' w.heap.size (fun k_ => (aW k_ ∨ w.heap.size ≤ k_)) v1_ r2 ∧ Below w.heap.size w w' := by
 have hu27 := Try.underlying27; have aT := Zq_.mk (show Kd.V (Kd.int .i64) 3 w w.heap.size (fun k_ => (aW k_ ∨ w.heap.size ≤ k_)) (.slice aY aI.length aX) aI from Kd.V_mono hs0_1 (fun k_ hk => .inl hk)); have HB := Zq_.mk (Below.refl w.heap.size w); have H : (if a1 < (mx 0 aG) then (window_Arrive.j0 k a1 a2 true aG aI) else (if a1 > 1099511627776 then (window_Arrive.j0 k a1 a2 true aG aI) else ((window_Right.f aG aI).bind fun bD => (window_Arrive.j0 k a1 a2 (!bD) aG aI)))) = some (r1, r2, r3) := h; clear h; have HC4 := Zq_.mk H; clear H
 go_enter Try.func9, Try.ntmps9
 go_upto_region 1 with (first | ((with_reducible refine qd_ (N := 3) rfl ?_); refine bE_ 3 #[.int .i64 aG, .slice aY aI.length aX] 27 ?_; intro aU hg w5 hbox hb; replace aT := Zq_.mk (Kd.ql_ (Kd.V_elderB (vX_ aT) aU (Nat.le_of_eq hg.symm)) hb); have aC := Zq_.mk (hbox); have GW101 := gW_ (w := w) hg (hB_ HB); have GE101 := gW_ (w := w) hg (hB_ HB); replace HB := sB_ HB hb; clear hb hbox hg) | ((with_reducible refine qd_ (N := 6) rfl ?_); refine bE_ 6 #[.int .i64 0, .slice none 0 0] 27 ?_; intro aN hg w6 hbox hb; replace aT := Zq_.mk (Kd.ql_ (Kd.V_elderB (vX_ aT) aN (Nat.le_of_eq hg.symm)) hb); have aH := Zq_.mk (hbox); have GW102 := gW_ (w := w) hg (by exact hSet_ HB); have GE102 := gW_ (w := w) hg (by exact hSet_ HB); replace HB := sB_ HB hb; have aM := nL_ aC hg; have aK := nG_ aC hg; replace aC := kB_ aC hb; clear hb hbox hg))
 (try simp only [Act.put, sa_, sb_, sc_])
 go_cut [22] (fun v22 wc => ∃ (kq : Nat) (bG : Bool), v22 = .bool bG ∧ Zq_ (window_Arrive.j0 kq a1 a2 bG aG aI = some (r1, r2, r3)) ∧ Zq_ (kq ≤ k) ∧ Zq_ (Kd.V (Kd.int .i64) 3 wc w.heap.size (fun k_ => (aW k_ ∨ w.heap.size ≤ k_) ∧ k_ ≠ aU ∧ k_ ≠ aN) (.slice aY aI.length aX) aI) ∧ Zq_ (wc.heap[aU]? = some (.cells #[.int .i64 aG, (.slice aY aI.length aX)] 27 (0, 0))) ∧ Zq_ (wc.heap[aN]? = some (.cells #[.int .i64 0, (.slice none 0 0)] 27 (0, 0))) ∧ Zq_ (Below w.heap.size w wc))
 case first =>
  have H := HC4.out; clear HC4; obtain ⟨ji7, bS⟩ : ∃ j_ : Int, (mx 0 aG) = j_ := ⟨_, rfl⟩
  replace H : (if a1 < (ji7) then (window_Arrive.j0 k a1 a2 true aG aI) else (if a1 > 1099511627776 then (window_Arrive.j0 k a1 a2 true aG aI) else ((window_Right.f aG aI).bind fun bD => (window_Arrive.j0 k a1 a2 (!bD) aG aI)))) = some (r1, r2, r3) := by first | (rw [bS] at H; exact H) | (simp only [bS] at H ⊢; exact H)
  (try (have hji7l : 0 ≤ ji7 := by (rw [← bS]; unfold mx; (repeat' split) <;> omega))); (try (have hji7m : 0 ≤ ji7 := by omega)); have hji7_ : (if 0 < aG then aG else 0) = ji7 := bS
  by_cases c8 : a1 < (ji7)
  ·rw [if_pos c8] at H; have bI : decide (a1 < (ji7)) = true := decide_eq_true c8; clear c8; (first | rw [bI] | (simp only [i64_w, i32_w]; rw [bI]) | skip); have H' := Zq_.mk H; clear H; have hnb9 := aM.out; have hnc9 := aK.out; obtain ⟨cE, cD⟩ := c2_ aC; obtain ⟨bY, bX⟩ := f2_ aC
   go_wp2
   go_meet
   case rel => exact ⟨_, (true), eS_, H', ⟨by first | omega | exact Nat.le_refl _⟩, ⟨by refine vM_ ?_; exact Kd.V_mono aT.out (fun _ hk => ⟨hk.1.1, ⟨hk.1.2, hk.2⟩⟩)⟩, ⟨by (with_reducible repeat (first | refine qi_ ?_ _ | refine qk_ ?_ | refine qj_ ?_ _)); exact aC.out⟩, ⟨by (with_reducible repeat (first | refine qi_ ?_ _ | refine qk_ ?_ | refine qj_ ?_ _)); exact aH.out⟩, ⟨by exact hSet_ HB⟩⟩
  ·rw [if_neg c8] at H; have bI : decide (a1 < (ji7)) = false := decide_eq_false c8; clear c8; (first | rw [bI] | (simp only [i64_w, i32_w]; rw [bI]) | skip)
   by_cases c11 : a1 > 1099511627776
   ·rw [if_pos c11] at H; have cJ : decide (1099511627776 < a1) = true := decide_eq_true c11; clear c11; have H' := Zq_.mk H; clear H; have hnb12 := aM.out; have hnc12 := aK.out; obtain ⟨cC, cB⟩ := c2_ aC; obtain ⟨bW, bV⟩ := f2_ aC
    go_wp2
    go_meet
    case rel => exact ⟨_, (true), eS_, H', ⟨by first | omega | exact Nat.le_refl _⟩, ⟨by refine vM_ ?_; exact Kd.V_mono aT.out (fun _ hk => ⟨hk.1.1, ⟨hk.1.2, hk.2⟩⟩)⟩, ⟨by (with_reducible repeat (first | refine qi_ ?_ _ | refine qk_ ?_ | refine qj_ ?_ _)); exact aC.out⟩, ⟨by (with_reducible repeat (first | refine qi_ ?_ _ | refine qk_ ?_ | refine qj_ ?_ _)); exact aH.out⟩, ⟨by exact hSet_ HB⟩⟩
   ·rw [if_neg c11] at H; have cJ : decide (1099511627776 < a1) = false := decide_eq_false c11; clear c11; replace H := ob_ H; obtain ⟨bD, cY, H⟩ := H; replace H : (window_Arrive.j0 k a1 a2 (!bD) aG aI) = some (r1, r2, r3) := H; have A14 := Zq_.mk cY; clear cY; have H' := Zq_.mk H; clear H; have hnb15 := aM.out; have hnc15 := aK.out; obtain ⟨cA, bZ⟩ := c2_ aC; obtain ⟨bU, bT⟩ := f2_ aC
    go_wp2_with (first | (go_at_call 10; (with_reducible refine (window_Right.calls aG _ _ aI bD _ ?side1 ?side2 A14.out).mono ?_); (case side1 => exact cX_ ((Kd.V_reads' aT.out).2.2)); (case side2 => exact (Kd.V_reads' aT.out).2.1); rintro e w17 ⟨rfl, hb⟩; replace aT := vV_ Kd.ql_ aT hb; replace aC := kB_ aC hb; replace aH := kB_ aH hb; replace HB := sB_ HB hb; (try clear hb)))
    go_meet
    case rel => exact ⟨_, (!bD), eS_, H', ⟨by first | omega | exact Nat.le_refl _⟩, ⟨by refine vM_ ?_; exact Kd.V_mono aT.out (fun _ hk => ⟨hk.1.1, ⟨hk.1.2, hk.2⟩⟩)⟩, ⟨by (with_reducible repeat (first | refine qi_ ?_ _ | refine qk_ ?_ | refine qj_ ?_ _)); exact aC.out⟩, ⟨by (with_reducible repeat (first | refine qi_ ?_ _ | refine qk_ ?_ | refine qj_ ?_ _)); exact aH.out⟩, ⟨by exact hSet_ HB⟩⟩
 case rest =>
  clear HC4
  try clear c1
  try clear p2
  try clear c8
  try clear bI
  try clear c9
  try clear c11
  try clear cJ
  try clear c12
  try clear c15
  try clear cE
  try clear cD
  try clear cC
  try clear cB
  try clear cA
  try clear bZ
  try clear bY
  try clear bX
  try clear bW
  try clear bV
  try clear bU
  try clear bT
  obtain ⟨kq, bG, rfl, HA, HJ3, aA, aC, aH, HB⟩ := hcut
  cases kq with
  | zero => exact absurd HA.out (by simp [window_Arrive.j0])
  | succ kj3 =>
   have H := HA.out; clear HA; simp only [window_Arrive.j0] at H
   by_cases c18 : bG = true
   ·subst c18
    have H1 : (some (aG, aI, 1)) = some (r1, r2, r3) := by rw [if_pos rfl] at H; exact H
    clear H; have H := H1; clear H1; simp only [Option.some.injEq, Prod.mk.injEq] at H; obtain ⟨rfl, rfl, rfl⟩ := H; have hnb19 := aM.out; have hnc19 := aK.out; obtain ⟨hcz20_0, hcz20_1⟩ := c2_ aC; obtain ⟨hfz20_0, hfz20_1⟩ := f2_ aC; obtain ⟨hcz21_0, hcz21_1⟩ := c2_ aH; obtain ⟨hfz21_0, hfz21_1⟩ := f2_ aH
    go_wp2
    refine bodyPost_ret (results_ct rfl _ _ aN 27 #[.int .i64 aG, .slice aY aI.length aX] (0, 0) _ rfl (by exact bW2_ (bK_ aH)) Try.underlying27 rfl (by kernel_rfl)) rfl ?_; exact ⟨_, by exact eW_, by refine vM_ ?_; exact Kd.V_mono (Kd.V_far (Kd.V_far (Kd.V_mono aA.out (fun k_ hk => (⟨hk, hk.2.2⟩ : _ ∧ k_ ≠ aN))) (fun _ hk => hk.2) _) (fun _ hk => hk.2) _) (fun _ hk => hk.1.1), by exact hSet_ HB⟩
   ·replace c18 := Bool.eq_false_iff.mpr c18; subst c18
    have H1 : ((slices_Clone_int_int.f aI).bind fun aE => (if aG = (-1) then (if 0 ≤ (mx 0 (wrap64 ((aE.length : Int) - 16))) then (if (mx 0 (wrap64 ((aE.length : Int) - 16))) ≤ (aE.length : Int) then (some (a1, (aE.drop ((mx 0 (wrap64 ((aE.length : Int) - 16))) : Int).toNat), 0)) else (none)) else (none)) else ((ratio_Clamp.f (wrap64 (a1 - aG)) 1 (mx 1 a2)).bind fun aV => (if aE.length < 17592186044416 then ((some (aE ++ [aV] : List Int)).bind fun aD => (if 0 ≤ (mx 0 (wrap64 ((aD.length : Int) - 16))) then (if (mx 0 (wrap64 ((aD.length : Int) - 16))) ≤ (aD.length : Int) then (some (a1, (aD.drop ((mx 0 (wrap64 ((aD.length : Int) - 16))) : Int).toNat), 0)) else (none)) else (none))) else (none))))) = some (r1, r2, r3) := by rw [if_neg (show ¬ (false = true) by decide)] at H; exact H
    clear H; have H := H1; clear H1; replace H := ob_ H; obtain ⟨aE, cX, H⟩ := H; replace H : (if aG = (-1) then (if 0 ≤ (mx 0 (wrap64 ((aE.length : Int) - 16))) then (if (mx 0 (wrap64 ((aE.length : Int) - 16))) ≤ (aE.length : Int) then (some (a1, (aE.drop ((mx 0 (wrap64 ((aE.length : Int) - 16))) : Int).toNat), 0)) else (none)) else (none)) else ((ratio_Clamp.f (wrap64 (a1 - aG)) 1 (mx 1 a2)).bind fun aV => (if aE.length < 17592186044416 then ((some (aE ++ [aV] : List Int)).bind fun aD => (if 0 ≤ (mx 0 (wrap64 ((aD.length : Int) - 16))) then (if (mx 0 (wrap64 ((aD.length : Int) - 16))) ≤ (aD.length : Int) then (some (a1, (aD.drop ((mx 0 (wrap64 ((aD.length : Int) - 16))) : Int).toNat), 0)) else (none)) else (none))) else (none)))) = some (r1, r2, r3) := H; have A22 := Zq_.mk cX; clear cX
    by_cases c23 : aG = (-1)
    ·rw [if_pos c23] at H; have cR : (aG == (-1)) = true := beq_iff_eq.mpr c23; have cQ : (aG != (-1)) = false := bne_eq_false_iff_eq.mpr c23; clear c23; obtain ⟨aR, bB⟩ : ∃ j_ : Int, (mx 0 (wrap64 ((aE.length : Int) - 16))) = j_ := ⟨_, rfl⟩
     replace H : (if 0 ≤ (aR) then (if (aR) ≤ (aE.length : Int) then (some (a1, (aE.drop ((aR) : Int).toNat), 0)) else (none)) else (none)) = some (r1, r2, r3) := by first | (rw [bB] at H; exact H) | (simp only [bB] at H ⊢; exact H)
     (try rw [bB] at A22); (try (have hji24l : 0 ≤ aR := by (rw [← bB]; unfold mx; (repeat' split) <;> omega))); (try (have hji24m : 0 ≤ aR := by omega)); have hji24_ : (if 0 < (wrap64 ((aE.length : Int) - 16)) then (wrap64 ((aE.length : Int) - 16)) else 0) = aR := bB
     by_cases c25 : 0 ≤ (aR)
     ·rw [if_pos c25] at H; have c25b0 := eq_true c25; have c25b1 : decide (0 ≤ (aR)) = true := decide_eq_true c25; clear c25
      by_cases c26 : (aR) ≤ (aE.length : Int)
      ·rw [if_pos c26] at H; have c26b0 := eq_true c26; have c26b1 : decide ((aR) ≤ (aE.length : Int)) = true := decide_eq_true c26; clear c26; obtain ⟨bF, bL⟩ : ∃ y_ : List Int, y_ = (aE.drop ((aR) : Int).toNat) := ⟨_, rfl⟩
       replace H : (some (a1, bF, 0)) = some (r1, r2, r3) := hY_ bL H
       have cL := Zq_.mk bL; clear bL; simp only [Option.some.injEq, Prod.mk.injEq] at H; obtain ⟨rfl, rfl, rfl⟩ := H; have hnb27 := aM.out; have hnc27 := aK.out; obtain ⟨hcz28_0, hcz28_1⟩ := c2_ aC; obtain ⟨hfz28_0, hfz28_1⟩ := f2_ aC
       go_wp2_with (first | ((with_reducible refine qh_ (f := 18) rfl ?_); refine goesL_ (some 26) rfl rfl Try.func18 (by kernel_rfl) rfl #[.slice aY aI.length aX] rfl aR_ ?_; (with_reducible refine (slices_Clone_int_int.calls _ _ aI aE _ ?side1 ?side2 A22.out).mono ?_); (case side1 => exact cX_ ((Kd.V_reads' aA.out).2.2)); (case side2 => exact (Kd.V_reads' aA.out).2.1); rintro e w29 ⟨v105, rfl, ho0, hb⟩; refine ⟨_, rfl, ?_⟩; replace aA := Zq_.mk (Kd.V_elder' (vX_ aA) (Kd.R_base ho0) hb); have aJ := Zq_.mk (Kd.R_lower (Kd.R_newM (M := fun k_ => (w.heap.size ≤ k_)) ho0 (qc_ (by exact hSet_ HB)) (fun k_ h_ => h_)) (qc_ (by exact hSet_ HB))); replace aC := kB_ aC hb; replace aH := kB_ aH hb; replace HB := sB_ HB hb; (try clear hb); (try clear ho0); obtain ⟨hcz30_0, hcz30_1⟩ := c2_ aC; obtain ⟨hfz30_0, hfz30_1⟩ := f2_ aC; obtain ⟨bQ, cG, eo31⟩ := Kd.R_slice aJ.out; subst eo31; have n_ := Zq_.mk (Kd.R_mono (ok' := (fun k_ => (w.heap.size ≤ k_))) aJ.out (fun k_ hk => hk.1)); clear aJ; have aJ := n_; clear n_; have q32 : ((aR) : Int) ≤ ((aE.length : Int) : Int) := dA_; obtain ⟨i032, cI, _, hsz32, _⟩ := info_parts info3; have hcut32 := cut_from (P := Try.prog) 25 3 .i64 Try.underlying25 cI 1 hsz32 bQ aE.length cG (aR) (dA_) q32; have bN := Kd.Q_drop (k := ((aR) : Int).toNat) (Kd.Q_of_R aJ.out) (by omega); obtain ⟨A32, hA32⟩ : ∃ A1, A1 = (if cG = ((aR) : Int).toNat then bQ else (bQ : Option Addr).map (·.add (((aR) : Int).toNat * 1))) := ⟨_, rfl⟩; obtain ⟨c32, cP⟩ : ∃ c1, c1 = cG - ((aR) : Int).toNat := ⟨_, rfl⟩; have cN : bF.length = aE.length - ((aR) : Int).toNat := (by rw [cL.out, List.length_drop]); rw [← cL.out] at bN; rw [← cN, ← hA32, ← cP] at hcut32; replace bN : Kd.Q (Kd.int .i64) 3 w29 w.heap.size (fun k_ => (w.heap.size ≤ k_)) (.slice A32 bF.length c32) bF := (by rw [hA32, cP, cN]; exact bN); have HE32 : Zq_ ((Value.slice A32 bF.length c32).ownBlock = (.slice bQ aE.length cG : Value).ownBlock) := ⟨by rw [hA32]; split <;> (cases (bQ : Option Addr) <;> first | rfl | (simp only [Option.map_some, Value.ownBlock, Addr.add]; split <;> rfl))⟩; clear cN cI hsz32 aJ hA32 cP; have cV := Zq_.mk bN; clear bN; replace q32 := eq_true q32; have n_ := Zq_.mk (Kd.V_mono (ok' := fun k_ => ((((aW k_ ∨ w.heap.size ≤ k_)) ∧ (k_ ≠ aU ∧ k_ ≠ aN)) ∧ some k_ ≠ (.slice A32 bF.length c32 : Value).ownBlock)) aA.out (fun k_ hk => ⟨⟨hk.1.1, ⟨hk.1.2.1, hk.1.2.2⟩⟩, (by rw [HE32.out]; exact hk.2)⟩)); clear aA; have aA := n_; clear n_; obtain ⟨hcz33_0, hcz33_1⟩ := c2_ aH; obtain ⟨hfz33_0, hfz33_1⟩ := f2_ aH))
       refine bodyPost_ret (results_ct rfl _ _ aN 27 #[.int .i64 a1, .slice A32 bF.length c32] (0, 0) _ rfl (by exact bW2_ (bK_ aH)) Try.underlying27 rfl (by kernel_rfl)) rfl ?_; exact ⟨_, by first | rfl | (simp [errW_none, errW_some] <;> rfl) | (simp only [← bB]; first | rfl | (simp [errW_none, errW_some] <;> rfl)) | (simp [*, errW_none, errW_some] <;> rfl), Kd.V_mono (Kd.Q_V (by (with_reducible repeat (first | apply Kd.Q_alloc | apply Kd.Q_drewN | apply Kd.Q_drew)); exact Kd.Q_mono (Kd.Q_far (Kd.Q_far (Kd.Q_types cV.out aH.out (by decide)) (fun _ hk => hk.2) _) (fun _ hk => hk.2) _) (fun _ hk => hk.1))) (fun k_ hk => by first | exact ⟨(.inr (hk.1)), hk.2⟩ | exact (.inr (hk))), by exact hSet_ HB⟩
      ·rw [if_neg c26] at H; exact absurd H (by simp)
     ·rw [if_neg c25] at H; exact absurd H (by simp)
    ·rw [if_neg c23] at H; have cR : (aG == (-1)) = false := beq_eq_false_iff_ne.mpr c23; have cQ : (aG != (-1)) = true := bne_iff_ne.mpr c23; obtain ⟨bR, bA⟩ : ∃ j_ : Int, (mx 1 a2) = j_ := ⟨_, rfl⟩
     replace H : ((ratio_Clamp.f (wrap64 (a1 - aG)) 1 (bR)).bind fun aV => (if aE.length < 17592186044416 then ((some (aE ++ [aV] : List Int)).bind fun aD => (if 0 ≤ (mx 0 (wrap64 ((aD.length : Int) - 16))) then (if (mx 0 (wrap64 ((aD.length : Int) - 16))) ≤ (aD.length : Int) then (some (a1, (aD.drop ((mx 0 (wrap64 ((aD.length : Int) - 16))) : Int).toNat), 0)) else (none)) else (none))) else (none))) = some (r1, r2, r3) := by first | (rw [bA] at H; exact H) | (simp only [bA] at H ⊢; exact H)
     (try rw [bA] at A22); have hji34_ : (if 1 < a2 then a2 else 1) = bR := bA; replace H := ob_ H; obtain ⟨aV, cW, H⟩ := H; replace H : (if aE.length < 17592186044416 then ((some (aE ++ [aV] : List Int)).bind fun aD => (if 0 ≤ (mx 0 (wrap64 ((aD.length : Int) - 16))) then (if (mx 0 (wrap64 ((aD.length : Int) - 16))) ≤ (aD.length : Int) then (some (a1, (aD.drop ((mx 0 (wrap64 ((aD.length : Int) - 16))) : Int).toNat), 0)) else (none)) else (none))) else (none)) = some (r1, r2, r3) := H; have A35 := Zq_.mk cW; clear cW
     by_cases c36 : aE.length < 17592186044416
     ·rw [if_pos c36] at H; have cT := Zq_.mk c36; clear c36; obtain ⟨aD, bK⟩ : ∃ y_ : List Int, y_ = (aE ++ [aV]) := ⟨_, rfl⟩
      replace H : (if 0 ≤ (mx 0 (wrap64 ((aD.length : Int) - 16))) then (if (mx 0 (wrap64 ((aD.length : Int) - 16))) ≤ (aD.length : Int) then (some (a1, (aD.drop ((mx 0 (wrap64 ((aD.length : Int) - 16))) : Int).toNat), 0)) else (none)) else (none)) = some (r1, r2, r3) := hY_ bK H
      have cS := Zq_.mk bK; clear bK; obtain ⟨aQ, aZ⟩ : ∃ j_ : Int, (mx 0 (wrap64 ((aD.length : Int) - 16))) = j_ := ⟨_, rfl⟩
      replace H : (if 0 ≤ (aQ) then (if (aQ) ≤ (aD.length : Int) then (some (a1, (aD.drop ((aQ) : Int).toNat), 0)) else (none)) else (none)) = some (r1, r2, r3) := by first | (rw [aZ] at H; exact H) | (simp only [aZ] at H ⊢; exact H)
      (try rw [aZ] at A22); (try rw [aZ] at A35); (try (have hji37l : 0 ≤ aQ := by (rw [← aZ]; unfold mx; (repeat' split) <;> omega))); (try (have hji37m : 0 ≤ aQ := by omega)); have hji37_ : (if 0 < (wrap64 ((aD.length : Int) - 16)) then (wrap64 ((aD.length : Int) - 16)) else 0) = aQ := aZ
      by_cases c38 : 0 ≤ (aQ)
      ·rw [if_pos c38] at H; have c38b0 := eq_true c38; have c38b1 : decide (0 ≤ (aQ)) = true := decide_eq_true c38; clear c38
       by_cases c39 : (aQ) ≤ (aD.length : Int)
       ·rw [if_pos c39] at H; have c39b0 := eq_true c39; have c39b1 : decide ((aQ) ≤ (aD.length : Int)) = true := decide_eq_true c39; clear c39; obtain ⟨bE, bJ⟩ : ∃ y_ : List Int, y_ = (aD.drop ((aQ) : Int).toNat) := ⟨_, rfl⟩
        replace H : (some (a1, bE, 0)) = some (r1, r2, r3) := hY_ bJ H
        have cK := Zq_.mk bJ; clear bJ; simp only [Option.some.injEq, Prod.mk.injEq] at H; obtain ⟨rfl, rfl, rfl⟩ := H; have hnb40 := aM.out; have hnc40 := aK.out; obtain ⟨hcz41_0, hcz41_1⟩ := c2_ aC; obtain ⟨hfz41_0, hfz41_1⟩ := f2_ aC
        go_wp2_with (first | ((with_reducible refine qh_ (f := 18) rfl ?_); refine goesL_ (some 26) rfl rfl Try.func18 (by kernel_rfl) rfl #[.slice aY aI.length aX] rfl aR_ ?_; (with_reducible refine (slices_Clone_int_int.calls _ _ aI aE _ ?side1 ?side2 A22.out).mono ?_); (case side1 => exact cX_ ((Kd.V_reads' aA.out).2.2)); (case side2 => exact (Kd.V_reads' aA.out).2.1); rintro e w42 ⟨v105, rfl, ho0, hb⟩; refine ⟨_, rfl, ?_⟩; replace aA := Zq_.mk (Kd.V_elder' (vX_ aA) (Kd.R_base ho0) hb); have aJ := Zq_.mk (Kd.R_lower (Kd.R_newM (M := fun k_ => (w.heap.size ≤ k_)) ho0 (qc_ (by exact hSet_ HB)) (fun k_ h_ => h_)) (qc_ (by exact hSet_ HB))); replace aC := kB_ aC hb; replace aH := kB_ aH hb; replace HB := sB_ HB hb; (try clear hb); (try clear ho0); obtain ⟨hcz43_0, hcz43_1⟩ := c2_ aC; obtain ⟨hfz43_0, hfz43_1⟩ := f2_ aC) | ((with_reducible refine qh_ (f := 19) rfl ?_); refine goesL_ (some 37) rfl rfl Try.func19 (by kernel_rfl) rfl #[.int .i64 (wrap64 (a1 - aG)), .int .i64 1, .int .i64 bR] rfl (by (try simp only [List.map_toArray, List.map_cons, List.map_nil]); first | done | (simp only [bA]; rfl) | rfl | (simp only [List.length_drop, List.length_take]; rfl)) ?_; (with_reducible refine (ratio_Clamp.calls (wrap64 (a1 - aG)) 1 bR aV _ A35.out).mono ?_); rintro e w' ⟨rfl, ⟨nd, rfl⟩⟩; refine ⟨_, rfl, ?_⟩; (try (rw [drewN_self w42]; generalize hq_ : World.drewN w42 _ = w42; have n0_ : Zq_ (Kd.R (Kd.int .i64) 3 w42 w.heap.size (fun k_ => (w.heap.size ≤ k_)) v105 aE) := ⟨by rw [← hq_]; exact (by (with_reducible repeat (first | apply Kd.R_alloc | apply Kd.R_drewN | apply Kd.R_drew)); first | exact Kd.R_mono aJ.out (fun _ hk => hk.1) | exact aJ.out)⟩; have n1_ : Zq_ (Kd.V (Kd.int .i64) 3 w42 w.heap.size (fun k_ => (aW k_ ∨ w.heap.size ≤ k_) ∧ some k_ ≠ (v105 : Value).ownBlock ∧ k_ ≠ aU ∧ k_ ≠ aN) (.slice aY aI.length aX) aI) := ⟨by rw [← hq_]; exact (by refine vM_ ?_; exact Kd.V_mono aA.out (fun _ hk => ⟨hk.1.1, ⟨hk.2, ⟨hk.1.2.1, hk.1.2.2⟩⟩⟩))⟩; have n2_ : Zq_ (w42.heap[aU]? = some (.cells #[.int .i64 aG, .slice aY aI.length aX] 27 (0, 0))) := ⟨by rw [← hq_]; exact (by exact bK_ aC)⟩; have n3_ : Zq_ (w42.heap[aN]? = some (.cells #[.int .i64 0, .slice none 0 0] 27 (0, 0))) := ⟨by rw [← hq_]; exact (by exact bK_ aH)⟩; have n4_ : Zq_ (Below w.heap.size w w42) := ⟨by rw [← hq_]; exact (by exact hSet_ HB)⟩; clear aJ aA aC aH HB hq_; have aJ := n0_; have aA := n1_; have aC := n2_; have aH := n3_; have HB := n4_; clear n0_ n1_ n2_ n3_ n4_))) | ((with_reducible refine gate_builtin (b := .append) (xs := #[.tmp 30, .tmp 38]) rfl ?_); at_builtin; refine Kd.R_append (Kd.int .i64) (w0 := w) w.heap.size rfl (.tmp 30) (.tmp 38) 25 3 (.int .i64 0) 8 rfl Try.underlying25 info3 rfl (by decide) (by omega) v105 aE aV [.int .i64 aV] (fun k_ => (w.heap.size ≤ k_)) (fun _ => False) rfl rfl ?aP (fun _ hk => hk.elim) ?aF ?aO ?aB ?aS ?aL ?_; (case aP => exact rfl); (case aB => exact (by exact hSet_ HB)); (case aF => exact (fun k_ hk => (Nat.le_trans (qc_ (by exact hSet_ HB)) hk))); (case aO => exact (by (with_reducible repeat (first | apply Kd.R_alloc | apply Kd.R_drewN | apply Kd.R_drew)); first | exact Kd.R_mono aJ.out (fun _ hk => hk.1) | exact aJ.out)); (case aS => exact (qc_ (by exact hSet_ HB))); (case aL => have := cT.out; omega); intro v112 w44 ho hb hg hat; rw [← cS.out] at ho; replace aA := Zq_.mk (Kd.V_afterv (ok := (fun k_ => (aW k_ ∨ w.heap.size ≤ k_) ∧ k_ ≠ aU ∧ k_ ≠ aN)) (by (with_reducible repeat (first | apply Kd.V_alloc | apply Kd.V_drewN | apply Kd.V_drew)); first | exact aA.out | exact Kd.V_mono aA.out (fun _ hk => ⟨⟨hk.1, hk.2.2⟩, hk.2.1⟩)) hg hat); replace aC := Zq_.mk (blk_grown (g := aU) (o := .cells #[.int .i64 aG, .slice aY aI.length aX] 27 (0, 0)) (by exact bK_ aC) hg (Kd.R_ne aJ.out aC.out (by decide))); replace aH := Zq_.mk (blk_grown (g := aN) (o := .cells #[.int .i64 0, .slice none 0 0] 27 (0, 0)) (by exact bK_ aH) hg (Kd.R_ne aJ.out aH.out (by decide))); replace HB := Zq_.mk (hb); have bO := Zq_.mk (ho); clear aJ; clear ho hb hg hat; obtain ⟨bP, cF, eo45⟩ := Kd.R_slice bO.out; subst eo45; have q46 : ((aQ) : Int) ≤ ((aD.length : Int) : Int) := dA_; obtain ⟨i046, cH, _, hsz46, _⟩ := info_parts info3; have hcut46 := cut_from (P := Try.prog) 25 3 .i64 Try.underlying25 cH 1 hsz46 bP aD.length cF (aQ) (dA_) q46; have bM := Kd.Q_drop (k := ((aQ) : Int).toNat) (Kd.Q_of_R bO.out) (by omega); obtain ⟨A46, hA46⟩ : ∃ A1, A1 = (if cF = ((aQ) : Int).toNat then bP else (bP : Option Addr).map (·.add (((aQ) : Int).toNat * 1))) := ⟨_, rfl⟩; obtain ⟨c46, cO⟩ : ∃ c1, c1 = cF - ((aQ) : Int).toNat := ⟨_, rfl⟩; have cM : bE.length = aD.length - ((aQ) : Int).toNat := (by rw [cK.out, List.length_drop]); rw [← cK.out] at bM; rw [← cM, ← hA46, ← cO] at hcut46; replace bM : Kd.Q (Kd.int .i64) 3 w44 w.heap.size (fun k_ => (w.heap.size ≤ k_)) (.slice A46 bE.length c46) bE := (by rw [hA46, cO, cM]; exact bM); have HE46 : Zq_ ((Value.slice A46 bE.length c46).ownBlock = (.slice bP aD.length cF : Value).ownBlock) := ⟨by rw [hA46]; split <;> (cases (bP : Option Addr) <;> first | rfl | (simp only [Option.map_some, Value.ownBlock, Addr.add]; split <;> rfl))⟩; clear cM cH hsz46 bO hA46 cO; have cU := Zq_.mk bM; clear bM; replace q46 := eq_true q46; have n_ := Zq_.mk (Kd.V_mono (ok' := fun k_ => ((((aW k_ ∨ w.heap.size ≤ k_)) ∧ (k_ ≠ aU ∧ k_ ≠ aN)) ∧ some k_ ≠ (.slice A46 bE.length c46 : Value).ownBlock)) aA.out (fun k_ hk => ⟨⟨hk.1.1, ⟨hk.1.2.1, hk.1.2.2⟩⟩, (by rw [HE46.out]; exact hk.2)⟩)); clear aA; have aA := n_; clear n_; obtain ⟨hcz47_0, hcz47_1⟩ := c2_ aH; obtain ⟨hfz47_0, hfz47_1⟩ := f2_ aH))
        refine bodyPost_ret (results_ct rfl _ _ aN 27 #[.int .i64 a1, .slice A46 bE.length c46] (0, 0) _ rfl (by exact bW2_ (bK_ aH)) Try.underlying27 rfl (by kernel_rfl)) rfl ?_; exact ⟨_, by first | rfl | (simp [errW_none, errW_some] <;> rfl) | (simp only [← bA, ← aZ]; first | rfl | (simp [errW_none, errW_some] <;> rfl)) | (simp [*, errW_none, errW_some] <;> rfl), Kd.V_mono (Kd.Q_V (by (with_reducible repeat (first | apply Kd.Q_alloc | apply Kd.Q_drewN | apply Kd.Q_drew)); exact Kd.Q_mono (Kd.Q_far (Kd.Q_far (Kd.Q_types cU.out aH.out (by decide)) (fun _ hk => hk.2) _) (fun _ hk => hk.2) _) (fun _ hk => hk.1))) (fun k_ hk => by first | exact ⟨(.inr (hk.1)), hk.2⟩ | exact (.inr (hk))), by exact hSet_ HB⟩
       ·rw [if_neg c39] at H; exact absurd H (by simp)
      ·rw [if_neg c38] at H; exact absurd H (by simp)
     ·rw [if_neg c36] at H; exact absurd H (by simp)
def window_Mean.f (k : Nat) (aG : Int) (aA : List Int) (a1 : Int) : Option (Int) := if (aA.length : Int) > 0 then ((ratio_Mean.f k aA).bind fun aB => (some (mx 1 aB))) else (some (mx 1 a1))
theorem window_Mean.mono : ∀ a0 a1 a2 k, LeO (window_Mean.f k a0 a1 a2) (window_Mean.f (k + 1) a0 a1 a2) := by
 intro a0 a1 a2 k
 unfold window_Mean.f
 with_reducible repeat' first | exact ratio_Mean.mono _ _ | exact LeO.refl _ | exact LeO.none _ | refine LeO.ite ?_ ?_ | refine LeO.bind ?_ (fun _ => ?_)
theorem window_Mean.calls (k : Nat) (aG : Int) (aH : Option Addr) (aF : Nat) (aA : List Int) (a1 : Int) (r : Int) (w : World) (aI : Kd.C (Kd.int .i64) w aH aA.length aA) (aJ : aA.length ≤ aF) (h : window_Mean.f k aG aA a1 = some r) :
  Calls Try.prog 11 #[.agg #[.int .i64 aG, .slice aH aA.length aF], .int .i64 a1] w fun e w' => e = .returned (.int .i64 r) ∧ Below w.heap.size w w' := by
 have hu27 := Try.underlying27; have aL := Zq_.mk aI; have aM := Zq_.mk aJ; clear aI aJ; have HB := Zq_.mk (Below.refl w.heap.size w); have H : (if (aA.length : Int) > 0 then ((ratio_Mean.f k aA).bind fun aB => (some (mx 1 aB))) else (some (mx 1 a1))) = some r := h; clear h
 by_cases c3 : (aA.length : Int) > 0
 ·rw [if_pos c3] at H; have c3b0 : decide (0 < (aA.length : Int)) = true := decide_eq_true c3; have c3b1 : decide (0 < aA.length) = true := decide_eq_true (by omega); clear c3; replace H := ob_ H; obtain ⟨aB, A40, H⟩ := H; (try dsimp only at H); have A4 := Zq_.mk A40; clear A40; obtain ⟨ji5, aD⟩ : ∃ j_ : Int, (mx 1 aB) = j_ := ⟨_, rfl⟩
  replace H : (some ji5) = some r := by first | (rw [aD] at H; exact H) | (simp only [aD] at H ⊢; exact H)
  (try rw [aD] at A4); (try (have hji5l : 1 ≤ ji5 := by (rw [← aD]; unfold mx; (repeat' split) <;> omega))); (try (have hji5m : 0 ≤ ji5 := by omega)); have hji5_ : (if 1 < aB then aB else 1) = ji5 := aD; obtain rfl := Option.some.inj H
  go_enter Try.func11, Try.ntmps11
  go_wp2_with (first | ((with_reducible refine qd_ (N := 2) rfl ?_); refine bE_ 2 #[.int .i64 aG, .slice aH aA.length aF] 27 ?_; intro aK hg w6 hbox hb; have aC := Zq_.mk (hbox); have aN := gW_ (w := w) hg (hB_ HB); have aO := gW_ (w := w) hg (hB_ HB); replace HB := sB_ HB hb; clear hb hbox hg; obtain ⟨hcz7_0, hcz7_1⟩ := c2_ aC; obtain ⟨hfz7_0, hfz7_1⟩ := f2_ aC) | ((with_reducible refine qh_ (f := 22) rfl ?_); refine goesL_ (some 13) rfl rfl Try.func22 (by kernel_rfl) rfl #[.slice aH aA.length aF] rfl aR_ ?_; (with_reducible refine (ratio_Mean.calls k _ _ aA aB _ ?side1 ?side2 A4.out).mono ?_); (case side1 => exact cX_ (Kd.C_below aL.out HB.out)); (case side2 => exact aM.out); rintro e w' ⟨rfl, ⟨nd, rfl⟩⟩; refine ⟨_, rfl, ?_⟩))
  go_ret
  exact ⟨by first | rfl | (simp [errW_none, errW_some] <;> rfl) | (simp only [← aD]; first | rfl | (simp [errW_none, errW_some] <;> rfl)) | (simp [*, errW_none, errW_some] <;> rfl), by exact hSet_ HB⟩
 ·rw [if_neg c3] at H; have c3b0 : decide (0 < (aA.length : Int)) = false := decide_eq_false c3; have c3b1 : decide (0 < aA.length) = false := decide_eq_false (by omega); clear c3; obtain ⟨ji8, aE⟩ : ∃ j_ : Int, (mx 1 a1) = j_ := ⟨_, rfl⟩
  replace H : (some ji8) = some r := by first | (rw [aE] at H; exact H) | (simp only [aE] at H ⊢; exact H)
  (try (have hji8l : 1 ≤ ji8 := by (rw [← aE]; unfold mx; (repeat' split) <;> omega))); (try (have hji8m : 0 ≤ ji8 := by omega)); have hji8_ : (if 1 < a1 then a1 else 1) = ji8 := aE; obtain rfl := Option.some.inj H
  go_enter Try.func11, Try.ntmps11
  go_wp2_with (first | ((with_reducible refine qd_ (N := 2) rfl ?_); refine bE_ 2 #[.int .i64 aG, .slice aH aA.length aF] 27 ?_; intro aK hg w9 hbox hb; have aC := Zq_.mk (hbox); have aN := gW_ (w := w) hg (hB_ HB); have aO := gW_ (w := w) hg (hB_ HB); replace HB := sB_ HB hb; clear hb hbox hg; obtain ⟨hcz10_0, hcz10_1⟩ := c2_ aC; obtain ⟨hfz10_0, hfz10_1⟩ := f2_ aC))
  go_ret
  exact ⟨by first | rfl | (simp [errW_none, errW_some] <;> rfl) | (simp only [← aE]; first | rfl | (simp [errW_none, errW_some] <;> rfl)) | (simp [*, errW_none, errW_some] <;> rfl), by exact hSet_ HB⟩
def law10_alive.f (k : Nat)  : Option (Bool) := (window_New.f).bind fun aX => ((window_Arrive.f k aX.1 aX.2 5 10).bind fun aW => ((window_Arrive.f k aW.1 aW.2.1 8 10).bind fun aV => ((window_Arrive.f k aV.1 aV.2.1 20 10).bind fun aF => ((window_Arrive.f k aF.1 aF.2.1 19 10).bind fun bJ => (if aF.2.2 = 0 then (if bJ.2.2 = 1 then (if (aF.2.1.length : Int) = 2 then (if 0 < (aF.2.1.length : Int) then (if (rd aF.2.1 0) = 3 then (if 1 < (aF.2.1.length : Int) then (if (rd aF.2.1 1) = 10 then ((window_Mean.f k aF.1 aF.2.1 1).bind fun aS => (if aS = 6 then ((window_New.f).bind fun aU => ((window_Mean.f k aU.1 aU.2 4).bind fun bH => (some (bH == 4)))) else (some false))) else (some false)) else (none)) else (some false)) else (none)) else (some false)) else (some false)) else (some false))))))
theorem law10_alive.mono : ∀ k, LeO (law10_alive.f k ) (law10_alive.f (k + 1) ) := by
 intro  k
 unfold law10_alive.f
 with_reducible repeat' first | exact window_Arrive.mono _ _ _ _ _ | exact window_Mean.mono _ _ _ _ | exact LeO.refl _ | exact LeO.none _ | refine LeO.ite ?_ ?_ | refine LeO.bind ?_ (fun _ => ?_)
theorem law10_alive.yes (k : Nat) (r : Bool) (h : law10_alive.f k = some r) : r = true := by
 have h60 : law10_alive.f 60 = some true := by decide +kernel
 rcases Nat.le_total k 60 with hk | hk
 ·have := at_rounds (fun k => law10_alive.mono k) hk h; rw [h60] at this; exact (Option.some.inj this).symm
 ·have := at_rounds (fun k => law10_alive.mono k) hk h60; rw [h] at this; exact Option.some.inj this
theorem law10_alive.calls (k : Nat)  (r : Bool) (w : World) (h : law10_alive.f k  = some r) :
  Calls Try.prog 7 #[] w fun e w' => e = .returned (.bool r) ∧ Below w.heap.size w w' := by
 have HRT := Zq_.mk (law10_alive.yes k r h); have hu27 := Try.underlying27; have HB := Zq_.mk (Below.refl w.heap.size w); have H : ((window_New.f).bind fun aX => ((window_Arrive.f k aX.1 aX.2 5 10).bind fun aW => ((window_Arrive.f k aW.1 aW.2.1 8 10).bind fun aV => ((window_Arrive.f k aV.1 aV.2.1 20 10).bind fun aF => ((window_Arrive.f k aF.1 aF.2.1 19 10).bind fun bJ => (if aF.2.2 = 0 then (if bJ.2.2 = 1 then (if (aF.2.1.length : Int) = 2 then (if 0 < (aF.2.1.length : Int) then (if (rd aF.2.1 0) = 3 then (if 1 < (aF.2.1.length : Int) then (if (rd aF.2.1 1) = 10 then ((window_Mean.f k aF.1 aF.2.1 1).bind fun aS => (if aS = 6 then ((window_New.f).bind fun aU => ((window_Mean.f k aU.1 aU.2 4).bind fun bH => (some (bH == 4)))) else (some false))) else (some false)) else (none)) else (some false)) else (none)) else (some false)) else (some false)) else (some false))))))) = some r := h; clear h; replace H := ob_ H; obtain ⟨⟨bQ, aQ⟩, A10, H⟩ := H; (try dsimp only at H); have A1 := Zq_.mk A10; clear A10; replace H := ob_ H; obtain ⟨⟨bD, aO, t109⟩, A20, H⟩ := H; (try dsimp only at H); have A2 := Zq_.mk A20; clear A20; replace H := ob_ H; obtain ⟨⟨bC, aP, t115⟩, A30, H⟩ := H; (try dsimp only at H); have A3 := Zq_.mk A30; clear A30; replace H := ob_ H; obtain ⟨⟨aT, aH, bP⟩, A40, H⟩ := H; (try dsimp only at H); have A4 := Zq_.mk A40; clear A40; replace H := ob_ H; obtain ⟨⟨bO, bN, bM⟩, A50, H⟩ := H; (try dsimp only at H); have A5 := Zq_.mk A50; clear A50
 by_cases c6 : bP = 0
 ·rw [if_pos c6] at H; have c6b0 : (bP == 0) = true := beq_iff_eq.mpr c6; have c6b1 : (bP != 0) = false := bne_eq_false_iff_eq.mpr c6; clear c6
  by_cases c7 : bM = 1
  ·rw [if_pos c7] at H; have c7b0 : (bM == 1) = true := beq_iff_eq.mpr c7; have c7b1 : (bM != 1) = false := bne_eq_false_iff_eq.mpr c7; clear c7
   by_cases c8 : (aH.length : Int) = 2
   ·rw [if_pos c8] at H; have c8b0 : ((aH.length : Int) == 2) = true := beq_iff_eq.mpr c8; have c8b1 : ((aH.length : Int) != 2) = false := bne_eq_false_iff_eq.mpr c8; clear c8
    by_cases c9 : 0 < (aH.length : Int)
    ·rw [if_pos c9] at H; have c9b0 : decide (0 < (aH.length : Int)) = true := decide_eq_true c9; have c9b1 : decide (0 < aH.length) = true := decide_eq_true (by omega); clear c9
     by_cases c10 : (rd aH 0) = 3
     ·rw [if_pos c10] at H; have c10b0 : ((rd aH 0) == 3) = true := beq_iff_eq.mpr c10; have c10b1 : ((rd aH 0) != 3) = false := bne_eq_false_iff_eq.mpr c10; clear c10
      by_cases c11 : 1 < (aH.length : Int)
      ·rw [if_pos c11] at H; have c11b0 : decide (1 < (aH.length : Int)) = true := decide_eq_true c11; have c11b1 : decide (1 < aH.length) = true := decide_eq_true (by omega); clear c11
       by_cases c12 : (rd aH 1) = 10
       ·rw [if_pos c12] at H; have c12b0 : ((rd aH 1) == 10) = true := beq_iff_eq.mpr c12; have c12b1 : ((rd aH 1) != 10) = false := bne_eq_false_iff_eq.mpr c12; clear c12; replace H := ob_ H; obtain ⟨aS, cC, H⟩ := H; (try dsimp only at H); have A13 := Zq_.mk cC; clear cC
        by_cases c14 : aS = 6
        ·rw [if_pos c14] at H; have c14b0 : (aS == 6) = true := beq_iff_eq.mpr c14; have c14b1 : (aS != 6) = false := bne_eq_false_iff_eq.mpr c14; clear c14; replace H := ob_ H; obtain ⟨⟨bY, bX⟩, cB, H⟩ := H; (try dsimp only at H); have A15 := Zq_.mk cB; clear cB; replace H := ob_ H; obtain ⟨bH, cA, H⟩ := H; (try dsimp only at H); have A16 := Zq_.mk cA; clear cA; obtain rfl := Option.some.inj H
         go_enter Try.func7, Try.ntmps7
         go_wp2_with (first | ((with_reducible refine qh_ (f := 8) rfl ?_); refine goesL_ (some 7) rfl rfl Try.func8 (by kernel_rfl) rfl #[] rfl aR_ ?_; (with_reducible refine (window_New.calls  bQ aQ _ A1.out).mono ?_); rintro e w17 ⟨v103, rfl, ho0, hb⟩; refine ⟨_, rfl, ?_⟩; have aC := Zq_.mk (Kd.R_lower ho0 (qc_ (hB_ HB))); replace HB := sB_ HB hb; (try clear hb); (try clear ho0); obtain ⟨bL, bI, eo18⟩ := Kd.R_slice aC.out; subst eo18) | ((with_reducible refine qh_ (f := 9) rfl ?_); refine goesL_ (some 8) rfl rfl Try.func9 (by kernel_rfl) rfl #[.agg #[.int .i64 bQ, .slice bL aQ.length bI], .int .i64 5, .int .i64 10] rfl aR_ ?_; (with_reducible refine (window_Arrive.calls k bQ (fun k_ => some k_ = (.slice bL aQ.length bI : Value).ownBlock) _ _ aQ 5 10 bD aO t109 _ ?side1 A2.out).mono ?_); (case side1 => exact Kd.R_V (Kd.R_tight rfl (aC.out))); rintro e w19 ⟨v107, rfl, ho0, hb⟩; refine ⟨_, rfl, ?_⟩; replace aC := vV_ Kd.R_below aC hb; have aD := Zq_.mk (Kd.V_lower (Kd.V_mono (ok' := fun k_ => True) ho0 (fun k_ hk_ => trivial)) (qc_ (hB_ HB))); replace HB := sB_ HB hb; (try clear hb); (try clear ho0)) | ((with_reducible refine qd_ (N := 1) rfl ?_); (try (refine gate_guard (by rfl) ?_; dsimp only)); refine bE_ 1 #[.int .i64 0, .slice none 0 0] 27 ?_; intro aB hg w20 hbox hb; replace aC := vV_ Kd.R_below aC hb; replace aD := Zq_.mk (Kd.ql_ (Kd.V_elderB (vX_ aD) aB (Nat.le_of_eq hg.symm)) hb); have aA := Zq_.mk (hbox); have GW110 := gW_ (w := w) hg (hB_ HB); have GE110 := gW_ (w := w) hg (hB_ HB); replace HB := sB_ HB hb; clear hb hbox hg; obtain ⟨hcz21_0, hcz21_1⟩ := c2_ aA; obtain ⟨hfz21_0, hfz21_1⟩ := f2_ aA; obtain ⟨bB, bA, eo22⟩ := Kd.V_slice aD.out; subst eo22) | ((with_reducible refine gate_store (t := 27) (p := 1) rfl ?_); refine store_event (t := 27) (p := 1) (v := ?vo_w23) (w1 := ((w20.setCell ⟨aB, 0, none⟩ (.int .i64 bD)).setCell ⟨aB, 1, none⟩ (.slice bB aO.length bA))) ?hg ?ho ?hn ?hr ?_; (case ho => rfl); (case hg => rfl); (case hn => rfl); (case hr => first | (go_simp; done) | (go_simp; rfl)); intro w23 hw; have n0_ : Zq_ (Kd.R (Kd.int .i64) 3 w23 w.heap.size (fun _ => True) (.slice bL aQ.length bI) aQ) := ⟨(by rw [hw]; exact (by (with_reducible repeat (first | apply Kd.R_alloc | apply Kd.R_drewN | apply Kd.R_drew)); exact Kd.R_mono (Kd.R_far (Kd.R_far (Kd.R_types aC.out aA.out (by decide)) (fun _ hk => hk.2) _) (fun _ hk => hk.2) _) (fun _ hk => trivial)))⟩; have n1_ : Zq_ (Kd.V (Kd.int .i64) 3 w23 w.heap.size (fun k_ => k_ ≠ aB) (.slice bB aO.length bA) aO) := ⟨(by rw [hw]; exact (by refine vM_ ?_; exact Kd.V_mono (Kd.V_far (Kd.V_far (Kd.V_mono aD.out (fun k_ hk => (⟨hk, hk.2⟩ : _ ∧ k_ ≠ aB))) (fun _ hk => hk.2) _) (fun _ hk => hk.2) _) (fun _ hk => hk.1.2)))⟩; have n2_ : Zq_ (w23.heap[aB]? = some (.cells #[.int .i64 bD, .slice bB aO.length bA] 27 (0, 0))) := ⟨(by rw [hw]; exact (by exact bW2_ (bK_ aA)))⟩; have n3_ : Zq_ (Below w.heap.size w w23) := ⟨(by rw [hw]; exact (by exact hSet_ HB))⟩; clear hw; clear aC; clear aD; clear aA; clear HB; have aC := n0_; have aD := n1_; have aA := n2_; have HB := n3_; clear n0_ n1_ n2_ n3_; obtain ⟨hcz24_0, hcz24_1⟩ := c2_ aA; obtain ⟨hfz24_0, hfz24_1⟩ := f2_ aA) | ((with_reducible refine qh_ (f := 9) rfl ?_); refine goesL_ (some 13) rfl rfl Try.func9 (by kernel_rfl) rfl #[.agg #[.int .i64 bD, .slice bB aO.length bA], .int .i64 8, .int .i64 10] rfl aR_ ?_; (with_reducible refine (window_Arrive.calls k bD (fun k_ => k_ ≠ aB) _ _ aO 8 10 bC aP t115 _ ?side1 A3.out).mono ?_); (case side1 => exact aD.out); rintro e w25 ⟨v113, rfl, ho0, hb⟩; refine ⟨_, rfl, ?_⟩; replace aC := vV_ Kd.R_below aC hb; replace aD := vV_ Kd.ql_ aD hb; have aG := Zq_.mk (Kd.V_lower (Kd.V_mono (ok' := fun k_ => k_ ≠ aB) ho0 (fun k_ hk_ => Or.elim hk_ (fun hs_ => hs_) (fun hn_ => (Kd.freshB (g := aB) (o := .cells #[.int .i64 bD, .slice bB aO.length bA] 27 (0, 0)) (by exact bK_ aA) k_ hn_)))) (qc_ (by exact hSet_ HB))); replace aA := kB_ aA hb; replace HB := sB_ HB hb; (try clear hb); (try clear ho0); obtain ⟨hcz26_0, hcz26_1⟩ := c2_ aA; obtain ⟨hfz26_0, hfz26_1⟩ := f2_ aA; obtain ⟨bG, bE, eo27⟩ := Kd.V_slice aG.out; subst eo27) | ((with_reducible refine gate_store (t := 27) (p := 1) rfl ?_); refine store_event (t := 27) (p := 1) (v := ?vo_w28) (w1 := ((w25.setCell ⟨aB, 0, none⟩ (.int .i64 bC)).setCell ⟨aB, 1, none⟩ (.slice bG aP.length bE))) ?hg ?ho ?hn ?hr ?_; (case ho => rfl); (case hg => rfl); (case hn => rfl); (case hr => first | (go_simp; done) | (go_simp; rfl)); intro w28 hw; have n0_ : Zq_ (Kd.R (Kd.int .i64) 3 w28 w.heap.size (fun _ => True) (.slice bL aQ.length bI) aQ) := ⟨(by rw [hw]; exact (by (with_reducible repeat (first | apply Kd.R_alloc | apply Kd.R_drewN | apply Kd.R_drew)); exact Kd.R_mono (Kd.R_far (Kd.R_far (Kd.R_types aC.out aA.out (by decide)) (fun _ hk => hk.2) _) (fun _ hk => hk.2) _) (fun _ hk => trivial)))⟩; have n1_ : Zq_ (Kd.V (Kd.int .i64) 3 w28 w.heap.size (fun k_ => k_ ≠ aB) (.slice bB aO.length bA) aO) := ⟨(by rw [hw]; exact (by refine vM_ ?_; exact Kd.V_mono (Kd.V_far (Kd.V_far (Kd.V_mono aD.out (fun k_ hk => (⟨hk, hk⟩ : _ ∧ k_ ≠ aB))) (fun _ hk => hk.2) _) (fun _ hk => hk.2) _) (fun _ hk => hk.1)))⟩; have n2_ : Zq_ (Kd.V (Kd.int .i64) 3 w28 w.heap.size (fun k_ => k_ ≠ aB) (.slice bG aP.length bE) aP) := ⟨(by rw [hw]; exact (by refine vM_ ?_; exact Kd.V_mono (Kd.V_far (Kd.V_far (Kd.V_mono aG.out (fun k_ hk => (⟨hk, hk⟩ : _ ∧ k_ ≠ aB))) (fun _ hk => hk.2) _) (fun _ hk => hk.2) _) (fun _ hk => hk.1)))⟩; have n3_ : Zq_ (w28.heap[aB]? = some (.cells #[.int .i64 bC, .slice bG aP.length bE] 27 (0, 0))) := ⟨(by rw [hw]; exact (by exact bW2_ (bK_ aA)))⟩; have n4_ : Zq_ (Below w.heap.size w w28) := ⟨(by rw [hw]; exact (by exact hSet_ HB))⟩; clear hw; clear aC; clear aD; clear aG; clear aA; clear HB; have aC := n0_; have aD := n1_; have aG := n2_; have aA := n3_; have HB := n4_; clear n0_ n1_ n2_ n3_ n4_; obtain ⟨hcz29_0, hcz29_1⟩ := c2_ aA; obtain ⟨hfz29_0, hfz29_1⟩ := f2_ aA) | ((with_reducible refine qh_ (f := 9) rfl ?_); refine goesL_ (some 18) rfl rfl Try.func9 (by kernel_rfl) rfl #[.agg #[.int .i64 bC, .slice bG aP.length bE], .int .i64 20, .int .i64 10] rfl aR_ ?_; (with_reducible refine (window_Arrive.calls k bC (fun k_ => k_ ≠ aB) _ _ aP 20 10 aT aH bP _ ?side1 A4.out).mono ?_); (case side1 => exact aG.out); rintro e w30 ⟨v118, rfl, ho0, hb⟩; refine ⟨_, rfl, ?_⟩; replace aC := vV_ Kd.R_below aC hb; replace aD := vV_ Kd.ql_ aD hb; replace aG := vV_ Kd.ql_ aG hb; have aE := Zq_.mk (Kd.V_lower (Kd.V_mono (ok' := fun k_ => k_ ≠ aB) ho0 (fun k_ hk_ => Or.elim hk_ (fun hs_ => hs_) (fun hn_ => (Kd.freshB (g := aB) (o := .cells #[.int .i64 bC, .slice bG aP.length bE] 27 (0, 0)) (by exact bK_ aA) k_ hn_)))) (qc_ (by exact hSet_ HB))); replace aA := kB_ aA hb; replace HB := sB_ HB hb; (try clear hb); (try clear ho0); obtain ⟨hcz31_0, hcz31_1⟩ := c2_ aA; obtain ⟨hfz31_0, hfz31_1⟩ := f2_ aA; obtain ⟨bK, aZ, eo32⟩ := Kd.V_slice aE.out; subst eo32) | ((with_reducible refine gate_store (t := 27) (p := 1) rfl ?_); refine store_event (t := 27) (p := 1) (v := ?vo_w33) (w1 := ((w30.setCell ⟨aB, 0, none⟩ (.int .i64 aT)).setCell ⟨aB, 1, none⟩ (.slice bK aH.length aZ))) ?hg ?ho ?hn ?hr ?_; (case ho => rfl); (case hg => rfl); (case hn => rfl); (case hr => first | (go_simp; done) | (go_simp; rfl)); intro w33 hw; have n0_ : Zq_ (Kd.R (Kd.int .i64) 3 w33 w.heap.size (fun _ => True) (.slice bL aQ.length bI) aQ) := ⟨(by rw [hw]; exact (by (with_reducible repeat (first | apply Kd.R_alloc | apply Kd.R_drewN | apply Kd.R_drew)); exact Kd.R_mono (Kd.R_far (Kd.R_far (Kd.R_types aC.out aA.out (by decide)) (fun _ hk => hk.2) _) (fun _ hk => hk.2) _) (fun _ hk => trivial)))⟩; have n1_ : Zq_ (Kd.V (Kd.int .i64) 3 w33 w.heap.size (fun k_ => k_ ≠ aB) (.slice bB aO.length bA) aO) := ⟨(by rw [hw]; exact (by refine vM_ ?_; exact Kd.V_mono (Kd.V_far (Kd.V_far (Kd.V_mono aD.out (fun k_ hk => (⟨hk, hk⟩ : _ ∧ k_ ≠ aB))) (fun _ hk => hk.2) _) (fun _ hk => hk.2) _) (fun _ hk => hk.1)))⟩; have n2_ : Zq_ (Kd.V (Kd.int .i64) 3 w33 w.heap.size (fun k_ => k_ ≠ aB) (.slice bG aP.length bE) aP) := ⟨(by rw [hw]; exact (by refine vM_ ?_; exact Kd.V_mono (Kd.V_far (Kd.V_far (Kd.V_mono aG.out (fun k_ hk => (⟨hk, hk⟩ : _ ∧ k_ ≠ aB))) (fun _ hk => hk.2) _) (fun _ hk => hk.2) _) (fun _ hk => hk.1)))⟩; have n3_ : Zq_ (Kd.V (Kd.int .i64) 3 w33 w.heap.size (fun k_ => k_ ≠ aB) (.slice bK aH.length aZ) aH) := ⟨(by rw [hw]; exact (by refine vM_ ?_; exact Kd.V_mono (Kd.V_far (Kd.V_far (Kd.V_mono aE.out (fun k_ hk => (⟨hk, hk⟩ : _ ∧ k_ ≠ aB))) (fun _ hk => hk.2) _) (fun _ hk => hk.2) _) (fun _ hk => hk.1)))⟩; have n4_ : Zq_ (w33.heap[aB]? = some (.cells #[.int .i64 aT, .slice bK aH.length aZ] 27 (0, 0))) := ⟨(by rw [hw]; exact (by exact bW2_ (bK_ aA)))⟩; have n5_ : Zq_ (Below w.heap.size w w33) := ⟨(by rw [hw]; exact (by exact hSet_ HB))⟩; clear hw; clear aC; clear aD; clear aG; clear aE; clear aA; clear HB; have aC := n0_; have aD := n1_; have aG := n2_; have aE := n3_; have aA := n4_; have HB := n5_; clear n0_ n1_ n2_ n3_ n4_ n5_; obtain ⟨hcz34_0, hcz34_1⟩ := c2_ aA; obtain ⟨hfz34_0, hfz34_1⟩ := f2_ aA) | ((with_reducible refine qh_ (f := 9) rfl ?_); refine goesL_ (some 23) rfl rfl Try.func9 (by kernel_rfl) rfl #[.agg #[.int .i64 aT, .slice bK aH.length aZ], .int .i64 19, .int .i64 10] rfl aR_ ?_; (with_reducible refine (window_Arrive.calls k aT (fun k_ => k_ ≠ aB) _ _ aH 19 10 bO bN bM _ ?side1 A5.out).mono ?_); (case side1 => exact aE.out); rintro e w35 ⟨v123, rfl, ho0, hb⟩; refine ⟨_, rfl, ?_⟩; replace aC := vV_ Kd.R_below aC hb; replace aD := vV_ Kd.ql_ aD hb; replace aG := vV_ Kd.ql_ aG hb; replace aE := vV_ Kd.ql_ aE hb; have aL := Zq_.mk (Kd.V_lower (Kd.V_mono (ok' := fun k_ => k_ ≠ aB) ho0 (fun k_ hk_ => Or.elim hk_ (fun hs_ => hs_) (fun hn_ => (Kd.freshB (g := aB) (o := .cells #[.int .i64 aT, .slice bK aH.length aZ] 27 (0, 0)) (by exact bK_ aA) k_ hn_)))) (qc_ (by exact hSet_ HB))); replace aA := kB_ aA hb; replace HB := sB_ HB hb; (try clear hb); (try clear ho0)) | ((with_reducible refine qd_ (N := 4) rfl ?_); (try (refine gate_guard (by rfl) ?_; dsimp only)); refine bE_ 4 #[.int .i64 0, .slice none 0 0] 27 ?_; intro aI hg w36 hbox hb; replace aC := vV_ Kd.R_below aC hb; replace aD := Zq_.mk (Kd.ql_ (Kd.V_elderB (vX_ aD) aI (Nat.le_of_eq hg.symm)) hb); replace aG := Zq_.mk (Kd.ql_ (Kd.V_elderB (vX_ aG) aI (Nat.le_of_eq hg.symm)) hb); replace aE := Zq_.mk (Kd.ql_ (Kd.V_elderB (vX_ aE) aI (Nat.le_of_eq hg.symm)) hb); replace aL := Zq_.mk (Kd.ql_ (Kd.V_elderB (vX_ aL) aI (Nat.le_of_eq hg.symm)) hb); have aM := Zq_.mk (hbox); have GW126 := gW_ (w := w) hg (by exact hSet_ HB); have GE126 := gW_ (w := w) hg (by exact hSet_ HB); replace HB := sB_ HB hb; have aN := nL_ aA hg; have bF := nG_ aA hg; replace aA := kB_ aA hb; clear hb hbox hg; have hnb37 := bF.out; have hnc37 := aN.out; obtain ⟨hcz38_0, hcz38_1⟩ := c2_ aM; obtain ⟨hfz38_0, hfz38_1⟩ := f2_ aM; obtain ⟨bW, bV, eo39⟩ := Kd.V_slice aL.out; subst eo39; obtain ⟨hcz40_0, hcz40_1⟩ := c2_ aA; obtain ⟨hfz40_0, hfz40_1⟩ := f2_ aA; have bU : 0 ≤ (0 : Int) := (by omega); have bS : 0 < (aH.length : Int) := dA_; obtain ⟨aR, e127, aK⟩ := Kd.at_int (Kd.V_reads' aE.out).2.2 0 bU bS; cases e127; have qi127 : (0 < aH.length) = True := eq_true (by omega); (try rw [show ((0 : Int)).toNat = 0 from rfl] at aK); (try rw [Addr.add_zero'] at aK); have hn127_0 : aR.block ≠ aI := (by have h_ := Kd.V_off aE.out (by omega) (by decide); first | exact h_.2 | exact h_.1.2 | exact h_.1.1.2 | exact h_.2.1 | exact h_.2.2 | exact h_.1.2.1 | exact h_.1.2.2 | exact h_.1.1.1.2); have hn127_1 : aR.block ≠ aI := (by have h_ := Kd.V_off aE.out (by omega) (by decide); first | exact h_.2 | exact h_.1.2 | exact h_.1.1.2 | exact h_.2.1 | exact h_.2.2 | exact h_.1.2.1 | exact h_.1.2.2 | exact h_.1.1.1.2); replace aK := (cell_far (p := ⟨aI, 0, none⟩) (by first | (rw [add_block]; exact hn127_0) | (show (Addr.add _ _).block ≠ _; rw [add_block]; exact hn127_0) | exact hn127_0) (.int .i64 bO)).trans aK; replace aK := (cell_far (p := ⟨aI, 1, none⟩) (by first | (rw [add_block]; exact hn127_1) | (show (Addr.add _ _).block ≠ _; rw [add_block]; exact hn127_1) | exact hn127_1) (.slice bW bN.length bV)).trans aK; clear hn127_0; clear hn127_1; replace bU := eq_true bU; replace bS := eq_true bS; have bT : 0 ≤ (1 : Int) := (by omega); have bR : 1 < (aH.length : Int) := dA_; obtain ⟨bZ, e128, aJ⟩ := Kd.at_int (Kd.V_reads' aE.out).2.2 1 bT bR; obtain rfl : aR = bZ := (by injection e128); (try simp only [show (1 : Int).toNat = 1 from rfl, Nat.reduceMul, Nat.reduceEqDiff, Go.Addr.add, ↓reduceIte] at aJ); have qi128 : (1 < aH.length) = True := eq_true (by omega); (try rw [show ((1 : Int)).toNat = 1 from rfl] at aJ); have hn128_0 : aR.block ≠ aI := (by have h_ := Kd.V_off aE.out (by omega) (by decide); first | exact h_.2 | exact h_.1.2 | exact h_.1.1.2 | exact h_.2.1 | exact h_.2.2 | exact h_.1.2.1 | exact h_.1.2.2 | exact h_.1.1.1.2); have hn128_1 : aR.block ≠ aI := (by have h_ := Kd.V_off aE.out (by omega) (by decide); first | exact h_.2 | exact h_.1.2 | exact h_.1.1.2 | exact h_.2.1 | exact h_.2.2 | exact h_.1.2.1 | exact h_.1.2.2 | exact h_.1.1.1.2); replace aJ := (cell_far (p := ⟨aI, 0, none⟩) (by first | (rw [add_block]; exact hn128_0) | (show (Addr.add _ _).block ≠ _; rw [add_block]; exact hn128_0) | exact hn128_0) (.int .i64 bO)).trans aJ; replace aJ := (cell_far (p := ⟨aI, 1, none⟩) (by first | (rw [add_block]; exact hn128_1) | (show (Addr.add _ _).block ≠ _; rw [add_block]; exact hn128_1) | exact hn128_1) (.slice bW bN.length bV)).trans aJ; clear hn128_0; clear hn128_1; replace bT := eq_true bT; replace bR := eq_true bR) | (go_at_call 11; (with_reducible refine (window_Mean.calls k aT _ _ aH 1 aS _ ?side1 ?side2 A13.out).mono ?_); (case side1 => refine (Kd.V_reads' (e := 3) (base := w.heap.size) (ok := fun k_ => (k_ ≠ aB ∧ k_ ≠ aI)) (n := aH.length) (c := aZ) ?_).2.2; exact (by refine vM_ ?_; exact (Kd.V_mono (Kd.V_far (Kd.V_far (Kd.V_mono aE.out (fun k_ hk => (⟨hk, hk.2⟩ : _ ∧ k_ ≠ aI))) (fun _ hk => hk.2) _) (fun _ hk => hk.2) _) (fun _ h_ => h_.1)))); (case side2 => exact (Kd.V_reads' aE.out).2.1); rintro e w41 ⟨rfl, hb⟩; replace aC := Zq_.mk (Kd.R_below (by (with_reducible repeat (first | apply Kd.R_alloc | apply Kd.R_drewN | apply Kd.R_drew)); exact (Kd.R_mono (Kd.R_far (Kd.R_far (Kd.R_types aC.out aM.out (by decide)) (fun _ hk => hk.2) _) (fun _ hk => hk.2) _) (fun _ h_ => h_.1))) hb); replace aD := Zq_.mk (Kd.ql_ (by refine vM_ ?_; exact (Kd.V_mono (Kd.V_far (Kd.V_far (Kd.V_mono aD.out (fun k_ hk => (⟨hk, hk.2⟩ : _ ∧ k_ ≠ aI))) (fun _ hk => hk.2) _) (fun _ hk => hk.2) _) (fun _ h_ => h_.1))) hb); replace aG := Zq_.mk (Kd.ql_ (by refine vM_ ?_; exact (Kd.V_mono (Kd.V_far (Kd.V_far (Kd.V_mono aG.out (fun k_ hk => (⟨hk, hk.2⟩ : _ ∧ k_ ≠ aI))) (fun _ hk => hk.2) _) (fun _ hk => hk.2) _) (fun _ h_ => h_.1))) hb); replace aE := Zq_.mk (Kd.ql_ (by refine vM_ ?_; exact (Kd.V_mono (Kd.V_far (Kd.V_far (Kd.V_mono aE.out (fun k_ hk => (⟨hk, hk.2⟩ : _ ∧ k_ ≠ aI))) (fun _ hk => hk.2) _) (fun _ hk => hk.2) _) (fun _ h_ => h_.1))) hb); replace aL := Zq_.mk (Kd.ql_ (by refine vM_ ?_; exact (Kd.V_mono (Kd.V_far (Kd.V_far (Kd.V_mono aL.out (fun k_ hk => (⟨hk, hk.2⟩ : _ ∧ k_ ≠ aI))) (fun _ hk => hk.2) _) (fun _ hk => hk.2) _) (fun _ h_ => h_.1))) hb); replace aA := Zq_.mk (blk_below (g := aB) (o := .cells #[.int .i64 aT, .slice (some aR) aH.length aZ] 27 (0, 0)) (by refine bF_ aN ?_; refine bF_ aN ?_; exact bK_ aA) hb); replace aM := Zq_.mk (blk_below (g := aI) (o := .cells #[.int .i64 bO, .slice bW bN.length bV] 27 (0, 0)) (by exact bW2_ (bK_ aM)) hb); replace HB := sB_ HB hb; (try clear hb)) | (go_at_call 8; (with_reducible refine (window_New.calls  bY bX _ A15.out).mono ?_); rintro e w42 ⟨v132, rfl, ho0, hb⟩; replace aD := Zq_.mk (Kd.V_elder' (vX_ aD) (Kd.R_base ho0) hb); replace aG := Zq_.mk (Kd.V_elder' (vX_ aG) (Kd.R_base ho0) hb); replace aE := Zq_.mk (Kd.V_elder' (vX_ aE) (Kd.R_base ho0) hb); replace aL := Zq_.mk (Kd.V_elder' (vX_ aL) (Kd.R_base ho0) hb); have aY := Zq_.mk (Kd.R_lower (Kd.R_new' ho0 (Kd.R_lt (vX_ aC))) (qc_ (by exact hSet_ HB))); replace aC := Zq_.mk (Kd.R_elder' (vX_ aC) (Kd.R_base ho0) hb); replace aA := kB_ aA hb; replace aM := kB_ aM hb; replace HB := sB_ HB hb; (try clear hb); (try clear ho0); obtain ⟨Ao43, co43, eo43⟩ := Kd.R_slice aY.out; subst eo43) | (go_at_call 11; (with_reducible refine (window_Mean.calls k bY _ _ bX 4 bH _ ?side1 ?side2 A16.out).mono ?_); (case side1 => exact cX_ ((Kd.R_reads' aY.out).2.2)); (case side2 => exact (Kd.R_reads' aY.out).2.1); rintro e w44 ⟨rfl, hb⟩; replace aC := vV_ Kd.R_below aC hb; replace aD := vV_ Kd.ql_ aD hb; replace aG := vV_ Kd.ql_ aG hb; replace aE := vV_ Kd.ql_ aE hb; replace aL := vV_ Kd.ql_ aL hb; replace aY := vV_ Kd.R_below aY hb; replace aA := kB_ aA hb; replace aM := kB_ aM hb; replace HB := sB_ HB hb; (try clear hb)))
         go_ret
         exact ⟨by exact eW_, by exact hSet_ HB⟩
        ·rw [if_neg c14] at H; exact absurd ((Option.some.inj H).trans HRT.out) (by decide)
       ·rw [if_neg c12] at H; exact absurd ((Option.some.inj H).trans HRT.out) (by decide)
      ·rw [if_neg c11] at H; exact absurd H (by simp)
     ·rw [if_neg c10] at H; exact absurd ((Option.some.inj H).trans HRT.out) (by decide)
    ·rw [if_neg c9] at H; exact absurd H (by simp)
   ·rw [if_neg c8] at H; exact absurd ((Option.some.inj H).trans HRT.out) (by decide)
  ·rw [if_neg c7] at H; exact absurd ((Option.some.inj H).trans HRT.out) (by decide)
 ·rw [if_neg c6] at H; exact absurd ((Option.some.inj H).trans HRT.out) (by decide)
end Go.Proofs.Ytkojggbogdjmcaa.P

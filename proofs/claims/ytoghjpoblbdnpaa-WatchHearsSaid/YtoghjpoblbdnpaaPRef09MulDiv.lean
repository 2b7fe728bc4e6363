/- What printed functions come to, and that the machine's calls do it. No condition. -/
import Derived.Test.YtoghjpoblbdnpaaPRef22Copy
import Derived.Test.YtoghjpoblbdnpaaPApiWatch44
import Derived.Test.YtoghjpoblbdnpaaPBitsDiv64
import Derived.Test.YtoghjpoblbdnpaaPRef22Without
namespace Go.Proofs.Ytoghjpoblbdnpaa.P
set_option maxHeartbeats 8000000
set_option maxRecDepth 100000
open Go.RowKit Go.Proofs.YtoghjpoblbdnpaaW.PrintWords Go.Proofs.YtoghjpoblbdnpaaW.PrintLast Go.Proofs.YtoghjpoblbdnpaaW.PrintMore
attribute [local go_sem] qt_ qr_ qx_ qw_ qn_ qm_ qs_ qq_ Go.Proofs.YtoghjpoblbdnpaaW.Hw.string_gtr
set_option linter.unusedVariables false
set_option linter.unusedSimpArgs false
mutual
def ref09_MulDiv.j0 : Nat → Int → Int → Int → Bool → Option (Int × Int)
 | 0, _, _, _, _ => none
 | k + 1, x0, x1, x2, x21 => if x21 = true then (some (0, 1)) else ((ref09_Mul.f k x0 x1).bind fun aH => ((ref09_Mul.f k x2 4611686018427387905).bind fun aK => ((ref09_Below.f aH.1 aH.2 aK.1 aK.2).bind fun aP => (if aP = true then (ref09_MulDiv.l0 k x2 0 62 aH.1 aH.2) else (some (0, 8))))))
def ref09_MulDiv.l0 : Nat → Int → Int → Int → Int → Int → Option (Int × Int)
 | 0, _, _, _, _, _ => none
 | k + 1, x2, x9, x10, aM, aL => if x10 ≥ 0 then (if 0 ≤ (IntKind.u64.wrap (x10)) then (if (wrap64 (x9 + (shl .i64 1 (IntKind.u64.wrap (x10))))) ≤ 4611686018427387904 then ((ref09_Mul.f k x2 (wrap64 (x9 + (shl .i64 1 (IntKind.u64.wrap (x10)))))).bind fun aJ => ((ref09_Below.f aM aL aJ.1 aJ.2).bind fun aO => (if aO = true then (ref09_MulDiv.l0 k x2 x9 (wrap64 (x10 - 1)) aM aL) else (ref09_MulDiv.l0 k x2 (wrap64 (x9 + (shl .i64 1 (IntKind.u64.wrap (x10))))) (wrap64 (x10 - 1)) aM aL)))) else (ref09_MulDiv.l0 k x2 x9 (wrap64 (x10 - 1)) aM aL)) else (none)) else (some (x9, 0))
end
def ref09_MulDiv.f (k : Nat) (a0 : Int) (a1 : Int) (a2 : Int) : Option (Int × Int) := if a0 < 0 then (ref09_MulDiv.j0 k a0 a1 a2 true) else (if a1 < 0 then (ref09_MulDiv.j0 k a0 a1 a2 true) else (ref09_MulDiv.j0 k a0 a1 a2 (decide (a2 < 1))))
theorem ref09_MulDiv.mono_l : ∀ k, (∀ y0 y1 y2 y3, LeO (ref09_MulDiv.j0 k y0 y1 y2 y3) (ref09_MulDiv.j0 (k + 1) y0 y1 y2 y3)) ∧ (∀ y0 y1 y2 y3 y4, LeO (ref09_MulDiv.l0 k y0 y1 y2 y3 y4) (ref09_MulDiv.l0 (k + 1) y0 y1 y2 y3 y4))
 | 0 => ⟨fun _ _ _ _ r h => by simp [ref09_MulDiv.j0] at h, fun _ _ _ _ _ r h => by simp [ref09_MulDiv.l0] at h⟩
 | k + 1 => by
  obtain ⟨ih0, ih1⟩ := ref09_MulDiv.mono_l k; refine ⟨?_, ?_⟩
  ·intro y0 y1 y2 y3
   unfold ref09_MulDiv.j0
   with_reducible repeat' first | exact ih0 _ _ _ _ | exact ih1 _ _ _ _ _ | exact ref09_Mul.mono _ _ _ | exact LeO.refl _ | exact LeO.none _ | refine LeO.ite ?_ ?_ | refine LeO.bind ?_ (fun _ => ?_)
  ·intro y0 y1 y2 y3 y4
   unfold ref09_MulDiv.l0
   with_reducible repeat' first | exact ih0 _ _ _ _ | exact ih1 _ _ _ _ _ | exact ref09_Mul.mono _ _ _ | exact LeO.refl _ | exact LeO.none _ | refine LeO.ite ?_ ?_ | refine LeO.bind ?_ (fun _ => ?_)
theorem ref09_MulDiv.mono : ∀ a0 a1 a2 k, LeO (ref09_MulDiv.f k a0 a1 a2) (ref09_MulDiv.f (k + 1) a0 a1 a2) := by
 intro a0 a1 a2 k; obtain ⟨ih0, ih1⟩ := ref09_MulDiv.mono_l k
 unfold ref09_MulDiv.f
 with_reducible repeat' first | exact ih0 _ _ _ _ | exact ih1 _ _ _ _ _ | exact ref09_Mul.mono _ _ _ | exact LeO.refl _ | exact LeO.none _ | refine LeO.ite ?_ ?_ | refine LeO.bind ?_ (fun _ => ?_)
def ref09_MulDiv.T11 : Bool × List (List Nat × List Nat) := (true, [([], []), ([0], [0]), ([1], [1]), ([2], [2]), ([2], [2]), ([2], [2]), ([4, 5, 2, 2], [2, 4, 5]), ([3, 6, 6, 2], [2, 3, 6]), ([7, 2], [2, 7]), ([2, 8], [2, 8])])
def ref09_MulDiv.B11 : List Nat := [0, 1, 3, 7, 7, 7, 55, 127, 255, 511]
theorem ref09_MulDiv.tab11 : rtab .any (opsOf Try.f29 11) = ref09_MulDiv.T11 := by kernel_rfl
theorem ref09_MulDiv.bits11 : waitsOk ref09_MulDiv.T11.2 ref09_MulDiv.B11 = true := by kernel_rfl
theorem ref09_MulDiv.calls (k : Nat) (a0 : Int) (a1 : Int) (a2 : Int) (r1 : Int) (r2 : Int) (w : World) (h : ref09_MulDiv.f k a0 a1 a2 = some (r1, r2)) :
  Calls Try.prog 29 #[.int .i64 a0, .int .i64 a1, .int .i64 a2] w fun e w' => e = .returned (.tuple #[.int .i64 r1, .int .i64 r2]) ∧ Below w.heap.size w w' := by
 have hu81 := Try.underlying81; have HB := Zq_.mk (Below.refl w.heap.size w); have H : (if a0 < 0 then (ref09_MulDiv.j0 k a0 a1 a2 true) else (if a1 < 0 then (ref09_MulDiv.j0 k a0 a1 a2 true) else (ref09_MulDiv.j0 k a0 a1 a2 (decide (a2 < 1))))) = some (r1, r2) := h; clear h; have HC4 := Zq_.mk H; clear H
 go_enter Try.func29, Try.ntmps29
 go_upto_region 1 with (fail)
 go_cut [21] (fun v21 wc => ∃ (kq : Nat) (aV : Bool), v21 = .bool aV ∧ Zq_ (ref09_MulDiv.j0 kq a0 a1 a2 aV = some (r1, r2)) ∧ Zq_ (kq ≤ k) ∧ Zq_ (Below w.heap.size w wc))
 case first =>
  have H := HC4.out; clear HC4
  by_cases c5 : a0 < 0
  ·rw [if_pos c5] at H; have aU : decide (a0 < 0) = true := decide_eq_true c5; clear c5; (first | rw [aU] | (simp only [i64_w, i32_w]; rw [aU]) | skip); have H' := Zq_.mk H; clear H
   go_wp2
   go_meet
   case rel => exact ⟨_, (true), eS_, H', ⟨by first | omega | exact Nat.le_refl _⟩, ⟨hB_ HB⟩⟩
  ·rw [if_neg c5] at H; have aU : decide (a0 < 0) = false := decide_eq_false c5; clear c5; (first | rw [aU] | (simp only [i64_w, i32_w]; rw [aU]) | skip)
   by_cases c6 : a1 < 0
   ·rw [if_pos c6] at H; have bC : decide (a1 < 0) = true := decide_eq_true c6; clear c6; have H' := Zq_.mk H; clear H
    go_wp2
    go_meet
    case rel => exact ⟨_, (true), eS_, H', ⟨by first | omega | exact Nat.le_refl _⟩, ⟨hB_ HB⟩⟩
   ·rw [if_neg c6] at H; have bC : decide (a1 < 0) = false := decide_eq_false c6; clear c6; have H' := Zq_.mk H; clear H
    go_wp2
    go_meet
    case rel => exact ⟨_, (decide (a2 < 1)), eS_, H', ⟨by first | omega | exact Nat.le_refl _⟩, ⟨hB_ HB⟩⟩
 case rest =>
  clear HC4
  try clear c2
  try clear p2
  try clear c5
  try clear aU
  try clear c6
  try clear bC
  obtain ⟨kq, aV, rfl, HA, HJ3, HB⟩ := hcut
  cases kq with
  | zero => exact absurd HA.out (by simp [ref09_MulDiv.j0])
  | succ kj3 =>
   have H := HA.out; clear HA; simp only [ref09_MulDiv.j0] at H
   by_cases c7 : aV = true
   ·subst c7
    have H1 : (some (0, 1)) = some (r1, r2) := by rw [if_pos rfl] at H; exact H
    clear H; have H := H1; clear H1; simp only [Option.some.injEq, Prod.mk.injEq] at H; obtain ⟨rfl, rfl⟩ := H
    go_wp2
    go_ret2
    exact ⟨by exact eW_, hB_ HB⟩
   ·replace c7 := Bool.eq_false_iff.mpr c7; subst c7
    have H1 : ((ref09_Mul.f kj3 a0 a1).bind fun aH => ((ref09_Mul.f kj3 a2 4611686018427387905).bind fun aK => ((ref09_Below.f aH.1 aH.2 aK.1 aK.2).bind fun aP => (if aP = true then (ref09_MulDiv.l0 kj3 a2 0 62 aH.1 aH.2) else (some (0, 8)))))) = some (r1, r2) := by rw [if_neg (show ¬ (false = true) by decide)] at H; exact H
    clear H; have H := H1; clear H1; replace H := ob_ H; obtain ⟨⟨aC, aB⟩, A80, H⟩ := H; replace H : ((ref09_Mul.f kj3 a2 4611686018427387905).bind fun aK => ((ref09_Below.f aC aB aK.1 aK.2).bind fun aP => (if aP = true then (ref09_MulDiv.l0 kj3 a2 0 62 aC aB) else (some (0, 8))))) = some (r1, r2) := H; have A8 := Zq_.mk A80; clear A80; replace H := ob_ H; obtain ⟨⟨aT, aS⟩, A90, H⟩ := H; replace H : ((ref09_Below.f aC aB aT aS).bind fun aP => (if aP = true then (ref09_MulDiv.l0 kj3 a2 0 62 aC aB) else (some (0, 8)))) = some (r1, r2) := H; have A9 := Zq_.mk A90; clear A90; replace H := ob_ H; obtain ⟨aP, bJ, H⟩ := H; replace H : (if aP = true then (ref09_MulDiv.l0 kj3 a2 0 62 aC aB) else (some (0, 8))) = some (r1, r2) := H; have A10 := Zq_.mk bJ; clear bJ
    by_cases c11 : aP = true
    ·subst c11
     have H1 : (ref09_MulDiv.l0 kj3 a2 0 62 aC aB) = some (r1, r2) := by rw [if_pos rfl] at H; exact H
     clear H; have H := H1; clear H1; have H' := Zq_.mk H; clear H
     try go_wp2_with (first | ((with_reducible refine qg_ (f := 55) rfl ?_); refine goesL_ (some 24) rfl rfl Try.func55 (by kernel_rfl) rfl #[.int .i64 a0, .int .i64 a1] rfl aR_ ?_; (with_reducible refine (ref09_Mul.calls kj3 a0 a1 aC aB _ A8.out).mono ?_); rintro e w12 ⟨rfl, hb⟩; refine ⟨_, rfl, ?_⟩; replace HB := sB_ HB hb; (try clear hb)) | ((with_reducible refine qc_ (N := 8) rfl ?_); refine bE_ 8 #[.int .u64 0, .int .u64 0] 81 ?_; intro aI hg w13 hbox hb; have aA := Zq_.mk (hbox); have bF := gW_ (w := w) hg (hB_ HB); have bG := gW_ (w := w) hg (hB_ HB); replace HB := sB_ HB hb; clear hb hbox hg; obtain ⟨bA, aZ⟩ := c2_ aA; obtain ⟨aY, aX⟩ := f2_ aA))
     obtain ⟨w15, hW_⟩ : ∃ w_, w_ = ((w13.setCell ⟨aI, 0, none⟩ (.int .u64 aC)).setCell ⟨aI, 1, none⟩ (.int .u64 aB)) := ⟨_, rfl⟩; have n0_ : Zq_ (w15.heap[aI]? = some (.cells #[.int .u64 aC, .int .u64 aB] 81 (0, 0))) := (by subst hW_; exact ⟨by exact bW2_ (bK_ aA)⟩); have n1_ : Zq_ (Below w.heap.size w w15) := (by subst hW_; exact ⟨by exact hSet_ HB⟩); (try clear aA); (try clear HB); rw [← hW_]; clear hW_; have aA := n0_; have HB := n1_; clear n0_ n1_; replace aA := Zq_.mk (qh_ aA.out); replace HB := Zq_.mk (qu_ HB.out); refine gS_ 5 (hA_ (b0_ aA) (hZ_ (b1_ aA))) (fun hHeld => ?_); generalize w15.drew = w16 at aA HB hHeld ⊢; refine pure_ (i := 1) (N := some 26) (v := ?_) (a' := ?_) (bz_ 5 2) rfl rfl (by kernel_rfl) (fun _ _ _ h => h) (Or.inl ⟨by rfl, ?_⟩) ?_ ?_; rotate_left; (focus intro w'; go_simp; (with_reducible rfl)); rotate_left; (focus simp only [Act.put, sa_, sb_, sc_, i64_w, i32_w]; rfl); refine take_ (i := 0) (N := some 25) (v := ?_) (a' := ?_) (bz_ 5 3) rfl rfl (by kernel_rfl) (fun _ _ _ h => h) (Or.inl ⟨by rfl, ?_⟩) hHeld ?_ ?_; rotate_left; (focus rintro w' ⟨s0, s1⟩; go_simp; (with_reducible rfl)); rotate_left; (focus simp only [Act.put, sa_, sb_, sc_, i64_w, i32_w]; rfl); refine one_ (i := 2) (N := some 27) (bz_ 5 7) rfl rfl (by kernel_rfl) (by decide) (fun K hK => ?_); refine goes_ Try.func55 (by kernel_rfl) rfl #[.int .i64 a2, .int .i64 4611686018427387905] (by rfl) rfl rfl aR_ ?_
     with_reducible refine (ref09_Mul.calls kj3 a2 4611686018427387905 aT aS _ A9.out).mono ?_
     rintro e w17 ⟨rfl, hb⟩; refine ⟨_, rfl, ?_⟩; replace aA := kB_ aA hb; replace HB := sB_ HB hb; (try clear hb); refine hK.out _ _ (c2_ aA) (fun hHeld => ?_); clear hK K; refine norm_ (a' := ?_) ?_ ?_; rotate_left
     ·show Act.put _ (some 27) _ = _
      simp only [Act.put, sa_, sb_, sc_, i64_w, i32_w]; rfl
     refine one_ (i := 3) (N := some 28) (bz_ 5 15) rfl rfl (by kernel_rfl) (by decide) (fun K hK => ?_); refine goes_ Try.func56 (by kernel_rfl) rfl #[.agg #[.int .u64 aC, .int .u64 aB], .agg #[.int .u64 aT, .int .u64 aS]] (by rfl) rfl rfl aR_ ?_
     with_reducible refine (ref09_Below.calls aC aB aT aS true _ A10.out).mono ?_
     rintro e w18 ⟨rfl, hb⟩; refine ⟨_, rfl, ?_⟩; replace aA := kB_ aA hb; replace HB := sB_ HB hb; (try clear hb); refine hK.out _ _ (c2_ aA) (fun hHeld => ?_); clear hK K; refine norm_ (a' := ?_) ?_ ?_; rotate_left
     ·show Act.put _ (some 28) _ = _
      simp only [Act.put, sa_, sb_, sc_, i64_w, i32_w]; rfl
     refine pure_ (i := 4) (N := some 29) (v := ?_) (a' := ?_) (bz_ 5 31) rfl rfl (by kernel_rfl) (fun _ _ _ h => h) (Or.inl ⟨by rfl, ?_⟩) ?_ ?_; rotate_left; (focus intro w'; go_simp; (with_reducible rfl)); rotate_left; (focus simp only [Act.put, sa_, sb_, sc_, i64_w, i32_w]; rfl); refine done_ (by kernel_rfl) ?_; (try go_wp2)
     go_loopg [9, 10] kj3 (fun kq v9 v10 w' => ∃ (aE : Int) (aD : Int), v9 = .int .i64 aE ∧ v10 = .int .i64 aD ∧ Zq_ (ref09_MulDiv.l0 kq a2 aE aD aC aB = some (r1, r2)) ∧ Zq_ (kq ≤ kj3) ∧ Zq_ (w'.heap[aI]? = some (.cells #[.int .u64 aC, .int .u64 aB] 81 (0, 0))) ∧ Zq_ (Below w.heap.size w w'))
     case atStart => exact ⟨(0), (62), eS_, eS_, H', ⟨Nat.le_refl _⟩, ⟨by (with_reducible repeat (first | refine qk_ ?_ _ | refine qh_ ?_ | refine ql_ ?_ _)); exact aA.out⟩, ⟨by exact hSet_ HB⟩⟩
     case round =>
      clear H'
      try clear c1
      try clear c2
      try clear p2
      try clear c5
      try clear aU
      try clear c6
      try clear bC
      try clear c7
      try clear c11
      try clear bA
      try clear aZ
      try clear aY
      try clear aX
      try clear p2
      obtain ⟨aE, aD, rfl, rfl, HA, HK2, aA, HB⟩ := hrel
      cases gk with
      | zero => exact absurd HA.out (by simp [ref09_MulDiv.l0])
      | succ k2 =>
       have H := HA.out; clear HA; simp only [ref09_MulDiv.l0] at H
       by_cases c19 : aD ≥ 0
       ·rw [if_pos c19] at H; have bE : decide (0 ≤ aD) = true := decide_eq_true c19; clear c19; obtain ⟨aG, bB⟩ : ∃ j_ : Int, (IntKind.u64.wrap (aD)) = j_ := ⟨_, rfl⟩
        replace H : (if 0 ≤ (aG) then (if (wrap64 (aE + (shl .i64 1 (aG)))) ≤ 4611686018427387904 then ((ref09_Mul.f k2 a2 (wrap64 (aE + (shl .i64 1 (aG))))).bind fun aJ => ((ref09_Below.f aC aB aJ.1 aJ.2).bind fun aO => (if aO = true then (ref09_MulDiv.l0 k2 a2 aE (wrap64 (aD - 1)) aC aB) else (ref09_MulDiv.l0 k2 a2 (wrap64 (aE + (shl .i64 1 (aG)))) (wrap64 (aD - 1)) aC aB)))) else (ref09_MulDiv.l0 k2 a2 aE (wrap64 (aD - 1)) aC aB)) else (none)) = some (r1, r2) := by first | (rw [bB] at H; exact H) | (simp only [bB] at H ⊢; exact H)
        by_cases c21 : 0 ≤ (aG)
        ·rw [if_pos c21] at H; have c21b0 := eq_true c21; have c21b1 : decide (0 ≤ (aG)) = true := decide_eq_true c21; clear c21; obtain ⟨aF, aN⟩ : ∃ j_ : Int, (shl .i64 1 (aG)) = j_ := ⟨_, rfl⟩
         replace H : (if (wrap64 (aE + (aF))) ≤ 4611686018427387904 then ((ref09_Mul.f k2 a2 (wrap64 (aE + (aF)))).bind fun aJ => ((ref09_Below.f aC aB aJ.1 aJ.2).bind fun aO => (if aO = true then (ref09_MulDiv.l0 k2 a2 aE (wrap64 (aD - 1)) aC aB) else (ref09_MulDiv.l0 k2 a2 (wrap64 (aE + (aF))) (wrap64 (aD - 1)) aC aB)))) else (ref09_MulDiv.l0 k2 a2 aE (wrap64 (aD - 1)) aC aB)) = some (r1, r2) := by first | (rw [aN] at H; exact H) | (simp only [aN] at H ⊢; exact H)
         have aW : (IntKind.i64.wrap (1 * 2 ^ min (aG).toNat 64)) = aF := aN; have hji22z : (aG) ≤ 64 → (IntKind.i64.wrap (1 * 2 ^ (aG).toNat)) = aF := shl_small aN
         have hji22u : (IntKind.i64.wrap (2 ^ min (aG).toNat 64)) = aF := by have h_ := aW; rw [Int.one_mul] at h_; exact h_
         have hji22v : (aG) ≤ 64 → (IntKind.i64.wrap (2 ^ (aG).toNat)) = aF := fun hle_ => by have h_ := hji22z hle_; rw [Int.one_mul] at h_; exact h_
         have hji22y : (wrap64 (1 * 2 ^ min (aG).toNat 64)) = aF := (i64_w _).symm.trans aW
         have hji22x : (aG) ≤ 64 → (wrap64 (1 * 2 ^ (aG).toNat)) = aF := fun h_ => (i64_w _).symm.trans (hji22z h_)
         by_cases c23 : (wrap64 (aE + (aF))) ≤ 4611686018427387904
         ·rw [if_pos c23] at H; have bD : decide ((wrap64 (aE + (aF))) ≤ 4611686018427387904) = true := decide_eq_true c23; clear c23; replace H := ob_ H; obtain ⟨⟨aR, aQ⟩, bI, H⟩ := H; replace H : ((ref09_Below.f aC aB aR aQ).bind fun aO => (if aO = true then (ref09_MulDiv.l0 k2 a2 aE (wrap64 (aD - 1)) aC aB) else (ref09_MulDiv.l0 k2 a2 (wrap64 (aE + (aF))) (wrap64 (aD - 1)) aC aB))) = some (r1, r2) := H; have A24 := Zq_.mk bI; clear bI; replace H := ob_ H; obtain ⟨aO, bH, H⟩ := H; replace H : (if aO = true then (ref09_MulDiv.l0 k2 a2 aE (wrap64 (aD - 1)) aC aB) else (ref09_MulDiv.l0 k2 a2 (wrap64 (aE + (aF))) (wrap64 (aD - 1)) aC aB)) = some (r1, r2) := H; have A25 := Zq_.mk bH; clear bH
          by_cases c26 : aO = true
          ·subst c26
           have H1 : (ref09_MulDiv.l0 k2 a2 aE (wrap64 (aD - 1)) aC aB) = some (r1, r2) := by rw [if_pos rfl] at H; exact H
           clear H; have H := H1; clear H1; have H' := Zq_.mk H; clear H; (try go_wp2); replace aA := Zq_.mk (qh_ aA.out); replace HB := Zq_.mk (qu_ HB.out); refine gS_ 10 (hA_ (b0_ aA) (hZ_ (b1_ aA))) (fun hHeld => ?_); refine vn_ ref09_MulDiv.tab11 ref09_MulDiv.bits11 (fun HT_ HW_ => ?_); generalize wr.drew = w27 at aA HB hHeld ⊢; refine pQ_ 0 HT_ ?_; refine pQ_ 1 HT_ ?_; refine pQ_ 2 HT_ ?_; refine pQ_ 4 HT_ ?_; refine pQ_ 5 HT_ ?_; refine tL_ 3 HT_ HW_ hHeld ?_; refine oN_ 6 45 10 127 HT_ (fun K hK => ?_); refine goes_ Try.func55 (by kernel_rfl) rfl #[.int .i64 a2, .int .i64 (wrap64 (aE + (aF)))] (by rfl) rfl rfl (by (try simp only [List.map_toArray, List.map_cons, List.map_nil]); first | done | (simp only [aN]; rfl) | rfl | (simp only [List.length_drop, List.length_take]; rfl)) ?_
           with_reducible refine (ref09_Mul.calls k2 a2 (wrap64 (aE + (aF))) aR aQ _ A24.out).mono ?_
           rintro e w28 ⟨rfl, hb⟩; refine ⟨_, rfl, ?_⟩; replace aA := kB_ aA hb; replace HB := sB_ HB hb; (try clear hb); refine hK.out _ _ (c2_ aA) (fun hHeld => ?_); clear hK K; refine norm_ (a' := ?_) ?_ ?_; rotate_left
           ·show Act.put _ (some 45) _ = _
            simp only [Act.put, sa_, sb_, sc_, i64_w, i32_w]; rfl
           refine oN_ 7 46 10 255 HT_ (fun K hK => ?_); refine goes_ Try.func56 (by kernel_rfl) rfl #[.agg #[.int .u64 aC, .int .u64 aB], .agg #[.int .u64 aR, .int .u64 aQ]] (by rfl) rfl rfl aR_ ?_
           with_reducible refine (ref09_Below.calls aC aB aR aQ true _ A25.out).mono ?_
           rintro e w29 ⟨rfl, hb⟩; refine ⟨_, rfl, ?_⟩; replace aA := kB_ aA hb; replace HB := sB_ HB hb; (try clear hb); refine hK.out _ _ (c2_ aA) (fun hHeld => ?_); clear hK K; refine norm_ (a' := ?_) ?_ ?_; rotate_left
           ·show Act.put _ (some 46) _ = _
            simp only [Act.put, sa_, sb_, sc_, i64_w, i32_w]; rfl
           refine pQ_ 8 HT_ ?_; refine pQ_ 9 HT_ ?_; refine dN_ HT_ ?_; (try go_wp2)
           go_roundg k2
           case measure => have := HJ3.out; have := HK2.out; omega
           case rel => exact ⟨(aE), (wrap64 (aD - 1)), eS_, eS_, H', ⟨by have := HJ3.out; have := HK2.out; omega⟩, ⟨by (with_reducible repeat (first | refine qk_ ?_ _ | refine qh_ ?_ | refine ql_ ?_ _)); exact aA.out⟩, ⟨by exact hSet_ HB⟩⟩
          ·replace c26 := Bool.eq_false_iff.mpr c26; subst c26
           have H1 : (ref09_MulDiv.l0 k2 a2 (wrap64 (aE + (aF))) (wrap64 (aD - 1)) aC aB) = some (r1, r2) := by rw [if_neg (show ¬ (false = true) by decide)] at H; exact H
           clear H; have H := H1; clear H1; have H' := Zq_.mk H; clear H; (try go_wp2); replace aA := Zq_.mk (qh_ aA.out); replace HB := Zq_.mk (qu_ HB.out); refine gS_ 10 (hA_ (b0_ aA) (hZ_ (b1_ aA))) (fun hHeld => ?_); refine vn_ ref09_MulDiv.tab11 ref09_MulDiv.bits11 (fun HT_ HW_ => ?_); generalize wr.drew = w30 at aA HB hHeld ⊢; refine pQ_ 0 HT_ ?_; refine pQ_ 1 HT_ ?_; refine pQ_ 2 HT_ ?_; refine pQ_ 4 HT_ ?_; refine pQ_ 5 HT_ ?_; refine tL_ 3 HT_ HW_ hHeld ?_; refine oN_ 6 45 10 127 HT_ (fun K hK => ?_); refine goes_ Try.func55 (by kernel_rfl) rfl #[.int .i64 a2, .int .i64 (wrap64 (aE + (aF)))] (by rfl) rfl rfl (by (try simp only [List.map_toArray, List.map_cons, List.map_nil]); first | done | (simp only [aN]; rfl) | rfl | (simp only [List.length_drop, List.length_take]; rfl)) ?_
           with_reducible refine (ref09_Mul.calls k2 a2 (wrap64 (aE + (aF))) aR aQ _ A24.out).mono ?_
           rintro e w31 ⟨rfl, hb⟩; refine ⟨_, rfl, ?_⟩; replace aA := kB_ aA hb; replace HB := sB_ HB hb; (try clear hb); refine hK.out _ _ (c2_ aA) (fun hHeld => ?_); clear hK K; refine norm_ (a' := ?_) ?_ ?_; rotate_left
           ·show Act.put _ (some 45) _ = _
            simp only [Act.put, sa_, sb_, sc_, i64_w, i32_w]; rfl
           refine oN_ 7 46 10 255 HT_ (fun K hK => ?_); refine goes_ Try.func56 (by kernel_rfl) rfl #[.agg #[.int .u64 aC, .int .u64 aB], .agg #[.int .u64 aR, .int .u64 aQ]] (by rfl) rfl rfl aR_ ?_
           with_reducible refine (ref09_Below.calls aC aB aR aQ false _ A25.out).mono ?_
           rintro e w32 ⟨rfl, hb⟩; refine ⟨_, rfl, ?_⟩; replace aA := kB_ aA hb; replace HB := sB_ HB hb; (try clear hb); refine hK.out _ _ (c2_ aA) (fun hHeld => ?_); clear hK K; refine norm_ (a' := ?_) ?_ ?_; rotate_left
           ·show Act.put _ (some 46) _ = _
            simp only [Act.put, sa_, sb_, sc_, i64_w, i32_w]; rfl
           refine pQ_ 8 HT_ ?_; refine pQ_ 9 HT_ ?_; refine dN_ HT_ ?_; (try go_wp2)
           go_roundg k2
           case measure => have := HJ3.out; have := HK2.out; omega
           case rel => exact ⟨(wrap64 (aE + (aF))), (wrap64 (aD - 1)), (by first | rfl | (simp; done) | (simp only [← aN] <;> (first | rfl | simp)) | (simp [*]; done)), eS_, H', ⟨by have := HJ3.out; have := HK2.out; omega⟩, ⟨by (with_reducible repeat (first | refine qk_ ?_ _ | refine qh_ ?_ | refine ql_ ?_ _)); exact aA.out⟩, ⟨by exact hSet_ HB⟩⟩
         ·rw [if_neg c23] at H; have bD : decide ((wrap64 (aE + (aF))) ≤ 4611686018427387904) = false := decide_eq_false c23; clear c23; have H' := Zq_.mk H; clear H; (try go_wp2); replace aA := Zq_.mk (qh_ aA.out); replace HB := Zq_.mk (qu_ HB.out); refine gT_ 10 (fun hHeld => ?_); refine vn_ ref09_MulDiv.tab11 ref09_MulDiv.bits11 (fun HT_ HW_ => ?_); generalize wr.drew = w33 at aA HB hHeld ⊢; refine up0_ 0 ?_; (iterate 10 first | refine vN_ ?_ | refine pN_ ?_); refine dN_ HT_ ?_; (try go_wp2)
          go_roundg k2
          case measure => have := HJ3.out; have := HK2.out; omega
          case rel => exact ⟨(aE), (wrap64 (aD - 1)), eS_, eS_, H', ⟨by have := HJ3.out; have := HK2.out; omega⟩, ⟨by (with_reducible repeat (first | refine qk_ ?_ _ | refine qh_ ?_ | refine ql_ ?_ _)); exact aA.out⟩, ⟨by exact hSet_ HB⟩⟩
        ·rw [if_neg c21] at H; exact absurd H (by simp)
       ·rw [if_neg c19] at H; have bE : decide (0 ≤ aD) = false := decide_eq_false c19; clear c19; simp only [Option.some.injEq, Prod.mk.injEq] at H; obtain ⟨rfl, rfl⟩ := H
        go_wp2
        go_ret2
        exact ⟨by exact eW_, by exact hSet_ HB⟩
    ·replace c11 := Bool.eq_false_iff.mpr c11; subst c11
     have H1 : (some (0, 8)) = some (r1, r2) := by rw [if_neg (show ¬ (false = true) by decide)] at H; exact H
     clear H; have H := H1; clear H1; simp only [Option.some.injEq, Prod.mk.injEq] at H; obtain ⟨rfl, rfl⟩ := H
     try go_wp2_with (first | ((with_reducible refine qg_ (f := 55) rfl ?_); refine goesL_ (some 24) rfl rfl Try.func55 (by kernel_rfl) rfl #[.int .i64 a0, .int .i64 a1] rfl aR_ ?_; (with_reducible refine (ref09_Mul.calls kj3 a0 a1 aC aB _ A8.out).mono ?_); rintro e w34 ⟨rfl, hb⟩; refine ⟨_, rfl, ?_⟩; replace HB := sB_ HB hb; (try clear hb)) | ((with_reducible refine qc_ (N := 8) rfl ?_); refine bE_ 8 #[.int .u64 0, .int .u64 0] 81 ?_; intro aI hg w35 hbox hb; have aA := Zq_.mk (hbox); have bF := gW_ (w := w) hg (hB_ HB); have bG := gW_ (w := w) hg (hB_ HB); replace HB := sB_ HB hb; clear hb hbox hg; obtain ⟨hcz36_0, hcz36_1⟩ := c2_ aA; obtain ⟨hfz36_0, hfz36_1⟩ := f2_ aA))
     obtain ⟨w37, hW_⟩ : ∃ w_, w_ = ((w35.setCell ⟨aI, 0, none⟩ (.int .u64 aC)).setCell ⟨aI, 1, none⟩ (.int .u64 aB)) := ⟨_, rfl⟩; have n0_ : Zq_ (w37.heap[aI]? = some (.cells #[.int .u64 aC, .int .u64 aB] 81 (0, 0))) := (by subst hW_; exact ⟨by exact bW2_ (bK_ aA)⟩); have n1_ : Zq_ (Below w.heap.size w w37) := (by subst hW_; exact ⟨by exact hSet_ HB⟩); (try clear aA); (try clear HB); rw [← hW_]; clear hW_; have aA := n0_; have HB := n1_; clear n0_ n1_; replace aA := Zq_.mk (qh_ aA.out); replace HB := Zq_.mk (qu_ HB.out); refine gS_ 5 (hA_ (b0_ aA) (hZ_ (b1_ aA))) (fun hHeld => ?_); generalize w37.drew = w38 at aA HB hHeld ⊢; refine pure_ (i := 1) (N := some 26) (v := ?_) (a' := ?_) (bz_ 5 2) rfl rfl (by kernel_rfl) (fun _ _ _ h => h) (Or.inl ⟨by rfl, ?_⟩) ?_ ?_; rotate_left; (focus intro w'; go_simp; (with_reducible rfl)); rotate_left; (focus simp only [Act.put, sa_, sb_, sc_, i64_w, i32_w]; rfl); refine take_ (i := 0) (N := some 25) (v := ?_) (a' := ?_) (bz_ 5 3) rfl rfl (by kernel_rfl) (fun _ _ _ h => h) (Or.inl ⟨by rfl, ?_⟩) hHeld ?_ ?_; rotate_left; (focus rintro w' ⟨s0, s1⟩; go_simp; (with_reducible rfl)); rotate_left; (focus simp only [Act.put, sa_, sb_, sc_, i64_w, i32_w]; rfl); refine one_ (i := 2) (N := some 27) (bz_ 5 7) rfl rfl (by kernel_rfl) (by decide) (fun K hK => ?_); refine goes_ Try.func55 (by kernel_rfl) rfl #[.int .i64 a2, .int .i64 4611686018427387905] (by rfl) rfl rfl aR_ ?_
     with_reducible refine (ref09_Mul.calls kj3 a2 4611686018427387905 aT aS _ A9.out).mono ?_
     rintro e w39 ⟨rfl, hb⟩; refine ⟨_, rfl, ?_⟩; replace aA := kB_ aA hb; replace HB := sB_ HB hb; (try clear hb); refine hK.out _ _ (c2_ aA) (fun hHeld => ?_); clear hK K; refine norm_ (a' := ?_) ?_ ?_; rotate_left
     ·show Act.put _ (some 27) _ = _
      simp only [Act.put, sa_, sb_, sc_, i64_w, i32_w]; rfl
     refine one_ (i := 3) (N := some 28) (bz_ 5 15) rfl rfl (by kernel_rfl) (by decide) (fun K hK => ?_); refine goes_ Try.func56 (by kernel_rfl) rfl #[.agg #[.int .u64 aC, .int .u64 aB], .agg #[.int .u64 aT, .int .u64 aS]] (by rfl) rfl rfl aR_ ?_
     with_reducible refine (ref09_Below.calls aC aB aT aS false _ A10.out).mono ?_
     rintro e w40 ⟨rfl, hb⟩; refine ⟨_, rfl, ?_⟩; replace aA := kB_ aA hb; replace HB := sB_ HB hb; (try clear hb); refine hK.out _ _ (c2_ aA) (fun hHeld => ?_); clear hK K; refine norm_ (a' := ?_) ?_ ?_; rotate_left
     ·show Act.put _ (some 28) _ = _
      simp only [Act.put, sa_, sb_, sc_, i64_w, i32_w]; rfl
     refine pure_ (i := 4) (N := some 29) (v := ?_) (a' := ?_) (bz_ 5 31) rfl rfl (by kernel_rfl) (fun _ _ _ h => h) (Or.inl ⟨by rfl, ?_⟩) ?_ ?_; rotate_left; (focus intro w'; go_simp; (with_reducible rfl)); rotate_left; (focus simp only [Act.put, sa_, sb_, sc_, i64_w, i32_w]; rfl); refine done_ (by kernel_rfl) ?_; (try go_wp2)
     go_ret2
     exact ⟨by exact eW_, by exact hSet_ HB⟩
def ratio_MulDiv.j0 : Nat → Int → Int → Int → Bool → Option (Int × Int)
 | 0, _, _, _, _ => none
 | k + 1, x0, x1, x2, x21 => if x21 = true then (some (0, 1)) else ((bits_Mul64.f (IntKind.u64.wrap (x0)) (IntKind.u64.wrap (x1))).bind fun aC => (if aC.1 ≥ (IntKind.u64.wrap (x2)) then (some (0, 8)) else ((bits_Div64.f k aC.1 aC.2 (IntKind.u64.wrap (x2))).bind fun aA => (if aA.1 > 4611686018427387904 then (some (0, 8)) else (some (wrap64 (aA.1), 0))))))
def ratio_MulDiv.f (k : Nat) (a0 : Int) (a1 : Int) (a2 : Int) : Option (Int × Int) := if a0 < 0 then (ratio_MulDiv.j0 k a0 a1 a2 true) else (if a1 < 0 then (ratio_MulDiv.j0 k a0 a1 a2 true) else (ratio_MulDiv.j0 k a0 a1 a2 (decide (a2 < 1))))
theorem ratio_MulDiv.mono_l : ∀ k, (∀ y0 y1 y2 y3, LeO (ratio_MulDiv.j0 k y0 y1 y2 y3) (ratio_MulDiv.j0 (k + 1) y0 y1 y2 y3))
 | 0 => fun _ _ _ _ r h => by simp [ratio_MulDiv.j0] at h
 | k + 1 => by
  have ih0 := ratio_MulDiv.mono_l k
  ·intro y0 y1 y2 y3
   unfold ratio_MulDiv.j0
   with_reducible repeat' first | exact ih0 _ _ _ _ | exact bits_Div64.mono _ _ _ _ | exact LeO.refl _ | exact LeO.none _ | refine LeO.ite ?_ ?_ | refine LeO.bind ?_ (fun _ => ?_)
theorem ratio_MulDiv.mono : ∀ a0 a1 a2 k, LeO (ratio_MulDiv.f k a0 a1 a2) (ratio_MulDiv.f (k + 1) a0 a1 a2) := by
 intro a0 a1 a2 k; have ih0 := ratio_MulDiv.mono_l k
 unfold ratio_MulDiv.f
 with_reducible repeat' first | exact ih0 _ _ _ _ | exact bits_Div64.mono _ _ _ _ | exact LeO.refl _ | exact LeO.none _ | refine LeO.ite ?_ ?_ | refine LeO.bind ?_ (fun _ => ?_)
theorem ratio_MulDiv.calls (k : Nat) (a0 : Int) (a1 : Int) (a2 : Int) (r1 : Int) (r2 : Int) (w : World) (h : ratio_MulDiv.f k a0 a1 a2 = some (r1, r2)) :
  Calls Try.prog 68 #[.int .i64 a0, .int .i64 a1, .int .i64 a2] w fun e w' => e = .returned (.tuple #[.int .i64 r1, .int .i64 r2]) ∧ Drawn0 w w' := by
 have H : (if a0 < 0 then (ratio_MulDiv.j0 k a0 a1 a2 true) else (if a1 < 0 then (ratio_MulDiv.j0 k a0 a1 a2 true) else (ratio_MulDiv.j0 k a0 a1 a2 (decide (a2 < 1))))) = some (r1, r2) := h; clear h; have HC4 := Zq_.mk H; clear H
 go_enter Try.func68, Try.ntmps68
 go_upto_region 1 with (fail)
 go_cut [21] (fun v21 wc => ∃ (kq : Nat) (aF : Bool), v21 = .bool aF ∧ Zq_ (ratio_MulDiv.j0 kq a0 a1 a2 aF = some (r1, r2)) ∧ Zq_ (kq ≤ k) ∧ Drawn0 w wc)
 case first =>
  have H := HC4.out; clear HC4
  by_cases c5 : a0 < 0
  ·rw [if_pos c5] at H; have aG : decide (a0 < 0) = true := decide_eq_true c5; clear c5; (first | rw [aG] | (simp only [i64_w, i32_w]; rw [aG]) | skip); have H' := Zq_.mk H; clear H
   go_wp2
   go_meet
   case rel => exact ⟨_, (true), eS_, H', ⟨by first | omega | exact Nat.le_refl _⟩, by repeat (first | exact Drawn0.refl _ | apply Drawn0.step)⟩
  ·rw [if_neg c5] at H; have aG : decide (a0 < 0) = false := decide_eq_false c5; clear c5; (first | rw [aG] | (simp only [i64_w, i32_w]; rw [aG]) | skip)
   by_cases c6 : a1 < 0
   ·rw [if_pos c6] at H; have aI : decide (a1 < 0) = true := decide_eq_true c6; clear c6; have H' := Zq_.mk H; clear H
    go_wp2
    go_meet
    case rel => exact ⟨_, (true), eS_, H', ⟨by first | omega | exact Nat.le_refl _⟩, by repeat (first | exact Drawn0.refl _ | apply Drawn0.step)⟩
   ·rw [if_neg c6] at H; have aI : decide (a1 < 0) = false := decide_eq_false c6; clear c6; have H' := Zq_.mk H; clear H
    go_wp2
    go_meet
    case rel => exact ⟨_, (decide (a2 < 1)), eS_, H', ⟨by first | omega | exact Nat.le_refl _⟩, by repeat (first | exact Drawn0.refl _ | apply Drawn0.step)⟩
 case rest =>
  clear HC4
  try clear p2
  try clear c5
  try clear aG
  try clear c6
  try clear aI
  obtain ⟨kq, aF, rfl, HA, HJ3, ⟨mc3, rfl⟩⟩ := hcut
  cases kq with
  | zero => exact absurd HA.out (by simp [ratio_MulDiv.j0])
  | succ kj3 =>
   have H := HA.out; clear HA; simp only [ratio_MulDiv.j0] at H
   by_cases c7 : aF = true
   ·subst c7
    have H1 : (some (0, 1)) = some (r1, r2) := by rw [if_pos rfl] at H; exact H
    clear H; have H := H1; clear H1; simp only [Option.some.injEq, Prod.mk.injEq] at H; obtain ⟨rfl, rfl⟩ := H
    go_wp2
    go_ret2
    exact ⟨by first | rfl | (simp; done) | (simp [*]; done), by repeat (first | exact Drawn0.refl _ | apply Drawn0.step)⟩
   ·replace c7 := Bool.eq_false_iff.mpr c7; subst c7
    have H1 : ((bits_Mul64.f (IntKind.u64.wrap (a0)) (IntKind.u64.wrap (a1))).bind fun aC => (if aC.1 ≥ (IntKind.u64.wrap (a2)) then (some (0, 8)) else ((bits_Div64.f kj3 aC.1 aC.2 (IntKind.u64.wrap (a2))).bind fun aA => (if aA.1 > 4611686018427387904 then (some (0, 8)) else (some (wrap64 (aA.1), 0)))))) = some (r1, r2) := by rw [if_neg (show ¬ (false = true) by decide)] at H; exact H
    clear H; have H := H1; clear H1; replace H := ob_ H; obtain ⟨⟨aB, aD⟩, A80, H⟩ := H; replace H : (if aB ≥ (IntKind.u64.wrap (a2)) then (some (0, 8)) else ((bits_Div64.f kj3 aB aD (IntKind.u64.wrap (a2))).bind fun aA => (if aA.1 > 4611686018427387904 then (some (0, 8)) else (some (wrap64 (aA.1), 0))))) = some (r1, r2) := H; have A8 := Zq_.mk A80; clear A80
    by_cases c9 : aB ≥ (IntKind.u64.wrap (a2))
    ·rw [if_pos c9] at H; have c9b0 : decide ((IntKind.u64.wrap (a2)) ≤ aB) = true := decide_eq_true c9; clear c9; simp only [Option.some.injEq, Prod.mk.injEq] at H; obtain ⟨rfl, rfl⟩ := H
     go_wp2_with (first | ((with_reducible refine qg_ (f := 74) rfl ?_); refine goesL_ (some 27) rfl rfl Try.func74 (by kernel_rfl) rfl #[.int .u64 (IntKind.u64.wrap (a0)), .int .u64 (IntKind.u64.wrap (a1))] rfl aR_ ?_; (with_reducible refine (bits_Mul64.calls (IntKind.u64.wrap (a0)) (IntKind.u64.wrap (a1)) aB aD _ A8.out).mono ?_); rintro e w' ⟨rfl, ⟨nd, rfl⟩⟩; refine ⟨_, rfl, ?_⟩))
     go_ret2
     exact ⟨by first | rfl | (simp; done) | (simp [*]; done), by repeat (first | exact Drawn0.refl _ | apply Drawn0.step)⟩
    ·rw [if_neg c9] at H; have c9b0 : decide ((IntKind.u64.wrap (a2)) ≤ aB) = false := decide_eq_false c9; clear c9; replace H := ob_ H; obtain ⟨⟨aE, aH⟩, aK, H⟩ := H; replace H : (if aE > 4611686018427387904 then (some (0, 8)) else (some (wrap64 (aE), 0))) = some (r1, r2) := H; have A10 := Zq_.mk aK; clear aK
     by_cases c11 : aE > 4611686018427387904
     ·rw [if_pos c11] at H; have aJ : decide (4611686018427387904 < aE) = true := decide_eq_true c11; clear c11; simp only [Option.some.injEq, Prod.mk.injEq] at H; obtain ⟨rfl, rfl⟩ := H
      go_wp2_with (first | ((with_reducible refine qg_ (f := 74) rfl ?_); refine goesL_ (some 27) rfl rfl Try.func74 (by kernel_rfl) rfl #[.int .u64 (IntKind.u64.wrap (a0)), .int .u64 (IntKind.u64.wrap (a1))] rfl aR_ ?_; (with_reducible refine (bits_Mul64.calls (IntKind.u64.wrap (a0)) (IntKind.u64.wrap (a1)) aB aD _ A8.out).mono ?_); rintro e w' ⟨rfl, ⟨nd, rfl⟩⟩; refine ⟨_, rfl, ?_⟩) | ((with_reducible refine qg_ (f := 75) rfl ?_); refine goesL_ (some 39) rfl rfl Try.func75 (by kernel_rfl) rfl #[.int .u64 aB, .int .u64 aD, .int .u64 (IntKind.u64.wrap (a2))] rfl aR_ ?_; (with_reducible refine (bits_Div64.calls kj3 aB aD (IntKind.u64.wrap (a2)) aE aH _ A10.out).mono ?_); rintro e w' ⟨rfl, ⟨nd, rfl⟩⟩; refine ⟨_, rfl, ?_⟩))
      go_ret2
      exact ⟨by first | rfl | (simp; done) | (simp [*]; done), by repeat (first | exact Drawn0.refl _ | apply Drawn0.step)⟩
     ·rw [if_neg c11] at H; have aJ : decide (4611686018427387904 < aE) = false := decide_eq_false c11; clear c11; simp only [Option.some.injEq, Prod.mk.injEq] at H; obtain ⟨rfl, rfl⟩ := H
      go_wp2_with (first | ((with_reducible refine qg_ (f := 74) rfl ?_); refine goesL_ (some 27) rfl rfl Try.func74 (by kernel_rfl) rfl #[.int .u64 (IntKind.u64.wrap (a0)), .int .u64 (IntKind.u64.wrap (a1))] rfl aR_ ?_; (with_reducible refine (bits_Mul64.calls (IntKind.u64.wrap (a0)) (IntKind.u64.wrap (a1)) aB aD _ A8.out).mono ?_); rintro e w' ⟨rfl, ⟨nd, rfl⟩⟩; refine ⟨_, rfl, ?_⟩) | ((with_reducible refine qg_ (f := 75) rfl ?_); refine goesL_ (some 39) rfl rfl Try.func75 (by kernel_rfl) rfl #[.int .u64 aB, .int .u64 aD, .int .u64 (IntKind.u64.wrap (a2))] rfl aR_ ?_; (with_reducible refine (bits_Div64.calls kj3 aB aD (IntKind.u64.wrap (a2)) aE aH _ A10.out).mono ?_); rintro e w' ⟨rfl, ⟨nd, rfl⟩⟩; refine ⟨_, rfl, ?_⟩))
      go_ret2
      exact ⟨by first | rfl | (simp; done) | (simp [*]; done), by repeat (first | exact Drawn0.refl _ | apply Drawn0.step)⟩
def ref10_Mean.f (k : Nat) (aG : Int) (aA : List Int) (a1 : Int) : Option (Int) := if (aA.length : Int) = 0 then (some (mx 1 a1)) else ((ref09_Mean.f k aA).bind fun aC => (some (mx 1 aC)))
theorem ref10_Mean.mono : ∀ a0 a1 a2 k, LeO (ref10_Mean.f k a0 a1 a2) (ref10_Mean.f (k + 1) a0 a1 a2) := by
 intro a0 a1 a2 k
 unfold ref10_Mean.f
 with_reducible repeat' first | exact ref09_Mean.mono _ _ | exact LeO.refl _ | exact LeO.none _ | refine LeO.ite ?_ ?_ | refine LeO.bind ?_ (fun _ => ?_)
theorem ref10_Mean.calls (k : Nat) (aG : Int) (aH : Option Addr) (aF : Nat) (aA : List Int) (a1 : Int) (r : Int) (w : World) (aI : Kd.C (Kd.int .i64) w aH aA.length aA) (aJ : aA.length ≤ aF) (h : ref10_Mean.f k aG aA a1 = some r) :
  Calls Try.prog 30 #[.agg #[.int .i64 aG, .slice aH aA.length aF], .int .i64 a1] w fun e w' => e = .returned (.int .i64 r) ∧ Below w.heap.size w w' := by
 have hu34 := Try.underlying34; have aL := Zq_.mk aI; have aM := Zq_.mk aJ; clear aI aJ; have HB := Zq_.mk (Below.refl w.heap.size w); have H : (if (aA.length : Int) = 0 then (some (mx 1 a1)) else ((ref09_Mean.f k aA).bind fun aC => (some (mx 1 aC)))) = some r := h; clear h
 by_cases c3 : (aA.length : Int) = 0
 ·rw [if_pos c3] at H; have c3b0 : ((aA.length : Int) == 0) = true := beq_iff_eq.mpr c3; have c3b1 : ((aA.length : Int) != 0) = false := bne_eq_false_iff_eq.mpr c3; clear c3; obtain ⟨ji4, aE⟩ : ∃ j_ : Int, (mx 1 a1) = j_ := ⟨_, rfl⟩
  replace H : (some ji4) = some r := by first | (rw [aE] at H; exact H) | (simp only [aE] at H ⊢; exact H)
  (try (have hji4l : 1 ≤ ji4 := by (rw [← aE]; unfold mx; (repeat' split) <;> omega))); (try (have hji4m : 0 ≤ ji4 := by omega)); have hji4_ : (if 1 < a1 then a1 else 1) = ji4 := aE; obtain rfl := Option.some.inj H
  go_enter Try.func30, Try.ntmps30
  go_wp2_with (first | ((with_reducible refine qc_ (N := 2) rfl ?_); refine bE_ 2 #[.int .i64 aG, .slice aH aA.length aF] 34 ?_; intro aK hg w5 hbox hb; have aB := Zq_.mk (hbox); have aN := gW_ (w := w) hg (hB_ HB); have aO := gW_ (w := w) hg (hB_ HB); replace HB := sB_ HB hb; clear hb hbox hg; obtain ⟨hcz6_0, hcz6_1⟩ := c2_ aB; obtain ⟨hfz6_0, hfz6_1⟩ := f2_ aB))
  go_ret
  exact ⟨by first | rfl | (simp [errW_none, errW_some] <;> rfl) | (simp only [← aE]; first | rfl | (simp [errW_none, errW_some] <;> rfl)) | (simp [*, errW_none, errW_some] <;> rfl), by exact hSet_ HB⟩
 ·rw [if_neg c3] at H; have c3b0 : ((aA.length : Int) == 0) = false := beq_eq_false_iff_ne.mpr c3; have c3b1 : ((aA.length : Int) != 0) = true := bne_iff_ne.mpr c3
  have c3b2 : ¬ (aA = []) := fun h_ => c3 (by rw [h_]; rfl)
  replace H := ob_ H; obtain ⟨aC, A70, H⟩ := H; (try dsimp only at H); have A7 := Zq_.mk A70; clear A70; obtain ⟨ji8, aD⟩ : ∃ j_ : Int, (mx 1 aC) = j_ := ⟨_, rfl⟩
  replace H : (some ji8) = some r := by first | (rw [aD] at H; exact H) | (simp only [aD] at H ⊢; exact H)
  (try rw [aD] at A7); (try (have hji8l : 1 ≤ ji8 := by (rw [← aD]; unfold mx; (repeat' split) <;> omega))); (try (have hji8m : 0 ≤ ji8 := by omega)); have hji8_ : (if 1 < aC then aC else 1) = ji8 := aD; obtain rfl := Option.some.inj H
  go_enter Try.func30, Try.ntmps30
  go_wp2_with (first | ((with_reducible refine qc_ (N := 2) rfl ?_); refine bE_ 2 #[.int .i64 aG, .slice aH aA.length aF] 34 ?_; intro aK hg w9 hbox hb; have aB := Zq_.mk (hbox); have aN := gW_ (w := w) hg (hB_ HB); have aO := gW_ (w := w) hg (hB_ HB); replace HB := sB_ HB hb; clear hb hbox hg; obtain ⟨hcz10_0, hcz10_1⟩ := c2_ aB; obtain ⟨hfz10_0, hfz10_1⟩ := f2_ aB) | ((with_reducible refine qg_ (f := 57) rfl ?_); refine goesL_ (some 13) rfl rfl Try.func57 (by kernel_rfl) rfl #[.slice aH aA.length aF] rfl aR_ ?_; (with_reducible refine (ref09_Mean.calls k _ _ aA aC _ ?side1 ?side2 A7.out).mono ?_); (case side1 => exact cX_ (Kd.qi_ aL.out HB.out)); (case side2 => exact aM.out); rintro e w11 ⟨rfl, hb⟩; refine ⟨_, rfl, ?_⟩; replace aB := kB_ aB hb; replace HB := sB_ HB hb; (try clear hb)))
  go_ret
  exact ⟨by first | rfl | (simp [errW_none, errW_some] <;> rfl) | (simp only [← aD]; first | rfl | (simp [errW_none, errW_some] <;> rfl)) | (simp [*, errW_none, errW_some] <;> rfl), by exact hSet_ HB⟩
def watch_may.f (aB : Int) (aE : Int) (aF : Int) (aC : Int) (aD : List Int) (aH : Bool) (aG : Int) : Option (Bool) := (watch_within.f aB 0 7).bind fun aT => (if aT = true then ((watch_within.f aE 1 1099511627776).bind fun aS => (if aS = true then ((watch_within.f aF 0 1099511627776).bind fun aR => (if aR = true then (if aC ≥ 0 then ((window_Right.f aC aD).bind fun aQ => (if aQ = true then ((watch_within.f aG 0 1099511627776).bind fun aP => (if aP = true then (if aH = true then (some (aG == 0)) else (some true)) else (some false))) else (some false))) else (some false)) else (some false))) else (some false))) else (some false))
theorem watch_may.calls (aB : Int) (aE : Int) (aF : Int) (aC : Int) (aM : Option Addr) (aL : Nat) (aD : List Int) (aH : Bool) (aG : Int) (r : Bool) (w : World) (aU : Kd.C (Kd.int .i64) w aM aD.length aD) (aV : aD.length ≤ aL) (h : watch_may.f aB aE aF aC aD aH aG = some r) :
  Calls Try.prog 39 #[.agg #[.int .i64 aB, .int .i64 aE, .int .i64 aF, .int .i64 aC, .slice aM aD.length aL, .bool aH, .int .i64 aG]] w fun e w' => e = .returned (.bool r) ∧ Below w.heap.size w w' := by
 have hu36 := Try.underlying36; have hu34 := Try.underlying34; have aN := Zq_.mk aU; have aO := Zq_.mk aV; clear aU aV; have HB := Zq_.mk (Below.refl w.heap.size w); have H : ((watch_within.f aB 0 7).bind fun aT => (if aT = true then ((watch_within.f aE 1 1099511627776).bind fun aS => (if aS = true then ((watch_within.f aF 0 1099511627776).bind fun aR => (if aR = true then (if aC ≥ 0 then ((window_Right.f aC aD).bind fun aQ => (if aQ = true then ((watch_within.f aG 0 1099511627776).bind fun aP => (if aP = true then (if aH = true then (some (aG == 0)) else (some true)) else (some false))) else (some false))) else (some false)) else (some false))) else (some false))) else (some false))) = some r := h; clear h; replace H := ob_ H; obtain ⟨aT, A20, H⟩ := H; (try dsimp only at H); have A2 := Zq_.mk A20; clear A20
 by_cases c3 : aT = true
 ·subst c3
  rw [if_pos rfl] at H; replace H := ob_ H; obtain ⟨aS, A40, H⟩ := H; (try dsimp only at H); have A4 := Zq_.mk A40; clear A40
  by_cases c5 : aS = true
  ·subst c5
   rw [if_pos rfl] at H; replace H := ob_ H; obtain ⟨aR, A60, H⟩ := H; (try dsimp only at H); have A6 := Zq_.mk A60; clear A60
   by_cases c7 : aR = true
   ·subst c7
    rw [if_pos rfl] at H
    by_cases c8 : aC ≥ 0
    ·rw [if_pos c8] at H; have c8b0 : decide (0 ≤ aC) = true := decide_eq_true c8; clear c8; replace H := ob_ H; obtain ⟨aQ, A90, H⟩ := H; (try dsimp only at H); have A9 := Zq_.mk A90; clear A90
     by_cases c10 : aQ = true
     ·subst c10
      rw [if_pos rfl] at H; replace H := ob_ H; obtain ⟨aP, aW, H⟩ := H; (try dsimp only at H); have A11 := Zq_.mk aW; clear aW
      by_cases c12 : aP = true
      ·subst c12
       rw [if_pos rfl] at H
       by_cases c13 : aH = true
       ·subst c13
        rw [if_pos rfl] at H; obtain rfl := Option.some.inj H
        go_enter Try.func39, Try.ntmps39
        go_wp2_with (first | ((with_reducible refine qc_ (N := 1) rfl ?_); refine bE_ 1 #[.int .i64 aB, .int .i64 aE, .int .i64 aF, .int .i64 aC, .slice aM aD.length aL, .bool true, .int .i64 aG] 36 ?_; intro aI hg w14 hbox hb; have aA := Zq_.mk (hbox); have aJ := gW_ (w := w) hg (hB_ HB); have aK := gW_ (w := w) hg (hB_ HB); replace HB := sB_ HB hb; clear hb hbox hg; obtain ⟨hcz15_0, hcz15_1, hcz15_2, hcz15_3, hcz15_4, hcz15_5, hcz15_6⟩ := c7_ aA; obtain ⟨hfz15_0, hfz15_1, hfz15_2, hfz15_3, hfz15_4, hfz15_5, hfz15_6⟩ := f7_ aA) | ((with_reducible refine qg_ (f := 64) rfl ?_); refine goesL_ (some 5) rfl rfl Try.func64 (by kernel_rfl) rfl #[.int .i64 aB, .int .i64 0, .int .i64 7] rfl aR_ ?_; (with_reducible refine (watch_within.calls aB 0 7 true _ A2.out).mono ?_); rintro e w' ⟨rfl, ⟨nd, rfl⟩⟩; refine ⟨_, rfl, ?_⟩) | (go_at_call 64; (with_reducible refine (watch_within.calls aE 1 1099511627776 true _ A4.out).mono ?_); rintro e w' ⟨rfl, ⟨nd, rfl⟩⟩) | (go_at_call 64; (with_reducible refine (watch_within.calls aF 0 1099511627776 true _ A6.out).mono ?_); rintro e w' ⟨rfl, ⟨nd, rfl⟩⟩) | (go_at_call 60; (with_reducible refine (window_Right.calls aC _ _ aD true _ ?side1 ?side2 A9.out).mono ?_); (case side1 => repeat (first | exact (Kd.qi_ aN.out (by exact hSet_ HB)) | (with_reducible refine Kd.C_alloc ?_ _) | (with_reducible refine Kd.C_drewN ?_ _) | (with_reducible refine Kd.C_drew ?_))); (case side2 => exact aO.out); rintro e w16 ⟨rfl, hb⟩; replace aA := kB_ aA hb; replace HB := sB_ HB hb; (try clear hb); obtain ⟨hcz17_0, hcz17_1, hcz17_2, hcz17_3, hcz17_4, hcz17_5, hcz17_6⟩ := c7_ aA; obtain ⟨hfz17_0, hfz17_1, hfz17_2, hfz17_3, hfz17_4, hfz17_5, hfz17_6⟩ := f7_ aA) | (go_at_call 64; (with_reducible refine (watch_within.calls aG 0 1099511627776 true _ A11.out).mono ?_); rintro e w' ⟨rfl, ⟨nd, rfl⟩⟩))
        go_ret
        exact ⟨by exact eW_, by exact hSet_ HB⟩
       ·replace c13 := Bool.eq_false_iff.mpr c13; subst c13
        have H1 : (some true) = some r := by rw [if_neg (show ¬ (false = true) by decide)] at H; exact H
        clear H; have H := H1; clear H1; obtain rfl := Option.some.inj H
        go_enter Try.func39, Try.ntmps39
        go_wp2_with (first | ((with_reducible refine qc_ (N := 1) rfl ?_); refine bE_ 1 #[.int .i64 aB, .int .i64 aE, .int .i64 aF, .int .i64 aC, .slice aM aD.length aL, .bool false, .int .i64 aG] 36 ?_; intro aI hg w18 hbox hb; have aA := Zq_.mk (hbox); have aJ := gW_ (w := w) hg (hB_ HB); have aK := gW_ (w := w) hg (hB_ HB); replace HB := sB_ HB hb; clear hb hbox hg; obtain ⟨hcz19_0, hcz19_1, hcz19_2, hcz19_3, hcz19_4, hcz19_5, hcz19_6⟩ := c7_ aA; obtain ⟨hfz19_0, hfz19_1, hfz19_2, hfz19_3, hfz19_4, hfz19_5, hfz19_6⟩ := f7_ aA) | ((with_reducible refine qg_ (f := 64) rfl ?_); refine goesL_ (some 5) rfl rfl Try.func64 (by kernel_rfl) rfl #[.int .i64 aB, .int .i64 0, .int .i64 7] rfl aR_ ?_; (with_reducible refine (watch_within.calls aB 0 7 true _ A2.out).mono ?_); rintro e w' ⟨rfl, ⟨nd, rfl⟩⟩; refine ⟨_, rfl, ?_⟩) | (go_at_call 64; (with_reducible refine (watch_within.calls aE 1 1099511627776 true _ A4.out).mono ?_); rintro e w' ⟨rfl, ⟨nd, rfl⟩⟩) | (go_at_call 64; (with_reducible refine (watch_within.calls aF 0 1099511627776 true _ A6.out).mono ?_); rintro e w' ⟨rfl, ⟨nd, rfl⟩⟩) | (go_at_call 60; (with_reducible refine (window_Right.calls aC _ _ aD true _ ?side1 ?side2 A9.out).mono ?_); (case side1 => repeat (first | exact (Kd.qi_ aN.out (by exact hSet_ HB)) | (with_reducible refine Kd.C_alloc ?_ _) | (with_reducible refine Kd.C_drewN ?_ _) | (with_reducible refine Kd.C_drew ?_))); (case side2 => exact aO.out); rintro e w20 ⟨rfl, hb⟩; replace aA := kB_ aA hb; replace HB := sB_ HB hb; (try clear hb); obtain ⟨hcz21_0, hcz21_1, hcz21_2, hcz21_3, hcz21_4, hcz21_5, hcz21_6⟩ := c7_ aA; obtain ⟨hfz21_0, hfz21_1, hfz21_2, hfz21_3, hfz21_4, hfz21_5, hfz21_6⟩ := f7_ aA) | (go_at_call 64; (with_reducible refine (watch_within.calls aG 0 1099511627776 true _ A11.out).mono ?_); rintro e w' ⟨rfl, ⟨nd, rfl⟩⟩))
        go_ret
        exact ⟨by exact eW_, by exact hSet_ HB⟩
      ·replace c12 := Bool.eq_false_iff.mpr c12; subst c12
       have H1 : (some false) = some r := by rw [if_neg (show ¬ (false = true) by decide)] at H; exact H
       clear H; have H := H1; clear H1; obtain rfl := Option.some.inj H
       go_enter Try.func39, Try.ntmps39
       go_wp2_with (first | ((with_reducible refine qc_ (N := 1) rfl ?_); refine bE_ 1 #[.int .i64 aB, .int .i64 aE, .int .i64 aF, .int .i64 aC, .slice aM aD.length aL, .bool aH, .int .i64 aG] 36 ?_; intro aI hg w22 hbox hb; have aA := Zq_.mk (hbox); have aJ := gW_ (w := w) hg (hB_ HB); have aK := gW_ (w := w) hg (hB_ HB); replace HB := sB_ HB hb; clear hb hbox hg; obtain ⟨hcz23_0, hcz23_1, hcz23_2, hcz23_3, hcz23_4, hcz23_5, hcz23_6⟩ := c7_ aA; obtain ⟨hfz23_0, hfz23_1, hfz23_2, hfz23_3, hfz23_4, hfz23_5, hfz23_6⟩ := f7_ aA) | ((with_reducible refine qg_ (f := 64) rfl ?_); refine goesL_ (some 5) rfl rfl Try.func64 (by kernel_rfl) rfl #[.int .i64 aB, .int .i64 0, .int .i64 7] rfl aR_ ?_; (with_reducible refine (watch_within.calls aB 0 7 true _ A2.out).mono ?_); rintro e w' ⟨rfl, ⟨nd, rfl⟩⟩; refine ⟨_, rfl, ?_⟩) | (go_at_call 64; (with_reducible refine (watch_within.calls aE 1 1099511627776 true _ A4.out).mono ?_); rintro e w' ⟨rfl, ⟨nd, rfl⟩⟩) | (go_at_call 64; (with_reducible refine (watch_within.calls aF 0 1099511627776 true _ A6.out).mono ?_); rintro e w' ⟨rfl, ⟨nd, rfl⟩⟩) | (go_at_call 60; (with_reducible refine (window_Right.calls aC _ _ aD true _ ?side1 ?side2 A9.out).mono ?_); (case side1 => repeat (first | exact (Kd.qi_ aN.out (by exact hSet_ HB)) | (with_reducible refine Kd.C_alloc ?_ _) | (with_reducible refine Kd.C_drewN ?_ _) | (with_reducible refine Kd.C_drew ?_))); (case side2 => exact aO.out); rintro e w24 ⟨rfl, hb⟩; replace aA := kB_ aA hb; replace HB := sB_ HB hb; (try clear hb); obtain ⟨hcz25_0, hcz25_1, hcz25_2, hcz25_3, hcz25_4, hcz25_5, hcz25_6⟩ := c7_ aA; obtain ⟨hfz25_0, hfz25_1, hfz25_2, hfz25_3, hfz25_4, hfz25_5, hfz25_6⟩ := f7_ aA) | (go_at_call 64; (with_reducible refine (watch_within.calls aG 0 1099511627776 false _ A11.out).mono ?_); rintro e w' ⟨rfl, ⟨nd, rfl⟩⟩))
       go_ret
       exact ⟨by exact eW_, by exact hSet_ HB⟩
     ·replace c10 := Bool.eq_false_iff.mpr c10; subst c10
      have H1 : (some false) = some r := by rw [if_neg (show ¬ (false = true) by decide)] at H; exact H
      clear H; have H := H1; clear H1; obtain rfl := Option.some.inj H
      go_enter Try.func39, Try.ntmps39
      go_wp2_with (first | ((with_reducible refine qc_ (N := 1) rfl ?_); refine bE_ 1 #[.int .i64 aB, .int .i64 aE, .int .i64 aF, .int .i64 aC, .slice aM aD.length aL, .bool aH, .int .i64 aG] 36 ?_; intro aI hg w26 hbox hb; have aA := Zq_.mk (hbox); have aJ := gW_ (w := w) hg (hB_ HB); have aK := gW_ (w := w) hg (hB_ HB); replace HB := sB_ HB hb; clear hb hbox hg; obtain ⟨hcz27_0, hcz27_1, hcz27_2, hcz27_3, hcz27_4, hcz27_5, hcz27_6⟩ := c7_ aA; obtain ⟨hfz27_0, hfz27_1, hfz27_2, hfz27_3, hfz27_4, hfz27_5, hfz27_6⟩ := f7_ aA) | ((with_reducible refine qg_ (f := 64) rfl ?_); refine goesL_ (some 5) rfl rfl Try.func64 (by kernel_rfl) rfl #[.int .i64 aB, .int .i64 0, .int .i64 7] rfl aR_ ?_; (with_reducible refine (watch_within.calls aB 0 7 true _ A2.out).mono ?_); rintro e w' ⟨rfl, ⟨nd, rfl⟩⟩; refine ⟨_, rfl, ?_⟩) | (go_at_call 64; (with_reducible refine (watch_within.calls aE 1 1099511627776 true _ A4.out).mono ?_); rintro e w' ⟨rfl, ⟨nd, rfl⟩⟩) | (go_at_call 64; (with_reducible refine (watch_within.calls aF 0 1099511627776 true _ A6.out).mono ?_); rintro e w' ⟨rfl, ⟨nd, rfl⟩⟩) | (go_at_call 60; (with_reducible refine (window_Right.calls aC _ _ aD false _ ?side1 ?side2 A9.out).mono ?_); (case side1 => repeat (first | exact (Kd.qi_ aN.out (by exact hSet_ HB)) | (with_reducible refine Kd.C_alloc ?_ _) | (with_reducible refine Kd.C_drewN ?_ _) | (with_reducible refine Kd.C_drew ?_))); (case side2 => exact aO.out); rintro e w28 ⟨rfl, hb⟩; replace aA := kB_ aA hb; replace HB := sB_ HB hb; (try clear hb)))
      go_ret
      exact ⟨by exact eW_, by exact hSet_ HB⟩
    ·rw [if_neg c8] at H; have c8b0 : decide (0 ≤ aC) = false := decide_eq_false c8; clear c8; obtain rfl := Option.some.inj H
     go_enter Try.func39, Try.ntmps39
     go_wp2_with (first | ((with_reducible refine qc_ (N := 1) rfl ?_); refine bE_ 1 #[.int .i64 aB, .int .i64 aE, .int .i64 aF, .int .i64 aC, .slice aM aD.length aL, .bool aH, .int .i64 aG] 36 ?_; intro aI hg w29 hbox hb; have aA := Zq_.mk (hbox); have aJ := gW_ (w := w) hg (hB_ HB); have aK := gW_ (w := w) hg (hB_ HB); replace HB := sB_ HB hb; clear hb hbox hg; obtain ⟨hcz30_0, hcz30_1, hcz30_2, hcz30_3, hcz30_4, hcz30_5, hcz30_6⟩ := c7_ aA; obtain ⟨hfz30_0, hfz30_1, hfz30_2, hfz30_3, hfz30_4, hfz30_5, hfz30_6⟩ := f7_ aA) | ((with_reducible refine qg_ (f := 64) rfl ?_); refine goesL_ (some 5) rfl rfl Try.func64 (by kernel_rfl) rfl #[.int .i64 aB, .int .i64 0, .int .i64 7] rfl aR_ ?_; (with_reducible refine (watch_within.calls aB 0 7 true _ A2.out).mono ?_); rintro e w' ⟨rfl, ⟨nd, rfl⟩⟩; refine ⟨_, rfl, ?_⟩) | (go_at_call 64; (with_reducible refine (watch_within.calls aE 1 1099511627776 true _ A4.out).mono ?_); rintro e w' ⟨rfl, ⟨nd, rfl⟩⟩) | (go_at_call 64; (with_reducible refine (watch_within.calls aF 0 1099511627776 true _ A6.out).mono ?_); rintro e w' ⟨rfl, ⟨nd, rfl⟩⟩))
     go_ret
     exact ⟨by exact eW_, by exact hSet_ HB⟩
   ·replace c7 := Bool.eq_false_iff.mpr c7; subst c7
    have H1 : (some false) = some r := by rw [if_neg (show ¬ (false = true) by decide)] at H; exact H
    clear H; have H := H1; clear H1; obtain rfl := Option.some.inj H
    go_enter Try.func39, Try.ntmps39
    go_wp2_with (first | ((with_reducible refine qc_ (N := 1) rfl ?_); refine bE_ 1 #[.int .i64 aB, .int .i64 aE, .int .i64 aF, .int .i64 aC, .slice aM aD.length aL, .bool aH, .int .i64 aG] 36 ?_; intro aI hg w31 hbox hb; have aA := Zq_.mk (hbox); have aJ := gW_ (w := w) hg (hB_ HB); have aK := gW_ (w := w) hg (hB_ HB); replace HB := sB_ HB hb; clear hb hbox hg; obtain ⟨hcz32_0, hcz32_1, hcz32_2, hcz32_3, hcz32_4, hcz32_5, hcz32_6⟩ := c7_ aA; obtain ⟨hfz32_0, hfz32_1, hfz32_2, hfz32_3, hfz32_4, hfz32_5, hfz32_6⟩ := f7_ aA) | ((with_reducible refine qg_ (f := 64) rfl ?_); refine goesL_ (some 5) rfl rfl Try.func64 (by kernel_rfl) rfl #[.int .i64 aB, .int .i64 0, .int .i64 7] rfl aR_ ?_; (with_reducible refine (watch_within.calls aB 0 7 true _ A2.out).mono ?_); rintro e w' ⟨rfl, ⟨nd, rfl⟩⟩; refine ⟨_, rfl, ?_⟩) | (go_at_call 64; (with_reducible refine (watch_within.calls aE 1 1099511627776 true _ A4.out).mono ?_); rintro e w' ⟨rfl, ⟨nd, rfl⟩⟩) | (go_at_call 64; (with_reducible refine (watch_within.calls aF 0 1099511627776 false _ A6.out).mono ?_); rintro e w' ⟨rfl, ⟨nd, rfl⟩⟩))
    go_ret
    exact ⟨by exact eW_, by exact hSet_ HB⟩
  ·replace c5 := Bool.eq_false_iff.mpr c5; subst c5
   have H1 : (some false) = some r := by rw [if_neg (show ¬ (false = true) by decide)] at H; exact H
   clear H; have H := H1; clear H1; obtain rfl := Option.some.inj H
   go_enter Try.func39, Try.ntmps39
   go_wp2_with (first | ((with_reducible refine qc_ (N := 1) rfl ?_); refine bE_ 1 #[.int .i64 aB, .int .i64 aE, .int .i64 aF, .int .i64 aC, .slice aM aD.length aL, .bool aH, .int .i64 aG] 36 ?_; intro aI hg w33 hbox hb; have aA := Zq_.mk (hbox); have aJ := gW_ (w := w) hg (hB_ HB); have aK := gW_ (w := w) hg (hB_ HB); replace HB := sB_ HB hb; clear hb hbox hg; obtain ⟨hcz34_0, hcz34_1, hcz34_2, hcz34_3, hcz34_4, hcz34_5, hcz34_6⟩ := c7_ aA; obtain ⟨hfz34_0, hfz34_1, hfz34_2, hfz34_3, hfz34_4, hfz34_5, hfz34_6⟩ := f7_ aA) | ((with_reducible refine qg_ (f := 64) rfl ?_); refine goesL_ (some 5) rfl rfl Try.func64 (by kernel_rfl) rfl #[.int .i64 aB, .int .i64 0, .int .i64 7] rfl aR_ ?_; (with_reducible refine (watch_within.calls aB 0 7 true _ A2.out).mono ?_); rintro e w' ⟨rfl, ⟨nd, rfl⟩⟩; refine ⟨_, rfl, ?_⟩) | (go_at_call 64; (with_reducible refine (watch_within.calls aE 1 1099511627776 false _ A4.out).mono ?_); rintro e w' ⟨rfl, ⟨nd, rfl⟩⟩))
   go_ret
   exact ⟨by exact eW_, by exact hSet_ HB⟩
 ·replace c3 := Bool.eq_false_iff.mpr c3; subst c3
  have H1 : (some false) = some r := by rw [if_neg (show ¬ (false = true) by decide)] at H; exact H
  clear H; have H := H1; clear H1; obtain rfl := Option.some.inj H
  go_enter Try.func39, Try.ntmps39
  go_wp2_with (first | ((with_reducible refine qc_ (N := 1) rfl ?_); refine bE_ 1 #[.int .i64 aB, .int .i64 aE, .int .i64 aF, .int .i64 aC, .slice aM aD.length aL, .bool aH, .int .i64 aG] 36 ?_; intro aI hg w35 hbox hb; have aA := Zq_.mk (hbox); have aJ := gW_ (w := w) hg (hB_ HB); have aK := gW_ (w := w) hg (hB_ HB); replace HB := sB_ HB hb; clear hb hbox hg; obtain ⟨hcz36_0, hcz36_1, hcz36_2, hcz36_3, hcz36_4, hcz36_5, hcz36_6⟩ := c7_ aA; obtain ⟨hfz36_0, hfz36_1, hfz36_2, hfz36_3, hfz36_4, hfz36_5, hfz36_6⟩ := f7_ aA) | ((with_reducible refine qg_ (f := 64) rfl ?_); refine goesL_ (some 5) rfl rfl Try.func64 (by kernel_rfl) rfl #[.int .i64 aB, .int .i64 0, .int .i64 7] rfl aR_ ?_; (with_reducible refine (watch_within.calls aB 0 7 false _ A2.out).mono ?_); rintro e w' ⟨rfl, ⟨nd, rfl⟩⟩; refine ⟨_, rfl, ?_⟩))
  go_ret
  exact ⟨by exact eW_, by exact hSet_ HB⟩
def ratio_Mean.l0 : Nat → List Int → Int → Int → List Int → Int → Int → Option (Int)
 | 0, _, _, _, _, _, _ => none
 | k + 1, x0, x3, x4, x13, x14, x15 => if x15 < x14 then (if 0 ≤ x15 then (if x15 < (x13.length : Int) then ((ratio_Clamp.f (rd x13 x15) 0 1125899906842624).bind fun aD => ((bits_Add64.f x4 (IntKind.u64.wrap (aD)) 0).bind fun aE => (ratio_Mean.l0 k x0 (IntKind.u64.wrap (x3 + aE.2)) aE.1 x13 x14 (wrap64 (x15 + 1))))) else (none)) else (none)) else ((bits_Div64.f k x3 x4 (IntKind.u64.wrap ((x0.length : Int)))).bind fun aL => (some (wrap64 (aL.1))))
def ratio_Mean.f (k : Nat) (l0 : List Int) : Option (Int) := if (l0.length : Int) = 0 then (some 0) else (ratio_Mean.l0 k l0 0 0 l0 (l0.length : Int) 0)
theorem ratio_Mean.mono_l : ∀ k, (∀ y0 y1 y2 y3 y4 y5, LeO (ratio_Mean.l0 k y0 y1 y2 y3 y4 y5) (ratio_Mean.l0 (k + 1) y0 y1 y2 y3 y4 y5))
 | 0 => fun _ _ _ _ _ _ r h => by simp [ratio_Mean.l0] at h
 | k + 1 => by
  have ih0 := ratio_Mean.mono_l k
  ·intro y0 y1 y2 y3 y4 y5
   unfold ratio_Mean.l0
   with_reducible repeat' first | exact ih0 _ _ _ _ _ _ | exact bits_Div64.mono _ _ _ _ | exact LeO.refl _ | exact LeO.none _ | refine LeO.ite ?_ ?_ | refine LeO.bind ?_ (fun _ => ?_)
theorem ratio_Mean.mono : ∀ a0 k, LeO (ratio_Mean.f k a0) (ratio_Mean.f (k + 1) a0) := by
 intro a0 k; have ih0 := ratio_Mean.mono_l k
 unfold ratio_Mean.f
 with_reducible repeat' first | exact ih0 _ _ _ _ _ _ | exact bits_Div64.mono _ _ _ _ | exact LeO.refl _ | exact LeO.none _ | refine LeO.ite ?_ ?_ | refine LeO.bind ?_ (fun _ => ?_)
theorem ratio_Mean.calls (k : Nat) (A0 : Option Addr) (c0 : Nat) (l0 : List Int) (r : Int) (w : World) (hr0 : Kd.C (Kd.int .i64) w A0 l0.length l0) (hc0 : l0.length ≤ c0) (h : ratio_Mean.f k l0 = some r) :
  Calls Try.prog 76 #[.slice A0 l0.length c0] w fun e w' => e = .returned (.int .i64 r) ∧ Drawn0 w w' := by
 have HR0 := Zq_.mk hr0; have HC0 := Zq_.mk hc0; clear hr0 hc0; have H : (if (l0.length : Int) = 0 then (some 0) else (ratio_Mean.l0 k l0 0 0 l0 (l0.length : Int) 0)) = some r := h; clear h
 by_cases c2 : (l0.length : Int) = 0
 ·rw [if_pos c2] at H; have aK : ((l0.length : Int) == 0) = true := beq_iff_eq.mpr c2; have aJ : ((l0.length : Int) != 0) = false := bne_eq_false_iff_eq.mpr c2; clear c2; obtain rfl := Option.some.inj H
  go_enter Try.func76, Try.ntmps76
  go_wp2
  go_ret
  exact ⟨by first | rfl | (simp; done) | (simp [*]; done), by repeat (first | exact Drawn0.refl _ | apply Drawn0.step)⟩
 ·rw [if_neg c2] at H; have aK : ((l0.length : Int) == 0) = false := beq_eq_false_iff_ne.mpr c2; have aJ : ((l0.length : Int) != 0) = true := bne_iff_ne.mpr c2
  have c2b2 : ¬ (l0 = []) := fun h_ => c2 (by rw [h_]; rfl)
  have H' := Zq_.mk H; clear H
  go_enter Try.func76, Try.ntmps76
  go_wp2
  go_loopg [3, 4, 15] k (fun kq v3 v4 v15 w' => ∃ (aC : Int) (aB : Int) (aA : Int), v3 = .int .u64 aC ∧ v4 = .int .u64 aB ∧ v15 = .int .i64 aA ∧ Zq_ (ratio_Mean.l0 kq l0 aC aB l0 (l0.length : Int) aA = some r) ∧ Zq_ (kq ≤ k) ∧ Drawn0 w w')
  case atStart => exact ⟨(0), (0), (0), eS_, eS_, eS_, H', ⟨Nat.le_refl _⟩, by repeat (first | exact Drawn0.refl _ | apply Drawn0.step)⟩
  case round =>
   clear H'
   try clear c2
   try clear aK
   try clear aJ
   try clear c2b2
   try clear p2
   obtain ⟨aC, aB, aA, rfl, rfl, rfl, HA, HK1, ⟨m1, rfl⟩⟩ := hrel
   cases gk with
   | zero => exact absurd HA.out (by simp [ratio_Mean.l0])
   | succ k1 =>
    have H := HA.out; clear HA; simp only [ratio_Mean.l0] at H
    by_cases c3 : aA < (l0.length : Int)
    ·rw [if_pos c3] at H; have c3b0 : decide (aA < (l0.length : Int)) = true := decide_eq_true c3; clear c3
     by_cases c4 : 0 ≤ aA
     ·rw [if_pos c4] at H; have c4b0 : decide (0 ≤ aA) = true := decide_eq_true c4; clear c4
      by_cases c5 : aA < (l0.length : Int)
      ·rw [if_pos c5] at H; have c5b0 : decide (aA < (l0.length : Int)) = true := decide_eq_true c5; clear c5; replace H := ob_ H; obtain ⟨aD, A60, H⟩ := H; (try dsimp only at H); have A6 := Zq_.mk A60; clear A60; replace H := ob_ H; obtain ⟨⟨aI, aH⟩, A70, H⟩ := H; (try dsimp only at H); have A7 := Zq_.mk A70; clear A70; have H' := Zq_.mk H; clear H; have aG : 0 ≤ (aA : Int) := dA_; have aF : aA < (l0.length : Int) := dA_; obtain ⟨ad101, e101, hx101_0⟩ := Kd.at_int HR0.out aA aG aF; cases e101; replace aG := eq_true aG; replace aF := eq_true aF
       go_wp2_with (first | ((with_reducible refine qg_ (f := 61) rfl ?_); refine goesL_ (some 22) rfl rfl Try.func61 (by kernel_rfl) rfl #[.int .i64 (rd l0 aA), .int .i64 0, .int .i64 1125899906842624] rfl aR_ ?_; (with_reducible refine (ratio_Clamp.calls (rd l0 aA) 0 1125899906842624 aD _ A6.out).mono ?_); rintro e w' ⟨rfl, ⟨nd, rfl⟩⟩; refine ⟨_, rfl, ?_⟩) | (simp only [bits_Add64.run aB (IntKind.u64.wrap (aD)) 0 aI aH _ A7.out]))
       go_roundg k1
       case measure => have := HK1.out; omega
       case rel => exact ⟨(IntKind.u64.wrap (aC + aH)), (aI), (wrap64 (aA + 1)), eS_, eS_, eS_, H', ⟨by have := HK1.out; omega⟩, by repeat (first | exact Drawn0.refl _ | apply Drawn0.step)⟩
      ·rw [if_neg c5] at H; exact absurd H (by simp)
     ·rw [if_neg c4] at H; exact absurd H (by simp)
    ·rw [if_neg c3] at H; have c3b0 : decide (aA < (l0.length : Int)) = false := decide_eq_false c3; clear c3; replace H := ob_ H; obtain ⟨⟨t105, t106⟩, A80, H⟩ := H; (try dsimp only at H); have A8 := Zq_.mk A80; clear A80; obtain rfl := Option.some.inj H
     go_wp2_with (first | ((with_reducible refine qg_ (f := 75) rfl ?_); refine goesL_ (some 37) rfl rfl Try.func75 (by kernel_rfl) rfl #[.int .u64 aC, .int .u64 aB, .int .u64 (IntKind.u64.wrap ((l0.length : Int)))] rfl aR_ ?_; (with_reducible refine (bits_Div64.calls k1 aC aB (IntKind.u64.wrap ((l0.length : Int))) t105 t106 _ A8.out).mono ?_); rintro e w' ⟨rfl, ⟨nd, rfl⟩⟩; refine ⟨_, rfl, ?_⟩))
     go_ret
     exact ⟨by first | rfl | (simp; done) | (simp [*]; done), by repeat (first | exact Drawn0.refl _ | apply Drawn0.step)⟩
def watch_Right.l0 : Nat → List (S36) → List (S36) → Int → Int → Option (Bool)
 | 0, _, _, _, _ => none
 | k + 1, x0, x5, x6, x7 => if x7 < x6 then (if 0 ≤ x7 then (if x7 < (x5.length : Int) then ((watch_may.f ((rd_T36 x5 x7).f0) ((rd_T36 x5 x7).f1) ((rd_T36 x5 x7).f2) ((rd_T36 x5 x7).f3.f0) ((rd_T36 x5 x7).f3.f1) ((rd_T36 x5 x7).f4) ((rd_T36 x5 x7).f5)).bind fun bS => (if bS = true then (if x7 > 0 then (if 0 ≤ (wrap64 (x7 - 1)) then (if (wrap64 (x7 - 1)) < (x0.length : Int) then (if ((rd_T36 x0 (wrap64 (x7 - 1))).f0) ≥ ((rd_T36 x5 x7).f0) then (some false) else (watch_Right.l0 k x0 x5 x6 (wrap64 (x7 + 1)))) else (none)) else (none)) else (watch_Right.l0 k x0 x5 x6 (wrap64 (x7 + 1)))) else (some false))) else (none)) else (none)) else (some true)
def watch_Right.f (k : Nat) (l0 : List (S36)) : Option (Bool) := watch_Right.l0 k l0 l0 (l0.length : Int) 0
theorem watch_Right.mono_l : ∀ k, (∀ y0 y1 y2 y3, LeO (watch_Right.l0 k y0 y1 y2 y3) (watch_Right.l0 (k + 1) y0 y1 y2 y3))
 | 0 => fun _ _ _ _ r h => by simp [watch_Right.l0] at h
 | k + 1 => by
  have ih0 := watch_Right.mono_l k
  ·intro y0 y1 y2 y3
   unfold watch_Right.l0
   with_reducible repeat' first | exact ih0 _ _ _ _ | exact LeO.refl _ | exact LeO.none _ | refine LeO.ite ?_ ?_ | refine LeO.bind ?_ (fun _ => ?_)
theorem watch_Right.mono : ∀ a0 k, LeO (watch_Right.f k a0) (watch_Right.f (k + 1) a0) := by
 intro a0 k; have ih0 := watch_Right.mono_l k
 unfold watch_Right.f
 with_reducible repeat' first | exact ih0 _ _ _ _ | exact LeO.refl _ | exact LeO.none _ | refine LeO.ite ?_ ?_ | refine LeO.bind ?_ (fun _ => ?_)
def watch_Right.T4 : Bool × List (List Nat × List Nat) := (true, [([], []), ([0], [0]), ([1], [1]), ([2, 1], [2]), ([3], [3]), ([4, 3], [3, 4]), ([5, 3, 3], [3, 5]), ([6], [6]), ([6], [6]), ([8, 6], [6, 8]), ([7, 9, 6], [6, 7, 9]), ([10, 6], [6, 10]), ([11, 6], [6, 11]), ([6], [6]), ([13, 6], [6, 13]), ([12, 14, 6], [6, 12, 14]), ([6, 15, 3], [3, 6, 15]), ([3, 16], [3, 16])])
def watch_Right.B4 : List Nat := [0, 1, 3, 7, 15, 31, 63, 127, 127, 383, 1023, 2047, 4095, 127, 8319, 32767, 65535, 131071]
theorem watch_Right.tab4 : rtab .any (opsOf Try.f16 4) = watch_Right.T4 := by kernel_rfl
theorem watch_Right.bits4 : waitsOk watch_Right.T4.2 watch_Right.B4 = true := by kernel_rfl
theorem watch_Right.calls (k : Nat) (A0 : Option Addr) (c0 : Nat) (l0 : List (S36)) (r : Bool) (w : World) (hr0 : Kd.C k36 w A0 l0.length l0) (hc0 : l0.length ≤ c0) (h : watch_Right.f k l0 = some r) :
  Calls Try.prog 16 #[.slice A0 l0.length c0] w fun e w' => e = .returned (.bool r) ∧ Below w.heap.size w w' := by
 have hu36 := Try.underlying36; have HR0 := Zq_.mk hr0; have HC0 := Zq_.mk hc0; clear hr0 hc0; have HB := Zq_.mk (Below.refl w.heap.size w); have H : (watch_Right.l0 k l0 l0 (l0.length : Int) 0) = some r := h; clear h; have H' := Zq_.mk H; clear H
 go_enter Try.func16, Try.ntmps16
 go_wp2
 go_loopg [7] k (fun kq v7 w' => ∃ (aA : Int), v7 = .int .i64 aA ∧ Zq_ (watch_Right.l0 kq l0 l0 (l0.length : Int) aA = some r) ∧ Zq_ (kq ≤ k) ∧ Zq_ (Below w.heap.size w w'))
 case atStart => exact ⟨(0), eS_, H', ⟨Nat.le_refl _⟩, ⟨hB_ HB⟩⟩
 case round =>
  clear H'
  try clear c1
  obtain ⟨aA, rfl, HA, HK1, HB⟩ := hrel
  cases gk with
  | zero => exact absurd HA.out (by simp [watch_Right.l0])
  | succ k1 =>
   have H := HA.out; clear HA; simp only [watch_Right.l0] at H
   by_cases c2 : aA < (l0.length : Int)
   ·rw [if_pos c2] at H; have c2b0 : decide (aA < (l0.length : Int)) = true := decide_eq_true c2; clear c2
    by_cases c3 : 0 ≤ aA
    ·rw [if_pos c3] at H; have c3b0 : decide (0 ≤ aA) = true := decide_eq_true c3; clear c3
     by_cases c4 : aA < (l0.length : Int)
     ·rw [if_pos c4] at H; have c4b0 : decide (aA < (l0.length : Int)) = true := decide_eq_true c4; clear c4; replace H := ob_ H; obtain ⟨bS, A50, H⟩ := H; (try dsimp only at H); have A5 := Zq_.mk A50; clear A50
      by_cases c6 : bS = true
      ·subst c6
       rw [if_pos rfl] at H
       by_cases c7 : aA > 0
       ·rw [if_pos c7] at H; have c7b0 : decide (0 < aA) = true := decide_eq_true c7; clear c7; obtain ⟨ji8, bN⟩ : ∃ j_ : Int, (wrap64 (aA - 1)) = j_ := ⟨_, rfl⟩
        replace H : (if 0 ≤ (ji8) then (if (ji8) < (l0.length : Int) then (if ((rd_T36 l0 (ji8)).f0) ≥ ((rd_T36 l0 aA).f0) then (some false) else (watch_Right.l0 k1 l0 l0 (l0.length : Int) (wrap64 (aA + 1)))) else (none)) else (none)) = some r := by first | (rw [bN] at H; exact H) | (simp only [bN] at H ⊢; exact H)
        (try rw [bN] at A5); have hji8w : (IntKind.i64.wrap (aA - 1)) = ji8 := (i64_w _).trans bN
        by_cases c9 : 0 ≤ (ji8)
        ·rw [if_pos c9] at H; have c9b0 : decide (0 ≤ (ji8)) = true := decide_eq_true c9; clear c9
         by_cases c10 : (ji8) < (l0.length : Int)
         ·rw [if_pos c10] at H; have c10b0 : decide ((ji8) < (l0.length : Int)) = true := decide_eq_true c10; clear c10
          by_cases c11 : ((rd_T36 l0 (ji8)).f0) ≥ ((rd_T36 l0 aA).f0)
          ·rw [if_pos c11] at H; have bW : decide (((rd_T36 l0 aA).f0) ≤ ((rd_T36 l0 (ji8)).f0)) = true := decide_eq_true c11; clear c11; obtain rfl := Option.some.inj H; have aY : 0 ≤ (aA : Int) := dA_; have aX : aA < (l0.length : Int) := dA_; obtain ⟨bJ, aE, aD, bM, aL, aK, aJ, aI, aH, aG, aF, aM, aN⟩ := at_T36 HR0.out aA aY aX; cases bM; replace aL := hC_ HB aL; replace aK := hC_ HB aK; replace aJ := hC_ HB aJ; replace aI := hC_ HB aI; replace aH := hC_ HB aH; replace aG := hC_ HB aG; replace aF := hC_ HB aF; have aV := Zq_.mk aN; have aW := Zq_.mk aM; clear aN aM; replace aY := eq_true aY; replace aX := eq_true aX
           try go_wp2_with (first | ((with_reducible refine qc_ (N := 4) rfl ?_); refine bE_ 4 #[.int .i64 0, .int .i64 0, .int .i64 0, .int .i64 0, .slice none 0 0, .bool false, .int .i64 0] 36 ?_; intro aC hg w12 hbox hb; have aB := Zq_.mk (hbox); have bP := gW_ (w := w) hg (hB_ HB); have bQ := gW_ (w := w) hg (hB_ HB); replace HB := sB_ HB hb; clear hb hbox hg; obtain ⟨hcz13_0, hcz13_1, hcz13_2, hcz13_3, hcz13_4, hcz13_5, hcz13_6⟩ := c7_ aB; obtain ⟨hfz13_0, hfz13_1, hfz13_2, hfz13_3, hfz13_4, hfz13_5, hfz13_6⟩ := f7_ aB))
           obtain ⟨w14, hW_⟩ : ∃ w_, w_ = (((((((w12.setCell ⟨aC, 0, none⟩ (.int .i64 ((rd_T36 l0 aA).f0))).setCell ⟨aC, 1, none⟩ (.int .i64 ((rd_T36 l0 aA).f1))).setCell ⟨aC, 2, none⟩ (.int .i64 ((rd_T36 l0 aA).f2))).setCell ⟨aC, 3, none⟩ (.int .i64 ((rd_T36 l0 aA).f3.f0))).setCell ⟨aC, 4, none⟩ (.slice aE ((rd_T36 l0 aA).f3.f1).length aD)).setCell ⟨aC, 5, none⟩ (.bool ((rd_T36 l0 aA).f4))).setCell ⟨aC, 6, none⟩ (.int .i64 ((rd_T36 l0 aA).f5))) := ⟨_, rfl⟩; have n0_ : Zq_ (w14.heap[aC]? = some (.cells #[.int .i64 ((rd_T36 l0 aA).f0), .int .i64 ((rd_T36 l0 aA).f1), .int .i64 ((rd_T36 l0 aA).f2), .int .i64 ((rd_T36 l0 aA).f3.f0), .slice aE ((rd_T36 l0 aA).f3.f1).length aD, .bool ((rd_T36 l0 aA).f4), .int .i64 ((rd_T36 l0 aA).f5)] 36 (0, 0))) := (by subst hW_; exact ⟨by refine bP_ (cs := #[.int .i64 ((rd_T36 l0 aA).f0), .int .i64 ((rd_T36 l0 aA).f1), .int .i64 ((rd_T36 l0 aA).f2), .int .i64 ((rd_T36 l0 aA).f3.f0), .slice aE ((rd_T36 l0 aA).f3.f1).length aD, .bool ((rd_T36 l0 aA).f4), .int .i64 0]) 6 ?_; refine bP_ (cs := #[.int .i64 ((rd_T36 l0 aA).f0), .int .i64 ((rd_T36 l0 aA).f1), .int .i64 ((rd_T36 l0 aA).f2), .int .i64 ((rd_T36 l0 aA).f3.f0), .slice aE ((rd_T36 l0 aA).f3.f1).length aD, .bool false, .int .i64 0]) 5 ?_; refine bP_ (cs := #[.int .i64 ((rd_T36 l0 aA).f0), .int .i64 ((rd_T36 l0 aA).f1), .int .i64 ((rd_T36 l0 aA).f2), .int .i64 ((rd_T36 l0 aA).f3.f0), .slice none 0 0, .bool false, .int .i64 0]) 4 ?_; refine bP_ (cs := #[.int .i64 ((rd_T36 l0 aA).f0), .int .i64 ((rd_T36 l0 aA).f1), .int .i64 ((rd_T36 l0 aA).f2), .int .i64 0, .slice none 0 0, .bool false, .int .i64 0]) 3 ?_; refine bP_ (cs := #[.int .i64 ((rd_T36 l0 aA).f0), .int .i64 ((rd_T36 l0 aA).f1), .int .i64 0, .int .i64 0, .slice none 0 0, .bool false, .int .i64 0]) 2 ?_; refine bP_ (cs := #[.int .i64 ((rd_T36 l0 aA).f0), .int .i64 0, .int .i64 0, .int .i64 0, .slice none 0 0, .bool false, .int .i64 0]) 1 ?_; refine bP_ (cs := #[.int .i64 0, .int .i64 0, .int .i64 0, .int .i64 0, .slice none 0 0, .bool false, .int .i64 0]) 0 ?_; exact bK_ aB⟩); have n1_ : Zq_ (Below w.heap.size w w14) := (by subst hW_; exact ⟨by exact hSet_ HB⟩); (try clear aB); (try clear HB); rw [← hW_]; clear hW_; have aB := n0_; have HB := n1_; clear n0_ n1_; replace aB := Zq_.mk (qh_ aB.out); replace HB := Zq_.mk (qu_ HB.out); have bL : 0 ≤ ((ji8) : Int) := dA_; have bK : (ji8) < (l0.length : Int) := dA_; obtain ⟨bO, bV, bU, bT, aU, aT, aS, aR, aQ, aP, aO, bG, bH⟩ := at_T36 HR0.out (ji8) bL bK; have aZ := aO; have bA := aP; have bB := aQ; have bC := aR; have bD := aS; have bE := aT; have bF := aU; obtain rfl : bJ = bO := (by injection bT); replace aU := hC_ HB aU; replace aT := hC_ HB aT; replace aS := hC_ HB aS; replace aR := hC_ HB aR; replace aQ := hC_ HB aQ; replace aP := hC_ HB aP; replace aO := hC_ HB aO; have bI := Zq_.mk bH; have bR := Zq_.mk bG; clear bH bG; replace bL := eq_true bL; replace bK := eq_true bK; refine gS_ 18 (hA_ (b0_ aB) (hA_ (b1_ aB) (hA_ (b2_ aB) (hA_ (b3_ aB) (hA_ (b4_ aB) (hA_ (b5_ aB) (hA_ (b6_ aB) (hA_ (hC_ HB bF) (hA_ (hC_ HB bE) (hA_ (hC_ HB bD) (hA_ (hC_ HB bC) (hA_ (hC_ HB bB) (hA_ (hC_ HB bA) (hZ_ (hC_ HB aZ))))))))))))))) (fun hHeld => ?_); refine vn_ watch_Right.tab4 watch_Right.bits4 (fun HT_ HW_ => ?_); generalize w14.drew = w15 at aB HB bI aU aT aS aR aQ aP aO hHeld ⊢; refine tL_ 0 HT_ HW_ hHeld ?_; refine oN_ 1 13 18 3 HT_ (fun K hK => ?_); refine goes_ Try.func39 (by kernel_rfl) rfl #[.agg #[.int .i64 ((rd_T36 l0 aA).f0), .int .i64 ((rd_T36 l0 aA).f1), .int .i64 ((rd_T36 l0 aA).f2), .int .i64 ((rd_T36 l0 aA).f3.f0), .slice aE ((rd_T36 l0 aA).f3.f1).length aD, .bool ((rd_T36 l0 aA).f4), .int .i64 ((rd_T36 l0 aA).f5)]] (by rfl) rfl rfl aR_ ?_
           with_reducible refine (watch_may.calls ((rd_T36 l0 aA).f0) ((rd_T36 l0 aA).f1) ((rd_T36 l0 aA).f2) ((rd_T36 l0 aA).f3.f0) _ _ ((rd_T36 l0 aA).f3.f1) ((rd_T36 l0 aA).f4) ((rd_T36 l0 aA).f5) true _ ?side1 ?side2 A5.out).mono ?_
           (case side1 => exact cX_ (Kd.qi_ aV.out HB.out)); (case side2 => exact aW.out); rintro e w16 ⟨rfl, hb⟩; refine ⟨_, rfl, ?_⟩; replace aB := kB_ aB hb; replace HB := sB_ HB hb; (try clear hb); refine hK.out _ _ ⟨b0_ aB, b1_ aB, b2_ aB, b3_ aB, b4_ aB, b5_ aB, b6_ aB, (hC_ HB bF), (hC_ HB bE), (hC_ HB bD), (hC_ HB bC), (hC_ HB bB), (hC_ HB bA), (hC_ HB aZ)⟩ (fun hHeld => ?_); clear hK K; refine norm_ (a' := ?_) ?_ ?_; rotate_left
           ·show Act.put _ (some 13) _ = _
            simp only [Act.put, sa_, sb_, sc_, i64_w, i32_w]; rfl
           refine up0_ 2 ?_; (iterate 10 refine pN_ ?_); refine pQ_ 13 HT_ ?_; refine tL_ 12 HT_ HW_ hHeld ?_; refine up0_ 14 ?_; (iterate 4 first | refine pN_ ?_ | refine tN_ ?_); refine dN_ HT_ ?_; (try go_wp2)
           go_ret
           exact ⟨by first | rfl | (simp [errW_none, errW_some] <;> rfl) | (simp only [← bN]; first | rfl | (simp [errW_none, errW_some] <;> rfl)) | (simp [*, errW_none, errW_some] <;> rfl), by exact hSet_ HB⟩
          ·rw [if_neg c11] at H; have bW : decide (((rd_T36 l0 aA).f0) ≤ ((rd_T36 l0 (ji8)).f0)) = false := decide_eq_false c11; clear c11; have H' := Zq_.mk H; clear H; have aY : 0 ≤ (aA : Int) := dA_; have aX : aA < (l0.length : Int) := dA_; obtain ⟨bJ, aE, aD, bM, aL, aK, aJ, aI, aH, aG, aF, aM, aN⟩ := at_T36 HR0.out aA aY aX; cases bM; replace aL := hC_ HB aL; replace aK := hC_ HB aK; replace aJ := hC_ HB aJ; replace aI := hC_ HB aI; replace aH := hC_ HB aH; replace aG := hC_ HB aG; replace aF := hC_ HB aF; have aV := Zq_.mk aN; have aW := Zq_.mk aM; clear aN aM; replace aY := eq_true aY; replace aX := eq_true aX
           try go_wp2_with (first | ((with_reducible refine qc_ (N := 4) rfl ?_); refine bE_ 4 #[.int .i64 0, .int .i64 0, .int .i64 0, .int .i64 0, .slice none 0 0, .bool false, .int .i64 0] 36 ?_; intro aC hg w17 hbox hb; have aB := Zq_.mk (hbox); have bP := gW_ (w := w) hg (hB_ HB); have bQ := gW_ (w := w) hg (hB_ HB); replace HB := sB_ HB hb; clear hb hbox hg; obtain ⟨hcz18_0, hcz18_1, hcz18_2, hcz18_3, hcz18_4, hcz18_5, hcz18_6⟩ := c7_ aB; obtain ⟨hfz18_0, hfz18_1, hfz18_2, hfz18_3, hfz18_4, hfz18_5, hfz18_6⟩ := f7_ aB))
           obtain ⟨w19, hW_⟩ : ∃ w_, w_ = (((((((w17.setCell ⟨aC, 0, none⟩ (.int .i64 ((rd_T36 l0 aA).f0))).setCell ⟨aC, 1, none⟩ (.int .i64 ((rd_T36 l0 aA).f1))).setCell ⟨aC, 2, none⟩ (.int .i64 ((rd_T36 l0 aA).f2))).setCell ⟨aC, 3, none⟩ (.int .i64 ((rd_T36 l0 aA).f3.f0))).setCell ⟨aC, 4, none⟩ (.slice aE ((rd_T36 l0 aA).f3.f1).length aD)).setCell ⟨aC, 5, none⟩ (.bool ((rd_T36 l0 aA).f4))).setCell ⟨aC, 6, none⟩ (.int .i64 ((rd_T36 l0 aA).f5))) := ⟨_, rfl⟩; have n0_ : Zq_ (w19.heap[aC]? = some (.cells #[.int .i64 ((rd_T36 l0 aA).f0), .int .i64 ((rd_T36 l0 aA).f1), .int .i64 ((rd_T36 l0 aA).f2), .int .i64 ((rd_T36 l0 aA).f3.f0), .slice aE ((rd_T36 l0 aA).f3.f1).length aD, .bool ((rd_T36 l0 aA).f4), .int .i64 ((rd_T36 l0 aA).f5)] 36 (0, 0))) := (by subst hW_; exact ⟨by refine bP_ (cs := #[.int .i64 ((rd_T36 l0 aA).f0), .int .i64 ((rd_T36 l0 aA).f1), .int .i64 ((rd_T36 l0 aA).f2), .int .i64 ((rd_T36 l0 aA).f3.f0), .slice aE ((rd_T36 l0 aA).f3.f1).length aD, .bool ((rd_T36 l0 aA).f4), .int .i64 0]) 6 ?_; refine bP_ (cs := #[.int .i64 ((rd_T36 l0 aA).f0), .int .i64 ((rd_T36 l0 aA).f1), .int .i64 ((rd_T36 l0 aA).f2), .int .i64 ((rd_T36 l0 aA).f3.f0), .slice aE ((rd_T36 l0 aA).f3.f1).length aD, .bool false, .int .i64 0]) 5 ?_; refine bP_ (cs := #[.int .i64 ((rd_T36 l0 aA).f0), .int .i64 ((rd_T36 l0 aA).f1), .int .i64 ((rd_T36 l0 aA).f2), .int .i64 ((rd_T36 l0 aA).f3.f0), .slice none 0 0, .bool false, .int .i64 0]) 4 ?_; refine bP_ (cs := #[.int .i64 ((rd_T36 l0 aA).f0), .int .i64 ((rd_T36 l0 aA).f1), .int .i64 ((rd_T36 l0 aA).f2), .int .i64 0, .slice none 0 0, .bool false, .int .i64 0]) 3 ?_; refine bP_ (cs := #[.int .i64 ((rd_T36 l0 aA).f0), .int .i64 ((rd_T36 l0 aA).f1), .int .i64 0, .int .i64 0, .slice none 0 0, .bool false, .int .i64 0]) 2 ?_; refine bP_ (cs := #[.int .i64 ((rd_T36 l0 aA).f0), .int .i64 0, .int .i64 0, .int .i64 0, .slice none 0 0, .bool false, .int .i64 0]) 1 ?_; refine bP_ (cs := #[.int .i64 0, .int .i64 0, .int .i64 0, .int .i64 0, .slice none 0 0, .bool false, .int .i64 0]) 0 ?_; exact bK_ aB⟩); have n1_ : Zq_ (Below w.heap.size w w19) := (by subst hW_; exact ⟨by exact hSet_ HB⟩); (try clear aB); (try clear HB); rw [← hW_]; clear hW_; have aB := n0_; have HB := n1_; clear n0_ n1_; replace aB := Zq_.mk (qh_ aB.out); replace HB := Zq_.mk (qu_ HB.out); have bL : 0 ≤ ((ji8) : Int) := dA_; have bK : (ji8) < (l0.length : Int) := dA_; obtain ⟨bO, bV, bU, bT, aU, aT, aS, aR, aQ, aP, aO, bG, bH⟩ := at_T36 HR0.out (ji8) bL bK; have aZ := aO; have bA := aP; have bB := aQ; have bC := aR; have bD := aS; have bE := aT; have bF := aU; obtain rfl : bJ = bO := (by injection bT); replace aU := hC_ HB aU; replace aT := hC_ HB aT; replace aS := hC_ HB aS; replace aR := hC_ HB aR; replace aQ := hC_ HB aQ; replace aP := hC_ HB aP; replace aO := hC_ HB aO; have bI := Zq_.mk bH; have bR := Zq_.mk bG; clear bH bG; replace bL := eq_true bL; replace bK := eq_true bK; refine gS_ 18 (hA_ (b0_ aB) (hA_ (b1_ aB) (hA_ (b2_ aB) (hA_ (b3_ aB) (hA_ (b4_ aB) (hA_ (b5_ aB) (hA_ (b6_ aB) (hA_ (hC_ HB bF) (hA_ (hC_ HB bE) (hA_ (hC_ HB bD) (hA_ (hC_ HB bC) (hA_ (hC_ HB bB) (hA_ (hC_ HB bA) (hZ_ (hC_ HB aZ))))))))))))))) (fun hHeld => ?_); refine vn_ watch_Right.tab4 watch_Right.bits4 (fun HT_ HW_ => ?_); generalize w19.drew = w20 at aB HB bI aU aT aS aR aQ aP aO hHeld ⊢; refine tL_ 0 HT_ HW_ hHeld ?_; refine oN_ 1 13 18 3 HT_ (fun K hK => ?_); refine goes_ Try.func39 (by kernel_rfl) rfl #[.agg #[.int .i64 ((rd_T36 l0 aA).f0), .int .i64 ((rd_T36 l0 aA).f1), .int .i64 ((rd_T36 l0 aA).f2), .int .i64 ((rd_T36 l0 aA).f3.f0), .slice aE ((rd_T36 l0 aA).f3.f1).length aD, .bool ((rd_T36 l0 aA).f4), .int .i64 ((rd_T36 l0 aA).f5)]] (by rfl) rfl rfl aR_ ?_
           with_reducible refine (watch_may.calls ((rd_T36 l0 aA).f0) ((rd_T36 l0 aA).f1) ((rd_T36 l0 aA).f2) ((rd_T36 l0 aA).f3.f0) _ _ ((rd_T36 l0 aA).f3.f1) ((rd_T36 l0 aA).f4) ((rd_T36 l0 aA).f5) true _ ?side1 ?side2 A5.out).mono ?_
           (case side1 => exact cX_ (Kd.qi_ aV.out HB.out)); (case side2 => exact aW.out); rintro e w21 ⟨rfl, hb⟩; refine ⟨_, rfl, ?_⟩; replace aB := kB_ aB hb; replace HB := sB_ HB hb; (try clear hb); refine hK.out _ _ ⟨b0_ aB, b1_ aB, b2_ aB, b3_ aB, b4_ aB, b5_ aB, b6_ aB, (hC_ HB bF), (hC_ HB bE), (hC_ HB bD), (hC_ HB bC), (hC_ HB bB), (hC_ HB bA), (hC_ HB aZ)⟩ (fun hHeld => ?_); clear hK K; refine norm_ (a' := ?_) ?_ ?_; rotate_left
           ·show Act.put _ (some 13) _ = _
            simp only [Act.put, sa_, sb_, sc_, i64_w, i32_w]; rfl
           refine up0_ 2 ?_; (iterate 10 refine pN_ ?_); refine pQ_ 13 HT_ ?_; refine tL_ 12 HT_ HW_ hHeld ?_; refine up0_ 14 ?_; (iterate 4 first | refine pN_ ?_ | refine tN_ ?_); refine dN_ HT_ ?_; (try go_wp2)
           go_roundg k1
           case measure => have := HK1.out; omega
           case rel => exact ⟨(wrap64 (aA + 1)), eS_, H', ⟨by have := HK1.out; omega⟩, ⟨by exact hSet_ HB⟩⟩
         ·rw [if_neg c10] at H; exact absurd H (by simp)
        ·rw [if_neg c9] at H; exact absurd H (by simp)
       ·rw [if_neg c7] at H; have c7b0 : decide (0 < aA) = false := decide_eq_false c7; clear c7; have H' := Zq_.mk H; clear H; have aY : 0 ≤ (aA : Int) := dA_; have aX : aA < (l0.length : Int) := dA_; obtain ⟨bJ, aE, aD, bM, aL, aK, aJ, aI, aH, aG, aF, aM, aN⟩ := at_T36 HR0.out aA aY aX; cases bM; replace aL := hC_ HB aL; replace aK := hC_ HB aK; replace aJ := hC_ HB aJ; replace aI := hC_ HB aI; replace aH := hC_ HB aH; replace aG := hC_ HB aG; replace aF := hC_ HB aF; have aV := Zq_.mk aN; have aW := Zq_.mk aM; clear aN aM; replace aY := eq_true aY; replace aX := eq_true aX
        try go_wp2_with (first | ((with_reducible refine qc_ (N := 4) rfl ?_); refine bE_ 4 #[.int .i64 0, .int .i64 0, .int .i64 0, .int .i64 0, .slice none 0 0, .bool false, .int .i64 0] 36 ?_; intro aC hg w22 hbox hb; have aB := Zq_.mk (hbox); have bP := gW_ (w := w) hg (hB_ HB); have bQ := gW_ (w := w) hg (hB_ HB); replace HB := sB_ HB hb; clear hb hbox hg; obtain ⟨hcz23_0, hcz23_1, hcz23_2, hcz23_3, hcz23_4, hcz23_5, hcz23_6⟩ := c7_ aB; obtain ⟨hfz23_0, hfz23_1, hfz23_2, hfz23_3, hfz23_4, hfz23_5, hfz23_6⟩ := f7_ aB))
        obtain ⟨w24, hW_⟩ : ∃ w_, w_ = (((((((w22.setCell ⟨aC, 0, none⟩ (.int .i64 ((rd_T36 l0 aA).f0))).setCell ⟨aC, 1, none⟩ (.int .i64 ((rd_T36 l0 aA).f1))).setCell ⟨aC, 2, none⟩ (.int .i64 ((rd_T36 l0 aA).f2))).setCell ⟨aC, 3, none⟩ (.int .i64 ((rd_T36 l0 aA).f3.f0))).setCell ⟨aC, 4, none⟩ (.slice aE ((rd_T36 l0 aA).f3.f1).length aD)).setCell ⟨aC, 5, none⟩ (.bool ((rd_T36 l0 aA).f4))).setCell ⟨aC, 6, none⟩ (.int .i64 ((rd_T36 l0 aA).f5))) := ⟨_, rfl⟩; have n0_ : Zq_ (w24.heap[aC]? = some (.cells #[.int .i64 ((rd_T36 l0 aA).f0), .int .i64 ((rd_T36 l0 aA).f1), .int .i64 ((rd_T36 l0 aA).f2), .int .i64 ((rd_T36 l0 aA).f3.f0), .slice aE ((rd_T36 l0 aA).f3.f1).length aD, .bool ((rd_T36 l0 aA).f4), .int .i64 ((rd_T36 l0 aA).f5)] 36 (0, 0))) := (by subst hW_; exact ⟨by refine bP_ (cs := #[.int .i64 ((rd_T36 l0 aA).f0), .int .i64 ((rd_T36 l0 aA).f1), .int .i64 ((rd_T36 l0 aA).f2), .int .i64 ((rd_T36 l0 aA).f3.f0), .slice aE ((rd_T36 l0 aA).f3.f1).length aD, .bool ((rd_T36 l0 aA).f4), .int .i64 0]) 6 ?_; refine bP_ (cs := #[.int .i64 ((rd_T36 l0 aA).f0), .int .i64 ((rd_T36 l0 aA).f1), .int .i64 ((rd_T36 l0 aA).f2), .int .i64 ((rd_T36 l0 aA).f3.f0), .slice aE ((rd_T36 l0 aA).f3.f1).length aD, .bool false, .int .i64 0]) 5 ?_; refine bP_ (cs := #[.int .i64 ((rd_T36 l0 aA).f0), .int .i64 ((rd_T36 l0 aA).f1), .int .i64 ((rd_T36 l0 aA).f2), .int .i64 ((rd_T36 l0 aA).f3.f0), .slice none 0 0, .bool false, .int .i64 0]) 4 ?_; refine bP_ (cs := #[.int .i64 ((rd_T36 l0 aA).f0), .int .i64 ((rd_T36 l0 aA).f1), .int .i64 ((rd_T36 l0 aA).f2), .int .i64 0, .slice none 0 0, .bool false, .int .i64 0]) 3 ?_; refine bP_ (cs := #[.int .i64 ((rd_T36 l0 aA).f0), .int .i64 ((rd_T36 l0 aA).f1), .int .i64 0, .int .i64 0, .slice none 0 0, .bool false, .int .i64 0]) 2 ?_; refine bP_ (cs := #[.int .i64 ((rd_T36 l0 aA).f0), .int .i64 0, .int .i64 0, .int .i64 0, .slice none 0 0, .bool false, .int .i64 0]) 1 ?_; refine bP_ (cs := #[.int .i64 0, .int .i64 0, .int .i64 0, .int .i64 0, .slice none 0 0, .bool false, .int .i64 0]) 0 ?_; exact bK_ aB⟩); have n1_ : Zq_ (Below w.heap.size w w24) := (by subst hW_; exact ⟨by exact hSet_ HB⟩); (try clear aB); (try clear HB); rw [← hW_]; clear hW_; have aB := n0_; have HB := n1_; clear n0_ n1_; replace aB := Zq_.mk (qh_ aB.out); replace HB := Zq_.mk (qu_ HB.out); refine gS_ 18 (hA_ (b0_ aB) (hA_ (b1_ aB) (hA_ (b2_ aB) (hA_ (b3_ aB) (hA_ (b4_ aB) (hA_ (b5_ aB) (hZ_ (b6_ aB)))))))) (fun hHeld => ?_); refine vn_ watch_Right.tab4 watch_Right.bits4 (fun HT_ HW_ => ?_); generalize w24.drew = w25 at aB HB hHeld ⊢; refine tL_ 0 HT_ HW_ hHeld ?_; refine oN_ 1 13 18 3 HT_ (fun K hK => ?_); refine goes_ Try.func39 (by kernel_rfl) rfl #[.agg #[.int .i64 ((rd_T36 l0 aA).f0), .int .i64 ((rd_T36 l0 aA).f1), .int .i64 ((rd_T36 l0 aA).f2), .int .i64 ((rd_T36 l0 aA).f3.f0), .slice aE ((rd_T36 l0 aA).f3.f1).length aD, .bool ((rd_T36 l0 aA).f4), .int .i64 ((rd_T36 l0 aA).f5)]] (by rfl) rfl rfl aR_ ?_
        with_reducible refine (watch_may.calls ((rd_T36 l0 aA).f0) ((rd_T36 l0 aA).f1) ((rd_T36 l0 aA).f2) ((rd_T36 l0 aA).f3.f0) _ _ ((rd_T36 l0 aA).f3.f1) ((rd_T36 l0 aA).f4) ((rd_T36 l0 aA).f5) true _ ?side1 ?side2 A5.out).mono ?_
        (case side1 => exact cX_ (Kd.qi_ aV.out HB.out)); (case side2 => exact aW.out); rintro e w26 ⟨rfl, hb⟩; refine ⟨_, rfl, ?_⟩; replace aB := kB_ aB hb; replace HB := sB_ HB hb; (try clear hb); refine hK.out _ _ (c7_ aB) (fun hHeld => ?_); clear hK K; refine norm_ (a' := ?_) ?_ ?_; rotate_left
        ·show Act.put _ (some 13) _ = _
         simp only [Act.put, sa_, sb_, sc_, i64_w, i32_w]; rfl
        refine up0_ 2 ?_; (iterate 16 first | refine vN_ ?_ | refine pN_ ?_); refine dN_ HT_ ?_; (try go_wp2)
        go_roundg k1
        case measure => have := HK1.out; omega
        case rel => exact ⟨(wrap64 (aA + 1)), eS_, H', ⟨by have := HK1.out; omega⟩, ⟨by exact hSet_ HB⟩⟩
      ·replace c6 := Bool.eq_false_iff.mpr c6; subst c6
       have H1 : (some false) = some r := by rw [if_neg (show ¬ (false = true) by decide)] at H; exact H
       clear H; have H := H1; clear H1; obtain rfl := Option.some.inj H; have aY : 0 ≤ (aA : Int) := dA_; have aX : aA < (l0.length : Int) := dA_; obtain ⟨bJ, aE, aD, bM, aL, aK, aJ, aI, aH, aG, aF, aM, aN⟩ := at_T36 HR0.out aA aY aX; cases bM; replace aL := hC_ HB aL; replace aK := hC_ HB aK; replace aJ := hC_ HB aJ; replace aI := hC_ HB aI; replace aH := hC_ HB aH; replace aG := hC_ HB aG; replace aF := hC_ HB aF; have aV := Zq_.mk aN; have aW := Zq_.mk aM; clear aN aM; replace aY := eq_true aY; replace aX := eq_true aX
       try go_wp2_with (first | ((with_reducible refine qc_ (N := 4) rfl ?_); refine bE_ 4 #[.int .i64 0, .int .i64 0, .int .i64 0, .int .i64 0, .slice none 0 0, .bool false, .int .i64 0] 36 ?_; intro aC hg w27 hbox hb; have aB := Zq_.mk (hbox); have bP := gW_ (w := w) hg (hB_ HB); have bQ := gW_ (w := w) hg (hB_ HB); replace HB := sB_ HB hb; clear hb hbox hg; obtain ⟨hcz28_0, hcz28_1, hcz28_2, hcz28_3, hcz28_4, hcz28_5, hcz28_6⟩ := c7_ aB; obtain ⟨hfz28_0, hfz28_1, hfz28_2, hfz28_3, hfz28_4, hfz28_5, hfz28_6⟩ := f7_ aB))
       obtain ⟨w29, hW_⟩ : ∃ w_, w_ = (((((((w27.setCell ⟨aC, 0, none⟩ (.int .i64 ((rd_T36 l0 aA).f0))).setCell ⟨aC, 1, none⟩ (.int .i64 ((rd_T36 l0 aA).f1))).setCell ⟨aC, 2, none⟩ (.int .i64 ((rd_T36 l0 aA).f2))).setCell ⟨aC, 3, none⟩ (.int .i64 ((rd_T36 l0 aA).f3.f0))).setCell ⟨aC, 4, none⟩ (.slice aE ((rd_T36 l0 aA).f3.f1).length aD)).setCell ⟨aC, 5, none⟩ (.bool ((rd_T36 l0 aA).f4))).setCell ⟨aC, 6, none⟩ (.int .i64 ((rd_T36 l0 aA).f5))) := ⟨_, rfl⟩; have n0_ : Zq_ (w29.heap[aC]? = some (.cells #[.int .i64 ((rd_T36 l0 aA).f0), .int .i64 ((rd_T36 l0 aA).f1), .int .i64 ((rd_T36 l0 aA).f2), .int .i64 ((rd_T36 l0 aA).f3.f0), .slice aE ((rd_T36 l0 aA).f3.f1).length aD, .bool ((rd_T36 l0 aA).f4), .int .i64 ((rd_T36 l0 aA).f5)] 36 (0, 0))) := (by subst hW_; exact ⟨by refine bP_ (cs := #[.int .i64 ((rd_T36 l0 aA).f0), .int .i64 ((rd_T36 l0 aA).f1), .int .i64 ((rd_T36 l0 aA).f2), .int .i64 ((rd_T36 l0 aA).f3.f0), .slice aE ((rd_T36 l0 aA).f3.f1).length aD, .bool ((rd_T36 l0 aA).f4), .int .i64 0]) 6 ?_; refine bP_ (cs := #[.int .i64 ((rd_T36 l0 aA).f0), .int .i64 ((rd_T36 l0 aA).f1), .int .i64 ((rd_T36 l0 aA).f2), .int .i64 ((rd_T36 l0 aA).f3.f0), .slice aE ((rd_T36 l0 aA).f3.f1).length aD, .bool false, .int .i64 0]) 5 ?_; refine bP_ (cs := #[.int .i64 ((rd_T36 l0 aA).f0), .int .i64 ((rd_T36 l0 aA).f1), .int .i64 ((rd_T36 l0 aA).f2), .int .i64 ((rd_T36 l0 aA).f3.f0), .slice none 0 0, .bool false, .int .i64 0]) 4 ?_; refine bP_ (cs := #[.int .i64 ((rd_T36 l0 aA).f0), .int .i64 ((rd_T36 l0 aA).f1), .int .i64 ((rd_T36 l0 aA).f2), .int .i64 0, .slice none 0 0, .bool false, .int .i64 0]) 3 ?_; refine bP_ (cs := #[.int .i64 ((rd_T36 l0 aA).f0), .int .i64 ((rd_T36 l0 aA).f1), .int .i64 0, .int .i64 0, .slice none 0 0, .bool false, .int .i64 0]) 2 ?_; refine bP_ (cs := #[.int .i64 ((rd_T36 l0 aA).f0), .int .i64 0, .int .i64 0, .int .i64 0, .slice none 0 0, .bool false, .int .i64 0]) 1 ?_; refine bP_ (cs := #[.int .i64 0, .int .i64 0, .int .i64 0, .int .i64 0, .slice none 0 0, .bool false, .int .i64 0]) 0 ?_; exact bK_ aB⟩); have n1_ : Zq_ (Below w.heap.size w w29) := (by subst hW_; exact ⟨by exact hSet_ HB⟩); (try clear aB); (try clear HB); rw [← hW_]; clear hW_; have aB := n0_; have HB := n1_; clear n0_ n1_; replace aB := Zq_.mk (qh_ aB.out); replace HB := Zq_.mk (qu_ HB.out); refine gS_ 18 (hA_ (b0_ aB) (hA_ (b1_ aB) (hA_ (b2_ aB) (hA_ (b3_ aB) (hA_ (b4_ aB) (hA_ (b5_ aB) (hZ_ (b6_ aB)))))))) (fun hHeld => ?_); refine vn_ watch_Right.tab4 watch_Right.bits4 (fun HT_ HW_ => ?_); generalize w29.drew = w30 at aB HB hHeld ⊢; refine tL_ 0 HT_ HW_ hHeld ?_; refine oN_ 1 13 18 3 HT_ (fun K hK => ?_); refine goes_ Try.func39 (by kernel_rfl) rfl #[.agg #[.int .i64 ((rd_T36 l0 aA).f0), .int .i64 ((rd_T36 l0 aA).f1), .int .i64 ((rd_T36 l0 aA).f2), .int .i64 ((rd_T36 l0 aA).f3.f0), .slice aE ((rd_T36 l0 aA).f3.f1).length aD, .bool ((rd_T36 l0 aA).f4), .int .i64 ((rd_T36 l0 aA).f5)]] (by rfl) rfl rfl aR_ ?_
       with_reducible refine (watch_may.calls ((rd_T36 l0 aA).f0) ((rd_T36 l0 aA).f1) ((rd_T36 l0 aA).f2) ((rd_T36 l0 aA).f3.f0) _ _ ((rd_T36 l0 aA).f3.f1) ((rd_T36 l0 aA).f4) ((rd_T36 l0 aA).f5) false _ ?side1 ?side2 A5.out).mono ?_
       (case side1 => exact cX_ (Kd.qi_ aV.out HB.out)); (case side2 => exact aW.out); rintro e w31 ⟨rfl, hb⟩; refine ⟨_, rfl, ?_⟩; replace aB := kB_ aB hb; replace HB := sB_ HB hb; (try clear hb); refine hK.out _ _ (c7_ aB) (fun hHeld => ?_); clear hK K; refine norm_ (a' := ?_) ?_ ?_; rotate_left
       ·show Act.put _ (some 13) _ = _
        simp only [Act.put, sa_, sb_, sc_, i64_w, i32_w]; rfl
       refine up0_ 2 ?_; (iterate 16 first | refine vN_ ?_ | refine pN_ ?_); refine dN_ HT_ ?_; (try go_wp2)
       go_ret
       exact ⟨by exact eW_, by exact hSet_ HB⟩
     ·rw [if_neg c4] at H; exact absurd H (by simp)
    ·rw [if_neg c3] at H; exact absurd H (by simp)
   ·rw [if_neg c2] at H; have c2b0 : decide (aA < (l0.length : Int)) = false := decide_eq_false c2; clear c2; obtain rfl := Option.some.inj H
    go_wp2
    go_ret
    exact ⟨by exact eW_, hB_ HB⟩
end Go.Proofs.Ytoghjpoblbdnpaa.P

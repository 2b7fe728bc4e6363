/- What this function of the program comes to, and that the machine's call does it. No condition. -/
import Derived.Test.YtfoeahjbkmdgfaaPRef04Get
namespace Go.Proofs.Ytfoeahjbkmdgfaa.P
set_option maxHeartbeats 8000000
set_option maxRecDepth 100000
open Go.RowKit Go.Proofs.YtfoeahjbkmdgfaaW.PrintWords Go.Proofs.YtfoeahjbkmdgfaaW.PrintLast Go.Proofs.YtfoeahjbkmdgfaaW.PrintMore
attribute [local go_sem] qw_ qu_ va_ qz_ qq_ qp_ qv_ qt_ Go.Proofs.YtfoeahjbkmdgfaaW.Hw.string_gtr
set_option linter.unusedVariables false
set_option linter.unusedSimpArgs false
def ref04_Right.l0 : Nat → List (S40) → Int → Option (Bool)
 | 0, _, _ => none
 | k + 1, x0, x3 => if x3 < (x0.length : Int) then (if 0 ≤ x3 then ((ref04_May.f ((rd_T40 x0 x3).f0) ((rd_T40 x0 x3).f1) ((rd_T40 x0 x3).f2)).bind fun bE => (if bE = true then (if x3 > 0 then (if 0 ≤ (wrap64 (x3 - 1)) then (if (wrap64 (x3 - 1)) < (x0.length : Int) then (if ((rd_T40 x0 (wrap64 (x3 - 1))).f0) ≥ ((rd_T40 x0 x3).f0) then (some false) else (ref04_Right.l0 k x0 (wrap64 (x3 + 1)))) else (none)) else (none)) else (ref04_Right.l0 k x0 (wrap64 (x3 + 1)))) else (some false))) else (none)) else (some true)
def ref04_Right.f (k : Nat) (l0 : List (S40)) : Option (Bool) := ref04_Right.l0 k l0 0
theorem ref04_Right.mono_l : ∀ k, (∀ y0 y1, LeO (ref04_Right.l0 k y0 y1) (ref04_Right.l0 (k + 1) y0 y1))
 | 0 => fun _ _ r h => by simp [ref04_Right.l0] at h
 | k + 1 => by
  have ih0 := ref04_Right.mono_l k
  ·intro y0 y1
   unfold ref04_Right.l0
   repeat' first
   | (with_reducible exact ih0 _ _)
   | (with_reducible exact LeO.refl _)
   | (with_reducible exact LeO.none _)
   | (with_reducible refine LeO.ite ?_ ?_)
   | (with_reducible refine LeO.bind ?_ (fun _ => ?_))
   | exact ih0 _ _
   | exact LeO.none _
   | refine LeO.ite ?_ ?_
   | refine LeO.bind ?_ (fun _ => ?_)
theorem ref04_Right.mono : ∀ a0 k, LeO (ref04_Right.f k a0) (ref04_Right.f (k + 1) a0) := by
 intro a0 k; have ih0 := ref04_Right.mono_l k
 unfold ref04_Right.f
 repeat' first
   | (with_reducible exact ih0 _ _)
   | (with_reducible exact LeO.refl _)
   | (with_reducible exact LeO.none _)
   | (with_reducible refine LeO.ite ?_ ?_)
   | (with_reducible refine LeO.bind ?_ (fun _ => ?_))
   | exact ih0 _ _
   | exact LeO.none _
   | refine LeO.ite ?_ ?_
   | refine LeO.bind ?_ (fun _ => ?_)
def ref04_Right.T4 : Bool × List (List Nat × List Nat) := (true, [([], []), ([], []), ([0, 1], [0, 1]), ([2], [2]), ([3], [3]), ([4], [4]), ([5, 4], [5]), ([6], [6]), ([7, 6], [6, 7]), ([8, 6, 6], [6, 8]), ([9], [9]), ([9], [9]), ([11, 9], [9, 11]), ([10, 12, 9], [9, 10, 12]), ([13, 9], [9, 13]), ([14, 9], [9, 14]), ([9], [9]), ([9], [9]), ([16, 17, 9], [9, 16, 17]), ([18, 9], [9, 18]), ([19, 9], [9, 19]), ([15, 20, 9], [9, 15, 20]), ([9, 21, 6], [6, 9, 21]), ([6, 22], [6, 22])])
def ref04_Right.B4 : List Nat := [0, 0, 3, 7, 15, 31, 63, 127, 255, 511, 1023, 1023, 3071, 8191, 16383, 32767, 1023, 1023, 197631, 459775, 984063, 2097151, 4194303, 8388607]
theorem ref04_Right.tab4 : rtab .any (opsOf Try.f36 4) = ref04_Right.T4 := by kernel_rfl
theorem ref04_Right.bits4 : waitsOk ref04_Right.T4.2 ref04_Right.B4 = true := by kernel_rfl
theorem ref04_Right.calls (k : Nat) (A0 : Option Addr) (c0 : Nat) (l0 : List (S40)) (r : Bool) (w : World) (hr0 : Kd.C k40 w A0 l0.length l0) (hc0 : l0.length ≤ c0) (h : ref04_Right.f k l0 = some r) :
  Calls Try.prog 36 #[.slice A0 l0.length c0] w fun e w' => e = .returned (.bool r) ∧ Below w.heap.size w w' := by
 have hu40 := Try.underlying40; have HR0 := Zq_.mk hr0; have HC0 := Zq_.mk hc0; clear hr0 hc0; have HB := Zq_.mk (Below.refl w.heap.size w); have H : (ref04_Right.l0 k l0 0) = some r := h; clear h; have H' := Zq_.mk H; clear H
 go_enter Try.func36, Try.ntmps36
 go_wp2
 go_loopg [3] k (fun kq v3 w' => ∃ (aA : Int), v3 = .int .i64 aA ∧ Zq_ (ref04_Right.l0 kq l0 aA = some r) ∧ Zq_ (kq ≤ k) ∧ Zq_ (Below w.heap.size w w'))
 case atStart => exact ⟨(0), eS_, H', ⟨Nat.le_refl _⟩, ⟨hB_ HB⟩⟩
 case round =>
  clear H'; obtain ⟨aA, rfl, HA, HK1, HB⟩ := hrel
  cases gk with
  | zero => exact absurd HA.out (by simp [ref04_Right.l0])
  | succ k1 =>
   have H := HA.out; clear HA; simp only [ref04_Right.l0] at H
   by_cases c2 : aA < (l0.length : Int)
   ·rw [if_pos c2] at H; have c2b0 : decide (aA < (l0.length : Int)) = true := decide_eq_true c2; clear c2
    by_cases c3 : 0 ≤ aA
    ·rw [if_pos c3] at H; have c3b0 : decide (0 ≤ aA) = true := decide_eq_true c3; clear c3; replace H := ob_ H; obtain ⟨bE, A40, H⟩ := H; replace H : (if bE = true then (if aA > 0 then (if 0 ≤ (wrap64 (aA - 1)) then (if (wrap64 (aA - 1)) < (l0.length : Int) then (if ((rd_T40 l0 (wrap64 (aA - 1))).f0) ≥ ((rd_T40 l0 aA).f0) then (some false) else (ref04_Right.l0 k1 l0 (wrap64 (aA + 1)))) else (none)) else (none)) else (ref04_Right.l0 k1 l0 (wrap64 (aA + 1)))) else (some false)) = some r := H; have A4 := Zq_.mk A40; clear A40
     by_cases c5 : bE = true
     ·subst c5
      have H1 : (if aA > 0 then (if 0 ≤ (wrap64 (aA - 1)) then (if (wrap64 (aA - 1)) < (l0.length : Int) then (if ((rd_T40 l0 (wrap64 (aA - 1))).f0) ≥ ((rd_T40 l0 aA).f0) then (some false) else (ref04_Right.l0 k1 l0 (wrap64 (aA + 1)))) else (none)) else (none)) else (ref04_Right.l0 k1 l0 (wrap64 (aA + 1)))) = some r := by rw [if_pos rfl] at H; exact H
      clear H; have H := H1; clear H1
      by_cases c6 : aA > 0
      ·rw [if_pos c6] at H; have c6b0 : decide (0 < aA) = true := decide_eq_true c6; clear c6; obtain ⟨ji7, bB⟩ : ∃ j_ : Int, (wrap64 (aA - 1)) = j_ := ⟨_, rfl⟩
       replace H : (if 0 ≤ (ji7) then (if (ji7) < (l0.length : Int) then (if ((rd_T40 l0 (ji7)).f0) ≥ ((rd_T40 l0 aA).f0) then (some false) else (ref04_Right.l0 k1 l0 (wrap64 (aA + 1)))) else (none)) else (none)) = some r := by first | (rw [bB] at H; exact H) | (simp only [bB] at H ⊢; exact H)
       (try rw [bB] at A4); have hji7w : (IntKind.i64.wrap (aA - 1)) = ji7 := (i64_w _).trans bB
       by_cases c8 : 0 ≤ (ji7)
       ·rw [if_pos c8] at H; have c8b0 : decide (0 ≤ (ji7)) = true := decide_eq_true c8; clear c8
        by_cases c9 : (ji7) < (l0.length : Int)
        ·rw [if_pos c9] at H; have c9b0 : decide ((ji7) < (l0.length : Int)) = true := decide_eq_true c9; clear c9
         by_cases c10 : ((rd_T40 l0 (ji7)).f0) ≥ ((rd_T40 l0 aA).f0)
         ·rw [if_pos c10] at H; have bH : decide (((rd_T40 l0 aA).f0) ≤ ((rd_T40 l0 (ji7)).f0)) = true := decide_eq_true c10; clear c10; obtain rfl := Option.some.inj H; (try go_wp2); replace HB := Zq_.mk (qs_ HB.out); have aO : 0 ≤ (aA : Int) := dA_; have aN : aA < (l0.length : Int) := dA_; obtain ⟨aV, bA, aD, aC, aB⟩ := at_T40 HR0.out aA aO aN; have aE := aB; have aF := aC; have aG := aD; cases bA; replace aD := hC_ HB aD; replace aC := hC_ HB aC; replace aB := hC_ HB aB; replace aO := eq_true aO; replace aN := eq_true aN; have aZ : 0 ≤ ((ji7) : Int) := dA_; have aX : (ji7) < (l0.length : Int) := dA_; obtain ⟨bD, bG, aM, aL, aK⟩ := at_T40 HR0.out (ji7) aZ aX; have aS := aK; have aT := aL; have aU := aM; obtain rfl : aV = bD := (by injection bG); replace aM := hC_ HB aM; replace aL := hC_ HB aL; replace aK := hC_ HB aK; replace aZ := eq_true aZ; replace aX := eq_true aX; have aY : 0 ≤ (aA : Int) := dA_; have aW : aA < (l0.length : Int) := dA_; obtain ⟨bC, bF, aJ, aI, aH⟩ := at_T40 HR0.out aA aY aW; have aP := aH; have aQ := aI; have aR := aJ; obtain rfl : aV = bC := (by injection bF); replace aJ := hC_ HB aJ; replace aI := hC_ HB aI; replace aH := hC_ HB aH; replace aY := eq_true aY; replace aW := eq_true aW; refine gS_ 24 (hA_ (hC_ HB aG) (hA_ (hC_ HB aF) (hA_ (hC_ HB aE) (hA_ (hC_ HB aU) (hA_ (hC_ HB aT) (hA_ (hC_ HB aS) (hA_ (hC_ HB aR) (hA_ (hC_ HB aQ) (hZ_ (hC_ HB aP)))))))))) (fun hHeld => ?_); refine with_tabW ref04_Right.tab4 ref04_Right.bits4 (fun HT_ HW_ => ?_); generalize wr.drew = w11 at HB aD aC aB aM aL aK aJ aI aH hHeld ⊢; refine pQ_ 0 HT_ ?_; refine pQ_ 1 HT_ ?_; refine pQ_ 2 HT_ ?_; refine tL_ 3 HT_ HW_ hHeld ?_; refine one_ (i := 4) (N := some 14) (bz_ 24 31) rfl rfl (one_of HT_.out (by kernel_rfl)) (by decide) (fun K hK => ?_); refine goes_ Try.func33 (by kernel_rfl) rfl #[.agg #[.int .i64 ((rd_T40 l0 aA).f0), .int .i64 ((rd_T40 l0 aA).f1), .string ((rd_T40 l0 aA).f2)]] (by rfl) rfl rfl (by (try simp only [List.map_toArray, List.map_cons, List.map_nil]); first | done | rfl | (simp only [List.length_drop, List.length_take]; rfl)) ?_
          with_reducible refine (ref04_May.calls ((rd_T40 l0 aA).f0) ((rd_T40 l0 aA).f1) ((rd_T40 l0 aA).f2) true _ A4.out).mono ?_
          rintro e w12 ⟨rfl, hb⟩; refine ⟨_, rfl, ?_⟩; replace HB := Zq_.mk (qb_ (hB_ HB) hb); (try clear hb); refine hK.out _ _ ⟨(hC_ HB aG), (hC_ HB aF), (hC_ HB aE), (hC_ HB aU), (hC_ HB aT), (hC_ HB aS), (hC_ HB aR), (hC_ HB aQ), (hC_ HB aP)⟩ (fun hHeld => ?_); clear hK K; refine norm_ (a' := ?_) ?_ ?_; rotate_left
          ·show Act.put _ (some 14) _ = _
           simp only [Act.put, sa_, sb_, sc_, i64_w, i32_w]; rfl
          refine pQ_ 5 HT_ ?_; refine pQ_ 6 HT_ ?_; refine pQ_ 7 HT_ ?_; refine pQ_ 8 HT_ ?_; refine pQ_ 9 HT_ ?_; refine pQ_ 10 HT_ ?_; refine pQ_ 11 HT_ ?_; refine pQ_ 12 HT_ ?_; refine pQ_ 13 HT_ ?_; refine pQ_ 14 HT_ ?_; refine pQ_ 16 HT_ ?_; refine pQ_ 17 HT_ ?_; refine pQ_ 18 HT_ ?_; refine pQ_ 19 HT_ ?_; refine tL_ 15 HT_ HW_ hHeld ?_; refine tL_ 20 HT_ HW_ hHeld ?_; refine pQ_ 21 HT_ ?_; refine pQ_ 22 HT_ ?_; refine pQ_ 23 HT_ ?_; refine done_ (done_of HT_.out (by kernel_rfl)) ?_; (try go_wp2)
          go_ret
          exact ⟨by first | rfl | (simp [errW_none, errW_some] <;> rfl) | (simp only [← bB]; first | rfl | (simp [errW_none, errW_some] <;> rfl)) | (simp [*, errW_none, errW_some] <;> rfl), hB_ HB⟩
         ·rw [if_neg c10] at H; have bH : decide (((rd_T40 l0 aA).f0) ≤ ((rd_T40 l0 (ji7)).f0)) = false := decide_eq_false c10; clear c10; have H' := Zq_.mk H; clear H; (try go_wp2); replace HB := Zq_.mk (qs_ HB.out); have aO : 0 ≤ (aA : Int) := dA_; have aN : aA < (l0.length : Int) := dA_; obtain ⟨aV, bA, aD, aC, aB⟩ := at_T40 HR0.out aA aO aN; have aE := aB; have aF := aC; have aG := aD; cases bA; replace aD := hC_ HB aD; replace aC := hC_ HB aC; replace aB := hC_ HB aB; replace aO := eq_true aO; replace aN := eq_true aN; have aZ : 0 ≤ ((ji7) : Int) := dA_; have aX : (ji7) < (l0.length : Int) := dA_; obtain ⟨bD, bG, aM, aL, aK⟩ := at_T40 HR0.out (ji7) aZ aX; have aS := aK; have aT := aL; have aU := aM; obtain rfl : aV = bD := (by injection bG); replace aM := hC_ HB aM; replace aL := hC_ HB aL; replace aK := hC_ HB aK; replace aZ := eq_true aZ; replace aX := eq_true aX; have aY : 0 ≤ (aA : Int) := dA_; have aW : aA < (l0.length : Int) := dA_; obtain ⟨bC, bF, aJ, aI, aH⟩ := at_T40 HR0.out aA aY aW; have aP := aH; have aQ := aI; have aR := aJ; obtain rfl : aV = bC := (by injection bF); replace aJ := hC_ HB aJ; replace aI := hC_ HB aI; replace aH := hC_ HB aH; replace aY := eq_true aY; replace aW := eq_true aW; refine gS_ 24 (hA_ (hC_ HB aG) (hA_ (hC_ HB aF) (hA_ (hC_ HB aE) (hA_ (hC_ HB aU) (hA_ (hC_ HB aT) (hA_ (hC_ HB aS) (hA_ (hC_ HB aR) (hA_ (hC_ HB aQ) (hZ_ (hC_ HB aP)))))))))) (fun hHeld => ?_); refine with_tabW ref04_Right.tab4 ref04_Right.bits4 (fun HT_ HW_ => ?_); generalize wr.drew = w13 at HB aD aC aB aM aL aK aJ aI aH hHeld ⊢; refine pQ_ 0 HT_ ?_; refine pQ_ 1 HT_ ?_; refine pQ_ 2 HT_ ?_; refine tL_ 3 HT_ HW_ hHeld ?_; refine one_ (i := 4) (N := some 14) (bz_ 24 31) rfl rfl (one_of HT_.out (by kernel_rfl)) (by decide) (fun K hK => ?_); refine goes_ Try.func33 (by kernel_rfl) rfl #[.agg #[.int .i64 ((rd_T40 l0 aA).f0), .int .i64 ((rd_T40 l0 aA).f1), .string ((rd_T40 l0 aA).f2)]] (by rfl) rfl rfl (by (try simp only [List.map_toArray, List.map_cons, List.map_nil]); first | done | rfl | (simp only [List.length_drop, List.length_take]; rfl)) ?_
          with_reducible refine (ref04_May.calls ((rd_T40 l0 aA).f0) ((rd_T40 l0 aA).f1) ((rd_T40 l0 aA).f2) true _ A4.out).mono ?_
          rintro e w14 ⟨rfl, hb⟩; refine ⟨_, rfl, ?_⟩; replace HB := Zq_.mk (qb_ (hB_ HB) hb); (try clear hb); refine hK.out _ _ ⟨(hC_ HB aG), (hC_ HB aF), (hC_ HB aE), (hC_ HB aU), (hC_ HB aT), (hC_ HB aS), (hC_ HB aR), (hC_ HB aQ), (hC_ HB aP)⟩ (fun hHeld => ?_); clear hK K; refine norm_ (a' := ?_) ?_ ?_; rotate_left
          ·show Act.put _ (some 14) _ = _
           simp only [Act.put, sa_, sb_, sc_, i64_w, i32_w]; rfl
          refine pQ_ 5 HT_ ?_; refine pQ_ 6 HT_ ?_; refine pQ_ 7 HT_ ?_; refine pQ_ 8 HT_ ?_; refine pQ_ 9 HT_ ?_; refine pQ_ 10 HT_ ?_; refine pQ_ 11 HT_ ?_; refine pQ_ 12 HT_ ?_; refine pQ_ 13 HT_ ?_; refine pQ_ 14 HT_ ?_; refine pQ_ 16 HT_ ?_; refine pQ_ 17 HT_ ?_; refine pQ_ 18 HT_ ?_; refine pQ_ 19 HT_ ?_; refine tL_ 15 HT_ HW_ hHeld ?_; refine tL_ 20 HT_ HW_ hHeld ?_; refine pQ_ 21 HT_ ?_; refine pQ_ 22 HT_ ?_; refine pQ_ 23 HT_ ?_; refine done_ (done_of HT_.out (by kernel_rfl)) ?_; (try go_wp2)
          go_roundg k1
          case measure => have := HK1.out; omega
          case rel => exact ⟨(wrap64 (aA + 1)), eS_, H', ⟨by have := HK1.out; omega⟩, ⟨hB_ HB⟩⟩
        ·rw [if_neg c9] at H; exact absurd H (by simp)
       ·rw [if_neg c8] at H; exact absurd H (by simp)
      ·rw [if_neg c6] at H; have c6b0 : decide (0 < aA) = false := decide_eq_false c6; clear c6; have H' := Zq_.mk H; clear H; (try go_wp2); replace HB := Zq_.mk (qs_ HB.out); have aO : 0 ≤ (aA : Int) := dA_; have aN : aA < (l0.length : Int) := dA_; obtain ⟨aV, bA, aD, aC, aB⟩ := at_T40 HR0.out aA aO aN; have aE := aB; have aF := aC; have aG := aD; cases bA; replace aD := hC_ HB aD; replace aC := hC_ HB aC; replace aB := hC_ HB aB; replace aO := eq_true aO; replace aN := eq_true aN; refine gS_ 24 (hA_ (hC_ HB aG) (hA_ (hC_ HB aF) (hZ_ (hC_ HB aE)))) (fun hHeld => ?_); refine with_tabW ref04_Right.tab4 ref04_Right.bits4 (fun HT_ HW_ => ?_); generalize wr.drew = w15 at HB aD aC aB hHeld ⊢; refine pQ_ 0 HT_ ?_; refine pQ_ 1 HT_ ?_; refine pQ_ 2 HT_ ?_; refine tL_ 3 HT_ HW_ hHeld ?_; refine one_ (i := 4) (N := some 14) (bz_ 24 31) rfl rfl (one_of HT_.out (by kernel_rfl)) (by decide) (fun K hK => ?_); refine goes_ Try.func33 (by kernel_rfl) rfl #[.agg #[.int .i64 ((rd_T40 l0 aA).f0), .int .i64 ((rd_T40 l0 aA).f1), .string ((rd_T40 l0 aA).f2)]] (by rfl) rfl rfl (by (try simp only [List.map_toArray, List.map_cons, List.map_nil]); first | done | rfl | (simp only [List.length_drop, List.length_take]; rfl)) ?_
       with_reducible refine (ref04_May.calls ((rd_T40 l0 aA).f0) ((rd_T40 l0 aA).f1) ((rd_T40 l0 aA).f2) true _ A4.out).mono ?_
       rintro e w16 ⟨rfl, hb⟩; refine ⟨_, rfl, ?_⟩; replace HB := Zq_.mk (qb_ (hB_ HB) hb); (try clear hb); refine hK.out _ _ ⟨(hC_ HB aG), (hC_ HB aF), (hC_ HB aE)⟩ (fun hHeld => ?_); clear hK K; refine norm_ (a' := ?_) ?_ ?_; rotate_left
       ·show Act.put _ (some 14) _ = _
        simp only [Act.put, sa_, sb_, sc_, i64_w, i32_w]; rfl
       refine pQ_ 5 HT_ ?_; refine pQ_ 6 HT_ ?_; refine pQ_ 7 HT_ ?_; refine pQ_ 8 HT_ ?_; refine pQ_ 9 HT_ ?_; refine pV_ 10 HT_ ?_; refine pV_ 11 HT_ ?_; refine pV_ 12 HT_ ?_; refine pV_ 13 HT_ ?_; refine pV_ 14 HT_ ?_; refine pV_ 15 HT_ ?_; refine pV_ 16 HT_ ?_; refine pV_ 17 HT_ ?_; refine pV_ 18 HT_ ?_; refine pV_ 19 HT_ ?_; refine pV_ 20 HT_ ?_; refine pV_ 21 HT_ ?_; refine pQ_ 22 HT_ ?_; refine pQ_ 23 HT_ ?_; refine done_ (done_of HT_.out (by kernel_rfl)) ?_; (try go_wp2)
       go_roundg k1
       case measure => have := HK1.out; omega
       case rel => exact ⟨(wrap64 (aA + 1)), eS_, H', ⟨by have := HK1.out; omega⟩, ⟨hB_ HB⟩⟩
     ·replace c5 := Bool.eq_false_iff.mpr c5; subst c5
      have H1 : (some false) = some r := by rw [if_neg (show ¬ (false = true) by decide)] at H; exact H
      clear H; have H := H1; clear H1; obtain rfl := Option.some.inj H; (try go_wp2); replace HB := Zq_.mk (qs_ HB.out); have aO : 0 ≤ (aA : Int) := dA_; have aN : aA < (l0.length : Int) := dA_; obtain ⟨aV, bA, aD, aC, aB⟩ := at_T40 HR0.out aA aO aN; have aE := aB; have aF := aC; have aG := aD; cases bA; replace aD := hC_ HB aD; replace aC := hC_ HB aC; replace aB := hC_ HB aB; replace aO := eq_true aO; replace aN := eq_true aN; refine gS_ 24 (hA_ (hC_ HB aG) (hA_ (hC_ HB aF) (hZ_ (hC_ HB aE)))) (fun hHeld => ?_); refine with_tabW ref04_Right.tab4 ref04_Right.bits4 (fun HT_ HW_ => ?_); generalize wr.drew = w17 at HB aD aC aB hHeld ⊢; refine pQ_ 0 HT_ ?_; refine pQ_ 1 HT_ ?_; refine pQ_ 2 HT_ ?_; refine tL_ 3 HT_ HW_ hHeld ?_; refine one_ (i := 4) (N := some 14) (bz_ 24 31) rfl rfl (one_of HT_.out (by kernel_rfl)) (by decide) (fun K hK => ?_); refine goes_ Try.func33 (by kernel_rfl) rfl #[.agg #[.int .i64 ((rd_T40 l0 aA).f0), .int .i64 ((rd_T40 l0 aA).f1), .string ((rd_T40 l0 aA).f2)]] (by rfl) rfl rfl (by (try simp only [List.map_toArray, List.map_cons, List.map_nil]); first | done | rfl | (simp only [List.length_drop, List.length_take]; rfl)) ?_
      with_reducible refine (ref04_May.calls ((rd_T40 l0 aA).f0) ((rd_T40 l0 aA).f1) ((rd_T40 l0 aA).f2) false _ A4.out).mono ?_
      rintro e w18 ⟨rfl, hb⟩; refine ⟨_, rfl, ?_⟩; replace HB := Zq_.mk (qb_ (hB_ HB) hb); (try clear hb); refine hK.out _ _ ⟨(hC_ HB aG), (hC_ HB aF), (hC_ HB aE)⟩ (fun hHeld => ?_); clear hK K; refine norm_ (a' := ?_) ?_ ?_; rotate_left
      ·show Act.put _ (some 14) _ = _
       simp only [Act.put, sa_, sb_, sc_, i64_w, i32_w]; rfl
      refine pQ_ 5 HT_ ?_; refine pQ_ 6 HT_ ?_; refine pV_ 7 HT_ ?_; refine pV_ 8 HT_ ?_; refine pV_ 9 HT_ ?_; refine pV_ 10 HT_ ?_; refine pV_ 11 HT_ ?_; refine pV_ 12 HT_ ?_; refine pV_ 13 HT_ ?_; refine pV_ 14 HT_ ?_; refine pV_ 15 HT_ ?_; refine pV_ 16 HT_ ?_; refine pV_ 17 HT_ ?_; refine pV_ 18 HT_ ?_; refine pV_ 19 HT_ ?_; refine pV_ 20 HT_ ?_; refine pV_ 21 HT_ ?_; refine pV_ 22 HT_ ?_; refine pQ_ 23 HT_ ?_; refine done_ (done_of HT_.out (by kernel_rfl)) ?_; (try go_wp2)
      go_ret
      exact ⟨by exact eW_, hB_ HB⟩
    ·rw [if_neg c3] at H; exact absurd H (by simp)
   ·rw [if_neg c2] at H; have c2b0 : decide (aA < (l0.length : Int)) = false := decide_eq_false c2; clear c2; obtain rfl := Option.some.inj H
    go_wp2
    go_ret
    exact ⟨by exact eW_, hB_ HB⟩
end Go.Proofs.Ytfoeahjbkmdgfaa.P

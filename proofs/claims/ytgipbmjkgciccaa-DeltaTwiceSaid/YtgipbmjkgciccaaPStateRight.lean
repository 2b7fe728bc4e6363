/- What this function of the program comes to, and that the machine's call does it. No condition. -/
import Derived.Test.YtgipbmjkgciccaaP0
import Derived.Test.YtgipbmjkgciccaaHw
namespace Go.Proofs.Ytgipbmjkgciccaa.P
set_option maxHeartbeats 8000000
set_option maxRecDepth 100000
open Go.RowKit Go.Proofs.YtgipbmjkgciccaaW.PrintWords Go.Proofs.YtgipbmjkgciccaaW.PrintLast Go.Proofs.YtgipbmjkgciccaaW.PrintMore
attribute [local go_sem] qz_ qx_ vf_ ve_ qr_ qq_ qy_ qw_ Go.Proofs.YtgipbmjkgciccaaW.Hw.string_gtr
set_option linter.unusedVariables false
set_option linter.unusedSimpArgs false
def entry_May.f (aD : Int) (aC : Int) (aO : ByteArray) : Option (Bool) := if aD ≥ 0 then (if aD < 12 then (if aC ≥ 1 then (if aC ≤ 1099511627776 then (some (decide ((aO.size : Int) ≤ 200))) else (some false)) else (some false)) else (some false)) else (some false)
theorem entry_May.calls (aD : Int) (aC : Int) (aO : ByteArray) (r : Bool) (w : World) (h : entry_May.f aD aC aO = some r) :
  Calls Try.prog 82 #[.agg #[.int .i64 aD, .int .i64 aC, .string aO]] w fun e w' => e = .returned (.bool r) ∧ Below w.heap.size w w' := by
 have hu58 := Try.underlying58; have HB := Zq_.mk (Below.refl w.heap.size w); have H : (if aD ≥ 0 then (if aD < 12 then (if aC ≥ 1 then (if aC ≤ 1099511627776 then (some (decide ((aO.size : Int) ≤ 200))) else (some false)) else (some false)) else (some false)) else (some false)) = some r := h; clear h
 by_cases c2 : aD ≥ 0
 ·rw [if_pos c2] at H; have bO : decide (0 ≤ aD) = true := decide_eq_true c2; clear c2
  by_cases c3 : aD < 12
  ·rw [if_pos c3] at H; have bR : decide (aD < 12) = true := decide_eq_true c3; clear c3
   by_cases c4 : aC ≥ 1
   ·rw [if_pos c4] at H; have bQ : decide (1 ≤ aC) = true := decide_eq_true c4; clear c4
    by_cases c5 : aC ≤ 1099511627776
    ·rw [if_pos c5] at H; have bN : decide (aC ≤ 1099511627776) = true := decide_eq_true c5; clear c5; obtain rfl := Option.some.inj H
     go_enter Try.func82, Try.ntmps82
     go_wp2_with (first | ((with_reducible refine qe_ (N := 1) rfl ?_); (try (refine qp_ (by rfl) ?_; dsimp only)); refine bE_ 1 #[.int .i64 aD, .int .i64 aC, .string aO] 58 ?_; intro aI hg w6 hbox hb; have aA := Zq_.mk (hbox); have aK := gW_ (w := w) hg (hB_ HB); have aL := gW_ (w := w) hg (hB_ HB); replace HB := Zq_.mk (qa_ (hB_ HB) hb); clear hb hbox hg; obtain ⟨cC, cB, cA⟩ := c3_ aA; obtain ⟨bZ, bY, bX⟩ := f3_ aA))
     go_ret
     exact ⟨by exact eW_, by exact hSet_ HB⟩
    ·rw [if_neg c5] at H; have bN : decide (aC ≤ 1099511627776) = false := decide_eq_false c5; clear c5; obtain rfl := Option.some.inj H
     go_enter Try.func82, Try.ntmps82
     go_wp2_with (first | ((with_reducible refine qe_ (N := 1) rfl ?_); (try (refine qp_ (by rfl) ?_; dsimp only)); refine bE_ 1 #[.int .i64 aD, .int .i64 aC, .string aO] 58 ?_; intro aI hg w8 hbox hb; have aA := Zq_.mk (hbox); have aK := gW_ (w := w) hg (hB_ HB); have aL := gW_ (w := w) hg (hB_ HB); replace HB := Zq_.mk (qa_ (hB_ HB) hb); clear hb hbox hg; obtain ⟨hcz9_0, hcz9_1, hcz9_2⟩ := c3_ aA; obtain ⟨hfz9_0, hfz9_1, hfz9_2⟩ := f3_ aA))
     go_ret
     exact ⟨by exact eW_, by exact hSet_ HB⟩
   ·rw [if_neg c4] at H; have bQ : decide (1 ≤ aC) = false := decide_eq_false c4; clear c4; obtain rfl := Option.some.inj H
    go_enter Try.func82, Try.ntmps82
    go_wp2_with (first | ((with_reducible refine qe_ (N := 1) rfl ?_); (try (refine qp_ (by rfl) ?_; dsimp only)); refine bE_ 1 #[.int .i64 aD, .int .i64 aC, .string aO] 58 ?_; intro aI hg w10 hbox hb; have aA := Zq_.mk (hbox); have aK := gW_ (w := w) hg (hB_ HB); have aL := gW_ (w := w) hg (hB_ HB); replace HB := Zq_.mk (qa_ (hB_ HB) hb); clear hb hbox hg; obtain ⟨bI, bH, bG⟩ := c3_ aA; obtain ⟨aZ, aY, aX⟩ := f3_ aA))
    go_ret
    exact ⟨by exact eW_, by exact hSet_ HB⟩
  ·rw [if_neg c3] at H; have bR : decide (aD < 12) = false := decide_eq_false c3; clear c3; obtain rfl := Option.some.inj H
   go_enter Try.func82, Try.ntmps82
   go_wp2_with (first | ((with_reducible refine qe_ (N := 1) rfl ?_); (try (refine qp_ (by rfl) ?_; dsimp only)); refine bE_ 1 #[.int .i64 aD, .int .i64 aC, .string aO] 58 ?_; intro aI hg w12 hbox hb; have aA := Zq_.mk (hbox); have aK := gW_ (w := w) hg (hB_ HB); have aL := gW_ (w := w) hg (hB_ HB); replace HB := Zq_.mk (qa_ (hB_ HB) hb); clear hb hbox hg; obtain ⟨bF, bE, bD⟩ := c3_ aA; obtain ⟨aW, aV, aU⟩ := f3_ aA))
   go_ret
   exact ⟨by exact eW_, by exact hSet_ HB⟩
 ·rw [if_neg c2] at H; have bO : decide (0 ≤ aD) = false := decide_eq_false c2; clear c2; obtain rfl := Option.some.inj H
  go_enter Try.func82, Try.ntmps82
  go_wp2_with (first | ((with_reducible refine qe_ (N := 1) rfl ?_); (try (refine qp_ (by rfl) ?_; dsimp only)); refine bE_ 1 #[.int .i64 aD, .int .i64 aC, .string aO] 58 ?_; intro aI hg w14 hbox hb; have aA := Zq_.mk (hbox); have aK := gW_ (w := w) hg (hB_ HB); have aL := gW_ (w := w) hg (hB_ HB); replace HB := Zq_.mk (qa_ (hB_ HB) hb); clear hb hbox hg; obtain ⟨bC, bB, bA⟩ := c3_ aA; obtain ⟨aT, aS, aR⟩ := f3_ aA))
  go_ret
  exact ⟨by exact eW_, by exact hSet_ HB⟩
def entry_Right.l0 : Nat → Int → List (S58) → Int → Int → Option (Bool)
 | 0, _, _, _, _ => none
 | k + 1, x3, x6, x7, x8 => if x8 < x7 then (if 0 ≤ x8 then (if x8 < (x6.length : Int) then (if ((rd_T58 x6 x8).f0) ≤ x3 then (some false) else ((entry_May.f ((rd_T58 x6 x8).f0) ((rd_T58 x6 x8).f1) ((rd_T58 x6 x8).f2)).bind fun bP => (if bP = true then (entry_Right.l0 k ((rd_T58 x6 x8).f0) x6 x7 (wrap64 (x8 + 1))) else (some false)))) else (none)) else (none)) else (some true)
def entry_Right.f (k : Nat) (l0 : List (S58)) : Option (Bool) := entry_Right.l0 k (-1) l0 (l0.length : Int) 0
theorem entry_Right.mono_l : ∀ k, (∀ y0 y1 y2 y3, LeO (entry_Right.l0 k y0 y1 y2 y3) (entry_Right.l0 (k + 1) y0 y1 y2 y3))
 | 0 => fun _ _ _ _ r h => by simp [entry_Right.l0] at h
 | k + 1 => by
  have ih0 := entry_Right.mono_l k
  ·intro y0 y1 y2 y3
   unfold entry_Right.l0
   repeat' first
   | (with_reducible exact ih0 _ _ _ _)
   | (with_reducible exact LeO.refl _)
   | (with_reducible exact LeO.none _)
   | (with_reducible refine LeO.ite ?_ ?_)
   | (with_reducible refine LeO.bind ?_ (fun _ => ?_))
   | exact ih0 _ _ _ _
   | exact LeO.none _
   | refine LeO.ite ?_ ?_
   | refine LeO.bind ?_ (fun _ => ?_)
theorem entry_Right.mono : ∀ a0 k, LeO (entry_Right.f k a0) (entry_Right.f (k + 1) a0) := by
 intro a0 k; have ih0 := entry_Right.mono_l k
 unfold entry_Right.f
 repeat' first
   | (with_reducible exact ih0 _ _ _ _)
   | (with_reducible exact LeO.refl _)
   | (with_reducible exact LeO.none _)
   | (with_reducible refine LeO.ite ?_ ?_)
   | (with_reducible refine LeO.bind ?_ (fun _ => ?_))
   | exact ih0 _ _ _ _
   | exact LeO.none _
   | refine LeO.ite ?_ ?_
   | refine LeO.bind ?_ (fun _ => ?_)
theorem entry_Right.calls (k : Nat) (A0 : Option Addr) (c0 : Nat) (l0 : List (S58)) (r : Bool) (w : World) (hr0 : Kd.C k58 w A0 l0.length l0) (hc0 : l0.length ≤ c0) (h : entry_Right.f k l0 = some r) :
  Calls Try.prog 76 #[.slice A0 l0.length c0] w fun e w' => e = .returned (.bool r) ∧ Below w.heap.size w w' := by
 have hu58 := Try.underlying58; have HR0 := Zq_.mk hr0; have HC0 := Zq_.mk hc0; clear hr0 hc0; have HB := Zq_.mk (Below.refl w.heap.size w); have H : (entry_Right.l0 k (-1) l0 (l0.length : Int) 0) = some r := h; clear h; have H' := Zq_.mk H; clear H
 go_enter Try.func76, Try.ntmps76
 go_wp2
 go_loopg [3, 8] k (fun kq v3 v8 w' => ∃ (bK : Int) (aB : Int), v3 = .int .i64 bK ∧ v8 = .int .i64 aB ∧ Zq_ (entry_Right.l0 kq bK l0 (l0.length : Int) aB = some r) ∧ Zq_ (kq ≤ k) ∧ Zq_ (Below w.heap.size w w'))
 case atStart => exact ⟨((-1)), (0), eS_, eS_, H', ⟨Nat.le_refl _⟩, ⟨hB_ HB⟩⟩
 case round =>
  clear H'; obtain ⟨bK, aB, rfl, rfl, HA, HK1, HB⟩ := hrel
  cases gk with
  | zero => exact absurd HA.out (by simp [entry_Right.l0])
  | succ k1 =>
   have H := HA.out; clear HA; simp only [entry_Right.l0] at H
   by_cases c2 : aB < (l0.length : Int)
   ·rw [if_pos c2] at H; have bO : decide (aB < (l0.length : Int)) = true := decide_eq_true c2; clear c2
    by_cases c3 : 0 ≤ aB
    ·rw [if_pos c3] at H; have bR : decide (0 ≤ aB) = true := decide_eq_true c3; clear c3
     by_cases c4 : aB < (l0.length : Int)
     ·rw [if_pos c4] at H; have bQ : decide (aB < (l0.length : Int)) = true := decide_eq_true c4; clear c4
      by_cases c5 : ((rd_T58 l0 aB).f0) ≤ bK
      ·rw [if_pos c5] at H; have bN : decide (((rd_T58 l0 aB).f0) ≤ bK) = true := decide_eq_true c5; clear c5; obtain rfl := Option.some.inj H; have aN : 0 ≤ (aB : Int) := dA_; have aM : aB < (l0.length : Int) := dA_; obtain ⟨bU, bM, aG, aF, aE⟩ := at_T58 HR0.out aB aN aM; cases bM; replace aG := hC_ HB aG; replace aF := hC_ HB aF; replace aE := hC_ HB aE; replace aN := eq_true aN; replace aM := eq_true aM
       go_wp2_with (first | ((with_reducible refine qe_ (N := 5) rfl ?_); refine bE_ 5 #[.int .i64 0, .int .i64 0, .string (⟨#[]⟩ : ByteArray)] 58 ?_; intro bJ hg w6 hbox hb; have aH := Zq_.mk (hbox); have bV := gW_ (w := w) hg (hB_ HB); have bW := gW_ (w := w) hg (hB_ HB); replace HB := Zq_.mk (qa_ (hB_ HB) hb); clear hb hbox hg; obtain ⟨cC, cB, cA⟩ := c3_ aH; obtain ⟨bZ, bY, bX⟩ := f3_ aH))
       go_ret
       exact ⟨by exact eW_, by exact hSet_ HB⟩
      ·rw [if_neg c5] at H; have bN : decide (((rd_T58 l0 aB).f0) ≤ bK) = false := decide_eq_false c5; clear c5; replace H := ob_ H; obtain ⟨bP, A80, H⟩ := H; replace H : (if bP = true then (entry_Right.l0 k1 ((rd_T58 l0 aB).f0) l0 (l0.length : Int) (wrap64 (aB + 1))) else (some false)) = some r := H; have A8 := Zq_.mk A80; clear A80
       by_cases c9 : bP = true
       ·subst c9
        have H1 : (entry_Right.l0 k1 ((rd_T58 l0 aB).f0) l0 (l0.length : Int) (wrap64 (aB + 1))) = some r := by rw [if_pos rfl] at H; exact H
        clear H; have H := H1; clear H1; have H' := Zq_.mk H; clear H; have aN : 0 ≤ (aB : Int) := dA_; have aM : aB < (l0.length : Int) := dA_; obtain ⟨bU, bM, aG, aF, aE⟩ := at_T58 HR0.out aB aN aM; cases bM; replace aG := hC_ HB aG; replace aF := hC_ HB aF; replace aE := hC_ HB aE; replace aN := eq_true aN; replace aM := eq_true aM
        go_wp2_with (first | ((with_reducible refine qe_ (N := 5) rfl ?_); refine bE_ 5 #[.int .i64 0, .int .i64 0, .string (⟨#[]⟩ : ByteArray)] 58 ?_; intro bJ hg w10 hbox hb; have aH := Zq_.mk (hbox); have bV := gW_ (w := w) hg (hB_ HB); have bW := gW_ (w := w) hg (hB_ HB); replace HB := Zq_.mk (qa_ (hB_ HB) hb); clear hb hbox hg; obtain ⟨bI, bH, bG⟩ := c3_ aH; obtain ⟨aZ, aY, aX⟩ := f3_ aH) | (go_at_call 82; (with_reducible refine (entry_May.calls ((rd_T58 l0 aB).f0) ((rd_T58 l0 aB).f1) ((rd_T58 l0 aB).f2) true _ A8.out).mono ?_); rintro e w12 ⟨rfl, hb⟩; replace aH := Zq_.mk (qd_ (g := bJ) (o := .cells #[.int .i64 ((rd_T58 l0 aB).f0), .int .i64 ((rd_T58 l0 aB).f1), .string ((rd_T58 l0 aB).f2)] 58 (0, 0)) (by refine bP_ (cs := #[.int .i64 ((rd_T58 l0 aB).f0), .int .i64 ((rd_T58 l0 aB).f1), .string (⟨#[]⟩ : ByteArray)]) 2 ?_; refine bP_ (cs := #[.int .i64 ((rd_T58 l0 aB).f0), .int .i64 0, .string (⟨#[]⟩ : ByteArray)]) 1 ?_; refine bP_ (cs := #[.int .i64 0, .int .i64 0, .string (⟨#[]⟩ : ByteArray)]) 0 ?_; (with_reducible repeat (first | refine qh_ ?_ _ | refine qf_ ?_ | refine qg_ ?_ _)); exact aH.out) hb); replace HB := Zq_.mk (qa_ (by exact hSet_ HB) hb); (try clear hb); obtain ⟨bF, bE, bD⟩ := c3_ aH; obtain ⟨aW, aV, aU⟩ := f3_ aH))
        go_roundg k1
        case measure => have := HK1.out; omega
        case rel => exact ⟨((rd_T58 l0 aB).f0), (wrap64 (aB + 1)), eS_, eS_, H', ⟨by have := HK1.out; omega⟩, ⟨by exact hSet_ HB⟩⟩
       ·replace c9 := Bool.eq_false_iff.mpr c9; subst c9
        have H1 : (some false) = some r := by rw [if_neg (show ¬ (false = true) by decide)] at H; exact H
        clear H; have H := H1; clear H1; obtain rfl := Option.some.inj H; have aN : 0 ≤ (aB : Int) := dA_; have aM : aB < (l0.length : Int) := dA_; obtain ⟨bU, bM, aG, aF, aE⟩ := at_T58 HR0.out aB aN aM; cases bM; replace aG := hC_ HB aG; replace aF := hC_ HB aF; replace aE := hC_ HB aE; replace aN := eq_true aN; replace aM := eq_true aM
        go_wp2_with (first | ((with_reducible refine qe_ (N := 5) rfl ?_); refine bE_ 5 #[.int .i64 0, .int .i64 0, .string (⟨#[]⟩ : ByteArray)] 58 ?_; intro bJ hg w14 hbox hb; have aH := Zq_.mk (hbox); have bV := gW_ (w := w) hg (hB_ HB); have bW := gW_ (w := w) hg (hB_ HB); replace HB := Zq_.mk (qa_ (hB_ HB) hb); clear hb hbox hg; obtain ⟨bC, bB, bA⟩ := c3_ aH; obtain ⟨aT, aS, aR⟩ := f3_ aH) | (go_at_call 82; (with_reducible refine (entry_May.calls ((rd_T58 l0 aB).f0) ((rd_T58 l0 aB).f1) ((rd_T58 l0 aB).f2) false _ A8.out).mono ?_); rintro e w16 ⟨rfl, hb⟩; replace aH := Zq_.mk (qd_ (g := bJ) (o := .cells #[.int .i64 ((rd_T58 l0 aB).f0), .int .i64 ((rd_T58 l0 aB).f1), .string ((rd_T58 l0 aB).f2)] 58 (0, 0)) (by refine bP_ (cs := #[.int .i64 ((rd_T58 l0 aB).f0), .int .i64 ((rd_T58 l0 aB).f1), .string (⟨#[]⟩ : ByteArray)]) 2 ?_; refine bP_ (cs := #[.int .i64 ((rd_T58 l0 aB).f0), .int .i64 0, .string (⟨#[]⟩ : ByteArray)]) 1 ?_; refine bP_ (cs := #[.int .i64 0, .int .i64 0, .string (⟨#[]⟩ : ByteArray)]) 0 ?_; (with_reducible repeat (first | refine qh_ ?_ _ | refine qf_ ?_ | refine qg_ ?_ _)); exact aH.out) hb); replace HB := Zq_.mk (qa_ (by exact hSet_ HB) hb); (try clear hb)))
        go_ret
        exact ⟨by exact eW_, by exact hSet_ HB⟩
     ·rw [if_neg c4] at H; exact absurd H (by simp)
    ·rw [if_neg c3] at H; exact absurd H (by simp)
   ·rw [if_neg c2] at H; have bO : decide (aB < (l0.length : Int)) = false := decide_eq_false c2; clear c2; obtain rfl := Option.some.inj H
    go_wp2
    go_ret
    exact ⟨by exact eW_, hB_ HB⟩
def state_Right.f (k : Nat) (aD : Int) (aC : Int) (aJ : List (S58)) : Option (Bool) := if aD ≥ 1 then (if aD ≤ 1099511627776 then (if aC ≥ 0 then (if aC ≤ 1099511627776 then ((entry_Right.f k aJ).bind fun bL => (some bL)) else (some false)) else (some false)) else (some false)) else (some false)
theorem state_Right.mono : ∀ a0 a1 a2 k, LeO (state_Right.f k a0 a1 a2) (state_Right.f (k + 1) a0 a1 a2) := by
 intro a0 a1 a2 k
 unfold state_Right.f
 repeat' first
   | (with_reducible exact entry_Right.mono _ _)
   | (with_reducible exact LeO.refl _)
   | (with_reducible exact LeO.none _)
   | (with_reducible refine LeO.ite ?_ ?_)
   | (with_reducible refine LeO.bind ?_ (fun _ => ?_))
   | exact entry_Right.mono _ _
   | exact LeO.none _
   | refine LeO.ite ?_ ?_
   | refine LeO.bind ?_ (fun _ => ?_)
theorem state_Right.calls (k : Nat) (aD : Int) (aC : Int) (aQ : Option Addr) (aP : Nat) (aJ : List (S58)) (r : Bool) (w : World) (bS : Kd.C k58 w aQ aJ.length aJ) (bT : aJ.length ≤ aP) (h : state_Right.f k aD aC aJ = some r) :
  Calls Try.prog 63 #[.agg #[.int .i64 aD, .int .i64 aC, .slice aQ aJ.length aP]] w fun e w' => e = .returned (.bool r) ∧ Below w.heap.size w w' := by
 have hu35 := Try.underlying35; have cD := Zq_.mk bS; have cE := Zq_.mk bT; clear bS bT; have HB := Zq_.mk (Below.refl w.heap.size w); have H : (if aD ≥ 1 then (if aD ≤ 1099511627776 then (if aC ≥ 0 then (if aC ≤ 1099511627776 then ((entry_Right.f k aJ).bind fun bL => (some bL)) else (some false)) else (some false)) else (some false)) else (some false)) = some r := h; clear h
 by_cases c2 : aD ≥ 1
 ·rw [if_pos c2] at H; have bO : decide (1 ≤ aD) = true := decide_eq_true c2; clear c2
  by_cases c3 : aD ≤ 1099511627776
  ·rw [if_pos c3] at H; have bR : decide (aD ≤ 1099511627776) = true := decide_eq_true c3; clear c3
   by_cases c4 : aC ≥ 0
   ·rw [if_pos c4] at H; have bQ : decide (0 ≤ aC) = true := decide_eq_true c4; clear c4
    by_cases c5 : aC ≤ 1099511627776
    ·rw [if_pos c5] at H; have bN : decide (aC ≤ 1099511627776) = true := decide_eq_true c5; clear c5; replace H := ob_ H; obtain ⟨bL, A60, H⟩ := H; replace H : (some bL) = some r := H; have A6 := Zq_.mk A60; clear A60; obtain rfl := Option.some.inj H
     go_enter Try.func63, Try.ntmps63
     go_wp2_with (first | ((with_reducible refine qe_ (N := 1) rfl ?_); refine bE_ 1 #[.int .i64 aD, .int .i64 aC, .slice aQ aJ.length aP] 35 ?_; intro aI hg w7 hbox hb; have aA := Zq_.mk (hbox); have aK := gW_ (w := w) hg (hB_ HB); have aL := gW_ (w := w) hg (hB_ HB); replace HB := Zq_.mk (qa_ (hB_ HB) hb); clear hb hbox hg; obtain ⟨hcz8_0, hcz8_1, hcz8_2⟩ := c3_ aA; obtain ⟨hfz8_0, hfz8_1, hfz8_2⟩ := f3_ aA) | (go_at_call 76; (with_reducible refine (entry_Right.calls k _ _ aJ bL _ ?side1 ?side2 A6.out).mono ?_); (case side1 => exact cX_ (Kd.qk_ cD.out HB.out)); (case side2 => exact cE.out); rintro e w9 ⟨rfl, hb⟩; replace aA := Zq_.mk (qd_ (g := aI) (o := .cells #[.int .i64 aD, .int .i64 aC, .slice aQ aJ.length aP] 35 (0, 0)) (by exact bK_ aA) hb); replace HB := Zq_.mk (qa_ (by exact hSet_ HB) hb); (try clear hb)))
     go_ret
     exact ⟨by exact eW_, by exact hSet_ HB⟩
    ·rw [if_neg c5] at H; have bN : decide (aC ≤ 1099511627776) = false := decide_eq_false c5; clear c5; obtain rfl := Option.some.inj H
     go_enter Try.func63, Try.ntmps63
     go_wp2_with (first | ((with_reducible refine qe_ (N := 1) rfl ?_); refine bE_ 1 #[.int .i64 aD, .int .i64 aC, .slice aQ aJ.length aP] 35 ?_; intro aI hg w10 hbox hb; have aA := Zq_.mk (hbox); have aK := gW_ (w := w) hg (hB_ HB); have aL := gW_ (w := w) hg (hB_ HB); replace HB := Zq_.mk (qa_ (hB_ HB) hb); clear hb hbox hg; obtain ⟨bI, bH, bG⟩ := c3_ aA; obtain ⟨aZ, aY, aX⟩ := f3_ aA))
     go_ret
     exact ⟨by exact eW_, by exact hSet_ HB⟩
   ·rw [if_neg c4] at H; have bQ : decide (0 ≤ aC) = false := decide_eq_false c4; clear c4; obtain rfl := Option.some.inj H
    go_enter Try.func63, Try.ntmps63
    go_wp2_with (first | ((with_reducible refine qe_ (N := 1) rfl ?_); refine bE_ 1 #[.int .i64 aD, .int .i64 aC, .slice aQ aJ.length aP] 35 ?_; intro aI hg w12 hbox hb; have aA := Zq_.mk (hbox); have aK := gW_ (w := w) hg (hB_ HB); have aL := gW_ (w := w) hg (hB_ HB); replace HB := Zq_.mk (qa_ (hB_ HB) hb); clear hb hbox hg; obtain ⟨bF, bE, bD⟩ := c3_ aA; obtain ⟨aW, aV, aU⟩ := f3_ aA))
    go_ret
    exact ⟨by exact eW_, by exact hSet_ HB⟩
  ·rw [if_neg c3] at H; have bR : decide (aD ≤ 1099511627776) = false := decide_eq_false c3; clear c3; obtain rfl := Option.some.inj H
   go_enter Try.func63, Try.ntmps63
   go_wp2_with (first | ((with_reducible refine qe_ (N := 1) rfl ?_); refine bE_ 1 #[.int .i64 aD, .int .i64 aC, .slice aQ aJ.length aP] 35 ?_; intro aI hg w14 hbox hb; have aA := Zq_.mk (hbox); have aK := gW_ (w := w) hg (hB_ HB); have aL := gW_ (w := w) hg (hB_ HB); replace HB := Zq_.mk (qa_ (hB_ HB) hb); clear hb hbox hg; obtain ⟨bC, bB, bA⟩ := c3_ aA; obtain ⟨aT, aS, aR⟩ := f3_ aA))
   go_ret
   exact ⟨by exact eW_, by exact hSet_ HB⟩
 ·rw [if_neg c2] at H; have bO : decide (1 ≤ aD) = false := decide_eq_false c2; clear c2; obtain rfl := Option.some.inj H
  go_enter Try.func63, Try.ntmps63
  go_wp2_with (first | ((with_reducible refine qe_ (N := 1) rfl ?_); refine bE_ 1 #[.int .i64 aD, .int .i64 aC, .slice aQ aJ.length aP] 35 ?_; intro aI hg w16 hbox hb; have aA := Zq_.mk (hbox); have aK := gW_ (w := w) hg (hB_ HB); have aL := gW_ (w := w) hg (hB_ HB); replace HB := Zq_.mk (qa_ (hB_ HB) hb); clear hb hbox hg; obtain ⟨hcz17_0, hcz17_1, hcz17_2⟩ := c3_ aA; obtain ⟨hfz17_0, hfz17_1, hfz17_2⟩ := f3_ aA))
  go_ret
  exact ⟨by exact eW_, by exact hSet_ HB⟩
end Go.Proofs.Ytgipbmjkgciccaa.P

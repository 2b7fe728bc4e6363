/- What this function of the program comes to, and that the machine's call does it. No condition. -/
import Derived.Test.YtfoeahjbkmdgfaaPStateRight
import Derived.Test.YtfoeahjbkmdgfaaPStateCopy
namespace Go.Proofs.Ytfoeahjbkmdgfaa.P
set_option maxHeartbeats 8000000
set_option maxRecDepth 100000
open Go.RowKit Go.Proofs.YtfoeahjbkmdgfaaW.PrintWords Go.Proofs.YtfoeahjbkmdgfaaW.PrintLast Go.Proofs.YtfoeahjbkmdgfaaW.PrintMore
attribute [local go_sem] qw_ qu_ va_ qz_ qq_ qp_ qv_ qt_ Go.Proofs.YtfoeahjbkmdgfaaW.Hw.string_gtr
set_option linter.unusedVariables false
set_option linter.unusedSimpArgs false
def state_Set.j0 : Nat → Bool → Int → Int → List (S40) → Int → Int → ByteArray → Option (Int × Int × (List (S40)) × Int)
 | 0, _, _, _, _, _, _, _ => none
 | k + 1, x21, aV, aU, aT, bF, x104001, bE => if x21 = true then (some (aV, aU, aT, 1)) else ((state_next.f k aV aU aT).bind fun aX => (if aX.2 = 0 then ((entry_Put.f aT bF aX.1 bE).bind fun aY => (some (aV, aU, aY, 0))) else (some (aV, aU, aT, aX.2))))
def state_Set.f (k : Nat) (aC : Int) (aD : Int) (aB : List (S40)) (a1 : Int) (a2 : ByteArray) : Option (Int × Int × (List (S40)) × Int) := (entry_May.f a1 1 a2).bind fun bD => (if bD = true then ((state_Right.f k aC aD aB).bind fun aW => (state_Set.j0 k (!aW) aC aD aB a1 1 a2)) else (state_Set.j0 k true aC aD aB a1 1 a2))
theorem state_Set.mono_l : ∀ k, (∀ y0 y1 y2 y3 y4 y5 y6, LeO (state_Set.j0 k y0 y1 y2 y3 y4 y5 y6) (state_Set.j0 (k + 1) y0 y1 y2 y3 y4 y5 y6))
 | 0 => fun _ _ _ _ _ _ _ r h => by simp [state_Set.j0] at h
 | k + 1 => by
  have ih0 := state_Set.mono_l k
  ·intro y0 y1 y2 y3 y4 y5 y6
   unfold state_Set.j0
   repeat' first
   | (with_reducible exact ih0 _ _ _ _ _ _ _)
   | (with_reducible exact state_Right.mono _ _ _ _)
   | (with_reducible exact state_next.mono _ _ _ _)
   | (with_reducible exact LeO.refl _)
   | (with_reducible exact LeO.none _)
   | (with_reducible refine LeO.ite ?_ ?_)
   | (with_reducible refine LeO.bind ?_ (fun _ => ?_))
   | exact ih0 _ _ _ _ _ _ _
   | exact state_Right.mono _ _ _ _
   | exact state_next.mono _ _ _ _
   | exact LeO.none _
   | refine LeO.ite ?_ ?_
   | refine LeO.bind ?_ (fun _ => ?_)
theorem state_Set.mono : ∀ a0 a1 a2 a3 a4 k, LeO (state_Set.f k a0 a1 a2 a3 a4) (state_Set.f (k + 1) a0 a1 a2 a3 a4) := by
 intro a0 a1 a2 a3 a4 k; have ih0 := state_Set.mono_l k
 unfold state_Set.f
 repeat' first
   | (with_reducible exact ih0 _ _ _ _ _ _ _)
   | (with_reducible exact state_Right.mono _ _ _ _)
   | (with_reducible exact state_next.mono _ _ _ _)
   | (with_reducible exact LeO.refl _)
   | (with_reducible exact LeO.none _)
   | (with_reducible refine LeO.ite ?_ ?_)
   | (with_reducible refine LeO.bind ?_ (fun _ => ?_))
   | exact ih0 _ _ _ _ _ _ _
   | exact state_Right.mono _ _ _ _
   | exact state_next.mono _ _ _ _
   | exact LeO.none _
   | refine LeO.ite ?_ ?_
   | refine LeO.bind ?_ (fun _ => ?_)
theorem state_Set.calls (k : Nat) (aC : Int) (aD : Int) (bA : Nat → Prop) (aN : Option Addr) (aM : Nat) (aB : List (S40)) (a1 : Int) (a2 : ByteArray) (r1 : Int) (r2 : Int) (r3 : List (S40)) (r4 : Int) (w : World) (hs0_2 : Kd.V k40 40 w w.heap.size (fun k_ => bA k_) (.slice aN aB.length aM) aB) (h : state_Set.f k aC aD aB a1 a2 = some (r1, r2, r3, r4)) :
  Calls Try.prog 12 #[.agg #[.int .i64 aC, .int .i64 aD, .slice aN aB.length aM], .int .i64 a1, .string a2] w fun e w' => ∃ v2_ : Value, e = .returned (.tuple #[.agg #[.int .i64 r1, .int .i64 r2, v2_], .int .i64 r4]) ∧ Kd.V k40 40 w' w.heap.size (fun k_ => (bA k_ ∨ w.heap.size ≤ k_)) v2_ r3 ∧ Below w.heap.size w w' := by
 have hu24 := Try.underlying24; have hu40 := Try.underlying40; have aO := Zq_.mk (show Kd.V k40 40 w w.heap.size (fun k_ => (bA k_ ∨ w.heap.size ≤ k_)) (.slice aN aB.length aM) aB from Kd.V_mono hs0_2 (fun k_ hk => .inl hk)); have HB := Zq_.mk (Below.refl w.heap.size w); have H : ((entry_May.f a1 1 a2).bind fun bD => (if bD = true then ((state_Right.f k aC aD aB).bind fun aW => (state_Set.j0 k (!aW) aC aD aB a1 1 a2)) else (state_Set.j0 k true aC aD aB a1 1 a2))) = some (r1, r2, r3, r4) := h; clear h; have HC4 := Zq_.mk H; clear H
 go_enter Try.func12, Try.ntmps12
 go_upto_region 2 with (first | ((with_reducible refine qi_ (N := 3) rfl ?_); refine bE_ 3 #[.int .i64 aC, .int .i64 aD, .slice aN aB.length aM] 24 ?_; intro aI hg w5 hbox hb; replace aO := Zq_.mk (Kd.qc_ (Kd.qk_ (vX_ aO) aI (Nat.le_of_eq hg.symm)) hb); have aA := Zq_.mk (hbox); have GW101 := gW_ (w := w) hg (hB_ HB); have GE101 := gW_ (w := w) hg (hB_ HB); replace HB := Zq_.mk (qb_ (hB_ HB) hb); clear hb hbox hg) | ((with_reducible refine qi_ (N := 6) rfl ?_); refine bE_ 6 #[.int .i64 0, .int .i64 0, .slice none 0 0] 24 ?_; intro aJ hg w6 hbox hb; replace aO := Zq_.mk (Kd.qc_ (Kd.qk_ (vX_ aO) aJ (Nat.le_of_eq hg.symm)) hb); have aH := Zq_.mk (hbox); have GW102 := gW_ (w := w) hg (by exact hSet_ HB); have GE102 := gW_ (w := w) hg (by exact hSet_ HB); replace HB := Zq_.mk (qb_ (by exact hSet_ HB) hb); have aS := Zq_.mk ((by rw [hg]; exact Nat.ne_of_lt (blk_lt (g := aI) (o := .cells #[.int .i64 aC, .int .i64 aD, .slice aN aB.length aM] 24 (0, 0)) (by exact bK_ aA)) : aI ≠ aJ)); have aR := Zq_.mk ((by rw [hg]; exact Nat.ne_of_gt (blk_lt (g := aI) (o := .cells #[.int .i64 aC, .int .i64 aD, .slice aN aB.length aM] 24 (0, 0)) (by exact bK_ aA)) : aJ ≠ aI)); replace aA := Zq_.mk (qa_ (g := aI) (o := .cells #[.int .i64 aC, .int .i64 aD, .slice aN aB.length aM] 24 (0, 0)) (by exact bK_ aA) hb); clear hb hbox hg) | ((with_reducible refine qi_ (N := 8) rfl ?_); refine bE_ 8 #[.int .i64 0, .int .i64 0, .string (⟨#[]⟩ : ByteArray)] 40 ?_; intro aL hg w7 hbox hb; replace aO := Zq_.mk (Kd.qc_ (Kd.qk_ (vX_ aO) aL (Nat.le_of_eq hg.symm)) hb); have aK := Zq_.mk (hbox); have GW103 := gW_ (w := w) hg (by exact hSet_ HB); have GE103 := gW_ (w := w) hg (by exact hSet_ HB); replace HB := Zq_.mk (qb_ (by exact hSet_ HB) hb); have aG := Zq_.mk ((by rw [hg]; exact Nat.ne_of_lt (blk_lt (g := aI) (o := .cells #[.int .i64 aC, .int .i64 aD, .slice aN aB.length aM] 24 (0, 0)) (by exact bK_ aA)) : aI ≠ aL)); have aQ := Zq_.mk ((by rw [hg]; exact Nat.ne_of_gt (blk_lt (g := aI) (o := .cells #[.int .i64 aC, .int .i64 aD, .slice aN aB.length aM] 24 (0, 0)) (by exact bK_ aA)) : aL ≠ aI)); replace aA := Zq_.mk (qa_ (g := aI) (o := .cells #[.int .i64 aC, .int .i64 aD, .slice aN aB.length aM] 24 (0, 0)) (by exact bK_ aA) hb); have aF := Zq_.mk ((by rw [hg]; exact Nat.ne_of_lt (blk_lt (g := aJ) (o := .cells #[.int .i64 0, .int .i64 0, .slice none 0 0] 24 (0, 0)) (by exact bK_ aH)) : aJ ≠ aL)); have aP := Zq_.mk ((by rw [hg]; exact Nat.ne_of_gt (blk_lt (g := aJ) (o := .cells #[.int .i64 0, .int .i64 0, .slice none 0 0] 24 (0, 0)) (by exact bK_ aH)) : aL ≠ aJ)); replace aH := Zq_.mk (qa_ (g := aJ) (o := .cells #[.int .i64 0, .int .i64 0, .slice none 0 0] 24 (0, 0)) (by exact bK_ aH) hb); clear hb hbox hg; have hnb8 := aQ.out; have hnc8 := aG.out; have hnb9 := aP.out; have hnc9 := aF.out; obtain ⟨cD, cC, cB⟩ := c3_ aK; obtain ⟨bR, bQ, bP⟩ := f3_ aK))
 (try simp only [Act.put, sa_, sb_, sc_])
 go_cut [21] (fun v21 wc => ∃ (kq : Nat) (bC : Bool), v21 = .bool bC ∧ Zq_ (state_Set.j0 kq bC aC aD aB a1 1 a2 = some (r1, r2, r3, r4)) ∧ Zq_ (kq ≤ k) ∧ Zq_ (Kd.V k40 40 wc w.heap.size (fun k_ => (bA k_ ∨ w.heap.size ≤ k_) ∧ k_ ≠ aI ∧ k_ ≠ aJ ∧ k_ ≠ aL) (.slice aN aB.length aM) aB) ∧ Zq_ (wc.heap[aI]? = some (.cells #[.int .i64 aC, .int .i64 aD, (.slice aN aB.length aM)] 24 (0, 0))) ∧ Zq_ (wc.heap[aJ]? = some (.cells #[.int .i64 0, .int .i64 0, (.slice none 0 0)] 24 (0, 0))) ∧ Zq_ (wc.heap[aL]? = some (.cells #[.int .i64 a1, .int .i64 1, .string a2] 40 (0, 0))) ∧ Zq_ (Below w.heap.size w wc))
 case first =>
  have H := HC4.out; clear HC4; replace H := ob_ H; obtain ⟨bD, cK, H⟩ := H; replace H : (if bD = true then ((state_Right.f k aC aD aB).bind fun aW => (state_Set.j0 k (!aW) aC aD aB a1 1 a2)) else (state_Set.j0 k true aC aD aB a1 1 a2)) = some (r1, r2, r3, r4) := H; have A11 := Zq_.mk cK; clear cK
  by_cases c12 : bD = true
  ·subst c12
   have H1 : ((state_Right.f k aC aD aB).bind fun aW => (state_Set.j0 k (!aW) aC aD aB a1 1 a2)) = some (r1, r2, r3, r4) := by rw [if_pos rfl] at H; exact H
   clear H; have H := H1; clear H1; replace H := ob_ H; obtain ⟨aW, cJ, H⟩ := H; replace H : (state_Set.j0 k (!aW) aC aD aB a1 1 a2) = some (r1, r2, r3, r4) := H; have A13 := Zq_.mk cJ; clear cJ; have H' := Zq_.mk H; clear H; have hnb14 := aQ.out; have hnc14 := aG.out; have hnb15 := aP.out; have hnc15 := aF.out; obtain ⟨cA, bZ, bY⟩ := c3_ aK; obtain ⟨bO, bN, bM⟩ := f3_ aK
   go_wp2_with (first | ((with_reducible refine qn_ (f := 30) rfl ?_); refine goesL_ (some 15) rfl rfl Try.func30 (by kernel_rfl) rfl #[.agg #[.int .i64 a1, .int .i64 1, .string a2]] rfl (by (try simp only [List.map_toArray, List.map_cons, List.map_nil]); first | done | rfl | (simp only [List.length_drop, List.length_take]; rfl)) ?_; (with_reducible refine (entry_May.calls a1 1 a2 true _ A11.out).mono ?_); rintro e w17 ⟨rfl, hb⟩; refine ⟨_, rfl, ?_⟩; replace aO := Zq_.mk (Kd.qc_ (by refine vM_ ?_; exact (Kd.V_mono (Kd.V_far (Kd.V_far (Kd.V_far (Kd.V_mono aO.out (fun k_ hk => (⟨hk, hk.2⟩ : _ ∧ k_ ≠ aL))) (fun _ hk => hk.2) _) (fun _ hk => hk.2) _) (fun _ hk => hk.2) _) (fun _ h_ => h_.1))) hb); replace aA := Zq_.mk (qa_ (g := aI) (o := .cells #[.int .i64 aC, .int .i64 aD, .slice aN aB.length aM] 24 (0, 0)) (by refine bF_ aG ?_; refine bF_ aG ?_; refine bF_ aG ?_; (with_reducible repeat (first | refine qg_ ?_ _ | refine qf_ ?_ | refine qh_ ?_ _)); exact aA.out) hb); replace aH := Zq_.mk (qa_ (g := aJ) (o := .cells #[.int .i64 0, .int .i64 0, .slice none 0 0] 24 (0, 0)) (by refine bF_ aF ?_; refine bF_ aF ?_; refine bF_ aF ?_; (with_reducible repeat (first | refine qg_ ?_ _ | refine qf_ ?_ | refine qh_ ?_ _)); exact aH.out) hb); replace aK := Zq_.mk (qa_ (g := aL) (o := .cells #[.int .i64 a1, .int .i64 1, .string a2] 40 (0, 0)) (by refine bP_ (cs := #[.int .i64 a1, .int .i64 1, .string (⟨#[]⟩ : ByteArray)]) 2 ?_; refine bP_ (cs := #[.int .i64 a1, .int .i64 0, .string (⟨#[]⟩ : ByteArray)]) 1 ?_; refine bP_ (cs := #[.int .i64 0, .int .i64 0, .string (⟨#[]⟩ : ByteArray)]) 0 ?_; (with_reducible repeat (first | refine qg_ ?_ _ | refine qf_ ?_ | refine qh_ ?_ _)); exact aK.out) hb); replace HB := Zq_.mk (qb_ (by exact hSet_ HB) hb); (try clear hb); have hnb18 := aS.out; have hnc18 := aR.out; obtain ⟨bX, bW, bV⟩ := c3_ aA; obtain ⟨bL, bK, bJ⟩ := f3_ aA) | (go_at_call 21; (with_reducible refine (state_Right.calls k aC aD _ _ aB aW _ ?side1 ?side2 A13.out).mono ?_); (case side1 => exact cX_ ((Kd.V_reads' aO.out).2.2)); (case side2 => exact (Kd.V_reads' aO.out).2.1); rintro e w20 ⟨rfl, hb⟩; replace aO := vV_ Kd.qc_ aO hb; replace aA := Zq_.mk (qa_ (g := aI) (o := .cells #[.int .i64 aC, .int .i64 aD, .slice aN aB.length aM] 24 (0, 0)) (by exact bK_ aA) hb); replace aH := Zq_.mk (qa_ (g := aJ) (o := .cells #[.int .i64 0, .int .i64 0, .slice none 0 0] 24 (0, 0)) (by exact bK_ aH) hb); replace aK := Zq_.mk (qa_ (g := aL) (o := .cells #[.int .i64 a1, .int .i64 1, .string a2] 40 (0, 0)) (by exact bK_ aK) hb); replace HB := Zq_.mk (qb_ (by exact hSet_ HB) hb); (try clear hb)))
   go_meet
   case rel => exact ⟨_, (!aW), eS_, H', ⟨by first | omega | exact Nat.le_refl _⟩, ⟨by refine vM_ ?_; exact Kd.V_mono aO.out (fun _ hk => ⟨hk.1.1.1, ⟨hk.1.1.2, ⟨hk.1.2, hk.2⟩⟩⟩)⟩, ⟨by (with_reducible repeat (first | refine qg_ ?_ _ | refine qf_ ?_ | refine qh_ ?_ _)); exact aA.out⟩, ⟨by (with_reducible repeat (first | refine qg_ ?_ _ | refine qf_ ?_ | refine qh_ ?_ _)); exact aH.out⟩, ⟨by (with_reducible repeat (first | refine qg_ ?_ _ | refine qf_ ?_ | refine qh_ ?_ _)); exact aK.out⟩, ⟨by exact hSet_ HB⟩⟩
  ·replace c12 := Bool.eq_false_iff.mpr c12; subst c12
   have H1 : (state_Set.j0 k true aC aD aB a1 1 a2) = some (r1, r2, r3, r4) := by rw [if_neg (show ¬ (false = true) by decide)] at H; exact H
   clear H; have H := H1; clear H1; have H' := Zq_.mk H; clear H; have hnb21 := aQ.out; have hnc21 := aG.out; have hnb22 := aP.out; have hnc22 := aF.out; obtain ⟨bU, bT, bS⟩ := c3_ aK; obtain ⟨bI, bH, bG⟩ := f3_ aK
   go_wp2_with (first | ((with_reducible refine qn_ (f := 30) rfl ?_); refine goesL_ (some 15) rfl rfl Try.func30 (by kernel_rfl) rfl #[.agg #[.int .i64 a1, .int .i64 1, .string a2]] rfl (by (try simp only [List.map_toArray, List.map_cons, List.map_nil]); first | done | rfl | (simp only [List.length_drop, List.length_take]; rfl)) ?_; (with_reducible refine (entry_May.calls a1 1 a2 false _ A11.out).mono ?_); rintro e w24 ⟨rfl, hb⟩; refine ⟨_, rfl, ?_⟩; replace aO := Zq_.mk (Kd.qc_ (by refine vM_ ?_; exact (Kd.V_mono (Kd.V_far (Kd.V_far (Kd.V_far (Kd.V_mono aO.out (fun k_ hk => (⟨hk, hk.2⟩ : _ ∧ k_ ≠ aL))) (fun _ hk => hk.2) _) (fun _ hk => hk.2) _) (fun _ hk => hk.2) _) (fun _ h_ => h_.1))) hb); replace aA := Zq_.mk (qa_ (g := aI) (o := .cells #[.int .i64 aC, .int .i64 aD, .slice aN aB.length aM] 24 (0, 0)) (by refine bF_ aG ?_; refine bF_ aG ?_; refine bF_ aG ?_; (with_reducible repeat (first | refine qg_ ?_ _ | refine qf_ ?_ | refine qh_ ?_ _)); exact aA.out) hb); replace aH := Zq_.mk (qa_ (g := aJ) (o := .cells #[.int .i64 0, .int .i64 0, .slice none 0 0] 24 (0, 0)) (by refine bF_ aF ?_; refine bF_ aF ?_; refine bF_ aF ?_; (with_reducible repeat (first | refine qg_ ?_ _ | refine qf_ ?_ | refine qh_ ?_ _)); exact aH.out) hb); replace aK := Zq_.mk (qa_ (g := aL) (o := .cells #[.int .i64 a1, .int .i64 1, .string a2] 40 (0, 0)) (by refine bP_ (cs := #[.int .i64 a1, .int .i64 1, .string (⟨#[]⟩ : ByteArray)]) 2 ?_; refine bP_ (cs := #[.int .i64 a1, .int .i64 0, .string (⟨#[]⟩ : ByteArray)]) 1 ?_; refine bP_ (cs := #[.int .i64 0, .int .i64 0, .string (⟨#[]⟩ : ByteArray)]) 0 ?_; (with_reducible repeat (first | refine qg_ ?_ _ | refine qf_ ?_ | refine qh_ ?_ _)); exact aK.out) hb); replace HB := Zq_.mk (qb_ (by exact hSet_ HB) hb); (try clear hb)))
   go_meet
   case rel => exact ⟨_, (true), eS_, H', ⟨by first | omega | exact Nat.le_refl _⟩, ⟨by refine vM_ ?_; exact Kd.V_mono aO.out (fun _ hk => ⟨hk.1.1.1, ⟨hk.1.1.2, ⟨hk.1.2, hk.2⟩⟩⟩)⟩, ⟨by (with_reducible repeat (first | refine qg_ ?_ _ | refine qf_ ?_ | refine qh_ ?_ _)); exact aA.out⟩, ⟨by (with_reducible repeat (first | refine qg_ ?_ _ | refine qf_ ?_ | refine qh_ ?_ _)); exact aH.out⟩, ⟨by (with_reducible repeat (first | refine qg_ ?_ _ | refine qf_ ?_ | refine qh_ ?_ _)); exact aK.out⟩, ⟨by exact hSet_ HB⟩⟩
 case rest =>
  clear HC4
  try clear c1
  try clear c2
  try clear p2
  try clear c3
  try clear c8
  try clear c9
  try clear c12
  try clear c14
  try clear c15
  try clear c18
  try clear c21
  try clear c22
  try clear cD
  try clear cC
  try clear cB
  try clear cA
  try clear bZ
  try clear bY
  try clear bX
  try clear bW
  try clear bV
  try clear bU
  try clear bT
  try clear bS
  try clear bR
  try clear bQ
  try clear bP
  try clear bO
  try clear bN
  try clear bM
  try clear bL
  try clear bK
  try clear bJ
  try clear bI
  try clear bH
  try clear bG
  obtain ⟨kq, bC, rfl, HA, HJ3, aE, aA, aH, aK, HB⟩ := hcut
  cases kq with
  | zero => exact absurd HA.out (by simp [state_Set.j0])
  | succ kj3 =>
   have H := HA.out; clear HA; simp only [state_Set.j0] at H
   by_cases c25 : bC = true
   ·subst c25
    have H1 : (some (aC, aD, aB, 1)) = some (r1, r2, r3, r4) := by rw [if_pos rfl] at H; exact H
    clear H; have H := H1; clear H1; simp only [Option.some.injEq, Prod.mk.injEq] at H; obtain ⟨rfl, rfl, rfl, rfl⟩ := H; have hnb26 := aS.out; have hnc26 := aR.out; have hnb27 := aG.out; have hnc27 := aQ.out; have hcz28_0 : wc.cell? ⟨aI, 0, none⟩ = some (.int .i64 aC) := (qj_ aA.out 0).trans rfl; have hcz28_1 : wc.cell? ⟨aI, 1, none⟩ = some (.int .i64 aD) := (qj_ aA.out 1).trans rfl; have hcz28_2 : wc.cell? ⟨aI, 2, none⟩ = some (.slice aN aB.length aM) := (qj_ aA.out 2).trans rfl; obtain ⟨hfz28_0, hfz28_1, hfz28_2⟩ := f3_ aA; have hnb29 := aF.out; have hnc29 := aP.out; have hcz30_0 : wc.cell? ⟨aJ, 0, none⟩ = some (.int .i64 0) := (qj_ aH.out 0).trans rfl; have hcz30_1 : wc.cell? ⟨aJ, 1, none⟩ = some (.int .i64 0) := (qj_ aH.out 1).trans rfl; have hcz30_2 : wc.cell? ⟨aJ, 2, none⟩ = some (.slice none 0 0) := (qj_ aH.out 2).trans rfl; obtain ⟨hfz30_0, hfz30_1, hfz30_2⟩ := f3_ aH
    go_wp2
    refine bodyPost_ret (results_ct rfl _ _ aJ 24 #[.int .i64 aC, .int .i64 aD, .slice aN aB.length aM] (0, 0) _ rfl (by refine bP_ (cs := #[.int .i64 aC, .int .i64 aD, .slice none 0 0]) 2 ?_; refine bP_ (cs := #[.int .i64 aC, .int .i64 0, .slice none 0 0]) 1 ?_; refine bP_ (cs := #[.int .i64 0, .int .i64 0, .slice none 0 0]) 0 ?_; (with_reducible repeat (first | refine qg_ ?_ _ | refine qf_ ?_ | refine qh_ ?_ _)); exact aH.out) Try.underlying24 rfl (by kernel_rfl)) rfl ?_; exact ⟨_, by exact eW_, by refine vM_ ?_; exact Kd.V_mono (Kd.V_far (Kd.V_far (Kd.V_far (Kd.V_mono aE.out (fun k_ hk => (⟨hk, hk.2.2.1⟩ : _ ∧ k_ ≠ aJ))) (fun _ hk => hk.2) _) (fun _ hk => hk.2) _) (fun _ hk => hk.2) _) (fun _ hk => hk.1.1), by exact hSet_ HB⟩
   ·replace c25 := Bool.eq_false_iff.mpr c25; subst c25
    have H1 : ((state_next.f kj3 aC aD aB).bind fun aX => (if aX.2 = 0 then ((entry_Put.f aB a1 aX.1 a2).bind fun aY => (some (aC, aD, aY, 0))) else (some (aC, aD, aB, aX.2)))) = some (r1, r2, r3, r4) := by rw [if_neg (show ¬ (false = true) by decide)] at H; exact H
    clear H; have H := H1; clear H1; replace H := ob_ H; obtain ⟨⟨bB, aZ⟩, cI, H⟩ := H; replace H : (if aZ = 0 then ((entry_Put.f aB a1 bB a2).bind fun aY => (some (aC, aD, aY, 0))) else (some (aC, aD, aB, aZ))) = some (r1, r2, r3, r4) := H; have A31 := Zq_.mk cI; clear cI
    by_cases c32 : aZ = 0
    ·rw [if_pos c32] at H; have cG : (aZ == 0) = true := beq_iff_eq.mpr c32; have cF : (aZ != 0) = false := bne_eq_false_iff_eq.mpr c32; clear c32; replace H := ob_ H; obtain ⟨aY, cH, H⟩ := H; replace H : (some (aC, aD, aY, 0)) = some (r1, r2, r3, r4) := H; have A33 := Zq_.mk cH; clear cH; simp only [Option.some.injEq, Prod.mk.injEq] at H; obtain ⟨rfl, rfl, rfl, rfl⟩ := H; have hnb34 := aS.out; have hnc34 := aR.out; have hnb35 := aG.out; have hnc35 := aQ.out; have hcz36_0 : wc.cell? ⟨aI, 0, none⟩ = some (.int .i64 aC) := (qj_ aA.out 0).trans rfl; have hcz36_1 : wc.cell? ⟨aI, 1, none⟩ = some (.int .i64 aD) := (qj_ aA.out 1).trans rfl; have hcz36_2 : wc.cell? ⟨aI, 2, none⟩ = some (.slice aN aB.length aM) := (qj_ aA.out 2).trans rfl; obtain ⟨hfz36_0, hfz36_1, hfz36_2⟩ := f3_ aA
     go_wp2_with (first | ((with_reducible refine qn_ (f := 31) rfl ?_); refine goesL_ (some 25) rfl rfl Try.func31 (by kernel_rfl) rfl #[.agg #[.int .i64 aC, .int .i64 aD, .slice aN aB.length aM]] rfl (by (try simp only [List.map_toArray, List.map_cons, List.map_nil]); first | done | rfl | (simp only [List.length_drop, List.length_take]; rfl)) ?_; (with_reducible refine (state_next.calls kj3 aC aD _ _ aB bB aZ _ ?side1 ?side2 A31.out).mono ?_); (case side1 => exact cX_ ((Kd.V_reads' aE.out).2.2)); (case side2 => exact (Kd.V_reads' aE.out).2.1); rintro e w37 ⟨rfl, hb⟩; refine ⟨_, rfl, ?_⟩; replace aE := vV_ Kd.qc_ aE hb; replace aA := Zq_.mk (qa_ (g := aI) (o := .cells #[.int .i64 aC, .int .i64 aD, .slice aN aB.length aM] 24 (0, 0)) (by exact bK_ aA) hb); replace aH := Zq_.mk (qa_ (g := aJ) (o := .cells #[.int .i64 0, .int .i64 0, .slice none 0 0] 24 (0, 0)) (by exact bK_ aH) hb); replace aK := Zq_.mk (qa_ (g := aL) (o := .cells #[.int .i64 a1, .int .i64 1, .string a2] 40 (0, 0)) (by exact bK_ aK) hb); replace HB := Zq_.mk (qb_ (by exact hSet_ HB) hb); (try clear hb); have hnb38 := aP.out; have hnc38 := aF.out; obtain ⟨hcz39_0, hcz39_1, hcz39_2⟩ := c3_ aK; obtain ⟨hfz39_0, hfz39_1, hfz39_2⟩ := f3_ aK; obtain ⟨hcz40_0, hcz40_1, hcz40_2⟩ := c3_ aA; obtain ⟨hfz40_0, hfz40_1, hfz40_2⟩ := f3_ aA) | ((with_reducible refine qn_ (f := 32) rfl ?_); refine goesL_ (some 37) rfl rfl Try.func32 (by kernel_rfl) rfl #[.slice aN aB.length aM, .agg #[.int .i64 a1, .int .i64 bB, .string a2]] rfl (by (try simp only [List.map_toArray, List.map_cons, List.map_nil]); first | done | rfl | (simp only [List.length_drop, List.length_take]; rfl)) ?_; (with_reducible refine (entry_Put.calls _ _ aB a1 bB a2 aY _ ?side1 ?side2 A33.out).mono ?_); (case side1 => refine (Kd.V_reads' (e := 40) (base := w.heap.size) (ok := fun k_ => ((bA k_ ∨ w.heap.size ≤ k_) ∧ (k_ ≠ aI ∧ (k_ ≠ aJ ∧ k_ ≠ aL)))) (n := aB.length) (c := aM) ?_).2.2; exact (by refine vM_ ?_; exact (Kd.V_mono (Kd.V_far (Kd.V_mono aE.out (fun k_ hk => (⟨hk, hk.2.2.2⟩ : _ ∧ k_ ≠ aL))) (fun _ hk => hk.2) _) (fun _ h_ => h_.1)))); (case side2 => exact (Kd.V_reads' aE.out).2.1); rintro e w41 ⟨v109, rfl, ho0, hb⟩; refine ⟨_, rfl, ?_⟩; replace aE := Zq_.mk (Kd.V_elder' (by refine vM_ ?_; exact (Kd.V_mono (Kd.V_far (Kd.V_mono aE.out (fun k_ hk => (⟨hk, hk.2.2.2⟩ : _ ∧ k_ ≠ aL))) (fun _ hk => hk.2) _) (fun _ h_ => h_.1))) (Kd.R_base ho0) hb); have cE := Zq_.mk (Kd.qx_ (Kd.R_newB (Kd.R_newM (M := fun k_ => (w.heap.size ≤ k_)) ho0 (qe_ (by exact hSet_ HB)) (fun k_ h_ => h_)) (g := aL) (o := .cells #[.int .i64 a1, .int .i64 bB, .string a2] 40 (0, 0)) (by refine bP_ (cs := #[.int .i64 a1, .int .i64 1, .string a2]) 1 ?_; (with_reducible repeat (first | refine qg_ ?_ _ | refine qf_ ?_ | refine qh_ ?_ _)); exact aK.out)) (qe_ (by exact hSet_ HB))); replace aA := Zq_.mk (qa_ (g := aI) (o := .cells #[.int .i64 aC, .int .i64 aD, .slice aN aB.length aM] 24 (0, 0)) (by refine bF_ aG ?_; (with_reducible repeat (first | refine qg_ ?_ _ | refine qf_ ?_ | refine qh_ ?_ _)); exact aA.out) hb); replace aH := Zq_.mk (qa_ (g := aJ) (o := .cells #[.int .i64 0, .int .i64 0, .slice none 0 0] 24 (0, 0)) (by refine bF_ aF ?_; (with_reducible repeat (first | refine qg_ ?_ _ | refine qf_ ?_ | refine qh_ ?_ _)); exact aH.out) hb); replace aK := Zq_.mk (qa_ (g := aL) (o := .cells #[.int .i64 a1, .int .i64 bB, .string a2] 40 (0, 0)) (by refine bP_ (cs := #[.int .i64 a1, .int .i64 1, .string a2]) 1 ?_; (with_reducible repeat (first | refine qg_ ?_ _ | refine qf_ ?_ | refine qh_ ?_ _)); exact aK.out) hb); replace HB := Zq_.mk (qb_ (by exact hSet_ HB) hb); (try clear hb); (try clear ho0); obtain ⟨Ao42, co42, eo42⟩ := Kd.vb_ cE.out; subst eo42; obtain ⟨hcz43_0, hcz43_1, hcz43_2⟩ := c3_ aA; obtain ⟨hfz43_0, hfz43_1, hfz43_2⟩ := f3_ aA; obtain ⟨hcz44_0, hcz44_1, hcz44_2⟩ := c3_ aH; obtain ⟨hfz44_0, hfz44_1, hfz44_2⟩ := f3_ aH))
     refine bodyPost_ret (results_ct rfl _ _ aJ 24 #[.int .i64 aC, .int .i64 aD, .slice Ao42 aY.length co42] (0, 0) _ rfl (by refine bP_ (cs := #[.int .i64 aC, .int .i64 aD, .slice none 0 0]) 2 ?_; refine bP_ (cs := #[.int .i64 aC, .int .i64 0, .slice none 0 0]) 1 ?_; refine bP_ (cs := #[.int .i64 0, .int .i64 0, .slice none 0 0]) 0 ?_; refine bF_ aR ?_; (with_reducible repeat (first | refine qg_ ?_ _ | refine qf_ ?_ | refine qh_ ?_ _)); exact aH.out) Try.underlying24 rfl (by kernel_rfl)) rfl ?_; exact ⟨_, by exact eW_, Kd.V_mono (Kd.R_V (by (with_reducible repeat (first | apply Kd.qm_ | apply Kd.ql_ | apply Kd.R_drew)); exact Kd.R_mono (Kd.R_far (Kd.R_far (Kd.R_far (Kd.R_far (Kd.vd_ (Kd.vd_ cE.out aA.out (by decide)) aH.out (by decide)) (fun _ hk => hk.1.2) _) (fun _ hk => hk.2) _) (fun _ hk => hk.2) _) (fun _ hk => hk.2) _) (fun _ hk => hk.1.1.1.1))) (fun k_ hk => by first | exact ⟨(.inr (hk.1)), hk.2⟩ | exact (.inr (hk))), by exact hSet_ HB⟩
    ·rw [if_neg c32] at H; have cG : (aZ == 0) = false := beq_eq_false_iff_ne.mpr c32; have cF : (aZ != 0) = true := bne_iff_ne.mpr c32; simp only [Option.some.injEq, Prod.mk.injEq] at H; obtain ⟨rfl, rfl, rfl, rfl⟩ := H; have hnb45 := aS.out; have hnc45 := aR.out; have hnb46 := aG.out; have hnc46 := aQ.out; have hcz47_0 : wc.cell? ⟨aI, 0, none⟩ = some (.int .i64 aC) := (qj_ aA.out 0).trans rfl; have hcz47_1 : wc.cell? ⟨aI, 1, none⟩ = some (.int .i64 aD) := (qj_ aA.out 1).trans rfl; have hcz47_2 : wc.cell? ⟨aI, 2, none⟩ = some (.slice aN aB.length aM) := (qj_ aA.out 2).trans rfl; obtain ⟨hfz47_0, hfz47_1, hfz47_2⟩ := f3_ aA
     go_wp2_with (first | ((with_reducible refine qn_ (f := 31) rfl ?_); refine goesL_ (some 25) rfl rfl Try.func31 (by kernel_rfl) rfl #[.agg #[.int .i64 aC, .int .i64 aD, .slice aN aB.length aM]] rfl (by (try simp only [List.map_toArray, List.map_cons, List.map_nil]); first | done | rfl | (simp only [List.length_drop, List.length_take]; rfl)) ?_; (with_reducible refine (state_next.calls kj3 aC aD _ _ aB bB aZ _ ?side1 ?side2 A31.out).mono ?_); (case side1 => exact cX_ ((Kd.V_reads' aE.out).2.2)); (case side2 => exact (Kd.V_reads' aE.out).2.1); rintro e w48 ⟨rfl, hb⟩; refine ⟨_, rfl, ?_⟩; replace aE := vV_ Kd.qc_ aE hb; replace aA := Zq_.mk (qa_ (g := aI) (o := .cells #[.int .i64 aC, .int .i64 aD, .slice aN aB.length aM] 24 (0, 0)) (by exact bK_ aA) hb); replace aH := Zq_.mk (qa_ (g := aJ) (o := .cells #[.int .i64 0, .int .i64 0, .slice none 0 0] 24 (0, 0)) (by exact bK_ aH) hb); replace aK := Zq_.mk (qa_ (g := aL) (o := .cells #[.int .i64 a1, .int .i64 1, .string a2] 40 (0, 0)) (by exact bK_ aK) hb); replace HB := Zq_.mk (qb_ (by exact hSet_ HB) hb); (try clear hb); obtain ⟨hcz49_0, hcz49_1, hcz49_2⟩ := c3_ aA; obtain ⟨hfz49_0, hfz49_1, hfz49_2⟩ := f3_ aA; have hnb50 := aF.out; have hnc50 := aP.out; obtain ⟨hcz51_0, hcz51_1, hcz51_2⟩ := c3_ aH; obtain ⟨hfz51_0, hfz51_1, hfz51_2⟩ := f3_ aH))
     refine bodyPost_ret (results_ct rfl _ _ aJ 24 #[.int .i64 aC, .int .i64 aD, .slice aN aB.length aM] (0, 0) _ rfl (by refine bP_ (cs := #[.int .i64 aC, .int .i64 aD, .slice none 0 0]) 2 ?_; refine bP_ (cs := #[.int .i64 aC, .int .i64 0, .slice none 0 0]) 1 ?_; refine bP_ (cs := #[.int .i64 0, .int .i64 0, .slice none 0 0]) 0 ?_; (with_reducible repeat (first | refine qg_ ?_ _ | refine qf_ ?_ | refine qh_ ?_ _)); exact aH.out) Try.underlying24 rfl (by kernel_rfl)) rfl ?_; exact ⟨_, by exact eW_, by refine vM_ ?_; exact Kd.V_mono (Kd.V_far (Kd.V_far (Kd.V_far (Kd.V_mono aE.out (fun k_ hk => (⟨hk, hk.2.2.1⟩ : _ ∧ k_ ≠ aJ))) (fun _ hk => hk.2) _) (fun _ hk => hk.2) _) (fun _ hk => hk.2) _) (fun _ hk => hk.1.1), by exact hSet_ HB⟩
end Go.Proofs.Ytfoeahjbkmdgfaa.P

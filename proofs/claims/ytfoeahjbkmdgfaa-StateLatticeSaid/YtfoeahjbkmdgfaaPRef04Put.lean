/- What this function of the program comes to, and that the machine's call does it. No condition. -/
import Derived.Test.YtfoeahjbkmdgfaaP0
import Derived.Test.YtfoeahjbkmdgfaaHw
namespace Go.Proofs.Ytfoeahjbkmdgfaa.P
set_option maxHeartbeats 8000000
set_option maxRecDepth 100000
open Go.RowKit Go.Proofs.YtfoeahjbkmdgfaaW.PrintWords Go.Proofs.YtfoeahjbkmdgfaaW.PrintLast Go.Proofs.YtfoeahjbkmdgfaaW.PrintMore
attribute [local go_sem] qw_ qu_ va_ qz_ qq_ qp_ qv_ qt_ Go.Proofs.YtfoeahjbkmdgfaaW.Hw.string_gtr
set_option linter.unusedVariables false
set_option linter.unusedSimpArgs false
mutual
def ref04_Put.l0 : Nat → List (S40) → List (S40) → Bool → Int → Int → Int → ByteArray → Option ((List (S40)))
 | 0, _, _, _, _, _, _, _ => none
 | k + 1, x0, x5, x6, x7, aQ, aT, aR => if x7 < (x0.length : Int) then (if x6 = true then (ref04_Put.j1 k x0 x5 x6 x7 false aQ aT aR) else (if 0 ≤ x7 then (ref04_Put.j1 k x0 x5 x6 x7 (decide (((rd_T40 x0 x7).f0) ≥ aQ)) aQ aT aR) else (none))) else (if x6 = true then (some x5) else (if x5.length < 4398046511104 then (some (x5 ++ [(⟨aQ, aT, aR⟩ : S40)])) else (none)))
def ref04_Put.j1 : Nat → List (S40) → List (S40) → Bool → Int → Bool → Int → Int → ByteArray → Option ((List (S40)))
 | 0, _, _, _, _, _, _, _, _ => none
 | k + 1, x0, x5, x6, x7, x25, aQ, aT, aR => if x25 = true then (if x5.length < 4398046511104 then ((some (x5 ++ [(⟨aQ, aT, aR⟩ : S40)] : List (S40))).bind fun bA => (if 0 ≤ x7 then (if x7 < (x0.length : Int) then (if ((rd_T40 x0 x7).f0) = aQ then (ref04_Put.l0 k x0 bA true (wrap64 (x7 + 1)) aQ aT aR) else (if bA.length < 4398046511104 then (ref04_Put.l0 k x0 (bA ++ [(⟨(rd_T40 x0 x7).f0, (rd_T40 x0 x7).f1, (rd_T40 x0 x7).f2⟩ : S40)]) true (wrap64 (x7 + 1)) aQ aT aR) else (none))) else (none)) else (none))) else (none)) else (if 0 ≤ x7 then (if x7 < (x0.length : Int) then (if ((rd_T40 x0 x7).f0) = aQ then (ref04_Put.l0 k x0 x5 x6 (wrap64 (x7 + 1)) aQ aT aR) else (if x5.length < 4398046511104 then (ref04_Put.l0 k x0 (x5 ++ [(⟨(rd_T40 x0 x7).f0, (rd_T40 x0 x7).f1, (rd_T40 x0 x7).f2⟩ : S40)]) x6 (wrap64 (x7 + 1)) aQ aT aR) else (none))) else (none)) else (none))
end
def ref04_Put.f (k : Nat) (l0 : List (S40)) (aE : Int) (aH : Int) (aG : ByteArray) : Option ((List (S40))) := ref04_Put.l0 k l0 ([] : List (S40)) false 0 aE aH aG
theorem ref04_Put.mono_l : ∀ k, (∀ y0 y1 y2 y3 y4 y5 y6, LeO (ref04_Put.l0 k y0 y1 y2 y3 y4 y5 y6) (ref04_Put.l0 (k + 1) y0 y1 y2 y3 y4 y5 y6)) ∧ (∀ y0 y1 y2 y3 y4 y5 y6 y7, LeO (ref04_Put.j1 k y0 y1 y2 y3 y4 y5 y6 y7) (ref04_Put.j1 (k + 1) y0 y1 y2 y3 y4 y5 y6 y7))
 | 0 => ⟨fun _ _ _ _ _ _ _ r h => by simp [ref04_Put.l0] at h, fun _ _ _ _ _ _ _ _ r h => by simp [ref04_Put.j1] at h⟩
 | k + 1 => by
  obtain ⟨ih0, ih1⟩ := ref04_Put.mono_l k; refine ⟨?_, ?_⟩
  ·intro y0 y1 y2 y3 y4 y5 y6
   unfold ref04_Put.l0
   repeat' first
   | (with_reducible exact ih0 _ _ _ _ _ _ _)
   | (with_reducible exact ih1 _ _ _ _ _ _ _ _)
   | (with_reducible exact LeO.refl _)
   | (with_reducible exact LeO.none _)
   | (with_reducible refine LeO.ite ?_ ?_)
   | (with_reducible refine LeO.bind ?_ (fun _ => ?_))
   | exact ih0 _ _ _ _ _ _ _
   | exact ih1 _ _ _ _ _ _ _ _
   | exact LeO.none _
   | refine LeO.ite ?_ ?_
   | refine LeO.bind ?_ (fun _ => ?_)
  ·intro y0 y1 y2 y3 y4 y5 y6 y7
   unfold ref04_Put.j1
   repeat' first
   | (with_reducible exact ih0 _ _ _ _ _ _ _)
   | (with_reducible exact ih1 _ _ _ _ _ _ _ _)
   | (with_reducible exact LeO.refl _)
   | (with_reducible exact LeO.none _)
   | (with_reducible refine LeO.ite ?_ ?_)
   | (with_reducible refine LeO.bind ?_ (fun _ => ?_))
   | exact ih0 _ _ _ _ _ _ _
   | exact ih1 _ _ _ _ _ _ _ _
   | exact LeO.none _
   | refine LeO.ite ?_ ?_
   | refine LeO.bind ?_ (fun _ => ?_)
theorem ref04_Put.mono : ∀ a0 a1 a2 a3 k, LeO (ref04_Put.f k a0 a1 a2 a3) (ref04_Put.f (k + 1) a0 a1 a2 a3) := by
 intro a0 a1 a2 a3 k; obtain ⟨ih0, ih1⟩ := ref04_Put.mono_l k
 unfold ref04_Put.f
 repeat' first
   | (with_reducible exact ih0 _ _ _ _ _ _ _)
   | (with_reducible exact ih1 _ _ _ _ _ _ _ _)
   | (with_reducible exact LeO.refl _)
   | (with_reducible exact LeO.none _)
   | (with_reducible refine LeO.ite ?_ ?_)
   | (with_reducible refine LeO.bind ?_ (fun _ => ?_))
   | exact ih0 _ _ _ _ _ _ _
   | exact ih1 _ _ _ _ _ _ _ _
   | exact LeO.none _
   | refine LeO.ite ?_ ?_
   | refine LeO.bind ?_ (fun _ => ?_)
theorem ref04_Put.calls (k : Nat) (A0 : Option Addr) (c0 : Nat) (l0 : List (S40)) (aE : Int) (aH : Int) (aG : ByteArray) (r : List (S40)) (w : World) (hr0 : Kd.C k40 w A0 l0.length l0) (hc0 : l0.length ≤ c0) (h : ref04_Put.f k l0 aE aH aG = some r) :
  Calls Try.prog 34 #[.slice A0 l0.length c0, .agg #[.int .i64 aE, .int .i64 aH, .string aG]] w fun e w' => ∃ v0_ : Value, e = .returned (v0_) ∧ Kd.R k40 40 w' w.heap.size (fun _ => True) v0_ r ∧ Below w.heap.size w w' := by
 have hu40 := Try.underlying40; have HR0 := Zq_.mk hr0; have HC0 := Zq_.mk hc0; clear hr0 hc0; have HB := Zq_.mk (Below.refl w.heap.size w); have H : (ref04_Put.l0 k l0 ([] : List (S40)) false 0 aE aH aG) = some r := h; clear h; have H' := Zq_.mk H; clear H
 go_enter Try.func34, Try.ntmps34
 go_wp2_with (first | ((with_reducible refine qi_ (N := 3) rfl ?_); refine bE_ 3 #[.int .i64 aE, .int .i64 aH, .string aG] 40 ?_; intro aD hg w3 hbox hb; have aC := Zq_.mk (hbox); have cY := gW_ (w := w) hg (hB_ HB); have cZ := gW_ (w := w) hg (hB_ HB); replace HB := Zq_.mk (qb_ (hB_ HB) hb); clear hb hbox hg))
 repeat (go_quiet (first | ((with_reducible refine qi_ (N := 3) rfl ?_); refine bE_ 3 #[.int .i64 aE, .int .i64 aH, .string aG] 40 ?_; intro aD hg w3 hbox hb; have aC := Zq_.mk (hbox); have cY := gW_ (w := w) hg (hB_ HB); have cZ := gW_ (w := w) hg (hB_ HB); replace HB := Zq_.mk (qb_ (hB_ HB) hb); clear hb hbox hg)); try go_wp2_with (first | ((with_reducible refine qi_ (N := 3) rfl ?_); refine bE_ 3 #[.int .i64 aE, .int .i64 aH, .string aG] 40 ?_; intro aD hg w3 hbox hb; have aC := Zq_.mk (hbox); have cY := gW_ (w := w) hg (hB_ HB); have cZ := gW_ (w := w) hg (hB_ HB); replace HB := Zq_.mk (qb_ (hB_ HB) hb); clear hb hbox hg)))
 go_loopg [5, 6, 7] k (fun kq v5 v6 v7 w' => ∃ (aN : List (S40)) (bF : Bool) (aA : Int), v6 = .bool bF ∧ v7 = .int .i64 aA ∧ Zq_ (ref04_Put.l0 kq l0 aN bF aA aE aH aG = some r) ∧ Zq_ (kq ≤ k) ∧ Zq_ (Kd.R k40 40 w' w.heap.size (fun k_ => k_ ≠ aD) v5 aN) ∧ Zq_ (w'.heap[aD]? = some (.cells #[.int .i64 aE, .int .i64 aH, .string aG] 40 (0, 0))) ∧ Zq_ (Below w.heap.size w w'))
 case atStart => exact ⟨(([] : List (S40))), (false), (0), eS_, eS_, H', ⟨Nat.le_refl _⟩, ⟨by first | exact Kd.R_nil _ _ _ _ _ | exact Kd.N_nil _ _ _ _ _ | exact Kd.V_nil _ _ _ _ _ | exact Kd.Q_nil _ _ _ _ _ | exact Kd.S_nil _ _ _ _ _⟩, ⟨by (with_reducible repeat (first | refine qg_ ?_ _ | refine qf_ ?_ | refine qh_ ?_ _)); exact aC.out⟩, ⟨by exact hSet_ HB⟩⟩
 case round =>
  clear H'
  try clear p2
  try clear c3
  obtain ⟨aN, bF, aA, rfl, rfl, HA, HK1, aM, aC, HB⟩ := hrel
  cases gk with
  | zero => exact absurd HA.out (by simp [ref04_Put.l0])
  | succ k1 =>
   have H := HA.out; clear HA; simp only [ref04_Put.l0] at H
   by_cases c4 : aA < (l0.length : Int)
   ·rw [if_pos c4] at H; have dM : decide (aA < (l0.length : Int)) = true := decide_eq_true c4; clear c4; have HC5 := Zq_.mk H; clear H
    go_upto_region 6 with (fail)
    repeat (go_quiet (fail); go_upto_region 6 with (fail))
    go_cut [25] (fun v25 wc => ∃ (kq : Nat) (bV : Bool), v25 = .bool bV ∧ Zq_ (ref04_Put.j1 kq l0 aN bF aA bV aE aH aG = some r) ∧ Zq_ (kq ≤ k1) ∧ Zq_ (Kd.R k40 40 wc w.heap.size (fun k_ => k_ ≠ aD) u5 aN) ∧ Zq_ (wc.heap[aD]? = some (.cells #[.int .i64 aE, .int .i64 aH, .string aG] 40 (0, 0))) ∧ Zq_ (Below w.heap.size w wc))
    case first =>
     have H := HC5.out; clear HC5
     by_cases c6 : bF = true
     ·subst c6
      have H1 : (ref04_Put.j1 k1 l0 aN true aA false aE aH aG) = some r := by rw [if_pos rfl] at H; exact H
      clear H; have H := H1; clear H1; have H' := Zq_.mk H; clear H
      go_wp2
      repeat (go_quiet (fail); try go_wp2)
      go_meet
      case rel => exact ⟨_, (false), eS_, H', ⟨by have := HK1.out; first | omega | exact Nat.le_refl _⟩, ⟨by (with_reducible repeat (first | apply Kd.qm_ | apply Kd.ql_ | apply Kd.R_drew)); exact aM.out⟩, ⟨by (with_reducible repeat (first | refine qg_ ?_ _ | refine qf_ ?_ | refine qh_ ?_ _)); exact aC.out⟩, ⟨by exact hSet_ HB⟩⟩
     ·replace c6 := Bool.eq_false_iff.mpr c6; subst c6
      have H1 : (if 0 ≤ aA then (ref04_Put.j1 k1 l0 aN false aA (decide (((rd_T40 l0 aA).f0) ≥ aE)) aE aH aG) else (none)) = some r := by rw [if_neg (show ¬ (false = true) by decide)] at H; exact H
      clear H; have H := H1; clear H1
      by_cases c7 : 0 ≤ aA
      ·rw [if_pos c7] at H; have dJ : decide (0 ≤ aA) = true := decide_eq_true c7; clear c7; (first | rw [dJ] | (simp only [i64_w, i32_w]; rw [dJ]) | skip); have H' := Zq_.mk H; clear H; have cW : 0 ≤ (aA : Int) := dA_; have cV : aA < (l0.length : Int) := dA_; obtain ⟨ad105, e105, bN, bM, bL⟩ := at_T40 HR0.out aA cW cV; cases e105; replace bN := hC_ HB bN; replace bM := hC_ HB bM; replace bL := hC_ HB bL; replace cW := eq_true cW; replace cV := eq_true cV; have dH : wr.cell? ⟨aD, 0, none⟩ = some (.int .i64 aE) := (qj_ aC.out 0).trans rfl; have dG : wr.cell? ⟨aD, 1, none⟩ = some (.int .i64 aH) := (qj_ aC.out 1).trans rfl; have dF : wr.cell? ⟨aD, 2, none⟩ = some (.string aG) := (qj_ aC.out 2).trans rfl; obtain ⟨dE, dD, dC⟩ := f3_ aC
       go_wp2
       repeat (go_quiet (fail); try go_wp2)
       go_meet
       case rel => exact ⟨_, (decide (((rd_T40 l0 aA).f0) ≥ aE)), eS_, H', ⟨by have := HK1.out; first | omega | exact Nat.le_refl _⟩, ⟨by (with_reducible repeat (first | apply Kd.qm_ | apply Kd.ql_ | apply Kd.R_drew)); exact aM.out⟩, ⟨by (with_reducible repeat (first | refine qg_ ?_ _ | refine qf_ ?_ | refine qh_ ?_ _)); exact aC.out⟩, ⟨by exact hSet_ HB⟩⟩
      ·rw [if_neg c7] at H; exact absurd H (by simp)
    case rest =>
     clear HC5
     try clear p1
     try clear q1
     try clear hx1
     try clear p2
     try clear c3
     try clear c4
     try clear dM
     try clear c6
     try clear c7
     try clear dJ
     try clear dH
     try clear dG
     try clear dF
     try clear dE
     try clear dD
     try clear dC
     try clear bN
     try clear bM
     try clear bL
     try clear cW
     try clear p2
     try clear cV
     obtain ⟨kq, bV, rfl, HA, HJ4, aM, aC, HB⟩ := hcut
     cases kq with
     | zero => exact absurd HA.out (by simp [ref04_Put.j1])
     | succ kj4 =>
      have H := HA.out; clear HA; simp only [ref04_Put.j1] at H
      by_cases c9 : bV = true
      ·subst c9
       have H1 : (if aN.length < 4398046511104 then ((some (aN ++ [(⟨aE, aH, aG⟩ : S40)] : List (S40))).bind fun bA => (if 0 ≤ aA then (if aA < (l0.length : Int) then (if ((rd_T40 l0 aA).f0) = aE then (ref04_Put.l0 kj4 l0 bA true (wrap64 (aA + 1)) aE aH aG) else (if bA.length < 4398046511104 then (ref04_Put.l0 kj4 l0 (bA ++ [(⟨(rd_T40 l0 aA).f0, (rd_T40 l0 aA).f1, (rd_T40 l0 aA).f2⟩ : S40)]) true (wrap64 (aA + 1)) aE aH aG) else (none))) else (none)) else (none))) else (none)) = some r := by rw [if_pos rfl] at H; exact H
       clear H; have H := H1; clear H1
       by_cases c10 : aN.length < 4398046511104
       ·rw [if_pos c10] at H; have bK := Zq_.mk c10; clear c10; obtain ⟨bA, bQ⟩ : ∃ y_ : List (S40), y_ = (aN ++ [(⟨aE, aH, aG⟩ : S40)]) := ⟨_, rfl⟩
        replace H : (if 0 ≤ aA then (if aA < (l0.length : Int) then (if ((rd_T40 l0 aA).f0) = aE then (ref04_Put.l0 kj4 l0 bA true (wrap64 (aA + 1)) aE aH aG) else (if bA.length < 4398046511104 then (ref04_Put.l0 kj4 l0 (bA ++ [(⟨(rd_T40 l0 aA).f0, (rd_T40 l0 aA).f1, (rd_T40 l0 aA).f2⟩ : S40)]) true (wrap64 (aA + 1)) aE aH aG) else (none))) else (none)) else (none)) = some r := by first | (rw [bQ]; with_reducible exact H) | (have H2_ := (Option.bind_some _ _).symm.trans H; rw [bQ]; with_reducible exact H2_) | (have H2_ := (Option.bind_some _ _).symm.trans H; with_reducible exact H2_) | with_reducible exact H | (rw [bQ]; exact H) | exact H
        have bJ := Zq_.mk bQ; clear bQ
        by_cases c11 : 0 ≤ aA
        ·rw [if_pos c11] at H; have c11b0 : decide (0 ≤ aA) = true := decide_eq_true c11; clear c11
         by_cases c12 : aA < (l0.length : Int)
         ·rw [if_pos c12] at H; have c12b0 : decide (aA < (l0.length : Int)) = true := decide_eq_true c12; clear c12
          by_cases c13 : ((rd_T40 l0 aA).f0) = aE
          ·rw [if_pos c13] at H; have dQ : (((rd_T40 l0 aA).f0) == aE) = true := beq_iff_eq.mpr c13; have dP : (((rd_T40 l0 aA).f0) != aE) = false := bne_eq_false_iff_eq.mpr c13; clear c13; have H' := Zq_.mk H; clear H; have hcz14_0 : wc.cell? ⟨aD, 0, none⟩ = some (.int .i64 aE) := (qj_ aC.out 0).trans rfl; have hcz14_1 : wc.cell? ⟨aD, 1, none⟩ = some (.int .i64 aH) := (qj_ aC.out 1).trans rfl; have hcz14_2 : wc.cell? ⟨aD, 2, none⟩ = some (.string aG) := (qj_ aC.out 2).trans rfl; obtain ⟨hfz14_0, hfz14_1, hfz14_2⟩ := f3_ aC
           go_wp2_with (first | ((with_reducible refine qy_ (b := .append) (xs := #[.tmp 26, .tmp 28]) rfl ?_); at_builtin; refine Kd.R_append k40 (w0 := w) w.heap.size rfl (.tmp 26) (.tmp 28) 22 40 (.agg #[(.int .i64 0), (.int .i64 0), (.string ⟨#[]⟩)]) 32 rfl Try.underlying22 info40 rfl (by decide) (by omega) u5 aN (⟨aE, aH, aG⟩ : S40) [.int .i64 aE, .int .i64 aH, .string aG] (fun k_ => k_ ≠ aD) (fun _ => False) rfl rfl ?aP (fun _ hk => hk.elim) ?aF ?aO ?aB ?aS ?aL ?_; (case aP => exact k40_mkM _ _ _ (⟨aE, aH, aG⟩ : S40)); (case aB => exact (by exact hSet_ HB)); (case aF => exact (fun k_ hk => Kd.freshB (g := aD) (o := .cells #[.int .i64 aE, .int .i64 aH, .string aG] 40 (0, 0)) (by exact bK_ aC) k_ hk)); (case aO => exact (vX_ aM)); (case aS => exact (qe_ (by exact hSet_ HB))); (case aL => have := bK.out; omega); intro v107 w15 ho hb hg hat; rw [← bJ.out] at ho; replace aC := Zq_.mk (blk_grown (g := aD) (o := .cells #[.int .i64 aE, .int .i64 aH, .string aG] 40 (0, 0)) (by exact bK_ aC) hg (Kd.R_away aM.out (fun _ hk => hk))); replace HB := Zq_.mk (hb); have aW := Zq_.mk (ho); clear aM; clear ho hb hg hat; have aV : 0 ≤ (aA : Int) := dA_; have aU : aA < (l0.length : Int) := dA_; obtain ⟨bE, bI, aK, aJ, aI⟩ := at_T40 HR0.out aA aV aU; cases bI; replace aK := hC_ HB aK; replace aJ := hC_ HB aJ; replace aI := hC_ HB aI; replace aV := eq_true aV; replace aU := eq_true aU; obtain ⟨cK, cJ, cI⟩ := c3_ aC; obtain ⟨cE, cD, cC⟩ := f3_ aC))
           repeat (go_quiet (first | ((with_reducible refine qy_ (b := .append) (xs := #[.tmp 26, .tmp 28]) rfl ?_); at_builtin; refine Kd.R_append k40 (w0 := w) w.heap.size rfl (.tmp 26) (.tmp 28) 22 40 (.agg #[(.int .i64 0), (.int .i64 0), (.string ⟨#[]⟩)]) 32 rfl Try.underlying22 info40 rfl (by decide) (by omega) u5 aN (⟨aE, aH, aG⟩ : S40) [.int .i64 aE, .int .i64 aH, .string aG] (fun k_ => k_ ≠ aD) (fun _ => False) rfl rfl ?aP (fun _ hk => hk.elim) ?aF ?aO ?aB ?aS ?aL ?_; (case aP => exact k40_mkM _ _ _ (⟨aE, aH, aG⟩ : S40)); (case aB => exact (by exact hSet_ HB)); (case aF => exact (fun k_ hk => Kd.freshB (g := aD) (o := .cells #[.int .i64 aE, .int .i64 aH, .string aG] 40 (0, 0)) (by exact bK_ aC) k_ hk)); (case aO => exact (vX_ aM)); (case aS => exact (qe_ (by exact hSet_ HB))); (case aL => have := bK.out; omega); intro v107 w15 ho hb hg hat; rw [← bJ.out] at ho; replace aC := Zq_.mk (blk_grown (g := aD) (o := .cells #[.int .i64 aE, .int .i64 aH, .string aG] 40 (0, 0)) (by exact bK_ aC) hg (Kd.R_away aM.out (fun _ hk => hk))); replace HB := Zq_.mk (hb); have aW := Zq_.mk (ho); clear aM; clear ho hb hg hat; have aV : 0 ≤ (aA : Int) := dA_; have aU : aA < (l0.length : Int) := dA_; obtain ⟨bE, bI, aK, aJ, aI⟩ := at_T40 HR0.out aA aV aU; cases bI; replace aK := hC_ HB aK; replace aJ := hC_ HB aJ; replace aI := hC_ HB aI; replace aV := eq_true aV; replace aU := eq_true aU; obtain ⟨cK, cJ, cI⟩ := c3_ aC; obtain ⟨cE, cD, cC⟩ := f3_ aC)); try go_wp2_with (first | ((with_reducible refine qy_ (b := .append) (xs := #[.tmp 26, .tmp 28]) rfl ?_); at_builtin; refine Kd.R_append k40 (w0 := w) w.heap.size rfl (.tmp 26) (.tmp 28) 22 40 (.agg #[(.int .i64 0), (.int .i64 0), (.string ⟨#[]⟩)]) 32 rfl Try.underlying22 info40 rfl (by decide) (by omega) u5 aN (⟨aE, aH, aG⟩ : S40) [.int .i64 aE, .int .i64 aH, .string aG] (fun k_ => k_ ≠ aD) (fun _ => False) rfl rfl ?aP (fun _ hk => hk.elim) ?aF ?aO ?aB ?aS ?aL ?_; (case aP => exact k40_mkM _ _ _ (⟨aE, aH, aG⟩ : S40)); (case aB => exact (by exact hSet_ HB)); (case aF => exact (fun k_ hk => Kd.freshB (g := aD) (o := .cells #[.int .i64 aE, .int .i64 aH, .string aG] 40 (0, 0)) (by exact bK_ aC) k_ hk)); (case aO => exact (vX_ aM)); (case aS => exact (qe_ (by exact hSet_ HB))); (case aL => have := bK.out; omega); intro v107 w15 ho hb hg hat; rw [← bJ.out] at ho; replace aC := Zq_.mk (blk_grown (g := aD) (o := .cells #[.int .i64 aE, .int .i64 aH, .string aG] 40 (0, 0)) (by exact bK_ aC) hg (Kd.R_away aM.out (fun _ hk => hk))); replace HB := Zq_.mk (hb); have aW := Zq_.mk (ho); clear aM; clear ho hb hg hat; have aV : 0 ≤ (aA : Int) := dA_; have aU : aA < (l0.length : Int) := dA_; obtain ⟨bE, bI, aK, aJ, aI⟩ := at_T40 HR0.out aA aV aU; cases bI; replace aK := hC_ HB aK; replace aJ := hC_ HB aJ; replace aI := hC_ HB aI; replace aV := eq_true aV; replace aU := eq_true aU; obtain ⟨cK, cJ, cI⟩ := c3_ aC; obtain ⟨cE, cD, cC⟩ := f3_ aC)))
           go_roundg kj4
           case measure => have := HK1.out; have := HJ4.out; omega
           case rel => exact ⟨(bA), (true), (wrap64 (aA + 1)), eS_, eS_, H', ⟨by have := HK1.out; have := HJ4.out; omega⟩, ⟨by (with_reducible repeat (first | apply Kd.qm_ | apply Kd.ql_ | apply Kd.R_drew)); exact aW.out⟩, ⟨by (with_reducible repeat (first | refine qg_ ?_ _ | refine qf_ ?_ | refine qh_ ?_ _)); exact aC.out⟩, ⟨by exact hSet_ HB⟩⟩
          ·rw [if_neg c13] at H; have dQ : (((rd_T40 l0 aA).f0) == aE) = false := beq_eq_false_iff_ne.mpr c13; have dP : (((rd_T40 l0 aA).f0) != aE) = true := bne_iff_ne.mpr c13
           by_cases c17 : bA.length < 4398046511104
           ·rw [if_pos c17] at H; have cR := Zq_.mk c17; clear c17; obtain ⟨dL, bP⟩ : ∃ y_ : List (S40), y_ = (bA ++ [(⟨(rd_T40 l0 aA).f0, (rd_T40 l0 aA).f1, (rd_T40 l0 aA).f2⟩ : S40)]) := ⟨_, rfl⟩
            replace H : (ref04_Put.l0 kj4 l0 dL true (wrap64 (aA + 1)) aE aH aG) = some r := by first | (rw [bP]; with_reducible exact H) | (have H2_ := (Option.bind_some _ _).symm.trans H; rw [bP]; with_reducible exact H2_) | (have H2_ := (Option.bind_some _ _).symm.trans H; with_reducible exact H2_) | with_reducible exact H | (rw [bP]; exact H) | exact H
            have cN := Zq_.mk bP; clear bP; have H' := Zq_.mk H; clear H; have hcz18_0 : wc.cell? ⟨aD, 0, none⟩ = some (.int .i64 aE) := (qj_ aC.out 0).trans rfl; have hcz18_1 : wc.cell? ⟨aD, 1, none⟩ = some (.int .i64 aH) := (qj_ aC.out 1).trans rfl; have hcz18_2 : wc.cell? ⟨aD, 2, none⟩ = some (.string aG) := (qj_ aC.out 2).trans rfl; obtain ⟨hfz18_0, hfz18_1, hfz18_2⟩ := f3_ aC
            go_wp2_with (first | ((with_reducible refine qy_ (b := .append) (xs := #[.tmp 26, .tmp 28]) rfl ?_); at_builtin; refine Kd.R_append k40 (w0 := w) w.heap.size rfl (.tmp 26) (.tmp 28) 22 40 (.agg #[(.int .i64 0), (.int .i64 0), (.string ⟨#[]⟩)]) 32 rfl Try.underlying22 info40 rfl (by decide) (by omega) u5 aN (⟨aE, aH, aG⟩ : S40) [.int .i64 aE, .int .i64 aH, .string aG] (fun k_ => k_ ≠ aD) (fun _ => False) rfl rfl ?aP (fun _ hk => hk.elim) ?aF ?aO ?aB ?aS ?aL ?_; (case aP => exact k40_mkM _ _ _ (⟨aE, aH, aG⟩ : S40)); (case aB => exact (by exact hSet_ HB)); (case aF => exact (fun k_ hk => Kd.freshB (g := aD) (o := .cells #[.int .i64 aE, .int .i64 aH, .string aG] 40 (0, 0)) (by exact bK_ aC) k_ hk)); (case aO => exact (vX_ aM)); (case aS => exact (qe_ (by exact hSet_ HB))); (case aL => have := bK.out; omega); intro v107 w19 ho hb hg hat; rw [← bJ.out] at ho; replace aC := Zq_.mk (blk_grown (g := aD) (o := .cells #[.int .i64 aE, .int .i64 aH, .string aG] 40 (0, 0)) (by exact bK_ aC) hg (Kd.R_away aM.out (fun _ hk => hk))); replace HB := Zq_.mk (hb); have aW := Zq_.mk (ho); clear aM; clear ho hb hg hat; have aV : 0 ≤ (aA : Int) := dA_; have aU : aA < (l0.length : Int) := dA_; obtain ⟨bE, bI, aK, aJ, aI⟩ := at_T40 HR0.out aA aV aU; cases bI; replace aK := hC_ HB aK; replace aJ := hC_ HB aJ; replace aI := hC_ HB aI; replace aV := eq_true aV; replace aU := eq_true aU; obtain ⟨cH, cG, cF⟩ := c3_ aC; obtain ⟨cB, cA, bZ⟩ := f3_ aC; have bH : 0 ≤ (aA : Int) := dA_; have bG : aA < (l0.length : Int) := dA_; obtain ⟨bS, cL, aZ, aY, aX⟩ := at_T40 HR0.out aA bH bG; obtain rfl : bE = bS := (by injection cL); replace aZ := hC_ HB aZ; replace aY := hC_ HB aY; replace aX := hC_ HB aX; replace bH := eq_true bH; replace bG := eq_true bG) | ((with_reducible refine qy_ (b := .append) (xs := #[.tmp 38, .tmp 43]) rfl ?_); at_builtin; refine Kd.R_append k40 (w0 := w) w.heap.size rfl (.tmp 38) (.tmp 43) 22 40 (.agg #[(.int .i64 0), (.int .i64 0), (.string ⟨#[]⟩)]) 32 rfl Try.underlying22 info40 rfl (by decide) (by omega) v107 bA (⟨(rd_T40 l0 aA).f0, (rd_T40 l0 aA).f1, (rd_T40 l0 aA).f2⟩ : S40) [.int .i64 ((rd_T40 l0 aA).f0), .int .i64 ((rd_T40 l0 aA).f1), .string ((rd_T40 l0 aA).f2)] (fun k_ => k_ ≠ aD) (fun _ => False) rfl rfl ?aP (fun _ hk => hk.elim) ?aF ?aO ?aB ?aS ?aL ?_; (case aP => exact k40_mkM _ _ _ (⟨(rd_T40 l0 aA).f0, (rd_T40 l0 aA).f1, (rd_T40 l0 aA).f2⟩ : S40)); (case aB => exact (by exact hSet_ HB)); (case aF => exact (fun k_ hk => Kd.freshB (g := aD) (o := .cells #[.int .i64 aE, .int .i64 aH, .string aG] 40 (0, 0)) (by exact bK_ aC) k_ hk)); (case aO => exact (vX_ aW)); (case aS => exact (qe_ (by exact hSet_ HB))); (case aL => have := cR.out; omega); intro v112 w21 ho hb hg hat; rw [← cN.out] at ho; replace aC := Zq_.mk (blk_grown (g := aD) (o := .cells #[.int .i64 aE, .int .i64 aH, .string aG] 40 (0, 0)) (by exact bK_ aC) hg (Kd.R_away aW.out (fun _ hk => hk))); replace HB := Zq_.mk (hb); have cT := Zq_.mk (ho); clear aW; clear ho hb hg hat))
            repeat (go_quiet (first | ((with_reducible refine qy_ (b := .append) (xs := #[.tmp 26, .tmp 28]) rfl ?_); at_builtin; refine Kd.R_append k40 (w0 := w) w.heap.size rfl (.tmp 26) (.tmp 28) 22 40 (.agg #[(.int .i64 0), (.int .i64 0), (.string ⟨#[]⟩)]) 32 rfl Try.underlying22 info40 rfl (by decide) (by omega) u5 aN (⟨aE, aH, aG⟩ : S40) [.int .i64 aE, .int .i64 aH, .string aG] (fun k_ => k_ ≠ aD) (fun _ => False) rfl rfl ?aP (fun _ hk => hk.elim) ?aF ?aO ?aB ?aS ?aL ?_; (case aP => exact k40_mkM _ _ _ (⟨aE, aH, aG⟩ : S40)); (case aB => exact (by exact hSet_ HB)); (case aF => exact (fun k_ hk => Kd.freshB (g := aD) (o := .cells #[.int .i64 aE, .int .i64 aH, .string aG] 40 (0, 0)) (by exact bK_ aC) k_ hk)); (case aO => exact (vX_ aM)); (case aS => exact (qe_ (by exact hSet_ HB))); (case aL => have := bK.out; omega); intro v107 w19 ho hb hg hat; rw [← bJ.out] at ho; replace aC := Zq_.mk (blk_grown (g := aD) (o := .cells #[.int .i64 aE, .int .i64 aH, .string aG] 40 (0, 0)) (by exact bK_ aC) hg (Kd.R_away aM.out (fun _ hk => hk))); replace HB := Zq_.mk (hb); have aW := Zq_.mk (ho); clear aM; clear ho hb hg hat; have aV : 0 ≤ (aA : Int) := dA_; have aU : aA < (l0.length : Int) := dA_; obtain ⟨bE, bI, aK, aJ, aI⟩ := at_T40 HR0.out aA aV aU; cases bI; replace aK := hC_ HB aK; replace aJ := hC_ HB aJ; replace aI := hC_ HB aI; replace aV := eq_true aV; replace aU := eq_true aU; obtain ⟨cH, cG, cF⟩ := c3_ aC; obtain ⟨cB, cA, bZ⟩ := f3_ aC; have bH : 0 ≤ (aA : Int) := dA_; have bG : aA < (l0.length : Int) := dA_; obtain ⟨bS, cL, aZ, aY, aX⟩ := at_T40 HR0.out aA bH bG; obtain rfl : bE = bS := (by injection cL); replace aZ := hC_ HB aZ; replace aY := hC_ HB aY; replace aX := hC_ HB aX; replace bH := eq_true bH; replace bG := eq_true bG) | ((with_reducible refine qy_ (b := .append) (xs := #[.tmp 38, .tmp 43]) rfl ?_); at_builtin; refine Kd.R_append k40 (w0 := w) w.heap.size rfl (.tmp 38) (.tmp 43) 22 40 (.agg #[(.int .i64 0), (.int .i64 0), (.string ⟨#[]⟩)]) 32 rfl Try.underlying22 info40 rfl (by decide) (by omega) v107 bA (⟨(rd_T40 l0 aA).f0, (rd_T40 l0 aA).f1, (rd_T40 l0 aA).f2⟩ : S40) [.int .i64 ((rd_T40 l0 aA).f0), .int .i64 ((rd_T40 l0 aA).f1), .string ((rd_T40 l0 aA).f2)] (fun k_ => k_ ≠ aD) (fun _ => False) rfl rfl ?aP (fun _ hk => hk.elim) ?aF ?aO ?aB ?aS ?aL ?_; (case aP => exact k40_mkM _ _ _ (⟨(rd_T40 l0 aA).f0, (rd_T40 l0 aA).f1, (rd_T40 l0 aA).f2⟩ : S40)); (case aB => exact (by exact hSet_ HB)); (case aF => exact (fun k_ hk => Kd.freshB (g := aD) (o := .cells #[.int .i64 aE, .int .i64 aH, .string aG] 40 (0, 0)) (by exact bK_ aC) k_ hk)); (case aO => exact (vX_ aW)); (case aS => exact (qe_ (by exact hSet_ HB))); (case aL => have := cR.out; omega); intro v112 w21 ho hb hg hat; rw [← cN.out] at ho; replace aC := Zq_.mk (blk_grown (g := aD) (o := .cells #[.int .i64 aE, .int .i64 aH, .string aG] 40 (0, 0)) (by exact bK_ aC) hg (Kd.R_away aW.out (fun _ hk => hk))); replace HB := Zq_.mk (hb); have cT := Zq_.mk (ho); clear aW; clear ho hb hg hat)); try go_wp2_with (first | ((with_reducible refine qy_ (b := .append) (xs := #[.tmp 26, .tmp 28]) rfl ?_); at_builtin; refine Kd.R_append k40 (w0 := w) w.heap.size rfl (.tmp 26) (.tmp 28) 22 40 (.agg #[(.int .i64 0), (.int .i64 0), (.string ⟨#[]⟩)]) 32 rfl Try.underlying22 info40 rfl (by decide) (by omega) u5 aN (⟨aE, aH, aG⟩ : S40) [.int .i64 aE, .int .i64 aH, .string aG] (fun k_ => k_ ≠ aD) (fun _ => False) rfl rfl ?aP (fun _ hk => hk.elim) ?aF ?aO ?aB ?aS ?aL ?_; (case aP => exact k40_mkM _ _ _ (⟨aE, aH, aG⟩ : S40)); (case aB => exact (by exact hSet_ HB)); (case aF => exact (fun k_ hk => Kd.freshB (g := aD) (o := .cells #[.int .i64 aE, .int .i64 aH, .string aG] 40 (0, 0)) (by exact bK_ aC) k_ hk)); (case aO => exact (vX_ aM)); (case aS => exact (qe_ (by exact hSet_ HB))); (case aL => have := bK.out; omega); intro v107 w19 ho hb hg hat; rw [← bJ.out] at ho; replace aC := Zq_.mk (blk_grown (g := aD) (o := .cells #[.int .i64 aE, .int .i64 aH, .string aG] 40 (0, 0)) (by exact bK_ aC) hg (Kd.R_away aM.out (fun _ hk => hk))); replace HB := Zq_.mk (hb); have aW := Zq_.mk (ho); clear aM; clear ho hb hg hat; have aV : 0 ≤ (aA : Int) := dA_; have aU : aA < (l0.length : Int) := dA_; obtain ⟨bE, bI, aK, aJ, aI⟩ := at_T40 HR0.out aA aV aU; cases bI; replace aK := hC_ HB aK; replace aJ := hC_ HB aJ; replace aI := hC_ HB aI; replace aV := eq_true aV; replace aU := eq_true aU; obtain ⟨cH, cG, cF⟩ := c3_ aC; obtain ⟨cB, cA, bZ⟩ := f3_ aC; have bH : 0 ≤ (aA : Int) := dA_; have bG : aA < (l0.length : Int) := dA_; obtain ⟨bS, cL, aZ, aY, aX⟩ := at_T40 HR0.out aA bH bG; obtain rfl : bE = bS := (by injection cL); replace aZ := hC_ HB aZ; replace aY := hC_ HB aY; replace aX := hC_ HB aX; replace bH := eq_true bH; replace bG := eq_true bG) | ((with_reducible refine qy_ (b := .append) (xs := #[.tmp 38, .tmp 43]) rfl ?_); at_builtin; refine Kd.R_append k40 (w0 := w) w.heap.size rfl (.tmp 38) (.tmp 43) 22 40 (.agg #[(.int .i64 0), (.int .i64 0), (.string ⟨#[]⟩)]) 32 rfl Try.underlying22 info40 rfl (by decide) (by omega) v107 bA (⟨(rd_T40 l0 aA).f0, (rd_T40 l0 aA).f1, (rd_T40 l0 aA).f2⟩ : S40) [.int .i64 ((rd_T40 l0 aA).f0), .int .i64 ((rd_T40 l0 aA).f1), .string ((rd_T40 l0 aA).f2)] (fun k_ => k_ ≠ aD) (fun _ => False) rfl rfl ?aP (fun _ hk => hk.elim) ?aF ?aO ?aB ?aS ?aL ?_; (case aP => exact k40_mkM _ _ _ (⟨(rd_T40 l0 aA).f0, (rd_T40 l0 aA).f1, (rd_T40 l0 aA).f2⟩ : S40)); (case aB => exact (by exact hSet_ HB)); (case aF => exact (fun k_ hk => Kd.freshB (g := aD) (o := .cells #[.int .i64 aE, .int .i64 aH, .string aG] 40 (0, 0)) (by exact bK_ aC) k_ hk)); (case aO => exact (vX_ aW)); (case aS => exact (qe_ (by exact hSet_ HB))); (case aL => have := cR.out; omega); intro v112 w21 ho hb hg hat; rw [← cN.out] at ho; replace aC := Zq_.mk (blk_grown (g := aD) (o := .cells #[.int .i64 aE, .int .i64 aH, .string aG] 40 (0, 0)) (by exact bK_ aC) hg (Kd.R_away aW.out (fun _ hk => hk))); replace HB := Zq_.mk (hb); have cT := Zq_.mk (ho); clear aW; clear ho hb hg hat)))
            go_roundg kj4
            case measure => have := HK1.out; have := HJ4.out; omega
            case rel => exact ⟨(dL), (true), (wrap64 (aA + 1)), eS_, eS_, H', ⟨by have := HK1.out; have := HJ4.out; omega⟩, ⟨by (with_reducible repeat (first | apply Kd.qm_ | apply Kd.ql_ | apply Kd.R_drew)); exact cT.out⟩, ⟨by (with_reducible repeat (first | refine qg_ ?_ _ | refine qf_ ?_ | refine qh_ ?_ _)); exact aC.out⟩, ⟨by exact hSet_ HB⟩⟩
           ·rw [if_neg c17] at H; exact absurd H (by simp)
         ·rw [if_neg c12] at H; exact absurd H (by simp)
        ·rw [if_neg c11] at H; exact absurd H (by simp)
       ·rw [if_neg c10] at H; exact absurd H (by simp)
      ·replace c9 := Bool.eq_false_iff.mpr c9; subst c9
       have H1 : (if 0 ≤ aA then (if aA < (l0.length : Int) then (if ((rd_T40 l0 aA).f0) = aE then (ref04_Put.l0 kj4 l0 aN bF (wrap64 (aA + 1)) aE aH aG) else (if aN.length < 4398046511104 then (ref04_Put.l0 kj4 l0 (aN ++ [(⟨(rd_T40 l0 aA).f0, (rd_T40 l0 aA).f1, (rd_T40 l0 aA).f2⟩ : S40)]) bF (wrap64 (aA + 1)) aE aH aG) else (none))) else (none)) else (none)) = some r := by rw [if_neg (show ¬ (false = true) by decide)] at H; exact H
       clear H; have H := H1; clear H1
       by_cases c22 : 0 ≤ aA
       ·rw [if_pos c22] at H; have c22b0 : decide (0 ≤ aA) = true := decide_eq_true c22; clear c22
        by_cases c23 : aA < (l0.length : Int)
        ·rw [if_pos c23] at H; have c23b0 : decide (aA < (l0.length : Int)) = true := decide_eq_true c23; clear c23
         by_cases c24 : ((rd_T40 l0 aA).f0) = aE
         ·rw [if_pos c24] at H; have dO : (((rd_T40 l0 aA).f0) == aE) = true := beq_iff_eq.mpr c24; have dN : (((rd_T40 l0 aA).f0) != aE) = false := bne_eq_false_iff_eq.mpr c24; clear c24; have H' := Zq_.mk H; clear H; have bU : 0 ≤ (aA : Int) := dA_; have bT : aA < (l0.length : Int) := dA_; obtain ⟨cX, dI, bD, bC, bB⟩ := at_T40 HR0.out aA bU bT; cases dI; replace bD := hC_ HB bD; replace bC := hC_ HB bC; replace bB := hC_ HB bB; replace bU := eq_true bU; replace bT := eq_true bT; have hcz25_0 : wc.cell? ⟨aD, 0, none⟩ = some (.int .i64 aE) := (qj_ aC.out 0).trans rfl; have hcz25_1 : wc.cell? ⟨aD, 1, none⟩ = some (.int .i64 aH) := (qj_ aC.out 1).trans rfl; have hcz25_2 : wc.cell? ⟨aD, 2, none⟩ = some (.string aG) := (qj_ aC.out 2).trans rfl; obtain ⟨hfz25_0, hfz25_1, hfz25_2⟩ := f3_ aC
          go_wp2
          repeat (go_quiet (fail); try go_wp2)
          go_roundg kj4
          case measure => have := HK1.out; have := HJ4.out; omega
          case rel => exact ⟨(aN), (bF), (wrap64 (aA + 1)), eS_, eS_, H', ⟨by have := HK1.out; have := HJ4.out; omega⟩, ⟨by (with_reducible repeat (first | apply Kd.qm_ | apply Kd.ql_ | apply Kd.R_drew)); exact aM.out⟩, ⟨by (with_reducible repeat (first | refine qg_ ?_ _ | refine qf_ ?_ | refine qh_ ?_ _)); exact aC.out⟩, ⟨by exact hSet_ HB⟩⟩
         ·rw [if_neg c24] at H; have dO : (((rd_T40 l0 aA).f0) == aE) = false := beq_eq_false_iff_ne.mpr c24; have dN : (((rd_T40 l0 aA).f0) != aE) = true := bne_iff_ne.mpr c24
          by_cases c26 : aN.length < 4398046511104
          ·rw [if_pos c26] at H; have cQ := Zq_.mk c26; clear c26; obtain ⟨dK, bO⟩ : ∃ y_ : List (S40), y_ = (aN ++ [(⟨(rd_T40 l0 aA).f0, (rd_T40 l0 aA).f1, (rd_T40 l0 aA).f2⟩ : S40)]) := ⟨_, rfl⟩
           replace H : (ref04_Put.l0 kj4 l0 dK bF (wrap64 (aA + 1)) aE aH aG) = some r := by first | (rw [bO]; with_reducible exact H) | (have H2_ := (Option.bind_some _ _).symm.trans H; rw [bO]; with_reducible exact H2_) | (have H2_ := (Option.bind_some _ _).symm.trans H; with_reducible exact H2_) | with_reducible exact H | (rw [bO]; exact H) | exact H
           have cM := Zq_.mk bO; clear bO; have H' := Zq_.mk H; clear H; have bU : 0 ≤ (aA : Int) := dA_; have bT : aA < (l0.length : Int) := dA_; obtain ⟨cX, dI, bD, bC, bB⟩ := at_T40 HR0.out aA bU bT; cases dI; replace bD := hC_ HB bD; replace bC := hC_ HB bC; replace bB := hC_ HB bB; replace bU := eq_true bU; replace bT := eq_true bT; have hcz27_0 : wc.cell? ⟨aD, 0, none⟩ = some (.int .i64 aE) := (qj_ aC.out 0).trans rfl; have hcz27_1 : wc.cell? ⟨aD, 1, none⟩ = some (.int .i64 aH) := (qj_ aC.out 1).trans rfl; have hcz27_2 : wc.cell? ⟨aD, 2, none⟩ = some (.string aG) := (qj_ aC.out 2).trans rfl; obtain ⟨hfz27_0, hfz27_1, hfz27_2⟩ := f3_ aC; have dB : 0 ≤ (aA : Int) := dA_; have dA : aA < (l0.length : Int) := dA_; obtain ⟨dR, e115, bY, bX, bW⟩ := at_T40 HR0.out aA dB dA; obtain rfl : cX = dR := (by injection e115); replace bY := hC_ HB bY; replace bX := hC_ HB bX; replace bW := hC_ HB bW; replace dB := eq_true dB; replace dA := eq_true dA
           go_wp2_with (first | ((with_reducible refine qy_ (b := .append) (xs := #[.tmp 38, .tmp 43]) rfl ?_); at_builtin; refine Kd.R_append k40 (w0 := w) w.heap.size rfl (.tmp 38) (.tmp 43) 22 40 (.agg #[(.int .i64 0), (.int .i64 0), (.string ⟨#[]⟩)]) 32 rfl Try.underlying22 info40 rfl (by decide) (by omega) u5 aN (⟨(rd_T40 l0 aA).f0, (rd_T40 l0 aA).f1, (rd_T40 l0 aA).f2⟩ : S40) [.int .i64 ((rd_T40 l0 aA).f0), .int .i64 ((rd_T40 l0 aA).f1), .string ((rd_T40 l0 aA).f2)] (fun k_ => k_ ≠ aD) (fun _ => False) rfl rfl ?aP (fun _ hk => hk.elim) ?aF ?aO ?aB ?aS ?aL ?_; (case aP => exact k40_mkM _ _ _ (⟨(rd_T40 l0 aA).f0, (rd_T40 l0 aA).f1, (rd_T40 l0 aA).f2⟩ : S40)); (case aB => exact (by exact hSet_ HB)); (case aF => exact (fun k_ hk => Kd.freshB (g := aD) (o := .cells #[.int .i64 aE, .int .i64 aH, .string aG] 40 (0, 0)) (by exact bK_ aC) k_ hk)); (case aO => exact (vX_ aM)); (case aS => exact (qe_ (by exact hSet_ HB))); (case aL => have := cQ.out; omega); intro v117 w28 ho hb hg hat; rw [← cM.out] at ho; replace aC := Zq_.mk (blk_grown (g := aD) (o := .cells #[.int .i64 aE, .int .i64 aH, .string aG] 40 (0, 0)) (by exact bK_ aC) hg (Kd.R_away aM.out (fun _ hk => hk))); replace HB := Zq_.mk (hb); have cS := Zq_.mk (ho); clear aM; clear ho hb hg hat))
           repeat (go_quiet (first | ((with_reducible refine qy_ (b := .append) (xs := #[.tmp 38, .tmp 43]) rfl ?_); at_builtin; refine Kd.R_append k40 (w0 := w) w.heap.size rfl (.tmp 38) (.tmp 43) 22 40 (.agg #[(.int .i64 0), (.int .i64 0), (.string ⟨#[]⟩)]) 32 rfl Try.underlying22 info40 rfl (by decide) (by omega) u5 aN (⟨(rd_T40 l0 aA).f0, (rd_T40 l0 aA).f1, (rd_T40 l0 aA).f2⟩ : S40) [.int .i64 ((rd_T40 l0 aA).f0), .int .i64 ((rd_T40 l0 aA).f1), .string ((rd_T40 l0 aA).f2)] (fun k_ => k_ ≠ aD) (fun _ => False) rfl rfl ?aP (fun _ hk => hk.elim) ?aF ?aO ?aB ?aS ?aL ?_; (case aP => exact k40_mkM _ _ _ (⟨(rd_T40 l0 aA).f0, (rd_T40 l0 aA).f1, (rd_T40 l0 aA).f2⟩ : S40)); (case aB => exact (by exact hSet_ HB)); (case aF => exact (fun k_ hk => Kd.freshB (g := aD) (o := .cells #[.int .i64 aE, .int .i64 aH, .string aG] 40 (0, 0)) (by exact bK_ aC) k_ hk)); (case aO => exact (vX_ aM)); (case aS => exact (qe_ (by exact hSet_ HB))); (case aL => have := cQ.out; omega); intro v117 w28 ho hb hg hat; rw [← cM.out] at ho; replace aC := Zq_.mk (blk_grown (g := aD) (o := .cells #[.int .i64 aE, .int .i64 aH, .string aG] 40 (0, 0)) (by exact bK_ aC) hg (Kd.R_away aM.out (fun _ hk => hk))); replace HB := Zq_.mk (hb); have cS := Zq_.mk (ho); clear aM; clear ho hb hg hat)); try go_wp2_with (first | ((with_reducible refine qy_ (b := .append) (xs := #[.tmp 38, .tmp 43]) rfl ?_); at_builtin; refine Kd.R_append k40 (w0 := w) w.heap.size rfl (.tmp 38) (.tmp 43) 22 40 (.agg #[(.int .i64 0), (.int .i64 0), (.string ⟨#[]⟩)]) 32 rfl Try.underlying22 info40 rfl (by decide) (by omega) u5 aN (⟨(rd_T40 l0 aA).f0, (rd_T40 l0 aA).f1, (rd_T40 l0 aA).f2⟩ : S40) [.int .i64 ((rd_T40 l0 aA).f0), .int .i64 ((rd_T40 l0 aA).f1), .string ((rd_T40 l0 aA).f2)] (fun k_ => k_ ≠ aD) (fun _ => False) rfl rfl ?aP (fun _ hk => hk.elim) ?aF ?aO ?aB ?aS ?aL ?_; (case aP => exact k40_mkM _ _ _ (⟨(rd_T40 l0 aA).f0, (rd_T40 l0 aA).f1, (rd_T40 l0 aA).f2⟩ : S40)); (case aB => exact (by exact hSet_ HB)); (case aF => exact (fun k_ hk => Kd.freshB (g := aD) (o := .cells #[.int .i64 aE, .int .i64 aH, .string aG] 40 (0, 0)) (by exact bK_ aC) k_ hk)); (case aO => exact (vX_ aM)); (case aS => exact (qe_ (by exact hSet_ HB))); (case aL => have := cQ.out; omega); intro v117 w28 ho hb hg hat; rw [← cM.out] at ho; replace aC := Zq_.mk (blk_grown (g := aD) (o := .cells #[.int .i64 aE, .int .i64 aH, .string aG] 40 (0, 0)) (by exact bK_ aC) hg (Kd.R_away aM.out (fun _ hk => hk))); replace HB := Zq_.mk (hb); have cS := Zq_.mk (ho); clear aM; clear ho hb hg hat)))
           go_roundg kj4
           case measure => have := HK1.out; have := HJ4.out; omega
           case rel => exact ⟨(dK), (bF), (wrap64 (aA + 1)), eS_, eS_, H', ⟨by have := HK1.out; have := HJ4.out; omega⟩, ⟨by (with_reducible repeat (first | apply Kd.qm_ | apply Kd.ql_ | apply Kd.R_drew)); exact cS.out⟩, ⟨by (with_reducible repeat (first | refine qg_ ?_ _ | refine qf_ ?_ | refine qh_ ?_ _)); exact aC.out⟩, ⟨by exact hSet_ HB⟩⟩
          ·rw [if_neg c26] at H; exact absurd H (by simp)
        ·rw [if_neg c23] at H; exact absurd H (by simp)
       ·rw [if_neg c22] at H; exact absurd H (by simp)
   ·rw [if_neg c4] at H; have dM : decide (aA < (l0.length : Int)) = false := decide_eq_false c4; clear c4
    by_cases c29 : bF = true
    ·subst c29
     have H1 : (some aN) = some r := by rw [if_pos rfl] at H; exact H
     clear H; have H := H1; clear H1; obtain rfl := Option.some.inj H
     go_wp2
     repeat (go_quiet (fail); try go_wp2)
     go_ret
     exact ⟨_, by exact eW_, by (with_reducible repeat (first | apply Kd.qm_ | apply Kd.ql_ | apply Kd.R_drew)); exact Kd.R_mono aM.out (fun _ hk => trivial), by exact hSet_ HB⟩
    ·replace c29 := Bool.eq_false_iff.mpr c29; subst c29
     have H1 : (if aN.length < 4398046511104 then (some (aN ++ [(⟨aE, aH, aG⟩ : S40)])) else (none)) = some r := by rw [if_neg (show ¬ (false = true) by decide)] at H; exact H
     clear H; have H := H1; clear H1
     by_cases c30 : aN.length < 4398046511104
     ·rw [if_pos c30] at H; have cP := Zq_.mk c30; clear c30; obtain ⟨y102, bR⟩ : ∃ y_ : List (S40), y_ = (aN ++ [(⟨aE, aH, aG⟩ : S40)]) := ⟨_, rfl⟩
      replace H : (some y102) = some r := by first | (rw [bR]; with_reducible exact H) | (have H2_ := (Option.bind_some _ _).symm.trans H; rw [bR]; with_reducible exact H2_) | (have H2_ := (Option.bind_some _ _).symm.trans H; with_reducible exact H2_) | with_reducible exact H | (rw [bR]; exact H) | exact H
      have cO := Zq_.mk bR; clear bR; obtain rfl := Option.some.inj H; have hcz31_0 : wr.cell? ⟨aD, 0, none⟩ = some (.int .i64 aE) := (qj_ aC.out 0).trans rfl; have hcz31_1 : wr.cell? ⟨aD, 1, none⟩ = some (.int .i64 aH) := (qj_ aC.out 1).trans rfl; have hcz31_2 : wr.cell? ⟨aD, 2, none⟩ = some (.string aG) := (qj_ aC.out 2).trans rfl; obtain ⟨hfz31_0, hfz31_1, hfz31_2⟩ := f3_ aC
      go_wp2_with (first | ((with_reducible refine qy_ (b := .append) (xs := #[.tmp 47, .tmp 49]) rfl ?_); at_builtin; refine Kd.R_append k40 (w0 := w) w.heap.size rfl (.tmp 47) (.tmp 49) 22 40 (.agg #[(.int .i64 0), (.int .i64 0), (.string ⟨#[]⟩)]) 32 rfl Try.underlying22 info40 rfl (by decide) (by omega) u5 aN (⟨aE, aH, aG⟩ : S40) [.int .i64 aE, .int .i64 aH, .string aG] (fun k_ => k_ ≠ aD) (fun _ => False) rfl rfl ?aP (fun _ hk => hk.elim) ?aF ?aO ?aB ?aS ?aL ?_; (case aP => exact k40_mkM _ _ _ (⟨aE, aH, aG⟩ : S40)); (case aB => exact (by exact hSet_ HB)); (case aF => exact (fun k_ hk => Kd.freshB (g := aD) (o := .cells #[.int .i64 aE, .int .i64 aH, .string aG] 40 (0, 0)) (by exact bK_ aC) k_ hk)); (case aO => exact (vX_ aM)); (case aS => exact (qe_ (by exact hSet_ HB))); (case aL => have := cP.out; omega); intro v103 w32 ho hb hg hat; rw [← cO.out] at ho; replace aC := Zq_.mk (blk_grown (g := aD) (o := .cells #[.int .i64 aE, .int .i64 aH, .string aG] 40 (0, 0)) (by exact bK_ aC) hg (Kd.R_away aM.out (fun _ hk => hk))); replace HB := Zq_.mk (hb); have cU := Zq_.mk (ho); clear aM; clear ho hb hg hat))
      repeat (go_quiet (first | ((with_reducible refine qy_ (b := .append) (xs := #[.tmp 47, .tmp 49]) rfl ?_); at_builtin; refine Kd.R_append k40 (w0 := w) w.heap.size rfl (.tmp 47) (.tmp 49) 22 40 (.agg #[(.int .i64 0), (.int .i64 0), (.string ⟨#[]⟩)]) 32 rfl Try.underlying22 info40 rfl (by decide) (by omega) u5 aN (⟨aE, aH, aG⟩ : S40) [.int .i64 aE, .int .i64 aH, .string aG] (fun k_ => k_ ≠ aD) (fun _ => False) rfl rfl ?aP (fun _ hk => hk.elim) ?aF ?aO ?aB ?aS ?aL ?_; (case aP => exact k40_mkM _ _ _ (⟨aE, aH, aG⟩ : S40)); (case aB => exact (by exact hSet_ HB)); (case aF => exact (fun k_ hk => Kd.freshB (g := aD) (o := .cells #[.int .i64 aE, .int .i64 aH, .string aG] 40 (0, 0)) (by exact bK_ aC) k_ hk)); (case aO => exact (vX_ aM)); (case aS => exact (qe_ (by exact hSet_ HB))); (case aL => have := cP.out; omega); intro v103 w32 ho hb hg hat; rw [← cO.out] at ho; replace aC := Zq_.mk (blk_grown (g := aD) (o := .cells #[.int .i64 aE, .int .i64 aH, .string aG] 40 (0, 0)) (by exact bK_ aC) hg (Kd.R_away aM.out (fun _ hk => hk))); replace HB := Zq_.mk (hb); have cU := Zq_.mk (ho); clear aM; clear ho hb hg hat)); try go_wp2_with (first | ((with_reducible refine qy_ (b := .append) (xs := #[.tmp 47, .tmp 49]) rfl ?_); at_builtin; refine Kd.R_append k40 (w0 := w) w.heap.size rfl (.tmp 47) (.tmp 49) 22 40 (.agg #[(.int .i64 0), (.int .i64 0), (.string ⟨#[]⟩)]) 32 rfl Try.underlying22 info40 rfl (by decide) (by omega) u5 aN (⟨aE, aH, aG⟩ : S40) [.int .i64 aE, .int .i64 aH, .string aG] (fun k_ => k_ ≠ aD) (fun _ => False) rfl rfl ?aP (fun _ hk => hk.elim) ?aF ?aO ?aB ?aS ?aL ?_; (case aP => exact k40_mkM _ _ _ (⟨aE, aH, aG⟩ : S40)); (case aB => exact (by exact hSet_ HB)); (case aF => exact (fun k_ hk => Kd.freshB (g := aD) (o := .cells #[.int .i64 aE, .int .i64 aH, .string aG] 40 (0, 0)) (by exact bK_ aC) k_ hk)); (case aO => exact (vX_ aM)); (case aS => exact (qe_ (by exact hSet_ HB))); (case aL => have := cP.out; omega); intro v103 w32 ho hb hg hat; rw [← cO.out] at ho; replace aC := Zq_.mk (blk_grown (g := aD) (o := .cells #[.int .i64 aE, .int .i64 aH, .string aG] 40 (0, 0)) (by exact bK_ aC) hg (Kd.R_away aM.out (fun _ hk => hk))); replace HB := Zq_.mk (hb); have cU := Zq_.mk (ho); clear aM; clear ho hb hg hat)))
      go_ret
      exact ⟨_, by exact eW_, by (with_reducible repeat (first | apply Kd.qm_ | apply Kd.ql_ | apply Kd.R_drew)); exact Kd.R_mono cU.out (fun _ hk => trivial), by exact hSet_ HB⟩
     ·rw [if_neg c30] at H; exact absurd H (by simp)
end Go.Proofs.Ytfoeahjbkmdgfaa.P

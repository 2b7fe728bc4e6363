/- What printed functions come to, and that the machine's calls do it. No condition. -/
import Derived.Test.YtoghjpoblbdnpaaPRef22Without
import Derived.Test.YtoghjpoblbdnpaaPRef22Copy
import Derived.Test.YtoghjpoblbdnpaaPApiWatch44
import Derived.Test.YtoghjpoblbdnpaaPRef09MulDiv
namespace Go.Proofs.Ytoghjpoblbdnpaa.P
set_option maxHeartbeats 16000000
set_option maxRecDepth 100000
open Go.RowKit Go.Proofs.YtoghjpoblbdnpaaW.PrintWords Go.Proofs.YtoghjpoblbdnpaaW.PrintLast Go.Proofs.YtoghjpoblbdnpaaW.PrintMore
attribute [local go_sem] qt_ qr_ qx_ qw_ qn_ qm_ qs_ qq_ Go.Proofs.YtoghjpoblbdnpaaW.Hw.string_gtr
set_option linter.unusedVariables false
set_option linter.unusedSimpArgs false
def watch_Without.f (l0 : List S36) (a1 : Int) : Option (List S36) := (watch_own.f l0).bind fun c => some (c.filter (fun x => !(x.f0 == a1)))
open Go.Proofs.YtoghjpoblbdnpaaW.Hw in
theorem watch_Without.pred (a1 : Int) (g : Nat) (w : World) (row : Option Nat) (hc : w.cell? ⟨g, 0, none⟩ = some (.int .i64 a1)) (hne : some g ≠ row) : PredR Try.prog k36 43 #[.pointer (some ⟨g, 0, none⟩)] aggOf (fun x => x.f0 == a1) w row := by
 intro W x cs hb hx; have hcW := grown_cell hb hc hne; obtain ⟨A4, c4, rfl, l4, g4⟩ := k36_open hx; clear hx hb hc l4 g4 hne; have HB := Zq_.mk (Below.refl W.heap.size W)
 go_enter Try.func43, Try.ntmps43
 go_wp2_with (first | ((with_reducible refine qc_ (N := 2) rfl ?_); (try (refine qo_ (by rfl) ?_; dsimp only)); refine bE_ 2 #[.int .i64 x.f0, .int .i64 x.f1, .int .i64 x.f2, .int .i64 x.f3.f0, .slice A4 x.f3.f1.length c4, .bool x.f4, .int .i64 x.f5] 36 ?_; intro aT hg_ w102 hbox_ hb_; have n0_ := Zq_.mk (qe_ (hB_ HB) hb_); have GE102 := Zq_.mk ((by rw [hg_]; exact (qb_ (hB_ HB)) : W.heap.size ≤ aT)); have n1_ := Zq_.mk (hbox_); clear HB; have HB := n0_; have aC := n1_; clear n0_ n1_; clear hb_ hbox_ hg_; obtain ⟨aR, aQ, aP, aO, aN, aM, aL⟩ := c7_ aC; obtain ⟨aJ, aI, aH, aG, aF, aE, aD⟩ := f7_ aC; have hcw_ := vb_ HB.out hcW))
 go_ret
 exact ⟨by first | rfl | (simp; done) | (simp [*]; done), (hB_ HB)⟩
open Go.Proofs.YtoghjpoblbdnpaaW.Hw in
theorem watch_Without.calls (P0_ : Nat → Prop) (A0 : Option Addr) (c0 : Nat) (l0 : List S36) (a1 : Int) (r : List S36) (w : World) (hs0 : Kd.V k36 36 w w.heap.size (fun k_ => P0_ k_) (.slice A0 l0.length c0) l0) (h : watch_Without.f l0 a1 = some r) :
  Calls Try.prog 19 #[.slice A0 l0.length c0, .int .i64 a1] w fun e w' => ∃ v0_ : Value, e = .returned v0_ ∧ Kd.N k36 36 w' w.heap.size (fun k_ => (P0_ k_ ∨ w.heap.size ≤ k_)) v0_ r ∧ Below w.heap.size w w' := by
 unfold watch_Without.f at h
 obtain ⟨lc, hl, h⟩ := Option.bind_eq_some_iff.1 h; obtain rfl := Option.some.inj h; clear h; have HL := Zq_.mk hl; have HV := Zq_.mk hs0; clear hs0 hl; have HB := Zq_.mk (Below.refl w.heap.size w); have EG := Zq_.mk (fun args w => enters Try.prog Try.func43 (by kernel_rfl) (by kernel_rfl) args w)
 go_enter Try.func19, Try.ntmps19
 go_wp2_with (first | ((with_reducible refine qc_ (N := 3) rfl ?_); (try (refine qo_ (by rfl) ?_; dsimp only)); refine bE_ 3 #[.int .i64 a1] 3 ?_; intro aB hg_ w101 hbox_ hb_; have n0_ := Zq_.mk (qe_ (hB_ HB) hb_); have GE101 := Zq_.mk ((by rw [hg_]; exact (qb_ (hB_ HB)) : w.heap.size ≤ aB)); have n1_ := Zq_.mk (hbox_); clear HB; have HB := n0_; have aA := n1_; clear n0_ n1_; clear hb_ hbox_ hg_; have aS := cz_ aA 0 (.int .i64 a1); have aK := qf_ aA.out 0; have LT101 := Zq_.mk (blk_lt aA.out)) | (go_at_call 25; refine (watch_own.calls P0_ A0 c0 l0 lc w101 (Kd.V_below HV.out (hB_ HB)) HL.out).mono ?_; rintro e w3 ⟨v5, rfl, ho5, hb3⟩; have NE5 := Zq_.mk (show some aB ≠ v5.ownBlock from fun e_ => by have h1 := Kd.N_base ho5 aB e_.symm; have h2 := LT101.out; omega); have HO5 := Zq_.mk (Kd.N_mono (ok' := (fun k_ => (P0_ k_ ∨ w.heap.size ≤ k_))) (Kd.vi_ ho5 (qb_ (hB_ HB))) (fun k_ hk => hk.elim .inl (fun h_ => .inr (Nat.le_trans (qb_ (hB_ HB)) h_)))); have n0_ := Zq_.mk (qe_ (hB_ HB) hb3); have m101_ := Zq_.mk (blk_bel (by exact bK_ aA) hb3); clear HB; have HB := n0_; clear n0_; clear aA; have aA := m101_; clear m101_; clear hb3; clear ho5) | (go_at_call 42; refine (DeleteFuncX.calls (fun x => x.f0 == a1) 43 #[.pointer (some ⟨aB, 0, none⟩)] EG.out v5 lc w.heap.size (fun k_ => (P0_ k_ ∨ w.heap.size ≤ k_)) _ (watch_Without.pred a1 aB _ v5.ownBlock ((qa_ (by exact bK_ aA) 0).trans rfl) NE5.out) (vX_ HO5) (qb_ (hB_ HB))).mono ?_; rintro e w4 ⟨v6, rfl, ho6, hg6, _⟩; have n0_ := Zq_.mk (((hB_ HB) : Below w.heap.size w w3).grown hg6 (qb_ (hB_ HB)) (Kd.N_base HO5.out)); clear HB; have HB := n0_; have HO6 := Zq_.mk ho6; clear n0_ ho6 hg6))
 go_ret
 exact ⟨_, rfl, HO6.out, HB.out⟩
def window_Arrive.j0 : Nat → Int → Int → Bool → Int → List Int → Option (Int × List Int × Int)
 | 0, _, _, _, _, _ => none
 | k + 1, x1, x2, x22, bC, bH => if x22 = true then (some (bC, bH, 1)) else ((slices_Clone_int_int.f bH).bind fun aE => (if bC = (-1) then (if 0 ≤ (mx 0 (wrap64 ((aE.length : Int) - 16))) then (if (mx 0 (wrap64 ((aE.length : Int) - 16))) ≤ (aE.length : Int) then (some (x1, (aE.drop ((mx 0 (wrap64 ((aE.length : Int) - 16))) : Int).toNat), 0)) else (none)) else (none)) else ((ratio_Clamp.f (wrap64 (x1 - bC)) 1 (mx 1 x2)).bind fun aV => (if aE.length < 17592186044416 then ((some (aE ++ [aV] : List Int)).bind fun aD => (if 0 ≤ (mx 0 (wrap64 ((aD.length : Int) - 16))) then (if (mx 0 (wrap64 ((aD.length : Int) - 16))) ≤ (aD.length : Int) then (some (x1, (aD.drop ((mx 0 (wrap64 ((aD.length : Int) - 16))) : Int).toNat), 0)) else (none)) else (none))) else (none)))))
def window_Arrive.f (k : Nat) (aG : Int) (aI : List Int) (a1 : Int) (a2 : Int) : Option (Int × List Int × Int) := if a1 < (mx 0 aG) then (window_Arrive.j0 k a1 a2 true aG aI) else (if a1 > 1099511627776 then (window_Arrive.j0 k a1 a2 true aG aI) else ((window_Right.f aG aI).bind fun bD => (window_Arrive.j0 k a1 a2 (!bD) aG aI)))
theorem window_Arrive.mono_l : ∀ k, (∀ y0 y1 y2 y3 y4, LeO (window_Arrive.j0 k y0 y1 y2 y3 y4) (window_Arrive.j0 (k + 1) y0 y1 y2 y3 y4))
 | 0 => fun _ _ _ _ _ r h => by simp [window_Arrive.j0] at h
 | k + 1 => by
  have ih0 := window_Arrive.mono_l k
  ·intro y0 y1 y2 y3 y4
   unfold window_Arrive.j0
   with_reducible repeat' first | exact ih0 _ _ _ _ _ | exact LeO.refl _ | exact LeO.none _ | refine LeO.ite ?_ ?_ | refine LeO.bind ?_ (fun _ => ?_)
theorem window_Arrive.mono : ∀ a0 a1 a2 a3 k, LeO (window_Arrive.f k a0 a1 a2 a3) (window_Arrive.f (k + 1) a0 a1 a2 a3) := by
 intro a0 a1 a2 a3 k; have ih0 := window_Arrive.mono_l k
 unfold window_Arrive.f
 with_reducible repeat' first | exact ih0 _ _ _ _ _ | exact LeO.refl _ | exact LeO.none _ | refine LeO.ite ?_ ?_ | refine LeO.bind ?_ (fun _ => ?_)
theorem window_Arrive.calls (k : Nat) (aG : Int) (aW : Nat → Prop) (aY : Option Addr) (aX : Nat) (aI : List Int) (a1 : Int) (a2 : Int) (r1 : Int) (r2 : List Int) (r3 : Int) (w : World) (hs0_1 : Kd.V (Kd.int .i64) 3 w w.heap.size (fun k_ => aW k_) (.slice aY aI.length aX) aI) (h : window_Arrive.f k aG aI a1 a2 = some (r1, r2, r3)) :
  Calls Try.prog 34 #[.agg #[.int .i64 aG, .slice aY aI.length aX], .int .i64 a1, .int .i64 a2] w fun e w' => ∃ v1_ : Value, e = .returned (.tuple #[.agg #[.int .i64 r1, v1_], .int .i64 r3]) ∧ Kd.V (Kd.int .i64) 3 w' w.heap.size (fun k_ => (aW k_ ∨ w.heap.size ≤ k_)) v1_ r2 ∧ Below w.heap.size w w' := by
 have hu34 := Try.underlying34; have aT := Zq_.mk (show Kd.V (Kd.int .i64) 3 w w.heap.size (fun k_ => (aW k_ ∨ w.heap.size ≤ k_)) (.slice aY aI.length aX) aI from Kd.V_mono hs0_1 (fun k_ hk => .inl hk)); have HB := Zq_.mk (Below.refl w.heap.size w); have H : (if a1 < (mx 0 aG) then (window_Arrive.j0 k a1 a2 true aG aI) else (if a1 > 1099511627776 then (window_Arrive.j0 k a1 a2 true aG aI) else ((window_Right.f aG aI).bind fun bD => (window_Arrive.j0 k a1 a2 (!bD) aG aI)))) = some (r1, r2, r3) := h; clear h; have HC4 := Zq_.mk H; clear H
 go_enter Try.func34, Try.ntmps34
 go_upto_region 1 with (first | ((with_reducible refine qc_ (N := 3) rfl ?_); refine bE_ 3 #[.int .i64 aG, .slice aY aI.length aX] 34 ?_; intro aU hg w5 hbox hb; replace aT := Zq_.mk (Kd.V_below (Kd.V_elderB (vX_ aT) aU (Nat.le_of_eq hg.symm)) hb); have aC := Zq_.mk (hbox); have GW101 := gW_ (w := w) hg (hB_ HB); have GE101 := gW_ (w := w) hg (hB_ HB); replace HB := sB_ HB hb; clear hb hbox hg) | ((with_reducible refine qc_ (N := 6) rfl ?_); refine bE_ 6 #[.int .i64 0, .slice none 0 0] 34 ?_; intro aN hg w6 hbox hb; replace aT := Zq_.mk (Kd.V_below (Kd.V_elderB (vX_ aT) aN (Nat.le_of_eq hg.symm)) hb); have aH := Zq_.mk (hbox); have GW102 := gW_ (w := w) hg (by exact hSet_ HB); have GE102 := gW_ (w := w) hg (by exact hSet_ HB); replace HB := sB_ HB hb; have aM := nL_ aC hg; have aK := nG_ aC hg; replace aC := kB_ aC hb; clear hb hbox hg))
 (try simp only [Act.put, sa_, sb_, sc_])
 go_cut [22] (fun v22 wc => ∃ (kq : Nat) (bG : Bool), v22 = .bool bG ∧ Zq_ (window_Arrive.j0 kq a1 a2 bG aG aI = some (r1, r2, r3)) ∧ Zq_ (kq ≤ k) ∧ Zq_ (Kd.V (Kd.int .i64) 3 wc w.heap.size (fun k_ => (aW k_ ∨ w.heap.size ≤ k_) ∧ k_ ≠ aU ∧ k_ ≠ aN) (.slice aY aI.length aX) aI) ∧ Zq_ (wc.heap[aU]? = some (.cells #[.int .i64 aG, (.slice aY aI.length aX)] 34 (0, 0))) ∧ Zq_ (wc.heap[aN]? = some (.cells #[.int .i64 0, (.slice none 0 0)] 34 (0, 0))) ∧ Zq_ (Below w.heap.size w wc))
 case first =>
  have H := HC4.out; clear HC4; obtain ⟨ji7, bS⟩ : ∃ j_ : Int, (mx 0 aG) = j_ := ⟨_, rfl⟩
  replace H : (if a1 < (ji7) then (window_Arrive.j0 k a1 a2 true aG aI) else (if a1 > 1099511627776 then (window_Arrive.j0 k a1 a2 true aG aI) else ((window_Right.f aG aI).bind fun bD => (window_Arrive.j0 k a1 a2 (!bD) aG aI)))) = some (r1, r2, r3) := by first | (rw [bS] at H; exact H) | (simp only [bS] at H ⊢; exact H)
  (try (have hji7l : 0 ≤ ji7 := by (rw [← bS]; unfold mx; (repeat' split) <;> omega))); (try (have hji7m : 0 ≤ ji7 := by omega)); have hji7_ : (if 0 < aG then aG else 0) = ji7 := bS
  by_cases c8 : a1 < (ji7)
  ·rw [if_pos c8] at H; have bI : decide (a1 < (ji7)) = true := decide_eq_true c8; clear c8; (first | rw [bI] | (simp only [i64_w, i32_w]; rw [bI]) | skip); have H' := Zq_.mk H; clear H; have hnb9 := aM.out; have hnc9 := aK.out; obtain ⟨cE, cD⟩ := c2_ aC; obtain ⟨bY, bX⟩ := f2_ aC
   go_wp2
   go_meet
   case rel => exact ⟨_, (true), eS_, H', ⟨by first | omega | exact Nat.le_refl _⟩, ⟨by refine vM_ ?_; exact Kd.V_mono aT.out (fun _ hk => ⟨hk.1.1, ⟨hk.1.2, hk.2⟩⟩)⟩, ⟨by (with_reducible repeat (first | refine qk_ ?_ _ | refine qh_ ?_ | refine ql_ ?_ _)); exact aC.out⟩, ⟨by (with_reducible repeat (first | refine qk_ ?_ _ | refine qh_ ?_ | refine ql_ ?_ _)); exact aH.out⟩, ⟨by exact hSet_ HB⟩⟩
  ·rw [if_neg c8] at H; have bI : decide (a1 < (ji7)) = false := decide_eq_false c8; clear c8; (first | rw [bI] | (simp only [i64_w, i32_w]; rw [bI]) | skip)
   by_cases c11 : a1 > 1099511627776
   ·rw [if_pos c11] at H; have cJ : decide (1099511627776 < a1) = true := decide_eq_true c11; clear c11; have H' := Zq_.mk H; clear H; have hnb12 := aM.out; have hnc12 := aK.out; obtain ⟨cC, cB⟩ := c2_ aC; obtain ⟨bW, bV⟩ := f2_ aC
    go_wp2
    go_meet
    case rel => exact ⟨_, (true), eS_, H', ⟨by first | omega | exact Nat.le_refl _⟩, ⟨by refine vM_ ?_; exact Kd.V_mono aT.out (fun _ hk => ⟨hk.1.1, ⟨hk.1.2, hk.2⟩⟩)⟩, ⟨by (with_reducible repeat (first | refine qk_ ?_ _ | refine qh_ ?_ | refine ql_ ?_ _)); exact aC.out⟩, ⟨by (with_reducible repeat (first | refine qk_ ?_ _ | refine qh_ ?_ | refine ql_ ?_ _)); exact aH.out⟩, ⟨by exact hSet_ HB⟩⟩
   ·rw [if_neg c11] at H; have cJ : decide (1099511627776 < a1) = false := decide_eq_false c11; clear c11; replace H := ob_ H; obtain ⟨bD, cY, H⟩ := H; replace H : (window_Arrive.j0 k a1 a2 (!bD) aG aI) = some (r1, r2, r3) := H; have A14 := Zq_.mk cY; clear cY; have H' := Zq_.mk H; clear H; have hnb15 := aM.out; have hnc15 := aK.out; obtain ⟨cA, bZ⟩ := c2_ aC; obtain ⟨bU, bT⟩ := f2_ aC
    go_wp2_with (first | (go_at_call 60; (with_reducible refine (window_Right.calls aG _ _ aI bD _ ?side1 ?side2 A14.out).mono ?_); (case side1 => exact cX_ ((Kd.V_reads' aT.out).2.2)); (case side2 => exact (Kd.V_reads' aT.out).2.1); rintro e w17 ⟨rfl, hb⟩; replace aT := vV_ Kd.V_below aT hb; replace aC := kB_ aC hb; replace aH := kB_ aH hb; replace HB := sB_ HB hb; (try clear hb)))
    go_meet
    case rel => exact ⟨_, (!bD), eS_, H', ⟨by first | omega | exact Nat.le_refl _⟩, ⟨by refine vM_ ?_; exact Kd.V_mono aT.out (fun _ hk => ⟨hk.1.1, ⟨hk.1.2, hk.2⟩⟩)⟩, ⟨by (with_reducible repeat (first | refine qk_ ?_ _ | refine qh_ ?_ | refine ql_ ?_ _)); exact aC.out⟩, ⟨by (with_reducible repeat (first | refine qk_ ?_ _ | refine qh_ ?_ | refine ql_ ?_ _)); exact aH.out⟩, ⟨by exact hSet_ HB⟩⟩
 case rest =>
  clear HC4
  try clear c1
  try clear p2
  try clear c3
  try clear c8
  try clear bI
  try clear c9
  try clear c11
  try clear cJ
  try clear c12
  try clear c15
  try clear cE
  try clear cD
  try clear cC
  try clear cB
  try clear cA
  try clear bZ
  try clear bY
  try clear bX
  try clear bW
  try clear bV
  try clear bU
  try clear bT
  obtain ⟨kq, bG, rfl, HA, HJ3, aA, aC, aH, HB⟩ := hcut
  cases kq with
  | zero => exact absurd HA.out (by simp [window_Arrive.j0])
  | succ kj3 =>
   have H := HA.out; clear HA; simp only [window_Arrive.j0] at H
   by_cases c18 : bG = true
   ·subst c18
    have H1 : (some (aG, aI, 1)) = some (r1, r2, r3) := by rw [if_pos rfl] at H; exact H
    clear H; have H := H1; clear H1; simp only [Option.some.injEq, Prod.mk.injEq] at H; obtain ⟨rfl, rfl, rfl⟩ := H; have hnb19 := aM.out; have hnc19 := aK.out; obtain ⟨hcz20_0, hcz20_1⟩ := c2_ aC; obtain ⟨hfz20_0, hfz20_1⟩ := f2_ aC; obtain ⟨hcz21_0, hcz21_1⟩ := c2_ aH; obtain ⟨hfz21_0, hfz21_1⟩ := f2_ aH
    go_wp2
    refine bodyPost_ret (results_ct rfl _ _ aN 34 #[.int .i64 aG, .slice aY aI.length aX] (0, 0) _ rfl (by exact bW2_ (bK_ aH)) Try.underlying34 rfl (by kernel_rfl)) rfl ?_; exact ⟨_, by exact eW_, by refine vM_ ?_; exact Kd.V_mono (Kd.V_far (Kd.V_far (Kd.V_mono aA.out (fun k_ hk => (⟨hk, hk.2.2⟩ : _ ∧ k_ ≠ aN))) (fun _ hk => hk.2) _) (fun _ hk => hk.2) _) (fun _ hk => hk.1.1), by exact hSet_ HB⟩
   ·replace c18 := Bool.eq_false_iff.mpr c18; subst c18
    have H1 : ((slices_Clone_int_int.f aI).bind fun aE => (if aG = (-1) then (if 0 ≤ (mx 0 (wrap64 ((aE.length : Int) - 16))) then (if (mx 0 (wrap64 ((aE.length : Int) - 16))) ≤ (aE.length : Int) then (some (a1, (aE.drop ((mx 0 (wrap64 ((aE.length : Int) - 16))) : Int).toNat), 0)) else (none)) else (none)) else ((ratio_Clamp.f (wrap64 (a1 - aG)) 1 (mx 1 a2)).bind fun aV => (if aE.length < 17592186044416 then ((some (aE ++ [aV] : List Int)).bind fun aD => (if 0 ≤ (mx 0 (wrap64 ((aD.length : Int) - 16))) then (if (mx 0 (wrap64 ((aD.length : Int) - 16))) ≤ (aD.length : Int) then (some (a1, (aD.drop ((mx 0 (wrap64 ((aD.length : Int) - 16))) : Int).toNat), 0)) else (none)) else (none))) else (none))))) = some (r1, r2, r3) := by rw [if_neg (show ¬ (false = true) by decide)] at H; exact H
    clear H; have H := H1; clear H1; replace H := ob_ H; obtain ⟨aE, cX, H⟩ := H; replace H : (if aG = (-1) then (if 0 ≤ (mx 0 (wrap64 ((aE.length : Int) - 16))) then (if (mx 0 (wrap64 ((aE.length : Int) - 16))) ≤ (aE.length : Int) then (some (a1, (aE.drop ((mx 0 (wrap64 ((aE.length : Int) - 16))) : Int).toNat), 0)) else (none)) else (none)) else ((ratio_Clamp.f (wrap64 (a1 - aG)) 1 (mx 1 a2)).bind fun aV => (if aE.length < 17592186044416 then ((some (aE ++ [aV] : List Int)).bind fun aD => (if 0 ≤ (mx 0 (wrap64 ((aD.length : Int) - 16))) then (if (mx 0 (wrap64 ((aD.length : Int) - 16))) ≤ (aD.length : Int) then (some (a1, (aD.drop ((mx 0 (wrap64 ((aD.length : Int) - 16))) : Int).toNat), 0)) else (none)) else (none))) else (none)))) = some (r1, r2, r3) := H; have A22 := Zq_.mk cX; clear cX
    by_cases c23 : aG = (-1)
    ·rw [if_pos c23] at H; have cR : (aG == (-1)) = true := beq_iff_eq.mpr c23; have cQ : (aG != (-1)) = false := bne_eq_false_iff_eq.mpr c23; clear c23; obtain ⟨aR, bB⟩ : ∃ j_ : Int, (mx 0 (wrap64 ((aE.length : Int) - 16))) = j_ := ⟨_, rfl⟩
     replace H : (if 0 ≤ (aR) then (if (aR) ≤ (aE.length : Int) then (some (a1, (aE.drop ((aR) : Int).toNat), 0)) else (none)) else (none)) = some (r1, r2, r3) := by first | (rw [bB] at H; exact H) | (simp only [bB] at H ⊢; exact H)
     (try rw [bB] at A22); (try (have hji24l : 0 ≤ aR := by (rw [← bB]; unfold mx; (repeat' split) <;> omega))); (try (have hji24m : 0 ≤ aR := by omega)); have hji24_ : (if 0 < (wrap64 ((aE.length : Int) - 16)) then (wrap64 ((aE.length : Int) - 16)) else 0) = aR := bB
     by_cases c25 : 0 ≤ (aR)
     ·rw [if_pos c25] at H; have c25b0 := eq_true c25; have c25b1 : decide (0 ≤ (aR)) = true := decide_eq_true c25; clear c25
      by_cases c26 : (aR) ≤ (aE.length : Int)
      ·rw [if_pos c26] at H; have c26b0 := eq_true c26; have c26b1 : decide ((aR) ≤ (aE.length : Int)) = true := decide_eq_true c26; clear c26; obtain ⟨bF, bL⟩ : ∃ y_ : List Int, y_ = (aE.drop ((aR) : Int).toNat) := ⟨_, rfl⟩
       replace H : (some (a1, bF, 0)) = some (r1, r2, r3) := hY_ bL H
       have cL := Zq_.mk bL; clear bL; simp only [Option.some.injEq, Prod.mk.injEq] at H; obtain ⟨rfl, rfl, rfl⟩ := H; have hnb27 := aM.out; have hnc27 := aK.out; obtain ⟨hcz28_0, hcz28_1⟩ := c2_ aC; obtain ⟨hfz28_0, hfz28_1⟩ := f2_ aC
       go_wp2_with (first | ((with_reducible refine qg_ (f := 53) rfl ?_); refine goesL_ (some 26) rfl rfl Try.func53 (by kernel_rfl) rfl #[.slice aY aI.length aX] rfl aR_ ?_; (with_reducible refine (slices_Clone_int_int.calls _ _ aI aE _ ?side1 ?side2 A22.out).mono ?_); (case side1 => exact cX_ ((Kd.V_reads' aA.out).2.2)); (case side2 => exact (Kd.V_reads' aA.out).2.1); rintro e w29 ⟨v105, rfl, ho0, hb⟩; refine ⟨_, rfl, ?_⟩; replace aA := Zq_.mk (Kd.V_elder' (vX_ aA) (Kd.R_base ho0) hb); have aJ := Zq_.mk (Kd.vj_ (Kd.R_newM (M := fun k_ => (w.heap.size ≤ k_)) ho0 (qb_ (by exact hSet_ HB)) (fun k_ h_ => h_)) (qb_ (by exact hSet_ HB))); replace aC := kB_ aC hb; replace aH := kB_ aH hb; replace HB := sB_ HB hb; (try clear hb); (try clear ho0); obtain ⟨hcz30_0, hcz30_1⟩ := c2_ aC; obtain ⟨hfz30_0, hfz30_1⟩ := f2_ aC; obtain ⟨bQ, cG, eo31⟩ := Kd.ve_ aJ.out; subst eo31; have n_ := Zq_.mk (Kd.R_mono (ok' := (fun k_ => (w.heap.size ≤ k_))) aJ.out (fun k_ hk => hk.1)); clear aJ; have aJ := n_; clear n_; have q32 : ((aR) : Int) ≤ ((aE.length : Int) : Int) := dA_; obtain ⟨i032, cI, _, hsz32, _⟩ := info_parts info3; have hcut32 := cut_from (P := Try.prog) 27 3 .i64 Try.underlying27 cI 1 hsz32 bQ aE.length cG (aR) (dA_) q32; have bN := Kd.Q_drop (k := ((aR) : Int).toNat) (Kd.Q_of_R aJ.out) (by omega); obtain ⟨A32, hA32⟩ : ∃ A1, A1 = (if cG = ((aR) : Int).toNat then bQ else (bQ : Option Addr).map (·.add (((aR) : Int).toNat * 1))) := ⟨_, rfl⟩; obtain ⟨c32, cP⟩ : ∃ c1, c1 = cG - ((aR) : Int).toNat := ⟨_, rfl⟩; have cN : bF.length = aE.length - ((aR) : Int).toNat := (by rw [cL.out, List.length_drop]); rw [← cL.out] at bN; rw [← cN, ← hA32, ← cP] at hcut32; replace bN : Kd.Q (Kd.int .i64) 3 w29 w.heap.size (fun k_ => (w.heap.size ≤ k_)) (.slice A32 bF.length c32) bF := (by rw [hA32, cP, cN]; exact bN); have HE32 : Zq_ ((Value.slice A32 bF.length c32).ownBlock = (.slice bQ aE.length cG : Value).ownBlock) := ⟨by rw [hA32]; split <;> (cases (bQ : Option Addr) <;> first | rfl | (simp only [Option.map_some, Value.ownBlock, Addr.add]; split <;> rfl))⟩; clear cN cI hsz32 aJ hA32 cP; have cV := Zq_.mk bN; clear bN; replace q32 := eq_true q32; have n_ := Zq_.mk (Kd.V_mono (ok' := fun k_ => ((((aW k_ ∨ w.heap.size ≤ k_)) ∧ (k_ ≠ aU ∧ k_ ≠ aN)) ∧ some k_ ≠ (.slice A32 bF.length c32 : Value).ownBlock)) aA.out (fun k_ hk => ⟨⟨hk.1.1, ⟨hk.1.2.1, hk.1.2.2⟩⟩, (by rw [HE32.out]; exact hk.2)⟩)); clear aA; have aA := n_; clear n_; obtain ⟨hcz33_0, hcz33_1⟩ := c2_ aH; obtain ⟨hfz33_0, hfz33_1⟩ := f2_ aH))
       refine bodyPost_ret (results_ct rfl _ _ aN 34 #[.int .i64 a1, .slice A32 bF.length c32] (0, 0) _ rfl (by exact bW2_ (bK_ aH)) Try.underlying34 rfl (by kernel_rfl)) rfl ?_; exact ⟨_, by first | rfl | (simp [errW_none, errW_some] <;> rfl) | (simp only [← bB]; first | rfl | (simp [errW_none, errW_some] <;> rfl)) | (simp [*, errW_none, errW_some] <;> rfl), Kd.V_mono (Kd.Q_V (by (with_reducible repeat (first | apply Kd.Q_alloc | apply Kd.Q_drewN | apply Kd.Q_drew)); exact Kd.Q_mono (Kd.Q_far (Kd.Q_far (Kd.Q_types cV.out aH.out (by decide)) (fun _ hk => hk.2) _) (fun _ hk => hk.2) _) (fun _ hk => hk.1))) (fun k_ hk => by first | exact ⟨(.inr (hk.1)), hk.2⟩ | exact (.inr (hk))), by exact hSet_ HB⟩
      ·rw [if_neg c26] at H; exact absurd H (by simp)
     ·rw [if_neg c25] at H; exact absurd H (by simp)
    ·rw [if_neg c23] at H; have cR : (aG == (-1)) = false := beq_eq_false_iff_ne.mpr c23; have cQ : (aG != (-1)) = true := bne_iff_ne.mpr c23; obtain ⟨bR, bA⟩ : ∃ j_ : Int, (mx 1 a2) = j_ := ⟨_, rfl⟩
     replace H : ((ratio_Clamp.f (wrap64 (a1 - aG)) 1 (bR)).bind fun aV => (if aE.length < 17592186044416 then ((some (aE ++ [aV] : List Int)).bind fun aD => (if 0 ≤ (mx 0 (wrap64 ((aD.length : Int) - 16))) then (if (mx 0 (wrap64 ((aD.length : Int) - 16))) ≤ (aD.length : Int) then (some (a1, (aD.drop ((mx 0 (wrap64 ((aD.length : Int) - 16))) : Int).toNat), 0)) else (none)) else (none))) else (none))) = some (r1, r2, r3) := by first | (rw [bA] at H; exact H) | (simp only [bA] at H ⊢; exact H)
     (try rw [bA] at A22); have hji34_ : (if 1 < a2 then a2 else 1) = bR := bA; replace H := ob_ H; obtain ⟨aV, cW, H⟩ := H; replace H : (if aE.length < 17592186044416 then ((some (aE ++ [aV] : List Int)).bind fun aD => (if 0 ≤ (mx 0 (wrap64 ((aD.length : Int) - 16))) then (if (mx 0 (wrap64 ((aD.length : Int) - 16))) ≤ (aD.length : Int) then (some (a1, (aD.drop ((mx 0 (wrap64 ((aD.length : Int) - 16))) : Int).toNat), 0)) else (none)) else (none))) else (none)) = some (r1, r2, r3) := H; have A35 := Zq_.mk cW; clear cW
     by_cases c36 : aE.length < 17592186044416
     ·rw [if_pos c36] at H; have cT := Zq_.mk c36; clear c36; obtain ⟨aD, bK⟩ : ∃ y_ : List Int, y_ = (aE ++ [aV]) := ⟨_, rfl⟩
      replace H : (if 0 ≤ (mx 0 (wrap64 ((aD.length : Int) - 16))) then (if (mx 0 (wrap64 ((aD.length : Int) - 16))) ≤ (aD.length : Int) then (some (a1, (aD.drop ((mx 0 (wrap64 ((aD.length : Int) - 16))) : Int).toNat), 0)) else (none)) else (none)) = some (r1, r2, r3) := hY_ bK H
      have cS := Zq_.mk bK; clear bK; obtain ⟨aQ, aZ⟩ : ∃ j_ : Int, (mx 0 (wrap64 ((aD.length : Int) - 16))) = j_ := ⟨_, rfl⟩
      replace H : (if 0 ≤ (aQ) then (if (aQ) ≤ (aD.length : Int) then (some (a1, (aD.drop ((aQ) : Int).toNat), 0)) else (none)) else (none)) = some (r1, r2, r3) := by first | (rw [aZ] at H; exact H) | (simp only [aZ] at H ⊢; exact H)
      (try rw [aZ] at A22); (try rw [aZ] at A35); (try (have hji37l : 0 ≤ aQ := by (rw [← aZ]; unfold mx; (repeat' split) <;> omega))); (try (have hji37m : 0 ≤ aQ := by omega)); have hji37_ : (if 0 < (wrap64 ((aD.length : Int) - 16)) then (wrap64 ((aD.length : Int) - 16)) else 0) = aQ := aZ
      by_cases c38 : 0 ≤ (aQ)
      ·rw [if_pos c38] at H; have c38b0 := eq_true c38; have c38b1 : decide (0 ≤ (aQ)) = true := decide_eq_true c38; clear c38
       by_cases c39 : (aQ) ≤ (aD.length : Int)
       ·rw [if_pos c39] at H; have c39b0 := eq_true c39; have c39b1 : decide ((aQ) ≤ (aD.length : Int)) = true := decide_eq_true c39; clear c39; obtain ⟨bE, bJ⟩ : ∃ y_ : List Int, y_ = (aD.drop ((aQ) : Int).toNat) := ⟨_, rfl⟩
        replace H : (some (a1, bE, 0)) = some (r1, r2, r3) := hY_ bJ H
        have cK := Zq_.mk bJ; clear bJ; simp only [Option.some.injEq, Prod.mk.injEq] at H; obtain ⟨rfl, rfl, rfl⟩ := H; have hnb40 := aM.out; have hnc40 := aK.out; obtain ⟨hcz41_0, hcz41_1⟩ := c2_ aC; obtain ⟨hfz41_0, hfz41_1⟩ := f2_ aC
        go_wp2_with (first | ((with_reducible refine qg_ (f := 53) rfl ?_); refine goesL_ (some 26) rfl rfl Try.func53 (by kernel_rfl) rfl #[.slice aY aI.length aX] rfl aR_ ?_; (with_reducible refine (slices_Clone_int_int.calls _ _ aI aE _ ?side1 ?side2 A22.out).mono ?_); (case side1 => exact cX_ ((Kd.V_reads' aA.out).2.2)); (case side2 => exact (Kd.V_reads' aA.out).2.1); rintro e w42 ⟨v105, rfl, ho0, hb⟩; refine ⟨_, rfl, ?_⟩; replace aA := Zq_.mk (Kd.V_elder' (vX_ aA) (Kd.R_base ho0) hb); have aJ := Zq_.mk (Kd.vj_ (Kd.R_newM (M := fun k_ => (w.heap.size ≤ k_)) ho0 (qb_ (by exact hSet_ HB)) (fun k_ h_ => h_)) (qb_ (by exact hSet_ HB))); replace aC := kB_ aC hb; replace aH := kB_ aH hb; replace HB := sB_ HB hb; (try clear hb); (try clear ho0); obtain ⟨hcz43_0, hcz43_1⟩ := c2_ aC; obtain ⟨hfz43_0, hfz43_1⟩ := f2_ aC) | ((with_reducible refine qg_ (f := 61) rfl ?_); refine goesL_ (some 37) rfl rfl Try.func61 (by kernel_rfl) rfl #[.int .i64 (wrap64 (a1 - aG)), .int .i64 1, .int .i64 bR] rfl (by (try simp only [List.map_toArray, List.map_cons, List.map_nil]); first | done | (simp only [bA]; rfl) | rfl | (simp only [List.length_drop, List.length_take]; rfl)) ?_; (with_reducible refine (ratio_Clamp.calls (wrap64 (a1 - aG)) 1 bR aV _ A35.out).mono ?_); rintro e w' ⟨rfl, ⟨nd, rfl⟩⟩; refine ⟨_, rfl, ?_⟩; (try (rw [drewN_self w42]; generalize hq_ : World.drewN w42 _ = w42; have n0_ : Zq_ (Kd.R (Kd.int .i64) 3 w42 w.heap.size (fun k_ => (w.heap.size ≤ k_)) v105 aE) := ⟨by rw [← hq_]; exact (by (with_reducible repeat (first | apply Kd.vd_ | apply Kd.vc_ | apply Kd.R_drew)); first | exact Kd.R_mono aJ.out (fun _ hk => hk.1) | exact aJ.out)⟩; have n1_ : Zq_ (Kd.V (Kd.int .i64) 3 w42 w.heap.size (fun k_ => (aW k_ ∨ w.heap.size ≤ k_) ∧ some k_ ≠ (v105 : Value).ownBlock ∧ k_ ≠ aU ∧ k_ ≠ aN) (.slice aY aI.length aX) aI) := ⟨by rw [← hq_]; exact (by refine vM_ ?_; exact Kd.V_mono aA.out (fun _ hk => ⟨hk.1.1, ⟨hk.2, ⟨hk.1.2.1, hk.1.2.2⟩⟩⟩))⟩; have n2_ : Zq_ (w42.heap[aU]? = some (.cells #[.int .i64 aG, .slice aY aI.length aX] 34 (0, 0))) := ⟨by rw [← hq_]; exact (by exact bK_ aC)⟩; have n3_ : Zq_ (w42.heap[aN]? = some (.cells #[.int .i64 0, .slice none 0 0] 34 (0, 0))) := ⟨by rw [← hq_]; exact (by exact bK_ aH)⟩; have n4_ : Zq_ (Below w.heap.size w w42) := ⟨by rw [← hq_]; exact (by exact hSet_ HB)⟩; clear aJ aA aC aH HB hq_; have aJ := n0_; have aA := n1_; have aC := n2_; have aH := n3_; have HB := n4_; clear n0_ n1_ n2_ n3_ n4_))) | ((with_reducible refine vq_ (b := .append) (xs := #[.tmp 30, .tmp 38]) rfl ?_); at_builtin; refine Kd.R_append (Kd.int .i64) (w0 := w) w.heap.size rfl (.tmp 30) (.tmp 38) 27 3 (.int .i64 0) 8 rfl Try.underlying27 info3 rfl (by decide) (by omega) v105 aE aV [.int .i64 aV] (fun k_ => (w.heap.size ≤ k_)) (fun _ => False) rfl rfl ?aP (fun _ hk => hk.elim) ?aF ?aO ?aB ?aS ?aL ?_; (case aP => exact rfl); (case aB => exact (by exact hSet_ HB)); (case aF => exact (fun k_ hk => (Nat.le_trans (qb_ (by exact hSet_ HB)) hk))); (case aO => exact (by (with_reducible repeat (first | apply Kd.vd_ | apply Kd.vc_ | apply Kd.R_drew)); first | exact Kd.R_mono aJ.out (fun _ hk => hk.1) | exact aJ.out)); (case aS => exact (qb_ (by exact hSet_ HB))); (case aL => have := cT.out; omega); intro v112 w44 ho hb hg hat; rw [← cS.out] at ho; replace aA := Zq_.mk (Kd.vf_ (ok := (fun k_ => (aW k_ ∨ w.heap.size ≤ k_) ∧ k_ ≠ aU ∧ k_ ≠ aN)) (by (with_reducible repeat (first | apply Kd.V_alloc | apply Kd.V_drewN | apply Kd.V_drew)); first | exact aA.out | exact Kd.V_mono aA.out (fun _ hk => ⟨⟨hk.1, hk.2.2⟩, hk.2.1⟩)) hg hat); replace aC := Zq_.mk (vl_ (g := aU) (o := .cells #[.int .i64 aG, .slice aY aI.length aX] 34 (0, 0)) (by exact bK_ aC) hg (Kd.R_ne aJ.out aC.out (by decide))); replace aH := Zq_.mk (vl_ (g := aN) (o := .cells #[.int .i64 0, .slice none 0 0] 34 (0, 0)) (by exact bK_ aH) hg (Kd.R_ne aJ.out aH.out (by decide))); replace HB := Zq_.mk (hb); have bO := Zq_.mk (ho); clear aJ; clear ho hb hg hat; obtain ⟨bP, cF, eo45⟩ := Kd.ve_ bO.out; subst eo45; have q46 : ((aQ) : Int) ≤ ((aD.length : Int) : Int) := dA_; obtain ⟨i046, cH, _, hsz46, _⟩ := info_parts info3; have hcut46 := cut_from (P := Try.prog) 27 3 .i64 Try.underlying27 cH 1 hsz46 bP aD.length cF (aQ) (dA_) q46; have bM := Kd.Q_drop (k := ((aQ) : Int).toNat) (Kd.Q_of_R bO.out) (by omega); obtain ⟨A46, hA46⟩ : ∃ A1, A1 = (if cF = ((aQ) : Int).toNat then bP else (bP : Option Addr).map (·.add (((aQ) : Int).toNat * 1))) := ⟨_, rfl⟩; obtain ⟨c46, cO⟩ : ∃ c1, c1 = cF - ((aQ) : Int).toNat := ⟨_, rfl⟩; have cM : bE.length = aD.length - ((aQ) : Int).toNat := (by rw [cK.out, List.length_drop]); rw [← cK.out] at bM; rw [← cM, ← hA46, ← cO] at hcut46; replace bM : Kd.Q (Kd.int .i64) 3 w44 w.heap.size (fun k_ => (w.heap.size ≤ k_)) (.slice A46 bE.length c46) bE := (by rw [hA46, cO, cM]; exact bM); have HE46 : Zq_ ((Value.slice A46 bE.length c46).ownBlock = (.slice bP aD.length cF : Value).ownBlock) := ⟨by rw [hA46]; split <;> (cases (bP : Option Addr) <;> first | rfl | (simp only [Option.map_some, Value.ownBlock, Addr.add]; split <;> rfl))⟩; clear cM cH hsz46 bO hA46 cO; have cU := Zq_.mk bM; clear bM; replace q46 := eq_true q46; have n_ := Zq_.mk (Kd.V_mono (ok' := fun k_ => ((((aW k_ ∨ w.heap.size ≤ k_)) ∧ (k_ ≠ aU ∧ k_ ≠ aN)) ∧ some k_ ≠ (.slice A46 bE.length c46 : Value).ownBlock)) aA.out (fun k_ hk => ⟨⟨hk.1.1, ⟨hk.1.2.1, hk.1.2.2⟩⟩, (by rw [HE46.out]; exact hk.2)⟩)); clear aA; have aA := n_; clear n_; obtain ⟨hcz47_0, hcz47_1⟩ := c2_ aH; obtain ⟨hfz47_0, hfz47_1⟩ := f2_ aH))
        refine bodyPost_ret (results_ct rfl _ _ aN 34 #[.int .i64 a1, .slice A46 bE.length c46] (0, 0) _ rfl (by exact bW2_ (bK_ aH)) Try.underlying34 rfl (by kernel_rfl)) rfl ?_; exact ⟨_, by first | rfl | (simp [errW_none, errW_some] <;> rfl) | (simp only [← bA, ← aZ]; first | rfl | (simp [errW_none, errW_some] <;> rfl)) | (simp [*, errW_none, errW_some] <;> rfl), Kd.V_mono (Kd.Q_V (by (with_reducible repeat (first | apply Kd.Q_alloc | apply Kd.Q_drewN | apply Kd.Q_drew)); exact Kd.Q_mono (Kd.Q_far (Kd.Q_far (Kd.Q_types cU.out aH.out (by decide)) (fun _ hk => hk.2) _) (fun _ hk => hk.2) _) (fun _ hk => hk.1))) (fun k_ hk => by first | exact ⟨(.inr (hk.1)), hk.2⟩ | exact (.inr (hk))), by exact hSet_ HB⟩
       ·rw [if_neg c39] at H; exact absurd H (by simp)
      ·rw [if_neg c38] at H; exact absurd H (by simp)
     ·rw [if_neg c36] at H; exact absurd H (by simp)
def window_Mean.f (k : Nat) (aG : Int) (aA : List Int) (a1 : Int) : Option (Int) := if (aA.length : Int) > 0 then ((ratio_Mean.f k aA).bind fun aB => (some (mx 1 aB))) else (some (mx 1 a1))
theorem window_Mean.mono : ∀ a0 a1 a2 k, LeO (window_Mean.f k a0 a1 a2) (window_Mean.f (k + 1) a0 a1 a2) := by
 intro a0 a1 a2 k
 unfold window_Mean.f
 with_reducible repeat' first | exact ratio_Mean.mono _ _ | exact LeO.refl _ | exact LeO.none _ | refine LeO.ite ?_ ?_ | refine LeO.bind ?_ (fun _ => ?_)
theorem window_Mean.calls (k : Nat) (aG : Int) (aH : Option Addr) (aF : Nat) (aA : List Int) (a1 : Int) (r : Int) (w : World) (aI : Kd.C (Kd.int .i64) w aH aA.length aA) (aJ : aA.length ≤ aF) (h : window_Mean.f k aG aA a1 = some r) :
  Calls Try.prog 69 #[.agg #[.int .i64 aG, .slice aH aA.length aF], .int .i64 a1] w fun e w' => e = .returned (.int .i64 r) ∧ Below w.heap.size w w' := by
 have hu34 := Try.underlying34; have aL := Zq_.mk aI; have aM := Zq_.mk aJ; clear aI aJ; have HB := Zq_.mk (Below.refl w.heap.size w); have H : (if (aA.length : Int) > 0 then ((ratio_Mean.f k aA).bind fun aB => (some (mx 1 aB))) else (some (mx 1 a1))) = some r := h; clear h
 by_cases c3 : (aA.length : Int) > 0
 ·rw [if_pos c3] at H; have c3b0 : decide (0 < (aA.length : Int)) = true := decide_eq_true c3; have c3b1 : decide (0 < aA.length) = true := decide_eq_true (by omega); clear c3; replace H := ob_ H; obtain ⟨aB, A40, H⟩ := H; (try dsimp only at H); have A4 := Zq_.mk A40; clear A40; obtain ⟨ji5, aD⟩ : ∃ j_ : Int, (mx 1 aB) = j_ := ⟨_, rfl⟩
  replace H : (some ji5) = some r := by first | (rw [aD] at H; exact H) | (simp only [aD] at H ⊢; exact H)
  (try rw [aD] at A4); (try (have hji5l : 1 ≤ ji5 := by (rw [← aD]; unfold mx; (repeat' split) <;> omega))); (try (have hji5m : 0 ≤ ji5 := by omega)); have hji5_ : (if 1 < aB then aB else 1) = ji5 := aD; obtain rfl := Option.some.inj H
  go_enter Try.func69, Try.ntmps69
  go_wp2_with (first | ((with_reducible refine qc_ (N := 2) rfl ?_); refine bE_ 2 #[.int .i64 aG, .slice aH aA.length aF] 34 ?_; intro aK hg w6 hbox hb; have aC := Zq_.mk (hbox); have aN := gW_ (w := w) hg (hB_ HB); have aO := gW_ (w := w) hg (hB_ HB); replace HB := sB_ HB hb; clear hb hbox hg; obtain ⟨hcz7_0, hcz7_1⟩ := c2_ aC; obtain ⟨hfz7_0, hfz7_1⟩ := f2_ aC) | ((with_reducible refine qg_ (f := 76) rfl ?_); refine goesL_ (some 13) rfl rfl Try.func76 (by kernel_rfl) rfl #[.slice aH aA.length aF] rfl aR_ ?_; (with_reducible refine (ratio_Mean.calls k _ _ aA aB _ ?side1 ?side2 A4.out).mono ?_); (case side1 => exact cX_ (Kd.qi_ aL.out HB.out)); (case side2 => exact aM.out); rintro e w' ⟨rfl, ⟨nd, rfl⟩⟩; refine ⟨_, rfl, ?_⟩))
  go_ret
  exact ⟨by first | rfl | (simp [errW_none, errW_some] <;> rfl) | (simp only [← aD]; first | rfl | (simp [errW_none, errW_some] <;> rfl)) | (simp [*, errW_none, errW_some] <;> rfl), by exact hSet_ HB⟩
 ·rw [if_neg c3] at H; have c3b0 : decide (0 < (aA.length : Int)) = false := decide_eq_false c3; have c3b1 : decide (0 < aA.length) = false := decide_eq_false (by omega); clear c3; obtain ⟨ji8, aE⟩ : ∃ j_ : Int, (mx 1 a1) = j_ := ⟨_, rfl⟩
  replace H : (some ji8) = some r := by first | (rw [aE] at H; exact H) | (simp only [aE] at H ⊢; exact H)
  (try (have hji8l : 1 ≤ ji8 := by (rw [← aE]; unfold mx; (repeat' split) <;> omega))); (try (have hji8m : 0 ≤ ji8 := by omega)); have hji8_ : (if 1 < a1 then a1 else 1) = ji8 := aE; obtain rfl := Option.some.inj H
  go_enter Try.func69, Try.ntmps69
  go_wp2_with (first | ((with_reducible refine qc_ (N := 2) rfl ?_); refine bE_ 2 #[.int .i64 aG, .slice aH aA.length aF] 34 ?_; intro aK hg w9 hbox hb; have aC := Zq_.mk (hbox); have aN := gW_ (w := w) hg (hB_ HB); have aO := gW_ (w := w) hg (hB_ HB); replace HB := sB_ HB hb; clear hb hbox hg; obtain ⟨hcz10_0, hcz10_1⟩ := c2_ aC; obtain ⟨hfz10_0, hfz10_1⟩ := f2_ aC))
  go_ret
  exact ⟨by first | rfl | (simp [errW_none, errW_some] <;> rfl) | (simp only [← aE]; first | rfl | (simp [errW_none, errW_some] <;> rfl)) | (simp [*, errW_none, errW_some] <;> rfl), by exact hSet_ HB⟩
def ref11_Level.j0 : Nat → Int → Int → Bool → Int → List Int → Option (Int × Int)
 | 0, _, _, _, _, _ => none
 | k + 1, x1, x2, x26, aJ, aO => if x26 = true then (some (0, 1)) else (if aJ < 0 then (some (0, 0)) else ((ref10_Mean.f k aJ aO x2).bind fun aE => ((ref09_MulDiv.f k (wrap64 (x1 - aJ)) 434 aE).bind fun aD => (if aD.2 = 8 then (some (4611686018427387904, 0)) else (some (aD.1, aD.2))))))
def ref11_Level.f (k : Nat) (aB : Int) (aC : List Int) (a1 : Int) (a2 : Int) : Option (Int × Int) := (ref10_Right.f k aB aC).bind fun aM => (if aM = true then (if a1 < 0 then (ref11_Level.j0 k a1 a2 true aB aC) else (if a1 < aB then (ref11_Level.j0 k a1 a2 true aB aC) else (ref11_Level.j0 k a1 a2 (decide (a1 > 1099511627776)) aB aC))) else (ref11_Level.j0 k a1 a2 true aB aC))
theorem ref11_Level.mono_l : ∀ k, (∀ y0 y1 y2 y3 y4, LeO (ref11_Level.j0 k y0 y1 y2 y3 y4) (ref11_Level.j0 (k + 1) y0 y1 y2 y3 y4))
 | 0 => fun _ _ _ _ _ r h => by simp [ref11_Level.j0] at h
 | k + 1 => by
  have ih0 := ref11_Level.mono_l k
  ·intro y0 y1 y2 y3 y4
   unfold ref11_Level.j0
   with_reducible repeat' first | exact ih0 _ _ _ _ _ | exact ref09_MulDiv.mono _ _ _ _ | exact ref10_Mean.mono _ _ _ _ | exact ref10_Right.mono _ _ _ | exact LeO.refl _ | exact LeO.none _ | refine LeO.ite ?_ ?_ | refine LeO.bind ?_ (fun _ => ?_)
theorem ref11_Level.mono : ∀ a0 a1 a2 a3 k, LeO (ref11_Level.f k a0 a1 a2 a3) (ref11_Level.f (k + 1) a0 a1 a2 a3) := by
 intro a0 a1 a2 a3 k; have ih0 := ref11_Level.mono_l k
 unfold ref11_Level.f
 with_reducible repeat' first | exact ih0 _ _ _ _ _ | exact ref09_MulDiv.mono _ _ _ _ | exact ref10_Mean.mono _ _ _ _ | exact ref10_Right.mono _ _ _ | exact LeO.refl _ | exact LeO.none _ | refine LeO.ite ?_ ?_ | refine LeO.bind ?_ (fun _ => ?_)
def ref11_Level.T5 : Bool × List (List Nat × List Nat) := (true, [([], []), ([], []), ([1], [1]), ([0, 2], [0, 2]), ([], []), ([], []), ([4, 5], [4, 5]), ([3, 6, 6], [3, 6]), ([7], [7]), ([8], [8]), ([8], [8]), ([9, 7, 0, 1, 2, 3, 4, 5, 6, 7, 8, 9], [9]), ([10, 11, 0, 1, 2, 3, 4, 5, 6, 7, 8, 9, 10, 11], [10])])
def ref11_Level.B5 : List Nat := [0, 0, 2, 7, 0, 0, 48, 127, 255, 511, 511, 1023, 4095]
theorem ref11_Level.tab5 : rtab .any (opsOf Try.f11 5) = ref11_Level.T5 := by kernel_rfl
theorem ref11_Level.bits5 : waitsOk ref11_Level.T5.2 ref11_Level.B5 = true := by kernel_rfl
theorem ref11_Level.calls (k : Nat) (aB : Int) (aG : Option Addr) (aF : Nat) (aC : List Int) (a1 : Int) (a2 : Int) (r1 : Int) (r2 : Int) (w : World) (bJ : Kd.C (Kd.int .i64) w aG aC.length aC) (bK : aC.length ≤ aF) (h : ref11_Level.f k aB aC a1 a2 = some (r1, r2)) :
  Calls Try.prog 11 #[.agg #[.int .i64 aB, .slice aG aC.length aF], .int .i64 a1, .int .i64 a2] w fun e w' => e = .returned (.tuple #[.int .i64 r1, .int .i64 r2]) ∧ Below w.heap.size w w' := by
 have hu34 := Try.underlying34; have aH := Zq_.mk bJ; have aI := Zq_.mk bK; clear bJ bK; have HB := Zq_.mk (Below.refl w.heap.size w); have H : ((ref10_Right.f k aB aC).bind fun aM => (if aM = true then (if a1 < 0 then (ref11_Level.j0 k a1 a2 true aB aC) else (if a1 < aB then (ref11_Level.j0 k a1 a2 true aB aC) else (ref11_Level.j0 k a1 a2 (decide (a1 > 1099511627776)) aB aC))) else (ref11_Level.j0 k a1 a2 true aB aC))) = some (r1, r2) := h; clear h; have HC4 := Zq_.mk H; clear H
 go_enter Try.func11, Try.ntmps11
 go_upto_region 1 with (first | ((with_reducible refine qc_ (N := 3) rfl ?_); refine bE_ 3 #[.int .i64 aB, .slice aG aC.length aF] 34 ?_; intro bR hg w5 hbox hb; have aA := Zq_.mk (hbox); have GW101 := gW_ (w := w) hg (hB_ HB); have GE101 := gW_ (w := w) hg (hB_ HB); replace HB := sB_ HB hb; clear hb hbox hg))
 (try simp only [Act.put, sa_, sb_, sc_])
 go_cut [26] (fun v26 wc => ∃ (kq : Nat) (aL : Bool), v26 = .bool aL ∧ Zq_ (ref11_Level.j0 kq a1 a2 aL aB aC = some (r1, r2)) ∧ Zq_ (kq ≤ k) ∧ Zq_ (wc.heap[bR]? = some (.cells #[.int .i64 aB, (.slice aG aC.length aF)] 34 (0, 0))) ∧ Zq_ (Below w.heap.size w wc))
 case first =>
  have H := HC4.out; clear HC4; replace H := ob_ H; obtain ⟨aM, A60, H⟩ := H; replace H : (if aM = true then (if a1 < 0 then (ref11_Level.j0 k a1 a2 true aB aC) else (if a1 < aB then (ref11_Level.j0 k a1 a2 true aB aC) else (ref11_Level.j0 k a1 a2 (decide (a1 > 1099511627776)) aB aC))) else (ref11_Level.j0 k a1 a2 true aB aC)) = some (r1, r2) := H; have A6 := Zq_.mk A60; clear A60
  by_cases c7 : aM = true
  ·subst c7
   have H1 : (if a1 < 0 then (ref11_Level.j0 k a1 a2 true aB aC) else (if a1 < aB then (ref11_Level.j0 k a1 a2 true aB aC) else (ref11_Level.j0 k a1 a2 (decide (a1 > 1099511627776)) aB aC))) = some (r1, r2) := by rw [if_pos rfl] at H; exact H
   clear H; have H := H1; clear H1
   by_cases c8 : a1 < 0
   ·rw [if_pos c8] at H; have aN : decide (a1 < 0) = true := decide_eq_true c8; clear c8; (first | rw [aN] | (simp only [i64_w, i32_w]; rw [aN]) | skip); have H' := Zq_.mk H; clear H; obtain ⟨bQ, bP⟩ := c2_ aA; obtain ⟨bO, bN⟩ := f2_ aA
    go_wp2_with (first | ((with_reducible refine qg_ (f := 28) rfl ?_); refine goesL_ (some 11) rfl rfl Try.func28 (by kernel_rfl) rfl #[.agg #[.int .i64 aB, .slice aG aC.length aF]] rfl aR_ ?_; (with_reducible refine (ref10_Right.calls k aB _ _ aC true _ ?side1 ?side2 A6.out).mono ?_); (case side1 => exact cX_ (Kd.qi_ aH.out HB.out)); (case side2 => exact aI.out); rintro e w10 ⟨rfl, hb⟩; refine ⟨_, rfl, ?_⟩; replace aA := kB_ aA hb; replace HB := sB_ HB hb; (try clear hb)))
    go_meet
    case rel => exact ⟨_, (true), eS_, H', ⟨by first | omega | exact Nat.le_refl _⟩, ⟨by (with_reducible repeat (first | refine qk_ ?_ _ | refine qh_ ?_ | refine ql_ ?_ _)); exact aA.out⟩, ⟨by exact hSet_ HB⟩⟩
   ·rw [if_neg c8] at H; have aN : decide (a1 < 0) = false := decide_eq_false c8; clear c8; (first | rw [aN] | (simp only [i64_w, i32_w]; rw [aN]) | skip)
    by_cases c11 : a1 < aB
    ·rw [if_pos c11] at H; have bL : decide (a1 < aB) = true := decide_eq_true c11; clear c11; have H' := Zq_.mk H; clear H; obtain ⟨bI, bH⟩ := c2_ aA; obtain ⟨aY, aX⟩ := f2_ aA
     go_wp2_with (first | ((with_reducible refine qg_ (f := 28) rfl ?_); refine goesL_ (some 11) rfl rfl Try.func28 (by kernel_rfl) rfl #[.agg #[.int .i64 aB, .slice aG aC.length aF]] rfl aR_ ?_; (with_reducible refine (ref10_Right.calls k aB _ _ aC true _ ?side1 ?side2 A6.out).mono ?_); (case side1 => exact cX_ (Kd.qi_ aH.out HB.out)); (case side2 => exact aI.out); rintro e w13 ⟨rfl, hb⟩; refine ⟨_, rfl, ?_⟩; replace aA := kB_ aA hb; replace HB := sB_ HB hb; (try clear hb); obtain ⟨bG, bF⟩ := c2_ aA; obtain ⟨aW, aV⟩ := f2_ aA))
     go_meet
     case rel => exact ⟨_, (true), eS_, H', ⟨by first | omega | exact Nat.le_refl _⟩, ⟨by (with_reducible repeat (first | refine qk_ ?_ _ | refine qh_ ?_ | refine ql_ ?_ _)); exact aA.out⟩, ⟨by exact hSet_ HB⟩⟩
    ·rw [if_neg c11] at H; have bL : decide (a1 < aB) = false := decide_eq_false c11; clear c11; have H' := Zq_.mk H; clear H; obtain ⟨bE, bD⟩ := c2_ aA; obtain ⟨aU, aT⟩ := f2_ aA
     go_wp2_with (first | ((with_reducible refine qg_ (f := 28) rfl ?_); refine goesL_ (some 11) rfl rfl Try.func28 (by kernel_rfl) rfl #[.agg #[.int .i64 aB, .slice aG aC.length aF]] rfl aR_ ?_; (with_reducible refine (ref10_Right.calls k aB _ _ aC true _ ?side1 ?side2 A6.out).mono ?_); (case side1 => exact cX_ (Kd.qi_ aH.out HB.out)); (case side2 => exact aI.out); rintro e w16 ⟨rfl, hb⟩; refine ⟨_, rfl, ?_⟩; replace aA := kB_ aA hb; replace HB := sB_ HB hb; (try clear hb); obtain ⟨bC, bB⟩ := c2_ aA; obtain ⟨aS, aR⟩ := f2_ aA))
     go_meet
     case rel => exact ⟨_, (decide (a1 > 1099511627776)), eS_, H', ⟨by first | omega | exact Nat.le_refl _⟩, ⟨by (with_reducible repeat (first | refine qk_ ?_ _ | refine qh_ ?_ | refine ql_ ?_ _)); exact aA.out⟩, ⟨by exact hSet_ HB⟩⟩
  ·replace c7 := Bool.eq_false_iff.mpr c7; subst c7
   have H1 : (ref11_Level.j0 k a1 a2 true aB aC) = some (r1, r2) := by rw [if_neg (show ¬ (false = true) by decide)] at H; exact H
   clear H; have H := H1; clear H1; have H' := Zq_.mk H; clear H; obtain ⟨bA, aZ⟩ := c2_ aA; obtain ⟨aQ, aP⟩ := f2_ aA
   go_wp2_with (first | ((with_reducible refine qg_ (f := 28) rfl ?_); refine goesL_ (some 11) rfl rfl Try.func28 (by kernel_rfl) rfl #[.agg #[.int .i64 aB, .slice aG aC.length aF]] rfl aR_ ?_; (with_reducible refine (ref10_Right.calls k aB _ _ aC false _ ?side1 ?side2 A6.out).mono ?_); (case side1 => exact cX_ (Kd.qi_ aH.out HB.out)); (case side2 => exact aI.out); rintro e w19 ⟨rfl, hb⟩; refine ⟨_, rfl, ?_⟩; replace aA := kB_ aA hb; replace HB := sB_ HB hb; (try clear hb)))
   go_meet
   case rel => exact ⟨_, (true), eS_, H', ⟨by first | omega | exact Nat.le_refl _⟩, ⟨by (with_reducible repeat (first | refine qk_ ?_ _ | refine qh_ ?_ | refine ql_ ?_ _)); exact aA.out⟩, ⟨by exact hSet_ HB⟩⟩
 case rest =>
  clear HC4
  try clear c1
  try clear c2
  try clear p2
  try clear c7
  try clear c8
  try clear aN
  try clear c11
  try clear bL
  try clear bI
  try clear bH
  try clear bG
  try clear bF
  try clear bE
  try clear bD
  try clear bC
  try clear bB
  try clear bA
  try clear aZ
  try clear bQ
  try clear bP
  try clear aY
  try clear aX
  try clear aW
  try clear aV
  try clear aU
  try clear aT
  try clear aS
  try clear aR
  try clear aQ
  try clear aP
  try clear bO
  try clear bN
  obtain ⟨kq, aL, rfl, HA, HJ3, aA, HB⟩ := hcut
  cases kq with
  | zero => exact absurd HA.out (by simp [ref11_Level.j0])
  | succ kj3 =>
   have H := HA.out; clear HA; simp only [ref11_Level.j0] at H
   by_cases c20 : aL = true
   ·subst c20
    have H1 : (some (0, 1)) = some (r1, r2) := by rw [if_pos rfl] at H; exact H
    clear H; have H := H1; clear H1; simp only [Option.some.injEq, Prod.mk.injEq] at H; obtain ⟨rfl, rfl⟩ := H
    go_wp2
    go_ret2
    exact ⟨by exact eW_, by exact hSet_ HB⟩
   ·replace c20 := Bool.eq_false_iff.mpr c20; subst c20
    have H1 : (if aB < 0 then (some (0, 0)) else ((ref10_Mean.f kj3 aB aC a2).bind fun aE => ((ref09_MulDiv.f kj3 (wrap64 (a1 - aB)) 434 aE).bind fun aD => (if aD.2 = 8 then (some (4611686018427387904, 0)) else (some (aD.1, aD.2)))))) = some (r1, r2) := by rw [if_neg (show ¬ (false = true) by decide)] at H; exact H
    clear H; have H := H1; clear H1
    by_cases c21 : aB < 0
    ·rw [if_pos c21] at H; have bU : decide (aB < 0) = true := decide_eq_true c21; clear c21; simp only [Option.some.injEq, Prod.mk.injEq] at H; obtain ⟨rfl, rfl⟩ := H; obtain ⟨hcz22_0, hcz22_1⟩ := c2_ aA; obtain ⟨hfz22_0, hfz22_1⟩ := f2_ aA
     go_wp2
     go_ret2
     exact ⟨by exact eW_, by exact hSet_ HB⟩
    ·rw [if_neg c21] at H; have bU : decide (aB < 0) = false := decide_eq_false c21; clear c21; replace H := ob_ H; obtain ⟨aE, bW, H⟩ := H; replace H : ((ref09_MulDiv.f kj3 (wrap64 (a1 - aB)) 434 aE).bind fun aD => (if aD.2 = 8 then (some (4611686018427387904, 0)) else (some (aD.1, aD.2)))) = some (r1, r2) := H; have A23 := Zq_.mk bW; clear bW; replace H := ob_ H; obtain ⟨⟨bM, aK⟩, bV, H⟩ := H; replace H : (if aK = 8 then (some (4611686018427387904, 0)) else (some (bM, aK))) = some (r1, r2) := H; have A24 := Zq_.mk bV; clear bV
     by_cases c25 : aK = 8
     ·rw [if_pos c25] at H; have bT : (aK == 8) = true := beq_iff_eq.mpr c25; have bS : (aK != 8) = false := bne_eq_false_iff_eq.mpr c25; clear c25; simp only [Option.some.injEq, Prod.mk.injEq] at H; obtain ⟨rfl, rfl⟩ := H; obtain ⟨hcz26_0, hcz26_1⟩ := c2_ aA; obtain ⟨hfz26_0, hfz26_1⟩ := f2_ aA; (try go_wp2); replace aA := Zq_.mk (qh_ aA.out); replace HB := Zq_.mk (qu_ HB.out); refine gS_ 13 (hA_ (b0_ aA) (hZ_ (b1_ aA))) (fun hHeld => ?_); refine vn_ ref11_Level.tab5 ref11_Level.bits5 (fun HT_ HW_ => ?_); generalize wc.drew = w27 at aA HB hHeld ⊢; refine pQ_ 0 HT_ ?_; refine pQ_ 1 HT_ ?_; refine pQ_ 5 HT_ ?_; refine tL_ 2 HT_ HW_ hHeld ?_; refine pQ_ 3 HT_ ?_; refine tL_ 4 HT_ HW_ hHeld ?_; refine oN_ 6 37 13 127 HT_ (fun K hK => ?_); refine goes_ Try.func30 (by kernel_rfl) rfl #[.agg #[.int .i64 aB, .slice aG aC.length aF], .int .i64 a2] (by rfl) rfl rfl aR_ ?_
      with_reducible refine (ref10_Mean.calls kj3 aB _ _ aC a2 aE _ ?side1 ?side2 A23.out).mono ?_
      (case side1 => exact cX_ (Kd.qi_ aH.out HB.out)); (case side2 => exact aI.out); rintro e w28 ⟨rfl, hb⟩; refine ⟨_, rfl, ?_⟩; replace aA := kB_ aA hb; replace HB := sB_ HB hb; (try clear hb); refine hK.out _ _ (c2_ aA) (fun hHeld => ?_); clear hK K; refine norm_ (a' := ?_) ?_ ?_; rotate_left
      ·show Act.put _ (some 37) _ = _
       simp only [Act.put, sa_, sb_, sc_, i64_w, i32_w]; rfl
      refine oN_ 7 38 13 255 HT_ (fun K hK => ?_); refine goes_ Try.func29 (by kernel_rfl) rfl #[.int .i64 (wrap64 (a1 - aB)), .int .i64 434, .int .i64 aE] (by rfl) rfl rfl aR_ ?_
      with_reducible refine (ref09_MulDiv.calls kj3 (wrap64 (a1 - aB)) 434 aE bM aK _ A24.out).mono ?_
      rintro e w29 ⟨rfl, hb⟩; refine ⟨_, rfl, ?_⟩; replace aA := kB_ aA hb; replace HB := sB_ HB hb; (try clear hb); refine hK.out _ _ (c2_ aA) (fun hHeld => ?_); clear hK K; refine norm_ (a' := ?_) ?_ ?_; rotate_left
      ·show Act.put _ (some 38) _ = _
       simp only [Act.put, sa_, sb_, sc_, i64_w, i32_w]; rfl
      refine up0_ 8 ?_; (iterate 5 refine pN_ ?_); refine dN_ HT_ ?_; (try go_wp2)
      go_ret2
      exact ⟨by exact eW_, by exact hSet_ HB⟩
     ·rw [if_neg c25] at H; have bT : (aK == 8) = false := beq_eq_false_iff_ne.mpr c25; have bS : (aK != 8) = true := bne_iff_ne.mpr c25; simp only [Option.some.injEq, Prod.mk.injEq] at H; obtain ⟨rfl, rfl⟩ := H; obtain ⟨hcz30_0, hcz30_1⟩ := c2_ aA; obtain ⟨hfz30_0, hfz30_1⟩ := f2_ aA; (try go_wp2); replace aA := Zq_.mk (qh_ aA.out); replace HB := Zq_.mk (qu_ HB.out); refine gS_ 13 (hA_ (b0_ aA) (hZ_ (b1_ aA))) (fun hHeld => ?_); refine vn_ ref11_Level.tab5 ref11_Level.bits5 (fun HT_ HW_ => ?_); generalize wc.drew = w31 at aA HB hHeld ⊢; refine pQ_ 0 HT_ ?_; refine pQ_ 1 HT_ ?_; refine pQ_ 5 HT_ ?_; refine tL_ 2 HT_ HW_ hHeld ?_; refine pQ_ 3 HT_ ?_; refine tL_ 4 HT_ HW_ hHeld ?_; refine oN_ 6 37 13 127 HT_ (fun K hK => ?_); refine goes_ Try.func30 (by kernel_rfl) rfl #[.agg #[.int .i64 aB, .slice aG aC.length aF], .int .i64 a2] (by rfl) rfl rfl aR_ ?_
      with_reducible refine (ref10_Mean.calls kj3 aB _ _ aC a2 aE _ ?side1 ?side2 A23.out).mono ?_
      (case side1 => exact cX_ (Kd.qi_ aH.out HB.out)); (case side2 => exact aI.out); rintro e w32 ⟨rfl, hb⟩; refine ⟨_, rfl, ?_⟩; replace aA := kB_ aA hb; replace HB := sB_ HB hb; (try clear hb); refine hK.out _ _ (c2_ aA) (fun hHeld => ?_); clear hK K; refine norm_ (a' := ?_) ?_ ?_; rotate_left
      ·show Act.put _ (some 37) _ = _
       simp only [Act.put, sa_, sb_, sc_, i64_w, i32_w]; rfl
      refine oN_ 7 38 13 255 HT_ (fun K hK => ?_); refine goes_ Try.func29 (by kernel_rfl) rfl #[.int .i64 (wrap64 (a1 - aB)), .int .i64 434, .int .i64 aE] (by rfl) rfl rfl aR_ ?_
      with_reducible refine (ref09_MulDiv.calls kj3 (wrap64 (a1 - aB)) 434 aE bM aK _ A24.out).mono ?_
      rintro e w33 ⟨rfl, hb⟩; refine ⟨_, rfl, ?_⟩; replace aA := kB_ aA hb; replace HB := sB_ HB hb; (try clear hb); refine hK.out _ _ (c2_ aA) (fun hHeld => ?_); clear hK K; refine norm_ (a' := ?_) ?_ ?_; rotate_left
      ·show Act.put _ (some 38) _ = _
       simp only [Act.put, sa_, sb_, sc_, i64_w, i32_w]; rfl
      refine up0_ 8 ?_; (iterate 5 refine pN_ ?_); refine dN_ HT_ ?_; (try go_wp2)
      go_ret2
      exact ⟨by exact eW_, by exact hSet_ HB⟩
def phi_Level.j0 : Nat → Int → Int → Bool → Int → List Int → Option (Int × Int)
 | 0, _, _, _, _, _ => none
 | k + 1, x1, x2, x10, aF, aO => if x10 = true then (some (0, 1)) else (if aF < 0 then (some (0, 0)) else ((window_Mean.f k aF aO x2).bind fun aE => ((ratio_MulDiv.f k (wrap64 (x1 - aF)) 434 aE).bind fun aD => (if aD.2 = 8 then (some (4611686018427387904, 0)) else (some (aD.1, aD.2))))))
def phi_Level.f (k : Nat) (aB : Int) (aC : List Int) (a1 : Int) (a2 : Int) : Option (Int × Int) := if a1 < (mx 0 aB) then (phi_Level.j0 k a1 a2 true aB aC) else (if a1 > 1099511627776 then (phi_Level.j0 k a1 a2 true aB aC) else ((window_Right.f aB aC).bind fun aH => (phi_Level.j0 k a1 a2 (!aH) aB aC)))
theorem phi_Level.mono_l : ∀ k, (∀ y0 y1 y2 y3 y4, LeO (phi_Level.j0 k y0 y1 y2 y3 y4) (phi_Level.j0 (k + 1) y0 y1 y2 y3 y4))
 | 0 => fun _ _ _ _ _ r h => by simp [phi_Level.j0] at h
 | k + 1 => by
  have ih0 := phi_Level.mono_l k
  ·intro y0 y1 y2 y3 y4
   unfold phi_Level.j0
   with_reducible repeat' first | exact ih0 _ _ _ _ _ | exact ratio_MulDiv.mono _ _ _ _ | exact window_Mean.mono _ _ _ _ | exact LeO.refl _ | exact LeO.none _ | refine LeO.ite ?_ ?_ | refine LeO.bind ?_ (fun _ => ?_)
theorem phi_Level.mono : ∀ a0 a1 a2 a3 k, LeO (phi_Level.f k a0 a1 a2 a3) (phi_Level.f (k + 1) a0 a1 a2 a3) := by
 intro a0 a1 a2 a3 k; have ih0 := phi_Level.mono_l k
 unfold phi_Level.f
 with_reducible repeat' first | exact ih0 _ _ _ _ _ | exact ratio_MulDiv.mono _ _ _ _ | exact window_Mean.mono _ _ _ _ | exact LeO.refl _ | exact LeO.none _ | refine LeO.ite ?_ ?_ | refine LeO.bind ?_ (fun _ => ?_)
def phi_Level.T5 : Bool × List (List Nat × List Nat) := (true, [([], []), ([], []), ([1], [1]), ([0, 2], [0, 2]), ([], []), ([], []), ([4, 5], [4, 5]), ([3, 6, 6], [3, 6]), ([7], [7]), ([8], [8]), ([8], [8]), ([9, 7, 0, 1, 2, 3, 4, 5, 6, 7, 8, 9], [9]), ([10, 11, 0, 1, 2, 3, 4, 5, 6, 7, 8, 9, 10, 11], [10])])
def phi_Level.B5 : List Nat := [0, 0, 2, 7, 0, 0, 48, 127, 255, 511, 511, 1023, 4095]
theorem phi_Level.tab5 : rtab .any (opsOf Try.f54 5) = phi_Level.T5 := by kernel_rfl
theorem phi_Level.bits5 : waitsOk phi_Level.T5.2 phi_Level.B5 = true := by kernel_rfl
theorem phi_Level.calls (k : Nat) (aB : Int) (aL : Option Addr) (aK : Nat) (aC : List Int) (a1 : Int) (a2 : Int) (r1 : Int) (r2 : Int) (w : World) (aY : Kd.C (Kd.int .i64) w aL aC.length aC) (aZ : aC.length ≤ aK) (h : phi_Level.f k aB aC a1 a2 = some (r1, r2)) :
  Calls Try.prog 54 #[.agg #[.int .i64 aB, .slice aL aC.length aK], .int .i64 a1, .int .i64 a2] w fun e w' => e = .returned (.tuple #[.int .i64 r1, .int .i64 r2]) ∧ Below w.heap.size w w' := by
 have hu34 := Try.underlying34; have aM := Zq_.mk aY; have aN := Zq_.mk aZ; clear aY aZ; have HB := Zq_.mk (Below.refl w.heap.size w); have H : (if a1 < (mx 0 aB) then (phi_Level.j0 k a1 a2 true aB aC) else (if a1 > 1099511627776 then (phi_Level.j0 k a1 a2 true aB aC) else ((window_Right.f aB aC).bind fun aH => (phi_Level.j0 k a1 a2 (!aH) aB aC)))) = some (r1, r2) := h; clear h; have HC4 := Zq_.mk H; clear H
 go_enter Try.func54, Try.ntmps54
 go_upto_region 1 with (first | ((with_reducible refine qc_ (N := 3) rfl ?_); refine bE_ 3 #[.int .i64 aB, .slice aL aC.length aK] 34 ?_; intro bF hg w5 hbox hb; have aA := Zq_.mk (hbox); have GW101 := gW_ (w := w) hg (hB_ HB); have GE101 := gW_ (w := w) hg (hB_ HB); replace HB := sB_ HB hb; clear hb hbox hg))
 (try simp only [Act.put, sa_, sb_, sc_])
 go_cut [10] (fun v10 wc => ∃ (kq : Nat) (aI : Bool), v10 = .bool aI ∧ Zq_ (phi_Level.j0 kq a1 a2 aI aB aC = some (r1, r2)) ∧ Zq_ (kq ≤ k) ∧ Zq_ (wc.heap[bF]? = some (.cells #[.int .i64 aB, (.slice aL aC.length aK)] 34 (0, 0))) ∧ Zq_ (Below w.heap.size w wc))
 case first =>
  have H := HC4.out; clear HC4; obtain ⟨ji6, aP⟩ : ∃ j_ : Int, (mx 0 aB) = j_ := ⟨_, rfl⟩
  replace H : (if a1 < (ji6) then (phi_Level.j0 k a1 a2 true aB aC) else (if a1 > 1099511627776 then (phi_Level.j0 k a1 a2 true aB aC) else ((window_Right.f aB aC).bind fun aH => (phi_Level.j0 k a1 a2 (!aH) aB aC)))) = some (r1, r2) := by first | (rw [aP] at H; exact H) | (simp only [aP] at H ⊢; exact H)
  (try (have hji6l : 0 ≤ ji6 := by (rw [← aP]; unfold mx; (repeat' split) <;> omega))); (try (have hji6m : 0 ≤ ji6 := by omega)); have hji6_ : (if 0 < aB then aB else 0) = ji6 := aP
  by_cases c7 : a1 < (ji6)
  ·rw [if_pos c7] at H; have aJ : decide (a1 < (ji6)) = true := decide_eq_true c7; clear c7; (first | rw [aJ] | (simp only [i64_w, i32_w]; rw [aJ]) | skip); have H' := Zq_.mk H; clear H; obtain ⟨bE, bD⟩ := c2_ aA; obtain ⟨bC, bB⟩ := f2_ aA
   go_wp2
   go_meet
   case rel => exact ⟨_, (true), eS_, H', ⟨by first | omega | exact Nat.le_refl _⟩, ⟨by (with_reducible repeat (first | refine qk_ ?_ _ | refine qh_ ?_ | refine ql_ ?_ _)); exact aA.out⟩, ⟨by exact hSet_ HB⟩⟩
  ·rw [if_neg c7] at H; have aJ : decide (a1 < (ji6)) = false := decide_eq_false c7; clear c7; (first | rw [aJ] | (simp only [i64_w, i32_w]; rw [aJ]) | skip)
   by_cases c9 : a1 > 1099511627776
   ·rw [if_pos c9] at H; have bG : decide (1099511627776 < a1) = true := decide_eq_true c9; clear c9; have H' := Zq_.mk H; clear H; obtain ⟨aX, aW⟩ := c2_ aA; obtain ⟨aT, aS⟩ := f2_ aA
    go_wp2
    go_meet
    case rel => exact ⟨_, (true), eS_, H', ⟨by first | omega | exact Nat.le_refl _⟩, ⟨by (with_reducible repeat (first | refine qk_ ?_ _ | refine qh_ ?_ | refine ql_ ?_ _)); exact aA.out⟩, ⟨by exact hSet_ HB⟩⟩
   ·rw [if_neg c9] at H; have bG : decide (1099511627776 < a1) = false := decide_eq_false c9; clear c9; replace H := ob_ H; obtain ⟨aH, bM, H⟩ := H; replace H : (phi_Level.j0 k a1 a2 (!aH) aB aC) = some (r1, r2) := H; have A11 := Zq_.mk bM; clear bM; have H' := Zq_.mk H; clear H; obtain ⟨aV, aU⟩ := c2_ aA; obtain ⟨aR, aQ⟩ := f2_ aA
    go_wp2_with (first | (go_at_call 60; (with_reducible refine (window_Right.calls aB _ _ aC aH _ ?side1 ?side2 A11.out).mono ?_); (case side1 => exact cX_ (Kd.qi_ aM.out HB.out)); (case side2 => exact aN.out); rintro e w13 ⟨rfl, hb⟩; replace aA := kB_ aA hb; replace HB := sB_ HB hb; (try clear hb)))
    go_meet
    case rel => exact ⟨_, (!aH), eS_, H', ⟨by first | omega | exact Nat.le_refl _⟩, ⟨by (with_reducible repeat (first | refine qk_ ?_ _ | refine qh_ ?_ | refine ql_ ?_ _)); exact aA.out⟩, ⟨by exact hSet_ HB⟩⟩
 case rest =>
  clear HC4
  try clear p2
  try clear c5
  try clear c7
  try clear aJ
  try clear c9
  try clear bG
  try clear aX
  try clear aW
  try clear aV
  try clear aU
  try clear bE
  try clear bD
  try clear aT
  try clear aS
  try clear aR
  try clear aQ
  try clear bC
  try clear bB
  obtain ⟨kq, aI, rfl, HA, HJ3, aA, HB⟩ := hcut
  cases kq with
  | zero => exact absurd HA.out (by simp [phi_Level.j0])
  | succ kj3 =>
   have H := HA.out; clear HA; simp only [phi_Level.j0] at H
   by_cases c14 : aI = true
   ·subst c14
    have H1 : (some (0, 1)) = some (r1, r2) := by rw [if_pos rfl] at H; exact H
    clear H; have H := H1; clear H1; simp only [Option.some.injEq, Prod.mk.injEq] at H; obtain ⟨rfl, rfl⟩ := H
    go_wp2
    go_ret2
    exact ⟨by exact eW_, by exact hSet_ HB⟩
   ·replace c14 := Bool.eq_false_iff.mpr c14; subst c14
    have H1 : (if aB < 0 then (some (0, 0)) else ((window_Mean.f kj3 aB aC a2).bind fun aE => ((ratio_MulDiv.f kj3 (wrap64 (a1 - aB)) 434 aE).bind fun aD => (if aD.2 = 8 then (some (4611686018427387904, 0)) else (some (aD.1, aD.2)))))) = some (r1, r2) := by rw [if_neg (show ¬ (false = true) by decide)] at H; exact H
    clear H; have H := H1; clear H1
    by_cases c15 : aB < 0
    ·rw [if_pos c15] at H; have bJ : decide (aB < 0) = true := decide_eq_true c15; clear c15; simp only [Option.some.injEq, Prod.mk.injEq] at H; obtain ⟨rfl, rfl⟩ := H; obtain ⟨hcz16_0, hcz16_1⟩ := c2_ aA; obtain ⟨hfz16_0, hfz16_1⟩ := f2_ aA
     go_wp2
     go_ret2
     exact ⟨by exact eW_, by exact hSet_ HB⟩
    ·rw [if_neg c15] at H; have bJ : decide (aB < 0) = false := decide_eq_false c15; clear c15; replace H := ob_ H; obtain ⟨aE, bL, H⟩ := H; replace H : ((ratio_MulDiv.f kj3 (wrap64 (a1 - aB)) 434 aE).bind fun aD => (if aD.2 = 8 then (some (4611686018427387904, 0)) else (some (aD.1, aD.2)))) = some (r1, r2) := H; have A17 := Zq_.mk bL; clear bL; replace H := ob_ H; obtain ⟨⟨bA, aG⟩, bK, H⟩ := H; replace H : (if aG = 8 then (some (4611686018427387904, 0)) else (some (bA, aG))) = some (r1, r2) := H; have A18 := Zq_.mk bK; clear bK
     by_cases c19 : aG = 8
     ·rw [if_pos c19] at H; have bI : (aG == 8) = true := beq_iff_eq.mpr c19; have bH : (aG != 8) = false := bne_eq_false_iff_eq.mpr c19; clear c19; simp only [Option.some.injEq, Prod.mk.injEq] at H; obtain ⟨rfl, rfl⟩ := H; obtain ⟨hcz20_0, hcz20_1⟩ := c2_ aA; obtain ⟨hfz20_0, hfz20_1⟩ := f2_ aA; (try go_wp2); replace aA := Zq_.mk (qh_ aA.out); replace HB := Zq_.mk (qu_ HB.out); refine gS_ 13 (hA_ (b0_ aA) (hZ_ (b1_ aA))) (fun hHeld => ?_); refine vn_ phi_Level.tab5 phi_Level.bits5 (fun HT_ HW_ => ?_); generalize wc.drew = w21 at aA HB hHeld ⊢; refine pQ_ 0 HT_ ?_; refine pQ_ 1 HT_ ?_; refine pQ_ 5 HT_ ?_; refine tL_ 2 HT_ HW_ hHeld ?_; refine pQ_ 3 HT_ ?_; refine tL_ 4 HT_ HW_ hHeld ?_; refine oN_ 6 36 13 127 HT_ (fun K hK => ?_); refine goes_ Try.func69 (by kernel_rfl) rfl #[.agg #[.int .i64 aB, .slice aL aC.length aK], .int .i64 a2] (by rfl) rfl rfl aR_ ?_
      with_reducible refine (window_Mean.calls kj3 aB _ _ aC a2 aE _ ?side1 ?side2 A17.out).mono ?_
      (case side1 => exact cX_ (Kd.qi_ aM.out HB.out)); (case side2 => exact aN.out); rintro e w22 ⟨rfl, hb⟩; refine ⟨_, rfl, ?_⟩; replace aA := kB_ aA hb; replace HB := sB_ HB hb; (try clear hb); refine hK.out _ _ (c2_ aA) (fun hHeld => ?_); clear hK K; refine norm_ (a' := ?_) ?_ ?_; rotate_left
      ·show Act.put _ (some 36) _ = _
       simp only [Act.put, sa_, sb_, sc_, i64_w, i32_w]; rfl
      refine oN_ 7 37 13 255 HT_ (fun K hK => ?_); refine goes_ Try.func68 (by kernel_rfl) rfl #[.int .i64 (wrap64 (a1 - aB)), .int .i64 434, .int .i64 aE] (by rfl) rfl rfl aR_ ?_
      with_reducible refine (ratio_MulDiv.calls kj3 (wrap64 (a1 - aB)) 434 aE bA aG _ A18.out).mono ?_
      rintro e w' ⟨rfl, ⟨nd, rfl⟩⟩; refine ⟨_, rfl, ?_⟩; refine hK.out _ _ (c2_ aA) (fun hHeld => ?_); clear hK K; refine norm_ (a' := ?_) ?_ ?_; rotate_left
      ·show Act.put _ (some 37) _ = _
       simp only [Act.put, sa_, sb_, sc_, i64_w, i32_w]; rfl
      refine up0_ 8 ?_; (iterate 5 refine pN_ ?_); refine dN_ HT_ ?_; (try go_wp2)
      go_ret2
      exact ⟨by exact eW_, by exact hSet_ HB⟩
     ·rw [if_neg c19] at H; have bI : (aG == 8) = false := beq_eq_false_iff_ne.mpr c19; have bH : (aG != 8) = true := bne_iff_ne.mpr c19; simp only [Option.some.injEq, Prod.mk.injEq] at H; obtain ⟨rfl, rfl⟩ := H; obtain ⟨hcz23_0, hcz23_1⟩ := c2_ aA; obtain ⟨hfz23_0, hfz23_1⟩ := f2_ aA; (try go_wp2); replace aA := Zq_.mk (qh_ aA.out); replace HB := Zq_.mk (qu_ HB.out); refine gS_ 13 (hA_ (b0_ aA) (hZ_ (b1_ aA))) (fun hHeld => ?_); refine vn_ phi_Level.tab5 phi_Level.bits5 (fun HT_ HW_ => ?_); generalize wc.drew = w24 at aA HB hHeld ⊢; refine pQ_ 0 HT_ ?_; refine pQ_ 1 HT_ ?_; refine pQ_ 5 HT_ ?_; refine tL_ 2 HT_ HW_ hHeld ?_; refine pQ_ 3 HT_ ?_; refine tL_ 4 HT_ HW_ hHeld ?_; refine oN_ 6 36 13 127 HT_ (fun K hK => ?_); refine goes_ Try.func69 (by kernel_rfl) rfl #[.agg #[.int .i64 aB, .slice aL aC.length aK], .int .i64 a2] (by rfl) rfl rfl aR_ ?_
      with_reducible refine (window_Mean.calls kj3 aB _ _ aC a2 aE _ ?side1 ?side2 A17.out).mono ?_
      (case side1 => exact cX_ (Kd.qi_ aM.out HB.out)); (case side2 => exact aN.out); rintro e w25 ⟨rfl, hb⟩; refine ⟨_, rfl, ?_⟩; replace aA := kB_ aA hb; replace HB := sB_ HB hb; (try clear hb); refine hK.out _ _ (c2_ aA) (fun hHeld => ?_); clear hK K; refine norm_ (a' := ?_) ?_ ?_; rotate_left
      ·show Act.put _ (some 36) _ = _
       simp only [Act.put, sa_, sb_, sc_, i64_w, i32_w]; rfl
      refine oN_ 7 37 13 255 HT_ (fun K hK => ?_); refine goes_ Try.func68 (by kernel_rfl) rfl #[.int .i64 (wrap64 (a1 - aB)), .int .i64 434, .int .i64 aE] (by rfl) rfl rfl aR_ ?_
      with_reducible refine (ratio_MulDiv.calls kj3 (wrap64 (a1 - aB)) 434 aE bA aG _ A18.out).mono ?_
      rintro e w' ⟨rfl, ⟨nd, rfl⟩⟩; refine ⟨_, rfl, ?_⟩; refine hK.out _ _ (c2_ aA) (fun hHeld => ?_); clear hK K; refine norm_ (a' := ?_) ?_ ?_; rotate_left
      ·show Act.put _ (some 37) _ = _
       simp only [Act.put, sa_, sb_, sc_, i64_w, i32_w]; rfl
      refine up0_ 8 ?_; (iterate 5 refine pN_ ?_); refine dN_ HT_ ?_; (try go_wp2)
      go_ret2
      exact ⟨by exact eW_, by exact hSet_ HB⟩
def phi_Suspect.f (k : Nat) (aC : Int) (aA : List Int) (a1 : Int) (a2 : Int) (a3 : Int) : Option (Bool) := (phi_Level.f k aC aA a1 a2).bind fun aD => (if aD.2 = 0 then (some (decide (aD.1 > a3))) else (some false))
theorem phi_Suspect.mono : ∀ a0 a1 a2 a3 a4 k, LeO (phi_Suspect.f k a0 a1 a2 a3 a4) (phi_Suspect.f (k + 1) a0 a1 a2 a3 a4) := by
 intro a0 a1 a2 a3 a4 k
 unfold phi_Suspect.f
 with_reducible repeat' first | exact phi_Level.mono _ _ _ _ _ | exact LeO.refl _ | exact LeO.none _ | refine LeO.ite ?_ ?_ | refine LeO.bind ?_ (fun _ => ?_)
theorem phi_Suspect.calls (k : Nat) (aC : Int) (aG : Option Addr) (aF : Nat) (aA : List Int) (a1 : Int) (a2 : Int) (a3 : Int) (r : Bool) (w : World) (aH : Kd.C (Kd.int .i64) w aG aA.length aA) (aI : aA.length ≤ aF) (h : phi_Suspect.f k aC aA a1 a2 a3 = some r) :
  Calls Try.prog 26 #[.agg #[.int .i64 aC, .slice aG aA.length aF], .int .i64 a1, .int .i64 a2, .int .i64 a3] w fun e w' => e = .returned (.bool r) ∧ Below w.heap.size w w' := by
 have hu34 := Try.underlying34; have aJ := Zq_.mk aH; have aK := Zq_.mk aI; clear aH aI; have HB := Zq_.mk (Below.refl w.heap.size w); have H : ((phi_Level.f k aC aA a1 a2).bind fun aD => (if aD.2 = 0 then (some (decide (aD.1 > a3))) else (some false))) = some r := h; clear h; replace H := ob_ H; obtain ⟨⟨aL, aE⟩, A50, H⟩ := H; (try dsimp only at H); have A5 := Zq_.mk A50; clear A50
 by_cases c6 : aE = 0
 ·rw [if_pos c6] at H; have c6b0 : (aE == 0) = true := beq_iff_eq.mpr c6; have c6b1 : (aE != 0) = false := bne_eq_false_iff_eq.mpr c6; clear c6; obtain rfl := Option.some.inj H
  go_enter Try.func26, Try.ntmps26
  go_wp2_with (first | ((with_reducible refine qc_ (N := 4) rfl ?_); refine bE_ 4 #[.int .i64 aC, .slice aG aA.length aF] 34 ?_; intro aM hg w7 hbox hb; have aB := Zq_.mk (hbox); have aN := gW_ (w := w) hg (hB_ HB); have aO := gW_ (w := w) hg (hB_ HB); replace HB := sB_ HB hb; clear hb hbox hg; obtain ⟨hcz8_0, hcz8_1⟩ := c2_ aB; obtain ⟨hfz8_0, hfz8_1⟩ := f2_ aB) | ((with_reducible refine qg_ (f := 54) rfl ?_); refine goesL_ (some 15) rfl rfl Try.func54 (by kernel_rfl) rfl #[.agg #[.int .i64 aC, .slice aG aA.length aF], .int .i64 a1, .int .i64 a2] rfl aR_ ?_; (with_reducible refine (phi_Level.calls k aC _ _ aA a1 a2 aL aE _ ?side1 ?side2 A5.out).mono ?_); (case side1 => exact cX_ (Kd.qi_ aJ.out HB.out)); (case side2 => exact aK.out); rintro e w9 ⟨rfl, hb⟩; refine ⟨_, rfl, ?_⟩; replace aB := kB_ aB hb; replace HB := sB_ HB hb; (try clear hb)))
  go_ret
  exact ⟨by exact eW_, by exact hSet_ HB⟩
 ·rw [if_neg c6] at H; have c6b0 : (aE == 0) = false := beq_eq_false_iff_ne.mpr c6; have c6b1 : (aE != 0) = true := bne_iff_ne.mpr c6; obtain rfl := Option.some.inj H
  go_enter Try.func26, Try.ntmps26
  go_wp2_with (first | ((with_reducible refine qc_ (N := 4) rfl ?_); refine bE_ 4 #[.int .i64 aC, .slice aG aA.length aF] 34 ?_; intro aM hg w10 hbox hb; have aB := Zq_.mk (hbox); have aN := gW_ (w := w) hg (hB_ HB); have aO := gW_ (w := w) hg (hB_ HB); replace HB := sB_ HB hb; clear hb hbox hg; obtain ⟨hcz11_0, hcz11_1⟩ := c2_ aB; obtain ⟨hfz11_0, hfz11_1⟩ := f2_ aB) | ((with_reducible refine qg_ (f := 54) rfl ?_); refine goesL_ (some 15) rfl rfl Try.func54 (by kernel_rfl) rfl #[.agg #[.int .i64 aC, .slice aG aA.length aF], .int .i64 a1, .int .i64 a2] rfl aR_ ?_; (with_reducible refine (phi_Level.calls k aC _ _ aA a1 a2 aL aE _ ?side1 ?side2 A5.out).mono ?_); (case side1 => exact cX_ (Kd.qi_ aJ.out HB.out)); (case side2 => exact aK.out); rintro e w12 ⟨rfl, hb⟩; refine ⟨_, rfl, ?_⟩; replace aB := kB_ aB hb; replace HB := sB_ HB hb; (try clear hb)))
  go_ret
  exact ⟨by exact eW_, by exact hSet_ HB⟩
def watch_Judge.fallen (x : S36) (now : Int) : S36 := ⟨x.f0, x.f1, x.f2, x.f3, false, now⟩
def watch_Judge.falls (k : Nat) (x : S36) (now boot th : Int) : Option Bool := if x.f4 = true then phi_Suspect.f k x.f3.f0 x.f3.f1 now boot th else some false
def watch_Judge.go (k : Nat) (now boot th : Int) : List S36 → List S36 → List Int → Option (List S36 × List Int)
 | [], done, ns => some (done, ns)
 | x :: xs, done, ns => (watch_Judge.falls k x now boot th).bind fun b => if b = true then (if ns.length < 17592186044416 then watch_Judge.go k now boot th xs (done ++ [watch_Judge.fallen x now]) (ns ++ [x.f0]) else none) else watch_Judge.go k now boot th xs (done ++ [x]) ns
def watch_Judge.f (k : Nat) (l0 : List S36) (a1 a2 a3 : Int) : Option (List S36 × List Int) := (watch_own.f l0).bind fun l => watch_Judge.go k a1 a2 a3 l [] []
theorem watch_Judge.falls_mono (x : S36) (now boot th : Int) (k : Nat) : LeO (watch_Judge.falls k x now boot th) (watch_Judge.falls (k + 1) x now boot th) := by
 unfold watch_Judge.falls
 exact LeO.ite (phi_Suspect.mono _ _ _ _ _ _) (LeO.refl _)
theorem watch_Judge.go_mono (now boot th : Int) (k : Nat) : ∀ (xs done : List S36) (ns : List Int), LeO (watch_Judge.go k now boot th xs done ns) (watch_Judge.go (k + 1) now boot th xs done ns)
 | [], _, _ => LeO.refl _
 | x :: xs, done, ns => by
  unfold watch_Judge.go
  exact LeO.bind (watch_Judge.falls_mono _ _ _ _ _) (fun _ => LeO.ite (LeO.ite (watch_Judge.go_mono now boot th k xs _ _) (LeO.refl _)) (watch_Judge.go_mono now boot th k xs _ _))
theorem watch_Judge.mono : ∀ a0 a1 a2 a3 k, LeO (watch_Judge.f k a0 a1 a2 a3) (watch_Judge.f (k + 1) a0 a1 a2 a3) := by
 intro a0 a1 a2 a3 k
 unfold watch_Judge.f
 exact LeO.bind (LeO.refl _) (fun _ => watch_Judge.go_mono _ _ _ _ _ _ _)
open Go.Proofs.YtoghjpoblbdnpaaW.Hw in
/-- fall, at an element of a row. -/
theorem watch_Judge.fall_at (g o : Nat) (b : Bool) (s now : Int) (w : World) (h5 : w.cell? ⟨g, o + 5, none⟩ = some (.bool b)) (h6 : w.cell? ⟨g, o + 6, none⟩ = some (.int .i64 s)) (f5 : w.frozen? ⟨g, o + 5, none⟩ = false) (f6 : w.frozen? ⟨g, o + 6, none⟩ = false) :
  Calls Try.prog 27 #[.pointer (some ⟨g, o, none⟩), .int .i64 now] w fun e w' => (∃ u, e = .returned u) ∧ w' = (w.setCell ⟨g, o + 5, none⟩ (.bool false)).setCell ⟨g, o + 6, none⟩ (.int .i64 now) := by
 go_enter Try.func27, Try.ntmps27
 go_wp2
 go_end0
 exact ⟨⟨_, rfl⟩, rfl⟩
open Go.Proofs.YtoghjpoblbdnpaaW.Hw in
theorem watch_Judge.calls (k : Nat) (P0_ : Nat → Prop) (A0 : Option Addr) (c0 : Nat) (l0 : List S36) (a1 : Int) (a2 : Int) (a3 : Int) (r1 : List S36) (r2 : List Int) (w : World) (hs0 : Kd.V k36 36 w w.heap.size (fun k_ => P0_ k_) (.slice A0 l0.length c0) l0) (h : watch_Judge.f k l0 a1 a2 a3 = some (r1, r2)) :
  Calls Try.prog 10 #[.slice A0 l0.length c0, .int .i64 a1, .int .i64 a2, .int .i64 a3] w fun e w' => ∃ v0_ v1_ : Value, e = .returned (.tuple #[v0_, v1_]) ∧ Kd.N k36 36 w' w.heap.size (fun k_ => (P0_ k_ ∨ w.heap.size ≤ k_) ∧ some k_ ≠ (v1_ : Value).ownBlock) v0_ r1 ∧ Kd.R (Kd.int .i64) 3 w' w.heap.size (fun _ => True) v1_ r2 ∧ Below w.heap.size w w' := by
 unfold watch_Judge.f at h
 obtain ⟨l, h1, h2⟩ := Option.bind_eq_some_iff.1 h; clear h; have A1 := Zq_.mk h1; have HL := Zq_.mk h2; have HV := Zq_.mk hs0
 have HLM := Zq_.mk (show l.length < 1954687338268 from by
  unfold watch_own.f at h1
  by_cases hl : l0.length < 1954687338268
  ·rw [if_pos hl] at h1
   by_cases ha : l0.all (fun x => decide (x.f3.f1.length < 17592186044416)) = true
   ·rw [if_pos ha] at h1; obtain rfl := Option.some.inj h1; exact hl
   ·rw [if_neg ha] at h1; cases h1
  ·rw [if_neg hl] at h1; cases h1)
 clear h1 h2 hs0
 go_enter Try.func10, Try.ntmps10
 go_wp2_with (go_at_call 25; refine (watch_own.calls P0_ A0 c0 l0 l _ HV.out A1.out).mono ?_; rintro e w5 ⟨v5, rfl, hn, hb⟩; have HN := Zq_.mk hn; have HB := Zq_.mk hb; obtain ⟨A5, c5, rfl⟩ := Kd.vp_ hn; clear hn hb)
 go_loopg [10, 17] (l.length + 1) (fun kq v10 v17 w' => ∃ (i : Nat) (done : List S36) (ns : List Int), v17 = .int .i64 (i : Int) ∧ Zq_ (i ≤ l.length ∧ done.length = i ∧ kq + i = l.length + 1) ∧ Zq_ (watch_Judge.go k a1 a2 a3 (l.drop i) done ns = some (r1, r2)) ∧ Zq_ (Kd.N k36 36 w' w.heap.size (fun k_ => (P0_ k_ ∨ w.heap.size ≤ k_) ∧ some k_ ≠ (v10 : Value).ownBlock) (.slice A5 l.length c5) (done ++ l.drop i)) ∧ Zq_ (Kd.R (Kd.int .i64) 3 w' w.heap.size (fun _ => True) v10 ns) ∧ Zq_ (Below w.heap.size w w'))
 case atStart => exact ⟨0, [], [], rfl, ⟨by omega, rfl, by omega⟩, HL, ⟨Kd.N_mono HN.out (fun k_ hk => ⟨hk, by simp [Value.ownBlock]⟩)⟩, ⟨Kd.R_nil _ _ _ _ _⟩, HB⟩
 case round =>
  clear HN HB HL; obtain ⟨i, done, ns, rfl, HI, HL, HN, HO, HB⟩ := hrel
  by_cases hi : i < l.length
  ·have hlen : (done ++ l.drop i).length = l.length := by have := HI.out; simp only [List.length_append, List.length_drop]; omega
   obtain ⟨g, cap, e5, hg0, hg1, hgc⟩ := Kd.N_form HN.out (by omega)
   injection e5 with e6 e8 e7
   clear e8; subst e6; subst e7; obtain ⟨x, hx⟩ : ∃ x_, x_ = l.getD i z36 := ⟨_, rfl⟩
   have hdr : l.drop i = x :: l.drop (i + 1) := by rw [hx, List.drop_eq_getElem_cons hi]; simp [List.getD_eq_getElem?_getD, List.getElem?_eq_getElem hi]
   have hgd : (done ++ l.drop i).getD ((i : Int)).toNat z36 = x := by rw [hdr, Int.toNat_natCast, ← HI.out.2.1]; simp [List.getD_eq_getElem?_getD]
   have h := HL.out; rw [hdr, watch_Judge.go] at h; obtain ⟨b, hfa, hgo⟩ := Option.bind_eq_some_iff.1 h; clear h; obtain ⟨Av, cv, rfl⟩ := Kd.ve_ HO.out; have HDR := Zq_.mk hdr; have HGD := Zq_.mk hgd; have HFA := Zq_.mk hfa; have HGO := Zq_.mk hgo; have HII := Zq_.mk hi; have HLE := Zq_.mk hlen; have HG := Zq_.mk (And.intro hg0 hg1); have HWR := Zq_.mk (show wrap64 ((i : Int) + 1) = ((i + 1 : Nat) : Int) by have := HLM.out; unfold wrap64; omega); obtain ⟨c, hcl, hF, hcc, hfr⟩ := Kd.N_elem HN.out z36 (i : Int) (by omega) (by omega); rw [hgd] at hF; obtain ⟨A4, c4, rfl, l4, g4⟩ := k36_openF hF; have L4 := Zq_.mk l4; have HF1 := Zq_.mk g4
   have hx0 : wr.cell? ⟨g, i * 7, none⟩ = some (.int .i64 x.f0) := by have := hcc 0 _ rfl; simpa only [show (k36).sz = 7 from rfl, Int.toNat_natCast, Nat.add_zero] using this
   have hx1 : wr.cell? ⟨g, i * 7 + 1, none⟩ = some (.int .i64 x.f1) := by have := hcc 1 _ rfl; simpa only [show (k36).sz = 7 from rfl, Int.toNat_natCast] using this
   have hx2 : wr.cell? ⟨g, i * 7 + 2, none⟩ = some (.int .i64 x.f2) := by have := hcc 2 _ rfl; simpa only [show (k36).sz = 7 from rfl, Int.toNat_natCast] using this
   have hx3 : wr.cell? ⟨g, i * 7 + 3, none⟩ = some (.int .i64 x.f3.f0) := by have := hcc 3 _ rfl; simpa only [show (k36).sz = 7 from rfl, Int.toNat_natCast] using this
   have hx4 : wr.cell? ⟨g, i * 7 + 4, none⟩ = some (.slice A4 x.f3.f1.length c4) := by have := hcc 4 _ rfl; simpa only [show (k36).sz = 7 from rfl, Int.toNat_natCast] using this
   have hx5 : wr.cell? ⟨g, i * 7 + 5, none⟩ = some (.bool x.f4) := by have := hcc 5 _ rfl; simpa only [show (k36).sz = 7 from rfl, Int.toNat_natCast] using this
   have hx6 : wr.cell? ⟨g, i * 7 + 6, none⟩ = some (.int .i64 x.f5) := by have := hcc 6 _ rfl; simpa only [show (k36).sz = 7 from rfl, Int.toNat_natCast] using this
   have j1 : decide ((i : Int) < (l.length : Int)) = true := decide_eq_true (by omega); have j2 : ((i : Int) < (l.length : Int)) = True := eq_true (by omega); have j3 : (i < l.length) = True := eq_true hi; have j4 : decide (i < l.length) = true := decide_eq_true hi; clear hx hdr hgd hfa hgo hi hlen hg0 hg1 hgc hcl hF hcc hfr l4 g4 HL
   go_upto_region 6 with (first | ((with_reducible refine qc_ (N := 12) rfl ?_); refine bE_ 12 #[.int .i64 0, .int .i64 0, .int .i64 0, .int .i64 0, .slice none 0 0, .bool false, .int .i64 0] 36 ?_; intro gx hg_ w1 hbox_ hb_; have GX := Zq_.mk (Nat.le_of_eq hg_.symm); have BX := Zq_.mk hb_; have BK := Zq_.mk hbox_; clear hb_ hbox_ hg_; have hz0 : w1.cell? ⟨gx, 0, none⟩ = some (.int .i64 0) := (qa_ BK.out 0).trans rfl; have hy0 := qf_ BK.out 0; have hz1 : w1.cell? ⟨gx, 1, none⟩ = some (.int .i64 0) := (qa_ BK.out 1).trans rfl; have hy1 := qf_ BK.out 1; have hz2 : w1.cell? ⟨gx, 2, none⟩ = some (.int .i64 0) := (qa_ BK.out 2).trans rfl; have hy2 := qf_ BK.out 2; have hz3 : w1.cell? ⟨gx, 3, none⟩ = some (.int .i64 0) := (qa_ BK.out 3).trans rfl; have hy3 := qf_ BK.out 3; have hz4 : w1.cell? ⟨gx, 4, none⟩ = some (.slice none 0 0) := (qa_ BK.out 4).trans rfl; have hy4 := qf_ BK.out 4; have hz5 : w1.cell? ⟨gx, 5, none⟩ = some (.bool false) := (qa_ BK.out 5).trans rfl; have hy5 := qf_ BK.out 5; have hz6 : w1.cell? ⟨gx, 6, none⟩ = some (.int .i64 0) := (qa_ BK.out 6).trans rfl; have hy6 := qf_ BK.out 6))
   have HX := Zq_.mk (qj_ (qj_ (qj_ (qj_ (qj_ (qj_ (qj_ BX.out GX.out (j := 0) (v := .int .i64 x.f0)) GX.out (j := 1) (v := .int .i64 x.f1)) GX.out (j := 2) (v := .int .i64 x.f2)) GX.out (j := 3) (v := .int .i64 x.f3.f0)) GX.out (j := 4) (v := .slice A4 x.f3.f1.length c4)) GX.out (j := 5) (v := .bool x.f4)) GX.out (j := 6) (v := .int .i64 x.f5)); have BK1 := Zq_.mk (show _ = some (Obj.cells #[.int .i64 x.f0, .int .i64 x.f1, .int .i64 x.f2, .int .i64 x.f3.f0, .slice A4 x.f3.f1.length c4, .bool x.f4, .int .i64 x.f5] 36 (0, 0)) from (qv_ (qv_ (qv_ (qv_ (qv_ (qv_ (qv_ BK.out 0 (.int .i64 x.f0)) 1 (.int .i64 x.f1)) 2 (.int .i64 x.f2)) 3 (.int .i64 x.f3.f0)) 4 (.slice A4 x.f3.f1.length c4)) 5 (.bool x.f4)) 6 (.int .i64 x.f5))); generalize hw2 : (((((((w1.setCell ⟨gx, 0, none⟩ (.int .i64 x.f0)).setCell ⟨gx, 1, none⟩ (.int .i64 x.f1)).setCell ⟨gx, 2, none⟩ (.int .i64 x.f2)).setCell ⟨gx, 3, none⟩ (.int .i64 x.f3.f0)).setCell ⟨gx, 4, none⟩ (.slice A4 x.f3.f1.length c4)).setCell ⟨gx, 5, none⟩ (.bool x.f4)).setCell ⟨gx, 6, none⟩ (.int .i64 x.f5)) = w2 at HX BK1 ⊢; have NG := Zq_.mk (Nat.ne_of_gt (Nat.lt_of_lt_of_le HG.out.2 GX.out)); clear hw2 BK BX GX hx0 hx1 hx2 hx3 hx4 hx5 hx6; have BK := BK1; clear BK1; have HN1 := Zq_.mk (Kd.va_ HN.out HX.out); have HO1 := Zq_.mk (Kd.vh_ HO.out HX.out); have HF2 := Zq_.mk (Kd.F_below HF1.out HX.out); have HBB := Zq_.mk (qe_ HB.out HX.out); clear HN HO HF1 HB; have hz0 : w2.cell? ⟨gx, 0, none⟩ = some (.int .i64 x.f0) := (qa_ BK.out 0).trans rfl; have hz1 : w2.cell? ⟨gx, 1, none⟩ = some (.int .i64 x.f1) := (qa_ BK.out 1).trans rfl; have hz2 : w2.cell? ⟨gx, 2, none⟩ = some (.int .i64 x.f2) := (qa_ BK.out 2).trans rfl; have hz3 : w2.cell? ⟨gx, 3, none⟩ = some (.int .i64 x.f3.f0) := (qa_ BK.out 3).trans rfl; have hz4 : w2.cell? ⟨gx, 4, none⟩ = some (.slice A4 x.f3.f1.length c4) := (qa_ BK.out 4).trans rfl; have hz5 : w2.cell? ⟨gx, 5, none⟩ = some (.bool x.f4) := (qa_ BK.out 5).trans rfl; have hz6 : w2.cell? ⟨gx, 6, none⟩ = some (.int .i64 x.f5) := (qa_ BK.out 6).trans rfl
   cases hal : x.f4 with
   | false =>
    have h := HFA.out
    unfold watch_Judge.falls at h
    rw [hal, if_neg (by decide)] at h; obtain rfl := Option.some.inj h; have h2 := HGO.out; rw [if_neg (by decide)] at h2; have HN2 := Zq_.mk h2; clear h h2
    go_wp2
    go_roundg (l.length - i)
    case measure => have := HI.out.2.2; have := HII.out; omega
    case rel => exact ⟨i + 1, done ++ [x], ns, by first | rfl | exact congrArg (Value.int .i64) HWR.out, ⟨by have := HII.out; omega, by have := HI.out.2.1; simp only [List.length_append, List.length_cons, List.length_nil]; omega, by have := HI.out.2.2; have := HII.out; omega⟩, ⟨HN2.out⟩, ⟨by have h := HN1.out; rw [HDR.out] at h; rw [List.append_assoc]; exact h⟩, ⟨HO1.out⟩, ⟨HBB.out⟩⟩
   | true =>
    have h := HFA.out
    unfold watch_Judge.falls at h
    rw [hal, if_pos rfl] at h; have HSU := Zq_.mk h; clear h
    cases b with
    | false =>
     have h2 := HGO.out; rw [if_neg (by decide)] at h2; have HN2 := Zq_.mk h2; clear h2
     go_wp2_with (go_at_call 26; refine (phi_Suspect.calls k x.f3.f0 A4 c4 x.f3.f1 a1 a2 a3 false _ (Kd.F_now HF2.out) L4.out HSU.out).mono ?_; rintro e w3 ⟨rfl, hb3⟩; have HB3 := Zq_.mk hb3; clear hb3)
     go_roundg (l.length - i)
     case measure => have := HI.out.2.2; have := HII.out; omega
     case rel => exact ⟨i + 1, done ++ [x], ns, by first | rfl | exact congrArg (Value.int .i64) HWR.out, ⟨by have := HII.out; omega, by have := HI.out.2.1; simp only [List.length_append, List.length_cons, List.length_nil]; omega, by have := HI.out.2.2; have := HII.out; omega⟩, ⟨HN2.out⟩, ⟨by have h := Kd.va_ HN1.out HB3.out; rw [HDR.out] at h; rw [List.append_assoc]; exact h⟩, ⟨Kd.vh_ HO1.out HB3.out⟩, ⟨qe_ HBB.out HB3.out⟩⟩
    | true =>
     have h2 := HGO.out; rw [if_pos rfl] at h2
     by_cases hnl : ns.length < 17592186044416
     case neg => rw [if_neg hnl] at h2; cases h2
     rw [if_pos hnl] at h2; have HN2 := Zq_.mk h2; have HNL := Zq_.mk hnl; clear h2 hnl
     go_upto_region 7 with (go_at_call 26; refine (phi_Suspect.calls k x.f3.f0 A4 c4 x.f3.f1 a1 a2 a3 true _ (Kd.F_now HF2.out) L4.out HSU.out).mono ?_; rintro e w3 ⟨rfl, hb3⟩; have HB3 := Zq_.mk hb3; clear hb3)
     have HN3 := Zq_.mk (Kd.va_ HN1.out HB3.out); have HO3 := Zq_.mk (Kd.vh_ HO1.out HB3.out); have HB3w := Zq_.mk (qe_ HBB.out HB3.out); have BK3 := Zq_.mk (blk_bel BK.out HB3.out); obtain ⟨c, hcl, hF, hcc, hfr⟩ := Kd.N_elem HN3.out z36 (i : Int) (by omega) (by have := HII.out; omega); rw [HGD.out] at hF; obtain ⟨A9, c9, rfl, l9, g9⟩ := k36_openF hF
     have hx5 : w3.cell? ⟨g, i * 7 + 5, none⟩ = some (.bool x.f4) := by have := hcc 5 _ rfl; simpa only [show (k36).sz = 7 from rfl, Int.toNat_natCast] using this
     have hx6 : w3.cell? ⟨g, i * 7 + 6, none⟩ = some (.int .i64 x.f5) := by have := hcc 6 _ rfl; simpa only [show (k36).sz = 7 from rfl, Int.toNat_natCast] using this
     have HFALL := Zq_.mk (watch_Judge.fall_at g (i * 7) x.f4 x.f5 a1 w3 hx5 hx6 (by have := hfr 5; simpa only [show (k36).sz = 7 from rfl, Int.toNat_natCast] using this) (by have := hfr 6; simpa only [show (k36).sz = 7 from rfl, Int.toNat_natCast] using this))
     have hseg := Kd.N_seg HN3.out (i : Int) (by omega) (by have := HII.out; omega) (seg := [.bool false, .int .i64 a1]) (j := 5) hcl hcc (show (5 + 2 : Nat) ≤ 7 by decide) (x' := watch_Judge.fallen x a1) (okp := fun k_ => ((P0_ k_ ∨ w.heap.size ≤ k_) ∧ some k_ ≠ (Value.slice Av ns.length cv).ownBlock) ∧ k_ ≠ g)
      (show Kd.FK k36 w3 _ (watch_Judge.fallen x a1) _ from k36_mkF w3 _ (watch_Judge.fallen x a1) l9 g9) (fun k_ hk => hk)
     have HN4 := Zq_.mk hseg.1; have HO4 := Zq_.mk (Kd.R_over' (v := .slice (some ⟨g, 0, none⟩) l.length c5) HO3.out (Kd.N_typed HN3.out) (by decide) hseg.2); clear hseg hcl hF hcc hfr l9 g9 hx5 hx6
     go_upto_region 8 with (go_at_call 27; refine HFALL.out.mono ?_; rintro e w4 ⟨⟨u4, rfl⟩, hw4⟩; have HW4 := Zq_.mk hw4; clear hw4)
     have HN5 := Zq_.mk (show Kd.N k36 36 w4 _ _ _ _ from by rw [HW4.out]; exact HN4.out); have HO5 := Zq_.mk (show Kd.R (Kd.int .i64) 3 w4 _ _ _ _ from by rw [HW4.out]; exact HO4.out); have HB4 := Zq_.mk (show Below w.heap.size w w4 from by rw [HW4.out]; exact qj_ (qj_ HB3w.out HG.out.1) HG.out.1); have BK4 := Zq_.mk (show w4.heap[gx]? = some (Obj.cells #[.int .i64 x.f0, .int .i64 x.f1, .int .i64 x.f2, .int .i64 x.f3.f0, .slice A4 x.f3.f1.length c4, .bool x.f4, .int .i64 x.f5] 36 (0, 0)) from by rw [HW4.out]; exact blk_far (p := ⟨g, i * 7 + 6, none⟩) (blk_far (p := ⟨g, i * 7 + 5, none⟩) BK3.out NG.out _) NG.out _); have hq0 : w4.cell? ⟨gx, 0, none⟩ = some (.int .i64 x.f0) := (qa_ BK4.out 0).trans rfl; clear HN4 HO4 HFALL HW4 HN3 HO3 HN1 HO1
     go_wp2_with ((with_reducible refine vq_ (b := .append) (xs := #[.tmp 37, .tmp 40]) rfl ?_); at_builtin; refine Kd.R_append (Kd.int .i64) (w0 := w) w.heap.size rfl (.tmp 37) (.tmp 40) 27 3 (.int .i64 0) 8 rfl Try.underlying27 info3 rfl (by decide) (by omega) (.slice Av ns.length cv) ns x.f0 [.int .i64 x.f0] (fun _ => True) (fun _ => False) rfl rfl ?aP (fun _ hk => hk.elim) ?aF ?aO ?aB ?aS ?aL ?_; (case aP => exact rfl); (case aB => exact (by repeat (first | (with_reducible first | exact HB4.out | apply vo_ | apply vk_ | apply qu_) | exact HB4.out))); (case aF => exact (fun _ _ => trivial)); (case aO => exact (vX_ HO5)); (case aS => exact (qb_ (by repeat (first | (with_reducible first | exact HB4.out | apply vo_ | apply vk_ | apply qu_) | exact HB4.out)))); (case aL => have := HNL.out; omega); intro v7 w7 ho hb hg hat; have HO7 := Zq_.mk ho; have HB7 := Zq_.mk hb; have HN7 := Zq_.mk (Kd.N_after (ok := fun k_ => (P0_ k_ ∨ w.heap.size ≤ k_)) (vX_ HN5) hg hat); clear ho hb hg hat)
     go_roundg (l.length - i)
     case measure => have := HI.out.2.2; have := HII.out; omega
     case rel => exact ⟨i + 1, done ++ [watch_Judge.fallen x a1], ns ++ [x.f0], by first | rfl | exact congrArg (Value.int .i64) HWR.out, ⟨by have := HII.out; omega, by have := HI.out.2.1; simp only [List.length_append, List.length_cons, List.length_nil]; omega, by have := HI.out.2.2; have := HII.out; omega⟩, ⟨HN2.out⟩, ⟨by have h := HN7.out; rw [HDR.out, Int.toNat_natCast, ← HI.out.2.1, List.set_append_right _ _ (Nat.le_refl _), Nat.sub_self, List.set_cons_zero] at h; rw [List.append_assoc, ← HI.out.2.1]; exact h⟩, ⟨HO7.out⟩, ⟨HB7.out⟩⟩
  ·have hi2 : i = l.length := by have := HI.out.1; omega
   subst hi2; have h := HL.out; rw [List.drop_length, watch_Judge.go] at h; have e := Option.some.inj h; have hN := HN.out; rw [List.drop_length, List.append_nil] at hN; obtain ⟨rfl, rfl⟩ : done = r1 ∧ ns = r2 := ⟨congrArg Prod.fst e, congrArg Prod.snd e⟩; have HNE := Zq_.mk hN; clear h e hN hi
   go_wp2
   go_ret2
   exact ⟨_, _, rfl, HNE.out, HO.out, HB.out⟩
end Go.Proofs.Ytoghjpoblbdnpaa.P

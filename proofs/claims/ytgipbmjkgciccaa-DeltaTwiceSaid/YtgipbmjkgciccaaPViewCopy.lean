/- What this function of the program comes to, and that the machine's call does it. No condition. -/
import Derived.Test.YtgipbmjkgciccaaPRef06Nodes
namespace Go.Proofs.Ytgipbmjkgciccaa.P
set_option maxHeartbeats 8000000
set_option maxRecDepth 100000
open Go.RowKit Go.Proofs.YtgipbmjkgciccaaW.PrintWords Go.Proofs.YtgipbmjkgciccaaW.PrintLast Go.Proofs.YtgipbmjkgciccaaW.PrintMore
attribute [local go_sem] qz_ qx_ vf_ ve_ qr_ qq_ qy_ qw_ Go.Proofs.YtgipbmjkgciccaaW.Hw.string_gtr
set_option linter.unusedVariables false
set_option linter.unusedSimpArgs false
def view_Copy.l0 : Nat → List (S39) → List (S39) → Int → Int → Option ((List (S39)))
 | 0, _, _, _, _ => none
 | k + 1, x3, x9, x10, x11 => if x11 < x10 then (if 0 ≤ x11 then (if x11 < (x9.length : Int) then ((view_own.f ((rd_T39 x9 x11).f0) ((rd_T39 x9 x11).f1.f0) ((rd_T39 x9 x11).f1.f1) ((rd_T39 x9 x11).f1.f2)).bind fun aU => (if x11 < (x3.length : Int) then (view_Copy.l0 k (x3.set (x11 : Int).toNat (⟨aU.1, (⟨aU.2.1, aU.2.2.1, aU.2.2.2⟩ : S35)⟩ : S39)) x9 x10 (wrap64 (x11 + 1))) else (none))) else (none)) else (none)) else (some x3)
def view_Copy.f (k : Nat) (l0 : List (S39)) : Option ((List (S39))) := if 0 ≤ (l0.length : Int) then (if ((l0.length : Int) : Int).toNat ≤ 5864062014805 then (view_Copy.l0 k (List.replicate ((l0.length : Int) : Int).toNat z39) l0 (l0.length : Int) 0) else (none)) else (none)
theorem view_Copy.mono_l : ∀ k, (∀ y0 y1 y2 y3, LeO (view_Copy.l0 k y0 y1 y2 y3) (view_Copy.l0 (k + 1) y0 y1 y2 y3))
 | 0 => fun _ _ _ _ r h => by simp [view_Copy.l0] at h
 | k + 1 => by
  have ih0 := view_Copy.mono_l k
  ·intro y0 y1 y2 y3
   unfold view_Copy.l0
   repeat' first
   | (with_reducible exact ih0 _ _ _ _)
   | (with_reducible exact LeO.refl _)
   | (with_reducible exact LeO.none _)
   | (with_reducible refine LeO.ite ?_ ?_)
   | (with_reducible refine LeO.bind ?_ (fun _ => ?_))
   | exact ih0 _ _ _ _
   | exact LeO.none _
   | refine LeO.ite ?_ ?_
   | refine LeO.bind ?_ (fun _ => ?_)
theorem view_Copy.mono : ∀ a0 k, LeO (view_Copy.f k a0) (view_Copy.f (k + 1) a0) := by
 intro a0 k; have ih0 := view_Copy.mono_l k
 unfold view_Copy.f
 repeat' first
   | (with_reducible exact ih0 _ _ _ _)
   | (with_reducible exact LeO.refl _)
   | (with_reducible exact LeO.none _)
   | (with_reducible refine LeO.ite ?_ ?_)
   | (with_reducible refine LeO.bind ?_ (fun _ => ?_))
   | exact ih0 _ _ _ _
   | exact LeO.none _
   | refine LeO.ite ?_ ?_
   | refine LeO.bind ?_ (fun _ => ?_)
theorem view_Copy.calls (k : Nat) (A0 : Option Addr) (c0 : Nat) (l0 : List (S39)) (r : List (S39)) (w : World) (hr0 : Kd.C k39 w A0 l0.length l0) (hc0 : l0.length ≤ c0) (h : view_Copy.f k l0 = some r) :
  Calls Try.prog 47 #[.slice A0 l0.length c0] w fun e w' => ∃ v0_ : Value, e = .returned (v0_) ∧ Kd.S k39 39 w' w.heap.size (fun _ => True) v0_ r ∧ Below w.heap.size w w' := by
 have hu39 := Try.underlying39; have hu35 := Try.underlying35; have HR0 := Zq_.mk hr0; have HC0 := Zq_.mk hc0; clear hr0 hc0; have HB := Zq_.mk (Below.refl w.heap.size w); have H : (if 0 ≤ (l0.length : Int) then (if ((l0.length : Int) : Int).toNat ≤ 5864062014805 then (view_Copy.l0 k (List.replicate ((l0.length : Int) : Int).toNat z39) l0 (l0.length : Int) 0) else (none)) else (none)) = some r := h; clear h
 by_cases c2 : 0 ≤ (l0.length : Int)
 ·rw [if_pos c2] at H; have c2b0 := eq_true c2; have c2b1 : decide (0 ≤ (l0.length : Int)) = true := decide_eq_true c2; clear c2
  by_cases c3 : ((l0.length : Int) : Int).toNat ≤ 5864062014805
  ·rw [if_pos c3] at H; have c3b0 := eq_true c3; have c3b1 : decide (((l0.length : Int) : Int).toNat ≤ 5864062014805) = true := decide_eq_true c3; clear c3; obtain ⟨bH, aG⟩ : ∃ y_ : List (S39), y_ = (List.replicate ((l0.length : Int) : Int).toNat z39) := ⟨_, rfl⟩
   replace H : (view_Copy.l0 k bH l0 (l0.length : Int) 0) = some r := by first | (rw [aG]; with_reducible exact H) | (have H2_ := (Option.bind_some _ _).symm.trans H; rw [aG]; with_reducible exact H2_) | (have H2_ := (Option.bind_some _ _).symm.trans H; with_reducible exact H2_) | with_reducible exact H | (rw [aG]; exact H) | exact H
   have aZ := Zq_.mk aG; clear aG; have H' := Zq_.mk H; clear H
   go_enter Try.func47, Try.ntmps47
   go_wp2_with (first | ((with_reducible refine qe_ (N := 8) rfl ?_); refine Kd.S_make k39 _ 39 rfl (N := 8) rfl 22 _ _ rfl (l0.length : Int) rfl rfl Try.underlying22 (.agg #[(.int .i64 0), (.int .i64 0), (.int .i64 0), (.slice none 0 0)]) 48 info39 rfl (by decide) (by omega) z39 (ok := fun _ => True) (okp := fun _ => True) (k39_mkM _ _ _ z39 (Kd.R_nil _ _ _ _ _)) (fun _ hk => hk) trivial (dA_) (Nat.le_trans (Nat.mul_le_mul_right _ (dA_ : (l0.length : Int).toNat ≤ 5864062014805)) (by omega)) (Below.refl _ _) (Nat.le_refl _) ?_; intro v102 w4 ho5 hb hg_ hnew_; clear hg_ hnew_; (first | rw [← aZ.out] at ho5 | (simp only [Int.reduceToNat] at ho5; rw [← aZ.out] at ho5)); have bM := Zq_.mk (Kd.S_lower ho5 (qb_ (hB_ HB))); replace HB := Zq_.mk (qa_ (hB_ HB) hb); clear hb ho5))
   go_loopg [11] k (fun kq v11 w' => ∃ (aC : List (S39)) (aA : Int), v11 = .int .i64 aA ∧ Zq_ (view_Copy.l0 kq aC l0 (l0.length : Int) aA = some r) ∧ Zq_ (kq ≤ k) ∧ Zq_ (Kd.S k39 39 w' w.heap.size (fun _ => True) v102 aC) ∧ Zq_ (Below w.heap.size w w'))
   case atStart => exact ⟨(bH), (0), eS_, H', ⟨Nat.le_refl _⟩, ⟨by (with_reducible repeat (first | apply Kd.S_alloc | apply Kd.S_drewN | apply Kd.S_drew)); exact bM.out⟩, ⟨hB_ HB⟩⟩
   case round =>
    clear H'
    try clear c2
    try clear c2b0
    try clear c2b1
    try clear p2
    try clear c3
    try clear c3b0
    try clear c3b1
    try clear c4
    obtain ⟨aC, aA, rfl, HA, HK1, aB, HB⟩ := hrel
    cases gk with
    | zero => exact absurd HA.out (by simp [view_Copy.l0])
    | succ k1 =>
     have H := HA.out; clear HA; simp only [view_Copy.l0] at H
     by_cases c6 : aA < (l0.length : Int)
     ·rw [if_pos c6] at H; have c6b0 : decide (aA < (l0.length : Int)) = true := decide_eq_true c6; clear c6
      by_cases c7 : 0 ≤ aA
      ·rw [if_pos c7] at H; have c7b0 : decide (0 ≤ aA) = true := decide_eq_true c7; clear c7
       by_cases c8 : aA < (l0.length : Int)
       ·rw [if_pos c8] at H; have c8b0 : decide (aA < (l0.length : Int)) = true := decide_eq_true c8; clear c8; replace H := ob_ H; obtain ⟨⟨aL, aK, aJ, aW⟩, A90, H⟩ := H; replace H : (if aA < (aC.length : Int) then (view_Copy.l0 k1 (aC.set (aA : Int).toNat (⟨aL, (⟨aK, aJ, aW⟩ : S35)⟩ : S39)) l0 (l0.length : Int) (wrap64 (aA + 1))) else (none)) = some r := H; have A9 := Zq_.mk A90; clear A90
        by_cases c10 : aA < (aC.length : Int)
        ·rw [if_pos c10] at H; have c10b0 : decide (aA < (aC.length : Int)) = true := decide_eq_true c10; clear c10; obtain ⟨bA, aF⟩ : ∃ y_ : List (S39), y_ = (aC.set (aA : Int).toNat (⟨aL, (⟨aK, aJ, aW⟩ : S35)⟩ : S39)) := ⟨_, rfl⟩
         replace H : (view_Copy.l0 k1 bA l0 (l0.length : Int) (wrap64 (aA + 1))) = some r := by first | (rw [aF]; with_reducible exact H) | (have H2_ := (Option.bind_some _ _).symm.trans H; rw [aF]; with_reducible exact H2_) | (have H2_ := (Option.bind_some _ _).symm.trans H; with_reducible exact H2_) | with_reducible exact H | (rw [aF]; exact H) | exact H
         have bL := Zq_.mk aF; clear aF; have H' := Zq_.mk H; clear H; have bC : 0 ≤ (aA : Int) := dA_; have bB : aA < (l0.length : Int) := dA_; obtain ⟨ad104, aN, aM, e104, aR, aQ, aP, aO, aS, aT⟩ := at_T39 HR0.out aA bC bB; cases e104; replace aR := hC_ HB aR; replace aQ := hC_ HB aQ; replace aP := hC_ HB aP; replace aO := hC_ HB aO; have aX := Zq_.mk aT; have aY := Zq_.mk aS; clear aT aS; replace bC := eq_true bC; replace bB := eq_true bB
         go_wp2_with (first | ((with_reducible refine qe_ (N := 5) rfl ?_); refine bE_ 5 #[.int .i64 0, .int .i64 0, .int .i64 0, .slice none 0 0] 39 ?_; intro aD hg w12 hbox hb; replace aB := Zq_.mk (Kd.S_below (Kd.S_elderB (vX_ aB) aD (Nat.le_of_eq hg.symm)) hb); have aE := Zq_.mk (hbox); have GW105 := gW_ (w := w) hg (hB_ HB); have GE105 := gW_ (w := w) hg (hB_ HB); replace HB := Zq_.mk (qa_ (hB_ HB) hb); clear hb hbox hg; obtain ⟨hcz13_0, hcz13_1, hcz13_2, hcz13_3⟩ := c4_ aE; obtain ⟨hfz13_0, hfz13_1, hfz13_2, hfz13_3⟩ := f4_ aE) | ((with_reducible refine qi_ (f := 66) rfl ?_); refine goesL_ (some 22) rfl rfl Try.func66 (by kernel_rfl) rfl #[.int .i64 ((rd_T39 l0 aA).f0), .agg #[.int .i64 ((rd_T39 l0 aA).f1.f0), .int .i64 ((rd_T39 l0 aA).f1.f1), .slice aN ((rd_T39 l0 aA).f1.f2).length aM]] rfl (by (try simp only [List.map_toArray, List.map_cons, List.map_nil]); first | done | rfl | (simp only [List.length_drop, List.length_take]; rfl)) ?_; (with_reducible refine (view_own.calls ((rd_T39 l0 aA).f0) ((rd_T39 l0 aA).f1.f0) ((rd_T39 l0 aA).f1.f1) _ _ ((rd_T39 l0 aA).f1.f2) aL aK aJ aW _ ?side1 ?side2 A9.out).mono ?_); (case side1 => exact Kd.qk_ aX.out (by exact hSet_ HB)); (case side2 => exact aY.out); rintro e w14 ⟨v110, rfl, ho0, hb⟩; refine ⟨_, rfl, ?_⟩; replace aB := Zq_.mk (Kd.S_elder' (by (with_reducible repeat (first | apply Kd.S_alloc | apply Kd.S_drewN | apply Kd.S_drew)); exact (Kd.S_mono (Kd.S_far (Kd.S_far (Kd.S_far (Kd.S_far (Kd.S_mono aB.out (fun k_ hk => (⟨hk, hk.2⟩ : _ ∧ k_ ≠ aD))) (fun _ hk => hk.2) _) (fun _ hk => hk.2) _) (fun _ hk => hk.2) _) (fun _ hk => hk.2) _) (fun _ h_ => h_.1))) (Kd.R_base ho0) hb); have aV := Zq_.mk (Kd.vd_ ho0 (qb_ (by exact hSet_ HB))); replace aE := Zq_.mk (qd_ (g := aD) (o := .cells #[.int .i64 ((rd_T39 l0 aA).f0), .int .i64 ((rd_T39 l0 aA).f1.f0), .int .i64 ((rd_T39 l0 aA).f1.f1), .slice aN ((rd_T39 l0 aA).f1.f2).length aM] 39 (0, 0)) (by refine bP_ (cs := #[.int .i64 ((rd_T39 l0 aA).f0), .int .i64 ((rd_T39 l0 aA).f1.f0), .int .i64 ((rd_T39 l0 aA).f1.f1), .slice none 0 0]) 3 ?_; refine bP_ (cs := #[.int .i64 ((rd_T39 l0 aA).f0), .int .i64 ((rd_T39 l0 aA).f1.f0), .int .i64 0, .slice none 0 0]) 2 ?_; refine bP_ (cs := #[.int .i64 ((rd_T39 l0 aA).f0), .int .i64 0, .int .i64 0, .slice none 0 0]) 1 ?_; refine bP_ (cs := #[.int .i64 0, .int .i64 0, .int .i64 0, .slice none 0 0]) 0 ?_; (with_reducible repeat (first | refine qh_ ?_ _ | refine qf_ ?_ | refine qg_ ?_ _)); exact aE.out) hb); replace HB := Zq_.mk (qa_ (by exact hSet_ HB) hb); (try clear hb); (try clear ho0); have p11 : 0 ≤ (aA : Int) := dA_; have q11 : (aA : Int) < ((aC.length : Int) : Int) := dA_; obtain ⟨go11, bK, bJ, bI, gl11, cl11, HG11⟩ := Kd.S_form aB.out (by omega); (first | cases bJ | (injection bJ with ea_ en_ ec_; (first | subst ea_ | (injection ea_ with ea_; subst ea_)); subst ec_; clear en_)); have GB11 := Zq_.mk bI; have GG11 := Zq_.mk HG11; clear bI gl11 HG11; obtain ⟨_, ce11, hcl11, hM11, aI, hfr11, _, _⟩ := Kd.S_elem aB.out z39 (aA : Int) p11 q11; obtain ⟨ve11_3, rfl, ge11_3⟩ := k39_openM hM11; have hx11_0 : w14.cell? ⟨go11, (aA : Int).toNat * 4, none⟩ = some (.int .i64 ((rd_T39 aC aA).f0)) := aI 0 _ rfl; have hx11_1 : w14.cell? ⟨go11, (aA : Int).toNat * 4 + 1, none⟩ = some (.int .i64 ((rd_T39 aC aA).f1.f0)) := aI 1 _ rfl; have hx11_2 : w14.cell? ⟨go11, (aA : Int).toNat * 4 + 2, none⟩ = some (.int .i64 ((rd_T39 aC aA).f1.f1)) := aI 2 _ rfl; have hx11_3 : w14.cell? ⟨go11, (aA : Int).toNat * 4 + 3, none⟩ = some (ve11_3) := aI 3 _ rfl; have hf11_0 : w14.frozen? ⟨go11, (aA : Int).toNat * 4, none⟩ = false := hfr11 0; have hf11_1 : w14.frozen? ⟨go11, (aA : Int).toNat * 4 + 1, none⟩ = false := hfr11 1; have hf11_2 : w14.frozen? ⟨go11, (aA : Int).toNat * 4 + 2, none⟩ = false := hfr11 2; have hf11_3 : w14.frozen? ⟨go11, (aA : Int).toNat * 4 + 3, none⟩ = false := hfr11 3; clear hcl11 aI hfr11 hM11; replace p11 := eq_true p11; replace q11 := eq_true q11; have n_ := Zq_.mk (Kd.S_mono (ok' := (fun k_ => some k_ ≠ (v110 : Value).ownBlock ∧ k_ ≠ aD)) aB.out (fun k_ hk => ⟨hk.2, hk.1.2⟩)); clear aB; have aB := n_; clear n_; have HX15 := Zq_.mk (show Kd.S k39 39 w14 w.heap.size (fun k_ => ((fun k_ => k_ ≠ aD)) k_ ∧ ¬ ((fun k_ => some k_ = (v110 : Value).ownBlock)) k_) (.slice (some ⟨go11, 0, none⟩) aC.length bK) aC from (by (with_reducible repeat (first | apply Kd.S_alloc | apply Kd.S_drewN | apply Kd.S_drew)); exact Kd.S_mono aB.out (fun k_ hk => ⟨hk.2, fun e_ => hk.1 e_⟩))); obtain ⟨oki15, ce15, hcl15, hM15, aH, hfr15, hoki15, hH15⟩ := Kd.S_elem HX15.out z39 (aA : Int) (dA_) (by have h_ : (aA : Int) < ((aC.length : Int) : Int) := dA_; first | exact h_ | (have e_ := (Kd.S_reads' aB.out).1; omega) | simpa using h_); obtain ⟨ve15_3, rfl, ge15_3⟩ := k39_openM hM15; have HP15 := Kd.S_seg hH15 (dA_) (by have h_ : (aA : Int) < ((aC.length : Int) : Int) := dA_; first | exact h_ | (have e_ := (Kd.S_reads' aB.out).1; omega) | simpa using h_) (seg := [.int .i64 aL, .int .i64 aK, .int .i64 aJ, v110]) (j := 0) (show 4 ≤ 4 from by decide) (x' := (⟨aL, (⟨aK, aJ, aW⟩ : S35)⟩ : S39)) (k39_mkM _ _ _ (⟨aL, (⟨aK, aJ, aW⟩ : S35)⟩ : S39) (Kd.R_mono (Kd.R_tight rfl (Kd.R_mono (ok' := fun k_ => ((fun k_ => k_ ≠ aD)) k_ ∧ k_ ≠ go11) (Kd.vg_ (Kd.R_apart' (aV.out) (Kd.S_typed aB.out) (by decide)) aE.out (by decide)) (fun k_ hk => ⟨hk.2, fun e_ => (hk.1.2) (by rw [e_]; rfl)⟩))) (fun _ h_ => Or.inr (h_)))) (fun _ hk => hk) (fun k_ hk_ => ((Kd.R_mono (ok' := fun k_ => ((fun k_ => k_ ≠ aD)) k_ ∧ k_ ≠ go11) (Kd.vg_ (Kd.R_apart' (aV.out) (Kd.S_typed aB.out) (by decide)) aE.out (by decide)) (fun k_ hk => ⟨hk.2, fun e_ => (hk.1.2) (by rw [e_]; rfl)⟩))).1 k_ hk_.symm); have bG := aH 0 _ rfl; (try simp only [show (k39).sz = 4 from rfl, Nat.mul_one, Nat.add_zero] at bG); have hf15_0 := hfr15 0; (try simp only [show (k39).sz = 4 from rfl, Nat.mul_one, Nat.add_zero] at hf15_0); have bF := aH 1 _ rfl; (try simp only [show (k39).sz = 4 from rfl, Nat.mul_one, Nat.add_zero] at bF); have hf15_1 := hfr15 1; (try simp only [show (k39).sz = 4 from rfl, Nat.mul_one, Nat.add_zero] at hf15_1); have bE := aH 2 _ rfl; (try simp only [show (k39).sz = 4 from rfl, Nat.mul_one, Nat.add_zero] at bE); have hf15_2 := hfr15 2; (try simp only [show (k39).sz = 4 from rfl, Nat.mul_one, Nat.add_zero] at hf15_2); have bD := aH 3 _ rfl; (try simp only [show (k39).sz = 4 from rfl, Nat.mul_one, Nat.add_zero] at bD); have hf15_3 := hfr15 3; (try simp only [show (k39).sz = 4 from rfl, Nat.mul_one, Nat.add_zero] at hf15_3); clear hcl15 aH hfr15 hM15 hoki15 hH15) | ((with_reducible refine gate_store (t := 39) (p := 23) rfl ?_); refine store_event (t := 39) (p := 23) (v := ?vo_w16) (w1 := ((((w14.setCell ⟨go11, (aA : Int).toNat * 4, none⟩ (.int .i64 aL)).setCell ⟨go11, (aA : Int).toNat * 4 + 1, none⟩ (.int .i64 aK)).setCell ⟨go11, (aA : Int).toNat * 4 + 2, none⟩ (.int .i64 aJ)).setCell ⟨go11, (aA : Int).toNat * 4 + 3, none⟩ (v110))) ?hg ?ho ?hn ?hr ?_; (case ho => rfl); (case hg => rfl); (case hn => rfl); (case hr => first | (go_simp; done) | (go_simp; rfl) | (obtain ⟨Ao_, co_, rfl⟩ := Kd.vh_ aV.out; first | (go_simp; done) | (go_simp; rfl))); intro w16 hw; have hg : w14.grownBy w16 (some go11) := (by rw [hw]; exact HP15.2); have hp_ : Kd.S k39 39 w16 w.heap.size (fun k_ => k_ ≠ aD) (.slice (some ⟨go11, 0, none⟩) aC.length bK) bA := (by rw [hw, bL.out]; exact HP15.1); clear HP15; replace aE := Zq_.mk (va_ (g := aD) (o := .cells #[.int .i64 ((rd_T39 l0 aA).f0), .int .i64 ((rd_T39 l0 aA).f1.f0), .int .i64 ((rd_T39 l0 aA).f1.f1), .slice aN ((rd_T39 l0 aA).f1.f2).length aM] 39 (0, 0)) (by exact bK_ aE) hg (Kd.S_away aB.out (fun _ hk => hk.2))); replace aB := Zq_.mk (hp_); replace HB := Zq_.mk ((by rw [hw]; exact below_set (below_set (below_set (below_set (HB.out) GB11.out) GB11.out) GB11.out) GB11.out : Below w.heap.size w w16)); clear aV; clear hg hw hp_))
         go_roundg k1
         case measure => have := HK1.out; omega
         case rel => exact ⟨(bA), (wrap64 (aA + 1)), eS_, H', ⟨by have := HK1.out; omega⟩, ⟨by (with_reducible repeat (first | apply Kd.S_alloc | apply Kd.S_drewN | apply Kd.S_drew)); exact Kd.S_mono aB.out (fun _ hk => trivial)⟩, ⟨by exact hSet_ HB⟩⟩
        ·rw [if_neg c10] at H; exact absurd H (by simp)
       ·rw [if_neg c8] at H; exact absurd H (by simp)
      ·rw [if_neg c7] at H; exact absurd H (by simp)
     ·rw [if_neg c6] at H; have c6b0 : decide (aA < (l0.length : Int)) = false := decide_eq_false c6; clear c6; obtain rfl := Option.some.inj H
      go_wp2
      go_ret
      exact ⟨_, by exact eW_, by (with_reducible repeat (first | apply Kd.S_alloc | apply Kd.S_drewN | apply Kd.S_drew)); exact aB.out, hB_ HB⟩
  ·rw [if_neg c3] at H; exact absurd H (by simp)
 ·rw [if_neg c2] at H; exact absurd H (by simp)
end Go.Proofs.Ytgipbmjkgciccaa.P

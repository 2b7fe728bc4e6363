/- What printed functions come to, and that the machine's calls do it. No condition. -/
import Derived.Test.YtgipbmjkgciccaaPRef06Great
import Derived.Test.YtgipbmjkgciccaaPApiEntry61
namespace Go.Proofs.Ytgipbmjkgciccaa.P
set_option maxHeartbeats 8000000
set_option maxRecDepth 100000
open Go.RowKit Go.Proofs.YtgipbmjkgciccaaW.PrintWords Go.Proofs.YtgipbmjkgciccaaW.PrintLast Go.Proofs.YtgipbmjkgciccaaW.PrintMore
attribute [local go_sem] qw_ qu_ vb_ va_ qp_ qo_ qv_ qt_ Go.Proofs.YtgipbmjkgciccaaW.Hw.string_gtr
set_option linter.unusedVariables false
set_option linter.unusedSimpArgs false
def delta_may.f (k : Nat) (bJ aU bS bR : Int) (aT : List S58) : Option Bool :=
 if 0 ≤ bJ then (if bJ < 8 then (if 0 ≤ aU then (if aU ≤ 1099511627776 then ((state_Right.f k bS bR aT).bind fun t => if t = true then some (!(aT.any (fun x => decide (x.f1 ≤ aU)))) else some false) else some false) else some false) else some false) else some false
theorem delta_may.mono : ∀ a0 a1 a2 a3 a4 k, LeO (delta_may.f k a0 a1 a2 a3 a4) (delta_may.f (k + 1) a0 a1 a2 a3 a4) := by
 intro a0 a1 a2 a3 a4 k
 unfold delta_may.f
 exact LeO.ite (LeO.ite (LeO.ite (LeO.ite (LeO.bind (state_Right.mono _ _ _ _) (fun _ => LeO.refl _)) (LeO.refl _)) (LeO.refl _)) (LeO.refl _)) (LeO.refl _)
open Go.Proofs.YtgipbmjkgciccaaW.Hw in
theorem delta_may.pred (a1 : Int) (g : Nat) (w : World) (hc : w.cell? ⟨g, 1, none⟩ = some (.int .i64 a1)) : PredK Try.prog k58 62 #[.pointer (some ⟨g, 0, none⟩)] aggOf (fun x => decide (x.f1 ≤ a1)) w := by
 intro W x cs hb hx; have hcW := (hb.cell (wb_ w _ hc)).trans hc; obtain rfl := k58_open hx; clear hx hb hc; have HB := Zq_.mk (Below.refl W.heap.size W)
 go_enter Try.func62, Try.ntmps62
 go_wp2_with (first | ((with_reducible refine qb_ (N := 2) rfl ?_); (try (refine vd_ (by rfl) ?_; dsimp only)); refine bE_ 2 #[.int .i64 x.f0, .int .i64 x.f1, .string x.f2] 58 ?_; intro aD hg_ w102 hbox_ hb_; have n0_ := Zq_.mk (vf_ (hB_ HB) hb_); have cB := Zq_.mk ((by rw [hg_]; exact (qa_ (hB_ HB)) : W.heap.size ≤ aD)); have n1_ := Zq_.mk (hbox_); clear HB; have HB := n0_; have aA := n1_; clear n0_ n1_; clear hb_ hbox_ hg_; obtain ⟨cS, cR, cQ⟩ := c3_ aA; obtain ⟨cP, cO, cN⟩ := f3_ aA; have hcw_ := pw_cell_below HB.out hcW))
 go_ret
 exact ⟨by first | rfl | (simp; done) | (simp [*]; done), (hB_ HB)⟩
open Go.Proofs.YtgipbmjkgciccaaW.Hw in
theorem delta_may.calls (k : Nat) (bJ : Int) (aU : Int) (bS : Int) (bR : Int) (bU : Option Addr) (bT : Nat) (aT : List S58) (r : Bool) (w : World) (cD : Kd.C k58 w bU aT.length aT) (cI : aT.length ≤ bT) (h : delta_may.f k bJ aU bS bR aT = some r) :
  Calls Try.prog 42 #[.agg #[.int .i64 bJ, .int .i64 aU, .int .i64 bS, .int .i64 bR, .slice bU aT.length bT]] w fun e w' => e = .returned (.bool r) ∧ Below w.heap.size w w' := by
 unfold delta_may.f at h
 have HR := Zq_.mk cD; have HC := Zq_.mk cI; have HP := Zq_.mk (fun (W : World) (g : Nat) (hW : Below w.heap.size w W) (hc : W.cell? ⟨g, 1, none⟩ = some (.int .i64 aU)) => ContainsFuncE.calls (fun x => decide (x.f1 ≤ aU)) 62 #[.pointer (some ⟨g, 0, none⟩)] (fun args w => enters Try.prog Try.func62 (by kernel_rfl) (by kernel_rfl) args w) bU bT aT W (delta_may.pred aU g W hc) (Kd.qf_ cD hW)); generalize aT.any (fun x => decide (x.f1 ≤ aU)) = b at HP h; clear cD cI; have HB := Zq_.mk (Below.refl w.heap.size w)
 by_cases h1 : 0 ≤ bJ
 ·rw [if_pos h1] at h; have h1a := decide_eq_true h1
  by_cases h2 : bJ < 8
  ·rw [if_pos h2] at h; have h2a := decide_eq_true h2
   by_cases h3 : 0 ≤ aU
   ·rw [if_pos h3] at h; have h3a := decide_eq_true h3
    by_cases h4 : aU ≤ 1099511627776
    ·rw [if_pos h4] at h; have h4a := decide_eq_true h4; obtain ⟨t, ht, h⟩ := Option.bind_eq_some_iff.1 h; have HT := Zq_.mk ht; clear h1 h2 h3 h4 ht
     cases t with
     | true =>
      obtain rfl : (!b) = r := by simpa using h
      clear h
      go_enter Try.func42, Try.ntmps42
      go_wp2_with (first | ((with_reducible refine qb_ (N := 1) rfl ?_); (try (refine vd_ (by rfl) ?_; dsimp only)); refine bE_ 1 #[.int .i64 bJ, .int .i64 aU, .int .i64 bS, .int .i64 bR, .slice bU aT.length bT] 53 ?_; intro aE hg_ cC hbox_ hb_; have n0_ := Zq_.mk (vf_ (hB_ HB) hb_); have bX := Zq_.mk ((by rw [hg_]; exact (qa_ (hB_ HB)) : w.heap.size ≤ aE)); have n1_ := Zq_.mk (hbox_); clear HB; have HB := n0_; have aC := n1_; clear n0_ n1_; clear hb_ hbox_ hg_; obtain ⟨bG, bF, bE, bD, bC⟩ := c5_ aC; obtain ⟨bB, bA, aZ, aY, aX⟩ := f5_ aC) | (go_at_call 63; refine (state_Right.calls k bS bR bU bT aT true _ (Kd.qf_ HR.out (hB_ HB)) HC.out HT.out).mono ?_; rintro e w6 ⟨rfl, hb6⟩; have n0_ := Zq_.mk (vf_ (hB_ HB) hb6); have m101_ := Zq_.mk (blk_bel (by exact bK_ aC) hb6); clear HB; have HB := n0_; clear n0_; clear aC; have aC := m101_; clear m101_; clear hb6; have hcw6_101_0 : w6.cell? ⟨aE, 0, none⟩ = some (.int .i64 bJ) := (qg_ aC.out 0).trans rfl; have hcw6_101_1 : w6.cell? ⟨aE, 1, none⟩ = some (.int .i64 aU) := (qg_ aC.out 1).trans rfl; have hcw6_101_2 : w6.cell? ⟨aE, 2, none⟩ = some (.int .i64 bS) := (qg_ aC.out 2).trans rfl; have hcw6_101_3 : w6.cell? ⟨aE, 3, none⟩ = some (.int .i64 bR) := (qg_ aC.out 3).trans rfl; have hcw6_101_4 : w6.cell? ⟨aE, 4, none⟩ = some (.slice bU aT.length bT) := (qg_ aC.out 4).trans rfl) | (go_at_call 64; refine (HP.out _ aE (hB_ HB) ((qg_ (by exact bK_ aC) 1).trans rfl)).mono ?_; rintro e w7 ⟨rfl, hb7⟩; have n0_ := Zq_.mk (vf_ (hB_ HB) hb7); have m101_ := Zq_.mk (blk_bel (by exact bK_ aC) hb7); clear HB; have HB := n0_; clear n0_; clear aC; have aC := m101_; clear m101_; clear hb7))
      go_ret
      exact ⟨by first | rfl | (simp; done) | (simp [*]; done), (hB_ HB)⟩
     | false =>
      obtain rfl : false = r := by simpa using h
      clear h
      go_enter Try.func42, Try.ntmps42
      go_wp2_with (first | ((with_reducible refine qb_ (N := 1) rfl ?_); (try (refine vd_ (by rfl) ?_; dsimp only)); refine bE_ 1 #[.int .i64 bJ, .int .i64 aU, .int .i64 bS, .int .i64 bR, .slice bU aT.length bT] 53 ?_; intro aE hg_ cC hbox_ hb_; have n0_ := Zq_.mk (vf_ (hB_ HB) hb_); have bX := Zq_.mk ((by rw [hg_]; exact (qa_ (hB_ HB)) : w.heap.size ≤ aE)); have n1_ := Zq_.mk (hbox_); clear HB; have HB := n0_; have aC := n1_; clear n0_ n1_; clear hb_ hbox_ hg_; obtain ⟨bG, bF, bE, bD, bC⟩ := c5_ aC; obtain ⟨bB, bA, aZ, aY, aX⟩ := f5_ aC) | (go_at_call 63; refine (state_Right.calls k bS bR bU bT aT false _ (Kd.qf_ HR.out (hB_ HB)) HC.out HT.out).mono ?_; rintro e w6 ⟨rfl, hb6⟩; have n0_ := Zq_.mk (vf_ (hB_ HB) hb6); have m101_ := Zq_.mk (blk_bel (by exact bK_ aC) hb6); clear HB; have HB := n0_; clear n0_; clear aC; have aC := m101_; clear m101_; clear hb6; have hcw6_101_0 : w6.cell? ⟨aE, 0, none⟩ = some (.int .i64 bJ) := (qg_ aC.out 0).trans rfl; have hcw6_101_1 : w6.cell? ⟨aE, 1, none⟩ = some (.int .i64 aU) := (qg_ aC.out 1).trans rfl; have hcw6_101_2 : w6.cell? ⟨aE, 2, none⟩ = some (.int .i64 bS) := (qg_ aC.out 2).trans rfl; have hcw6_101_3 : w6.cell? ⟨aE, 3, none⟩ = some (.int .i64 bR) := (qg_ aC.out 3).trans rfl; have hcw6_101_4 : w6.cell? ⟨aE, 4, none⟩ = some (.slice bU aT.length bT) := (qg_ aC.out 4).trans rfl))
      go_ret
      exact ⟨by first | rfl | (simp; done) | (simp [*]; done), (hB_ HB)⟩
    ·rw [if_neg h4] at h; have h4a := decide_eq_false h4
     obtain rfl : false = r := by simpa using h
     clear h h1 h2 h3 h4
     go_enter Try.func42, Try.ntmps42
     go_wp2_with (first | ((with_reducible refine qb_ (N := 1) rfl ?_); (try (refine vd_ (by rfl) ?_; dsimp only)); refine bE_ 1 #[.int .i64 bJ, .int .i64 aU, .int .i64 bS, .int .i64 bR, .slice bU aT.length bT] 53 ?_; intro aE hg_ cC hbox_ hb_; have n0_ := Zq_.mk (vf_ (hB_ HB) hb_); have bX := Zq_.mk ((by rw [hg_]; exact (qa_ (hB_ HB)) : w.heap.size ≤ aE)); have n1_ := Zq_.mk (hbox_); clear HB; have HB := n0_; have aC := n1_; clear n0_ n1_; clear hb_ hbox_ hg_; obtain ⟨bG, bF, bE, bD, bC⟩ := c5_ aC; obtain ⟨bB, bA, aZ, aY, aX⟩ := f5_ aC))
     go_ret
     exact ⟨by first | rfl | (simp; done) | (simp [*]; done), (hB_ HB)⟩
   ·rw [if_neg h3] at h; have h3a := decide_eq_false h3
    obtain rfl : false = r := by simpa using h
    clear h h1 h2 h3
    go_enter Try.func42, Try.ntmps42
    go_wp2_with (first | ((with_reducible refine qb_ (N := 1) rfl ?_); (try (refine vd_ (by rfl) ?_; dsimp only)); refine bE_ 1 #[.int .i64 bJ, .int .i64 aU, .int .i64 bS, .int .i64 bR, .slice bU aT.length bT] 53 ?_; intro aE hg_ cC hbox_ hb_; have n0_ := Zq_.mk (vf_ (hB_ HB) hb_); have bX := Zq_.mk ((by rw [hg_]; exact (qa_ (hB_ HB)) : w.heap.size ≤ aE)); have n1_ := Zq_.mk (hbox_); clear HB; have HB := n0_; have aC := n1_; clear n0_ n1_; clear hb_ hbox_ hg_; obtain ⟨bG, bF, bE, bD, bC⟩ := c5_ aC; obtain ⟨bB, bA, aZ, aY, aX⟩ := f5_ aC))
    go_ret
    exact ⟨by first | rfl | (simp; done) | (simp [*]; done), (hB_ HB)⟩
  ·rw [if_neg h2] at h; have h2a := decide_eq_false h2
   obtain rfl : false = r := by simpa using h
   clear h h1 h2
   go_enter Try.func42, Try.ntmps42
   go_wp2_with (first | ((with_reducible refine qb_ (N := 1) rfl ?_); (try (refine vd_ (by rfl) ?_; dsimp only)); refine bE_ 1 #[.int .i64 bJ, .int .i64 aU, .int .i64 bS, .int .i64 bR, .slice bU aT.length bT] 53 ?_; intro aE hg_ cC hbox_ hb_; have n0_ := Zq_.mk (vf_ (hB_ HB) hb_); have bX := Zq_.mk ((by rw [hg_]; exact (qa_ (hB_ HB)) : w.heap.size ≤ aE)); have n1_ := Zq_.mk (hbox_); clear HB; have HB := n0_; have aC := n1_; clear n0_ n1_; clear hb_ hbox_ hg_; obtain ⟨bG, bF, bE, bD, bC⟩ := c5_ aC; obtain ⟨bB, bA, aZ, aY, aX⟩ := f5_ aC))
   go_ret
   exact ⟨by first | rfl | (simp; done) | (simp [*]; done), (hB_ HB)⟩
 ·rw [if_neg h1] at h; have h1a := decide_eq_false h1
  obtain rfl : false = r := by simpa using h
  clear h h1
  go_enter Try.func42, Try.ntmps42
  go_wp2_with (first | ((with_reducible refine qb_ (N := 1) rfl ?_); (try (refine vd_ (by rfl) ?_; dsimp only)); refine bE_ 1 #[.int .i64 bJ, .int .i64 aU, .int .i64 bS, .int .i64 bR, .slice bU aT.length bT] 53 ?_; intro aE hg_ cC hbox_ hb_; have n0_ := Zq_.mk (vf_ (hB_ HB) hb_); have bX := Zq_.mk ((by rw [hg_]; exact (qa_ (hB_ HB)) : w.heap.size ≤ aE)); have n1_ := Zq_.mk (hbox_); clear HB; have HB := n0_; have aC := n1_; clear n0_ n1_; clear hb_ hbox_ hg_; obtain ⟨bG, bF, bE, bD, bC⟩ := c5_ aC; obtain ⟨bB, bA, aZ, aY, aX⟩ := f5_ aC))
  go_ret
  exact ⟨by first | rfl | (simp; done) | (simp [*]; done), (hB_ HB)⟩
def delta_Right.l0 : Nat → List (S53) → List (S53) → Int → Int → Option (Bool)
 | 0, _, _, _, _ => none
 | k + 1, x0, x5, x6, x7 => if x7 < x6 then (if 0 ≤ x7 then (if x7 < (x5.length : Int) then ((delta_may.f k ((rd_T53 x5 x7).f0) ((rd_T53 x5 x7).f1) ((rd_T53 x5 x7).f2.f0) ((rd_T53 x5 x7).f2.f1) ((rd_T53 x5 x7).f2.f2)).bind fun cJ => (if cJ = true then (if x7 > 0 then (if 0 ≤ (wrap64 (x7 - 1)) then (if (wrap64 (x7 - 1)) < (x0.length : Int) then (if ((rd_T53 x0 (wrap64 (x7 - 1))).f0) ≥ ((rd_T53 x5 x7).f0) then (some false) else (delta_Right.l0 k x0 x5 x6 (wrap64 (x7 + 1)))) else (none)) else (none)) else (delta_Right.l0 k x0 x5 x6 (wrap64 (x7 + 1)))) else (some false))) else (none)) else (none)) else (some true)
def delta_Right.f (k : Nat) (l0 : List (S53)) : Option (Bool) := delta_Right.l0 k l0 l0 (l0.length : Int) 0
theorem delta_Right.mono_l : ∀ k, (∀ y0 y1 y2 y3, LeO (delta_Right.l0 k y0 y1 y2 y3) (delta_Right.l0 (k + 1) y0 y1 y2 y3))
 | 0 => fun _ _ _ _ r h => by simp [delta_Right.l0] at h
 | k + 1 => by
  have ih0 := delta_Right.mono_l k
  ·intro y0 y1 y2 y3
   unfold delta_Right.l0
   with_reducible repeat' first | exact ih0 _ _ _ _ | exact delta_may.mono _ _ _ _ _ _ | exact LeO.refl _ | exact LeO.none _ | refine LeO.ite ?_ ?_ | refine LeO.bind ?_ (fun _ => ?_)
theorem delta_Right.mono : ∀ a0 k, LeO (delta_Right.f k a0) (delta_Right.f (k + 1) a0) := by
 intro a0 k; have ih0 := delta_Right.mono_l k
 unfold delta_Right.f
 with_reducible repeat' first | exact ih0 _ _ _ _ | exact delta_may.mono _ _ _ _ _ _ | exact LeO.refl _ | exact LeO.none _ | refine LeO.ite ?_ ?_ | refine LeO.bind ?_ (fun _ => ?_)
def delta_Right.T4 : Bool × List (List Nat × List Nat) := (true, [([], []), ([0], [0]), ([1], [1]), ([2, 1], [2]), ([3], [3]), ([4, 3], [3, 4]), ([5, 3, 3], [3, 5]), ([6], [6]), ([6], [6]), ([8, 6], [6, 8]), ([7, 9, 6], [6, 7, 9]), ([10, 6], [6, 10]), ([11, 6], [6, 11]), ([6], [6]), ([13, 6], [6, 13]), ([12, 14, 6], [6, 12, 14]), ([6, 15, 3], [3, 6, 15]), ([3, 16], [3, 16])])
def delta_Right.B4 : List Nat := [0, 1, 3, 7, 15, 31, 63, 127, 127, 383, 1023, 2047, 4095, 127, 8319, 32767, 65535, 131071]
theorem delta_Right.tab4 : rtab .any (opsOf Try.f16 4) = delta_Right.T4 := by kernel_rfl
theorem delta_Right.bits4 : waitsOk delta_Right.T4.2 delta_Right.B4 = true := by kernel_rfl
theorem delta_Right.calls (k : Nat) (A0 : Option Addr) (c0 : Nat) (l0 : List (S53)) (r : Bool) (w : World) (hr0 : Kd.C k53 w A0 l0.length l0) (hc0 : l0.length ≤ c0) (h : delta_Right.f k l0 = some r) :
  Calls Try.prog 16 #[.slice A0 l0.length c0] w fun e w' => e = .returned (.bool r) ∧ Below w.heap.size w w' := by
 have hu53 := Try.underlying53; have HR0 := Zq_.mk hr0; have HC0 := Zq_.mk hc0; clear hr0 hc0; have HB := Zq_.mk (Below.refl w.heap.size w); have H : (delta_Right.l0 k l0 l0 (l0.length : Int) 0) = some r := h; clear h; have H' := Zq_.mk H; clear H
 go_enter Try.func16, Try.ntmps16
 go_wp2
 go_loopg [7] k (fun kq v7 w' => ∃ (aB : Int), v7 = .int .i64 aB ∧ Zq_ (delta_Right.l0 kq l0 l0 (l0.length : Int) aB = some r) ∧ Zq_ (kq ≤ k) ∧ Zq_ (Below w.heap.size w w'))
 case atStart => exact ⟨(0), eS_, H', ⟨Nat.le_refl _⟩, ⟨hB_ HB⟩⟩
 case round =>
  clear H'
  try clear c1
  obtain ⟨aB, rfl, HA, HK1, HB⟩ := hrel
  cases gk with
  | zero => exact absurd HA.out (by simp [delta_Right.l0])
  | succ k1 =>
   have H := HA.out; clear HA; simp only [delta_Right.l0] at H
   by_cases c2 : aB < (l0.length : Int)
   ·rw [if_pos c2] at H; have c2b0 : decide (aB < (l0.length : Int)) = true := decide_eq_true c2; clear c2
    by_cases c3 : 0 ≤ aB
    ·rw [if_pos c3] at H; have c3b0 : decide (0 ≤ aB) = true := decide_eq_true c3; clear c3
     by_cases c4 : aB < (l0.length : Int)
     ·rw [if_pos c4] at H; have c4b0 : decide (aB < (l0.length : Int)) = true := decide_eq_true c4; clear c4; replace H := ob_ H; obtain ⟨cJ, A50, H⟩ := H; (try dsimp only at H); have A5 := Zq_.mk A50; clear A50
      by_cases c6 : cJ = true
      ·subst c6
       rw [if_pos rfl] at H
       by_cases c7 : aB > 0
       ·rw [if_pos c7] at H; have c7b0 : decide (0 < aB) = true := decide_eq_true c7; clear c7; obtain ⟨ji8, cE⟩ : ∃ j_ : Int, (wrap64 (aB - 1)) = j_ := ⟨_, rfl⟩
        replace H : (if 0 ≤ (ji8) then (if (ji8) < (l0.length : Int) then (if ((rd_T53 l0 (ji8)).f0) ≥ ((rd_T53 l0 aB).f0) then (some false) else (delta_Right.l0 k1 l0 l0 (l0.length : Int) (wrap64 (aB + 1)))) else (none)) else (none)) = some r := by first | (rw [cE] at H; exact H) | (simp only [cE] at H ⊢; exact H)
        (try rw [cE] at A5); have hji8w : (IntKind.i64.wrap (aB - 1)) = ji8 := (i64_w _).trans cE
        by_cases c9 : 0 ≤ (ji8)
        ·rw [if_pos c9] at H; have c9b0 : decide (0 ≤ (ji8)) = true := decide_eq_true c9; clear c9
         by_cases c10 : (ji8) < (l0.length : Int)
         ·rw [if_pos c10] at H; have c10b0 : decide ((ji8) < (l0.length : Int)) = true := decide_eq_true c10; clear c10
          by_cases c11 : ((rd_T53 l0 (ji8)).f0) ≥ ((rd_T53 l0 aB).f0)
          ·rw [if_pos c11] at H; have cT : decide (((rd_T53 l0 aB).f0) ≤ ((rd_T53 l0 (ji8)).f0)) = true := decide_eq_true c11; clear c11; obtain rfl := Option.some.inj H; have bI : 0 ≤ (aB : Int) := dA_; have bH : aB < (l0.length : Int) := dA_; obtain ⟨bW, aG, aF, cA, aL, aK, aJ, aI, aH, aM, aN⟩ := at_T53 HR0.out aB bI bH; cases cA; replace aL := hC_ HB aL; replace aK := hC_ HB aK; replace aJ := hC_ HB aJ; replace aI := hC_ HB aI; replace aH := hC_ HB aH; have aV := Zq_.mk aN; have aW := Zq_.mk aM; clear aN aM; replace bI := eq_true bI; replace bH := eq_true bH
           try go_wp2_with (first | ((with_reducible refine qb_ (N := 4) rfl ?_); refine bE_ 4 #[.int .i64 0, .int .i64 0, .int .i64 0, .int .i64 0, .slice none 0 0] 53 ?_; intro aD hg w12 hbox hb; have aA := Zq_.mk (hbox); have cG := gW_ (w := w) hg (hB_ HB); have cB := gW_ (w := w) hg (hB_ HB); replace HB := sB_ HB hb; clear hb hbox hg; obtain ⟨hcz13_0, hcz13_1, hcz13_2, hcz13_3, hcz13_4⟩ := c5_ aA; obtain ⟨hfz13_0, hfz13_1, hfz13_2, hfz13_3, hfz13_4⟩ := f5_ aA))
           obtain ⟨w14, hW_⟩ : ∃ w_, w_ = (((((w12.setCell ⟨aD, 0, none⟩ (.int .i64 ((rd_T53 l0 aB).f0))).setCell ⟨aD, 1, none⟩ (.int .i64 ((rd_T53 l0 aB).f1))).setCell ⟨aD, 2, none⟩ (.int .i64 ((rd_T53 l0 aB).f2.f0))).setCell ⟨aD, 3, none⟩ (.int .i64 ((rd_T53 l0 aB).f2.f1))).setCell ⟨aD, 4, none⟩ (.slice aG ((rd_T53 l0 aB).f2.f2).length aF)) := ⟨_, rfl⟩; have n0_ : Zq_ (w14.heap[aD]? = some (.cells #[.int .i64 ((rd_T53 l0 aB).f0), .int .i64 ((rd_T53 l0 aB).f1), .int .i64 ((rd_T53 l0 aB).f2.f0), .int .i64 ((rd_T53 l0 aB).f2.f1), .slice aG ((rd_T53 l0 aB).f2.f2).length aF] 53 (0, 0))) := (by subst hW_; exact ⟨by exact bW5_ (bK_ aA)⟩); have n1_ : Zq_ (Below w.heap.size w w14) := (by subst hW_; exact ⟨by exact hSet_ HB⟩); (try clear aA); (try clear HB); rw [← hW_]; clear hW_; have aA := n0_; have HB := n1_; clear n0_ n1_; replace aA := Zq_.mk (qc_ aA.out); replace HB := Zq_.mk (qe_ HB.out); have bZ : 0 ≤ ((ji8) : Int) := dA_; have bY : (ji8) < (l0.length : Int) := dA_; obtain ⟨cF, cM, cL, cK, aS, aR, aQ, aP, aO, bP, bQ⟩ := at_T53 HR0.out (ji8) bZ bY; have bK := aO; have bL := aP; have bM := aQ; have bN := aR; have bO := aS; obtain rfl : bW = cF := (by injection cK); replace aS := hC_ HB aS; replace aR := hC_ HB aR; replace aQ := hC_ HB aQ; replace aP := hC_ HB aP; replace aO := hC_ HB aO; have bV := Zq_.mk bQ; have cH := Zq_.mk bP; clear bQ bP; replace bZ := eq_true bZ; replace bY := eq_true bY; refine gS_ 18 (hA_ (b0_ aA) (hA_ (b1_ aA) (hA_ (b2_ aA) (hA_ (b3_ aA) (hA_ (b4_ aA) (hA_ (hC_ HB bO) (hA_ (hC_ HB bN) (hA_ (hC_ HB bM) (hA_ (hC_ HB bL) (hZ_ (hC_ HB bK))))))))))) (fun hHeld => ?_); refine qm_ delta_Right.tab4 delta_Right.bits4 (fun HT_ HW_ => ?_); generalize w14.drew = w15 at aA HB bV aS aR aQ aP aO hHeld ⊢; refine tL_ 0 HT_ HW_ hHeld ?_; refine oN_ 1 13 18 3 HT_ (fun K hK => ?_); refine goes_ Try.func42 (by kernel_rfl) rfl #[.agg #[.int .i64 ((rd_T53 l0 aB).f0), .int .i64 ((rd_T53 l0 aB).f1), .int .i64 ((rd_T53 l0 aB).f2.f0), .int .i64 ((rd_T53 l0 aB).f2.f1), .slice aG ((rd_T53 l0 aB).f2.f2).length aF]] (by rfl) rfl rfl aR_ ?_
           with_reducible refine (delta_may.calls k1 ((rd_T53 l0 aB).f0) ((rd_T53 l0 aB).f1) ((rd_T53 l0 aB).f2.f0) ((rd_T53 l0 aB).f2.f1) _ _ ((rd_T53 l0 aB).f2.f2) true _ ?side1 ?side2 A5.out).mono ?_
           (case side1 => exact cX_ (Kd.qf_ aV.out HB.out)); (case side2 => exact aW.out); rintro e w16 ⟨rfl, hb⟩; refine ⟨_, rfl, ?_⟩; replace aA := kB_ aA hb; replace HB := sB_ HB hb; (try clear hb); refine hK.out _ _ ⟨b0_ aA, b1_ aA, b2_ aA, b3_ aA, b4_ aA, (hC_ HB bO), (hC_ HB bN), (hC_ HB bM), (hC_ HB bL), (hC_ HB bK)⟩ (fun hHeld => ?_); clear hK K; refine norm_ (a' := ?_) ?_ ?_; rotate_left
           ·show Act.put _ (some 13) _ = _
            simp only [Act.put, sa_, sb_, sc_, i64_w, i32_w]; rfl
           refine up0_ 2 ?_; (iterate 10 refine pN_ ?_); refine pQ_ 13 HT_ ?_; refine tL_ 12 HT_ HW_ hHeld ?_; refine up0_ 14 ?_; (iterate 4 first | refine pN_ ?_ | refine tN_ ?_); refine dN_ HT_ ?_; (try go_wp2)
           go_ret
           exact ⟨by first | rfl | (simp [errW_none, errW_some] <;> rfl) | (simp only [← cE]; first | rfl | (simp [errW_none, errW_some] <;> rfl)) | (simp [*, errW_none, errW_some] <;> rfl), by exact hSet_ HB⟩
          ·rw [if_neg c11] at H; have cT : decide (((rd_T53 l0 aB).f0) ≤ ((rd_T53 l0 (ji8)).f0)) = false := decide_eq_false c11; clear c11; have H' := Zq_.mk H; clear H; have bI : 0 ≤ (aB : Int) := dA_; have bH : aB < (l0.length : Int) := dA_; obtain ⟨bW, aG, aF, cA, aL, aK, aJ, aI, aH, aM, aN⟩ := at_T53 HR0.out aB bI bH; cases cA; replace aL := hC_ HB aL; replace aK := hC_ HB aK; replace aJ := hC_ HB aJ; replace aI := hC_ HB aI; replace aH := hC_ HB aH; have aV := Zq_.mk aN; have aW := Zq_.mk aM; clear aN aM; replace bI := eq_true bI; replace bH := eq_true bH
           try go_wp2_with (first | ((with_reducible refine qb_ (N := 4) rfl ?_); refine bE_ 4 #[.int .i64 0, .int .i64 0, .int .i64 0, .int .i64 0, .slice none 0 0] 53 ?_; intro aD hg w17 hbox hb; have aA := Zq_.mk (hbox); have cG := gW_ (w := w) hg (hB_ HB); have cB := gW_ (w := w) hg (hB_ HB); replace HB := sB_ HB hb; clear hb hbox hg; obtain ⟨hcz18_0, hcz18_1, hcz18_2, hcz18_3, hcz18_4⟩ := c5_ aA; obtain ⟨hfz18_0, hfz18_1, hfz18_2, hfz18_3, hfz18_4⟩ := f5_ aA))
           obtain ⟨w19, hW_⟩ : ∃ w_, w_ = (((((w17.setCell ⟨aD, 0, none⟩ (.int .i64 ((rd_T53 l0 aB).f0))).setCell ⟨aD, 1, none⟩ (.int .i64 ((rd_T53 l0 aB).f1))).setCell ⟨aD, 2, none⟩ (.int .i64 ((rd_T53 l0 aB).f2.f0))).setCell ⟨aD, 3, none⟩ (.int .i64 ((rd_T53 l0 aB).f2.f1))).setCell ⟨aD, 4, none⟩ (.slice aG ((rd_T53 l0 aB).f2.f2).length aF)) := ⟨_, rfl⟩; have n0_ : Zq_ (w19.heap[aD]? = some (.cells #[.int .i64 ((rd_T53 l0 aB).f0), .int .i64 ((rd_T53 l0 aB).f1), .int .i64 ((rd_T53 l0 aB).f2.f0), .int .i64 ((rd_T53 l0 aB).f2.f1), .slice aG ((rd_T53 l0 aB).f2.f2).length aF] 53 (0, 0))) := (by subst hW_; exact ⟨by exact bW5_ (bK_ aA)⟩); have n1_ : Zq_ (Below w.heap.size w w19) := (by subst hW_; exact ⟨by exact hSet_ HB⟩); (try clear aA); (try clear HB); rw [← hW_]; clear hW_; have aA := n0_; have HB := n1_; clear n0_ n1_; replace aA := Zq_.mk (qc_ aA.out); replace HB := Zq_.mk (qe_ HB.out); have bZ : 0 ≤ ((ji8) : Int) := dA_; have bY : (ji8) < (l0.length : Int) := dA_; obtain ⟨cF, cM, cL, cK, aS, aR, aQ, aP, aO, bP, bQ⟩ := at_T53 HR0.out (ji8) bZ bY; have bK := aO; have bL := aP; have bM := aQ; have bN := aR; have bO := aS; obtain rfl : bW = cF := (by injection cK); replace aS := hC_ HB aS; replace aR := hC_ HB aR; replace aQ := hC_ HB aQ; replace aP := hC_ HB aP; replace aO := hC_ HB aO; have bV := Zq_.mk bQ; have cH := Zq_.mk bP; clear bQ bP; replace bZ := eq_true bZ; replace bY := eq_true bY; refine gS_ 18 (hA_ (b0_ aA) (hA_ (b1_ aA) (hA_ (b2_ aA) (hA_ (b3_ aA) (hA_ (b4_ aA) (hA_ (hC_ HB bO) (hA_ (hC_ HB bN) (hA_ (hC_ HB bM) (hA_ (hC_ HB bL) (hZ_ (hC_ HB bK))))))))))) (fun hHeld => ?_); refine qm_ delta_Right.tab4 delta_Right.bits4 (fun HT_ HW_ => ?_); generalize w19.drew = w20 at aA HB bV aS aR aQ aP aO hHeld ⊢; refine tL_ 0 HT_ HW_ hHeld ?_; refine oN_ 1 13 18 3 HT_ (fun K hK => ?_); refine goes_ Try.func42 (by kernel_rfl) rfl #[.agg #[.int .i64 ((rd_T53 l0 aB).f0), .int .i64 ((rd_T53 l0 aB).f1), .int .i64 ((rd_T53 l0 aB).f2.f0), .int .i64 ((rd_T53 l0 aB).f2.f1), .slice aG ((rd_T53 l0 aB).f2.f2).length aF]] (by rfl) rfl rfl aR_ ?_
           with_reducible refine (delta_may.calls k1 ((rd_T53 l0 aB).f0) ((rd_T53 l0 aB).f1) ((rd_T53 l0 aB).f2.f0) ((rd_T53 l0 aB).f2.f1) _ _ ((rd_T53 l0 aB).f2.f2) true _ ?side1 ?side2 A5.out).mono ?_
           (case side1 => exact cX_ (Kd.qf_ aV.out HB.out)); (case side2 => exact aW.out); rintro e w21 ⟨rfl, hb⟩; refine ⟨_, rfl, ?_⟩; replace aA := kB_ aA hb; replace HB := sB_ HB hb; (try clear hb); refine hK.out _ _ ⟨b0_ aA, b1_ aA, b2_ aA, b3_ aA, b4_ aA, (hC_ HB bO), (hC_ HB bN), (hC_ HB bM), (hC_ HB bL), (hC_ HB bK)⟩ (fun hHeld => ?_); clear hK K; refine norm_ (a' := ?_) ?_ ?_; rotate_left
           ·show Act.put _ (some 13) _ = _
            simp only [Act.put, sa_, sb_, sc_, i64_w, i32_w]; rfl
           refine up0_ 2 ?_; (iterate 10 refine pN_ ?_); refine pQ_ 13 HT_ ?_; refine tL_ 12 HT_ HW_ hHeld ?_; refine up0_ 14 ?_; (iterate 4 first | refine pN_ ?_ | refine tN_ ?_); refine dN_ HT_ ?_; (try go_wp2)
           go_roundg k1
           case measure => have := HK1.out; omega
           case rel => exact ⟨(wrap64 (aB + 1)), eS_, H', ⟨by have := HK1.out; omega⟩, ⟨by exact hSet_ HB⟩⟩
         ·rw [if_neg c10] at H; exact absurd H (by simp)
        ·rw [if_neg c9] at H; exact absurd H (by simp)
       ·rw [if_neg c7] at H; have c7b0 : decide (0 < aB) = false := decide_eq_false c7; clear c7; have H' := Zq_.mk H; clear H; have bI : 0 ≤ (aB : Int) := dA_; have bH : aB < (l0.length : Int) := dA_; obtain ⟨bW, aG, aF, cA, aL, aK, aJ, aI, aH, aM, aN⟩ := at_T53 HR0.out aB bI bH; cases cA; replace aL := hC_ HB aL; replace aK := hC_ HB aK; replace aJ := hC_ HB aJ; replace aI := hC_ HB aI; replace aH := hC_ HB aH; have aV := Zq_.mk aN; have aW := Zq_.mk aM; clear aN aM; replace bI := eq_true bI; replace bH := eq_true bH
        try go_wp2_with (first | ((with_reducible refine qb_ (N := 4) rfl ?_); refine bE_ 4 #[.int .i64 0, .int .i64 0, .int .i64 0, .int .i64 0, .slice none 0 0] 53 ?_; intro aD hg w22 hbox hb; have aA := Zq_.mk (hbox); have cG := gW_ (w := w) hg (hB_ HB); have cB := gW_ (w := w) hg (hB_ HB); replace HB := sB_ HB hb; clear hb hbox hg; obtain ⟨hcz23_0, hcz23_1, hcz23_2, hcz23_3, hcz23_4⟩ := c5_ aA; obtain ⟨hfz23_0, hfz23_1, hfz23_2, hfz23_3, hfz23_4⟩ := f5_ aA))
        obtain ⟨w24, hW_⟩ : ∃ w_, w_ = (((((w22.setCell ⟨aD, 0, none⟩ (.int .i64 ((rd_T53 l0 aB).f0))).setCell ⟨aD, 1, none⟩ (.int .i64 ((rd_T53 l0 aB).f1))).setCell ⟨aD, 2, none⟩ (.int .i64 ((rd_T53 l0 aB).f2.f0))).setCell ⟨aD, 3, none⟩ (.int .i64 ((rd_T53 l0 aB).f2.f1))).setCell ⟨aD, 4, none⟩ (.slice aG ((rd_T53 l0 aB).f2.f2).length aF)) := ⟨_, rfl⟩; have n0_ : Zq_ (w24.heap[aD]? = some (.cells #[.int .i64 ((rd_T53 l0 aB).f0), .int .i64 ((rd_T53 l0 aB).f1), .int .i64 ((rd_T53 l0 aB).f2.f0), .int .i64 ((rd_T53 l0 aB).f2.f1), .slice aG ((rd_T53 l0 aB).f2.f2).length aF] 53 (0, 0))) := (by subst hW_; exact ⟨by exact bW5_ (bK_ aA)⟩); have n1_ : Zq_ (Below w.heap.size w w24) := (by subst hW_; exact ⟨by exact hSet_ HB⟩); (try clear aA); (try clear HB); rw [← hW_]; clear hW_; have aA := n0_; have HB := n1_; clear n0_ n1_; replace aA := Zq_.mk (qc_ aA.out); replace HB := Zq_.mk (qe_ HB.out); refine gS_ 18 (hA_ (b0_ aA) (hA_ (b1_ aA) (hA_ (b2_ aA) (hA_ (b3_ aA) (hZ_ (b4_ aA)))))) (fun hHeld => ?_); refine qm_ delta_Right.tab4 delta_Right.bits4 (fun HT_ HW_ => ?_); generalize w24.drew = w25 at aA HB hHeld ⊢; refine tL_ 0 HT_ HW_ hHeld ?_; refine oN_ 1 13 18 3 HT_ (fun K hK => ?_); refine goes_ Try.func42 (by kernel_rfl) rfl #[.agg #[.int .i64 ((rd_T53 l0 aB).f0), .int .i64 ((rd_T53 l0 aB).f1), .int .i64 ((rd_T53 l0 aB).f2.f0), .int .i64 ((rd_T53 l0 aB).f2.f1), .slice aG ((rd_T53 l0 aB).f2.f2).length aF]] (by rfl) rfl rfl aR_ ?_
        with_reducible refine (delta_may.calls k1 ((rd_T53 l0 aB).f0) ((rd_T53 l0 aB).f1) ((rd_T53 l0 aB).f2.f0) ((rd_T53 l0 aB).f2.f1) _ _ ((rd_T53 l0 aB).f2.f2) true _ ?side1 ?side2 A5.out).mono ?_
        (case side1 => exact cX_ (Kd.qf_ aV.out HB.out)); (case side2 => exact aW.out); rintro e w26 ⟨rfl, hb⟩; refine ⟨_, rfl, ?_⟩; replace aA := kB_ aA hb; replace HB := sB_ HB hb; (try clear hb); refine hK.out _ _ (c5_ aA) (fun hHeld => ?_); clear hK K; refine norm_ (a' := ?_) ?_ ?_; rotate_left
        ·show Act.put _ (some 13) _ = _
         simp only [Act.put, sa_, sb_, sc_, i64_w, i32_w]; rfl
        refine up0_ 2 ?_; (iterate 16 first | refine vN_ ?_ | refine pN_ ?_); refine dN_ HT_ ?_; (try go_wp2)
        go_roundg k1
        case measure => have := HK1.out; omega
        case rel => exact ⟨(wrap64 (aB + 1)), eS_, H', ⟨by have := HK1.out; omega⟩, ⟨by exact hSet_ HB⟩⟩
      ·replace c6 := Bool.eq_false_iff.mpr c6; subst c6
       have H1 : (some false) = some r := by rw [if_neg (show ¬ (false = true) by decide)] at H; exact H
       clear H; have H := H1; clear H1; obtain rfl := Option.some.inj H; have bI : 0 ≤ (aB : Int) := dA_; have bH : aB < (l0.length : Int) := dA_; obtain ⟨bW, aG, aF, cA, aL, aK, aJ, aI, aH, aM, aN⟩ := at_T53 HR0.out aB bI bH; cases cA; replace aL := hC_ HB aL; replace aK := hC_ HB aK; replace aJ := hC_ HB aJ; replace aI := hC_ HB aI; replace aH := hC_ HB aH; have aV := Zq_.mk aN; have aW := Zq_.mk aM; clear aN aM; replace bI := eq_true bI; replace bH := eq_true bH
       try go_wp2_with (first | ((with_reducible refine qb_ (N := 4) rfl ?_); refine bE_ 4 #[.int .i64 0, .int .i64 0, .int .i64 0, .int .i64 0, .slice none 0 0] 53 ?_; intro aD hg w27 hbox hb; have aA := Zq_.mk (hbox); have cG := gW_ (w := w) hg (hB_ HB); have cB := gW_ (w := w) hg (hB_ HB); replace HB := sB_ HB hb; clear hb hbox hg; obtain ⟨hcz28_0, hcz28_1, hcz28_2, hcz28_3, hcz28_4⟩ := c5_ aA; obtain ⟨hfz28_0, hfz28_1, hfz28_2, hfz28_3, hfz28_4⟩ := f5_ aA))
       obtain ⟨w29, hW_⟩ : ∃ w_, w_ = (((((w27.setCell ⟨aD, 0, none⟩ (.int .i64 ((rd_T53 l0 aB).f0))).setCell ⟨aD, 1, none⟩ (.int .i64 ((rd_T53 l0 aB).f1))).setCell ⟨aD, 2, none⟩ (.int .i64 ((rd_T53 l0 aB).f2.f0))).setCell ⟨aD, 3, none⟩ (.int .i64 ((rd_T53 l0 aB).f2.f1))).setCell ⟨aD, 4, none⟩ (.slice aG ((rd_T53 l0 aB).f2.f2).length aF)) := ⟨_, rfl⟩; have n0_ : Zq_ (w29.heap[aD]? = some (.cells #[.int .i64 ((rd_T53 l0 aB).f0), .int .i64 ((rd_T53 l0 aB).f1), .int .i64 ((rd_T53 l0 aB).f2.f0), .int .i64 ((rd_T53 l0 aB).f2.f1), .slice aG ((rd_T53 l0 aB).f2.f2).length aF] 53 (0, 0))) := (by subst hW_; exact ⟨by exact bW5_ (bK_ aA)⟩); have n1_ : Zq_ (Below w.heap.size w w29) := (by subst hW_; exact ⟨by exact hSet_ HB⟩); (try clear aA); (try clear HB); rw [← hW_]; clear hW_; have aA := n0_; have HB := n1_; clear n0_ n1_; replace aA := Zq_.mk (qc_ aA.out); replace HB := Zq_.mk (qe_ HB.out); refine gS_ 18 (hA_ (b0_ aA) (hA_ (b1_ aA) (hA_ (b2_ aA) (hA_ (b3_ aA) (hZ_ (b4_ aA)))))) (fun hHeld => ?_); refine qm_ delta_Right.tab4 delta_Right.bits4 (fun HT_ HW_ => ?_); generalize w29.drew = w30 at aA HB hHeld ⊢; refine tL_ 0 HT_ HW_ hHeld ?_; refine oN_ 1 13 18 3 HT_ (fun K hK => ?_); refine goes_ Try.func42 (by kernel_rfl) rfl #[.agg #[.int .i64 ((rd_T53 l0 aB).f0), .int .i64 ((rd_T53 l0 aB).f1), .int .i64 ((rd_T53 l0 aB).f2.f0), .int .i64 ((rd_T53 l0 aB).f2.f1), .slice aG ((rd_T53 l0 aB).f2.f2).length aF]] (by rfl) rfl rfl aR_ ?_
       with_reducible refine (delta_may.calls k1 ((rd_T53 l0 aB).f0) ((rd_T53 l0 aB).f1) ((rd_T53 l0 aB).f2.f0) ((rd_T53 l0 aB).f2.f1) _ _ ((rd_T53 l0 aB).f2.f2) false _ ?side1 ?side2 A5.out).mono ?_
       (case side1 => exact cX_ (Kd.qf_ aV.out HB.out)); (case side2 => exact aW.out); rintro e w31 ⟨rfl, hb⟩; refine ⟨_, rfl, ?_⟩; replace aA := kB_ aA hb; replace HB := sB_ HB hb; (try clear hb); refine hK.out _ _ (c5_ aA) (fun hHeld => ?_); clear hK K; refine norm_ (a' := ?_) ?_ ?_; rotate_left
       ·show Act.put _ (some 13) _ = _
        simp only [Act.put, sa_, sb_, sc_, i64_w, i32_w]; rfl
       refine up0_ 2 ?_; (iterate 16 first | refine vN_ ?_ | refine pN_ ?_); refine dN_ HT_ ?_; (try go_wp2)
       go_ret
       exact ⟨by exact eW_, by exact hSet_ HB⟩
     ·rw [if_neg c4] at H; exact absurd H (by simp)
    ·rw [if_neg c3] at H; exact absurd H (by simp)
   ·rw [if_neg c2] at H; have c2b0 : decide (aB < (l0.length : Int)) = false := decide_eq_false c2; clear c2; obtain rfl := Option.some.inj H
    go_wp2
    go_ret
    exact ⟨by exact eW_, hB_ HB⟩
end Go.Proofs.Ytgipbmjkgciccaa.P

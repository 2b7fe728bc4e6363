/- What printed functions come to, and that the machine's calls do it. No condition. -/
import Derived.Test.YtjlemkdilbnmlaaPChoiceOne
namespace Go.Proofs.Ytjlemkdilbnmlaa.P
set_option maxHeartbeats 8000000
set_option maxRecDepth 100000
open Go.RowKit Go.Proofs.YtjlemkdilbnmlaaW.PrintWords Go.Proofs.YtjlemkdilbnmlaaW.PrintLast Go.Proofs.YtjlemkdilbnmlaaW.PrintMore
attribute [local go_sem] max2_int min2_int max_two min_two max_three min_three max_four min_four Go.Proofs.YtjlemkdilbnmlaaW.Hw.string_gtr
set_option linter.unusedVariables false
set_option linter.unusedSimpArgs false
mutual
def law14_ChoiceSorts.l0 : Nat → List Int → Int → List Int → Int → Option (Bool)
 | 0, _, _, _, _ => none
 | k + 1, x0, x1, x5, x6 => if x6 < (x5.length : Int) then (if x6 > 0 then (if 0 ≤ (wrap64 (x6 - 1)) then (if (wrap64 (x6 - 1)) < (x5.length : Int) then (if 0 ≤ x6 then (if (rd x5 (wrap64 (x6 - 1))) ≥ (rd x5 x6) then (some false) else ((choice_Has.f k x0 (rd x5 x6)).bind fun aM => (if aM = true then (law14_ChoiceSorts.l0 k x0 x1 x5 (wrap64 (x6 + 1))) else (some false)))) else (none)) else (none)) else (none)) else (if 0 ≤ x6 then ((choice_Has.f k x0 (rd x5 x6)).bind fun bJ => (if bJ = true then (law14_ChoiceSorts.l0 k x0 x1 x5 (wrap64 (x6 + 1))) else (some false))) else (none))) else (law14_ChoiceSorts.l1 k x0 x1 x5 0)
def law14_ChoiceSorts.l1 : Nat → List Int → Int → List Int → Int → Option (Bool)
 | 0, _, _, _, _ => none
 | k + 1, x0, x1, x5, x7 => if x7 < (x0.length : Int) then (if 0 ≤ x7 then ((choice_Has.f k x5 (rd x0 x7)).bind fun bI => (if bI = true then (law14_ChoiceSorts.l1 k x0 x1 x5 (wrap64 (x7 + 1))) else (some false))) else (none)) else ((choice_Without.f x0 x1).bind fun aE => ((choice_Has.f k aE x1).bind fun bH => (if bH = true then (some false) else (if (aE.length : Int) ≤ (x0.length : Int) then ((choice_Has.f k x0 x1).bind fun aI => (if (aI == (decide ((aE.length : Int) < (x0.length : Int)))) = true then ((choice_Rising.f x5).bind fun aJ => ((ref06_Ints.f k aJ x5).bind fun aK => (some aK))) else (some false))) else (some false)))))
end
def law14_ChoiceSorts.f (k : Nat) (l0 : List Int) (a1 : Int) : Option (Bool) := (law14_alive.f k).bind fun aN => (if aN = true then (if (l0.length : Int) > 200 then (some true) else ((choice_Rising.f l0).bind fun aB => (law14_ChoiceSorts.l0 k l0 a1 aB 0))) else (some false))
theorem law14_ChoiceSorts.mono_l : ∀ k, (∀ y0 y1 y2 y3, LeO (law14_ChoiceSorts.l0 k y0 y1 y2 y3) (law14_ChoiceSorts.l0 (k + 1) y0 y1 y2 y3)) ∧ (∀ y0 y1 y2 y3, LeO (law14_ChoiceSorts.l1 k y0 y1 y2 y3) (law14_ChoiceSorts.l1 (k + 1) y0 y1 y2 y3))
 | 0 => ⟨fun _ _ _ _ r h => by simp [law14_ChoiceSorts.l0] at h, fun _ _ _ _ r h => by simp [law14_ChoiceSorts.l1] at h⟩
 | k + 1 => by
  obtain ⟨ih0, ih1⟩ := law14_ChoiceSorts.mono_l k; refine ⟨?_, ?_⟩
  ·intro y0 y1 y2 y3
   unfold law14_ChoiceSorts.l0
   with_reducible repeat' first | exact ih0 _ _ _ _ | exact ih1 _ _ _ _ | exact law14_alive.mono _ | exact ref06_Ints.mono _ _ _ | exact choice_Has.mono _ _ _ | exact LeO.refl _ | exact LeO.none _ | refine LeO.ite ?_ ?_ | refine LeO.bind ?_ (fun _ => ?_)
  ·intro y0 y1 y2 y3
   unfold law14_ChoiceSorts.l1
   with_reducible repeat' first | exact ih0 _ _ _ _ | exact ih1 _ _ _ _ | exact law14_alive.mono _ | exact ref06_Ints.mono _ _ _ | exact choice_Has.mono _ _ _ | exact LeO.refl _ | exact LeO.none _ | refine LeO.ite ?_ ?_ | refine LeO.bind ?_ (fun _ => ?_)
theorem law14_ChoiceSorts.mono : ∀ a0 a1 k, LeO (law14_ChoiceSorts.f k a0 a1) (law14_ChoiceSorts.f (k + 1) a0 a1) := by
 intro a0 a1 k; obtain ⟨ih0, ih1⟩ := law14_ChoiceSorts.mono_l k
 unfold law14_ChoiceSorts.f
 with_reducible repeat' first | exact ih0 _ _ _ _ | exact ih1 _ _ _ _ | exact law14_alive.mono _ | exact ref06_Ints.mono _ _ _ | exact choice_Has.mono _ _ _ | exact LeO.refl _ | exact LeO.none _ | refine LeO.ite ?_ ?_ | refine LeO.bind ?_ (fun _ => ?_)
theorem law14_ChoiceSorts.calls (k : Nat) (A0 : Option Addr) (c0 : Nat) (l0 : List Int) (a1 : Int) (r : Bool) (w : World) (hr0 : Kd.C (Kd.int .i64) w A0 l0.length l0) (hc0 : l0.length ≤ c0) (h : law14_ChoiceSorts.f k l0 a1 = some r) (hrt : r = true) :
  Calls Try.prog 6 #[.slice A0 l0.length c0, .int .i64 a1] w fun e w' => e = .returned (.bool r) ∧ Below w.heap.size w w' := by
 have HRT := Zq_.mk hrt; clear hrt; have HR0 := Zq_.mk hr0; have HC0 := Zq_.mk hc0; clear hr0 hc0; have HB := Zq_.mk (Below.refl w.heap.size w); have H : ((law14_alive.f k).bind fun aN => (if aN = true then (if (l0.length : Int) > 200 then (some true) else ((choice_Rising.f l0).bind fun aB => (law14_ChoiceSorts.l0 k l0 a1 aB 0))) else (some false))) = some r := h; clear h; replace H := ob_ H; obtain ⟨aN, A30, H⟩ := H; (try dsimp only at H); have A3 := Zq_.mk A30; clear A30
 by_cases c4 : aN = true
 ·subst c4
  rw [if_pos rfl] at H
  by_cases c5 : (l0.length : Int) > 200
  ·rw [if_pos c5] at H; have bN : decide (200 < (l0.length : Int)) = true := decide_eq_true c5; have bM : decide (200 < l0.length) = true := decide_eq_true (by omega); clear c5; obtain rfl := Option.some.inj H
   go_enter Try.func6, Try.ntmps6
   go_wp2_with (first | (go_at_call 7; (with_reducible refine (law14_alive.calls k  true _ A3.out).mono ?_); rintro e w6 ⟨rfl, hb⟩; replace HB := sB_ HB hb; (try clear hb)))
   repeat (go_quiet (first | (go_at_call 7; (with_reducible refine (law14_alive.calls k  true _ A3.out).mono ?_); rintro e w6 ⟨rfl, hb⟩; replace HB := sB_ HB hb; (try clear hb))); try go_wp2_with (first | (go_at_call 7; (with_reducible refine (law14_alive.calls k  true _ A3.out).mono ?_); rintro e w6 ⟨rfl, hb⟩; replace HB := sB_ HB hb; (try clear hb))))
   go_ret
   exact ⟨by exact eW_, hB_ HB⟩
  ·rw [if_neg c5] at H; have bN : decide (200 < (l0.length : Int)) = false := decide_eq_false c5; have bM : decide (200 < l0.length) = false := decide_eq_false (by omega); clear c5; replace H := ob_ H; obtain ⟨aB, A70, H⟩ := H; (try dsimp only at H); have A7 := Zq_.mk A70; clear A70; have H' := Zq_.mk H; clear H
   go_enter Try.func6, Try.ntmps6
   go_wp2_with (first | (go_at_call 7; (with_reducible refine (law14_alive.calls k  true _ A3.out).mono ?_); rintro e w8 ⟨rfl, hb⟩; replace HB := sB_ HB hb; (try clear hb)) | (go_at_call 18; (with_reducible refine (choice_Rising.calls _ _ l0 aB _ ?side1 ?side2 A7.out).mono ?_); (case side1 => exact cX_ (Kd.C_below HR0.out HB.out)); (case side2 => exact HC0.out); rintro e w9 ⟨v103, rfl, ho0, hb⟩; have aR := Zq_.mk (Kd.R_lower ho0 (qa_ (hB_ HB))); replace HB := sB_ HB hb; (try clear hb); (try clear ho0)))
   repeat (go_quiet (first | (go_at_call 7; (with_reducible refine (law14_alive.calls k  true _ A3.out).mono ?_); rintro e w8 ⟨rfl, hb⟩; replace HB := sB_ HB hb; (try clear hb)) | (go_at_call 18; (with_reducible refine (choice_Rising.calls _ _ l0 aB _ ?side1 ?side2 A7.out).mono ?_); (case side1 => exact cX_ (Kd.C_below HR0.out HB.out)); (case side2 => exact HC0.out); rintro e w9 ⟨v103, rfl, ho0, hb⟩; have aR := Zq_.mk (Kd.R_lower ho0 (qa_ (hB_ HB))); replace HB := sB_ HB hb; (try clear hb); (try clear ho0))); try go_wp2_with (first | (go_at_call 7; (with_reducible refine (law14_alive.calls k  true _ A3.out).mono ?_); rintro e w8 ⟨rfl, hb⟩; replace HB := sB_ HB hb; (try clear hb)) | (go_at_call 18; (with_reducible refine (choice_Rising.calls _ _ l0 aB _ ?side1 ?side2 A7.out).mono ?_); (case side1 => exact cX_ (Kd.C_below HR0.out HB.out)); (case side2 => exact HC0.out); rintro e w9 ⟨v103, rfl, ho0, hb⟩; have aR := Zq_.mk (Kd.R_lower ho0 (qa_ (hB_ HB))); replace HB := sB_ HB hb; (try clear hb); (try clear ho0))))
   go_loopg [6] k (fun kq v6 w' => ∃ (aC : Int), v6 = .int .i64 aC ∧ Zq_ (law14_ChoiceSorts.l0 kq l0 a1 aB aC = some r) ∧ Zq_ (kq ≤ k) ∧ Zq_ (Kd.R (Kd.int .i64) 3 w' w.heap.size (fun _ => True) v103 aB) ∧ Zq_ (Below w.heap.size w w'))
   case atStart => exact ⟨(0), eS_, H', ⟨Nat.le_refl _⟩, ⟨by (with_reducible repeat (first | apply Kd.R_alloc | apply Kd.R_drewN | apply Kd.R_drew)); exact aR.out⟩, ⟨hB_ HB⟩⟩
   case round =>
    clear H'
    try clear p2
    try clear c4
    try clear c5
    try clear bN
    try clear bM
    try clear c6
    obtain ⟨aC, rfl, HA, HK1, aA, HB⟩ := hrel
    cases gk with
    | zero => exact absurd HA.out (by simp [law14_ChoiceSorts.l0])
    | succ k1 =>
     have H := HA.out; clear HA; simp only [law14_ChoiceSorts.l0] at H
     by_cases c10 : aC < (aB.length : Int)
     ·rw [if_pos c10] at H; have bF : decide (aC < (aB.length : Int)) = true := decide_eq_true c10; clear c10
      by_cases c11 : aC > 0
      ·rw [if_pos c11] at H; have bE : decide (0 < aC) = true := decide_eq_true c11; clear c11; obtain ⟨aH, aO⟩ : ∃ j_ : Int, (wrap64 (aC - 1)) = j_ := ⟨_, rfl⟩
       replace H : (if 0 ≤ (aH) then (if (aH) < (aB.length : Int) then (if 0 ≤ aC then (if (rd aB (aH)) ≥ (rd aB aC) then (some false) else ((choice_Has.f k1 l0 (rd aB aC)).bind fun aM => (if aM = true then (law14_ChoiceSorts.l0 k1 l0 a1 aB (wrap64 (aC + 1))) else (some false)))) else (none)) else (none)) else (none)) = some r := by first | (rw [aO] at H; exact H) | (simp only [aO] at H ⊢; exact H)
       have hji12w : (IntKind.i64.wrap (aC - 1)) = aH := (i64_w _).trans aO
       by_cases c13 : 0 ≤ (aH)
       ·rw [if_pos c13] at H; have bV : decide (0 ≤ (aH)) = true := decide_eq_true c13; clear c13
        by_cases c14 : (aH) < (aB.length : Int)
        ·rw [if_pos c14] at H; have bU : decide ((aH) < (aB.length : Int)) = true := decide_eq_true c14; clear c14
         by_cases c15 : 0 ≤ aC
         ·rw [if_pos c15] at H; have bT : decide (0 ≤ aC) = true := decide_eq_true c15; clear c15
          by_cases c16 : (rd aB (aH)) ≥ (rd aB aC)
          ·rw [if_pos c16] at H; exact absurd ((Option.some.inj H).trans HRT.out) (by decide)
          ·rw [if_neg c16] at H; have bS : decide ((rd aB aC) ≤ (rd aB (aH))) = false := decide_eq_false c16; clear c16; replace H := ob_ H; obtain ⟨aM, cH, H⟩ := H; (try dsimp only at H); have A18 := Zq_.mk cH; clear cH
           by_cases c19 : aM = true
           ·subst c19
            rw [if_pos rfl] at H; have H' := Zq_.mk H; clear H; obtain ⟨Ao20, co20, eo20⟩ := Kd.R_slice aA.out; subst eo20; have aZ : 0 ≤ ((aH) : Int) := dA_; have aV : (aH) < (aB.length : Int) := dA_; obtain ⟨bG, e105, bD⟩ := Kd.at_int (Kd.R_reads' aA.out).2.2 (aH) aZ aV; cases e105; replace aZ := eq_true aZ; replace aV := eq_true aV; have aY : 0 ≤ (aC : Int) := dA_; have aU : aC < (aB.length : Int) := dA_; obtain ⟨bX, e106, bC⟩ := Kd.at_int (Kd.R_reads' aA.out).2.2 aC aY aU; obtain rfl : bG = bX := (by injection e106); replace aY := eq_true aY; replace aU := eq_true aU; have aX : 0 ≤ (aC : Int) := dA_; have aT : aC < (aB.length : Int) := dA_; obtain ⟨bW, e107, bB⟩ := Kd.at_int (Kd.R_reads' aA.out).2.2 aC aX aT; obtain rfl : bG = bW := (by injection e107); replace aX := eq_true aX; replace aT := eq_true aT
            go_wp2_with (first | (go_at_call 16; (with_reducible refine (choice_Has.calls k1 _ _ l0 (rd aB aC) true _ ?side1 ?side2 A18.out).mono ?_); (case side1 => exact cX_ (Kd.C_below HR0.out HB.out)); (case side2 => exact HC0.out); rintro e w' ⟨rfl, ⟨nd, rfl⟩⟩; (try first | exact ⟨rfl, _, World.drewN_drewN _ _ _⟩ | exact ⟨rfl, _, Eq.trans (World.drewN_drewN _ _ _) (congrArg (World.drewN _) (Nat.add_assoc _ _ _))⟩)))
            repeat (go_quiet (first | (go_at_call 16; (with_reducible refine (choice_Has.calls k1 _ _ l0 (rd aB aC) true _ ?side1 ?side2 A18.out).mono ?_); (case side1 => exact cX_ (Kd.C_below HR0.out HB.out)); (case side2 => exact HC0.out); rintro e w' ⟨rfl, ⟨nd, rfl⟩⟩; (try first | exact ⟨rfl, _, World.drewN_drewN _ _ _⟩ | exact ⟨rfl, _, Eq.trans (World.drewN_drewN _ _ _) (congrArg (World.drewN _) (Nat.add_assoc _ _ _))⟩))); try go_wp2_with (first | (go_at_call 16; (with_reducible refine (choice_Has.calls k1 _ _ l0 (rd aB aC) true _ ?side1 ?side2 A18.out).mono ?_); (case side1 => exact cX_ (Kd.C_below HR0.out HB.out)); (case side2 => exact HC0.out); rintro e w' ⟨rfl, ⟨nd, rfl⟩⟩; (try first | exact ⟨rfl, _, World.drewN_drewN _ _ _⟩ | exact ⟨rfl, _, Eq.trans (World.drewN_drewN _ _ _) (congrArg (World.drewN _) (Nat.add_assoc _ _ _))⟩))))
            go_roundg k1
            case measure => have := HK1.out; omega
            case rel => exact ⟨(wrap64 (aC + 1)), eS_, H', ⟨by have := HK1.out; omega⟩, ⟨by (with_reducible repeat (first | apply Kd.R_alloc | apply Kd.R_drewN | apply Kd.R_drew)); exact aA.out⟩, ⟨hB_ HB⟩⟩
           ·rw [if_neg c19] at H; exact absurd ((Option.some.inj H).trans HRT.out) (by decide)
         ·rw [if_neg c15] at H; exact absurd H (by simp)
        ·rw [if_neg c14] at H; exact absurd H (by simp)
       ·rw [if_neg c13] at H; exact absurd H (by simp)
      ·rw [if_neg c11] at H; have bE : decide (0 < aC) = false := decide_eq_false c11; clear c11
       by_cases c22 : 0 ≤ aC
       ·rw [if_pos c22] at H; have bR : decide (0 ≤ aC) = true := decide_eq_true c22; clear c22; replace H := ob_ H; obtain ⟨bJ, cG, H⟩ := H; (try dsimp only at H); have A23 := Zq_.mk cG; clear cG
        by_cases c24 : bJ = true
        ·subst c24
         rw [if_pos rfl] at H; have H' := Zq_.mk H; clear H; obtain ⟨Ao25, co25, eo25⟩ := Kd.R_slice aA.out; subst eo25; have aW : 0 ≤ (aC : Int) := dA_; have aS : aC < (aB.length : Int) := dA_; obtain ⟨ad109, e109, bA⟩ := Kd.at_int (Kd.R_reads' aA.out).2.2 aC aW aS; cases e109; replace aW := eq_true aW; replace aS := eq_true aS
         go_wp2_with (first | (go_at_call 16; (with_reducible refine (choice_Has.calls k1 _ _ l0 (rd aB aC) true _ ?side1 ?side2 A23.out).mono ?_); (case side1 => exact cX_ (Kd.C_below HR0.out HB.out)); (case side2 => exact HC0.out); rintro e w' ⟨rfl, ⟨nd, rfl⟩⟩; (try first | exact ⟨rfl, _, World.drewN_drewN _ _ _⟩ | exact ⟨rfl, _, Eq.trans (World.drewN_drewN _ _ _) (congrArg (World.drewN _) (Nat.add_assoc _ _ _))⟩)))
         repeat (go_quiet (first | (go_at_call 16; (with_reducible refine (choice_Has.calls k1 _ _ l0 (rd aB aC) true _ ?side1 ?side2 A23.out).mono ?_); (case side1 => exact cX_ (Kd.C_below HR0.out HB.out)); (case side2 => exact HC0.out); rintro e w' ⟨rfl, ⟨nd, rfl⟩⟩; (try first | exact ⟨rfl, _, World.drewN_drewN _ _ _⟩ | exact ⟨rfl, _, Eq.trans (World.drewN_drewN _ _ _) (congrArg (World.drewN _) (Nat.add_assoc _ _ _))⟩))); try go_wp2_with (first | (go_at_call 16; (with_reducible refine (choice_Has.calls k1 _ _ l0 (rd aB aC) true _ ?side1 ?side2 A23.out).mono ?_); (case side1 => exact cX_ (Kd.C_below HR0.out HB.out)); (case side2 => exact HC0.out); rintro e w' ⟨rfl, ⟨nd, rfl⟩⟩; (try first | exact ⟨rfl, _, World.drewN_drewN _ _ _⟩ | exact ⟨rfl, _, Eq.trans (World.drewN_drewN _ _ _) (congrArg (World.drewN _) (Nat.add_assoc _ _ _))⟩))))
         go_roundg k1
         case measure => have := HK1.out; omega
         case rel => exact ⟨(wrap64 (aC + 1)), eS_, H', ⟨by have := HK1.out; omega⟩, ⟨by (with_reducible repeat (first | apply Kd.R_alloc | apply Kd.R_drewN | apply Kd.R_drew)); exact aA.out⟩, ⟨hB_ HB⟩⟩
        ·rw [if_neg c24] at H; exact absurd ((Option.some.inj H).trans HRT.out) (by decide)
       ·rw [if_neg c22] at H; exact absurd H (by simp)
     ·rw [if_neg c10] at H; have bF : decide (aC < (aB.length : Int)) = false := decide_eq_false c10; clear c10; have H' := Zq_.mk H; clear H; obtain ⟨Ao27, co27, eo27⟩ := Kd.R_slice aA.out; subst eo27
      go_wp2
      repeat (go_quiet (fail); try go_wp2)
      go_loopg [7] k1 (fun kq v7 w' => ∃ (aG : Int), v7 = .int .i64 aG ∧ Zq_ (law14_ChoiceSorts.l1 kq l0 a1 aB aG = some r) ∧ Zq_ (kq ≤ k1) ∧ Zq_ (Kd.R (Kd.int .i64) 3 w' w.heap.size (fun _ => True) (.slice Ao27 aB.length co27) aB) ∧ Zq_ (Below w.heap.size w w'))
      case atStart => exact ⟨(0), eS_, H', ⟨Nat.le_refl _⟩, ⟨by (with_reducible repeat (first | apply Kd.R_alloc | apply Kd.R_drewN | apply Kd.R_drew)); exact aA.out⟩, ⟨hB_ HB⟩⟩
      case round =>
       clear H'
       try clear c1
       try clear p1
       try clear q1
       try clear hx1
       try clear c2
       try clear p2
       try clear c4
       try clear c5
       try clear bN
       try clear bM
       try clear c6
       try clear p6
       try clear c10
       try clear bF
       try clear p10
       try clear q10
       try clear hx10
       try clear c11
       try clear bE
       try clear c13
       try clear bV
       try clear c14
       try clear bU
       try clear c15
       try clear bT
       try clear c16
       try clear bS
       try clear c19
       try clear c22
       try clear bR
       try clear c24
       try clear bD
       try clear bC
       try clear bB
       try clear bA
       try clear aZ
       try clear aY
       try clear aX
       try clear aW
       try clear p2
       try clear aV
       try clear aU
       try clear aT
       try clear aS
       obtain ⟨aG, rfl, HA, HK2, aA, HB⟩ := hrel
       cases gk with
       | zero => exact absurd HA.out (by simp [law14_ChoiceSorts.l1])
       | succ k2 =>
        have H := HA.out; clear HA; simp only [law14_ChoiceSorts.l1] at H
        by_cases c28 : aG < (l0.length : Int)
        ·rw [if_pos c28] at H; have bQ : decide (aG < (l0.length : Int)) = true := decide_eq_true c28; clear c28
         by_cases c29 : 0 ≤ aG
         ·rw [if_pos c29] at H; have c29b0 : decide (0 ≤ aG) = true := decide_eq_true c29; clear c29; replace H := ob_ H; obtain ⟨bI, cF, H⟩ := H; (try dsimp only at H); have A30 := Zq_.mk cF; clear cF
          by_cases c31 : bI = true
          ·subst c31
           rw [if_pos rfl] at H; have H' := Zq_.mk H; clear H; have bL : 0 ≤ (aG : Int) := dA_; have bK : aG < (l0.length : Int) := dA_; obtain ⟨ad111, e111, aL⟩ := Kd.at_int HR0.out aG bL bK; cases e111; replace aL := hC_ HB aL; replace bL := eq_true bL; replace bK := eq_true bK
           go_wp2_with (first | (go_at_call 16; (with_reducible refine (choice_Has.calls k2 _ _ aB (rd l0 aG) true _ ?side1 ?side2 A30.out).mono ?_); (case side1 => exact cX_ ((Kd.R_reads' aA.out).2.2)); (case side2 => exact (Kd.R_reads' aA.out).2.1); rintro e w' ⟨rfl, ⟨nd, rfl⟩⟩; (try first | exact ⟨rfl, _, World.drewN_drewN _ _ _⟩ | exact ⟨rfl, _, Eq.trans (World.drewN_drewN _ _ _) (congrArg (World.drewN _) (Nat.add_assoc _ _ _))⟩)))
           repeat (go_quiet (first | (go_at_call 16; (with_reducible refine (choice_Has.calls k2 _ _ aB (rd l0 aG) true _ ?side1 ?side2 A30.out).mono ?_); (case side1 => exact cX_ ((Kd.R_reads' aA.out).2.2)); (case side2 => exact (Kd.R_reads' aA.out).2.1); rintro e w' ⟨rfl, ⟨nd, rfl⟩⟩; (try first | exact ⟨rfl, _, World.drewN_drewN _ _ _⟩ | exact ⟨rfl, _, Eq.trans (World.drewN_drewN _ _ _) (congrArg (World.drewN _) (Nat.add_assoc _ _ _))⟩))); try go_wp2_with (first | (go_at_call 16; (with_reducible refine (choice_Has.calls k2 _ _ aB (rd l0 aG) true _ ?side1 ?side2 A30.out).mono ?_); (case side1 => exact cX_ ((Kd.R_reads' aA.out).2.2)); (case side2 => exact (Kd.R_reads' aA.out).2.1); rintro e w' ⟨rfl, ⟨nd, rfl⟩⟩; (try first | exact ⟨rfl, _, World.drewN_drewN _ _ _⟩ | exact ⟨rfl, _, Eq.trans (World.drewN_drewN _ _ _) (congrArg (World.drewN _) (Nat.add_assoc _ _ _))⟩))))
           go_roundg k2
           case measure => have := HK1.out; have := HK2.out; omega
           case rel => exact ⟨(wrap64 (aG + 1)), eS_, H', ⟨by have := HK1.out; have := HK2.out; omega⟩, ⟨by (with_reducible repeat (first | apply Kd.R_alloc | apply Kd.R_drewN | apply Kd.R_drew)); exact aA.out⟩, ⟨hB_ HB⟩⟩
          ·rw [if_neg c31] at H; exact absurd ((Option.some.inj H).trans HRT.out) (by decide)
         ·rw [if_neg c29] at H; exact absurd H (by simp)
        ·rw [if_neg c28] at H; have bQ : decide (aG < (l0.length : Int)) = false := decide_eq_false c28; clear c28; replace H := ob_ H; obtain ⟨aE, cE, H⟩ := H; (try dsimp only at H); have A32 := Zq_.mk cE; clear cE; replace H := ob_ H; obtain ⟨bH, cD, H⟩ := H; (try dsimp only at H); have A33 := Zq_.mk cD; clear cD
         by_cases c34 : bH = true
         ·rw [if_pos c34] at H; exact absurd ((Option.some.inj H).trans HRT.out) (by decide)
         ·replace c34 := Bool.eq_false_iff.mpr c34; subst c34
          have H1 : (if (aE.length : Int) ≤ (l0.length : Int) then ((choice_Has.f k2 l0 a1).bind fun aI => (if (aI == (decide ((aE.length : Int) < (l0.length : Int)))) = true then ((choice_Rising.f aB).bind fun aJ => ((ref06_Ints.f k2 aJ aB).bind fun aK => (some aK))) else (some false))) else (some false)) = some r := by rw [if_neg (show ¬ (false = true) by decide)] at H; exact H
          clear H; have H := H1; clear H1
          by_cases c37 : (aE.length : Int) ≤ (l0.length : Int)
          ·rw [if_pos c37] at H; have c37b0 : decide ((aE.length : Int) ≤ (l0.length : Int)) = true := decide_eq_true c37; have c37b1 : decide (aE.length ≤ l0.length) = true := decide_eq_true (Int.ofNat_le.mp c37); clear c37; replace H := ob_ H; obtain ⟨aI, cC, H⟩ := H; (try dsimp only at H); have A38 := Zq_.mk cC; clear cC
           by_cases c39 : (aI == (decide ((aE.length : Int) < (l0.length : Int)))) = true
           ·rw [if_pos c39] at H; have c39b0 : (aI == (decide ((aE.length : Int) < (l0.length : Int)))) = true := c39; have c39n : (aI = decide (aE.length < l0.length)) = True := eq_true (by simpa using c39); (try (have c39b1 : decide (aI = (decide ((aE.length : Int) < (l0.length : Int)))) = true := by simpa using c39)); (try (have c39b2 : (aI == (decide ((aE.length : Int) < (l0.length : Int)))) = true := by simpa using c39)); clear c39; replace H := ob_ H; obtain ⟨aJ, cB, H⟩ := H; (try dsimp only at H); have A40 := Zq_.mk cB; clear cB; replace H := ob_ H; obtain ⟨aK, cA, H⟩ := H; (try dsimp only at H); have A41 := Zq_.mk cA; clear cA; obtain rfl := Option.some.inj H
            go_wp2_with (first | (go_at_call 14; (with_reducible refine (choice_Without.calls _ _ l0 a1 aE _ ?side1 ?side2 A32.out).mono ?_); (case side1 => exact cX_ (Kd.C_below HR0.out HB.out)); (case side2 => exact HC0.out); rintro e w42 ⟨v114, rfl, ho0, hb⟩; have aD := Zq_.mk (Kd.R_lower (Kd.R_new' ho0 (Kd.R_lt (vX_ aA))) (qa_ (hB_ HB))); replace aA := Zq_.mk (Kd.R_elder' (vX_ aA) (Kd.R_base ho0) hb); replace HB := sB_ HB hb; (try clear hb); (try clear ho0); obtain ⟨bZ, bP, aQ⟩ := Kd.R_slice aD.out; subst aQ) | (go_at_call 16; (with_reducible refine (choice_Has.calls k2 _ _ aE a1 false _ ?side1 ?side2 A33.out).mono ?_); (case side1 => exact cX_ ((Kd.R_reads' aD.out).2.2)); (case side2 => exact (Kd.R_reads' aD.out).2.1); rintro e w' ⟨rfl, ⟨nd, rfl⟩⟩; (try first | exact ⟨rfl, _, World.drewN_drewN _ _ _⟩ | exact ⟨rfl, _, Eq.trans (World.drewN_drewN _ _ _) (congrArg (World.drewN _) (Nat.add_assoc _ _ _))⟩)) | (go_at_call 16; (with_reducible refine (choice_Has.calls k2 _ _ l0 a1 aI _ ?side1 ?side2 A38.out).mono ?_); (case side1 => exact cX_ (Kd.C_below HR0.out (hB_ HB))); (case side2 => exact HC0.out); rintro e w' ⟨rfl, ⟨nd, rfl⟩⟩; (try first | exact ⟨rfl, _, World.drewN_drewN _ _ _⟩ | exact ⟨rfl, _, Eq.trans (World.drewN_drewN _ _ _) (congrArg (World.drewN _) (Nat.add_assoc _ _ _))⟩)) | (go_at_call 18; (with_reducible refine (choice_Rising.calls _ _ aB aJ _ ?side1 ?side2 A40.out).mono ?_); (case side1 => exact cX_ ((Kd.R_reads' aA.out).2.2)); (case side2 => exact (Kd.R_reads' aA.out).2.1); rintro e w44 ⟨v119, rfl, ho0, hb⟩; have aF := Zq_.mk (Kd.R_lower (Kd.R_new' (Kd.R_new' ho0 (Kd.R_lt (vX_ aA))) (Kd.R_lt (vX_ aD))) (qa_ (hB_ HB))); replace aA := Zq_.mk (Kd.R_elder' (vX_ aA) (Kd.R_base ho0) hb); replace aD := Zq_.mk (Kd.R_elder' (vX_ aD) (Kd.R_base ho0) hb); replace HB := sB_ HB hb; (try clear hb); (try clear ho0); obtain ⟨bY, bO, aP⟩ := Kd.R_slice aF.out; subst aP) | (go_at_call 11; (with_reducible refine (ref06_Ints.calls k2 _ _ aJ _ _ aB aK _ ?side1 ?side2 ?side3 ?side4 A41.out).mono ?_); (case side1 => exact cX_ ((Kd.R_reads' aF.out).2.2)); (case side2 => exact (Kd.R_reads' aF.out).2.1); (case side3 => exact cX_ ((Kd.R_reads' aA.out).2.2)); (case side4 => exact (Kd.R_reads' aA.out).2.1); rintro e w' ⟨rfl, ⟨nd, rfl⟩⟩; (try first | exact ⟨rfl, _, World.drewN_drewN _ _ _⟩ | exact ⟨rfl, _, Eq.trans (World.drewN_drewN _ _ _) (congrArg (World.drewN _) (Nat.add_assoc _ _ _))⟩)))
            repeat (go_quiet (first | (go_at_call 14; (with_reducible refine (choice_Without.calls _ _ l0 a1 aE _ ?side1 ?side2 A32.out).mono ?_); (case side1 => exact cX_ (Kd.C_below HR0.out HB.out)); (case side2 => exact HC0.out); rintro e w42 ⟨v114, rfl, ho0, hb⟩; have aD := Zq_.mk (Kd.R_lower (Kd.R_new' ho0 (Kd.R_lt (vX_ aA))) (qa_ (hB_ HB))); replace aA := Zq_.mk (Kd.R_elder' (vX_ aA) (Kd.R_base ho0) hb); replace HB := sB_ HB hb; (try clear hb); (try clear ho0); obtain ⟨bZ, bP, aQ⟩ := Kd.R_slice aD.out; subst aQ) | (go_at_call 16; (with_reducible refine (choice_Has.calls k2 _ _ aE a1 false _ ?side1 ?side2 A33.out).mono ?_); (case side1 => exact cX_ ((Kd.R_reads' aD.out).2.2)); (case side2 => exact (Kd.R_reads' aD.out).2.1); rintro e w' ⟨rfl, ⟨nd, rfl⟩⟩; (try first | exact ⟨rfl, _, World.drewN_drewN _ _ _⟩ | exact ⟨rfl, _, Eq.trans (World.drewN_drewN _ _ _) (congrArg (World.drewN _) (Nat.add_assoc _ _ _))⟩)) | (go_at_call 16; (with_reducible refine (choice_Has.calls k2 _ _ l0 a1 aI _ ?side1 ?side2 A38.out).mono ?_); (case side1 => exact cX_ (Kd.C_below HR0.out (hB_ HB))); (case side2 => exact HC0.out); rintro e w' ⟨rfl, ⟨nd, rfl⟩⟩; (try first | exact ⟨rfl, _, World.drewN_drewN _ _ _⟩ | exact ⟨rfl, _, Eq.trans (World.drewN_drewN _ _ _) (congrArg (World.drewN _) (Nat.add_assoc _ _ _))⟩)) | (go_at_call 18; (with_reducible refine (choice_Rising.calls _ _ aB aJ _ ?side1 ?side2 A40.out).mono ?_); (case side1 => exact cX_ ((Kd.R_reads' aA.out).2.2)); (case side2 => exact (Kd.R_reads' aA.out).2.1); rintro e w44 ⟨v119, rfl, ho0, hb⟩; have aF := Zq_.mk (Kd.R_lower (Kd.R_new' (Kd.R_new' ho0 (Kd.R_lt (vX_ aA))) (Kd.R_lt (vX_ aD))) (qa_ (hB_ HB))); replace aA := Zq_.mk (Kd.R_elder' (vX_ aA) (Kd.R_base ho0) hb); replace aD := Zq_.mk (Kd.R_elder' (vX_ aD) (Kd.R_base ho0) hb); replace HB := sB_ HB hb; (try clear hb); (try clear ho0); obtain ⟨bY, bO, aP⟩ := Kd.R_slice aF.out; subst aP) | (go_at_call 11; (with_reducible refine (ref06_Ints.calls k2 _ _ aJ _ _ aB aK _ ?side1 ?side2 ?side3 ?side4 A41.out).mono ?_); (case side1 => exact cX_ ((Kd.R_reads' aF.out).2.2)); (case side2 => exact (Kd.R_reads' aF.out).2.1); (case side3 => exact cX_ ((Kd.R_reads' aA.out).2.2)); (case side4 => exact (Kd.R_reads' aA.out).2.1); rintro e w' ⟨rfl, ⟨nd, rfl⟩⟩; (try first | exact ⟨rfl, _, World.drewN_drewN _ _ _⟩ | exact ⟨rfl, _, Eq.trans (World.drewN_drewN _ _ _) (congrArg (World.drewN _) (Nat.add_assoc _ _ _))⟩))); try go_wp2_with (first | (go_at_call 14; (with_reducible refine (choice_Without.calls _ _ l0 a1 aE _ ?side1 ?side2 A32.out).mono ?_); (case side1 => exact cX_ (Kd.C_below HR0.out HB.out)); (case side2 => exact HC0.out); rintro e w42 ⟨v114, rfl, ho0, hb⟩; have aD := Zq_.mk (Kd.R_lower (Kd.R_new' ho0 (Kd.R_lt (vX_ aA))) (qa_ (hB_ HB))); replace aA := Zq_.mk (Kd.R_elder' (vX_ aA) (Kd.R_base ho0) hb); replace HB := sB_ HB hb; (try clear hb); (try clear ho0); obtain ⟨bZ, bP, aQ⟩ := Kd.R_slice aD.out; subst aQ) | (go_at_call 16; (with_reducible refine (choice_Has.calls k2 _ _ aE a1 false _ ?side1 ?side2 A33.out).mono ?_); (case side1 => exact cX_ ((Kd.R_reads' aD.out).2.2)); (case side2 => exact (Kd.R_reads' aD.out).2.1); rintro e w' ⟨rfl, ⟨nd, rfl⟩⟩; (try first | exact ⟨rfl, _, World.drewN_drewN _ _ _⟩ | exact ⟨rfl, _, Eq.trans (World.drewN_drewN _ _ _) (congrArg (World.drewN _) (Nat.add_assoc _ _ _))⟩)) | (go_at_call 16; (with_reducible refine (choice_Has.calls k2 _ _ l0 a1 aI _ ?side1 ?side2 A38.out).mono ?_); (case side1 => exact cX_ (Kd.C_below HR0.out (hB_ HB))); (case side2 => exact HC0.out); rintro e w' ⟨rfl, ⟨nd, rfl⟩⟩; (try first | exact ⟨rfl, _, World.drewN_drewN _ _ _⟩ | exact ⟨rfl, _, Eq.trans (World.drewN_drewN _ _ _) (congrArg (World.drewN _) (Nat.add_assoc _ _ _))⟩)) | (go_at_call 18; (with_reducible refine (choice_Rising.calls _ _ aB aJ _ ?side1 ?side2 A40.out).mono ?_); (case side1 => exact cX_ ((Kd.R_reads' aA.out).2.2)); (case side2 => exact (Kd.R_reads' aA.out).2.1); rintro e w44 ⟨v119, rfl, ho0, hb⟩; have aF := Zq_.mk (Kd.R_lower (Kd.R_new' (Kd.R_new' ho0 (Kd.R_lt (vX_ aA))) (Kd.R_lt (vX_ aD))) (qa_ (hB_ HB))); replace aA := Zq_.mk (Kd.R_elder' (vX_ aA) (Kd.R_base ho0) hb); replace aD := Zq_.mk (Kd.R_elder' (vX_ aD) (Kd.R_base ho0) hb); replace HB := sB_ HB hb; (try clear hb); (try clear ho0); obtain ⟨bY, bO, aP⟩ := Kd.R_slice aF.out; subst aP) | (go_at_call 11; (with_reducible refine (ref06_Ints.calls k2 _ _ aJ _ _ aB aK _ ?side1 ?side2 ?side3 ?side4 A41.out).mono ?_); (case side1 => exact cX_ ((Kd.R_reads' aF.out).2.2)); (case side2 => exact (Kd.R_reads' aF.out).2.1); (case side3 => exact cX_ ((Kd.R_reads' aA.out).2.2)); (case side4 => exact (Kd.R_reads' aA.out).2.1); rintro e w' ⟨rfl, ⟨nd, rfl⟩⟩; (try first | exact ⟨rfl, _, World.drewN_drewN _ _ _⟩ | exact ⟨rfl, _, Eq.trans (World.drewN_drewN _ _ _) (congrArg (World.drewN _) (Nat.add_assoc _ _ _))⟩))))
            go_ret
            exact ⟨by exact eW_, hB_ HB⟩
           ·rw [if_neg c39] at H; exact absurd ((Option.some.inj H).trans HRT.out) (by decide)
          ·rw [if_neg c37] at H; exact absurd ((Option.some.inj H).trans HRT.out) (by decide)
 ·rw [if_neg c4] at H; exact absurd ((Option.some.inj H).trans HRT.out) (by decide)
/-- THE ONE PURE STATEMENT of law14_ChoiceSorts: yours. -/
def law14_ChoiceSorts.Pure : Prop := ∀ (l0 : List Int) (a1 : Int), l0.length ≤ maxLen → l0.length * 8 ≤ 140737488351232 → (∀ x ∈ l0, (Lit.int .i64 x).wf = true) → (Lit.int .i64 a1).wf = true → ∃ k, law14_ChoiceSorts.f k l0 a1 = some true
theorem law14_ChoiceSorts.walk (P : law14_ChoiceSorts.Pure) (a0 : Option Addr) (len0 cap0 : Nat) (z0 : List Int) (a1 : Int) (w : World) (w0 : (a0 = none ∧ len0 = 0 ∧ cap0 = 0 ∧ z0 = []) ∨ ∃ x, a0 = some x ∧ len0 ≤ cap0 ∧ cap0 ≤ maxLen ∧ z0.length = cap0 ∧ (∀ i, i < z0.length → w.cell? (x.add i) = some (.int .i64 (z0.getD i 0))) ∧ ∀ n ∈ z0, (Lit.int .i64 n).wf = true) (y0 : len0 * 8 ≤ 140737488351232) (w1 : (Lit.int .i64 a1).wf = true) :
  Calls Try.prog 6 #[.slice a0 len0 cap0, .int .i64 a1] w fun e w' => e = .returned (.bool true) ∧ Below w.heap.size w w' := by
 obtain ⟨l0, rfl, hr0, hm0, hw0, hc0⟩ := ReadsInt.ofRowC w0; obtain ⟨k, h⟩ := P l0 a1 hm0 y0 hw0 w1; refine (law14_ChoiceSorts.calls k _ _ l0 a1 true w (Kd.C_of_reads (d := (0 : Int)) (h1 := fun _ => rfl) hr0) hc0 h rfl).mono ?_; rintro e w' ⟨rfl, hd⟩; exact ⟨rfl, hd⟩
end Go.Proofs.Ytjlemkdilbnmlaa.P

/- What printed functions come to, and that the machine's calls do it. No condition. -/
import Derived.Test.YtkojggbogdjmcaaP0
import Derived.Test.YtkojggbogdjmcaaHw
namespace Go.Proofs.Ytkojggbogdjmcaa.P
set_option maxHeartbeats 8000000
set_option maxRecDepth 100000
open Go.RowKit Go.Proofs.YtkojggbogdjmcaaW.PrintWords Go.Proofs.YtkojggbogdjmcaaW.PrintLast Go.Proofs.YtkojggbogdjmcaaW.PrintMore
attribute [local go_sem] max2_int min2_int max_two min_two qg_ qf_ max_four min_four Go.Proofs.YtkojggbogdjmcaaW.Hw.string_gtr
set_option linter.unusedVariables false
set_option linter.unusedSimpArgs false
def bits_Add64.f (x y c : Int) : Option (Int × Int) := if c = 0 then some (((x.toNat + y.toNat) % 18446744073709551616 : Nat), ((x.toNat + y.toNat) / 18446744073709551616 : Nat)) else none
theorem bits_Add64.run (x y c t1 t2 : Int) (w : World) (h : bits_Add64.f x y c = some (t1, t2)) :
  (callFunc 27 #[.int .u64 x, .int .u64 y, .int .u64 c]).run Try.prog w = .ok (.value (.tuple #[.int .u64 t1, .int .u64 t2])) w := by
 unfold bits_Add64.f at h
 split at h
 ·rename_i hc
  subst hc; cases h; rw [run_callFunc_extern (fn := Try.f27) Try.func27 (by kernel_rfl) (by kernel_rfl) (by kernel_rfl) (e := add64Entry) (by kernel_rfl)]; rfl
 ·cases h
def bits_Len64.f (x : Int) : Option Int := if 0 ≤ x then (if x ≤ 18446744073709551615 then some (Lib.bitLen x.toNat : Int) else none) else none
theorem len_fin (x y : Int) (c p : Nat) (hc : c ≤ 56) (hy0 : 0 ≤ y) (hy1 : y ≤ 255) (e : y.toNat = x.toNat / p) (s : Lib.bitLen x.toNat = c + Lib.bitLen (x.toNat / p)) :
  wrap64 ((c : Int) + wrap64 (Lib.len8 y)) = (Lib.bitLen x.toNat : Int) := by
 have l := Lib.bitLen_le8' y hy0 hy1; rw [Lib.len8_of y hy0 hy1, s, ← e]; generalize Lib.bitLen y.toNat = L at l ⊢; clear s e
 unfold wrap64
 omega
theorem len_fin0 (y : Int) (hy0 : 0 ≤ y) (hy1 : y ≤ 255) : wrap64 (wrap64 (Lib.len8 y)) = (Lib.bitLen y.toNat : Int) := by
 have l := Lib.bitLen_le8' y hy0 hy1; rw [Lib.len8_of y hy0 hy1]; generalize Lib.bitLen y.toNat = L at l ⊢
 unfold wrap64
 omega
theorem len8tab_get (y : Int) (h : y.toNat < Lib.len8tab.size) : (((Lib.len8tab[y.toNat]'h).toNat : Nat) : Int) = Lib.len8 y := by
 simp only [Lib.len8, ByteArray.getElem?_lt' _ _ h, Option.getD_some]
theorem bits_Len64.calls (x r : Int) (w : World) (h : bits_Len64.f x = some r) :
  Calls Try.prog 33 #[.int .u64 x] w fun e w' => e = .returned (.int .i64 r) ∧ Drawn0 w w' := by
 unfold bits_Len64.f at h
 by_cases h0 : 0 ≤ x
 case neg => rw [if_neg h0] at h; cases h
 rw [if_pos h0] at h
 by_cases h1 : x ≤ 18446744073709551615
 case neg => rw [if_neg h1] at h; cases h
 rw [if_pos h1] at h; obtain rfl := Option.some.inj h; clear h
 go_enter Try.func33, Try.ntmps33
 go_wp2
 all_goals first
  | (exfalso; have hs := Lib.len8tab_size; omega)
  | skip
 all_goals (go_ret; refine ⟨congrArg Ending.returned (congrArg (Value.int IntKind.i64) ?_), Drawn0.refl _⟩)
 all_goals simp only [len8tab_get]
 all_goals first
  | exact len_fin x (x / 4294967296 / 65536 / 256) 56 72057594037927936 (by decide) (by omega) (by omega) (by omega) (Lib.bitLen_shift56 x.toNat (by omega) (by omega))
  | exact len_fin x (x / 4294967296 / 65536) 48 281474976710656 (by decide) (by omega) (by omega) (by omega) (Lib.bitLen_shift48 x.toNat (by omega) (by omega))
  | exact len_fin x (x / 4294967296 / 256) 40 1099511627776 (by decide) (by omega) (by omega) (by omega) (Lib.bitLen_shift40 x.toNat (by omega) (by omega))
  | exact len_fin x (x / 4294967296) 32 4294967296 (by decide) (by omega) (by omega) (by omega) (Lib.bitLen_shift32 x.toNat (by omega) (by omega))
  | exact len_fin x (x / 65536 / 256) 24 16777216 (by decide) (by omega) (by omega) (by omega) (Lib.bitLen_shift24 x.toNat (by omega) (by omega))
  | exact len_fin x (x / 65536) 16 65536 (by decide) (by omega) (by omega) (by omega) (Lib.bitLen_shift16 x.toNat (by omega) (by omega))
  | exact len_fin x (x / 256) 8 256 (by decide) (by omega) (by omega) (by omega) (Lib.bitLen_shift8 x.toNat (by omega) (by omega))
  | exact len_fin0 x (by omega) (by omega)
def ratio_Clamp.f (a0 : Int) (a1 : Int) (a2 : Int) : Option (Int) := if a0 < a1 then (some a1) else (if a0 > a2 then (some a2) else (some a0))
theorem ratio_Clamp.calls (a0 : Int) (a1 : Int) (a2 : Int) (r : Int) (w : World) (h : ratio_Clamp.f a0 a1 a2 = some r) :
  Calls Try.prog 19 #[.int .i64 a0, .int .i64 a1, .int .i64 a2] w fun e w' => e = .returned (.int .i64 r) ∧ Drawn0 w w' := by
 have H : (if a0 < a1 then (some a1) else (if a0 > a2 then (some a2) else (some a0))) = some r := h; clear h
 by_cases c4 : a0 < a1
 ·rw [if_pos c4] at H; have c4b0 : decide (a0 < a1) = true := decide_eq_true c4; clear c4; obtain rfl := Option.some.inj H
  go_enter Try.func19, Try.ntmps19
  go_wp2
  go_ret
  exact ⟨by first | rfl | (simp; done) | (simp [*]; done), by repeat (first | exact Drawn0.refl _ | apply Drawn0.step)⟩
 ·rw [if_neg c4] at H; have c4b0 : decide (a0 < a1) = false := decide_eq_false c4; clear c4
  by_cases c5 : a0 > a2
  ·rw [if_pos c5] at H; have c5b0 : decide (a2 < a0) = true := decide_eq_true c5; clear c5; obtain rfl := Option.some.inj H
   go_enter Try.func19, Try.ntmps19
   go_wp2
   go_ret
   exact ⟨by first | rfl | (simp; done) | (simp [*]; done), by repeat (first | exact Drawn0.refl _ | apply Drawn0.step)⟩
  ·rw [if_neg c5] at H; have c5b0 : decide (a2 < a0) = false := decide_eq_false c5; clear c5; obtain rfl := Option.some.inj H
   go_enter Try.func19, Try.ntmps19
   go_wp2
   go_ret
   exact ⟨by first | rfl | (simp; done) | (simp [*]; done), by repeat (first | exact Drawn0.refl _ | apply Drawn0.step)⟩
def ref06_Ints.l0 : Nat → List Int → List Int → Int → Option (Bool)
 | 0, _, _, _ => none
 | k + 1, x0, x1, x5 => if x5 < (x0.length : Int) then (if 0 ≤ x5 then (if x5 < (x1.length : Int) then (if (rd x0 x5) = (rd x1 x5) then (ref06_Ints.l0 k x0 x1 (wrap64 (x5 + 1))) else (some false)) else (none)) else (none)) else (some true)
def ref06_Ints.f (k : Nat) (l0 : List Int) (l1 : List Int) : Option (Bool) := if (l0.length : Int) = (l1.length : Int) then (ref06_Ints.l0 k l0 l1 0) else (some false)
theorem ref06_Ints.mono_l : ∀ k, (∀ y0 y1 y2, LeO (ref06_Ints.l0 k y0 y1 y2) (ref06_Ints.l0 (k + 1) y0 y1 y2))
 | 0 => fun _ _ _ r h => by simp [ref06_Ints.l0] at h
 | k + 1 => by
  have ih0 := ref06_Ints.mono_l k
  ·intro y0 y1 y2
   unfold ref06_Ints.l0
   with_reducible repeat' first | exact ih0 _ _ _ | exact LeO.refl _ | exact LeO.none _ | refine LeO.ite ?_ ?_ | refine LeO.bind ?_ (fun _ => ?_)
theorem ref06_Ints.mono : ∀ a0 a1 k, LeO (ref06_Ints.f k a0 a1) (ref06_Ints.f (k + 1) a0 a1) := by
 intro a0 a1 k; have ih0 := ref06_Ints.mono_l k
 unfold ref06_Ints.f
 with_reducible repeat' first | exact ih0 _ _ _ | exact LeO.refl _ | exact LeO.none _ | refine LeO.ite ?_ ?_ | refine LeO.bind ?_ (fun _ => ?_)
theorem ref06_Ints.calls (k : Nat) (A0 : Option Addr) (c0 : Nat) (l0 : List Int) (A1 : Option Addr) (c1 : Nat) (l1 : List Int) (r : Bool) (w : World) (hr0 : Kd.C (Kd.int .i64) w A0 l0.length l0) (hc0 : l0.length ≤ c0) (hr1 : Kd.C (Kd.int .i64) w A1 l1.length l1) (hc1 : l1.length ≤ c1) (h : ref06_Ints.f k l0 l1 = some r) :
  Calls Try.prog 23 #[.slice A0 l0.length c0, .slice A1 l1.length c1] w fun e w' => e = .returned (.bool r) ∧ Drawn0 w w' := by
 have HR0 := Zq_.mk hr0; have HC0 := Zq_.mk hc0; clear hr0 hc0; have HR1 := Zq_.mk hr1; have HC1 := Zq_.mk hc1; clear hr1 hc1; have H : (if (l0.length : Int) = (l1.length : Int) then (ref06_Ints.l0 k l0 l1 0) else (some false)) = some r := h; clear h
 by_cases c3 : (l0.length : Int) = (l1.length : Int)
 ·rw [if_pos c3] at H; have aL : ((l0.length : Int) == (l1.length : Int)) = true := beq_iff_eq.mpr c3; have aK : ((l0.length : Int) != (l1.length : Int)) = false := bne_eq_false_iff_eq.mpr c3
  have aJ : (l0.length == l1.length) = true := by first | simpa using c3 | (simp at c3 ⊢; omega)
  clear c3; have H' := Zq_.mk H; clear H
  go_enter Try.func23, Try.ntmps23
  go_wp2
  repeat (go_quiet (fail); try go_wp2)
  go_loopg [5] k (fun kq v5 w' => ∃ (aA : Int), v5 = .int .i64 aA ∧ Zq_ (ref06_Ints.l0 kq l0 l1 aA = some r) ∧ Zq_ (kq ≤ k) ∧ Drawn0 w w')
  case atStart => exact ⟨(0), eS_, H', ⟨Nat.le_refl _⟩, by repeat (first | exact Drawn0.refl _ | apply Drawn0.step)⟩
  case round =>
   clear H'
   try clear c1
   try clear c2
   try clear p2
   try clear c3
   try clear aL
   try clear aK
   try clear aJ
   obtain ⟨aA, rfl, HA, HK1, ⟨m1, rfl⟩⟩ := hrel
   cases gk with
   | zero => exact absurd HA.out (by simp [ref06_Ints.l0])
   | succ k1 =>
    have H := HA.out; clear HA; simp only [ref06_Ints.l0] at H
    by_cases c4 : aA < (l0.length : Int)
    ·rw [if_pos c4] at H; have c4b0 : decide (aA < (l0.length : Int)) = true := decide_eq_true c4; clear c4
     by_cases c5 : 0 ≤ aA
     ·rw [if_pos c5] at H; have c5b0 : decide (0 ≤ aA) = true := decide_eq_true c5; clear c5
      by_cases c6 : aA < (l1.length : Int)
      ·rw [if_pos c6] at H; have c6b0 : decide (aA < (l1.length : Int)) = true := decide_eq_true c6; clear c6
       by_cases c7 : (rd l0 aA) = (rd l1 aA)
       ·rw [if_pos c7] at H; have c7b0 : ((rd l0 aA) == (rd l1 aA)) = true := beq_iff_eq.mpr c7; have c7b1 : ((rd l0 aA) != (rd l1 aA)) = false := bne_eq_false_iff_eq.mpr c7; clear c7; have H' := Zq_.mk H; clear H; have aE : 0 ≤ (aA : Int) := dA_; have aC : aA < (l0.length : Int) := dA_; obtain ⟨aN, aI, aG⟩ := Kd.at_int HR0.out aA aE aC; cases aI; replace aE := eq_true aE; replace aC := eq_true aC; have aD : 0 ≤ (aA : Int) := dA_; have aB : aA < (l1.length : Int) := dA_; obtain ⟨aM, aH, aF⟩ := Kd.at_int HR1.out aA aD aB; cases aH; replace aD := eq_true aD; replace aB := eq_true aB
        go_wp2
        repeat (go_quiet (fail); try go_wp2)
        go_roundg k1
        case measure => have := HK1.out; omega
        case rel => exact ⟨(wrap64 (aA + 1)), eS_, H', ⟨by have := HK1.out; omega⟩, by repeat (first | exact Drawn0.refl _ | apply Drawn0.step)⟩
       ·rw [if_neg c7] at H; have c7b0 : ((rd l0 aA) == (rd l1 aA)) = false := beq_eq_false_iff_ne.mpr c7; have c7b1 : ((rd l0 aA) != (rd l1 aA)) = true := bne_iff_ne.mpr c7; obtain rfl := Option.some.inj H; have aE : 0 ≤ (aA : Int) := dA_; have aC : aA < (l0.length : Int) := dA_; obtain ⟨aN, aI, aG⟩ := Kd.at_int HR0.out aA aE aC; cases aI; replace aE := eq_true aE; replace aC := eq_true aC; have aD : 0 ≤ (aA : Int) := dA_; have aB : aA < (l1.length : Int) := dA_; obtain ⟨aM, aH, aF⟩ := Kd.at_int HR1.out aA aD aB; cases aH; replace aD := eq_true aD; replace aB := eq_true aB
        go_wp2
        repeat (go_quiet (fail); try go_wp2)
        go_ret
        exact ⟨by first | rfl | (simp; done) | (simp [*]; done), by repeat (first | exact Drawn0.refl _ | apply Drawn0.step)⟩
      ·rw [if_neg c6] at H; exact absurd H (by simp)
     ·rw [if_neg c5] at H; exact absurd H (by simp)
    ·rw [if_neg c4] at H; have c4b0 : decide (aA < (l0.length : Int)) = false := decide_eq_false c4; clear c4; obtain rfl := Option.some.inj H
     go_wp2
     repeat (go_quiet (fail); try go_wp2)
     go_ret
     exact ⟨by first | rfl | (simp; done) | (simp [*]; done), by repeat (first | exact Drawn0.refl _ | apply Drawn0.step)⟩
 ·rw [if_neg c3] at H; have aL : ((l0.length : Int) == (l1.length : Int)) = false := beq_eq_false_iff_ne.mpr c3; have aK : ((l0.length : Int) != (l1.length : Int)) = true := bne_iff_ne.mpr c3
  have aJ : (l0.length == l1.length) = false := by first | simpa using c3 | (simp at c3 ⊢; omega)
  obtain rfl := Option.some.inj H
  go_enter Try.func23, Try.ntmps23
  go_wp2
  repeat (go_quiet (fail); try go_wp2)
  go_ret
  exact ⟨by first | rfl | (simp; done) | (simp [*]; done), by repeat (first | exact Drawn0.refl _ | apply Drawn0.step)⟩
def ref09_Add.f (aL : Int) (aB : Int) (aK : Int) (aD : Int) : Option (Int × Int) := if (IntKind.u64.wrap (aB + aD)) < aB then (some (IntKind.u64.wrap ((IntKind.u64.wrap (aL + aK)) + 1), IntKind.u64.wrap (aB + aD))) else (some (IntKind.u64.wrap (aL + aK), IntKind.u64.wrap (aB + aD)))
theorem ref09_Add.calls (aL : Int) (aB : Int) (aK : Int) (aD : Int) (r1 : Int) (r2 : Int) (w : World) (h : ref09_Add.f aL aB aK aD = some (r1, r2)) :
  Calls Try.prog 29 #[.agg #[.int .u64 aL, .int .u64 aB], .agg #[.int .u64 aK, .int .u64 aD]] w fun e w' => e = .returned (.agg #[.int .u64 r1, .int .u64 r2]) ∧ Below w.heap.size w w' := by
 have hu52 := Try.underlying52; have HB := Zq_.mk (Below.refl w.heap.size w); have H : (if (IntKind.u64.wrap (aB + aD)) < aB then (some (IntKind.u64.wrap ((IntKind.u64.wrap (aL + aK)) + 1), IntKind.u64.wrap (aB + aD))) else (some (IntKind.u64.wrap (aL + aK), IntKind.u64.wrap (aB + aD)))) = some (r1, r2) := h; clear h
 by_cases c3 : (IntKind.u64.wrap (aB + aD)) < aB
 ·rw [if_pos c3] at H; have c3b0 : decide ((IntKind.u64.wrap (aB + aD)) < aB) = true := decide_eq_true c3; clear c3; simp only [Option.some.injEq, Prod.mk.injEq] at H; obtain ⟨rfl, rfl⟩ := H
  go_enter Try.func29, Try.ntmps29
  go_wp2_with (first | ((with_reducible refine qd_ (N := 2) rfl ?_); refine bE_ 2 #[.int .u64 aL, .int .u64 aB] 52 ?_; intro aP hg w4 hbox hb; have aA := Zq_.mk (hbox); have aS := gW_ (w := w) hg (hB_ HB); have aV := gW_ (w := w) hg (hB_ HB); replace HB := sB_ HB hb; clear hb hbox hg) | ((with_reducible refine qd_ (N := 3) rfl ?_); refine bE_ 3 #[.int .u64 aK, .int .u64 aD] 52 ?_; intro aO hg w5 hbox hb; have aC := Zq_.mk (hbox); have aR := gW_ (w := w) hg (by exact hSet_ HB); have aU := gW_ (w := w) hg (by exact hSet_ HB); replace HB := sB_ HB hb; have aJ := nL_ aA hg; have aH := nG_ aA hg; replace aA := kB_ aA hb; clear hb hbox hg) | ((with_reducible refine qd_ (N := 4) rfl ?_); refine bE_ 4 #[.int .u64 0, .int .u64 0] 52 ?_; intro aN hg w6 hbox hb; have aM := Zq_.mk (hbox); have aQ := gW_ (w := w) hg (by exact hSet_ HB); have aT := gW_ (w := w) hg (by exact hSet_ HB); replace HB := sB_ HB hb; have aI := nL_ aA hg; have aF := nG_ aA hg; replace aA := kB_ aA hb; have aG := nL_ aC hg; have aE := nG_ aC hg; replace aC := kB_ aC hb; clear hb hbox hg; have hnb7 := aJ.out; have hnc7 := aH.out; have hnb8 := aI.out; have hnc8 := aF.out; obtain ⟨hcz9_0, hcz9_1⟩ := c2_ aA; obtain ⟨hfz9_0, hfz9_1⟩ := f2_ aA; have hnb10 := aG.out; have hnc10 := aE.out; obtain ⟨hcz11_0, hcz11_1⟩ := c2_ aC; obtain ⟨hfz11_0, hfz11_1⟩ := f2_ aC; obtain ⟨hcz12_0, hcz12_1⟩ := c2_ aM; obtain ⟨hfz12_0, hfz12_1⟩ := f2_ aM))
  refine bodyPost_ret (results_cell_row rfl _ _ aN 52 #[.int .u64 (IntKind.u64.wrap ((IntKind.u64.wrap (aL + aK)) + 1)), .int .u64 (IntKind.u64.wrap (aB + aD))] (0, 0) _ rfl (by exact bW2_ (bK_ aM)) Try.underlying52 rfl (by kernel_rfl)) rfl ?_; exact ⟨by exact eW_, by exact hSet_ HB⟩
 ·rw [if_neg c3] at H; have c3b0 : decide ((IntKind.u64.wrap (aB + aD)) < aB) = false := decide_eq_false c3; clear c3; simp only [Option.some.injEq, Prod.mk.injEq] at H; obtain ⟨rfl, rfl⟩ := H
  go_enter Try.func29, Try.ntmps29
  go_wp2_with (first | ((with_reducible refine qd_ (N := 2) rfl ?_); refine bE_ 2 #[.int .u64 aL, .int .u64 aB] 52 ?_; intro aP hg w13 hbox hb; have aA := Zq_.mk (hbox); have aS := gW_ (w := w) hg (hB_ HB); have aV := gW_ (w := w) hg (hB_ HB); replace HB := sB_ HB hb; clear hb hbox hg) | ((with_reducible refine qd_ (N := 3) rfl ?_); refine bE_ 3 #[.int .u64 aK, .int .u64 aD] 52 ?_; intro aO hg w14 hbox hb; have aC := Zq_.mk (hbox); have aR := gW_ (w := w) hg (by exact hSet_ HB); have aU := gW_ (w := w) hg (by exact hSet_ HB); replace HB := sB_ HB hb; have aJ := nL_ aA hg; have aH := nG_ aA hg; replace aA := kB_ aA hb; clear hb hbox hg) | ((with_reducible refine qd_ (N := 4) rfl ?_); refine bE_ 4 #[.int .u64 0, .int .u64 0] 52 ?_; intro aN hg w15 hbox hb; have aM := Zq_.mk (hbox); have aQ := gW_ (w := w) hg (by exact hSet_ HB); have aT := gW_ (w := w) hg (by exact hSet_ HB); replace HB := sB_ HB hb; have aI := nL_ aA hg; have aF := nG_ aA hg; replace aA := kB_ aA hb; have aG := nL_ aC hg; have aE := nG_ aC hg; replace aC := kB_ aC hb; clear hb hbox hg; have hnb16 := aJ.out; have hnc16 := aH.out; have hnb17 := aI.out; have hnc17 := aF.out; obtain ⟨hcz18_0, hcz18_1⟩ := c2_ aA; obtain ⟨hfz18_0, hfz18_1⟩ := f2_ aA; have hnb19 := aG.out; have hnc19 := aE.out; obtain ⟨hcz20_0, hcz20_1⟩ := c2_ aC; obtain ⟨hfz20_0, hfz20_1⟩ := f2_ aC; obtain ⟨hcz21_0, hcz21_1⟩ := c2_ aM; obtain ⟨hfz21_0, hfz21_1⟩ := f2_ aM))
  refine bodyPost_ret (results_cell_row rfl _ _ aN 52 #[.int .u64 (IntKind.u64.wrap (aL + aK)), .int .u64 (IntKind.u64.wrap (aB + aD))] (0, 0) _ rfl (by exact bW2_ (bK_ aM)) Try.underlying52 rfl (by kernel_rfl)) rfl ?_; exact ⟨by exact eW_, by exact hSet_ HB⟩
def ref09_Below.f (aE : Int) (aH : Int) (aD : Int) (aG : Int) : Option (Bool) := if aE < aD then (some true) else (if aE = aD then (some (decide (aH < aG))) else (some false))
theorem ref09_Below.calls (aE : Int) (aH : Int) (aD : Int) (aG : Int) (r : Bool) (w : World) (h : ref09_Below.f aE aH aD aG = some r) :
  Calls Try.prog 30 #[.agg #[.int .u64 aE, .int .u64 aH], .agg #[.int .u64 aD, .int .u64 aG]] w fun e w' => e = .returned (.bool r) ∧ Below w.heap.size w w' := by
 have hu52 := Try.underlying52; have HB := Zq_.mk (Below.refl w.heap.size w); have H : (if aE < aD then (some true) else (if aE = aD then (some (decide (aH < aG))) else (some false))) = some r := h; clear h
 by_cases c3 : aE < aD
 ·rw [if_pos c3] at H; have c3b0 : decide (aE < aD) = true := decide_eq_true c3; clear c3; obtain rfl := Option.some.inj H
  go_enter Try.func30, Try.ntmps30
  go_wp2_with (first | ((with_reducible refine qd_ (N := 2) rfl ?_); refine bE_ 2 #[.int .u64 aE, .int .u64 aH] 52 ?_; intro aJ hg w4 hbox hb; have aA := Zq_.mk (hbox); have aL := gW_ (w := w) hg (hB_ HB); have aN := gW_ (w := w) hg (hB_ HB); replace HB := sB_ HB hb; clear hb hbox hg) | ((with_reducible refine qd_ (N := 3) rfl ?_); refine bE_ 3 #[.int .u64 aD, .int .u64 aG] 52 ?_; intro aI hg w5 hbox hb; have aF := Zq_.mk (hbox); have aK := gW_ (w := w) hg (by exact hSet_ HB); have aM := gW_ (w := w) hg (by exact hSet_ HB); replace HB := sB_ HB hb; have aC := nL_ aA hg; have aB := nG_ aA hg; replace aA := kB_ aA hb; clear hb hbox hg; have hnb6 := aC.out; have hnc6 := aB.out; obtain ⟨hcz7_0, hcz7_1⟩ := c2_ aA; obtain ⟨hfz7_0, hfz7_1⟩ := f2_ aA; obtain ⟨hcz8_0, hcz8_1⟩ := c2_ aF; obtain ⟨hfz8_0, hfz8_1⟩ := f2_ aF))
  go_ret
  exact ⟨by exact eW_, by exact hSet_ HB⟩
 ·rw [if_neg c3] at H; have c3b0 : decide (aE < aD) = false := decide_eq_false c3; clear c3
  by_cases c9 : aE = aD
  ·rw [if_pos c9] at H; have c9b0 : (aE == aD) = true := beq_iff_eq.mpr c9; have c9b1 : (aE != aD) = false := bne_eq_false_iff_eq.mpr c9; clear c9; obtain rfl := Option.some.inj H
   go_enter Try.func30, Try.ntmps30
   go_wp2_with (first | ((with_reducible refine qd_ (N := 2) rfl ?_); refine bE_ 2 #[.int .u64 aE, .int .u64 aH] 52 ?_; intro aJ hg w10 hbox hb; have aA := Zq_.mk (hbox); have aL := gW_ (w := w) hg (hB_ HB); have aN := gW_ (w := w) hg (hB_ HB); replace HB := sB_ HB hb; clear hb hbox hg) | ((with_reducible refine qd_ (N := 3) rfl ?_); refine bE_ 3 #[.int .u64 aD, .int .u64 aG] 52 ?_; intro aI hg w11 hbox hb; have aF := Zq_.mk (hbox); have aK := gW_ (w := w) hg (by exact hSet_ HB); have aM := gW_ (w := w) hg (by exact hSet_ HB); replace HB := sB_ HB hb; have aC := nL_ aA hg; have aB := nG_ aA hg; replace aA := kB_ aA hb; clear hb hbox hg; have hnb12 := aC.out; have hnc12 := aB.out; obtain ⟨hcz13_0, hcz13_1⟩ := c2_ aA; obtain ⟨hfz13_0, hfz13_1⟩ := f2_ aA; obtain ⟨hcz14_0, hcz14_1⟩ := c2_ aF; obtain ⟨hfz14_0, hfz14_1⟩ := f2_ aF))
   go_ret
   exact ⟨by exact eW_, by exact hSet_ HB⟩
  ·rw [if_neg c9] at H; have c9b0 : (aE == aD) = false := beq_eq_false_iff_ne.mpr c9; have c9b1 : (aE != aD) = true := bne_iff_ne.mpr c9; obtain rfl := Option.some.inj H
   go_enter Try.func30, Try.ntmps30
   go_wp2_with (first | ((with_reducible refine qd_ (N := 2) rfl ?_); refine bE_ 2 #[.int .u64 aE, .int .u64 aH] 52 ?_; intro aJ hg w15 hbox hb; have aA := Zq_.mk (hbox); have aL := gW_ (w := w) hg (hB_ HB); have aN := gW_ (w := w) hg (hB_ HB); replace HB := sB_ HB hb; clear hb hbox hg) | ((with_reducible refine qd_ (N := 3) rfl ?_); refine bE_ 3 #[.int .u64 aD, .int .u64 aG] 52 ?_; intro aI hg w16 hbox hb; have aF := Zq_.mk (hbox); have aK := gW_ (w := w) hg (by exact hSet_ HB); have aM := gW_ (w := w) hg (by exact hSet_ HB); replace HB := sB_ HB hb; have aC := nL_ aA hg; have aB := nG_ aA hg; replace aA := kB_ aA hb; clear hb hbox hg; have hnb17 := aC.out; have hnc17 := aB.out; obtain ⟨hcz18_0, hcz18_1⟩ := c2_ aA; obtain ⟨hfz18_0, hfz18_1⟩ := f2_ aA; obtain ⟨hcz19_0, hcz19_1⟩ := c2_ aF; obtain ⟨hfz19_0, hfz19_1⟩ := f2_ aF))
   go_ret
   exact ⟨by exact eW_, by exact hSet_ HB⟩
def ref10_New.f  : Option (Int × List Int) := some ((-1), ([] : List Int))
theorem ref10_New.calls  (r1 : Int) (r2 : List Int) (w : World) (h : ref10_New.f  = some (r1, r2)) :
  Calls Try.prog 14 #[] w fun e w' => ∃ v1_ : Value, e = .returned (.agg #[.int .i64 r1, v1_]) ∧ Kd.R (Kd.int .i64) 3 w' w.heap.size (fun _ => True) v1_ r2 ∧ Below w.heap.size w w' := by
 have hu27 := Try.underlying27; have HB := Zq_.mk (Below.refl w.heap.size w); have H : (some ((-1), ([] : List Int))) = some (r1, r2) := h; clear h; simp only [Option.some.injEq, Prod.mk.injEq] at H; obtain ⟨rfl, rfl⟩ := H
 go_enter Try.func14, Try.ntmps14
 go_wp2_with (first | ((with_reducible refine qd_ (N := 0) rfl ?_); refine bE_ 0 #[.int .i64 0, .slice none 0 0] 27 ?_; intro aB hg w1 hbox hb; have aA := Zq_.mk (hbox); have GW101 := gW_ (w := w) hg (hB_ HB); have GE101 := gW_ (w := w) hg (hB_ HB); replace HB := sB_ HB hb; clear hb hbox hg; obtain ⟨hcz2_0, hcz2_1⟩ := c2_ aA; obtain ⟨hfz2_0, hfz2_1⟩ := f2_ aA))
 refine bodyPost_ret (results_cell_row rfl _ _ aB 27 #[.int .i64 (-1), .slice none 0 0] (0, 0) _ rfl (by exact bW2_ (bK_ aA)) Try.underlying27 rfl (by kernel_rfl)) rfl ?_; exact ⟨_, by exact eW_, by first | exact Kd.R_nil _ _ _ _ _ | exact Kd.N_nil _ _ _ _ _ | exact Kd.V_nil _ _ _ _ _ | exact Kd.Q_nil _ _ _ _ _ | exact Kd.S_nil _ _ _ _ _, by exact hSet_ HB⟩
mutual
def ref10_Right.l0 : Nat → Int → Int → List Int → Option (Bool)
 | 0, _, _, _ => none
 | k + 1, x3, aG, aD => if x3 < (aD.length : Int) then (ref10_Right.j1 k x3 (decide (x3 < 17)) aG aD) else (ref10_Right.j1 k x3 false aG aD)
def ref10_Right.j1 : Nat → Int → Bool → Int → List Int → Option (Bool)
 | 0, _, _, _, _ => none
 | k + 1, x3, x12, aG, aD => if x12 = true then (if 0 ≤ x3 then (if x3 < (aD.length : Int) then (if (rd aD x3) < 1 then (some false) else (if (rd aD x3) > 1099511627776 then (some false) else (ref10_Right.l0 k (wrap64 (x3 + 1)) aG aD))) else (none)) else (none)) else (if aG ≥ (-1) then (if aG ≤ 1099511627776 then (some (decide ((aD.length : Int) ≤ 16))) else (some false)) else (some false))
end
def ref10_Right.f (k : Nat) (aF : Int) (aC : List Int) : Option (Bool) := ref10_Right.l0 k 0 aF aC
theorem ref10_Right.mono_l : ∀ k, (∀ y0 y1 y2, LeO (ref10_Right.l0 k y0 y1 y2) (ref10_Right.l0 (k + 1) y0 y1 y2)) ∧ (∀ y0 y1 y2 y3, LeO (ref10_Right.j1 k y0 y1 y2 y3) (ref10_Right.j1 (k + 1) y0 y1 y2 y3))
 | 0 => ⟨fun _ _ _ r h => by simp [ref10_Right.l0] at h, fun _ _ _ _ r h => by simp [ref10_Right.j1] at h⟩
 | k + 1 => by
  obtain ⟨ih0, ih1⟩ := ref10_Right.mono_l k; refine ⟨?_, ?_⟩
  ·intro y0 y1 y2
   unfold ref10_Right.l0
   with_reducible repeat' first | exact ih0 _ _ _ | exact ih1 _ _ _ _ | exact LeO.refl _ | exact LeO.none _ | refine LeO.ite ?_ ?_ | refine LeO.bind ?_ (fun _ => ?_)
  ·intro y0 y1 y2 y3
   unfold ref10_Right.j1
   with_reducible repeat' first | exact ih0 _ _ _ | exact ih1 _ _ _ _ | exact LeO.refl _ | exact LeO.none _ | refine LeO.ite ?_ ?_ | refine LeO.bind ?_ (fun _ => ?_)
theorem ref10_Right.mono : ∀ a0 a1 k, LeO (ref10_Right.f k a0 a1) (ref10_Right.f (k + 1) a0 a1) := by
 intro a0 a1 k; obtain ⟨ih0, ih1⟩ := ref10_Right.mono_l k
 unfold ref10_Right.f
 with_reducible repeat' first | exact ih0 _ _ _ | exact ih1 _ _ _ _ | exact LeO.refl _ | exact LeO.none _ | refine LeO.ite ?_ ?_ | refine LeO.bind ?_ (fun _ => ?_)
theorem ref10_Right.calls (k : Nat) (aF : Int) (aT : Option Addr) (aR : Nat) (aC : List Int) (r : Bool) (w : World) (aU : Kd.C (Kd.int .i64) w aT aC.length aC) (aV : aC.length ≤ aR) (h : ref10_Right.f k aF aC = some r) :
  Calls Try.prog 12 #[.agg #[.int .i64 aF, .slice aT aC.length aR]] w fun e w' => e = .returned (.bool r) ∧ Below w.heap.size w w' := by
 have hu27 := Try.underlying27; have aK := Zq_.mk aU; have HC0_1 := Zq_.mk aV; clear aU aV; have HB := Zq_.mk (Below.refl w.heap.size w); have H : (ref10_Right.l0 k 0 aF aC) = some r := h; clear h; have H' := Zq_.mk H; clear H
 go_enter Try.func12, Try.ntmps12
 go_wp2_with (first | ((with_reducible refine qd_ (N := 1) rfl ?_); (try (refine gate_guard (by rfl) ?_; dsimp only)); refine bE_ 1 #[.int .i64 aF, .slice aT aC.length aR] 27 ?_; intro aW hg w2 hbox hb; have aB := Zq_.mk (hbox); have GW101 := gW_ (w := w) hg (hB_ HB); have GE101 := gW_ (w := w) hg (hB_ HB); replace HB := sB_ HB hb; clear hb hbox hg))
 go_loopg [3] k (fun kq v3 w' => ∃ (aA : Int), v3 = .int .i64 aA ∧ Zq_ (ref10_Right.l0 kq aA aF aC = some r) ∧ Zq_ (kq ≤ k) ∧ Zq_ (w'.heap[aW]? = some (.cells #[.int .i64 aF, (.slice aT aC.length aR)] 27 (0, 0))) ∧ Zq_ (Below w.heap.size w w'))
 case atStart => exact ⟨(0), eS_, H', ⟨Nat.le_refl _⟩, ⟨by (with_reducible repeat (first | refine qi_ ?_ _ | refine qk_ ?_ | refine qj_ ?_ _)); exact aB.out⟩, ⟨by exact hSet_ HB⟩⟩
 case round =>
  clear H'
  try clear c1
  try clear p2
  obtain ⟨aA, rfl, HA, HK1, aB, HB⟩ := hrel
  cases gk with
  | zero => exact absurd HA.out (by simp [ref10_Right.l0])
  | succ k1 =>
   have H := HA.out; clear HA; simp only [ref10_Right.l0] at H; have HC3 := Zq_.mk H; clear H
   go_upto_region 2 with (fail)
   go_cut [12] (fun v12 wc => ∃ (kq : Nat) (aN : Bool), v12 = .bool aN ∧ Zq_ (ref10_Right.j1 kq aA aN aF aC = some r) ∧ Zq_ (kq ≤ k1) ∧ Zq_ (wc.heap[aW]? = some (.cells #[.int .i64 aF, (.slice aT aC.length aR)] 27 (0, 0))) ∧ Zq_ (Below w.heap.size w wc))
   case first =>
    have H := HC3.out; clear HC3
    by_cases c4 : aA < (aC.length : Int)
    ·rw [if_pos c4] at H; have aP : decide (aA < (aC.length : Int)) = true := decide_eq_true c4; clear c4; (first | rw [aP] | (simp only [i64_w, i32_w]; rw [aP]) | skip); have H' := Zq_.mk H; clear H; obtain ⟨bE, bD⟩ := c2_ aB; obtain ⟨bA, aZ⟩ := f2_ aB
     go_wp2
     go_meet
     case rel => exact ⟨_, (decide (aA < 17)), eS_, H', ⟨by have := HK1.out; first | omega | exact Nat.le_refl _⟩, ⟨by (with_reducible repeat (first | refine qi_ ?_ _ | refine qk_ ?_ | refine qj_ ?_ _)); exact aB.out⟩, ⟨by exact hSet_ HB⟩⟩
    ·rw [if_neg c4] at H; have aP : decide (aA < (aC.length : Int)) = false := decide_eq_false c4; clear c4; (first | rw [aP] | (simp only [i64_w, i32_w]; rw [aP]) | skip); have H' := Zq_.mk H; clear H; obtain ⟨bC, bB⟩ := c2_ aB; obtain ⟨aY, aX⟩ := f2_ aB
     go_wp2
     go_meet
     case rel => exact ⟨_, (false), eS_, H', ⟨by have := HK1.out; first | omega | exact Nat.le_refl _⟩, ⟨by (with_reducible repeat (first | refine qi_ ?_ _ | refine qk_ ?_ | refine qj_ ?_ _)); exact aB.out⟩, ⟨by exact hSet_ HB⟩⟩
   case rest =>
    clear HC3
    try clear c1
    try clear p2
    try clear c4
    try clear aP
    try clear bE
    try clear bD
    try clear bC
    try clear bB
    try clear bA
    try clear aZ
    try clear aY
    try clear aX
    try clear p2
    obtain ⟨kq, aN, rfl, HA, HJ2, aB, HB⟩ := hcut
    cases kq with
    | zero => exact absurd HA.out (by simp [ref10_Right.j1])
    | succ kj2 =>
     have H := HA.out; clear HA; simp only [ref10_Right.j1] at H
     by_cases c7 : aN = true
     ·subst c7
      rw [if_pos rfl] at H
      by_cases c8 : 0 ≤ aA
      ·rw [if_pos c8] at H; have c8b0 : decide (0 ≤ aA) = true := decide_eq_true c8; clear c8
       by_cases c9 : aA < (aC.length : Int)
       ·rw [if_pos c9] at H; have c9b0 : decide (aA < (aC.length : Int)) = true := decide_eq_true c9; clear c9
        by_cases c10 : (rd aC aA) < 1
        ·rw [if_pos c10] at H; have bJ : decide ((rd aC aA) < 1) = true := decide_eq_true c10; clear c10; obtain rfl := Option.some.inj H; obtain ⟨hcz11_0, hcz11_1⟩ := c2_ aB; obtain ⟨hfz11_0, hfz11_1⟩ := f2_ aB; have aJ : 0 ≤ (aA : Int) := dA_; have aI : aA < (aC.length : Int) := dA_; obtain ⟨aO, aQ, aE⟩ := Kd.at_int aK.out aA aJ aI; cases aQ; replace aE := hC_ HB aE; replace aJ := eq_true aJ; replace aI := eq_true aI
         go_wp2
         go_ret
         exact ⟨by exact eW_, by exact hSet_ HB⟩
        ·rw [if_neg c10] at H; have bJ : decide ((rd aC aA) < 1) = false := decide_eq_false c10; clear c10
         by_cases c12 : (rd aC aA) > 1099511627776
         ·rw [if_pos c12] at H; have bI : decide (1099511627776 < (rd aC aA)) = true := decide_eq_true c12; clear c12; obtain rfl := Option.some.inj H; obtain ⟨hcz13_0, hcz13_1⟩ := c2_ aB; obtain ⟨hfz13_0, hfz13_1⟩ := f2_ aB; have aJ : 0 ≤ (aA : Int) := dA_; have aI : aA < (aC.length : Int) := dA_; obtain ⟨aO, aQ, aE⟩ := Kd.at_int aK.out aA aJ aI; cases aQ; replace aE := hC_ HB aE; replace aJ := eq_true aJ; replace aI := eq_true aI; have aM : 0 ≤ (aA : Int) := dA_; have aL : aA < (aC.length : Int) := dA_; obtain ⟨aS, bF, aH⟩ := Kd.at_int aK.out aA aM aL; obtain rfl : aO = aS := (by injection bF); replace aH := hC_ HB aH; replace aM := eq_true aM; replace aL := eq_true aL
          go_wp2
          go_ret
          exact ⟨by exact eW_, by exact hSet_ HB⟩
         ·rw [if_neg c12] at H; have bI : decide (1099511627776 < (rd aC aA)) = false := decide_eq_false c12; clear c12; have H' := Zq_.mk H; clear H; obtain ⟨hcz14_0, hcz14_1⟩ := c2_ aB; obtain ⟨hfz14_0, hfz14_1⟩ := f2_ aB; have aJ : 0 ≤ (aA : Int) := dA_; have aI : aA < (aC.length : Int) := dA_; obtain ⟨aO, aQ, aE⟩ := Kd.at_int aK.out aA aJ aI; cases aQ; replace aE := hC_ HB aE; replace aJ := eq_true aJ; replace aI := eq_true aI; have aM : 0 ≤ (aA : Int) := dA_; have aL : aA < (aC.length : Int) := dA_; obtain ⟨aS, bF, aH⟩ := Kd.at_int aK.out aA aM aL; obtain rfl : aO = aS := (by injection bF); replace aH := hC_ HB aH; replace aM := eq_true aM; replace aL := eq_true aL
          go_wp2
          go_roundg kj2
          case measure => have := HK1.out; have := HJ2.out; omega
          case rel => exact ⟨(wrap64 (aA + 1)), eS_, H', ⟨by have := HK1.out; have := HJ2.out; omega⟩, ⟨by (with_reducible repeat (first | refine qi_ ?_ _ | refine qk_ ?_ | refine qj_ ?_ _)); exact aB.out⟩, ⟨by exact hSet_ HB⟩⟩
       ·rw [if_neg c9] at H; exact absurd H (by simp)
      ·rw [if_neg c8] at H; exact absurd H (by simp)
     ·replace c7 := Bool.eq_false_iff.mpr c7; subst c7
      have H1 : (if aF ≥ (-1) then (if aF ≤ 1099511627776 then (some (decide ((aC.length : Int) ≤ 16))) else (some false)) else (some false)) = some r := by rw [if_neg (show ¬ (false = true) by decide)] at H; exact H
      clear H; have H := H1; clear H1
      by_cases c15 : aF ≥ (-1)
      ·rw [if_pos c15] at H; have bH : decide ((-1) ≤ aF) = true := decide_eq_true c15; clear c15
       by_cases c16 : aF ≤ 1099511627776
       ·rw [if_pos c16] at H; have bG : decide (aF ≤ 1099511627776) = true := decide_eq_true c16; clear c16; obtain rfl := Option.some.inj H; obtain ⟨hcz17_0, hcz17_1⟩ := c2_ aB; obtain ⟨hfz17_0, hfz17_1⟩ := f2_ aB
        go_wp2
        go_ret
        exact ⟨by exact eW_, by exact hSet_ HB⟩
       ·rw [if_neg c16] at H; have bG : decide (aF ≤ 1099511627776) = false := decide_eq_false c16; clear c16; obtain rfl := Option.some.inj H; obtain ⟨hcz18_0, hcz18_1⟩ := c2_ aB; obtain ⟨hfz18_0, hfz18_1⟩ := f2_ aB
        go_wp2
        go_ret
        exact ⟨by exact eW_, by exact hSet_ HB⟩
      ·rw [if_neg c15] at H; have bH : decide ((-1) ≤ aF) = false := decide_eq_false c15; clear c15; obtain rfl := Option.some.inj H; obtain ⟨hcz19_0, hcz19_1⟩ := c2_ aB; obtain ⟨hfz19_0, hfz19_1⟩ := f2_ aB
       go_wp2
       go_ret
       exact ⟨by exact eW_, by exact hSet_ HB⟩
def slices_Clone_int_int.f (l0 : List Int) : Option (List Int) := if l0.length < 17592186044416 then some l0 else none
open Go.Proofs.YtkojggbogdjmcaaW.Hw in
theorem slices_Clone_int_int.calls (A0 : Option Addr) (c0 : Nat) (l0 : List Int) (r : List Int) (w : World) (hr0 : Kd.C (Kd.int .i64) w A0 l0.length l0) (hc0 : l0.length ≤ c0) (h : slices_Clone_int_int.f l0 = some r) :
  Calls Try.prog 18 #[.slice A0 l0.length c0] w fun e w' => ∃ v0_ : Value, e = .returned v0_ ∧ Kd.R (Kd.int .i64) 3 w' w.heap.size (fun _ => True) v0_ r ∧ Below w.heap.size w w' := by
 unfold slices_Clone_int_int.f at h
 by_cases hl : l0.length < 17592186044416
 case neg => rw [if_neg hl] at h; cases h
 rw [if_pos hl] at h; obtain rfl := Option.some.inj h; clear h; have LM := Zq_.mk hl; clear hl
 have hnil : ∀ (W : World) (a : Option Addr) (n c n' c' : Nat), (binOp .eql 25 (.slice a n c) (.slice none n' c')).run Try.prog W = .ok (.bool a.isNone) W := fun W a n c n' c' => Lib.run_eql_slice_nil W _ _ a n c n' c' Try.underlying25
 have HB := Zq_.mk (Below.refl w.heap.size w)
 cases A0 with
 | none =>
  have e0 : l0 = [] := by
   rcases Nat.eq_zero_or_pos l0.length with e | e
   ·exact List.eq_nil_of_length_eq_zero e
   ·obtain ⟨ad, e1, _⟩ := hr0.2.2 e; cases e1
  subst e0; clear hr0 hc0 LM
  go_enter Try.func18, Try.ntmps18
  go_wp2
  go_ret
  exact ⟨_, rfl, Kd.R_nil _ _ _ _ _, Below.refl _ _⟩
 | some ad =>
  have HR := Zq_.mk hr0; have HC := Zq_.mk hc0; clear hr0 hc0
  go_enter Try.func18, Try.ntmps18
  go_wp2_with (first
   | ((with_reducible refine qd_ (N := 5) rfl ?_); refine Kd.R_lit (Kd.int .i64) _ 3 ?hg (N := 5) ?hd (xs := ([] : List Int)) (inner := []) (ok := fun _ => True) (okp := fun _ => True) ?hr ?hp (fun _ hk => hk) trivial (Below.refl _ _) (Nat.le_refl _) (by simp) ?_; (case hd => rfl); (case hg => rfl); (case hr => first | (go_simp; done) | (go_simp; rfl)); (case hp => exact (Reps.none _ _)); intro v5 w5 ho hb hg_ hnew_; clear hg_ hnew_; have HO := Zq_.mk (Kd.R_lower ho (qc_ (hB_ HB))); replace HB := sB_ HB hb; clear hb ho)
   | ((with_reducible refine gate_builtin (b := .append) (xs := #[.tmp 5, .tmp 6]) rfl ?_); at_builtin; refine Kd.R_append_rows (Kd.int .i64) (w0 := w) w.heap.size rfl (.tmp 5) (.tmp 6) 25 3 (.int .i64 0) 8 rfl Try.underlying25 info3 rfl (by decide) (by omega) v5 ([] : List Int) l0 _ _ _ (fun _ => True) (fun _ => False) rfl rfl ?aO ?aR (fun _ _ h => h) (fun _ h => h.elim) ?aF ?aB ?aS ?aL ?_; (case aR => exact cX_ (Kd.C_below HR.out HB.out)); (case aB => exact (hB_ HB)); (case aF => exact (fun _ _ => trivial)); (case aO => exact (vX_ HO)); (case aS => exact (qc_ (hB_ HB))); (case aL => have := LM.out; simp only [List.length_nil]; omega); intro v7 w9 ho hb hg hat; rw [List.nil_append] at ho; replace HB := Zq_.mk hb; replace HO := Zq_.mk ho; clear ho hb hg hat))
  go_ret
  exact ⟨_, rfl, by (with_reducible repeat (first | apply Kd.R_alloc | apply Kd.R_drewN | apply Kd.R_drew)); exact HO.out, (hB_ HB)⟩
def slices_Equal_int_int.l0 : Nat → List Int → List Int → Int → Int → Option (Bool)
 | 0, _, _, _, _ => none
 | k + 1, x0, x1, x12, x13 => if x13 < x12 then (if 0 ≤ x13 then (if x13 < (x0.length : Int) then (if x13 < (x1.length : Int) then (if (rd x0 x13) = (rd x1 x13) then (slices_Equal_int_int.l0 k x0 x1 x12 (wrap64 (x13 + 1))) else (some false)) else (none)) else (none)) else (none)) else (some true)
def slices_Equal_int_int.f (k : Nat) (l0 : List Int) (l1 : List Int) : Option (Bool) := if (l0.length : Int) = (l1.length : Int) then (slices_Equal_int_int.l0 k l0 l1 (l0.length : Int) 0) else (some false)
theorem slices_Equal_int_int.mono_l : ∀ k, (∀ y0 y1 y2 y3, LeO (slices_Equal_int_int.l0 k y0 y1 y2 y3) (slices_Equal_int_int.l0 (k + 1) y0 y1 y2 y3))
 | 0 => fun _ _ _ _ r h => by simp [slices_Equal_int_int.l0] at h
 | k + 1 => by
  have ih0 := slices_Equal_int_int.mono_l k
  ·intro y0 y1 y2 y3
   unfold slices_Equal_int_int.l0
   with_reducible repeat' first | exact ih0 _ _ _ _ | exact LeO.refl _ | exact LeO.none _ | refine LeO.ite ?_ ?_ | refine LeO.bind ?_ (fun _ => ?_)
theorem slices_Equal_int_int.mono : ∀ a0 a1 k, LeO (slices_Equal_int_int.f k a0 a1) (slices_Equal_int_int.f (k + 1) a0 a1) := by
 intro a0 a1 k; have ih0 := slices_Equal_int_int.mono_l k
 unfold slices_Equal_int_int.f
 with_reducible repeat' first | exact ih0 _ _ _ _ | exact LeO.refl _ | exact LeO.none _ | refine LeO.ite ?_ ?_ | refine LeO.bind ?_ (fun _ => ?_)
theorem slices_Equal_int_int.calls (k : Nat) (A0 : Option Addr) (c0 : Nat) (l0 : List Int) (A1 : Option Addr) (c1 : Nat) (l1 : List Int) (r : Bool) (w : World) (hr0 : Kd.C (Kd.int .i64) w A0 l0.length l0) (hc0 : l0.length ≤ c0) (hr1 : Kd.C (Kd.int .i64) w A1 l1.length l1) (hc1 : l1.length ≤ c1) (h : slices_Equal_int_int.f k l0 l1 = some r) :
  Calls Try.prog 25 #[.slice A0 l0.length c0, .slice A1 l1.length c1] w fun e w' => e = .returned (.bool r) ∧ Drawn0 w w' := by
 have HR0 := Zq_.mk hr0; have HC0 := Zq_.mk hc0; clear hr0 hc0; have HR1 := Zq_.mk hr1; have HC1 := Zq_.mk hc1; clear hr1 hc1; have H : (if (l0.length : Int) = (l1.length : Int) then (slices_Equal_int_int.l0 k l0 l1 (l0.length : Int) 0) else (some false)) = some r := h; clear h
 by_cases c3 : (l0.length : Int) = (l1.length : Int)
 ·rw [if_pos c3] at H; have aL : ((l0.length : Int) == (l1.length : Int)) = true := beq_iff_eq.mpr c3; have aK : ((l0.length : Int) != (l1.length : Int)) = false := bne_eq_false_iff_eq.mpr c3
  have aJ : (l0.length == l1.length) = true := by first | simpa using c3 | (simp at c3 ⊢; omega)
  clear c3; have H' := Zq_.mk H; clear H
  go_enter Try.func25, Try.ntmps25
  go_wp2
  repeat (go_quiet (fail); try go_wp2)
  go_loopg [13] k (fun kq v13 w' => ∃ (aA : Int), v13 = .int .i64 aA ∧ Zq_ (slices_Equal_int_int.l0 kq l0 l1 (l0.length : Int) aA = some r) ∧ Zq_ (kq ≤ k) ∧ Drawn0 w w')
  case atStart => exact ⟨(0), eS_, H', ⟨Nat.le_refl _⟩, by repeat (first | exact Drawn0.refl _ | apply Drawn0.step)⟩
  case round =>
   clear H'
   try clear c1
   try clear c2
   try clear p2
   try clear c3
   try clear aL
   try clear aK
   try clear aJ
   obtain ⟨aA, rfl, HA, HK1, ⟨m1, rfl⟩⟩ := hrel
   cases gk with
   | zero => exact absurd HA.out (by simp [slices_Equal_int_int.l0])
   | succ k1 =>
    have H := HA.out; clear HA; simp only [slices_Equal_int_int.l0] at H
    by_cases c4 : aA < (l0.length : Int)
    ·rw [if_pos c4] at H; have c4b0 : decide (aA < (l0.length : Int)) = true := decide_eq_true c4; clear c4
     by_cases c5 : 0 ≤ aA
     ·rw [if_pos c5] at H; have c5b0 : decide (0 ≤ aA) = true := decide_eq_true c5; clear c5
      by_cases c6 : aA < (l0.length : Int)
      ·rw [if_pos c6] at H; have c6b0 : decide (aA < (l0.length : Int)) = true := decide_eq_true c6; clear c6
       by_cases c7 : aA < (l1.length : Int)
       ·rw [if_pos c7] at H; have c7b0 : decide (aA < (l1.length : Int)) = true := decide_eq_true c7; clear c7
        by_cases c8 : (rd l0 aA) = (rd l1 aA)
        ·rw [if_pos c8] at H; have c8b0 : ((rd l0 aA) == (rd l1 aA)) = true := beq_iff_eq.mpr c8; have c8b1 : ((rd l0 aA) != (rd l1 aA)) = false := bne_eq_false_iff_eq.mpr c8; clear c8; have H' := Zq_.mk H; clear H; have aE : 0 ≤ (aA : Int) := dA_; have aC : aA < (l0.length : Int) := dA_; obtain ⟨aN, aI, aG⟩ := Kd.at_int HR0.out aA aE aC; cases aI; replace aE := eq_true aE; replace aC := eq_true aC; have aD : 0 ≤ (aA : Int) := dA_; have aB : aA < (l1.length : Int) := dA_; obtain ⟨aM, aH, aF⟩ := Kd.at_int HR1.out aA aD aB; cases aH; replace aD := eq_true aD; replace aB := eq_true aB
         go_wp2
         repeat (go_quiet (fail); try go_wp2)
         go_roundg k1
         case measure => have := HK1.out; omega
         case rel => exact ⟨(wrap64 (aA + 1)), eS_, H', ⟨by have := HK1.out; omega⟩, by repeat (first | exact Drawn0.refl _ | apply Drawn0.step)⟩
        ·rw [if_neg c8] at H; have c8b0 : ((rd l0 aA) == (rd l1 aA)) = false := beq_eq_false_iff_ne.mpr c8; have c8b1 : ((rd l0 aA) != (rd l1 aA)) = true := bne_iff_ne.mpr c8; obtain rfl := Option.some.inj H; have aE : 0 ≤ (aA : Int) := dA_; have aC : aA < (l0.length : Int) := dA_; obtain ⟨aN, aI, aG⟩ := Kd.at_int HR0.out aA aE aC; cases aI; replace aE := eq_true aE; replace aC := eq_true aC; have aD : 0 ≤ (aA : Int) := dA_; have aB : aA < (l1.length : Int) := dA_; obtain ⟨aM, aH, aF⟩ := Kd.at_int HR1.out aA aD aB; cases aH; replace aD := eq_true aD; replace aB := eq_true aB
         go_wp2
         repeat (go_quiet (fail); try go_wp2)
         go_ret
         exact ⟨by first | rfl | (simp; done) | (simp [*]; done), by repeat (first | exact Drawn0.refl _ | apply Drawn0.step)⟩
       ·rw [if_neg c7] at H; exact absurd H (by simp)
      ·rw [if_neg c6] at H; exact absurd H (by simp)
     ·rw [if_neg c5] at H; exact absurd H (by simp)
    ·rw [if_neg c4] at H; have c4b0 : decide (aA < (l0.length : Int)) = false := decide_eq_false c4; clear c4; obtain rfl := Option.some.inj H
     go_wp2
     repeat (go_quiet (fail); try go_wp2)
     go_ret
     exact ⟨by first | rfl | (simp; done) | (simp [*]; done), by repeat (first | exact Drawn0.refl _ | apply Drawn0.step)⟩
 ·rw [if_neg c3] at H; have aL : ((l0.length : Int) == (l1.length : Int)) = false := beq_eq_false_iff_ne.mpr c3; have aK : ((l0.length : Int) != (l1.length : Int)) = true := bne_iff_ne.mpr c3
  have aJ : (l0.length == l1.length) = false := by first | simpa using c3 | (simp at c3 ⊢; omega)
  obtain rfl := Option.some.inj H
  go_enter Try.func25, Try.ntmps25
  go_wp2
  repeat (go_quiet (fail); try go_wp2)
  go_ret
  exact ⟨by first | rfl | (simp; done) | (simp [*]; done), by repeat (first | exact Drawn0.refl _ | apply Drawn0.step)⟩
open Go.Proofs.YtkojggbogdjmcaaW.Hw in
theorem IndexFuncI.calls (p : Int → Bool) (g : Nat) (lb : Array Value) (eg : ∀ args w, (callFunc g args).run Try.prog w = .ok (.enter g args) w) (A0 : Option Addr) (c0 : Nat) (l0 : List Int) (w : World)
  (hp : PredI Try.prog g lb p w) (hr0 : Kd.C (Kd.int .i64) w A0 l0.length l0) :
  Calls Try.prog 26 #[.slice A0 l0.length c0, .func (.func g) #[] lb] w fun e w' => e = .returned (.int .i64 (idxI p l0)) ∧ Below w.heap.size w w' := by
 have HR := Zq_.mk hr0; have HP := Zq_.mk hp; have HM := Zq_.mk (Kd.C_max hr0); clear hr0 hp; have HB := Zq_.mk (Below.refl w.heap.size w)
 go_enter Try.func26, Try.ntmps26
 go_wp2
 go_loopg [5, 8] l0.length (fun gg _ s8 wr => ∃ i : Int, s8 = .int .i64 i ∧ Zq_ (0 ≤ i ∧ i ≤ (l0.length : Int) ∧ l0.length - i.toNat ≤ gg) ∧ Zq_ (Below w.heap.size w wr) ∧ Zq_ (∀ j, j < i.toNat → p (l0.getD j 0) = false))
 case atStart => exact ⟨0, rfl, ⟨by omega⟩, HB, ⟨fun j hj => absurd hj (Nat.not_lt_zero _)⟩⟩
 case round =>
  obtain ⟨i, rfl, HI, BW, A⟩ := hrel
  by_cases hlt : i < (l0.length : Int)
  ·have hltb : decide (i < (l0.length : Int)) = true := decide_eq_true hlt; have p1 := HI.out.1; obtain ⟨ad, e_, hx_0⟩ := Kd.at_int HR.out i p1 hlt; cases e_; replace hx_0 := (BW.out.cell (wb_ w _ hx_0)).trans hx_0; have hcall : Calls Try.prog g (#[.int .i64 (rd l0 i)] ++ lb) wr (fun e w1 => e = .returned (.bool (p (rd l0 i))) ∧ Below wr.heap.size wr w1) := HP.out wr (rd l0 i) BW.out; have HL := Zq_.mk hlt; replace p1 := eq_true p1; replace hlt := eq_true hlt; have hwr := Zq_.mk (show wrap64 (i + 1) = i + 1 by have := HI.out; have := HM.out; have := HL.out; unfold wrap64; omega)
   cases hq : p (rd l0 i) with
   | true =>
    rw [hq] at hcall; have HQ := Zq_.mk hq; clear hq
    go_wp2_with fail
    refine hcall.mono ?_; rintro e w1 ⟨rfl, hb1⟩
    go_wp2_with fail
    go_ret
    refine ⟨?_, (by have hb2 := qm_ BW.out hb1; exact hb2)⟩; have h1 := HI.out; have h2 := HL.out; rw [idxI_hit p l0 0 i.toNat (by omega) HQ.out A.out, Int.toNat_of_nonneg h1.1]; rfl
   | false =>
    rw [hq] at hcall; have HQ := Zq_.mk hq; clear hq
    go_wp2_with fail
    refine hcall.mono ?_; rintro e w1 ⟨rfl, hb1⟩
    go_wp2_with fail
    go_roundg (l0.length - (i.toNat + 1))
    case measure => have h1 := HI.out; have h2 := HL.out; omega
    case rel => exact ⟨wrap64 (i + 1), eS_, ⟨by rw [hwr.out]; have h1 := HI.out; have h2 := HL.out; omega⟩, ⟨qm_ BW.out hb1⟩, ⟨fun j hj => by
     rw [hwr.out] at hj; have h1 := HI.out
     by_cases e : j = i.toNat
     ·subst e; exact HQ.out
     ·exact A.out j (by omega)⟩⟩
  ·have hltb : decide (i < (l0.length : Int)) = false := decide_eq_false hlt; have HL := Zq_.mk hlt; clear hlt
   go_wp2
   go_ret
   refine ⟨?_, BW.out⟩; have h1 := HI.out; have h2 := HL.out; rw [idxI_miss p l0 0 (fun j hj => A.out j (by omega))]; rfl
def window_New.f  : Option (Int × List Int) := some ((-1), ([] : List Int))
theorem window_New.calls  (r1 : Int) (r2 : List Int) (w : World) (h : window_New.f  = some (r1, r2)) :
  Calls Try.prog 8 #[] w fun e w' => ∃ v1_ : Value, e = .returned (.agg #[.int .i64 r1, v1_]) ∧ Kd.R (Kd.int .i64) 3 w' w.heap.size (fun _ => True) v1_ r2 ∧ Below w.heap.size w w' := by
 have hu27 := Try.underlying27; have HB := Zq_.mk (Below.refl w.heap.size w); have H : (some ((-1), ([] : List Int))) = some (r1, r2) := h; clear h; simp only [Option.some.injEq, Prod.mk.injEq] at H; obtain ⟨rfl, rfl⟩ := H
 go_enter Try.func8, Try.ntmps8
 go_wp2_with (first | ((with_reducible refine qd_ (N := 0) rfl ?_); refine bE_ 0 #[.int .i64 0, .slice none 0 0] 27 ?_; intro aB hg w1 hbox hb; have aA := Zq_.mk (hbox); have GW101 := gW_ (w := w) hg (hB_ HB); have GE101 := gW_ (w := w) hg (hB_ HB); replace HB := sB_ HB hb; clear hb hbox hg; obtain ⟨hcz2_0, hcz2_1⟩ := c2_ aA; obtain ⟨hfz2_0, hfz2_1⟩ := f2_ aA))
 refine bodyPost_ret (results_cell_row rfl _ _ aB 27 #[.int .i64 (-1), .slice none 0 0] (0, 0) _ rfl (by exact bW2_ (bK_ aA)) Try.underlying27 rfl (by kernel_rfl)) rfl ?_; exact ⟨_, by exact eW_, by first | exact Kd.R_nil _ _ _ _ _ | exact Kd.N_nil _ _ _ _ _ | exact Kd.V_nil _ _ _ _ _ | exact Kd.Q_nil _ _ _ _ _ | exact Kd.S_nil _ _ _ _ _, by exact hSet_ HB⟩
def bits_LeadingZeros64.f (a0 : Int) : Option (Int) := (bits_Len64.f a0).bind fun aA => (some (wrap64 (64 - aA)))
theorem bits_LeadingZeros64.calls (a0 : Int) (r : Int) (w : World) (h : bits_LeadingZeros64.f a0 = some r) :
  Calls Try.prog 32 #[.int .u64 a0] w fun e w' => e = .returned (.int .i64 r) ∧ Drawn0 w w' := by
 have H : ((bits_Len64.f a0).bind fun aA => (some (wrap64 (64 - aA)))) = some r := h; clear h; replace H := ob_ H; obtain ⟨aA, A20, H⟩ := H; (try dsimp only at H); have A2 := Zq_.mk A20; clear A20; obtain rfl := Option.some.inj H
 go_enter Try.func32, Try.ntmps32
 go_wp2_with (first | ((with_reducible refine qh_ (f := 33) rfl ?_); refine goesL_ (some 4) rfl rfl Try.func33 (by kernel_rfl) rfl #[.int .u64 a0] rfl aR_ ?_; (with_reducible refine (bits_Len64.calls a0 aA _ A2.out).mono ?_); rintro e w' ⟨rfl, ⟨nd, rfl⟩⟩; refine ⟨_, rfl, ?_⟩))
 go_ret
 exact ⟨by first | rfl | (simp; done) | (simp [*]; done), by repeat (first | exact Drawn0.refl _ | apply Drawn0.step)⟩
def ref09_Mul.l0 : Nat → Int → Int → Int → Int → Int → Option (Int × Int)
 | 0, _, _, _, _, _ => none
 | k + 1, x1, aR, aQ, aO, aN => if x1 > 0 then (if (Int.tmod x1 2) = 1 then ((ref09_Add.f aR aQ aO aN).bind fun aZ => ((ref09_Add.f aO aN aO aN).bind fun aS => (ref09_Mul.l0 k (wrap64 (Int.tdiv x1 2)) aZ.1 aZ.2 aS.1 aS.2))) else ((ref09_Add.f aO aN aO aN).bind fun aY => (ref09_Mul.l0 k (wrap64 (Int.tdiv x1 2)) aR aQ aY.1 aY.2))) else (some (aR, aQ))
def ref09_Mul.f (k : Nat) (a0 : Int) (a1 : Int) : Option (Int × Int) := ref09_Mul.l0 k a1 0 0 0 (IntKind.u64.wrap (a0))
theorem ref09_Mul.mono_l : ∀ k, (∀ y0 y1 y2 y3 y4, LeO (ref09_Mul.l0 k y0 y1 y2 y3 y4) (ref09_Mul.l0 (k + 1) y0 y1 y2 y3 y4))
 | 0 => fun _ _ _ _ _ r h => by simp [ref09_Mul.l0] at h
 | k + 1 => by
  have ih0 := ref09_Mul.mono_l k
  ·intro y0 y1 y2 y3 y4
   unfold ref09_Mul.l0
   with_reducible repeat' first | exact ih0 _ _ _ _ _ | exact LeO.refl _ | exact LeO.none _ | refine LeO.ite ?_ ?_ | refine LeO.bind ?_ (fun _ => ?_)
theorem ref09_Mul.mono : ∀ a0 a1 k, LeO (ref09_Mul.f k a0 a1) (ref09_Mul.f (k + 1) a0 a1) := by
 intro a0 a1 k; have ih0 := ref09_Mul.mono_l k
 unfold ref09_Mul.f
 with_reducible repeat' first | exact ih0 _ _ _ _ _ | exact LeO.refl _ | exact LeO.none _ | refine LeO.ite ?_ ?_ | refine LeO.bind ?_ (fun _ => ?_)
theorem ref09_Mul.calls (k : Nat) (a0 : Int) (a1 : Int) (r1 : Int) (r2 : Int) (w : World) (h : ref09_Mul.f k a0 a1 = some (r1, r2)) :
  Calls Try.prog 31 #[.int .i64 a0, .int .i64 a1] w fun e w' => e = .returned (.agg #[.int .u64 r1, .int .u64 r2]) ∧ Below w.heap.size w w' := by
 have hu52 := Try.underlying52; have HB := Zq_.mk (Below.refl w.heap.size w); have H : (ref09_Mul.l0 k a1 0 0 0 (IntKind.u64.wrap (a0))) = some (r1, r2) := h; clear h; have H' := Zq_.mk H; clear H
 go_enter Try.func31, Try.ntmps31
 go_wp2_with (first | ((with_reducible refine qd_ (N := 4) rfl ?_); refine bE_ 4 #[.int .u64 0, .int .u64 0] 52 ?_; intro aV hg w3 hbox hb; have aF := Zq_.mk (hbox); have GW101 := gW_ (w := w) hg (hB_ HB); have GE101 := gW_ (w := w) hg (hB_ HB); replace HB := sB_ HB hb; clear hb hbox hg) | ((with_reducible refine qd_ (N := 5) rfl ?_); refine bE_ 5 #[.int .u64 0, .int .u64 0] 52 ?_; intro aX hg w4 hbox hb; have aI := Zq_.mk (hbox); have GW102 := gW_ (w := w) hg (by exact hSet_ HB); have GE102 := gW_ (w := w) hg (by exact hSet_ HB); replace HB := sB_ HB hb; have aL := nL_ aF hg; have aP := nG_ aF hg; replace aF := kB_ aF hb; clear hb hbox hg) | ((with_reducible refine qd_ (N := 6) rfl ?_); refine bE_ 6 #[.int .u64 0, .int .u64 0] 52 ?_; intro aW hg w5 hbox hb; have aE := Zq_.mk (hbox); have GW103 := gW_ (w := w) hg (by exact hSet_ HB); have GE103 := gW_ (w := w) hg (by exact hSet_ HB); replace HB := sB_ HB hb; have aD := nL_ aF hg; have aK := nG_ aF hg; replace aF := kB_ aF hb; have aC := nL_ aI hg; have aJ := nG_ aI hg; replace aI := kB_ aI hb; clear hb hbox hg; have hnb6 := aK.out; have hnc6 := aD.out; have hnb7 := aJ.out; have hnc7 := aC.out; obtain ⟨bH, bG⟩ := c2_ aE; obtain ⟨bF, bE⟩ := f2_ aE))
 go_loopg [1] k (fun kq v1 w' => ∃ (aM : Int) (aH : Int) (aG : Int) (aB : Int) (aA : Int), v1 = .int .i64 aM ∧ Zq_ (ref09_Mul.l0 kq aM aH aG aB aA = some (r1, r2)) ∧ Zq_ (kq ≤ k) ∧ Zq_ (w'.heap[aV]? = some (.cells #[.int .u64 0, .int .u64 0] 52 (0, 0))) ∧ Zq_ (w'.heap[aX]? = some (.cells #[.int .u64 aH, .int .u64 aG] 52 (0, 0))) ∧ Zq_ (w'.heap[aW]? = some (.cells #[.int .u64 aB, .int .u64 aA] 52 (0, 0))) ∧ Zq_ (Below w.heap.size w w'))
 case atStart => exact ⟨(a1), (0), (0), (0), (IntKind.u64.wrap (a0)), eS_, H', ⟨Nat.le_refl _⟩, ⟨by refine bF_ aD ?_; refine bF_ aD ?_; exact bK_ aF⟩, ⟨by refine bF_ aC ?_; refine bF_ aC ?_; exact bK_ aI⟩, ⟨by exact bW2_ (bK_ aE)⟩, ⟨by exact hSet_ HB⟩⟩
 case round =>
  clear H'
  try clear p2
  try clear c3
  try clear c6
  try clear c7
  try clear bH
  try clear bG
  try clear bF
  try clear bE
  obtain ⟨aM, aH, aG, aB, aA, rfl, HA, HK1, aF, aI, aE, HB⟩ := hrel
  cases gk with
  | zero => exact absurd HA.out (by simp [ref09_Mul.l0])
  | succ k1 =>
   have H := HA.out; clear HA; simp only [ref09_Mul.l0] at H
   by_cases c9 : aM > 0
   ·rw [if_pos c9] at H; have c9b0 : decide (0 < aM) = true := decide_eq_true c9; clear c9
    by_cases c10 : (Int.tmod aM 2) = 1
    ·rw [if_pos c10] at H; have bJ : ((Int.tmod aM 2) == 1) = true := beq_iff_eq.mpr c10; have bI : ((Int.tmod aM 2) != 1) = false := bne_eq_false_iff_eq.mpr c10; clear c10; replace H := ob_ H; obtain ⟨⟨aU, aT⟩, bM, H⟩ := H; replace H : ((ref09_Add.f aB aA aB aA).bind fun aS => (ref09_Mul.l0 k1 (wrap64 (Int.tdiv aM 2)) aU aT aS.1 aS.2)) = some (r1, r2) := H; have A11 := Zq_.mk bM; clear bM; replace H := ob_ H; obtain ⟨⟨bD, bC⟩, bL, H⟩ := H; replace H : (ref09_Mul.l0 k1 (wrap64 (Int.tdiv aM 2)) aU aT bD bC) = some (r1, r2) := H; have A12 := Zq_.mk bL; clear bL; have H' := Zq_.mk H; clear H; have hnb13 := aP.out; have hnc13 := aL.out; have hnb14 := aC.out; have hnc14 := aJ.out; obtain ⟨hcz15_0, hcz15_1⟩ := c2_ aI; obtain ⟨hfz15_0, hfz15_1⟩ := f2_ aI; have hnb16 := aK.out; have hnc16 := aD.out; obtain ⟨hcz17_0, hcz17_1⟩ := c2_ aE; obtain ⟨hfz17_0, hfz17_1⟩ := f2_ aE
     go_wp2_with (first | ((with_reducible refine qh_ (f := 29) rfl ?_); refine goesL_ (some 17) rfl rfl Try.func29 (by kernel_rfl) rfl #[.agg #[.int .u64 aH, .int .u64 aG], .agg #[.int .u64 aB, .int .u64 aA]] rfl aR_ ?_; (with_reducible refine (ref09_Add.calls aH aG aB aA aU aT _ A11.out).mono ?_); rintro e w18 ⟨rfl, hb⟩; refine ⟨_, rfl, ?_⟩; replace aF := kB_ aF hb; replace aI := kB_ aI hb; replace aE := kB_ aE hb; replace HB := sB_ HB hb; (try clear hb); obtain ⟨hcz19_0, hcz19_1⟩ := c2_ aI; obtain ⟨hfz19_0, hfz19_1⟩ := f2_ aI; obtain ⟨hcz20_0, hcz20_1⟩ := c2_ aE; obtain ⟨hfz20_0, hfz20_1⟩ := f2_ aE) | ((with_reducible refine qh_ (f := 29) rfl ?_); refine goesL_ (some 20) rfl rfl Try.func29 (by kernel_rfl) rfl #[.agg #[.int .u64 aB, .int .u64 aA], .agg #[.int .u64 aB, .int .u64 aA]] rfl aR_ ?_; (with_reducible refine (ref09_Add.calls aB aA aB aA bD bC _ A12.out).mono ?_); rintro e w21 ⟨rfl, hb⟩; refine ⟨_, rfl, ?_⟩; replace aF := Zq_.mk (blk_below (g := aV) (o := .cells #[.int .u64 0, .int .u64 0] 52 (0, 0)) (by refine bF_ aL ?_; refine bF_ aL ?_; exact bK_ aF) hb); replace aI := Zq_.mk (blk_below (g := aX) (o := .cells #[.int .u64 aU, .int .u64 aT] 52 (0, 0)) (by exact bW2_ (bK_ aI)) hb); replace aE := Zq_.mk (blk_below (g := aW) (o := .cells #[.int .u64 aB, .int .u64 aA] 52 (0, 0)) (by refine bF_ aJ ?_; refine bF_ aJ ?_; exact bK_ aE) hb); replace HB := sB_ HB hb; (try clear hb); obtain ⟨hcz22_0, hcz22_1⟩ := c2_ aE; obtain ⟨hfz22_0, hfz22_1⟩ := f2_ aE))
     go_roundg k1
     case measure => have := HK1.out; omega
     case rel => exact ⟨(wrap64 (Int.tdiv aM 2)), (aU), (aT), (bD), (bC), eS_, H', ⟨by have := HK1.out; omega⟩, ⟨by refine bF_ aD ?_; refine bF_ aD ?_; exact bK_ aF⟩, ⟨by refine bF_ aC ?_; refine bF_ aC ?_; exact bK_ aI⟩, ⟨by exact bW2_ (bK_ aE)⟩, ⟨by exact hSet_ HB⟩⟩
    ·rw [if_neg c10] at H; have bJ : ((Int.tmod aM 2) == 1) = false := beq_eq_false_iff_ne.mpr c10; have bI : ((Int.tmod aM 2) != 1) = true := bne_iff_ne.mpr c10; replace H := ob_ H; obtain ⟨⟨bB, bA⟩, bK, H⟩ := H; replace H : (ref09_Mul.l0 k1 (wrap64 (Int.tdiv aM 2)) aH aG bB bA) = some (r1, r2) := H; have A23 := Zq_.mk bK; clear bK; have H' := Zq_.mk H; clear H; have hnb24 := aK.out; have hnc24 := aD.out; have hnb25 := aJ.out; have hnc25 := aC.out; obtain ⟨hcz26_0, hcz26_1⟩ := c2_ aE; obtain ⟨hfz26_0, hfz26_1⟩ := f2_ aE
     go_wp2_with (first | ((with_reducible refine qh_ (f := 29) rfl ?_); refine goesL_ (some 20) rfl rfl Try.func29 (by kernel_rfl) rfl #[.agg #[.int .u64 aB, .int .u64 aA], .agg #[.int .u64 aB, .int .u64 aA]] rfl aR_ ?_; (with_reducible refine (ref09_Add.calls aB aA aB aA bB bA _ A23.out).mono ?_); rintro e w27 ⟨rfl, hb⟩; refine ⟨_, rfl, ?_⟩; replace aF := kB_ aF hb; replace aI := kB_ aI hb; replace aE := kB_ aE hb; replace HB := sB_ HB hb; (try clear hb); obtain ⟨hcz28_0, hcz28_1⟩ := c2_ aE; obtain ⟨hfz28_0, hfz28_1⟩ := f2_ aE))
     go_roundg k1
     case measure => have := HK1.out; omega
     case rel => exact ⟨(wrap64 (Int.tdiv aM 2)), (aH), (aG), (bB), (bA), eS_, H', ⟨by have := HK1.out; omega⟩, ⟨by refine bF_ aD ?_; refine bF_ aD ?_; exact bK_ aF⟩, ⟨by refine bF_ aC ?_; refine bF_ aC ?_; exact bK_ aI⟩, ⟨by exact bW2_ (bK_ aE)⟩, ⟨by exact hSet_ HB⟩⟩
   ·rw [if_neg c9] at H; have c9b0 : decide (0 < aM) = false := decide_eq_false c9; clear c9; simp only [Option.some.injEq, Prod.mk.injEq] at H; obtain ⟨rfl, rfl⟩ := H; have hnb29 := aP.out; have hnc29 := aL.out; have hnb30 := aC.out; have hnc30 := aJ.out; obtain ⟨hcz31_0, hcz31_1⟩ := c2_ aI; obtain ⟨hfz31_0, hfz31_1⟩ := f2_ aI; have hnb32 := aD.out; have hnc32 := aK.out; obtain ⟨hcz33_0, hcz33_1⟩ := c2_ aF; obtain ⟨hfz33_0, hfz33_1⟩ := f2_ aF
    go_wp2
    refine bodyPost_ret (results_cell_row rfl _ _ aV 52 #[.int .u64 aH, .int .u64 aG] (0, 0) _ rfl (by exact bW2_ (bK_ aF)) Try.underlying52 rfl (by kernel_rfl)) rfl ?_; exact ⟨by exact eW_, by exact hSet_ HB⟩
def ref10_Same.f (k : Nat) (aE : Int) (aG : List Int) (aD : Int) (aF : List Int) : Option (Bool) := if aE = aD then ((ref06_Ints.f k aG aF).bind fun aI => (some aI)) else (some false)
theorem ref10_Same.mono : ∀ a0 a1 a2 a3 k, LeO (ref10_Same.f k a0 a1 a2 a3) (ref10_Same.f (k + 1) a0 a1 a2 a3) := by
 intro a0 a1 a2 a3 k
 unfold ref10_Same.f
 with_reducible repeat' first | exact ref06_Ints.mono _ _ _ | exact LeO.refl _ | exact LeO.none _ | refine LeO.ite ?_ ?_ | refine LeO.bind ?_ (fun _ => ?_)
theorem ref10_Same.calls (k : Nat) (aE : Int) (aM : Option Addr) (aK : Nat) (aG : List Int) (aD : Int) (aL : Option Addr) (aJ : Nat) (aF : List Int) (r : Bool) (w : World) (aO : Kd.C (Kd.int .i64) w aM aG.length aG) (aQ : aG.length ≤ aK) (aN : Kd.C (Kd.int .i64) w aL aF.length aF) (aP : aF.length ≤ aJ) (h : ref10_Same.f k aE aG aD aF = some r) :
  Calls Try.prog 15 #[.agg #[.int .i64 aE, .slice aM aG.length aK], .agg #[.int .i64 aD, .slice aL aF.length aJ]] w fun e w' => e = .returned (.bool r) ∧ Below w.heap.size w w' := by
 have hu27 := Try.underlying27; have aU := Zq_.mk aO; have aW := Zq_.mk aQ; clear aO aQ; have aT := Zq_.mk aN; have aV := Zq_.mk aP; clear aN aP; have HB := Zq_.mk (Below.refl w.heap.size w); have H : (if aE = aD then ((ref06_Ints.f k aG aF).bind fun aI => (some aI)) else (some false)) = some r := h; clear h
 by_cases c3 : aE = aD
 ·rw [if_pos c3] at H; have c3b0 : (aE == aD) = true := beq_iff_eq.mpr c3; have c3b1 : (aE != aD) = false := bne_eq_false_iff_eq.mpr c3; clear c3; replace H := ob_ H; obtain ⟨aI, A40, H⟩ := H; (try dsimp only at H); have A4 := Zq_.mk A40; clear A40; obtain rfl := Option.some.inj H
  go_enter Try.func15, Try.ntmps15
  go_wp2_with (first | ((with_reducible refine qd_ (N := 2) rfl ?_); refine bE_ 2 #[.int .i64 aE, .slice aM aG.length aK] 27 ?_; intro aS hg w5 hbox hb; have aA := Zq_.mk (hbox); have aY := gW_ (w := w) hg (hB_ HB); have bA := gW_ (w := w) hg (hB_ HB); replace HB := sB_ HB hb; clear hb hbox hg) | ((with_reducible refine qd_ (N := 3) rfl ?_); refine bE_ 3 #[.int .i64 aD, .slice aL aF.length aJ] 27 ?_; intro aR hg w6 hbox hb; have aH := Zq_.mk (hbox); have aX := gW_ (w := w) hg (by exact hSet_ HB); have aZ := gW_ (w := w) hg (by exact hSet_ HB); replace HB := sB_ HB hb; have aC := nL_ aA hg; have aB := nG_ aA hg; replace aA := kB_ aA hb; clear hb hbox hg; have hnb7 := aC.out; have hnc7 := aB.out; obtain ⟨hcz8_0, hcz8_1⟩ := c2_ aA; obtain ⟨hfz8_0, hfz8_1⟩ := f2_ aA; obtain ⟨hcz9_0, hcz9_1⟩ := c2_ aH; obtain ⟨hfz9_0, hfz9_1⟩ := f2_ aH) | (go_at_call 23; (with_reducible refine (ref06_Ints.calls k _ _ aG _ _ aF aI _ ?side1 ?side2 ?side3 ?side4 A4.out).mono ?_); (case side1 => exact cX_ (Kd.C_below aU.out HB.out)); (case side2 => exact aW.out); (case side3 => exact cX_ (Kd.C_below aT.out HB.out)); (case side4 => exact aV.out); rintro e w' ⟨rfl, ⟨nd, rfl⟩⟩))
  go_ret
  exact ⟨by exact eW_, by exact hSet_ HB⟩
 ·rw [if_neg c3] at H; have c3b0 : (aE == aD) = false := beq_eq_false_iff_ne.mpr c3; have c3b1 : (aE != aD) = true := bne_iff_ne.mpr c3; obtain rfl := Option.some.inj H
  go_enter Try.func15, Try.ntmps15
  go_wp2_with (first | ((with_reducible refine qd_ (N := 2) rfl ?_); refine bE_ 2 #[.int .i64 aE, .slice aM aG.length aK] 27 ?_; intro aS hg w10 hbox hb; have aA := Zq_.mk (hbox); have aY := gW_ (w := w) hg (hB_ HB); have bA := gW_ (w := w) hg (hB_ HB); replace HB := sB_ HB hb; clear hb hbox hg) | ((with_reducible refine qd_ (N := 3) rfl ?_); refine bE_ 3 #[.int .i64 aD, .slice aL aF.length aJ] 27 ?_; intro aR hg w11 hbox hb; have aH := Zq_.mk (hbox); have aX := gW_ (w := w) hg (by exact hSet_ HB); have aZ := gW_ (w := w) hg (by exact hSet_ HB); replace HB := sB_ HB hb; have aC := nL_ aA hg; have aB := nG_ aA hg; replace aA := kB_ aA hb; clear hb hbox hg; have hnb12 := aC.out; have hnc12 := aB.out; obtain ⟨hcz13_0, hcz13_1⟩ := c2_ aA; obtain ⟨hfz13_0, hfz13_1⟩ := f2_ aA; obtain ⟨hcz14_0, hcz14_1⟩ := c2_ aH; obtain ⟨hfz14_0, hfz14_1⟩ := f2_ aH))
  go_ret
  exact ⟨by exact eW_, by exact hSet_ HB⟩
open Go.Proofs.YtkojggbogdjmcaaW.Hw in
theorem ContainsFuncI.calls (p : Int → Bool) (g : Nat) (lb : Array Value) (eg : ∀ args w, (callFunc g args).run Try.prog w = .ok (.enter g args) w) (A0 : Option Addr) (c0 : Nat) (l0 : List Int) (w : World)
  (hp : PredI Try.prog g lb p w) (hr0 : Kd.C (Kd.int .i64) w A0 l0.length l0) :
  Calls Try.prog 21 #[.slice A0 l0.length c0, .func (.func g) #[] lb] w fun e w' => e = .returned (.bool (l0.any p)) ∧ Below w.heap.size w w' := by
 have hcall := IndexFuncI.calls p g lb eg A0 c0 l0 w hp hr0; rw [← idxI_any]; generalize idxI p l0 = r at hcall ⊢; clear hp hr0
 go_enter Try.func21, Try.ntmps21
 go_wp2_with fail
 refine hcall.mono ?_; rintro e w1 ⟨rfl, hb1⟩
 go_wp2_with fail
 go_ret
 exact ⟨rfl, hb1⟩
def window_Same.f (k : Nat) (aE : Int) (aG : List Int) (aD : Int) (aF : List Int) : Option (Bool) := if aE = aD then ((slices_Equal_int_int.f k aG aF).bind fun aI => (some aI)) else (some false)
theorem window_Same.mono : ∀ a0 a1 a2 a3 k, LeO (window_Same.f k a0 a1 a2 a3) (window_Same.f (k + 1) a0 a1 a2 a3) := by
 intro a0 a1 a2 a3 k
 unfold window_Same.f
 with_reducible repeat' first | exact slices_Equal_int_int.mono _ _ _ | exact LeO.refl _ | exact LeO.none _ | refine LeO.ite ?_ ?_ | refine LeO.bind ?_ (fun _ => ?_)
theorem window_Same.calls (k : Nat) (aE : Int) (aM : Option Addr) (aK : Nat) (aG : List Int) (aD : Int) (aL : Option Addr) (aJ : Nat) (aF : List Int) (r : Bool) (w : World) (aO : Kd.C (Kd.int .i64) w aM aG.length aG) (aQ : aG.length ≤ aK) (aN : Kd.C (Kd.int .i64) w aL aF.length aF) (aP : aF.length ≤ aJ) (h : window_Same.f k aE aG aD aF = some r) :
  Calls Try.prog 17 #[.agg #[.int .i64 aE, .slice aM aG.length aK], .agg #[.int .i64 aD, .slice aL aF.length aJ]] w fun e w' => e = .returned (.bool r) ∧ Below w.heap.size w w' := by
 have hu27 := Try.underlying27; have aU := Zq_.mk aO; have aW := Zq_.mk aQ; clear aO aQ; have aT := Zq_.mk aN; have aV := Zq_.mk aP; clear aN aP; have HB := Zq_.mk (Below.refl w.heap.size w); have H : (if aE = aD then ((slices_Equal_int_int.f k aG aF).bind fun aI => (some aI)) else (some false)) = some r := h; clear h
 by_cases c3 : aE = aD
 ·rw [if_pos c3] at H; have c3b0 : (aE == aD) = true := beq_iff_eq.mpr c3; have c3b1 : (aE != aD) = false := bne_eq_false_iff_eq.mpr c3; clear c3; replace H := ob_ H; obtain ⟨aI, A40, H⟩ := H; (try dsimp only at H); have A4 := Zq_.mk A40; clear A40; obtain rfl := Option.some.inj H
  go_enter Try.func17, Try.ntmps17
  go_wp2_with (first | ((with_reducible refine qd_ (N := 2) rfl ?_); refine bE_ 2 #[.int .i64 aE, .slice aM aG.length aK] 27 ?_; intro aS hg w5 hbox hb; have aA := Zq_.mk (hbox); have aY := gW_ (w := w) hg (hB_ HB); have bA := gW_ (w := w) hg (hB_ HB); replace HB := sB_ HB hb; clear hb hbox hg) | ((with_reducible refine qd_ (N := 3) rfl ?_); refine bE_ 3 #[.int .i64 aD, .slice aL aF.length aJ] 27 ?_; intro aR hg w6 hbox hb; have aH := Zq_.mk (hbox); have aX := gW_ (w := w) hg (by exact hSet_ HB); have aZ := gW_ (w := w) hg (by exact hSet_ HB); replace HB := sB_ HB hb; have aC := nL_ aA hg; have aB := nG_ aA hg; replace aA := kB_ aA hb; clear hb hbox hg; have hnb7 := aC.out; have hnc7 := aB.out; obtain ⟨hcz8_0, hcz8_1⟩ := c2_ aA; obtain ⟨hfz8_0, hfz8_1⟩ := f2_ aA; obtain ⟨hcz9_0, hcz9_1⟩ := c2_ aH; obtain ⟨hfz9_0, hfz9_1⟩ := f2_ aH) | (go_at_call 25; (with_reducible refine (slices_Equal_int_int.calls k _ _ aG _ _ aF aI _ ?side1 ?side2 ?side3 ?side4 A4.out).mono ?_); (case side1 => exact cX_ (Kd.C_below aU.out HB.out)); (case side2 => exact aW.out); (case side3 => exact cX_ (Kd.C_below aT.out HB.out)); (case side4 => exact aV.out); rintro e w' ⟨rfl, ⟨nd, rfl⟩⟩))
  go_ret
  exact ⟨by exact eW_, by exact hSet_ HB⟩
 ·rw [if_neg c3] at H; have c3b0 : (aE == aD) = false := beq_eq_false_iff_ne.mpr c3; have c3b1 : (aE != aD) = true := bne_iff_ne.mpr c3; obtain rfl := Option.some.inj H
  go_enter Try.func17, Try.ntmps17
  go_wp2_with (first | ((with_reducible refine qd_ (N := 2) rfl ?_); refine bE_ 2 #[.int .i64 aE, .slice aM aG.length aK] 27 ?_; intro aS hg w10 hbox hb; have aA := Zq_.mk (hbox); have aY := gW_ (w := w) hg (hB_ HB); have bA := gW_ (w := w) hg (hB_ HB); replace HB := sB_ HB hb; clear hb hbox hg) | ((with_reducible refine qd_ (N := 3) rfl ?_); refine bE_ 3 #[.int .i64 aD, .slice aL aF.length aJ] 27 ?_; intro aR hg w11 hbox hb; have aH := Zq_.mk (hbox); have aX := gW_ (w := w) hg (by exact hSet_ HB); have aZ := gW_ (w := w) hg (by exact hSet_ HB); replace HB := sB_ HB hb; have aC := nL_ aA hg; have aB := nG_ aA hg; replace aA := kB_ aA hb; clear hb hbox hg; have hnb12 := aC.out; have hnc12 := aB.out; obtain ⟨hcz13_0, hcz13_1⟩ := c2_ aA; obtain ⟨hfz13_0, hfz13_1⟩ := f2_ aA; obtain ⟨hcz14_0, hcz14_1⟩ := c2_ aH; obtain ⟨hfz14_0, hfz14_1⟩ := f2_ aH))
  go_ret
  exact ⟨by exact eW_, by exact hSet_ HB⟩
/-- A gap that may not be. -/
def window_Right.odd (n : Int) : Bool := decide (n < 1) || decide (n > 1099511627776)
def window_Right.f (a0 : Int) (l0 : List Int) : Option Bool := some (decide (a0 ≥ -1) && decide (a0 ≤ 1099511627776) && decide ((l0.length : Int) ≤ 16) && !(l0.any window_Right.odd))
open Go.Proofs.YtkojggbogdjmcaaW.Hw in
theorem window_Right.pred (w : World) : PredI Try.prog 20 #[] window_Right.odd w := by
 intro W x hb
 by_cases h1 : x < 1
 ·have e : window_Right.odd x = true := by simp [window_Right.odd, h1]
  rw [e]; have h1b : decide (x < 1) = true := decide_eq_true h1; clear h1 hb e
  go_enter Try.func20, Try.ntmps20
  go_wp2
  go_ret
  exact ⟨by first | rfl | (simp; done) | (simp [*]; done), Below.refl _ _⟩
 ·have e : window_Right.odd x = decide (1099511627776 < x) := by simp [window_Right.odd, h1]
  rw [e]; have h1b : decide (x < 1) = false := decide_eq_false h1; clear h1 hb e
  go_enter Try.func20, Try.ntmps20
  go_wp2
  go_ret
  exact ⟨by first | rfl | (simp; done) | (simp [*]; done), Below.refl _ _⟩
open Go.Proofs.YtkojggbogdjmcaaW.Hw in
theorem window_Right.calls (a0 : Int) (A0 : Option Addr) (c0 : Nat) (l0 : List Int) (r : Bool) (w : World) (hr0 : Kd.C (Kd.int .i64) w A0 l0.length l0) (hc0 : l0.length ≤ c0) (h : window_Right.f a0 l0 = some r) :
  Calls Try.prog 10 #[.agg #[.int .i64 a0, .slice A0 l0.length c0]] w fun e w' => e = .returned (.bool r) ∧ Below w.heap.size w w' := by
 have hu27 := Try.underlying27
 unfold window_Right.f at h
 obtain rfl := Option.some.inj h; clear h; have HR := Zq_.mk hr0; clear hr0 hc0; have HB := Zq_.mk (Below.refl w.heap.size w)
 by_cases c1 : -1 ≤ a0
 case neg =>
  have c1b : decide (-1 ≤ a0) = false := decide_eq_false c1; have e : decide (a0 ≥ -1) = false := c1b; rw [e]; clear c1 e
  go_enter Try.func10, Try.ntmps10
  go_wp2_with (((with_reducible refine qd_ (N := 1) rfl ?_); (try (refine gate_guard (by rfl) ?_; dsimp only)); refine bE_ 1 #[.int .i64 a0, .slice A0 l0.length c0] 27 ?_; intro aF hg w2 hbox hb; replace HB := sB_ HB hb; have aA := Zq_.mk (hbox); clear hb hbox hg; obtain ⟨aE, aD⟩ := c2_ aA; obtain ⟨aC, aB⟩ := f2_ aA))
  go_ret
  exact ⟨by first | rfl | (simp; done) | (simp [*]; done), (hB_ HB)⟩
 have c1b : decide (-1 ≤ a0) = true := decide_eq_true c1; have e : decide (a0 ≥ -1) = true := c1b; rw [e]; clear c1 e
 by_cases c2 : a0 ≤ 1099511627776
 case neg =>
  have c2b : decide (a0 ≤ 1099511627776) = false := decide_eq_false c2; rw [c2b]; clear c2
  go_enter Try.func10, Try.ntmps10
  go_wp2_with (((with_reducible refine qd_ (N := 1) rfl ?_); (try (refine gate_guard (by rfl) ?_; dsimp only)); refine bE_ 1 #[.int .i64 a0, .slice A0 l0.length c0] 27 ?_; intro aF hg w2 hbox hb; replace HB := sB_ HB hb; have aA := Zq_.mk (hbox); clear hb hbox hg; obtain ⟨aE, aD⟩ := c2_ aA; obtain ⟨aC, aB⟩ := f2_ aA))
  go_ret
  exact ⟨by first | rfl | (simp; done) | (simp [*]; done), (hB_ HB)⟩
 have c2b : decide (a0 ≤ 1099511627776) = true := decide_eq_true c2; rw [c2b]; clear c2
 by_cases c3 : (l0.length : Int) ≤ 16
 case neg =>
  have c3b : decide ((l0.length : Int) ≤ 16) = false := decide_eq_false c3; have c3c : decide (l0.length ≤ 16) = false := decide_eq_false (by omega); rw [c3b]; clear c3
  go_enter Try.func10, Try.ntmps10
  go_wp2_with (((with_reducible refine qd_ (N := 1) rfl ?_); (try (refine gate_guard (by rfl) ?_; dsimp only)); refine bE_ 1 #[.int .i64 a0, .slice A0 l0.length c0] 27 ?_; intro aF hg w2 hbox hb; replace HB := sB_ HB hb; have aA := Zq_.mk (hbox); clear hb hbox hg; obtain ⟨aE, aD⟩ := c2_ aA; obtain ⟨aC, aB⟩ := f2_ aA))
  go_ret
  exact ⟨by first | rfl | (simp; done) | (simp [*]; done), (hB_ HB)⟩
 have c3b : decide ((l0.length : Int) ≤ 16) = true := decide_eq_true c3; have c3c : decide (l0.length ≤ 16) = true := decide_eq_true (by omega); rw [c3b]; clear c3
 have hcall := fun (W : World) (hW : Below w.heap.size w W) => ContainsFuncI.calls window_Right.odd 20 #[] (fun args w => enters Try.prog Try.func20 (by kernel_rfl) (by kernel_rfl) args w) A0 c0 l0 W (window_Right.pred W) (Kd.C_below HR.out hW)
 generalize hb_ : l0.any window_Right.odd = b at hcall ⊢; clear hb_; have HC := Zq_.mk hcall; clear hcall
 go_enter Try.func10, Try.ntmps10
 go_wp2_with (first | ((with_reducible refine qd_ (N := 1) rfl ?_); (try (refine gate_guard (by rfl) ?_; dsimp only)); refine bE_ 1 #[.int .i64 a0, .slice A0 l0.length c0] 27 ?_; intro aF hg w2 hbox hb; replace HB := sB_ HB hb; have aA := Zq_.mk (hbox); clear hb hbox hg; obtain ⟨aE, aD⟩ := c2_ aA; obtain ⟨aC, aB⟩ := f2_ aA) | (go_at_call 21; refine (HC.out _ (hB_ HB)).mono ?_; rintro e w3 ⟨rfl, hb3⟩; have n0_ := Zq_.mk (qm_ (hB_ HB) hb3); clear HB; have HB := n0_; clear n0_ hb3))
 go_ret
 exact ⟨by first | rfl | (simp; done) | (simp [*]; done), (hB_ HB)⟩
end Go.Proofs.Ytkojggbogdjmcaa.P

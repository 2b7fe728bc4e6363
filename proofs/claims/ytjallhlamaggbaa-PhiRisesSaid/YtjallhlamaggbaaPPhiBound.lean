/- What this function of the program comes to, and that the machine's call does it: written by a program (wip/tool). No condition. -/
import Derived.Test.YtjallhlamaggbaaP0
import Derived.Test.YtjallhlamaggbaaPBitsMul64
import Derived.Test.YtjallhlamaggbaaPBitsDiv64
import Derived.Test.YtjallhlamaggbaaPPhiWithin
import Derived.Test.YtjallhlamaggbaaHw
namespace Go.Proofs.Ytjallhlamaggbaa.P
open Go.RowKit Go.Proofs.YtjallhlamaggbaaW.PrintWords Go.Proofs.YtjallhlamaggbaaW.PrintLast Go.Proofs.YtjallhlamaggbaaW.PrintMore
attribute [local go_sem] max2_int min2_int max_two min_two max_three min_three max_four min_four   -- for this text's walks alone
set_option linter.unusedVariables false
set_option linter.unusedSimpArgs false
/-! ### phi_Bound: function 17 -/
def phi_Bound.j0 : Nat → Int → Int → Bool → Option (Int)
 | 0, _, _, _ => none
 | k + 1, x0, x1, x16 => if x16 = true then (some 0) else ((bits_Mul64.f (IntKind.u64.wrap ((IntKind.u64.wrap (x0)) + 1)) (IntKind.u64.wrap (x1))).bind fun bt103 => (if bt103.1 ≥ 434 then (some 4611686018427387904) else ((bits_Div64.f k bt103.1 bt103.2 434).bind fun bt105 => (if bt105.2 > 0 then (some (wrap64 (mn (IntKind.u64.wrap (bt105.1 + 1)) 4611686018427387904))) else (some (wrap64 (mn bt105.1 4611686018427387904)))))))
def phi_Bound.f (k : Nat) (a0 : Int) (a1 : Int) : Option (Int) := (phi_within.f a0 0).bind fun t101 => (if t101 = true then ((phi_within.f a1 1).bind fun t102 => (phi_Bound.j0 k a0 a1 (!t102))) else (phi_Bound.j0 k a0 a1 true))
theorem phi_Bound.mono_l : ∀ k, (∀ y0 y1 y2, LeO (phi_Bound.j0 k y0 y1 y2) (phi_Bound.j0 (k + 1) y0 y1 y2))
 | 0 => fun _ _ _ r h => by simp [phi_Bound.j0] at h
 | k + 1 => by
  have ih0 := phi_Bound.mono_l k
  ·intro y0 y1 y2
   unfold phi_Bound.j0
   repeat' first
   | (with_reducible exact ih0 _ _ _)
   | (with_reducible exact bits_Div64.mono _ _ _ _)
   | (with_reducible exact LeO.refl _)
   | (with_reducible exact LeO.none _)
   | (with_reducible refine LeO.ite ?_ ?_)
   | (with_reducible refine LeO.bind ?_ (fun _ => ?_))
   | exact ih0 _ _ _
   | exact bits_Div64.mono _ _ _ _
   | exact LeO.none _
   | refine LeO.ite ?_ ?_
   | refine LeO.bind ?_ (fun _ => ?_)
theorem phi_Bound.mono : ∀ a0 a1 k, LeO (phi_Bound.f k a0 a1) (phi_Bound.f (k + 1) a0 a1) := by
 intro a0 a1 k
 have ih0 := phi_Bound.mono_l k
 unfold phi_Bound.f
 repeat' first
   | (with_reducible exact ih0 _ _ _)
   | (with_reducible exact bits_Div64.mono _ _ _ _)
   | (with_reducible exact LeO.refl _)
   | (with_reducible exact LeO.none _)
   | (with_reducible refine LeO.ite ?_ ?_)
   | (with_reducible refine LeO.bind ?_ (fun _ => ?_))
   | exact ih0 _ _ _
   | exact bits_Div64.mono _ _ _ _
   | exact LeO.none _
   | refine LeO.ite ?_ ?_
   | refine LeO.bind ?_ (fun _ => ?_)
set_option maxHeartbeats 8000000 in
set_option maxRecDepth 100000 in
theorem phi_Bound.calls (k : Nat) (a0 : Int) (a1 : Int) (r : Int) (w : World) (h : phi_Bound.f k a0 a1 = some r) :
  Calls Try.prog 17 #[.int .i64 a0, .int .i64 a1] w fun e w' => e = .returned (.int .i64 r) ∧ Below w.heap.size w w' := by
 have HB := Aside0.mk (Below.refl w.heap.size w)
 have H : ((phi_within.f a0 0).bind fun t101 => (if t101 = true then ((phi_within.f a1 1).bind fun t102 => (phi_Bound.j0 k a0 a1 (!t102))) else (phi_Bound.j0 k a0 a1 true))) = some r := h
 clear h
 have HC3 := Aside0.mk H
 clear H
 go_enter Try.func17, Try.ntmps17
 go_upto_region 1 with (fail)
 go_cut [16] (fun v16 wc => ∃ (kq : Nat) (x16_2 : Bool), v16 = .bool x16_2 ∧ Aside0 (phi_Bound.j0 kq a0 a1 x16_2 = some r) ∧ Aside0 (kq ≤ k) ∧ Aside0 (Below w.heap.size w wc))
 case first =>
  have H := HC3.out
  clear HC3
  replace H := ob_ H
  obtain ⟨t101, A40, H⟩ := H
  replace H : (if t101 = true then ((phi_within.f a1 1).bind fun t102 => (phi_Bound.j0 k a0 a1 (!t102))) else (phi_Bound.j0 k a0 a1 true)) = some r := H
  have A4 := Aside0.mk A40
  clear A40
  by_cases c5 : t101 = true
  ·subst c5
   have H1 : ((phi_within.f a1 1).bind fun t102 => (phi_Bound.j0 k a0 a1 (!t102))) = some r := by rw [if_pos rfl] at H; exact H
   clear H
   have H := H1
   clear H1
   replace H := ob_ H
   obtain ⟨t102, A60, H⟩ := H
   replace H : (phi_Bound.j0 k a0 a1 (!t102)) = some r := H
   have A6 := Aside0.mk A60
   clear A60
   have H' := Aside0.mk H
   clear H
   go_wp2_with (first | ((with_reducible refine qm_ (f := 24) rfl ?_); refine goesL_ (some 10) rfl rfl Try.func24 (by kernel_rfl) rfl #[.int .i64 a0, .int .i64 0] rfl (by (try simp only [List.map_toArray, List.map_cons, List.map_nil]); first | done | rfl | (simp only [List.length_drop, List.length_take]; rfl)) ?_; (with_reducible refine (phi_within.calls a0 0 true _ A4.out).mono ?_); rintro e w' ⟨rfl, ⟨nd, rfl⟩⟩; refine ⟨_, rfl, ?_⟩) | (go_at_call 24; (with_reducible refine (phi_within.calls a1 1 t102 _ A6.out).mono ?_); rintro e w' ⟨rfl, ⟨nd, rfl⟩⟩))
   go_meet
   case rel => exact ⟨_, (!t102), (by first | rfl | (simp; done) | (simp [*]; done)), H', ⟨by first | omega | exact Nat.le_refl _⟩, ⟨by repeat (first | (with_reducible first | exact HB.out | apply qc_ | apply qa_ | apply qb_) | exact HB.out)⟩⟩
  ·replace c5 := Bool.eq_false_iff.mpr c5
   subst c5
   have H1 : (phi_Bound.j0 k a0 a1 true) = some r := by rw [if_neg (show ¬ (false = true) by decide)] at H; exact H
   clear H
   have H := H1
   clear H1
   have H' := Aside0.mk H
   clear H
   go_wp2_with (first | ((with_reducible refine qm_ (f := 24) rfl ?_); refine goesL_ (some 10) rfl rfl Try.func24 (by kernel_rfl) rfl #[.int .i64 a0, .int .i64 0] rfl (by (try simp only [List.map_toArray, List.map_cons, List.map_nil]); first | done | rfl | (simp only [List.length_drop, List.length_take]; rfl)) ?_; (with_reducible refine (phi_within.calls a0 0 false _ A4.out).mono ?_); rintro e w' ⟨rfl, ⟨nd, rfl⟩⟩; refine ⟨_, rfl, ?_⟩))
   go_meet
   case rel => exact ⟨_, (true), (by first | rfl | (simp; done) | (simp [*]; done)), H', ⟨by first | omega | exact Nat.le_refl _⟩, ⟨by repeat (first | (with_reducible first | exact HB.out | apply qc_ | apply qa_ | apply qb_) | exact HB.out)⟩⟩
 case rest =>
  clear HC3
  try clear c1
  try clear c2
  try clear p2
  try clear c5
  obtain ⟨kq, x16_2, rfl, HA, HJ2, HB⟩ := hcut
  cases kq with
  | zero => exact absurd HA.out (by simp [phi_Bound.j0])
  | succ kj2 =>
   have H := HA.out
   clear HA
   simp only [phi_Bound.j0] at H
   by_cases c7 : x16_2 = true
   ·subst c7
    have H1 : (some 0) = some r := by rw [if_pos rfl] at H; exact H
    clear H
    have H := H1
    clear H1
    obtain rfl := Option.some.inj H
    go_wp2
    go_ret
    exact ⟨by first | rfl | (simp [errW_none, errW_some] <;> rfl) | (simp [*, errW_none, errW_some] <;> rfl), by repeat (first | (with_reducible first | exact HB.out | apply qc_ | apply qa_ | apply qb_) | exact HB.out)⟩
   ·replace c7 := Bool.eq_false_iff.mpr c7
    subst c7
    have H1 : ((bits_Mul64.f (IntKind.u64.wrap ((IntKind.u64.wrap (a0)) + 1)) (IntKind.u64.wrap (a1))).bind fun bt103 => (if bt103.1 ≥ 434 then (some 4611686018427387904) else ((bits_Div64.f kj2 bt103.1 bt103.2 434).bind fun bt105 => (if bt105.2 > 0 then (some (wrap64 (mn (IntKind.u64.wrap (bt105.1 + 1)) 4611686018427387904))) else (some (wrap64 (mn bt105.1 4611686018427387904))))))) = some r := by rw [if_neg (show ¬ (false = true) by decide)] at H; exact H
    clear H
    have H := H1
    clear H1
    replace H := ob_ H
    obtain ⟨⟨t103, t104⟩, A80, H⟩ := H
    replace H : (if t103 ≥ 434 then (some 4611686018427387904) else ((bits_Div64.f kj2 t103 t104 434).bind fun bt105 => (if bt105.2 > 0 then (some (wrap64 (mn (IntKind.u64.wrap (bt105.1 + 1)) 4611686018427387904))) else (some (wrap64 (mn bt105.1 4611686018427387904)))))) = some r := H
    have A8 := Aside0.mk A80
    clear A80
    by_cases c9 : t103 ≥ 434
    ·rw [if_pos c9] at H
     have c9b0 : decide (434 ≤ t103) = true := decide_eq_true c9
     clear c9
     obtain rfl := Option.some.inj H
     go_wp2_with (first | ((with_reducible refine qm_ (f := 25) rfl ?_); refine goesL_ (some 23) rfl rfl Try.func25 (by kernel_rfl) rfl #[.int .u64 (IntKind.u64.wrap ((IntKind.u64.wrap (a0)) + 1)), .int .u64 (IntKind.u64.wrap (a1))] rfl (by (try simp only [List.map_toArray, List.map_cons, List.map_nil]); first | done | rfl | (simp only [List.length_drop, List.length_take]; rfl)) ?_; (with_reducible refine (bits_Mul64.calls (IntKind.u64.wrap ((IntKind.u64.wrap (a0)) + 1)) (IntKind.u64.wrap (a1)) t103 t104 _ A8.out).mono ?_); rintro e w' ⟨rfl, ⟨nd, rfl⟩⟩; refine ⟨_, rfl, ?_⟩))
     go_ret
     exact ⟨by first | rfl | (simp [errW_none, errW_some] <;> rfl) | (simp [*, errW_none, errW_some] <;> rfl), by repeat (first | (with_reducible first | exact HB.out | apply qc_ | apply qa_ | apply qb_) | exact HB.out)⟩
    ·rw [if_neg c9] at H
     have c9b0 : decide (434 ≤ t103) = false := decide_eq_false c9
     clear c9
     replace H := ob_ H
     obtain ⟨⟨t105, t106⟩, A100, H⟩ := H
     replace H : (if t106 > 0 then (some (wrap64 (mn (IntKind.u64.wrap (t105 + 1)) 4611686018427387904))) else (some (wrap64 (mn t105 4611686018427387904)))) = some r := H
     have A10 := Aside0.mk A100
     clear A100
     by_cases c11 : t106 > 0
     ·rw [if_pos c11] at H
      have c11b0 : decide (0 < t106) = true := decide_eq_true c11
      clear c11
      obtain ⟨ji12, hji12⟩ : ∃ j_ : Int, (mn (IntKind.u64.wrap (t105 + 1)) 4611686018427387904) = j_ := ⟨_, rfl⟩
      replace H : (some (wrap64 (ji12))) = some r := by first | (rw [hji12] at H; exact H) | (simp only [hji12] at H ⊢; exact H)
      (try rw [hji12] at A8)
      (try rw [hji12] at A10)
      (try (have hji12h : ji12 ≤ 4611686018427387904 := by (rw [← hji12]; unfold mn; (repeat' split) <;> omega)))
      (try (have hji12g : ji12 ≤ 64 := by omega))
      have hji12_ : (if 4611686018427387904 < (IntKind.u64.wrap (t105 + 1)) then 4611686018427387904 else (IntKind.u64.wrap (t105 + 1))) = ji12 := hji12
      obtain rfl := Option.some.inj H
      go_wp2_with (first | ((with_reducible refine qm_ (f := 25) rfl ?_); refine goesL_ (some 23) rfl rfl Try.func25 (by kernel_rfl) rfl #[.int .u64 (IntKind.u64.wrap ((IntKind.u64.wrap (a0)) + 1)), .int .u64 (IntKind.u64.wrap (a1))] rfl (by (try simp only [List.map_toArray, List.map_cons, List.map_nil]); first | done | rfl | (simp only [List.length_drop, List.length_take]; rfl)) ?_; (with_reducible refine (bits_Mul64.calls (IntKind.u64.wrap ((IntKind.u64.wrap (a0)) + 1)) (IntKind.u64.wrap (a1)) t103 t104 _ A8.out).mono ?_); rintro e w' ⟨rfl, ⟨nd, rfl⟩⟩; refine ⟨_, rfl, ?_⟩) | ((with_reducible refine qm_ (f := 26) rfl ?_); refine goesL_ (some 31) rfl rfl Try.func26 (by kernel_rfl) rfl #[.int .u64 t103, .int .u64 t104, .int .u64 434] rfl (by (try simp only [List.map_toArray, List.map_cons, List.map_nil]); first | done | rfl | (simp only [List.length_drop, List.length_take]; rfl)) ?_; (with_reducible refine (bits_Div64.calls kj2 t103 t104 434 t105 t106 _ A10.out).mono ?_); rintro e w' ⟨rfl, ⟨nd, rfl⟩⟩; refine ⟨_, rfl, ?_⟩))
      go_ret
      exact ⟨by first | rfl | (simp [errW_none, errW_some] <;> rfl) | (simp only [← hji12]; first | rfl | (simp [errW_none, errW_some] <;> rfl)) | (simp [*, errW_none, errW_some] <;> rfl), by repeat (first | (with_reducible first | exact HB.out | apply qc_ | apply qa_ | apply qb_) | exact HB.out)⟩
     ·rw [if_neg c11] at H
      have c11b0 : decide (0 < t106) = false := decide_eq_false c11
      clear c11
      obtain ⟨ji13, hji13⟩ : ∃ j_ : Int, (mn t105 4611686018427387904) = j_ := ⟨_, rfl⟩
      replace H : (some (wrap64 (ji13))) = some r := by first | (rw [hji13] at H; exact H) | (simp only [hji13] at H ⊢; exact H)
      (try rw [hji13] at A8)
      (try rw [hji13] at A10)
      (try (have hji13h : ji13 ≤ 4611686018427387904 := by (rw [← hji13]; unfold mn; (repeat' split) <;> omega)))
      (try (have hji13g : ji13 ≤ 64 := by omega))
      have hji13_ : (if 4611686018427387904 < t105 then 4611686018427387904 else t105) = ji13 := hji13
      obtain rfl := Option.some.inj H
      go_wp2_with (first | ((with_reducible refine qm_ (f := 25) rfl ?_); refine goesL_ (some 23) rfl rfl Try.func25 (by kernel_rfl) rfl #[.int .u64 (IntKind.u64.wrap ((IntKind.u64.wrap (a0)) + 1)), .int .u64 (IntKind.u64.wrap (a1))] rfl (by (try simp only [List.map_toArray, List.map_cons, List.map_nil]); first | done | rfl | (simp only [List.length_drop, List.length_take]; rfl)) ?_; (with_reducible refine (bits_Mul64.calls (IntKind.u64.wrap ((IntKind.u64.wrap (a0)) + 1)) (IntKind.u64.wrap (a1)) t103 t104 _ A8.out).mono ?_); rintro e w' ⟨rfl, ⟨nd, rfl⟩⟩; refine ⟨_, rfl, ?_⟩) | ((with_reducible refine qm_ (f := 26) rfl ?_); refine goesL_ (some 31) rfl rfl Try.func26 (by kernel_rfl) rfl #[.int .u64 t103, .int .u64 t104, .int .u64 434] rfl (by (try simp only [List.map_toArray, List.map_cons, List.map_nil]); first | done | rfl | (simp only [List.length_drop, List.length_take]; rfl)) ?_; (with_reducible refine (bits_Div64.calls kj2 t103 t104 434 t105 t106 _ A10.out).mono ?_); rintro e w' ⟨rfl, ⟨nd, rfl⟩⟩; refine ⟨_, rfl, ?_⟩))
      go_ret
      exact ⟨by first | rfl | (simp [errW_none, errW_some] <;> rfl) | (simp only [← hji13]; first | rfl | (simp [errW_none, errW_some] <;> rfl)) | (simp [*, errW_none, errW_some] <;> rfl), by repeat (first | (with_reducible first | exact HB.out | apply qc_ | apply qa_ | apply qb_) | exact HB.out)⟩
end Go.Proofs.Ytjallhlamaggbaa.P

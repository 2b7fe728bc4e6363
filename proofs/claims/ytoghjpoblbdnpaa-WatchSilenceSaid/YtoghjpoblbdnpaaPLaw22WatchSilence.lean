/- What printed functions come to, and that the machine's calls do it. No condition. -/
import Derived.Test.YtoghjpoblbdnpaaPLaw22Alive
import Derived.Test.YtoghjpoblbdnpaaPRef22Without
import Derived.Test.YtoghjpoblbdnpaaPWatchWithout
namespace Go.Proofs.Ytoghjpoblbdnpaa.P
set_option maxHeartbeats 8000000
set_option maxRecDepth 100000
open Go.RowKit Go.Proofs.YtoghjpoblbdnpaaW.PrintWords Go.Proofs.YtoghjpoblbdnpaaW.PrintLast Go.Proofs.YtoghjpoblbdnpaaW.PrintMore
attribute [local go_sem] qt_ qr_ qx_ qw_ qn_ qm_ qs_ qq_ Go.Proofs.YtoghjpoblbdnpaaW.Hw.string_gtr
set_option linter.unusedVariables false
set_option linter.unusedSimpArgs false
mutual
def law22_WatchSilence.l0 : Nat → List (S36) → Int → Int → Int → List (S36) → List Int → Int → Int → Option (Bool)
 | 0, _, _, _, _, _, _, _, _ => none
 | k + 1, x0, x2, x7, x8, x9, x10, x11, x12 => if x12 < (x0.length : Int) then (if 0 ≤ x12 then ((ref11_Level.f k ((rd_T36 x0 x12).f3.f0) ((rd_T36 x0 x12).f3.f1) x7 x8).bind fun iI => (if (rd_T36 x0 x12).f4 = true then (if iI.2 = 0 then (law22_WatchSilence.j1 k x0 x2 x7 x8 x9 x10 x11 x12 (decide (iI.1 > (wrap64 (x2))))) else (law22_WatchSilence.j1 k x0 x2 x7 x8 x9 x10 x11 x12 false)) else (law22_WatchSilence.j1 k x0 x2 x7 x8 x9 x10 x11 x12 false))) else (none)) else (some (x11 == (x10.length : Int)))
def law22_WatchSilence.j1 : Nat → List (S36) → Int → Int → Int → List (S36) → List Int → Int → Int → Bool → Option (Bool)
 | 0, _, _, _, _, _, _, _, _, _ => none
 | k + 1, x0, x2, x7, x8, x9, x10, x11, x12, x15 => if 0 ≤ x12 then (if x12 < (x9.length : Int) then (if x12 < (x0.length : Int) then (if (rd_T36 x0 x12).f4 = true then (if (((rd_T36 x9 x12).f4) != (!x15)) = true then (law22_WatchSilence.j2 k x0 x2 x7 x8 x9 x10 x11 x12 x15 true) else (if x15 = true then (if x11 ≥ (x10.length : Int) then (law22_WatchSilence.j2 k x0 x2 x7 x8 x9 x10 x11 x12 x15 true) else (if 0 ≤ x11 then (if x11 < (x10.length : Int) then (if (rd x10 x11) = ((rd_T36 x0 x12).f0) then (law22_WatchSilence.j2 k x0 x2 x7 x8 x9 x10 x11 x12 x15 (((rd_T36 x9 x12).f5) != x7)) else (law22_WatchSilence.j2 k x0 x2 x7 x8 x9 x10 x11 x12 x15 true)) else (none)) else (none))) else (law22_WatchSilence.j2 k x0 x2 x7 x8 x9 x10 x11 x12 x15 false))) else (if (((rd_T36 x9 x12).f4) != false) = true then (law22_WatchSilence.j2 k x0 x2 x7 x8 x9 x10 x11 x12 x15 true) else (if x15 = true then (if x11 ≥ (x10.length : Int) then (law22_WatchSilence.j2 k x0 x2 x7 x8 x9 x10 x11 x12 x15 true) else (if 0 ≤ x11 then (if x11 < (x10.length : Int) then (if (rd x10 x11) = ((rd_T36 x0 x12).f0) then (law22_WatchSilence.j2 k x0 x2 x7 x8 x9 x10 x11 x12 x15 (((rd_T36 x9 x12).f5) != x7)) else (law22_WatchSilence.j2 k x0 x2 x7 x8 x9 x10 x11 x12 x15 true)) else (none)) else (none))) else (law22_WatchSilence.j2 k x0 x2 x7 x8 x9 x10 x11 x12 x15 false)))) else (none)) else (none)) else (none)
def law22_WatchSilence.j2 : Nat → List (S36) → Int → Int → Int → List (S36) → List Int → Int → Int → Bool → Bool → Option (Bool)
 | 0, _, _, _, _, _, _, _, _, _, _ => none
 | k + 1, x0, x2, x7, x8, x9, x10, x11, x12, x15, x118 => if x118 = true then (some false) else (if x15 = true then (law22_WatchSilence.j3 k x0 x2 x7 x8 x9 x10 (wrap64 (x11 + 1)) x12 x15) else (law22_WatchSilence.j3 k x0 x2 x7 x8 x9 x10 x11 x12 x15))
def law22_WatchSilence.j3 : Nat → List (S36) → Int → Int → Int → List (S36) → List Int → Int → Int → Bool → Option (Bool)
 | 0, _, _, _, _, _, _, _, _, _ => none
 | k + 1, x0, x2, x7, x8, x9, x10, x11, x12, x15 => (watch_Judge.f k x9 (wrap64 (x7 + 1)) x8 (wrap64 (x2))).bind fun gE => (if x15 = true then (if (gE.1.length : Int) = (x9.length : Int) then (if 0 ≤ x12 then (if x12 < (gE.1.length : Int) then (if (rd_T36 gE.1 x12).f4 = true then (some false) else ((ref06_Ints.f k gE.2 x10).bind fun fI => (if fI = true then (some false) else (law22_WatchSilence.l0 k x0 x2 x7 x8 x9 x10 x11 (wrap64 (x12 + 1)))))) else (none)) else (none)) else (some false)) else (law22_WatchSilence.l0 k x0 x2 x7 x8 x9 x10 x11 (wrap64 (x12 + 1))))
end
def law22_WatchSilence.f (k : Nat) (l0 : List (S36)) (aS : Int) (aX : Int) (a2 : Int) : Option (Bool) := (law22_alive.f k).bind fun gT => (if gT = true then ((law22_out.f k l0 0).bind fun gS => (if gS = true then (some true) else ((watch_Judge.f k l0 (wrap64 (aS)) (wrap64 (aX)) (wrap64 (a2))).bind fun dG => (if (dG.1.length : Int) = (l0.length : Int) then (law22_WatchSilence.l0 k l0 a2 (wrap64 (aS)) (wrap64 (aX)) dG.1 dG.2 0 0) else (some false))))) else (some false))
theorem law22_WatchSilence.mono_l : ∀ k, (∀ y0 y1 y2 y3 y4 y5 y6 y7, LeO (law22_WatchSilence.l0 k y0 y1 y2 y3 y4 y5 y6 y7) (law22_WatchSilence.l0 (k + 1) y0 y1 y2 y3 y4 y5 y6 y7)) ∧ (∀ y0 y1 y2 y3 y4 y5 y6 y7 y8, LeO (law22_WatchSilence.j1 k y0 y1 y2 y3 y4 y5 y6 y7 y8) (law22_WatchSilence.j1 (k + 1) y0 y1 y2 y3 y4 y5 y6 y7 y8)) ∧ (∀ y0 y1 y2 y3 y4 y5 y6 y7 y8 y9, LeO (law22_WatchSilence.j2 k y0 y1 y2 y3 y4 y5 y6 y7 y8 y9) (law22_WatchSilence.j2 (k + 1) y0 y1 y2 y3 y4 y5 y6 y7 y8 y9)) ∧ (∀ y0 y1 y2 y3 y4 y5 y6 y7 y8, LeO (law22_WatchSilence.j3 k y0 y1 y2 y3 y4 y5 y6 y7 y8) (law22_WatchSilence.j3 (k + 1) y0 y1 y2 y3 y4 y5 y6 y7 y8))
 | 0 => ⟨fun _ _ _ _ _ _ _ _ r h => by simp [law22_WatchSilence.l0] at h, fun _ _ _ _ _ _ _ _ _ r h => by simp [law22_WatchSilence.j1] at h, fun _ _ _ _ _ _ _ _ _ _ r h => by simp [law22_WatchSilence.j2] at h, fun _ _ _ _ _ _ _ _ _ r h => by simp [law22_WatchSilence.j3] at h⟩
 | k + 1 => by
  obtain ⟨ih0, ih1, ih2, ih3⟩ := law22_WatchSilence.mono_l k; refine ⟨?_, ?_, ?_, ?_⟩
  ·intro y0 y1 y2 y3 y4 y5 y6 y7
   unfold law22_WatchSilence.l0
   with_reducible repeat' first | exact ih0 _ _ _ _ _ _ _ _ | exact ih1 _ _ _ _ _ _ _ _ _ | exact ih2 _ _ _ _ _ _ _ _ _ _ | exact ih3 _ _ _ _ _ _ _ _ _ | exact law22_alive.mono _ | exact law22_out.mono _ _ _ | exact ref06_Ints.mono _ _ _ | exact ref11_Level.mono _ _ _ _ _ | exact watch_Judge.mono _ _ _ _ _ | exact LeO.refl _ | exact LeO.none _ | refine LeO.ite ?_ ?_ | refine LeO.bind ?_ (fun _ => ?_)
  ·intro y0 y1 y2 y3 y4 y5 y6 y7 y8
   unfold law22_WatchSilence.j1
   with_reducible repeat' first | exact ih0 _ _ _ _ _ _ _ _ | exact ih1 _ _ _ _ _ _ _ _ _ | exact ih2 _ _ _ _ _ _ _ _ _ _ | exact ih3 _ _ _ _ _ _ _ _ _ | exact law22_alive.mono _ | exact law22_out.mono _ _ _ | exact ref06_Ints.mono _ _ _ | exact ref11_Level.mono _ _ _ _ _ | exact watch_Judge.mono _ _ _ _ _ | exact LeO.refl _ | exact LeO.none _ | refine LeO.ite ?_ ?_ | refine LeO.bind ?_ (fun _ => ?_)
  ·intro y0 y1 y2 y3 y4 y5 y6 y7 y8 y9
   unfold law22_WatchSilence.j2
   with_reducible repeat' first | exact ih0 _ _ _ _ _ _ _ _ | exact ih1 _ _ _ _ _ _ _ _ _ | exact ih2 _ _ _ _ _ _ _ _ _ _ | exact ih3 _ _ _ _ _ _ _ _ _ | exact law22_alive.mono _ | exact law22_out.mono _ _ _ | exact ref06_Ints.mono _ _ _ | exact ref11_Level.mono _ _ _ _ _ | exact watch_Judge.mono _ _ _ _ _ | exact LeO.refl _ | exact LeO.none _ | refine LeO.ite ?_ ?_ | refine LeO.bind ?_ (fun _ => ?_)
  ·intro y0 y1 y2 y3 y4 y5 y6 y7 y8
   unfold law22_WatchSilence.j3
   with_reducible repeat' first | exact ih0 _ _ _ _ _ _ _ _ | exact ih1 _ _ _ _ _ _ _ _ _ | exact ih2 _ _ _ _ _ _ _ _ _ _ | exact ih3 _ _ _ _ _ _ _ _ _ | exact law22_alive.mono _ | exact law22_out.mono _ _ _ | exact ref06_Ints.mono _ _ _ | exact ref11_Level.mono _ _ _ _ _ | exact watch_Judge.mono _ _ _ _ _ | exact LeO.refl _ | exact LeO.none _ | refine LeO.ite ?_ ?_ | refine LeO.bind ?_ (fun _ => ?_)
theorem law22_WatchSilence.mono : ∀ a0 a1 a2 a3 k, LeO (law22_WatchSilence.f k a0 a1 a2 a3) (law22_WatchSilence.f (k + 1) a0 a1 a2 a3) := by
 intro a0 a1 a2 a3 k; obtain ⟨ih0, ih1, ih2, ih3⟩ := law22_WatchSilence.mono_l k
 unfold law22_WatchSilence.f
 with_reducible repeat' first | exact ih0 _ _ _ _ _ _ _ _ | exact ih1 _ _ _ _ _ _ _ _ _ | exact ih2 _ _ _ _ _ _ _ _ _ _ | exact ih3 _ _ _ _ _ _ _ _ _ | exact law22_alive.mono _ | exact law22_out.mono _ _ _ | exact ref06_Ints.mono _ _ _ | exact ref11_Level.mono _ _ _ _ _ | exact watch_Judge.mono _ _ _ _ _ | exact LeO.refl _ | exact LeO.none _ | refine LeO.ite ?_ ?_ | refine LeO.bind ?_ (fun _ => ?_)
theorem law22_WatchSilence.calls (k : Nat) (A0 : Option Addr) (c0 : Nat) (l0 : List (S36)) (aS : Int) (aX : Int) (a2 : Int) (r : Bool) (w : World) (hr0 : Kd.C k36 w A0 l0.length l0) (hc0 : l0.length ≤ c0) (h : law22_WatchSilence.f k l0 aS aX a2 = some r) (hrt : r = true) :
  Calls Try.prog 3 #[.slice A0 l0.length c0, .agg #[.int .u16 aS, .int .u16 aX], .int .u16 a2] w fun e w' => e = .returned (.bool r) ∧ Below w.heap.size w w' := by
 have HRT := Zq_.mk hrt; clear hrt; have hu24 := Try.underlying24; have hu34 := Try.underlying34; have HR0 := Zq_.mk hr0; have HC0 := Zq_.mk hc0; clear hr0 hc0; have HB := Zq_.mk (Below.refl w.heap.size w); have H : ((law22_alive.f k).bind fun gT => (if gT = true then ((law22_out.f k l0 0).bind fun gS => (if gS = true then (some true) else ((watch_Judge.f k l0 (wrap64 (aS)) (wrap64 (aX)) (wrap64 (a2))).bind fun dG => (if (dG.1.length : Int) = (l0.length : Int) then (law22_WatchSilence.l0 k l0 a2 (wrap64 (aS)) (wrap64 (aX)) dG.1 dG.2 0 0) else (some false))))) else (some false))) = some r := h; clear h; replace H := ob_ H; obtain ⟨gT, A40, H⟩ := H; (try dsimp only at H); have A4 := Zq_.mk A40; clear A40
 by_cases c5 : gT = true
 ·subst c5
  rw [if_pos rfl] at H; replace H := ob_ H; obtain ⟨gS, A60, H⟩ := H; (try dsimp only at H); have A6 := Zq_.mk A60; clear A60
  by_cases c7 : gS = true
  ·subst c7
   rw [if_pos rfl] at H; obtain rfl := Option.some.inj H
   go_enter Try.func3, Try.ntmps3
   go_wp2_with (first | ((with_reducible refine qc_ (N := 4) rfl ?_); (try (refine qo_ (by rfl) ?_; dsimp only)); refine bE_ 4 #[.int .u16 aS, .int .u16 aX] 24 ?_; intro bA hg w8 hbox hb; have aB := Zq_.mk (hbox); have dR := gW_ (w := w) hg (hB_ HB); have fH := gW_ (w := w) hg (hB_ HB); replace HB := sB_ HB hb; clear hb hbox hg) | (go_at_call 8; (with_reducible refine (law22_alive.calls k  true _ A4.out).mono ?_); rintro e w9 ⟨rfl, hb⟩; replace aB := kB_ aB hb; replace HB := sB_ HB hb; (try clear hb)) | (go_at_call 9; (with_reducible refine (law22_out.calls k _ _ l0 0 true _ ?side1 ?side2 A6.out).mono ?_); (case side1 => exact cX_ (Kd.qi_ HR0.out HB.out)); (case side2 => exact HC0.out); rintro e w10 ⟨rfl, hb⟩; replace aB := kB_ aB hb; replace HB := sB_ HB hb; (try clear hb)))
   repeat (go_quiet (first | ((with_reducible refine qc_ (N := 4) rfl ?_); (try (refine qo_ (by rfl) ?_; dsimp only)); refine bE_ 4 #[.int .u16 aS, .int .u16 aX] 24 ?_; intro bA hg w8 hbox hb; have aB := Zq_.mk (hbox); have dR := gW_ (w := w) hg (hB_ HB); have fH := gW_ (w := w) hg (hB_ HB); replace HB := sB_ HB hb; clear hb hbox hg) | (go_at_call 8; (with_reducible refine (law22_alive.calls k  true _ A4.out).mono ?_); rintro e w9 ⟨rfl, hb⟩; replace aB := kB_ aB hb; replace HB := sB_ HB hb; (try clear hb)) | (go_at_call 9; (with_reducible refine (law22_out.calls k _ _ l0 0 true _ ?side1 ?side2 A6.out).mono ?_); (case side1 => exact cX_ (Kd.qi_ HR0.out HB.out)); (case side2 => exact HC0.out); rintro e w10 ⟨rfl, hb⟩; replace aB := kB_ aB hb; replace HB := sB_ HB hb; (try clear hb))); try go_wp2_with (first | ((with_reducible refine qc_ (N := 4) rfl ?_); (try (refine qo_ (by rfl) ?_; dsimp only)); refine bE_ 4 #[.int .u16 aS, .int .u16 aX] 24 ?_; intro bA hg w8 hbox hb; have aB := Zq_.mk (hbox); have dR := gW_ (w := w) hg (hB_ HB); have fH := gW_ (w := w) hg (hB_ HB); replace HB := sB_ HB hb; clear hb hbox hg) | (go_at_call 8; (with_reducible refine (law22_alive.calls k  true _ A4.out).mono ?_); rintro e w9 ⟨rfl, hb⟩; replace aB := kB_ aB hb; replace HB := sB_ HB hb; (try clear hb)) | (go_at_call 9; (with_reducible refine (law22_out.calls k _ _ l0 0 true _ ?side1 ?side2 A6.out).mono ?_); (case side1 => exact cX_ (Kd.qi_ HR0.out HB.out)); (case side2 => exact HC0.out); rintro e w10 ⟨rfl, hb⟩; replace aB := kB_ aB hb; replace HB := sB_ HB hb; (try clear hb))))
   go_ret
   exact ⟨by exact eW_, by exact hSet_ HB⟩
  ·replace c7 := Bool.eq_false_iff.mpr c7; subst c7
   have H1 : ((watch_Judge.f k l0 (wrap64 (aS)) (wrap64 (aX)) (wrap64 (a2))).bind fun dG => (if (dG.1.length : Int) = (l0.length : Int) then (law22_WatchSilence.l0 k l0 a2 (wrap64 (aS)) (wrap64 (aX)) dG.1 dG.2 0 0) else (some false))) = some r := by rw [if_neg (show ¬ (false = true) by decide)] at H; exact H
   clear H; have H := H1; clear H1; replace H := ob_ H; obtain ⟨⟨aE, aR⟩, jP, H⟩ := H; (try dsimp only at H); have A11 := Zq_.mk jP; clear jP
   by_cases c12 : (aE.length : Int) = (l0.length : Int)
   ·rw [if_pos c12] at H; have iH : ((aE.length : Int) == (l0.length : Int)) = true := beq_iff_eq.mpr c12; have iG : ((aE.length : Int) != (l0.length : Int)) = false := bne_eq_false_iff_eq.mpr c12
    have iF : (aE.length == l0.length) = true := by first | simpa using c12 | (simp at c12 ⊢; omega)
    clear c12; have H' := Zq_.mk H; clear H
    go_enter Try.func3, Try.ntmps3
    go_wp2_with (first | ((with_reducible refine qc_ (N := 4) rfl ?_); (try (refine qo_ (by rfl) ?_; dsimp only)); refine bE_ 4 #[.int .u16 aS, .int .u16 aX] 24 ?_; intro bA hg w13 hbox hb; have aB := Zq_.mk (hbox); have dR := gW_ (w := w) hg (hB_ HB); have fH := gW_ (w := w) hg (hB_ HB); replace HB := sB_ HB hb; clear hb hbox hg) | (go_at_call 8; (with_reducible refine (law22_alive.calls k  true _ A4.out).mono ?_); rintro e w14 ⟨rfl, hb⟩; replace aB := kB_ aB hb; replace HB := sB_ HB hb; (try clear hb)) | (go_at_call 9; (with_reducible refine (law22_out.calls k _ _ l0 0 false _ ?side1 ?side2 A6.out).mono ?_); (case side1 => exact cX_ (Kd.qi_ HR0.out HB.out)); (case side2 => exact HC0.out); rintro e w15 ⟨rfl, hb⟩; replace aB := kB_ aB hb; replace HB := sB_ HB hb; (try clear hb); obtain ⟨eC, eB⟩ := c2_ aB; obtain ⟨eA, dZ⟩ := f2_ aB) | (go_at_call 10; (with_reducible refine (watch_Judge.calls k (fun k_ => k_ < w.heap.size) _ _ l0 (wrap64 (aS)) (wrap64 (aX)) (wrap64 (a2)) aE aR _ ?side1 A11.out).mono ?_); (case side1 => exact Kd.V_mk HC0.out (Kd.F_below (Kd.C_F k36_heap HR0.out) (by exact hSet_ HB))); rintro e w17 ⟨v105, v108, rfl, ho0, ho1, hb⟩; have eF := Zq_.mk (Kd.vi_ (Kd.N_mono (ok' := fun k_ => some k_ ≠ (v108 : Value).ownBlock ∧ k_ ≠ bA) ho0 (fun k_ hk_ => ⟨hk_.2, Or.elim hk_.1 (fun hs_ => fun e_ => Nat.not_le.2 hs_ (by rw [e_]; exact dR.out)) (fun hn_ => (Kd.freshB (g := bA) (o := .cells #[.int .u16 aS, .int .u16 aX] 24 (0, 0)) (by exact bK_ aB) k_ hn_))⟩)) (qb_ (by exact hSet_ HB))); have hP := Zq_.mk (Kd.vj_ (Kd.R_mono (ok' := fun k_ => True) ho1 (fun _ hk_ => trivial)) (qb_ (by exact hSet_ HB))); replace aB := kB_ aB hb; replace HB := sB_ HB hb; (try clear hb); (try clear ho0); (try clear ho1); obtain ⟨gQ, gO, gZ⟩ := Kd.vp_ eF.out; subst gZ))
    repeat (go_quiet (first | ((with_reducible refine qc_ (N := 4) rfl ?_); (try (refine qo_ (by rfl) ?_; dsimp only)); refine bE_ 4 #[.int .u16 aS, .int .u16 aX] 24 ?_; intro bA hg w13 hbox hb; have aB := Zq_.mk (hbox); have dR := gW_ (w := w) hg (hB_ HB); have fH := gW_ (w := w) hg (hB_ HB); replace HB := sB_ HB hb; clear hb hbox hg) | (go_at_call 8; (with_reducible refine (law22_alive.calls k  true _ A4.out).mono ?_); rintro e w14 ⟨rfl, hb⟩; replace aB := kB_ aB hb; replace HB := sB_ HB hb; (try clear hb)) | (go_at_call 9; (with_reducible refine (law22_out.calls k _ _ l0 0 false _ ?side1 ?side2 A6.out).mono ?_); (case side1 => exact cX_ (Kd.qi_ HR0.out HB.out)); (case side2 => exact HC0.out); rintro e w15 ⟨rfl, hb⟩; replace aB := kB_ aB hb; replace HB := sB_ HB hb; (try clear hb); obtain ⟨eC, eB⟩ := c2_ aB; obtain ⟨eA, dZ⟩ := f2_ aB) | (go_at_call 10; (with_reducible refine (watch_Judge.calls k (fun k_ => k_ < w.heap.size) _ _ l0 (wrap64 (aS)) (wrap64 (aX)) (wrap64 (a2)) aE aR _ ?side1 A11.out).mono ?_); (case side1 => exact Kd.V_mk HC0.out (Kd.F_below (Kd.C_F k36_heap HR0.out) (by exact hSet_ HB))); rintro e w17 ⟨v105, v108, rfl, ho0, ho1, hb⟩; have eF := Zq_.mk (Kd.vi_ (Kd.N_mono (ok' := fun k_ => some k_ ≠ (v108 : Value).ownBlock ∧ k_ ≠ bA) ho0 (fun k_ hk_ => ⟨hk_.2, Or.elim hk_.1 (fun hs_ => fun e_ => Nat.not_le.2 hs_ (by rw [e_]; exact dR.out)) (fun hn_ => (Kd.freshB (g := bA) (o := .cells #[.int .u16 aS, .int .u16 aX] 24 (0, 0)) (by exact bK_ aB) k_ hn_))⟩)) (qb_ (by exact hSet_ HB))); have hP := Zq_.mk (Kd.vj_ (Kd.R_mono (ok' := fun k_ => True) ho1 (fun _ hk_ => trivial)) (qb_ (by exact hSet_ HB))); replace aB := kB_ aB hb; replace HB := sB_ HB hb; (try clear hb); (try clear ho0); (try clear ho1); obtain ⟨gQ, gO, gZ⟩ := Kd.vp_ eF.out; subst gZ)); try go_wp2_with (first | ((with_reducible refine qc_ (N := 4) rfl ?_); (try (refine qo_ (by rfl) ?_; dsimp only)); refine bE_ 4 #[.int .u16 aS, .int .u16 aX] 24 ?_; intro bA hg w13 hbox hb; have aB := Zq_.mk (hbox); have dR := gW_ (w := w) hg (hB_ HB); have fH := gW_ (w := w) hg (hB_ HB); replace HB := sB_ HB hb; clear hb hbox hg) | (go_at_call 8; (with_reducible refine (law22_alive.calls k  true _ A4.out).mono ?_); rintro e w14 ⟨rfl, hb⟩; replace aB := kB_ aB hb; replace HB := sB_ HB hb; (try clear hb)) | (go_at_call 9; (with_reducible refine (law22_out.calls k _ _ l0 0 false _ ?side1 ?side2 A6.out).mono ?_); (case side1 => exact cX_ (Kd.qi_ HR0.out HB.out)); (case side2 => exact HC0.out); rintro e w15 ⟨rfl, hb⟩; replace aB := kB_ aB hb; replace HB := sB_ HB hb; (try clear hb); obtain ⟨eC, eB⟩ := c2_ aB; obtain ⟨eA, dZ⟩ := f2_ aB) | (go_at_call 10; (with_reducible refine (watch_Judge.calls k (fun k_ => k_ < w.heap.size) _ _ l0 (wrap64 (aS)) (wrap64 (aX)) (wrap64 (a2)) aE aR _ ?side1 A11.out).mono ?_); (case side1 => exact Kd.V_mk HC0.out (Kd.F_below (Kd.C_F k36_heap HR0.out) (by exact hSet_ HB))); rintro e w17 ⟨v105, v108, rfl, ho0, ho1, hb⟩; have eF := Zq_.mk (Kd.vi_ (Kd.N_mono (ok' := fun k_ => some k_ ≠ (v108 : Value).ownBlock ∧ k_ ≠ bA) ho0 (fun k_ hk_ => ⟨hk_.2, Or.elim hk_.1 (fun hs_ => fun e_ => Nat.not_le.2 hs_ (by rw [e_]; exact dR.out)) (fun hn_ => (Kd.freshB (g := bA) (o := .cells #[.int .u16 aS, .int .u16 aX] 24 (0, 0)) (by exact bK_ aB) k_ hn_))⟩)) (qb_ (by exact hSet_ HB))); have hP := Zq_.mk (Kd.vj_ (Kd.R_mono (ok' := fun k_ => True) ho1 (fun _ hk_ => trivial)) (qb_ (by exact hSet_ HB))); replace aB := kB_ aB hb; replace HB := sB_ HB hb; (try clear hb); (try clear ho0); (try clear ho1); obtain ⟨gQ, gO, gZ⟩ := Kd.vp_ eF.out; subst gZ)))
    go_loopg [11, 12] k (fun kq v11 v12 w' => ∃ (aD : Int) (aA : Int), v11 = .int .i64 aD ∧ v12 = .int .i64 aA ∧ Zq_ (law22_WatchSilence.l0 kq l0 a2 (wrap64 (aS)) (wrap64 (aX)) aE aR aD aA = some r) ∧ Zq_ (kq ≤ k) ∧ Zq_ (Kd.N k36 36 w' w.heap.size (fun k_ => some k_ ≠ (v108 : Value).ownBlock ∧ k_ ≠ bA) (.slice gQ aE.length gO) aE) ∧ Zq_ (Kd.R (Kd.int .i64) 3 w' w.heap.size (fun _ => True) v108 aR) ∧ Zq_ (w'.heap[bA]? = some (.cells #[.int .u16 aS, .int .u16 aX] 24 (0, 0))) ∧ Zq_ (Below w.heap.size w w'))
    case atStart => exact ⟨(0), (0), eS_, eS_, H', ⟨Nat.le_refl _⟩, ⟨by (with_reducible repeat (first | apply Kd.qz_ | apply Kd.qy_ | apply Kd.N_drew)); exact eF.out⟩, ⟨by (with_reducible repeat (first | apply Kd.vd_ | apply Kd.vc_ | apply Kd.R_drew)); exact hP.out⟩, ⟨by (with_reducible repeat (first | refine qk_ ?_ _ | refine qh_ ?_ | refine ql_ ?_ _)); exact aB.out⟩, ⟨by exact hSet_ HB⟩⟩
    case round =>
     clear H'
     try clear c1
     try clear p2
     try clear c3
     try clear c5
     try clear p6
     try clear c7
     try clear c12
     try clear iH
     try clear iG
     try clear iF
     try clear eC
     try clear eB
     try clear eA
     try clear dZ
     obtain ⟨aD, aA, rfl, rfl, HA, HK1, aK, aF, aB, HB⟩ := hrel
     cases gk with
     | zero => exact absurd HA.out (by simp [law22_WatchSilence.l0])
     | succ k1 =>
      have H := HA.out; clear HA; simp only [law22_WatchSilence.l0] at H
      by_cases c19 : aA < (l0.length : Int)
      ·rw [if_pos c19] at H; have iE : decide (aA < (l0.length : Int)) = true := decide_eq_true c19; clear c19
       by_cases c20 : 0 ≤ aA
       ·rw [if_pos c20] at H; have jE : decide (0 ≤ aA) = true := decide_eq_true c20; clear c20; replace H := ob_ H; obtain ⟨⟨gR, eI⟩, jO, H⟩ := H; (try dsimp only at H); have A21 := Zq_.mk jO; clear jO; have iU := Zq_.mk H; clear H; have hT : 0 ≤ (aA : Int) := dA_; have hS : aA < (l0.length : Int) := dA_; obtain ⟨bR, A110_4, c110_4, e110, fB, fA, eZ, eY, eX, eW, eV, gA, gD⟩ := at_T36 HR0.out aA hT hS; cases e110; replace fB := hC_ HB fB; replace fA := hC_ HB fA; replace eZ := hC_ HB eZ; replace eY := hC_ HB eY; replace eX := hC_ HB eX; replace eW := hC_ HB eW; replace eV := hC_ HB eV; have fE := Zq_.mk gD; have fF := Zq_.mk gA; clear gD gA; replace hT := eq_true hT; replace hS := eq_true hS
        go_upto_region 14 with (first | (go_at_call 11; (with_reducible refine (ref11_Level.calls k1 ((rd_T36 l0 aA).f3.f0) _ _ ((rd_T36 l0 aA).f3.f1) (wrap64 (aS)) (wrap64 (aX)) gR eI _ ?side1 ?side2 A21.out).mono ?_); (case side1 => exact cX_ (Kd.qi_ fE.out HB.out)); (case side2 => exact fF.out); rintro e w23 ⟨rfl, hb⟩; replace aK := vV_ Kd.va_ aK hb; replace aF := vV_ Kd.vh_ aF hb; replace aB := kB_ aB hb; replace HB := sB_ HB hb; (try clear hb)))
        repeat (go_quiet (first | (go_at_call 11; (with_reducible refine (ref11_Level.calls k1 ((rd_T36 l0 aA).f3.f0) _ _ ((rd_T36 l0 aA).f3.f1) (wrap64 (aS)) (wrap64 (aX)) gR eI _ ?side1 ?side2 A21.out).mono ?_); (case side1 => exact cX_ (Kd.qi_ fE.out HB.out)); (case side2 => exact fF.out); rintro e w23 ⟨rfl, hb⟩; replace aK := vV_ Kd.va_ aK hb; replace aF := vV_ Kd.vh_ aF hb; replace aB := kB_ aB hb; replace HB := sB_ HB hb; (try clear hb))); go_upto_region 14 with (first | (go_at_call 11; (with_reducible refine (ref11_Level.calls k1 ((rd_T36 l0 aA).f3.f0) _ _ ((rd_T36 l0 aA).f3.f1) (wrap64 (aS)) (wrap64 (aX)) gR eI _ ?side1 ?side2 A21.out).mono ?_); (case side1 => exact cX_ (Kd.qi_ fE.out HB.out)); (case side2 => exact fF.out); rintro e w23 ⟨rfl, hb⟩; replace aK := vV_ Kd.va_ aK hb; replace aF := vV_ Kd.vh_ aF hb; replace aB := kB_ aB hb; replace HB := sB_ HB hb; (try clear hb))))
        (try simp only [Act.put, sa_, sb_, sc_])
        go_cut [15] (fun v15 wc => ∃ (kq : Nat) (aL : Bool), v15 = .bool aL ∧ Zq_ (law22_WatchSilence.j1 kq l0 a2 (wrap64 (aS)) (wrap64 (aX)) aE aR aD aA aL = some r) ∧ Zq_ (kq ≤ k1) ∧ Zq_ (Kd.N k36 36 wc w.heap.size (fun k_ => some k_ ≠ (v108 : Value).ownBlock ∧ k_ ≠ bA) (.slice gQ aE.length gO) aE) ∧ Zq_ (Kd.R (Kd.int .i64) 3 wc w.heap.size (fun _ => True) v108 aR) ∧ Zq_ (wc.heap[bA]? = some (.cells #[.int .u16 aS, .int .u16 aX] 24 (0, 0))) ∧ Zq_ (Below w.heap.size w wc))
        case first =>
         have H := iU.out; clear iU; obtain ⟨bq24, hbq24⟩ : ∃ b_ : Bool, b_ = ((rd_T36 l0 aA).f4) := ⟨_, rfl⟩
         replace H : (if bq24 = true then (if eI = 0 then (law22_WatchSilence.j1 k1 l0 a2 (wrap64 (aS)) (wrap64 (aX)) aE aR aD aA (decide (gR > (wrap64 (a2))))) else (law22_WatchSilence.j1 k1 l0 a2 (wrap64 (aS)) (wrap64 (aX)) aE aR aD aA false)) else (law22_WatchSilence.j1 k1 l0 a2 (wrap64 (aS)) (wrap64 (aX)) aE aR aD aA false)) = some r := by rw [← hbq24] at H; exact H
         have Nbq24 := Zq_.mk hbq24; clear hbq24; (try rw [← Nbq24.out])
         by_cases c25 : bq24 = true
         ·subst c25
          rw [if_pos rfl] at H
          by_cases c26 : eI = 0
          ·rw [if_pos c26] at H; have iD : (eI == 0) = true := beq_iff_eq.mpr c26; have iC : (eI != 0) = false := bne_eq_false_iff_eq.mpr c26; clear c26; have H' := Zq_.mk H; clear H; have dT : 0 ≤ (aA : Int) := dA_; have dS : aA < (l0.length : Int) := dA_; obtain ⟨fG, hR, hM, hB, cC, cB, cA, bZ, bY, bI, bX, cJ, cL⟩ := at_T36 HR0.out aA dT dS; (try rw [← Nbq24.out] at bI); obtain rfl : bR = fG := (by injection hB); replace cC := hC_ HB cC; replace cB := hC_ HB cB; replace cA := hC_ HB cA; replace bZ := hC_ HB bZ; replace bY := hC_ HB bY; replace bI := hC_ HB bI; replace bX := hC_ HB bX; have gG := Zq_.mk cL; have gJ := Zq_.mk cJ; clear cL cJ; replace dT := eq_true dT; replace dS := eq_true dS
           go_wp2
           repeat (go_quiet (fail); try go_wp2)
           go_meet
           case rel => exact ⟨_, (decide (gR > (wrap64 (a2)))), eS_, H', ⟨by have := HK1.out; first | omega | exact Nat.le_refl _⟩, ⟨by (with_reducible repeat (first | apply Kd.qz_ | apply Kd.qy_ | apply Kd.N_drew)); exact aK.out⟩, ⟨by (with_reducible repeat (first | apply Kd.vd_ | apply Kd.vc_ | apply Kd.R_drew)); exact aF.out⟩, ⟨by (with_reducible repeat (first | refine qk_ ?_ _ | refine qh_ ?_ | refine ql_ ?_ _)); exact aB.out⟩, ⟨by exact hSet_ HB⟩⟩
          ·rw [if_neg c26] at H; have iD : (eI == 0) = false := beq_eq_false_iff_ne.mpr c26; have iC : (eI != 0) = true := bne_iff_ne.mpr c26; have H' := Zq_.mk H; clear H; have dT : 0 ≤ (aA : Int) := dA_; have dS : aA < (l0.length : Int) := dA_; obtain ⟨fG, hR, hM, hB, cC, cB, cA, bZ, bY, bI, bX, cJ, cL⟩ := at_T36 HR0.out aA dT dS; (try rw [← Nbq24.out] at bI); obtain rfl : bR = fG := (by injection hB); replace cC := hC_ HB cC; replace cB := hC_ HB cB; replace cA := hC_ HB cA; replace bZ := hC_ HB bZ; replace bY := hC_ HB bY; replace bI := hC_ HB bI; replace bX := hC_ HB bX; have gG := Zq_.mk cL; have gJ := Zq_.mk cJ; clear cL cJ; replace dT := eq_true dT; replace dS := eq_true dS
           go_wp2
           repeat (go_quiet (fail); try go_wp2)
           go_meet
           case rel => exact ⟨_, (false), eS_, H', ⟨by have := HK1.out; first | omega | exact Nat.le_refl _⟩, ⟨by (with_reducible repeat (first | apply Kd.qz_ | apply Kd.qy_ | apply Kd.N_drew)); exact aK.out⟩, ⟨by (with_reducible repeat (first | apply Kd.vd_ | apply Kd.vc_ | apply Kd.R_drew)); exact aF.out⟩, ⟨by (with_reducible repeat (first | refine qk_ ?_ _ | refine qh_ ?_ | refine ql_ ?_ _)); exact aB.out⟩, ⟨by exact hSet_ HB⟩⟩
         ·replace c25 := Bool.eq_false_iff.mpr c25; subst c25
          have H1 : (law22_WatchSilence.j1 k1 l0 a2 (wrap64 (aS)) (wrap64 (aX)) aE aR aD aA false) = some r := by rw [if_neg (show ¬ (false = true) by decide)] at H; exact H
          clear H; have H := H1; clear H1; have H' := Zq_.mk H; clear H; have dT : 0 ≤ (aA : Int) := dA_; have dS : aA < (l0.length : Int) := dA_; obtain ⟨fG, hR, hM, hB, cC, cB, cA, bZ, bY, bI, bX, cJ, cL⟩ := at_T36 HR0.out aA dT dS; (try rw [← Nbq24.out] at bI); obtain rfl : bR = fG := (by injection hB); replace cC := hC_ HB cC; replace cB := hC_ HB cB; replace cA := hC_ HB cA; replace bZ := hC_ HB bZ; replace bY := hC_ HB bY; replace bI := hC_ HB bI; replace bX := hC_ HB bX; have gG := Zq_.mk cL; have gJ := Zq_.mk cJ; clear cL cJ; replace dT := eq_true dT; replace dS := eq_true dS
          go_wp2
          repeat (go_quiet (fail); try go_wp2)
          go_meet
          case rel => exact ⟨_, (false), eS_, H', ⟨by have := HK1.out; first | omega | exact Nat.le_refl _⟩, ⟨by (with_reducible repeat (first | apply Kd.qz_ | apply Kd.qy_ | apply Kd.N_drew)); exact aK.out⟩, ⟨by (with_reducible repeat (first | apply Kd.vd_ | apply Kd.vc_ | apply Kd.R_drew)); exact aF.out⟩, ⟨by (with_reducible repeat (first | refine qk_ ?_ _ | refine qh_ ?_ | refine ql_ ?_ _)); exact aB.out⟩, ⟨by exact hSet_ HB⟩⟩
        case rest =>
         clear iU
         try clear c1
         try clear p1
         try clear q1
         try clear hx1
         try clear c2
         try clear p2
         try clear q2
         try clear c3
         try clear c5
         try clear p6
         try clear c7
         try clear c11
         try clear p11
         try clear q11
         try clear iX
         try clear c12
         try clear iH
         try clear iG
         try clear iF
         try clear c19
         try clear iE
         try clear c20
         try clear jE
         try clear q24
         try clear c25
         try clear c26
         try clear iD
         try clear iC
         try clear eC
         try clear eB
         try clear eA
         try clear dZ
         try clear fB
         try clear fA
         try clear eZ
         try clear eY
         try clear eX
         try clear eW
         try clear eV
         try clear cC
         try clear cB
         try clear cA
         try clear bZ
         try clear bY
         try clear bI
         try clear bX
         try clear hT
         try clear dT
         try clear p2
         try clear p6
         try clear hS
         try clear dS
         obtain ⟨kq, aL, rfl, HA, dI, aK, aF, aB, HB⟩ := hcut
         cases kq with
         | zero => exact absurd HA.out (by simp [law22_WatchSilence.j1])
         | succ kj21 =>
          have H := HA.out; clear HA; simp only [law22_WatchSilence.j1] at H; have iT := Zq_.mk H; clear H
          go_upto_region 15 with (fail)
          repeat (go_quiet (fail); go_upto_region 15 with (fail))
          go_cut [118] (fun v118 wc => ∃ (kq : Nat) (dU : Bool), v118 = .bool dU ∧ Zq_ (law22_WatchSilence.j2 kq l0 a2 (wrap64 (aS)) (wrap64 (aX)) aE aR aD aA aL dU = some r) ∧ Zq_ (kq ≤ kj21) ∧ Zq_ (Kd.N k36 36 wc w.heap.size (fun k_ => some k_ ≠ (v108 : Value).ownBlock ∧ k_ ≠ bA) (.slice gQ aE.length gO) aE) ∧ Zq_ (Kd.R (Kd.int .i64) 3 wc w.heap.size (fun _ => True) v108 aR) ∧ Zq_ (wc.heap[bA]? = some (.cells #[.int .u16 aS, .int .u16 aX] 24 (0, 0))) ∧ Zq_ (Below w.heap.size w wc))
          case first =>
           have H := iT.out; clear iT
           by_cases c28 : 0 ≤ aA
           ·rw [if_pos c28] at H; have iB : decide (0 ≤ aA) = true := decide_eq_true c28; clear c28; (first | rw [iB] | (simp only [i64_w, i32_w]; rw [iB]) | skip)
            by_cases c29 : aA < (aE.length : Int)
            ·rw [if_pos c29] at H; have c29b0 : decide (aA < (aE.length : Int)) = true := decide_eq_true c29; clear c29
             by_cases c30 : aA < (l0.length : Int)
             ·rw [if_pos c30] at H; have c30b0 : decide (aA < (l0.length : Int)) = true := decide_eq_true c30; clear c30; obtain ⟨bq31, hbq31⟩ : ∃ b_ : Bool, b_ = ((rd_T36 l0 aA).f4) := ⟨_, rfl⟩
              replace H : (if bq31 = true then (if (((rd_T36 aE aA).f4) != (!aL)) = true then (law22_WatchSilence.j2 kj21 l0 a2 (wrap64 (aS)) (wrap64 (aX)) aE aR aD aA aL true) else (if aL = true then (if aD ≥ (aR.length : Int) then (law22_WatchSilence.j2 kj21 l0 a2 (wrap64 (aS)) (wrap64 (aX)) aE aR aD aA aL true) else (if 0 ≤ aD then (if aD < (aR.length : Int) then (if (rd aR aD) = ((rd_T36 l0 aA).f0) then (law22_WatchSilence.j2 kj21 l0 a2 (wrap64 (aS)) (wrap64 (aX)) aE aR aD aA aL (((rd_T36 aE aA).f5) != (wrap64 (aS)))) else (law22_WatchSilence.j2 kj21 l0 a2 (wrap64 (aS)) (wrap64 (aX)) aE aR aD aA aL true)) else (none)) else (none))) else (law22_WatchSilence.j2 kj21 l0 a2 (wrap64 (aS)) (wrap64 (aX)) aE aR aD aA aL false))) else (if (((rd_T36 aE aA).f4) != false) = true then (law22_WatchSilence.j2 kj21 l0 a2 (wrap64 (aS)) (wrap64 (aX)) aE aR aD aA aL true) else (if aL = true then (if aD ≥ (aR.length : Int) then (law22_WatchSilence.j2 kj21 l0 a2 (wrap64 (aS)) (wrap64 (aX)) aE aR aD aA aL true) else (if 0 ≤ aD then (if aD < (aR.length : Int) then (if (rd aR aD) = ((rd_T36 l0 aA).f0) then (law22_WatchSilence.j2 kj21 l0 a2 (wrap64 (aS)) (wrap64 (aX)) aE aR aD aA aL (((rd_T36 aE aA).f5) != (wrap64 (aS)))) else (law22_WatchSilence.j2 kj21 l0 a2 (wrap64 (aS)) (wrap64 (aX)) aE aR aD aA aL true)) else (none)) else (none))) else (law22_WatchSilence.j2 kj21 l0 a2 (wrap64 (aS)) (wrap64 (aX)) aE aR aD aA aL false)))) = some r := by rw [← hbq31] at H; exact H
              have Nbq31 := Zq_.mk hbq31; clear hbq31
              by_cases c32 : bq31 = true
              ·subst c32
               rw [if_pos rfl] at H
               by_cases c33 : (((rd_T36 aE aA).f4) != (!aL)) = true
               ·rw [if_pos c33] at H; have hK : (((rd_T36 aE aA).f4) != (!aL)) = true := c33; (try (have jD : decide (((rd_T36 aE aA).f4) = (!aL)) = false := by simpa using c33)); (try (have jC : (((rd_T36 aE aA).f4) == (!aL)) = false := by simpa using c33)); (try (have c33b3 : ¬ (((rd_T36 aE aA).f4) = (!aL)) := by simpa using c33)); clear c33; have H' := Zq_.mk H; clear H; have bD : 0 ≤ (aA : Int) := dA_; have bC : aA < (aE.length : Int) := dA_; obtain ⟨dH, dE, dC, dA, bO, bN, bM, bL, aY, bB, bK, aU, aW⟩ := at_T36 (Kd.N_reads' aK.out).2.2 aA bD bC; (try rw [← Nbq31.out] at bB); cases dA; obtain ⟨ce114, bG, hMe114, aZ⟩ := Kd.N_get aK.out z36 aA bD (by first | exact bC | exact dA_ | (have e_ := (Kd.N_reads' aK.out).1; omega)); obtain ⟨ua114_4, uc114_4, rfl, aH, aI⟩ := k36_openF hMe114; have aC := aZ 4 _ rfl; rw [vg_ _ _ 4 (by omega)] at aC; replace aC := Option.some.inj (aC.symm.trans aY)
                injection aC with hva_ hvn_ hvc_
                rw [hva_] at aI; rw [hvc_] at aH; have cF := Zq_.mk (show Kd.V (Kd.int .i64) 3 _ w.heap.size _ _ ((rd_T36 aE aA).f3.f1) from Kd.V_mk aH aI); clear hva_ hvn_ hvc_ aI aH; clear aZ bG; have cE := Zq_.mk aW; have cH := Zq_.mk aU; clear aW aU; replace bD := eq_true bD; replace bC := eq_true bC; have bF : 0 ≤ (aA : Int) := dA_; have bE : aA < (l0.length : Int) := dA_; obtain ⟨bQ, dD, dB, cZ, aQ, aP, aO, aN, aJ, aG, aM, aT, aV⟩ := at_T36 HR0.out aA bF bE; (try rw [← Nbq31.out] at aG); obtain rfl : bR = bQ := (by injection cZ); replace aQ := hC_ HB aQ; replace aP := hC_ HB aP; replace aO := hC_ HB aO; replace aN := hC_ HB aN; replace aJ := hC_ HB aJ; replace aG := hC_ HB aG; replace aM := hC_ HB aM; have cD := Zq_.mk aV; have cG := Zq_.mk aT; clear aV aT; replace bF := eq_true bF; replace bE := eq_true bE
                go_wp2
                repeat (go_quiet (fail); try go_wp2)
                go_meet
                case rel => exact ⟨_, (true), eS_, H', ⟨by have := HK1.out; have := dI.out; first | omega | exact Nat.le_refl _⟩, ⟨by (with_reducible repeat (first | apply Kd.qz_ | apply Kd.qy_ | apply Kd.N_drew)); exact aK.out⟩, ⟨by (with_reducible repeat (first | apply Kd.vd_ | apply Kd.vc_ | apply Kd.R_drew)); exact aF.out⟩, ⟨by (with_reducible repeat (first | refine qk_ ?_ _ | refine qh_ ?_ | refine ql_ ?_ _)); exact aB.out⟩, ⟨by exact hSet_ HB⟩⟩
               ·rw [if_neg c33] at H
                have hK : (((rd_T36 aE aA).f4) != (!aL)) = false := by simpa using c33
                (try (have jD : decide (((rd_T36 aE aA).f4) = (!aL)) = true := by simpa using c33)); (try (have jC : (((rd_T36 aE aA).f4) == (!aL)) = true := by simpa using c33)); clear c33
                by_cases c34 : aL = true
                ·subst c34; (try (have c34n := hK; simp only [Bool.not_true, Bool.not_false, bne_eq_false_iff_eq] at c34n))
                 rw [if_pos rfl] at H
                 by_cases c35 : aD ≥ (aR.length : Int)
                 ·rw [if_pos c35] at H; have jB : decide ((aR.length : Int) ≤ aD) = true := decide_eq_true c35; clear c35; have H' := Zq_.mk H; clear H; have bD : 0 ≤ (aA : Int) := dA_; have bC : aA < (aE.length : Int) := dA_; obtain ⟨dH, dE, dC, dA, bO, bN, bM, bL, aY, bB, bK, aU, aW⟩ := at_T36 (Kd.N_reads' aK.out).2.2 aA bD bC; (try rw [← Nbq31.out] at bB); cases dA; obtain ⟨ce114, bG, hMe114, aZ⟩ := Kd.N_get aK.out z36 aA bD (by first | exact bC | exact dA_ | (have e_ := (Kd.N_reads' aK.out).1; omega)); obtain ⟨ua114_4, uc114_4, rfl, aH, aI⟩ := k36_openF hMe114; have aC := aZ 4 _ rfl; rw [vg_ _ _ 4 (by omega)] at aC; replace aC := Option.some.inj (aC.symm.trans aY)
                  injection aC with hva_ hvn_ hvc_
                  rw [hva_] at aI; rw [hvc_] at aH; have cF := Zq_.mk (show Kd.V (Kd.int .i64) 3 _ w.heap.size _ _ ((rd_T36 aE aA).f3.f1) from Kd.V_mk aH aI); clear hva_ hvn_ hvc_ aI aH; clear aZ bG; have cE := Zq_.mk aW; have cH := Zq_.mk aU; clear aW aU; replace bD := eq_true bD; replace bC := eq_true bC; have bF : 0 ≤ (aA : Int) := dA_; have bE : aA < (l0.length : Int) := dA_; obtain ⟨bQ, dD, dB, cZ, aQ, aP, aO, aN, aJ, aG, aM, aT, aV⟩ := at_T36 HR0.out aA bF bE; (try rw [← Nbq31.out] at aG); obtain rfl : bR = bQ := (by injection cZ); replace aQ := hC_ HB aQ; replace aP := hC_ HB aP; replace aO := hC_ HB aO; replace aN := hC_ HB aN; replace aJ := hC_ HB aJ; replace aG := hC_ HB aG; replace aM := hC_ HB aM; have cD := Zq_.mk aV; have cG := Zq_.mk aT; clear aV aT; replace bF := eq_true bF; replace bE := eq_true bE; obtain ⟨Ao36, co36, eo36⟩ := Kd.ve_ aF.out; subst eo36
                  go_wp2
                  repeat (go_quiet (fail); try go_wp2)
                  go_meet
                  case rel => exact ⟨_, (true), eS_, H', ⟨by have := HK1.out; have := dI.out; first | omega | exact Nat.le_refl _⟩, ⟨by (with_reducible repeat (first | apply Kd.qz_ | apply Kd.qy_ | apply Kd.N_drew)); exact aK.out⟩, ⟨by (with_reducible repeat (first | apply Kd.vd_ | apply Kd.vc_ | apply Kd.R_drew)); exact aF.out⟩, ⟨by (with_reducible repeat (first | refine qk_ ?_ _ | refine qh_ ?_ | refine ql_ ?_ _)); exact aB.out⟩, ⟨by exact hSet_ HB⟩⟩
                 ·rw [if_neg c35] at H; have jB : decide ((aR.length : Int) ≤ aD) = false := decide_eq_false c35; clear c35
                  by_cases c37 : 0 ≤ aD
                  ·rw [if_pos c37] at H; have c37b0 : decide (0 ≤ aD) = true := decide_eq_true c37; clear c37
                   by_cases c38 : aD < (aR.length : Int)
                   ·rw [if_pos c38] at H; have c38b0 : decide (aD < (aR.length : Int)) = true := decide_eq_true c38; clear c38
                    by_cases c39 : (rd aR aD) = ((rd_T36 l0 aA).f0)
                    ·rw [if_pos c39] at H; have hJ : ((rd aR aD) == ((rd_T36 l0 aA).f0)) = true := beq_iff_eq.mpr c39; have hI : ((rd aR aD) != ((rd_T36 l0 aA).f0)) = false := bne_eq_false_iff_eq.mpr c39; clear c39; have H' := Zq_.mk H; clear H; have bD : 0 ≤ (aA : Int) := dA_; have bC : aA < (aE.length : Int) := dA_; obtain ⟨dH, dE, dC, dA, bO, bN, bM, bL, aY, bB, bK, aU, aW⟩ := at_T36 (Kd.N_reads' aK.out).2.2 aA bD bC; (try rw [← Nbq31.out] at bB); cases dA; obtain ⟨ce114, bG, hMe114, aZ⟩ := Kd.N_get aK.out z36 aA bD (by first | exact bC | exact dA_ | (have e_ := (Kd.N_reads' aK.out).1; omega)); obtain ⟨ua114_4, uc114_4, rfl, aH, aI⟩ := k36_openF hMe114; have aC := aZ 4 _ rfl; rw [vg_ _ _ 4 (by omega)] at aC; replace aC := Option.some.inj (aC.symm.trans aY)
                     injection aC with hva_ hvn_ hvc_
                     rw [hva_] at aI; rw [hvc_] at aH; have cF := Zq_.mk (show Kd.V (Kd.int .i64) 3 _ w.heap.size _ _ ((rd_T36 aE aA).f3.f1) from Kd.V_mk aH aI); clear hva_ hvn_ hvc_ aI aH; clear aZ bG; have cE := Zq_.mk aW; have cH := Zq_.mk aU; clear aW aU; replace bD := eq_true bD; replace bC := eq_true bC; have bF : 0 ≤ (aA : Int) := dA_; have bE : aA < (l0.length : Int) := dA_; obtain ⟨bQ, dD, dB, cZ, aQ, aP, aO, aN, aJ, aG, aM, aT, aV⟩ := at_T36 HR0.out aA bF bE; (try rw [← Nbq31.out] at aG); obtain rfl : bR = bQ := (by injection cZ); replace aQ := hC_ HB aQ; replace aP := hC_ HB aP; replace aO := hC_ HB aO; replace aN := hC_ HB aN; replace aJ := hC_ HB aJ; replace aG := hC_ HB aG; replace aM := hC_ HB aM; have cD := Zq_.mk aV; have cG := Zq_.mk aT; clear aV aT; replace bF := eq_true bF; replace bE := eq_true bE; obtain ⟨Ao40, co40, eo40⟩ := Kd.ve_ aF.out; subst eo40; have eQ : 0 ≤ (aD : Int) := dA_; have eM : aD < (aR.length : Int) := dA_; obtain ⟨jI, iP, eU⟩ := Kd.at_int (Kd.R_reads' aF.out).2.2 aD eQ eM; cases iP; replace eQ := eq_true eQ; replace eM := eq_true eM; have eP : 0 ≤ (aA : Int) := dA_; have eL : aA < (l0.length : Int) := dA_; obtain ⟨hO, iW, iR, iO, cY, cX, cW, cV, bW, bV, cU, dO, dQ⟩ := at_T36 HR0.out aA eP eL; (try rw [← Nbq31.out] at bV); obtain rfl : bR = hO := (by injection iO); replace cY := hC_ HB cY; replace cX := hC_ HB cX; replace cW := hC_ HB cW; replace cV := hC_ HB cV; replace bW := hC_ HB bW; replace bV := hC_ HB bV; replace cU := hC_ HB cU; have hV := Zq_.mk dQ; have hY := Zq_.mk dO; clear dQ dO; replace eP := eq_true eP; replace eL := eq_true eL; have ea_ := Option.some.inj (aJ.symm.trans bW)
                     injection ea_ with ea_ en_ ec_
                     subst ea_; subst ec_; clear en_; have gN : 0 ≤ (aA : Int) := dA_; have gL : aA < (aE.length : Int) := dA_; obtain ⟨jH, A118_4, c118_4, e118, fX, fW, fV, fU, dW, eT, fT, fZ, gC⟩ := at_T36 (Kd.N_reads' aK.out).2.2 aA gN gL; (try rw [← Nbq31.out] at eT); obtain rfl : dH = jH := (by injection e118); obtain ⟨ce118, iL, hMe118, gV⟩ := Kd.N_get aK.out z36 aA gN (by first | exact gL | exact dA_ | (have e_ := (Kd.N_reads' aK.out).1; omega)); obtain ⟨ua118_4, uc118_4, rfl, eH, fD⟩ := k36_openF hMe118; have dY := gV 4 _ rfl; rw [vg_ _ _ 4 (by omega)] at dY; replace dY := Option.some.inj (dY.symm.trans dW)
                     injection dY with hva_ hvn_ hvc_
                     rw [hva_] at fD; rw [hvc_] at eH; have HL118_4 := Zq_.mk (show Kd.V (Kd.int .i64) 3 _ w.heap.size _ _ ((rd_T36 aE aA).f3.f1) from Kd.V_mk eH fD); clear hva_ hvn_ hvc_ fD eH; clear gV iL; have HR118_4 := Zq_.mk gC; have HC118_4 := Zq_.mk fZ; clear gC fZ; replace gN := eq_true gN; replace gL := eq_true gL; have ea_ := Option.some.inj (aY.symm.trans dW)
                     injection ea_ with ea_ en_ ec_
                     subst ea_; subst ec_; clear en_
                     go_wp2
                     repeat (go_quiet (fail); try go_wp2)
                     go_meet
                     case rel => exact ⟨_, ((((rd_T36 aE aA).f5) != (wrap64 (aS)))), eS_, H', ⟨by have := HK1.out; have := dI.out; first | omega | exact Nat.le_refl _⟩, ⟨by (with_reducible repeat (first | apply Kd.qz_ | apply Kd.qy_ | apply Kd.N_drew)); exact aK.out⟩, ⟨by (with_reducible repeat (first | apply Kd.vd_ | apply Kd.vc_ | apply Kd.R_drew)); exact aF.out⟩, ⟨by (with_reducible repeat (first | refine qk_ ?_ _ | refine qh_ ?_ | refine ql_ ?_ _)); exact aB.out⟩, ⟨by exact hSet_ HB⟩⟩
                    ·rw [if_neg c39] at H; have hJ : ((rd aR aD) == ((rd_T36 l0 aA).f0)) = false := beq_eq_false_iff_ne.mpr c39; have hI : ((rd aR aD) != ((rd_T36 l0 aA).f0)) = true := bne_iff_ne.mpr c39; have H' := Zq_.mk H; clear H; have bD : 0 ≤ (aA : Int) := dA_; have bC : aA < (aE.length : Int) := dA_; obtain ⟨dH, dE, dC, dA, bO, bN, bM, bL, aY, bB, bK, aU, aW⟩ := at_T36 (Kd.N_reads' aK.out).2.2 aA bD bC; (try rw [← Nbq31.out] at bB); cases dA; obtain ⟨ce114, bG, hMe114, aZ⟩ := Kd.N_get aK.out z36 aA bD (by first | exact bC | exact dA_ | (have e_ := (Kd.N_reads' aK.out).1; omega)); obtain ⟨ua114_4, uc114_4, rfl, aH, aI⟩ := k36_openF hMe114; have aC := aZ 4 _ rfl; rw [vg_ _ _ 4 (by omega)] at aC; replace aC := Option.some.inj (aC.symm.trans aY)
                     injection aC with hva_ hvn_ hvc_
                     rw [hva_] at aI; rw [hvc_] at aH; have cF := Zq_.mk (show Kd.V (Kd.int .i64) 3 _ w.heap.size _ _ ((rd_T36 aE aA).f3.f1) from Kd.V_mk aH aI); clear hva_ hvn_ hvc_ aI aH; clear aZ bG; have cE := Zq_.mk aW; have cH := Zq_.mk aU; clear aW aU; replace bD := eq_true bD; replace bC := eq_true bC; have bF : 0 ≤ (aA : Int) := dA_; have bE : aA < (l0.length : Int) := dA_; obtain ⟨bQ, dD, dB, cZ, aQ, aP, aO, aN, aJ, aG, aM, aT, aV⟩ := at_T36 HR0.out aA bF bE; (try rw [← Nbq31.out] at aG); obtain rfl : bR = bQ := (by injection cZ); replace aQ := hC_ HB aQ; replace aP := hC_ HB aP; replace aO := hC_ HB aO; replace aN := hC_ HB aN; replace aJ := hC_ HB aJ; replace aG := hC_ HB aG; replace aM := hC_ HB aM; have cD := Zq_.mk aV; have cG := Zq_.mk aT; clear aV aT; replace bF := eq_true bF; replace bE := eq_true bE; obtain ⟨Ao41, co41, eo41⟩ := Kd.ve_ aF.out; subst eo41; have eQ : 0 ≤ (aD : Int) := dA_; have eM : aD < (aR.length : Int) := dA_; obtain ⟨jI, iP, eU⟩ := Kd.at_int (Kd.R_reads' aF.out).2.2 aD eQ eM; cases iP; replace eQ := eq_true eQ; replace eM := eq_true eM; have eP : 0 ≤ (aA : Int) := dA_; have eL : aA < (l0.length : Int) := dA_; obtain ⟨hO, iW, iR, iO, cY, cX, cW, cV, bW, bV, cU, dO, dQ⟩ := at_T36 HR0.out aA eP eL; (try rw [← Nbq31.out] at bV); obtain rfl : bR = hO := (by injection iO); replace cY := hC_ HB cY; replace cX := hC_ HB cX; replace cW := hC_ HB cW; replace cV := hC_ HB cV; replace bW := hC_ HB bW; replace bV := hC_ HB bV; replace cU := hC_ HB cU; have hV := Zq_.mk dQ; have hY := Zq_.mk dO; clear dQ dO; replace eP := eq_true eP; replace eL := eq_true eL; have ea_ := Option.some.inj (aJ.symm.trans bW)
                     injection ea_ with ea_ en_ ec_
                     subst ea_; subst ec_; clear en_
                     go_wp2
                     repeat (go_quiet (fail); try go_wp2)
                     go_meet
                     case rel => exact ⟨_, (true), eS_, H', ⟨by have := HK1.out; have := dI.out; first | omega | exact Nat.le_refl _⟩, ⟨by (with_reducible repeat (first | apply Kd.qz_ | apply Kd.qy_ | apply Kd.N_drew)); exact aK.out⟩, ⟨by (with_reducible repeat (first | apply Kd.vd_ | apply Kd.vc_ | apply Kd.R_drew)); exact aF.out⟩, ⟨by (with_reducible repeat (first | refine qk_ ?_ _ | refine qh_ ?_ | refine ql_ ?_ _)); exact aB.out⟩, ⟨by exact hSet_ HB⟩⟩
                   ·rw [if_neg c38] at H; exact absurd H (by simp)
                  ·rw [if_neg c37] at H; exact absurd H (by simp)
                ·replace c34 := Bool.eq_false_iff.mpr c34; subst c34; (try (have c34n := hK; simp only [Bool.not_true, Bool.not_false, bne_eq_false_iff_eq] at c34n))
                 have H1 : (law22_WatchSilence.j2 kj21 l0 a2 (wrap64 (aS)) (wrap64 (aX)) aE aR aD aA false false) = some r := by rw [if_neg (show ¬ (false = true) by decide)] at H; exact H
                 clear H; have H := H1; clear H1; have H' := Zq_.mk H; clear H; have bD : 0 ≤ (aA : Int) := dA_; have bC : aA < (aE.length : Int) := dA_; obtain ⟨dH, dE, dC, dA, bO, bN, bM, bL, aY, bB, bK, aU, aW⟩ := at_T36 (Kd.N_reads' aK.out).2.2 aA bD bC; (try rw [← Nbq31.out] at bB); cases dA; obtain ⟨ce114, bG, hMe114, aZ⟩ := Kd.N_get aK.out z36 aA bD (by first | exact bC | exact dA_ | (have e_ := (Kd.N_reads' aK.out).1; omega)); obtain ⟨ua114_4, uc114_4, rfl, aH, aI⟩ := k36_openF hMe114; have aC := aZ 4 _ rfl; rw [vg_ _ _ 4 (by omega)] at aC; replace aC := Option.some.inj (aC.symm.trans aY)
                 injection aC with hva_ hvn_ hvc_
                 rw [hva_] at aI; rw [hvc_] at aH; have cF := Zq_.mk (show Kd.V (Kd.int .i64) 3 _ w.heap.size _ _ ((rd_T36 aE aA).f3.f1) from Kd.V_mk aH aI); clear hva_ hvn_ hvc_ aI aH; clear aZ bG; have cE := Zq_.mk aW; have cH := Zq_.mk aU; clear aW aU; replace bD := eq_true bD; replace bC := eq_true bC; have bF : 0 ≤ (aA : Int) := dA_; have bE : aA < (l0.length : Int) := dA_; obtain ⟨bQ, dD, dB, cZ, aQ, aP, aO, aN, aJ, aG, aM, aT, aV⟩ := at_T36 HR0.out aA bF bE; (try rw [← Nbq31.out] at aG); obtain rfl : bR = bQ := (by injection cZ); replace aQ := hC_ HB aQ; replace aP := hC_ HB aP; replace aO := hC_ HB aO; replace aN := hC_ HB aN; replace aJ := hC_ HB aJ; replace aG := hC_ HB aG; replace aM := hC_ HB aM; have cD := Zq_.mk aV; have cG := Zq_.mk aT; clear aV aT; replace bF := eq_true bF; replace bE := eq_true bE
                 go_wp2
                 repeat (go_quiet (fail); try go_wp2)
                 go_meet
                 case rel => exact ⟨_, (false), eS_, H', ⟨by have := HK1.out; have := dI.out; first | omega | exact Nat.le_refl _⟩, ⟨by (with_reducible repeat (first | apply Kd.qz_ | apply Kd.qy_ | apply Kd.N_drew)); exact aK.out⟩, ⟨by (with_reducible repeat (first | apply Kd.vd_ | apply Kd.vc_ | apply Kd.R_drew)); exact aF.out⟩, ⟨by (with_reducible repeat (first | refine qk_ ?_ _ | refine qh_ ?_ | refine ql_ ?_ _)); exact aB.out⟩, ⟨by exact hSet_ HB⟩⟩
              ·replace c32 := Bool.eq_false_iff.mpr c32; subst c32
               have H1 : (if (((rd_T36 aE aA).f4) != false) = true then (law22_WatchSilence.j2 kj21 l0 a2 (wrap64 (aS)) (wrap64 (aX)) aE aR aD aA aL true) else (if aL = true then (if aD ≥ (aR.length : Int) then (law22_WatchSilence.j2 kj21 l0 a2 (wrap64 (aS)) (wrap64 (aX)) aE aR aD aA aL true) else (if 0 ≤ aD then (if aD < (aR.length : Int) then (if (rd aR aD) = ((rd_T36 l0 aA).f0) then (law22_WatchSilence.j2 kj21 l0 a2 (wrap64 (aS)) (wrap64 (aX)) aE aR aD aA aL (((rd_T36 aE aA).f5) != (wrap64 (aS)))) else (law22_WatchSilence.j2 kj21 l0 a2 (wrap64 (aS)) (wrap64 (aX)) aE aR aD aA aL true)) else (none)) else (none))) else (law22_WatchSilence.j2 kj21 l0 a2 (wrap64 (aS)) (wrap64 (aX)) aE aR aD aA aL false))) = some r := by rw [if_neg (show ¬ (false = true) by decide)] at H; exact H
               clear H; have H := H1; clear H1
               by_cases c42 : (((rd_T36 aE aA).f4) != false) = true
               ·rw [if_pos c42] at H; have hH : (((rd_T36 aE aA).f4) != false) = true := c42; (try (have hG : decide (((rd_T36 aE aA).f4) = false) = false := by simpa using c42)); (try (have hF : (((rd_T36 aE aA).f4) == false) = false := by simpa using c42)); (try (have c42b3 : ¬ (((rd_T36 aE aA).f4) = false) := by simpa using c42)); clear c42; have H' := Zq_.mk H; clear H; have bD : 0 ≤ (aA : Int) := dA_; have bC : aA < (aE.length : Int) := dA_; obtain ⟨dH, dE, dC, dA, bO, bN, bM, bL, aY, bB, bK, aU, aW⟩ := at_T36 (Kd.N_reads' aK.out).2.2 aA bD bC; (try rw [← Nbq31.out] at bB); cases dA; obtain ⟨ce114, bG, hMe114, aZ⟩ := Kd.N_get aK.out z36 aA bD (by first | exact bC | exact dA_ | (have e_ := (Kd.N_reads' aK.out).1; omega)); obtain ⟨ua114_4, uc114_4, rfl, aH, aI⟩ := k36_openF hMe114; have aC := aZ 4 _ rfl; rw [vg_ _ _ 4 (by omega)] at aC; replace aC := Option.some.inj (aC.symm.trans aY)
                injection aC with hva_ hvn_ hvc_
                rw [hva_] at aI; rw [hvc_] at aH; have cF := Zq_.mk (show Kd.V (Kd.int .i64) 3 _ w.heap.size _ _ ((rd_T36 aE aA).f3.f1) from Kd.V_mk aH aI); clear hva_ hvn_ hvc_ aI aH; clear aZ bG; have cE := Zq_.mk aW; have cH := Zq_.mk aU; clear aW aU; replace bD := eq_true bD; replace bC := eq_true bC; have bF : 0 ≤ (aA : Int) := dA_; have bE : aA < (l0.length : Int) := dA_; obtain ⟨bQ, dD, dB, cZ, aQ, aP, aO, aN, aJ, aG, aM, aT, aV⟩ := at_T36 HR0.out aA bF bE; (try rw [← Nbq31.out] at aG); obtain rfl : bR = bQ := (by injection cZ); replace aQ := hC_ HB aQ; replace aP := hC_ HB aP; replace aO := hC_ HB aO; replace aN := hC_ HB aN; replace aJ := hC_ HB aJ; replace aG := hC_ HB aG; replace aM := hC_ HB aM; have cD := Zq_.mk aV; have cG := Zq_.mk aT; clear aV aT; replace bF := eq_true bF; replace bE := eq_true bE
                go_wp2
                repeat (go_quiet (fail); try go_wp2)
                go_meet
                case rel => exact ⟨_, (true), eS_, H', ⟨by have := HK1.out; have := dI.out; first | omega | exact Nat.le_refl _⟩, ⟨by (with_reducible repeat (first | apply Kd.qz_ | apply Kd.qy_ | apply Kd.N_drew)); exact aK.out⟩, ⟨by (with_reducible repeat (first | apply Kd.vd_ | apply Kd.vc_ | apply Kd.R_drew)); exact aF.out⟩, ⟨by (with_reducible repeat (first | refine qk_ ?_ _ | refine qh_ ?_ | refine ql_ ?_ _)); exact aB.out⟩, ⟨by exact hSet_ HB⟩⟩
               ·rw [if_neg c42] at H
                have hH : (((rd_T36 aE aA).f4) != false) = false := by simpa using c42
                (try (have hG : decide (((rd_T36 aE aA).f4) = false) = true := by simpa using c42)); (try (have hF : (((rd_T36 aE aA).f4) == false) = true := by simpa using c42)); clear c42
                by_cases c43 : aL = true
                ·subst c43
                 rw [if_pos rfl] at H
                 by_cases c44 : aD ≥ (aR.length : Int)
                 ·rw [if_pos c44] at H; have hE : decide ((aR.length : Int) ≤ aD) = true := decide_eq_true c44; clear c44; have H' := Zq_.mk H; clear H; have bD : 0 ≤ (aA : Int) := dA_; have bC : aA < (aE.length : Int) := dA_; obtain ⟨dH, dE, dC, dA, bO, bN, bM, bL, aY, bB, bK, aU, aW⟩ := at_T36 (Kd.N_reads' aK.out).2.2 aA bD bC; (try rw [← Nbq31.out] at bB); cases dA; obtain ⟨ce114, bG, hMe114, aZ⟩ := Kd.N_get aK.out z36 aA bD (by first | exact bC | exact dA_ | (have e_ := (Kd.N_reads' aK.out).1; omega)); obtain ⟨ua114_4, uc114_4, rfl, aH, aI⟩ := k36_openF hMe114; have aC := aZ 4 _ rfl; rw [vg_ _ _ 4 (by omega)] at aC; replace aC := Option.some.inj (aC.symm.trans aY)
                  injection aC with hva_ hvn_ hvc_
                  rw [hva_] at aI; rw [hvc_] at aH; have cF := Zq_.mk (show Kd.V (Kd.int .i64) 3 _ w.heap.size _ _ ((rd_T36 aE aA).f3.f1) from Kd.V_mk aH aI); clear hva_ hvn_ hvc_ aI aH; clear aZ bG; have cE := Zq_.mk aW; have cH := Zq_.mk aU; clear aW aU; replace bD := eq_true bD; replace bC := eq_true bC; have bF : 0 ≤ (aA : Int) := dA_; have bE : aA < (l0.length : Int) := dA_; obtain ⟨bQ, dD, dB, cZ, aQ, aP, aO, aN, aJ, aG, aM, aT, aV⟩ := at_T36 HR0.out aA bF bE; (try rw [← Nbq31.out] at aG); obtain rfl : bR = bQ := (by injection cZ); replace aQ := hC_ HB aQ; replace aP := hC_ HB aP; replace aO := hC_ HB aO; replace aN := hC_ HB aN; replace aJ := hC_ HB aJ; replace aG := hC_ HB aG; replace aM := hC_ HB aM; have cD := Zq_.mk aV; have cG := Zq_.mk aT; clear aV aT; replace bF := eq_true bF; replace bE := eq_true bE; obtain ⟨Ao45, co45, eo45⟩ := Kd.ve_ aF.out; subst eo45
                  go_wp2
                  repeat (go_quiet (fail); try go_wp2)
                  go_meet
                  case rel => exact ⟨_, (true), eS_, H', ⟨by have := HK1.out; have := dI.out; first | omega | exact Nat.le_refl _⟩, ⟨by (with_reducible repeat (first | apply Kd.qz_ | apply Kd.qy_ | apply Kd.N_drew)); exact aK.out⟩, ⟨by (with_reducible repeat (first | apply Kd.vd_ | apply Kd.vc_ | apply Kd.R_drew)); exact aF.out⟩, ⟨by (with_reducible repeat (first | refine qk_ ?_ _ | refine qh_ ?_ | refine ql_ ?_ _)); exact aB.out⟩, ⟨by exact hSet_ HB⟩⟩
                 ·rw [if_neg c44] at H; have hE : decide ((aR.length : Int) ≤ aD) = false := decide_eq_false c44; clear c44
                  by_cases c46 : 0 ≤ aD
                  ·rw [if_pos c46] at H; have iA : decide (0 ≤ aD) = true := decide_eq_true c46; clear c46
                   by_cases c47 : aD < (aR.length : Int)
                   ·rw [if_pos c47] at H; have hZ : decide (aD < (aR.length : Int)) = true := decide_eq_true c47; clear c47
                    by_cases c48 : (rd aR aD) = ((rd_T36 l0 aA).f0)
                    ·rw [if_pos c48] at H; have hD : ((rd aR aD) == ((rd_T36 l0 aA).f0)) = true := beq_iff_eq.mpr c48; have hC : ((rd aR aD) != ((rd_T36 l0 aA).f0)) = false := bne_eq_false_iff_eq.mpr c48; clear c48; have H' := Zq_.mk H; clear H; have bD : 0 ≤ (aA : Int) := dA_; have bC : aA < (aE.length : Int) := dA_; obtain ⟨dH, dE, dC, dA, bO, bN, bM, bL, aY, bB, bK, aU, aW⟩ := at_T36 (Kd.N_reads' aK.out).2.2 aA bD bC; (try rw [← Nbq31.out] at bB); cases dA; obtain ⟨ce114, bG, hMe114, aZ⟩ := Kd.N_get aK.out z36 aA bD (by first | exact bC | exact dA_ | (have e_ := (Kd.N_reads' aK.out).1; omega)); obtain ⟨ua114_4, uc114_4, rfl, aH, aI⟩ := k36_openF hMe114; have aC := aZ 4 _ rfl; rw [vg_ _ _ 4 (by omega)] at aC; replace aC := Option.some.inj (aC.symm.trans aY)
                     injection aC with hva_ hvn_ hvc_
                     rw [hva_] at aI; rw [hvc_] at aH; have cF := Zq_.mk (show Kd.V (Kd.int .i64) 3 _ w.heap.size _ _ ((rd_T36 aE aA).f3.f1) from Kd.V_mk aH aI); clear hva_ hvn_ hvc_ aI aH; clear aZ bG; have cE := Zq_.mk aW; have cH := Zq_.mk aU; clear aW aU; replace bD := eq_true bD; replace bC := eq_true bC; have bF : 0 ≤ (aA : Int) := dA_; have bE : aA < (l0.length : Int) := dA_; obtain ⟨bQ, dD, dB, cZ, aQ, aP, aO, aN, aJ, aG, aM, aT, aV⟩ := at_T36 HR0.out aA bF bE; (try rw [← Nbq31.out] at aG); obtain rfl : bR = bQ := (by injection cZ); replace aQ := hC_ HB aQ; replace aP := hC_ HB aP; replace aO := hC_ HB aO; replace aN := hC_ HB aN; replace aJ := hC_ HB aJ; replace aG := hC_ HB aG; replace aM := hC_ HB aM; have cD := Zq_.mk aV; have cG := Zq_.mk aT; clear aV aT; replace bF := eq_true bF; replace bE := eq_true bE; obtain ⟨Ao49, co49, eo49⟩ := Kd.ve_ aF.out; subst eo49; have eO : 0 ≤ (aD : Int) := dA_; have eK : aD < (aR.length : Int) := dA_; obtain ⟨jG, iN, eS⟩ := Kd.at_int (Kd.R_reads' aF.out).2.2 aD eO eK; cases iN; replace eO := eq_true eO; replace eK := eq_true eK; have eN : 0 ≤ (aA : Int) := dA_; have eJ : aA < (l0.length : Int) := dA_; obtain ⟨hN, iV, iQ, iM, cT, cS, cR, cQ, bU, bT, cP, dN, dP⟩ := at_T36 HR0.out aA eN eJ; (try rw [← Nbq31.out] at bT); obtain rfl : bR = hN := (by injection iM); replace cT := hC_ HB cT; replace cS := hC_ HB cS; replace cR := hC_ HB cR; replace cQ := hC_ HB cQ; replace bU := hC_ HB bU; replace bT := hC_ HB bT; replace cP := hC_ HB cP; have hU := Zq_.mk dP; have hX := Zq_.mk dN; clear dP dN; replace eN := eq_true eN; replace eJ := eq_true eJ; have ea_ := Option.some.inj (aJ.symm.trans bU)
                     injection ea_ with ea_ en_ ec_
                     subst ea_; subst ec_; clear en_; have gM : 0 ≤ (aA : Int) := dA_; have gK : aA < (aE.length : Int) := dA_; obtain ⟨jF, A121_4, c121_4, e121, fS, fR, fQ, fP, dV, eR, fO, fY, gB⟩ := at_T36 (Kd.N_reads' aK.out).2.2 aA gM gK; (try rw [← Nbq31.out] at eR); obtain rfl : dH = jF := (by injection e121); obtain ⟨ce121, iK, hMe121, gU⟩ := Kd.N_get aK.out z36 aA gM (by first | exact gK | exact dA_ | (have e_ := (Kd.N_reads' aK.out).1; omega)); obtain ⟨ua121_4, uc121_4, rfl, eG, fC⟩ := k36_openF hMe121; have dX := gU 4 _ rfl; rw [vg_ _ _ 4 (by omega)] at dX; replace dX := Option.some.inj (dX.symm.trans dV)
                     injection dX with hva_ hvn_ hvc_
                     rw [hva_] at fC; rw [hvc_] at eG; have HL121_4 := Zq_.mk (show Kd.V (Kd.int .i64) 3 _ w.heap.size _ _ ((rd_T36 aE aA).f3.f1) from Kd.V_mk eG fC); clear hva_ hvn_ hvc_ fC eG; clear gU iK; have HR121_4 := Zq_.mk gB; have HC121_4 := Zq_.mk fY; clear gB fY; replace gM := eq_true gM; replace gK := eq_true gK; have ea_ := Option.some.inj (aY.symm.trans dV)
                     injection ea_ with ea_ en_ ec_
                     subst ea_; subst ec_; clear en_
                     go_wp2
                     repeat (go_quiet (fail); try go_wp2)
                     go_meet
                     case rel => exact ⟨_, ((((rd_T36 aE aA).f5) != (wrap64 (aS)))), eS_, H', ⟨by have := HK1.out; have := dI.out; first | omega | exact Nat.le_refl _⟩, ⟨by (with_reducible repeat (first | apply Kd.qz_ | apply Kd.qy_ | apply Kd.N_drew)); exact aK.out⟩, ⟨by (with_reducible repeat (first | apply Kd.vd_ | apply Kd.vc_ | apply Kd.R_drew)); exact aF.out⟩, ⟨by (with_reducible repeat (first | refine qk_ ?_ _ | refine qh_ ?_ | refine ql_ ?_ _)); exact aB.out⟩, ⟨by exact hSet_ HB⟩⟩
                    ·rw [if_neg c48] at H; have hD : ((rd aR aD) == ((rd_T36 l0 aA).f0)) = false := beq_eq_false_iff_ne.mpr c48; have hC : ((rd aR aD) != ((rd_T36 l0 aA).f0)) = true := bne_iff_ne.mpr c48; have H' := Zq_.mk H; clear H; have bD : 0 ≤ (aA : Int) := dA_; have bC : aA < (aE.length : Int) := dA_; obtain ⟨dH, dE, dC, dA, bO, bN, bM, bL, aY, bB, bK, aU, aW⟩ := at_T36 (Kd.N_reads' aK.out).2.2 aA bD bC; (try rw [← Nbq31.out] at bB); cases dA; obtain ⟨ce114, bG, hMe114, aZ⟩ := Kd.N_get aK.out z36 aA bD (by first | exact bC | exact dA_ | (have e_ := (Kd.N_reads' aK.out).1; omega)); obtain ⟨ua114_4, uc114_4, rfl, aH, aI⟩ := k36_openF hMe114; have aC := aZ 4 _ rfl; rw [vg_ _ _ 4 (by omega)] at aC; replace aC := Option.some.inj (aC.symm.trans aY)
                     injection aC with hva_ hvn_ hvc_
                     rw [hva_] at aI; rw [hvc_] at aH; have cF := Zq_.mk (show Kd.V (Kd.int .i64) 3 _ w.heap.size _ _ ((rd_T36 aE aA).f3.f1) from Kd.V_mk aH aI); clear hva_ hvn_ hvc_ aI aH; clear aZ bG; have cE := Zq_.mk aW; have cH := Zq_.mk aU; clear aW aU; replace bD := eq_true bD; replace bC := eq_true bC; have bF : 0 ≤ (aA : Int) := dA_; have bE : aA < (l0.length : Int) := dA_; obtain ⟨bQ, dD, dB, cZ, aQ, aP, aO, aN, aJ, aG, aM, aT, aV⟩ := at_T36 HR0.out aA bF bE; (try rw [← Nbq31.out] at aG); obtain rfl : bR = bQ := (by injection cZ); replace aQ := hC_ HB aQ; replace aP := hC_ HB aP; replace aO := hC_ HB aO; replace aN := hC_ HB aN; replace aJ := hC_ HB aJ; replace aG := hC_ HB aG; replace aM := hC_ HB aM; have cD := Zq_.mk aV; have cG := Zq_.mk aT; clear aV aT; replace bF := eq_true bF; replace bE := eq_true bE; obtain ⟨Ao50, co50, eo50⟩ := Kd.ve_ aF.out; subst eo50; have eO : 0 ≤ (aD : Int) := dA_; have eK : aD < (aR.length : Int) := dA_; obtain ⟨jG, iN, eS⟩ := Kd.at_int (Kd.R_reads' aF.out).2.2 aD eO eK; cases iN; replace eO := eq_true eO; replace eK := eq_true eK; have eN : 0 ≤ (aA : Int) := dA_; have eJ : aA < (l0.length : Int) := dA_; obtain ⟨hN, iV, iQ, iM, cT, cS, cR, cQ, bU, bT, cP, dN, dP⟩ := at_T36 HR0.out aA eN eJ; (try rw [← Nbq31.out] at bT); obtain rfl : bR = hN := (by injection iM); replace cT := hC_ HB cT; replace cS := hC_ HB cS; replace cR := hC_ HB cR; replace cQ := hC_ HB cQ; replace bU := hC_ HB bU; replace bT := hC_ HB bT; replace cP := hC_ HB cP; have hU := Zq_.mk dP; have hX := Zq_.mk dN; clear dP dN; replace eN := eq_true eN; replace eJ := eq_true eJ; have ea_ := Option.some.inj (aJ.symm.trans bU)
                     injection ea_ with ea_ en_ ec_
                     subst ea_; subst ec_; clear en_
                     go_wp2
                     repeat (go_quiet (fail); try go_wp2)
                     go_meet
                     case rel => exact ⟨_, (true), eS_, H', ⟨by have := HK1.out; have := dI.out; first | omega | exact Nat.le_refl _⟩, ⟨by (with_reducible repeat (first | apply Kd.qz_ | apply Kd.qy_ | apply Kd.N_drew)); exact aK.out⟩, ⟨by (with_reducible repeat (first | apply Kd.vd_ | apply Kd.vc_ | apply Kd.R_drew)); exact aF.out⟩, ⟨by (with_reducible repeat (first | refine qk_ ?_ _ | refine qh_ ?_ | refine ql_ ?_ _)); exact aB.out⟩, ⟨by exact hSet_ HB⟩⟩
                   ·rw [if_neg c47] at H; exact absurd H (by simp)
                  ·rw [if_neg c46] at H; exact absurd H (by simp)
                ·replace c43 := Bool.eq_false_iff.mpr c43; subst c43
                 have H1 : (law22_WatchSilence.j2 kj21 l0 a2 (wrap64 (aS)) (wrap64 (aX)) aE aR aD aA false false) = some r := by rw [if_neg (show ¬ (false = true) by decide)] at H; exact H
                 clear H; have H := H1; clear H1; have H' := Zq_.mk H; clear H; have bD : 0 ≤ (aA : Int) := dA_; have bC : aA < (aE.length : Int) := dA_; obtain ⟨dH, dE, dC, dA, bO, bN, bM, bL, aY, bB, bK, aU, aW⟩ := at_T36 (Kd.N_reads' aK.out).2.2 aA bD bC; (try rw [← Nbq31.out] at bB); cases dA; obtain ⟨ce114, bG, hMe114, aZ⟩ := Kd.N_get aK.out z36 aA bD (by first | exact bC | exact dA_ | (have e_ := (Kd.N_reads' aK.out).1; omega)); obtain ⟨ua114_4, uc114_4, rfl, aH, aI⟩ := k36_openF hMe114; have aC := aZ 4 _ rfl; rw [vg_ _ _ 4 (by omega)] at aC; replace aC := Option.some.inj (aC.symm.trans aY)
                 injection aC with hva_ hvn_ hvc_
                 rw [hva_] at aI; rw [hvc_] at aH; have cF := Zq_.mk (show Kd.V (Kd.int .i64) 3 _ w.heap.size _ _ ((rd_T36 aE aA).f3.f1) from Kd.V_mk aH aI); clear hva_ hvn_ hvc_ aI aH; clear aZ bG; have cE := Zq_.mk aW; have cH := Zq_.mk aU; clear aW aU; replace bD := eq_true bD; replace bC := eq_true bC; have bF : 0 ≤ (aA : Int) := dA_; have bE : aA < (l0.length : Int) := dA_; obtain ⟨bQ, dD, dB, cZ, aQ, aP, aO, aN, aJ, aG, aM, aT, aV⟩ := at_T36 HR0.out aA bF bE; (try rw [← Nbq31.out] at aG); obtain rfl : bR = bQ := (by injection cZ); replace aQ := hC_ HB aQ; replace aP := hC_ HB aP; replace aO := hC_ HB aO; replace aN := hC_ HB aN; replace aJ := hC_ HB aJ; replace aG := hC_ HB aG; replace aM := hC_ HB aM; have cD := Zq_.mk aV; have cG := Zq_.mk aT; clear aV aT; replace bF := eq_true bF; replace bE := eq_true bE
                 go_wp2
                 repeat (go_quiet (fail); try go_wp2)
                 go_meet
                 case rel => exact ⟨_, (false), eS_, H', ⟨by have := HK1.out; have := dI.out; first | omega | exact Nat.le_refl _⟩, ⟨by (with_reducible repeat (first | apply Kd.qz_ | apply Kd.qy_ | apply Kd.N_drew)); exact aK.out⟩, ⟨by (with_reducible repeat (first | apply Kd.vd_ | apply Kd.vc_ | apply Kd.R_drew)); exact aF.out⟩, ⟨by (with_reducible repeat (first | refine qk_ ?_ _ | refine qh_ ?_ | refine ql_ ?_ _)); exact aB.out⟩, ⟨by exact hSet_ HB⟩⟩
             ·rw [if_neg c30] at H; exact absurd H (by simp)
            ·rw [if_neg c29] at H; exact absurd H (by simp)
           ·rw [if_neg c28] at H; exact absurd H (by simp)
          case rest =>
           clear iT
           try clear c1
           try clear p1
           try clear q1
           try clear hx1
           try clear c2
           try clear p2
           try clear c3
           try clear q3
           try clear c4
           try clear p6
           try clear c11
           try clear p11
           try clear q11
           try clear iX
           try clear c12
           try clear p12
           try clear q12
           try clear hx12
           try clear c28
           try clear c29
           try clear c30
           try clear q31
           try clear c32
           try clear c34
           try clear c37
           try clear c38
           try clear c39
           try clear hJ
           try clear hI
           try clear c42
           try clear hH
           try clear hG
           try clear hF
           try clear c43
           try clear c44
           try clear hE
           try clear c46
           try clear iA
           try clear c47
           try clear hZ
           try clear c48
           try clear hD
           try clear hC
           try clear bO
           try clear bN
           try clear bM
           try clear bL
           try clear aY
           try clear bB
           try clear bK
           try clear aQ
           try clear aP
           try clear aO
           try clear aN
           try clear aJ
           try clear aG
           try clear aM
           try clear eU
           try clear cY
           try clear cX
           try clear cW
           try clear cV
           try clear bW
           try clear bV
           try clear cU
           try clear fX
           try clear fW
           try clear fV
           try clear fU
           try clear dW
           try clear eT
           try clear fT
           try clear eS
           try clear cT
           try clear cS
           try clear cR
           try clear cQ
           try clear bU
           try clear bT
           try clear cP
           try clear fS
           try clear fR
           try clear fQ
           try clear fP
           try clear dV
           try clear eR
           try clear fO
           try clear bD
           try clear bF
           try clear eQ
           try clear eP
           try clear gN
           try clear eO
           try clear eN
           try clear gM
           try clear bC
           try clear bE
           try clear eM
           try clear eL
           try clear gL
           try clear eK
           try clear eJ
           try clear gK
           obtain ⟨kq, dU, rfl, HA, gP, aK, aF, aB, HB⟩ := hcut
           cases kq with
           | zero => exact absurd HA.out (by simp [law22_WatchSilence.j2])
           | succ kj26 =>
            have H := HA.out; clear HA; simp only [law22_WatchSilence.j2] at H
            by_cases c51 : dU = true
            ·subst c51
             rw [if_pos rfl] at H; obtain rfl := Option.some.inj H
             go_wp2
             repeat (go_quiet (fail); try go_wp2)
             go_ret
             exact ⟨by exact eW_, by exact hSet_ HB⟩
            ·replace c51 := Bool.eq_false_iff.mpr c51; subst c51
             have H1 : (if aL = true then (law22_WatchSilence.j3 kj26 l0 a2 (wrap64 (aS)) (wrap64 (aX)) aE aR (wrap64 (aD + 1)) aA aL) else (law22_WatchSilence.j3 kj26 l0 a2 (wrap64 (aS)) (wrap64 (aX)) aE aR aD aA aL)) = some r := by rw [if_neg (show ¬ (false = true) by decide)] at H; exact H
             clear H; have H := H1; clear H1; have iS := Zq_.mk H; clear H
             go_upto_if 119 with (fail)
             repeat (go_quiet (fail); go_upto_if 119 with (fail))
             go_cut [11] (fun v11 wc => ∃ (kq : Nat) (cN : Int), v11 = .int .i64 cN ∧ Zq_ (law22_WatchSilence.j3 kq l0 a2 (wrap64 (aS)) (wrap64 (aX)) aE aR cN aA aL = some r) ∧ Zq_ (kq ≤ kj26) ∧ Zq_ (Kd.N k36 36 wc w.heap.size (fun k_ => some k_ ≠ (v108 : Value).ownBlock ∧ k_ ≠ bA) (.slice gQ aE.length gO) aE) ∧ Zq_ (Kd.R (Kd.int .i64) 3 wc w.heap.size (fun _ => True) v108 aR) ∧ Zq_ (wc.heap[bA]? = some (.cells #[.int .u16 aS, .int .u16 aX] 24 (0, 0))) ∧ Zq_ (Below w.heap.size w wc))
             case first =>
              have H := iS.out; clear iS
              by_cases c53 : aL = true
              ·subst c53
               rw [if_pos rfl] at H; have H' := Zq_.mk H; clear H
               go_wp2
               repeat (go_quiet (fail); try go_wp2)
               go_meet
               case rel => exact ⟨_, (wrap64 (aD + 1)), eS_, H', ⟨by have := HK1.out; have := dI.out; have := gP.out; first | omega | exact Nat.le_refl _⟩, ⟨by (with_reducible repeat (first | apply Kd.qz_ | apply Kd.qy_ | apply Kd.N_drew)); exact aK.out⟩, ⟨by (with_reducible repeat (first | apply Kd.vd_ | apply Kd.vc_ | apply Kd.R_drew)); exact aF.out⟩, ⟨by (with_reducible repeat (first | refine qk_ ?_ _ | refine qh_ ?_ | refine ql_ ?_ _)); exact aB.out⟩, ⟨by exact hSet_ HB⟩⟩
              ·replace c53 := Bool.eq_false_iff.mpr c53; subst c53
               have H1 : (law22_WatchSilence.j3 kj26 l0 a2 (wrap64 (aS)) (wrap64 (aX)) aE aR aD aA false) = some r := by rw [if_neg (show ¬ (false = true) by decide)] at H; exact H
               clear H; have H := H1; clear H1; have H' := Zq_.mk H; clear H
               go_wp2
               repeat (go_quiet (fail); try go_wp2)
               go_meet
               case rel => exact ⟨_, (aD), eS_, H', ⟨by have := HK1.out; have := dI.out; have := gP.out; first | omega | exact Nat.le_refl _⟩, ⟨by (with_reducible repeat (first | apply Kd.qz_ | apply Kd.qy_ | apply Kd.N_drew)); exact aK.out⟩, ⟨by (with_reducible repeat (first | apply Kd.vd_ | apply Kd.vc_ | apply Kd.R_drew)); exact aF.out⟩, ⟨by (with_reducible repeat (first | refine qk_ ?_ _ | refine qh_ ?_ | refine ql_ ?_ _)); exact aB.out⟩, ⟨by exact hSet_ HB⟩⟩
             case rest =>
              clear iS
              try clear c1
              try clear p1
              try clear q1
              try clear hx1
              try clear c2
              try clear p2
              try clear c3
              try clear q3
              try clear c4
              try clear c5
              try clear p6
              try clear c11
              try clear p11
              try clear q11
              try clear iX
              try clear c12
              try clear p12
              try clear q12
              try clear hx12
              try clear c28
              try clear c29
              try clear c30
              try clear q31
              try clear c32
              try clear c34
              try clear c37
              try clear c38
              try clear c39
              try clear hJ
              try clear hI
              try clear c42
              try clear hH
              try clear hG
              try clear hF
              try clear c43
              try clear c44
              try clear hE
              try clear c46
              try clear iA
              try clear c47
              try clear hZ
              try clear c48
              try clear hD
              try clear hC
              try clear c51
              try clear c53
              try clear bO
              try clear bN
              try clear bM
              try clear bL
              try clear aY
              try clear bB
              try clear bK
              try clear aQ
              try clear aP
              try clear aO
              try clear aN
              try clear aJ
              try clear aG
              try clear aM
              try clear eU
              try clear cY
              try clear cX
              try clear cW
              try clear cV
              try clear bW
              try clear bV
              try clear cU
              try clear fX
              try clear fW
              try clear fV
              try clear fU
              try clear dW
              try clear eT
              try clear fT
              try clear eS
              try clear cT
              try clear cS
              try clear cR
              try clear cQ
              try clear bU
              try clear bT
              try clear cP
              try clear fS
              try clear fR
              try clear fQ
              try clear fP
              try clear dV
              try clear eR
              try clear fO
              try clear p1
              try clear p11
              try clear bD
              try clear bF
              try clear eQ
              try clear eP
              try clear gN
              try clear eO
              try clear p12
              try clear eN
              try clear gM
              try clear p2
              try clear p6
              try clear q1
              try clear q11
              try clear bC
              try clear bE
              try clear eM
              try clear eL
              try clear gL
              try clear eK
              try clear q12
              try clear eJ
              try clear gK
              try clear q3
              try clear q31
              obtain ⟨kq, cN, rfl, HA, hW, aK, aF, aB, HB⟩ := hcut
              cases kq with
              | zero => exact absurd HA.out (by simp [law22_WatchSilence.j3])
              | succ kj51 =>
               have H := HA.out; clear HA; simp only [law22_WatchSilence.j3] at H; replace H := ob_ H; obtain ⟨⟨cO, eD⟩, jN, H⟩ := H; (try dsimp only at H); have A54 := Zq_.mk jN; clear jN
               by_cases c55 : aL = true
               ·subst c55
                rw [if_pos rfl] at H
                by_cases c56 : (cO.length : Int) = (aE.length : Int)
                ·rw [if_pos c56] at H; have c56b0 : ((cO.length : Int) == (aE.length : Int)) = true := beq_iff_eq.mpr c56; have c56b1 : ((cO.length : Int) != (aE.length : Int)) = false := bne_eq_false_iff_eq.mpr c56
                 have c56b2 : (cO.length == aE.length) = true := by first | simpa using c56 | (simp at c56 ⊢; omega)
                 clear c56
                 by_cases c57 : 0 ≤ aA
                 ·rw [if_pos c57] at H; have c57b0 : decide (0 ≤ aA) = true := decide_eq_true c57; clear c57
                  by_cases c58 : aA < (cO.length : Int)
                  ·rw [if_pos c58] at H; have c58b0 : decide (aA < (cO.length : Int)) = true := decide_eq_true c58; clear c58; obtain ⟨bq59, hbq59⟩ : ∃ b_ : Bool, b_ = ((rd_T36 cO aA).f4) := ⟨_, rfl⟩
                   replace H : (if bq59 = true then (some false) else ((ref06_Ints.f kj51 eD aR).bind fun fI => (if fI = true then (some false) else (law22_WatchSilence.l0 kj51 l0 a2 (wrap64 (aS)) (wrap64 (aX)) aE aR cN (wrap64 (aA + 1)))))) = some r := by rw [← hbq59] at H; exact H
                   have Nbq59 := Zq_.mk hbq59; clear hbq59
                   by_cases c60 : bq59 = true
                   ·rw [if_pos c60] at H; exact absurd ((Option.some.inj H).trans HRT.out) (by decide)
                   ·replace c60 := Bool.eq_false_iff.mpr c60; subst c60
                    have H1 : ((ref06_Ints.f kj51 eD aR).bind fun fI => (if fI = true then (some false) else (law22_WatchSilence.l0 kj51 l0 a2 (wrap64 (aS)) (wrap64 (aX)) aE aR cN (wrap64 (aA + 1))))) = some r := by rw [if_neg (show ¬ (false = true) by decide)] at H; exact H
                    clear H; have H := H1; clear H1; replace H := ob_ H; obtain ⟨fI, jM, H⟩ := H; (try dsimp only at H); have A63 := Zq_.mk jM; clear jM
                    by_cases c64 : fI = true
                    ·rw [if_pos c64] at H; exact absurd ((Option.some.inj H).trans HRT.out) (by decide)
                    ·replace c64 := Bool.eq_false_iff.mpr c64; subst c64
                     have H1 : (law22_WatchSilence.l0 kj51 l0 a2 (wrap64 (aS)) (wrap64 (aX)) aE aR cN (wrap64 (aA + 1))) = some r := by rw [if_neg (show ¬ (false = true) by decide)] at H; exact H
                     clear H; have H := H1; clear H1; have H' := Zq_.mk H; clear H
                     go_wp2_with (first | (go_at_call 10; (with_reducible refine (watch_Judge.calls kj51 (fun k_ => (some k_ ≠ (v108 : Value).ownBlock ∧ k_ ≠ bA)) _ _ aE (wrap64 ((wrap64 (aS)) + 1)) (wrap64 (aX)) (wrap64 (a2)) cO eD _ ?side1 A54.out).mono ?_); (case side1 => exact Kd.N_V (aK.out)); rintro e w69 ⟨v123, v126, rfl, ho0, ho1, hb⟩; replace aK := Zq_.mk (Kd.N_mono (Kd.N_told (Kd.N_told (Kd.N_old (vX_ aK) hb) (by first | exact Kd.N_base ho0 | exact Kd.S_base ho0)) (Kd.R_base ho1)) (fun _ h_ => h_.1)); have bS := Zq_.mk (Kd.vi_ (Kd.N_mono (ok' := fun k_ => some k_ ≠ (v126 : Value).ownBlock ∧ some k_ ≠ (v108 : Value).ownBlock ∧ k_ ≠ bA) ho0 (fun k_ hk_ => ⟨hk_.2, Or.elim hk_.1 (fun hs_ => hs_.1) (fun hn_ => (Kd.fresh' (Kd.R_lt (vX_ aF)) k_ hn_)), Or.elim hk_.1 (fun hs_ => hs_.2) (fun hn_ => (Kd.freshB (g := bA) (o := .cells #[.int .u16 aS, .int .u16 aX] 24 (0, 0)) (by exact bK_ aB) k_ hn_))⟩)) (qb_ (by exact hSet_ HB))); have cM := Zq_.mk (Kd.vj_ (Kd.R_new' (Kd.R_mono (ok' := fun k_ => True) ho1 (fun _ hk_ => trivial)) (Kd.R_lt (vX_ aF))) (qb_ (by exact hSet_ HB))); replace aF := Zq_.mk (Kd.R_elder' (vX_ aF) (Kd.R_base ho1) hb); replace aB := kB_ aB hb; replace HB := sB_ HB hb; (try clear hb); (try clear ho0); (try clear ho1); obtain ⟨jL, jA, gY⟩ := Kd.vp_ bS.out; subst gY; have dK : 0 ≤ (aA : Int) := dA_; have dJ : aA < (cO.length : Int) := dA_; obtain ⟨iJ, hQ, hL, hA, fN, fM, fL, fK, dM, dL, fJ, cI, cK⟩ := at_T36 (Kd.N_reads' bS.out).2.2 aA dK dJ; (try rw [← Nbq59.out] at dL); cases hA; obtain ⟨ce128, eE, hMe128, dF⟩ := Kd.N_get bS.out z36 aA dK (by first | exact dJ | exact dA_ | (have e_ := (Kd.N_reads' bS.out).1; omega)); obtain ⟨ua128_4, uc128_4, rfl, bJ, bP⟩ := k36_openF hMe128; have bH := dF 4 _ rfl; rw [vg_ _ _ 4 (by omega)] at bH; replace bH := Option.some.inj (bH.symm.trans dM); injection bH with hva_ hvn_ hvc_; rw [hva_] at bP; rw [hvc_] at bJ; have gH := Zq_.mk (show Kd.V (Kd.int .i64) 3 _ w.heap.size _ _ ((rd_T36 cO aA).f3.f1) from Kd.V_mk bJ bP); clear hva_ hvn_ hvc_ bP bJ; clear dF eE; have gF := Zq_.mk cK; have gI := Zq_.mk cI; clear cK cI; replace dK := eq_true dK; replace dJ := eq_true dJ; obtain ⟨jK, iZ, gX⟩ := Kd.ve_ cM.out; subst gX; obtain ⟨jJ, iY, gW⟩ := Kd.ve_ aF.out; subst gW) | (go_at_call 12; (with_reducible refine (ref06_Ints.calls kj51 _ _ eD _ _ aR false _ ?side1 ?side2 ?side3 ?side4 A63.out).mono ?_); (case side1 => exact cX_ ((Kd.R_reads' cM.out).2.2)); (case side2 => exact (Kd.R_reads' cM.out).2.1); (case side3 => exact cX_ ((Kd.R_reads' aF.out).2.2)); (case side4 => exact (Kd.R_reads' aF.out).2.1); rintro e w' ⟨rfl, ⟨nd, rfl⟩⟩; (try first | exact ⟨rfl, _, World.drewN_drewN _ _ _⟩ | exact ⟨rfl, _, Eq.trans (World.drewN_drewN _ _ _) (congrArg (World.drewN _) (Nat.add_assoc _ _ _))⟩)))
                     repeat (go_quiet (first | (go_at_call 10; (with_reducible refine (watch_Judge.calls kj51 (fun k_ => (some k_ ≠ (v108 : Value).ownBlock ∧ k_ ≠ bA)) _ _ aE (wrap64 ((wrap64 (aS)) + 1)) (wrap64 (aX)) (wrap64 (a2)) cO eD _ ?side1 A54.out).mono ?_); (case side1 => exact Kd.N_V (aK.out)); rintro e w69 ⟨v123, v126, rfl, ho0, ho1, hb⟩; replace aK := Zq_.mk (Kd.N_mono (Kd.N_told (Kd.N_told (Kd.N_old (vX_ aK) hb) (by first | exact Kd.N_base ho0 | exact Kd.S_base ho0)) (Kd.R_base ho1)) (fun _ h_ => h_.1)); have bS := Zq_.mk (Kd.vi_ (Kd.N_mono (ok' := fun k_ => some k_ ≠ (v126 : Value).ownBlock ∧ some k_ ≠ (v108 : Value).ownBlock ∧ k_ ≠ bA) ho0 (fun k_ hk_ => ⟨hk_.2, Or.elim hk_.1 (fun hs_ => hs_.1) (fun hn_ => (Kd.fresh' (Kd.R_lt (vX_ aF)) k_ hn_)), Or.elim hk_.1 (fun hs_ => hs_.2) (fun hn_ => (Kd.freshB (g := bA) (o := .cells #[.int .u16 aS, .int .u16 aX] 24 (0, 0)) (by exact bK_ aB) k_ hn_))⟩)) (qb_ (by exact hSet_ HB))); have cM := Zq_.mk (Kd.vj_ (Kd.R_new' (Kd.R_mono (ok' := fun k_ => True) ho1 (fun _ hk_ => trivial)) (Kd.R_lt (vX_ aF))) (qb_ (by exact hSet_ HB))); replace aF := Zq_.mk (Kd.R_elder' (vX_ aF) (Kd.R_base ho1) hb); replace aB := kB_ aB hb; replace HB := sB_ HB hb; (try clear hb); (try clear ho0); (try clear ho1); obtain ⟨jL, jA, gY⟩ := Kd.vp_ bS.out; subst gY; have dK : 0 ≤ (aA : Int) := dA_; have dJ : aA < (cO.length : Int) := dA_; obtain ⟨iJ, hQ, hL, hA, fN, fM, fL, fK, dM, dL, fJ, cI, cK⟩ := at_T36 (Kd.N_reads' bS.out).2.2 aA dK dJ; (try rw [← Nbq59.out] at dL); cases hA; obtain ⟨ce128, eE, hMe128, dF⟩ := Kd.N_get bS.out z36 aA dK (by first | exact dJ | exact dA_ | (have e_ := (Kd.N_reads' bS.out).1; omega)); obtain ⟨ua128_4, uc128_4, rfl, bJ, bP⟩ := k36_openF hMe128; have bH := dF 4 _ rfl; rw [vg_ _ _ 4 (by omega)] at bH; replace bH := Option.some.inj (bH.symm.trans dM); injection bH with hva_ hvn_ hvc_; rw [hva_] at bP; rw [hvc_] at bJ; have gH := Zq_.mk (show Kd.V (Kd.int .i64) 3 _ w.heap.size _ _ ((rd_T36 cO aA).f3.f1) from Kd.V_mk bJ bP); clear hva_ hvn_ hvc_ bP bJ; clear dF eE; have gF := Zq_.mk cK; have gI := Zq_.mk cI; clear cK cI; replace dK := eq_true dK; replace dJ := eq_true dJ; obtain ⟨jK, iZ, gX⟩ := Kd.ve_ cM.out; subst gX; obtain ⟨jJ, iY, gW⟩ := Kd.ve_ aF.out; subst gW) | (go_at_call 12; (with_reducible refine (ref06_Ints.calls kj51 _ _ eD _ _ aR false _ ?side1 ?side2 ?side3 ?side4 A63.out).mono ?_); (case side1 => exact cX_ ((Kd.R_reads' cM.out).2.2)); (case side2 => exact (Kd.R_reads' cM.out).2.1); (case side3 => exact cX_ ((Kd.R_reads' aF.out).2.2)); (case side4 => exact (Kd.R_reads' aF.out).2.1); rintro e w' ⟨rfl, ⟨nd, rfl⟩⟩; (try first | exact ⟨rfl, _, World.drewN_drewN _ _ _⟩ | exact ⟨rfl, _, Eq.trans (World.drewN_drewN _ _ _) (congrArg (World.drewN _) (Nat.add_assoc _ _ _))⟩))); try go_wp2_with (first | (go_at_call 10; (with_reducible refine (watch_Judge.calls kj51 (fun k_ => (some k_ ≠ (v108 : Value).ownBlock ∧ k_ ≠ bA)) _ _ aE (wrap64 ((wrap64 (aS)) + 1)) (wrap64 (aX)) (wrap64 (a2)) cO eD _ ?side1 A54.out).mono ?_); (case side1 => exact Kd.N_V (aK.out)); rintro e w69 ⟨v123, v126, rfl, ho0, ho1, hb⟩; replace aK := Zq_.mk (Kd.N_mono (Kd.N_told (Kd.N_told (Kd.N_old (vX_ aK) hb) (by first | exact Kd.N_base ho0 | exact Kd.S_base ho0)) (Kd.R_base ho1)) (fun _ h_ => h_.1)); have bS := Zq_.mk (Kd.vi_ (Kd.N_mono (ok' := fun k_ => some k_ ≠ (v126 : Value).ownBlock ∧ some k_ ≠ (v108 : Value).ownBlock ∧ k_ ≠ bA) ho0 (fun k_ hk_ => ⟨hk_.2, Or.elim hk_.1 (fun hs_ => hs_.1) (fun hn_ => (Kd.fresh' (Kd.R_lt (vX_ aF)) k_ hn_)), Or.elim hk_.1 (fun hs_ => hs_.2) (fun hn_ => (Kd.freshB (g := bA) (o := .cells #[.int .u16 aS, .int .u16 aX] 24 (0, 0)) (by exact bK_ aB) k_ hn_))⟩)) (qb_ (by exact hSet_ HB))); have cM := Zq_.mk (Kd.vj_ (Kd.R_new' (Kd.R_mono (ok' := fun k_ => True) ho1 (fun _ hk_ => trivial)) (Kd.R_lt (vX_ aF))) (qb_ (by exact hSet_ HB))); replace aF := Zq_.mk (Kd.R_elder' (vX_ aF) (Kd.R_base ho1) hb); replace aB := kB_ aB hb; replace HB := sB_ HB hb; (try clear hb); (try clear ho0); (try clear ho1); obtain ⟨jL, jA, gY⟩ := Kd.vp_ bS.out; subst gY; have dK : 0 ≤ (aA : Int) := dA_; have dJ : aA < (cO.length : Int) := dA_; obtain ⟨iJ, hQ, hL, hA, fN, fM, fL, fK, dM, dL, fJ, cI, cK⟩ := at_T36 (Kd.N_reads' bS.out).2.2 aA dK dJ; (try rw [← Nbq59.out] at dL); cases hA; obtain ⟨ce128, eE, hMe128, dF⟩ := Kd.N_get bS.out z36 aA dK (by first | exact dJ | exact dA_ | (have e_ := (Kd.N_reads' bS.out).1; omega)); obtain ⟨ua128_4, uc128_4, rfl, bJ, bP⟩ := k36_openF hMe128; have bH := dF 4 _ rfl; rw [vg_ _ _ 4 (by omega)] at bH; replace bH := Option.some.inj (bH.symm.trans dM); injection bH with hva_ hvn_ hvc_; rw [hva_] at bP; rw [hvc_] at bJ; have gH := Zq_.mk (show Kd.V (Kd.int .i64) 3 _ w.heap.size _ _ ((rd_T36 cO aA).f3.f1) from Kd.V_mk bJ bP); clear hva_ hvn_ hvc_ bP bJ; clear dF eE; have gF := Zq_.mk cK; have gI := Zq_.mk cI; clear cK cI; replace dK := eq_true dK; replace dJ := eq_true dJ; obtain ⟨jK, iZ, gX⟩ := Kd.ve_ cM.out; subst gX; obtain ⟨jJ, iY, gW⟩ := Kd.ve_ aF.out; subst gW) | (go_at_call 12; (with_reducible refine (ref06_Ints.calls kj51 _ _ eD _ _ aR false _ ?side1 ?side2 ?side3 ?side4 A63.out).mono ?_); (case side1 => exact cX_ ((Kd.R_reads' cM.out).2.2)); (case side2 => exact (Kd.R_reads' cM.out).2.1); (case side3 => exact cX_ ((Kd.R_reads' aF.out).2.2)); (case side4 => exact (Kd.R_reads' aF.out).2.1); rintro e w' ⟨rfl, ⟨nd, rfl⟩⟩; (try first | exact ⟨rfl, _, World.drewN_drewN _ _ _⟩ | exact ⟨rfl, _, Eq.trans (World.drewN_drewN _ _ _) (congrArg (World.drewN _) (Nat.add_assoc _ _ _))⟩))))
                     go_roundg kj51
                     case measure => have := HK1.out; have := dI.out; have := gP.out; have := hW.out; omega
                     case rel => exact ⟨(cN), (wrap64 (aA + 1)), eS_, eS_, H', ⟨by have := HK1.out; have := dI.out; have := gP.out; have := hW.out; omega⟩, ⟨by (with_reducible repeat (first | apply Kd.qz_ | apply Kd.qy_ | apply Kd.N_drew)); exact Kd.N_mono aK.out (fun _ hk => ⟨hk.1.1.1, hk.1.1.2⟩)⟩, ⟨by (with_reducible repeat (first | apply Kd.vd_ | apply Kd.vc_ | apply Kd.R_drew)); exact Kd.R_mono aF.out (fun _ hk => trivial)⟩, ⟨by (with_reducible repeat (first | refine qk_ ?_ _ | refine qh_ ?_ | refine ql_ ?_ _)); exact aB.out⟩, ⟨by exact hSet_ HB⟩⟩
                  ·rw [if_neg c58] at H; exact absurd H (by simp)
                 ·rw [if_neg c57] at H; exact absurd H (by simp)
                ·rw [if_neg c56] at H; exact absurd ((Option.some.inj H).trans HRT.out) (by decide)
               ·replace c55 := Bool.eq_false_iff.mpr c55; subst c55
                have H1 : (law22_WatchSilence.l0 kj51 l0 a2 (wrap64 (aS)) (wrap64 (aX)) aE aR cN (wrap64 (aA + 1))) = some r := by rw [if_neg (show ¬ (false = true) by decide)] at H; exact H
                clear H; have H := H1; clear H1; have H' := Zq_.mk H; clear H
                go_wp2_with (first | (go_at_call 10; (with_reducible refine (watch_Judge.calls kj51 (fun k_ => (some k_ ≠ (v108 : Value).ownBlock ∧ k_ ≠ bA)) _ _ aE (wrap64 ((wrap64 (aS)) + 1)) (wrap64 (aX)) (wrap64 (a2)) cO eD _ ?side1 A54.out).mono ?_); (case side1 => exact Kd.N_V (aK.out)); rintro e w75 ⟨v123, v126, rfl, ho0, ho1, hb⟩; replace aK := Zq_.mk (Kd.N_mono (Kd.N_told (Kd.N_told (Kd.N_old (vX_ aK) hb) (by first | exact Kd.N_base ho0 | exact Kd.S_base ho0)) (Kd.R_base ho1)) (fun _ h_ => h_.1)); have bS := Zq_.mk (Kd.vi_ (Kd.N_mono (ok' := fun k_ => some k_ ≠ (v126 : Value).ownBlock ∧ some k_ ≠ (v108 : Value).ownBlock ∧ k_ ≠ bA) ho0 (fun k_ hk_ => ⟨hk_.2, Or.elim hk_.1 (fun hs_ => hs_.1) (fun hn_ => (Kd.fresh' (Kd.R_lt (vX_ aF)) k_ hn_)), Or.elim hk_.1 (fun hs_ => hs_.2) (fun hn_ => (Kd.freshB (g := bA) (o := .cells #[.int .u16 aS, .int .u16 aX] 24 (0, 0)) (by exact bK_ aB) k_ hn_))⟩)) (qb_ (by exact hSet_ HB))); have cM := Zq_.mk (Kd.vj_ (Kd.R_new' (Kd.R_mono (ok' := fun k_ => True) ho1 (fun _ hk_ => trivial)) (Kd.R_lt (vX_ aF))) (qb_ (by exact hSet_ HB))); replace aF := Zq_.mk (Kd.R_elder' (vX_ aF) (Kd.R_base ho1) hb); replace aB := kB_ aB hb; replace HB := sB_ HB hb; (try clear hb); (try clear ho0); (try clear ho1)))
                repeat (go_quiet (first | (go_at_call 10; (with_reducible refine (watch_Judge.calls kj51 (fun k_ => (some k_ ≠ (v108 : Value).ownBlock ∧ k_ ≠ bA)) _ _ aE (wrap64 ((wrap64 (aS)) + 1)) (wrap64 (aX)) (wrap64 (a2)) cO eD _ ?side1 A54.out).mono ?_); (case side1 => exact Kd.N_V (aK.out)); rintro e w75 ⟨v123, v126, rfl, ho0, ho1, hb⟩; replace aK := Zq_.mk (Kd.N_mono (Kd.N_told (Kd.N_told (Kd.N_old (vX_ aK) hb) (by first | exact Kd.N_base ho0 | exact Kd.S_base ho0)) (Kd.R_base ho1)) (fun _ h_ => h_.1)); have bS := Zq_.mk (Kd.vi_ (Kd.N_mono (ok' := fun k_ => some k_ ≠ (v126 : Value).ownBlock ∧ some k_ ≠ (v108 : Value).ownBlock ∧ k_ ≠ bA) ho0 (fun k_ hk_ => ⟨hk_.2, Or.elim hk_.1 (fun hs_ => hs_.1) (fun hn_ => (Kd.fresh' (Kd.R_lt (vX_ aF)) k_ hn_)), Or.elim hk_.1 (fun hs_ => hs_.2) (fun hn_ => (Kd.freshB (g := bA) (o := .cells #[.int .u16 aS, .int .u16 aX] 24 (0, 0)) (by exact bK_ aB) k_ hn_))⟩)) (qb_ (by exact hSet_ HB))); have cM := Zq_.mk (Kd.vj_ (Kd.R_new' (Kd.R_mono (ok' := fun k_ => True) ho1 (fun _ hk_ => trivial)) (Kd.R_lt (vX_ aF))) (qb_ (by exact hSet_ HB))); replace aF := Zq_.mk (Kd.R_elder' (vX_ aF) (Kd.R_base ho1) hb); replace aB := kB_ aB hb; replace HB := sB_ HB hb; (try clear hb); (try clear ho0); (try clear ho1))); try go_wp2_with (first | (go_at_call 10; (with_reducible refine (watch_Judge.calls kj51 (fun k_ => (some k_ ≠ (v108 : Value).ownBlock ∧ k_ ≠ bA)) _ _ aE (wrap64 ((wrap64 (aS)) + 1)) (wrap64 (aX)) (wrap64 (a2)) cO eD _ ?side1 A54.out).mono ?_); (case side1 => exact Kd.N_V (aK.out)); rintro e w75 ⟨v123, v126, rfl, ho0, ho1, hb⟩; replace aK := Zq_.mk (Kd.N_mono (Kd.N_told (Kd.N_told (Kd.N_old (vX_ aK) hb) (by first | exact Kd.N_base ho0 | exact Kd.S_base ho0)) (Kd.R_base ho1)) (fun _ h_ => h_.1)); have bS := Zq_.mk (Kd.vi_ (Kd.N_mono (ok' := fun k_ => some k_ ≠ (v126 : Value).ownBlock ∧ some k_ ≠ (v108 : Value).ownBlock ∧ k_ ≠ bA) ho0 (fun k_ hk_ => ⟨hk_.2, Or.elim hk_.1 (fun hs_ => hs_.1) (fun hn_ => (Kd.fresh' (Kd.R_lt (vX_ aF)) k_ hn_)), Or.elim hk_.1 (fun hs_ => hs_.2) (fun hn_ => (Kd.freshB (g := bA) (o := .cells #[.int .u16 aS, .int .u16 aX] 24 (0, 0)) (by exact bK_ aB) k_ hn_))⟩)) (qb_ (by exact hSet_ HB))); have cM := Zq_.mk (Kd.vj_ (Kd.R_new' (Kd.R_mono (ok' := fun k_ => True) ho1 (fun _ hk_ => trivial)) (Kd.R_lt (vX_ aF))) (qb_ (by exact hSet_ HB))); replace aF := Zq_.mk (Kd.R_elder' (vX_ aF) (Kd.R_base ho1) hb); replace aB := kB_ aB hb; replace HB := sB_ HB hb; (try clear hb); (try clear ho0); (try clear ho1))))
                go_roundg kj51
                case measure => have := HK1.out; have := dI.out; have := gP.out; have := hW.out; omega
                case rel => exact ⟨(cN), (wrap64 (aA + 1)), eS_, eS_, H', ⟨by have := HK1.out; have := dI.out; have := gP.out; have := hW.out; omega⟩, ⟨by (with_reducible repeat (first | apply Kd.qz_ | apply Kd.qy_ | apply Kd.N_drew)); exact Kd.N_mono aK.out (fun _ hk => ⟨hk.1.1.1, hk.1.1.2⟩)⟩, ⟨by (with_reducible repeat (first | apply Kd.vd_ | apply Kd.vc_ | apply Kd.R_drew)); exact Kd.R_mono aF.out (fun _ hk => trivial)⟩, ⟨by (with_reducible repeat (first | refine qk_ ?_ _ | refine qh_ ?_ | refine ql_ ?_ _)); exact aB.out⟩, ⟨by exact hSet_ HB⟩⟩
       ·rw [if_neg c20] at H; exact absurd H (by simp)
      ·rw [if_neg c19] at H; have iE : decide (aA < (l0.length : Int)) = false := decide_eq_false c19; clear c19; obtain rfl := Option.some.inj H; obtain ⟨Ao76, co76, eo76⟩ := Kd.ve_ aF.out; subst eo76
       go_wp2
       repeat (go_quiet (fail); try go_wp2)
       go_ret
       exact ⟨by exact eW_, by exact hSet_ HB⟩
   ·rw [if_neg c12] at H; exact absurd ((Option.some.inj H).trans HRT.out) (by decide)
 ·rw [if_neg c5] at H; exact absurd ((Option.some.inj H).trans HRT.out) (by decide)
end Go.Proofs.Ytoghjpoblbdnpaa.P

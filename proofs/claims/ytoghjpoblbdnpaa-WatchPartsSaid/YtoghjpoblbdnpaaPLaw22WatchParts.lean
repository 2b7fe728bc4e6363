/- What printed functions come to, and that the machine's calls do it. No condition. -/
import Derived.Test.YtoghjpoblbdnpaaPLaw22Alive
import Derived.Test.YtoghjpoblbdnpaaPRef22Without
import Derived.Test.YtoghjpoblbdnpaaPWatchWithout
namespace Go.Proofs.Ytoghjpoblbdnpaa.P
set_option maxHeartbeats 8000000
set_option maxRecDepth 100000
open Go.RowKit Go.Proofs.YtoghjpoblbdnpaaW.PrintWords Go.Proofs.YtoghjpoblbdnpaaW.PrintLast Go.Proofs.YtoghjpoblbdnpaaW.PrintMore
attribute [local go_sem] qt_ qr_ qx_ qw_ qn_ qm_ qs_ qq_ Go.Proofs.YtoghjpoblbdnpaaW.Hw.string_gtr
set_option linter.unusedVariables false
set_option linter.unusedSimpArgs false
mutual
def law22_WatchParts.l0 : Nat → List (S36) → List Int → List Int → Int → List Int → Int → Int → Int → Int → Option (Bool)
 | 0, _, _, _, _, _, _, _, _, _ => none
 | k + 1, x0, x5, x6, x7, x8, x9, aP, aN, aL => if x9 < (x8.length : Int) then (law22_WatchParts.l1 k x0 x5 x6 x7 x8 x9 false 0 aP aN aL) else ((watch_Without.f x0 (Int.tmod (wrap64 (aL)) 8)).bind fun bK => (law22_WatchParts.l2 k x0 x5 x6 x7 x8 bK 0 0 aP aN aL))
def law22_WatchParts.l1 : Nat → List (S36) → List Int → List Int → Int → List Int → Int → Bool → Int → Int → Int → Int → Option (Bool)
 | 0, _, _, _, _, _, _, _, _, _, _, _ => none
 | k + 1, x0, x5, x6, x7, x8, x9, x10, x11, aP, aN, aL => if x11 < (x6.length : Int) then (if x10 = true then (law22_WatchParts.l1 k x0 x5 x6 x7 x8 x9 true (wrap64 (x11 + 1)) aP aN aL) else (if 0 ≤ x11 then (if 0 ≤ x9 then (if x9 < (x8.length : Int) then (law22_WatchParts.l1 k x0 x5 x6 x7 x8 x9 ((rd x6 x11) == (rd x8 x9)) (wrap64 (x11 + 1)) aP aN aL) else (none)) else (none)) else (none))) else (if x10 = true then (law22_WatchParts.l0 k x0 x5 x6 x7 x8 (wrap64 (x9 + 1)) aP aN aL) else (some false))
def law22_WatchParts.l2 : Nat → List (S36) → List Int → List Int → Int → List Int → List (S36) → Int → Int → Int → Int → Int → Option (Bool)
 | 0, _, _, _, _, _, _, _, _, _, _, _ => none
 | k + 1, x0, x5, x6, x7, x8, x12, x13, x14, aP, aN, aL => if x14 < (x0.length : Int) then (if 0 ≤ x14 then (if ((rd_T36 x0 x14).f0) = (Int.tmod (wrap64 (aL)) 8) then (law22_WatchParts.l2 k x0 x5 x6 x7 x8 x12 (wrap64 (x13 + 1)) (wrap64 (x14 + 1)) aP aN aL) else (law22_WatchParts.l2 k x0 x5 x6 x7 x8 x12 x13 (wrap64 (x14 + 1)) aP aN aL)) else (none)) else (if (wrap64 ((x5.length : Int) + (x6.length : Int))) = (x0.length : Int) then ((watch_Expired.f x0 (wrap64 (x7 + 1)) (wrap64 (aN))).bind fun bO => (if (x8.length : Int) ≤ (bO.length : Int) then (if (x12.length : Int) = (wrap64 ((x0.length : Int) - x13)) then ((watch_Right.f k x12).bind fun bU => (some bU)) else (some false)) else (some false))) else (some false))
end
def law22_WatchParts.f (k : Nat) (l0 : List (S36)) (aE : Int) (aJ : Int) (aK : Int) : Option (Bool) := (law22_alive.f k).bind fun bW => (if bW = true then ((law22_out.f k l0 0).bind fun bV => (if bV = true then (some true) else ((watch_Alive.f l0).bind fun aR => ((watch_Down.f l0).bind fun aM => ((watch_Expired.f l0 (wrap64 (aE)) (wrap64 (aJ))).bind fun aD => (law22_WatchParts.l0 k l0 aR aM (wrap64 (aE)) aD 0 aE aJ aK)))))) else (some false))
theorem law22_WatchParts.mono_l : ∀ k, (∀ y0 y1 y2 y3 y4 y5 y6 y7 y8, LeO (law22_WatchParts.l0 k y0 y1 y2 y3 y4 y5 y6 y7 y8) (law22_WatchParts.l0 (k + 1) y0 y1 y2 y3 y4 y5 y6 y7 y8)) ∧ (∀ y0 y1 y2 y3 y4 y5 y6 y7 y8 y9 y10, LeO (law22_WatchParts.l1 k y0 y1 y2 y3 y4 y5 y6 y7 y8 y9 y10) (law22_WatchParts.l1 (k + 1) y0 y1 y2 y3 y4 y5 y6 y7 y8 y9 y10)) ∧ (∀ y0 y1 y2 y3 y4 y5 y6 y7 y8 y9 y10, LeO (law22_WatchParts.l2 k y0 y1 y2 y3 y4 y5 y6 y7 y8 y9 y10) (law22_WatchParts.l2 (k + 1) y0 y1 y2 y3 y4 y5 y6 y7 y8 y9 y10))
 | 0 => ⟨fun _ _ _ _ _ _ _ _ _ r h => by simp [law22_WatchParts.l0] at h, fun _ _ _ _ _ _ _ _ _ _ _ r h => by simp [law22_WatchParts.l1] at h, fun _ _ _ _ _ _ _ _ _ _ _ r h => by simp [law22_WatchParts.l2] at h⟩
 | k + 1 => by
  obtain ⟨ih0, ih1, ih2⟩ := law22_WatchParts.mono_l k; refine ⟨?_, ?_, ?_⟩
  ·intro y0 y1 y2 y3 y4 y5 y6 y7 y8
   unfold law22_WatchParts.l0
   with_reducible repeat' first | exact ih0 _ _ _ _ _ _ _ _ _ | exact ih1 _ _ _ _ _ _ _ _ _ _ _ | exact ih2 _ _ _ _ _ _ _ _ _ _ _ | exact law22_alive.mono _ | exact law22_out.mono _ _ _ | exact watch_Right.mono _ _ | exact LeO.refl _ | exact LeO.none _ | refine LeO.ite ?_ ?_ | refine LeO.bind ?_ (fun _ => ?_)
  ·intro y0 y1 y2 y3 y4 y5 y6 y7 y8 y9 y10
   unfold law22_WatchParts.l1
   with_reducible repeat' first | exact ih0 _ _ _ _ _ _ _ _ _ | exact ih1 _ _ _ _ _ _ _ _ _ _ _ | exact ih2 _ _ _ _ _ _ _ _ _ _ _ | exact law22_alive.mono _ | exact law22_out.mono _ _ _ | exact watch_Right.mono _ _ | exact LeO.refl _ | exact LeO.none _ | refine LeO.ite ?_ ?_ | refine LeO.bind ?_ (fun _ => ?_)
  ·intro y0 y1 y2 y3 y4 y5 y6 y7 y8 y9 y10
   unfold law22_WatchParts.l2
   with_reducible repeat' first | exact ih0 _ _ _ _ _ _ _ _ _ | exact ih1 _ _ _ _ _ _ _ _ _ _ _ | exact ih2 _ _ _ _ _ _ _ _ _ _ _ | exact law22_alive.mono _ | exact law22_out.mono _ _ _ | exact watch_Right.mono _ _ | exact LeO.refl _ | exact LeO.none _ | refine LeO.ite ?_ ?_ | refine LeO.bind ?_ (fun _ => ?_)
theorem law22_WatchParts.mono : ∀ a0 a1 a2 a3 k, LeO (law22_WatchParts.f k a0 a1 a2 a3) (law22_WatchParts.f (k + 1) a0 a1 a2 a3) := by
 intro a0 a1 a2 a3 k; obtain ⟨ih0, ih1, ih2⟩ := law22_WatchParts.mono_l k
 unfold law22_WatchParts.f
 with_reducible repeat' first | exact ih0 _ _ _ _ _ _ _ _ _ | exact ih1 _ _ _ _ _ _ _ _ _ _ _ | exact ih2 _ _ _ _ _ _ _ _ _ _ _ | exact law22_alive.mono _ | exact law22_out.mono _ _ _ | exact watch_Right.mono _ _ | exact LeO.refl _ | exact LeO.none _ | refine LeO.ite ?_ ?_ | refine LeO.bind ?_ (fun _ => ?_)
theorem law22_WatchParts.calls (k : Nat) (A0 : Option Addr) (c0 : Nat) (l0 : List (S36)) (aE : Int) (aJ : Int) (aK : Int) (r : Bool) (w : World) (hr0 : Kd.C k36 w A0 l0.length l0) (hc0 : l0.length ≤ c0) (h : law22_WatchParts.f k l0 aE aJ aK = some r) (hrt : r = true) :
  Calls Try.prog 6 #[.slice A0 l0.length c0, .agg #[.int .u16 aE, .int .u16 aJ, .int .u16 aK]] w fun e w' => e = .returned (.bool r) ∧ Below w.heap.size w w' := by
 have HRT := Zq_.mk hrt; clear hrt; have hu39 := Try.underlying39; have HR0 := Zq_.mk hr0; have HC0 := Zq_.mk hc0; clear hr0 hc0; have HB := Zq_.mk (Below.refl w.heap.size w); have H : ((law22_alive.f k).bind fun bW => (if bW = true then ((law22_out.f k l0 0).bind fun bV => (if bV = true then (some true) else ((watch_Alive.f l0).bind fun aR => ((watch_Down.f l0).bind fun aM => ((watch_Expired.f l0 (wrap64 (aE)) (wrap64 (aJ))).bind fun aD => (law22_WatchParts.l0 k l0 aR aM (wrap64 (aE)) aD 0 aE aJ aK)))))) else (some false))) = some r := h; clear h; replace H := ob_ H; obtain ⟨bW, A30, H⟩ := H; (try dsimp only at H); have A3 := Zq_.mk A30; clear A30
 by_cases c4 : bW = true
 ·subst c4
  rw [if_pos rfl] at H; replace H := ob_ H; obtain ⟨bV, A50, H⟩ := H; (try dsimp only at H); have A5 := Zq_.mk A50; clear A50
  by_cases c6 : bV = true
  ·subst c6
   rw [if_pos rfl] at H; obtain rfl := Option.some.inj H
   go_enter Try.func6, Try.ntmps6
   go_wp2_with (first | ((with_reducible refine qc_ (N := 3) rfl ?_); (try (refine qo_ (by rfl) ?_; dsimp only)); refine bE_ 3 #[.int .u16 aE, .int .u16 aJ, .int .u16 aK] 39 ?_; intro aQ hg w7 hbox hb; have aA := Zq_.mk (hbox); have bM := gW_ (w := w) hg (hB_ HB); have bP := gW_ (w := w) hg (hB_ HB); replace HB := sB_ HB hb; clear hb hbox hg) | (go_at_call 8; (with_reducible refine (law22_alive.calls k  true _ A3.out).mono ?_); rintro e w8 ⟨rfl, hb⟩; replace aA := kB_ aA hb; replace HB := sB_ HB hb; (try clear hb)) | (go_at_call 9; (with_reducible refine (law22_out.calls k _ _ l0 0 true _ ?side1 ?side2 A5.out).mono ?_); (case side1 => exact cX_ (Kd.qi_ HR0.out HB.out)); (case side2 => exact HC0.out); rintro e w9 ⟨rfl, hb⟩; replace aA := kB_ aA hb; replace HB := sB_ HB hb; (try clear hb)))
   repeat (go_quiet (first | ((with_reducible refine qc_ (N := 3) rfl ?_); (try (refine qo_ (by rfl) ?_; dsimp only)); refine bE_ 3 #[.int .u16 aE, .int .u16 aJ, .int .u16 aK] 39 ?_; intro aQ hg w7 hbox hb; have aA := Zq_.mk (hbox); have bM := gW_ (w := w) hg (hB_ HB); have bP := gW_ (w := w) hg (hB_ HB); replace HB := sB_ HB hb; clear hb hbox hg) | (go_at_call 8; (with_reducible refine (law22_alive.calls k  true _ A3.out).mono ?_); rintro e w8 ⟨rfl, hb⟩; replace aA := kB_ aA hb; replace HB := sB_ HB hb; (try clear hb)) | (go_at_call 9; (with_reducible refine (law22_out.calls k _ _ l0 0 true _ ?side1 ?side2 A5.out).mono ?_); (case side1 => exact cX_ (Kd.qi_ HR0.out HB.out)); (case side2 => exact HC0.out); rintro e w9 ⟨rfl, hb⟩; replace aA := kB_ aA hb; replace HB := sB_ HB hb; (try clear hb))); try go_wp2_with (first | ((with_reducible refine qc_ (N := 3) rfl ?_); (try (refine qo_ (by rfl) ?_; dsimp only)); refine bE_ 3 #[.int .u16 aE, .int .u16 aJ, .int .u16 aK] 39 ?_; intro aQ hg w7 hbox hb; have aA := Zq_.mk (hbox); have bM := gW_ (w := w) hg (hB_ HB); have bP := gW_ (w := w) hg (hB_ HB); replace HB := sB_ HB hb; clear hb hbox hg) | (go_at_call 8; (with_reducible refine (law22_alive.calls k  true _ A3.out).mono ?_); rintro e w8 ⟨rfl, hb⟩; replace aA := kB_ aA hb; replace HB := sB_ HB hb; (try clear hb)) | (go_at_call 9; (with_reducible refine (law22_out.calls k _ _ l0 0 true _ ?side1 ?side2 A5.out).mono ?_); (case side1 => exact cX_ (Kd.qi_ HR0.out HB.out)); (case side2 => exact HC0.out); rintro e w9 ⟨rfl, hb⟩; replace aA := kB_ aA hb; replace HB := sB_ HB hb; (try clear hb))))
   go_ret
   exact ⟨by exact eW_, by exact hSet_ HB⟩
  ·replace c6 := Bool.eq_false_iff.mpr c6; subst c6
   have H1 : ((watch_Alive.f l0).bind fun aR => ((watch_Down.f l0).bind fun aM => ((watch_Expired.f l0 (wrap64 (aE)) (wrap64 (aJ))).bind fun aD => (law22_WatchParts.l0 k l0 aR aM (wrap64 (aE)) aD 0 aE aJ aK)))) = some r := by rw [if_neg (show ¬ (false = true) by decide)] at H; exact H
   clear H; have H := H1; clear H1; replace H := ob_ H; obtain ⟨aR, dO, H⟩ := H; (try dsimp only at H); have A10 := Zq_.mk dO; clear dO; replace H := ob_ H; obtain ⟨aM, dN, H⟩ := H; (try dsimp only at H); have A11 := Zq_.mk dN; clear dN; replace H := ob_ H; obtain ⟨aD, dM, H⟩ := H; (try dsimp only at H); have A12 := Zq_.mk dM; clear dM; have H' := Zq_.mk H; clear H
   go_enter Try.func6, Try.ntmps6
   go_wp2_with (first | ((with_reducible refine qc_ (N := 3) rfl ?_); (try (refine qo_ (by rfl) ?_; dsimp only)); refine bE_ 3 #[.int .u16 aE, .int .u16 aJ, .int .u16 aK] 39 ?_; intro aQ hg w13 hbox hb; have aA := Zq_.mk (hbox); have bM := gW_ (w := w) hg (hB_ HB); have bP := gW_ (w := w) hg (hB_ HB); replace HB := sB_ HB hb; clear hb hbox hg) | (go_at_call 8; (with_reducible refine (law22_alive.calls k  true _ A3.out).mono ?_); rintro e w14 ⟨rfl, hb⟩; replace aA := kB_ aA hb; replace HB := sB_ HB hb; (try clear hb)) | (go_at_call 9; (with_reducible refine (law22_out.calls k _ _ l0 0 false _ ?side1 ?side2 A5.out).mono ?_); (case side1 => exact cX_ (Kd.qi_ HR0.out HB.out)); (case side2 => exact HC0.out); rintro e w15 ⟨rfl, hb⟩; replace aA := kB_ aA hb; replace HB := sB_ HB hb; (try clear hb)) | (go_at_call 15; (with_reducible refine (watch_Alive.calls _ _ l0 aR _ ?side1 ?side2 A10.out).mono ?_); (case side1 => exact cX_ (Kd.qi_ HR0.out HB.out)); (case side2 => exact HC0.out); rintro e w16 ⟨v105, rfl, ho0, hb⟩; have aI := Zq_.mk (Kd.vj_ ho0 (qb_ (by exact hSet_ HB))); replace aA := kB_ aA hb; replace HB := sB_ HB hb; (try clear hb); (try clear ho0)) | (go_at_call 17; (with_reducible refine (watch_Down.calls _ _ l0 aM _ ?side1 ?side2 A11.out).mono ?_); (case side1 => exact cX_ (Kd.qi_ HR0.out HB.out)); (case side2 => exact HC0.out); rintro e w17 ⟨v108, rfl, ho0, hb⟩; have aT := Zq_.mk (Kd.vj_ (Kd.R_new' ho0 (Kd.R_lt (vX_ aI))) (qb_ (by exact hSet_ HB))); replace aI := Zq_.mk (Kd.R_elder' (vX_ aI) (Kd.R_base ho0) hb); replace aA := kB_ aA hb; replace HB := sB_ HB hb; (try clear hb); (try clear ho0); obtain ⟨bJ, bI, bH⟩ := c3_ aA; obtain ⟨bG, bF, bE⟩ := f3_ aA) | (go_at_call 18; (with_reducible refine (watch_Expired.calls _ _ l0 (wrap64 (aE)) (wrap64 (aJ)) aD _ ?side1 ?side2 A12.out).mono ?_); (case side1 => exact cX_ (Kd.qi_ HR0.out HB.out)); (case side2 => exact HC0.out); rintro e w19 ⟨v111, rfl, ho0, hb⟩; have cB := Zq_.mk (Kd.vj_ (Kd.R_new' (Kd.R_new' ho0 (Kd.R_lt (vX_ aI))) (Kd.R_lt (vX_ aT))) (qb_ (by exact hSet_ HB))); replace aI := Zq_.mk (Kd.R_elder' (vX_ aI) (Kd.R_base ho0) hb); replace aT := Zq_.mk (Kd.R_elder' (vX_ aT) (Kd.R_base ho0) hb); replace aA := kB_ aA hb; replace HB := sB_ HB hb; (try clear hb); (try clear ho0)))
   repeat (go_quiet (first | ((with_reducible refine qc_ (N := 3) rfl ?_); (try (refine qo_ (by rfl) ?_; dsimp only)); refine bE_ 3 #[.int .u16 aE, .int .u16 aJ, .int .u16 aK] 39 ?_; intro aQ hg w13 hbox hb; have aA := Zq_.mk (hbox); have bM := gW_ (w := w) hg (hB_ HB); have bP := gW_ (w := w) hg (hB_ HB); replace HB := sB_ HB hb; clear hb hbox hg) | (go_at_call 8; (with_reducible refine (law22_alive.calls k  true _ A3.out).mono ?_); rintro e w14 ⟨rfl, hb⟩; replace aA := kB_ aA hb; replace HB := sB_ HB hb; (try clear hb)) | (go_at_call 9; (with_reducible refine (law22_out.calls k _ _ l0 0 false _ ?side1 ?side2 A5.out).mono ?_); (case side1 => exact cX_ (Kd.qi_ HR0.out HB.out)); (case side2 => exact HC0.out); rintro e w15 ⟨rfl, hb⟩; replace aA := kB_ aA hb; replace HB := sB_ HB hb; (try clear hb)) | (go_at_call 15; (with_reducible refine (watch_Alive.calls _ _ l0 aR _ ?side1 ?side2 A10.out).mono ?_); (case side1 => exact cX_ (Kd.qi_ HR0.out HB.out)); (case side2 => exact HC0.out); rintro e w16 ⟨v105, rfl, ho0, hb⟩; have aI := Zq_.mk (Kd.vj_ ho0 (qb_ (by exact hSet_ HB))); replace aA := kB_ aA hb; replace HB := sB_ HB hb; (try clear hb); (try clear ho0)) | (go_at_call 17; (with_reducible refine (watch_Down.calls _ _ l0 aM _ ?side1 ?side2 A11.out).mono ?_); (case side1 => exact cX_ (Kd.qi_ HR0.out HB.out)); (case side2 => exact HC0.out); rintro e w17 ⟨v108, rfl, ho0, hb⟩; have aT := Zq_.mk (Kd.vj_ (Kd.R_new' ho0 (Kd.R_lt (vX_ aI))) (qb_ (by exact hSet_ HB))); replace aI := Zq_.mk (Kd.R_elder' (vX_ aI) (Kd.R_base ho0) hb); replace aA := kB_ aA hb; replace HB := sB_ HB hb; (try clear hb); (try clear ho0); obtain ⟨bJ, bI, bH⟩ := c3_ aA; obtain ⟨bG, bF, bE⟩ := f3_ aA) | (go_at_call 18; (with_reducible refine (watch_Expired.calls _ _ l0 (wrap64 (aE)) (wrap64 (aJ)) aD _ ?side1 ?side2 A12.out).mono ?_); (case side1 => exact cX_ (Kd.qi_ HR0.out HB.out)); (case side2 => exact HC0.out); rintro e w19 ⟨v111, rfl, ho0, hb⟩; have cB := Zq_.mk (Kd.vj_ (Kd.R_new' (Kd.R_new' ho0 (Kd.R_lt (vX_ aI))) (Kd.R_lt (vX_ aT))) (qb_ (by exact hSet_ HB))); replace aI := Zq_.mk (Kd.R_elder' (vX_ aI) (Kd.R_base ho0) hb); replace aT := Zq_.mk (Kd.R_elder' (vX_ aT) (Kd.R_base ho0) hb); replace aA := kB_ aA hb; replace HB := sB_ HB hb; (try clear hb); (try clear ho0))); try go_wp2_with (first | ((with_reducible refine qc_ (N := 3) rfl ?_); (try (refine qo_ (by rfl) ?_; dsimp only)); refine bE_ 3 #[.int .u16 aE, .int .u16 aJ, .int .u16 aK] 39 ?_; intro aQ hg w13 hbox hb; have aA := Zq_.mk (hbox); have bM := gW_ (w := w) hg (hB_ HB); have bP := gW_ (w := w) hg (hB_ HB); replace HB := sB_ HB hb; clear hb hbox hg) | (go_at_call 8; (with_reducible refine (law22_alive.calls k  true _ A3.out).mono ?_); rintro e w14 ⟨rfl, hb⟩; replace aA := kB_ aA hb; replace HB := sB_ HB hb; (try clear hb)) | (go_at_call 9; (with_reducible refine (law22_out.calls k _ _ l0 0 false _ ?side1 ?side2 A5.out).mono ?_); (case side1 => exact cX_ (Kd.qi_ HR0.out HB.out)); (case side2 => exact HC0.out); rintro e w15 ⟨rfl, hb⟩; replace aA := kB_ aA hb; replace HB := sB_ HB hb; (try clear hb)) | (go_at_call 15; (with_reducible refine (watch_Alive.calls _ _ l0 aR _ ?side1 ?side2 A10.out).mono ?_); (case side1 => exact cX_ (Kd.qi_ HR0.out HB.out)); (case side2 => exact HC0.out); rintro e w16 ⟨v105, rfl, ho0, hb⟩; have aI := Zq_.mk (Kd.vj_ ho0 (qb_ (by exact hSet_ HB))); replace aA := kB_ aA hb; replace HB := sB_ HB hb; (try clear hb); (try clear ho0)) | (go_at_call 17; (with_reducible refine (watch_Down.calls _ _ l0 aM _ ?side1 ?side2 A11.out).mono ?_); (case side1 => exact cX_ (Kd.qi_ HR0.out HB.out)); (case side2 => exact HC0.out); rintro e w17 ⟨v108, rfl, ho0, hb⟩; have aT := Zq_.mk (Kd.vj_ (Kd.R_new' ho0 (Kd.R_lt (vX_ aI))) (qb_ (by exact hSet_ HB))); replace aI := Zq_.mk (Kd.R_elder' (vX_ aI) (Kd.R_base ho0) hb); replace aA := kB_ aA hb; replace HB := sB_ HB hb; (try clear hb); (try clear ho0); obtain ⟨bJ, bI, bH⟩ := c3_ aA; obtain ⟨bG, bF, bE⟩ := f3_ aA) | (go_at_call 18; (with_reducible refine (watch_Expired.calls _ _ l0 (wrap64 (aE)) (wrap64 (aJ)) aD _ ?side1 ?side2 A12.out).mono ?_); (case side1 => exact cX_ (Kd.qi_ HR0.out HB.out)); (case side2 => exact HC0.out); rintro e w19 ⟨v111, rfl, ho0, hb⟩; have cB := Zq_.mk (Kd.vj_ (Kd.R_new' (Kd.R_new' ho0 (Kd.R_lt (vX_ aI))) (Kd.R_lt (vX_ aT))) (qb_ (by exact hSet_ HB))); replace aI := Zq_.mk (Kd.R_elder' (vX_ aI) (Kd.R_base ho0) hb); replace aT := Zq_.mk (Kd.R_elder' (vX_ aT) (Kd.R_base ho0) hb); replace aA := kB_ aA hb; replace HB := sB_ HB hb; (try clear hb); (try clear ho0))))
   go_loopg [9] k (fun kq v9 w' => ∃ (aS : Int), v9 = .int .i64 aS ∧ Zq_ (law22_WatchParts.l0 kq l0 aR aM (wrap64 (aE)) aD aS aE aJ aK = some r) ∧ Zq_ (kq ≤ k) ∧ Zq_ (Kd.R (Kd.int .i64) 3 w' w.heap.size (fun k_ => some k_ ≠ (v108 : Value).ownBlock ∧ some k_ ≠ (v111 : Value).ownBlock) v105 aR) ∧ Zq_ (Kd.R (Kd.int .i64) 3 w' w.heap.size (fun k_ => some k_ ≠ (v105 : Value).ownBlock ∧ some k_ ≠ (v111 : Value).ownBlock) v108 aM) ∧ Zq_ (Kd.R (Kd.int .i64) 3 w' w.heap.size (fun k_ => some k_ ≠ (v105 : Value).ownBlock ∧ some k_ ≠ (v108 : Value).ownBlock) v111 aD) ∧ Zq_ (w'.heap[aQ]? = some (.cells #[.int .u16 aE, .int .u16 aJ, .int .u16 aK] 39 (0, 0))) ∧ Zq_ (Below w.heap.size w w'))
   case atStart => exact ⟨(0), eS_, H', ⟨Nat.le_refl _⟩, ⟨by (with_reducible repeat (first | apply Kd.vd_ | apply Kd.vc_ | apply Kd.R_drew)); exact Kd.R_mono aI.out (fun _ hk => ⟨hk.1.2, hk.2⟩)⟩, ⟨by (with_reducible repeat (first | apply Kd.vd_ | apply Kd.vc_ | apply Kd.R_drew)); exact Kd.R_mono aT.out (fun _ hk => ⟨hk.1.2, hk.2⟩)⟩, ⟨by (with_reducible repeat (first | apply Kd.vd_ | apply Kd.vc_ | apply Kd.R_drew)); exact Kd.R_mono cB.out (fun _ hk => ⟨hk.1.2, hk.2⟩)⟩, ⟨by (with_reducible repeat (first | refine qk_ ?_ _ | refine qh_ ?_ | refine ql_ ?_ _)); exact aA.out⟩, ⟨by exact hSet_ HB⟩⟩
   case round =>
    clear H'
    try clear p2
    try clear c4
    try clear c6
    try clear p6
    try clear bJ
    try clear bI
    try clear bH
    try clear bG
    try clear bF
    try clear bE
    obtain ⟨aS, rfl, HA, HK1, aF, aB, aC, aA, HB⟩ := hrel
    cases gk with
    | zero => exact absurd HA.out (by simp [law22_WatchParts.l0])
    | succ k1 =>
     have H := HA.out; clear HA; simp only [law22_WatchParts.l0] at H
     by_cases c20 : aS < (aD.length : Int)
     ·rw [if_pos c20] at H; have bZ : decide (aS < (aD.length : Int)) = true := decide_eq_true c20; clear c20; have H' := Zq_.mk H; clear H; obtain ⟨cU, cS, eo21⟩ := Kd.ve_ aC.out; subst eo21
      go_wp2
      repeat (go_quiet (fail); try go_wp2)
      go_loopg [10, 11] k1 (fun kq v10 v11 w' => ∃ (bN : Bool) (aO : Int), v10 = .bool bN ∧ v11 = .int .i64 aO ∧ Zq_ (law22_WatchParts.l1 kq l0 aR aM (wrap64 (aE)) aD aS bN aO aE aJ aK = some r) ∧ Zq_ (kq ≤ k1) ∧ Zq_ (Kd.R (Kd.int .i64) 3 w' w.heap.size (fun k_ => some k_ ≠ (v108 : Value).ownBlock ∧ some k_ ≠ ((.slice cU aD.length cS) : Value).ownBlock) v105 aR) ∧ Zq_ (Kd.R (Kd.int .i64) 3 w' w.heap.size (fun k_ => some k_ ≠ (v105 : Value).ownBlock ∧ some k_ ≠ ((.slice cU aD.length cS) : Value).ownBlock) v108 aM) ∧ Zq_ (Kd.R (Kd.int .i64) 3 w' w.heap.size (fun k_ => some k_ ≠ (v105 : Value).ownBlock ∧ some k_ ≠ (v108 : Value).ownBlock) (.slice cU aD.length cS) aD) ∧ Zq_ (w'.heap[aQ]? = some (.cells #[.int .u16 aE, .int .u16 aJ, .int .u16 aK] 39 (0, 0))) ∧ Zq_ (Below w.heap.size w w'))
      case atStart => exact ⟨(false), (0), eS_, eS_, H', ⟨Nat.le_refl _⟩, ⟨by (with_reducible repeat (first | apply Kd.vd_ | apply Kd.vc_ | apply Kd.R_drew)); exact aF.out⟩, ⟨by (with_reducible repeat (first | apply Kd.vd_ | apply Kd.vc_ | apply Kd.R_drew)); exact aB.out⟩, ⟨by (with_reducible repeat (first | apply Kd.vd_ | apply Kd.vc_ | apply Kd.R_drew)); exact aC.out⟩, ⟨by (with_reducible repeat (first | refine qk_ ?_ _ | refine qh_ ?_ | refine ql_ ?_ _)); exact aA.out⟩, ⟨by exact hSet_ HB⟩⟩
      case round =>
       clear H'
       try clear c2
       try clear p2
       try clear c4
       try clear c6
       try clear p6
       try clear c20
       try clear bZ
       try clear bJ
       try clear bI
       try clear bH
       try clear bG
       try clear bF
       try clear bE
       try clear p2
       try clear p6
       obtain ⟨bN, aO, rfl, rfl, HA, HK2, aF, aB, aC, aA, HB⟩ := hrel
       cases gk with
       | zero => exact absurd HA.out (by simp [law22_WatchParts.l1])
       | succ k2 =>
        have H := HA.out; clear HA; simp only [law22_WatchParts.l1] at H
        by_cases c22 : aO < (aM.length : Int)
        ·rw [if_pos c22] at H; have cQ : decide (aO < (aM.length : Int)) = true := decide_eq_true c22; clear c22
         by_cases c23 : bN = true
         ·subst c23
          rw [if_pos rfl] at H; have H' := Zq_.mk H; clear H; obtain ⟨Ao24, co24, eo24⟩ := Kd.ve_ aB.out; subst eo24
          go_wp2
          repeat (go_quiet (fail); try go_wp2)
          go_roundg k2
          case measure => have := HK1.out; have := HK2.out; omega
          case rel => exact ⟨(true), (wrap64 (aO + 1)), eS_, eS_, H', ⟨by have := HK1.out; have := HK2.out; omega⟩, ⟨by (with_reducible repeat (first | apply Kd.vd_ | apply Kd.vc_ | apply Kd.R_drew)); exact aF.out⟩, ⟨by (with_reducible repeat (first | apply Kd.vd_ | apply Kd.vc_ | apply Kd.R_drew)); exact aB.out⟩, ⟨by (with_reducible repeat (first | apply Kd.vd_ | apply Kd.vc_ | apply Kd.R_drew)); exact aC.out⟩, ⟨by (with_reducible repeat (first | refine qk_ ?_ _ | refine qh_ ?_ | refine ql_ ?_ _)); exact aA.out⟩, ⟨by exact hSet_ HB⟩⟩
         ·replace c23 := Bool.eq_false_iff.mpr c23; subst c23
          have H1 : (if 0 ≤ aO then (if 0 ≤ aS then (if aS < (aD.length : Int) then (law22_WatchParts.l1 k2 l0 aR aM (wrap64 (aE)) aD aS ((rd aM aO) == (rd aD aS)) (wrap64 (aO + 1)) aE aJ aK) else (none)) else (none)) else (none)) = some r := by rw [if_neg (show ¬ (false = true) by decide)] at H; exact H
          clear H; have H := H1; clear H1
          by_cases c25 : 0 ≤ aO
          ·rw [if_pos c25] at H; have dF : decide (0 ≤ aO) = true := decide_eq_true c25; clear c25
           by_cases c26 : 0 ≤ aS
           ·rw [if_pos c26] at H; have dE : decide (0 ≤ aS) = true := decide_eq_true c26; clear c26
            by_cases c27 : aS < (aD.length : Int)
            ·rw [if_pos c27] at H; have dD : decide (aS < (aD.length : Int)) = true := decide_eq_true c27; clear c27; have H' := Zq_.mk H; clear H; obtain ⟨Ao28, co28, eo28⟩ := Kd.ve_ aB.out; subst eo28; have cF : 0 ≤ (aO : Int) := dA_; have cD : aO < (aM.length : Int) := dA_; obtain ⟨ad113, e113, cH⟩ := Kd.at_int (Kd.R_reads' aB.out).2.2 aO cF cD; cases e113; replace cF := eq_true cF; replace cD := eq_true cD; have cE : 0 ≤ (aS : Int) := dA_; have cC : aS < (aD.length : Int) := dA_; obtain ⟨ad114, e114, cG⟩ := Kd.at_int (Kd.R_reads' aC.out).2.2 aS cE cC; cases e114; replace cE := eq_true cE; replace cC := eq_true cC
             go_wp2
             repeat (go_quiet (fail); try go_wp2)
             go_roundg k2
             case measure => have := HK1.out; have := HK2.out; omega
             case rel => exact ⟨(((rd aM aO) == (rd aD aS))), (wrap64 (aO + 1)), eS_, eS_, H', ⟨by have := HK1.out; have := HK2.out; omega⟩, ⟨by (with_reducible repeat (first | apply Kd.vd_ | apply Kd.vc_ | apply Kd.R_drew)); exact aF.out⟩, ⟨by (with_reducible repeat (first | apply Kd.vd_ | apply Kd.vc_ | apply Kd.R_drew)); exact aB.out⟩, ⟨by (with_reducible repeat (first | apply Kd.vd_ | apply Kd.vc_ | apply Kd.R_drew)); exact aC.out⟩, ⟨by (with_reducible repeat (first | refine qk_ ?_ _ | refine qh_ ?_ | refine ql_ ?_ _)); exact aA.out⟩, ⟨by exact hSet_ HB⟩⟩
            ·rw [if_neg c27] at H; exact absurd H (by simp)
           ·rw [if_neg c26] at H; exact absurd H (by simp)
          ·rw [if_neg c25] at H; exact absurd H (by simp)
        ·rw [if_neg c22] at H; have cQ : decide (aO < (aM.length : Int)) = false := decide_eq_false c22; clear c22
         by_cases c29 : bN = true
         ·subst c29
          rw [if_pos rfl] at H; have H' := Zq_.mk H; clear H; obtain ⟨Ao30, co30, eo30⟩ := Kd.ve_ aB.out; subst eo30
          go_wp2
          repeat (go_quiet (fail); try go_wp2)
          go_roundg k2
          case measure => have := HK1.out; have := HK2.out; omega
          case rel => exact ⟨(wrap64 (aS + 1)), eS_, H', ⟨by have := HK1.out; have := HK2.out; omega⟩, ⟨by (with_reducible repeat (first | apply Kd.vd_ | apply Kd.vc_ | apply Kd.R_drew)); exact aF.out⟩, ⟨by (with_reducible repeat (first | apply Kd.vd_ | apply Kd.vc_ | apply Kd.R_drew)); exact aB.out⟩, ⟨by (with_reducible repeat (first | apply Kd.vd_ | apply Kd.vc_ | apply Kd.R_drew)); exact aC.out⟩, ⟨by (with_reducible repeat (first | refine qk_ ?_ _ | refine qh_ ?_ | refine ql_ ?_ _)); exact aA.out⟩, ⟨by exact hSet_ HB⟩⟩
         ·replace c29 := Bool.eq_false_iff.mpr c29; subst c29
          have H1 : (some false) = some r := by rw [if_neg (show ¬ (false = true) by decide)] at H; exact H
          clear H; have H := H1; clear H1; obtain rfl := Option.some.inj H; obtain ⟨Ao31, co31, eo31⟩ := Kd.ve_ aB.out; subst eo31
          go_wp2
          repeat (go_quiet (fail); try go_wp2)
          go_ret
          exact ⟨by exact eW_, by exact hSet_ HB⟩
     ·rw [if_neg c20] at H; have bZ : decide (aS < (aD.length : Int)) = false := decide_eq_false c20; clear c20; replace H := ob_ H; obtain ⟨bK, dL, H⟩ := H; (try dsimp only at H); have A32 := Zq_.mk dL; clear dL; have H' := Zq_.mk H; clear H; obtain ⟨bT, bS, eo33⟩ := Kd.ve_ aC.out; subst eo33; obtain ⟨cN, cM, cL⟩ := c3_ aA; obtain ⟨cK, cJ, cI⟩ := f3_ aA
      go_wp2_with (first | (go_at_call 19; (with_reducible refine (watch_Without.calls (fun k_ => k_ < w.heap.size) _ _ l0 (Int.tmod (wrap64 (aK)) 8) bK _ ?side1 A32.out).mono ?_); (case side1 => exact Kd.V_mk HC0.out (Kd.F_below (Kd.C_F k36_heap HR0.out) (by exact hSet_ HB))); rintro e w35 ⟨v116, rfl, ho0, hb⟩; have cA := Zq_.mk (Kd.vi_ (Kd.N_mono (ok' := fun k_ => some k_ ≠ (v105 : Value).ownBlock ∧ some k_ ≠ (v108 : Value).ownBlock ∧ some k_ ≠ (.slice bT aD.length bS : Value).ownBlock ∧ k_ ≠ aQ) ho0 (fun k_ hk_ => ⟨Or.elim hk_ (fun hs_ => fun e_ => Nat.not_le.2 hs_ (Kd.R_base aF.out k_ e_.symm)) (fun hn_ => (Kd.fresh' (Kd.R_lt (vX_ aF)) k_ hn_)), Or.elim hk_ (fun hs_ => fun e_ => Nat.not_le.2 hs_ (Kd.R_base aB.out k_ e_.symm)) (fun hn_ => (Kd.fresh' (Kd.R_lt (vX_ aB)) k_ hn_)), Or.elim hk_ (fun hs_ => fun e_ => Nat.not_le.2 hs_ (Kd.R_base aC.out k_ e_.symm)) (fun hn_ => (Kd.fresh' (Kd.R_lt (vX_ aC)) k_ hn_)), Or.elim hk_ (fun hs_ => fun e_ => Nat.not_le.2 hs_ (by rw [e_]; exact bM.out)) (fun hn_ => (Kd.freshB (g := aQ) (o := .cells #[.int .u16 aE, .int .u16 aJ, .int .u16 aK] 39 (0, 0)) (by exact bK_ aA) k_ hn_))⟩)) (qb_ (by exact hSet_ HB))); replace aF := vV_ Kd.vh_ aF hb; replace aB := vV_ Kd.vh_ aB hb; replace aC := vV_ Kd.vh_ aC hb; replace aA := kB_ aA hb; replace HB := sB_ HB hb; (try clear hb); (try clear ho0)))
      repeat (go_quiet (first | (go_at_call 19; (with_reducible refine (watch_Without.calls (fun k_ => k_ < w.heap.size) _ _ l0 (Int.tmod (wrap64 (aK)) 8) bK _ ?side1 A32.out).mono ?_); (case side1 => exact Kd.V_mk HC0.out (Kd.F_below (Kd.C_F k36_heap HR0.out) (by exact hSet_ HB))); rintro e w35 ⟨v116, rfl, ho0, hb⟩; have cA := Zq_.mk (Kd.vi_ (Kd.N_mono (ok' := fun k_ => some k_ ≠ (v105 : Value).ownBlock ∧ some k_ ≠ (v108 : Value).ownBlock ∧ some k_ ≠ (.slice bT aD.length bS : Value).ownBlock ∧ k_ ≠ aQ) ho0 (fun k_ hk_ => ⟨Or.elim hk_ (fun hs_ => fun e_ => Nat.not_le.2 hs_ (Kd.R_base aF.out k_ e_.symm)) (fun hn_ => (Kd.fresh' (Kd.R_lt (vX_ aF)) k_ hn_)), Or.elim hk_ (fun hs_ => fun e_ => Nat.not_le.2 hs_ (Kd.R_base aB.out k_ e_.symm)) (fun hn_ => (Kd.fresh' (Kd.R_lt (vX_ aB)) k_ hn_)), Or.elim hk_ (fun hs_ => fun e_ => Nat.not_le.2 hs_ (Kd.R_base aC.out k_ e_.symm)) (fun hn_ => (Kd.fresh' (Kd.R_lt (vX_ aC)) k_ hn_)), Or.elim hk_ (fun hs_ => fun e_ => Nat.not_le.2 hs_ (by rw [e_]; exact bM.out)) (fun hn_ => (Kd.freshB (g := aQ) (o := .cells #[.int .u16 aE, .int .u16 aJ, .int .u16 aK] 39 (0, 0)) (by exact bK_ aA) k_ hn_))⟩)) (qb_ (by exact hSet_ HB))); replace aF := vV_ Kd.vh_ aF hb; replace aB := vV_ Kd.vh_ aB hb; replace aC := vV_ Kd.vh_ aC hb; replace aA := kB_ aA hb; replace HB := sB_ HB hb; (try clear hb); (try clear ho0))); try go_wp2_with (first | (go_at_call 19; (with_reducible refine (watch_Without.calls (fun k_ => k_ < w.heap.size) _ _ l0 (Int.tmod (wrap64 (aK)) 8) bK _ ?side1 A32.out).mono ?_); (case side1 => exact Kd.V_mk HC0.out (Kd.F_below (Kd.C_F k36_heap HR0.out) (by exact hSet_ HB))); rintro e w35 ⟨v116, rfl, ho0, hb⟩; have cA := Zq_.mk (Kd.vi_ (Kd.N_mono (ok' := fun k_ => some k_ ≠ (v105 : Value).ownBlock ∧ some k_ ≠ (v108 : Value).ownBlock ∧ some k_ ≠ (.slice bT aD.length bS : Value).ownBlock ∧ k_ ≠ aQ) ho0 (fun k_ hk_ => ⟨Or.elim hk_ (fun hs_ => fun e_ => Nat.not_le.2 hs_ (Kd.R_base aF.out k_ e_.symm)) (fun hn_ => (Kd.fresh' (Kd.R_lt (vX_ aF)) k_ hn_)), Or.elim hk_ (fun hs_ => fun e_ => Nat.not_le.2 hs_ (Kd.R_base aB.out k_ e_.symm)) (fun hn_ => (Kd.fresh' (Kd.R_lt (vX_ aB)) k_ hn_)), Or.elim hk_ (fun hs_ => fun e_ => Nat.not_le.2 hs_ (Kd.R_base aC.out k_ e_.symm)) (fun hn_ => (Kd.fresh' (Kd.R_lt (vX_ aC)) k_ hn_)), Or.elim hk_ (fun hs_ => fun e_ => Nat.not_le.2 hs_ (by rw [e_]; exact bM.out)) (fun hn_ => (Kd.freshB (g := aQ) (o := .cells #[.int .u16 aE, .int .u16 aJ, .int .u16 aK] 39 (0, 0)) (by exact bK_ aA) k_ hn_))⟩)) (qb_ (by exact hSet_ HB))); replace aF := vV_ Kd.vh_ aF hb; replace aB := vV_ Kd.vh_ aB hb; replace aC := vV_ Kd.vh_ aC hb; replace aA := kB_ aA hb; replace HB := sB_ HB hb; (try clear hb); (try clear ho0))))
      go_loopg [13, 14] k1 (fun kq v13 v14 w' => ∃ (bL : Int) (aH : Int), v13 = .int .i64 bL ∧ v14 = .int .i64 aH ∧ Zq_ (law22_WatchParts.l2 kq l0 aR aM (wrap64 (aE)) aD bK bL aH aE aJ aK = some r) ∧ Zq_ (kq ≤ k1) ∧ Zq_ (Kd.R (Kd.int .i64) 3 w' w.heap.size (fun k_ => some k_ ≠ (v108 : Value).ownBlock ∧ some k_ ≠ ((.slice bT aD.length bS) : Value).ownBlock) v105 aR) ∧ Zq_ (Kd.R (Kd.int .i64) 3 w' w.heap.size (fun k_ => some k_ ≠ (v105 : Value).ownBlock ∧ some k_ ≠ ((.slice bT aD.length bS) : Value).ownBlock) v108 aM) ∧ Zq_ (Kd.R (Kd.int .i64) 3 w' w.heap.size (fun k_ => some k_ ≠ (v105 : Value).ownBlock ∧ some k_ ≠ (v108 : Value).ownBlock) (.slice bT aD.length bS) aD) ∧ Zq_ (Kd.N k36 36 w' w.heap.size (fun k_ => some k_ ≠ (v105 : Value).ownBlock ∧ some k_ ≠ (v108 : Value).ownBlock ∧ some k_ ≠ ((.slice bT aD.length bS) : Value).ownBlock ∧ k_ ≠ aQ) v116 bK) ∧ Zq_ (w'.heap[aQ]? = some (.cells #[.int .u16 aE, .int .u16 aJ, .int .u16 aK] 39 (0, 0))) ∧ Zq_ (Below w.heap.size w w'))
      case atStart => exact ⟨(0), (0), eS_, eS_, H', ⟨Nat.le_refl _⟩, ⟨by (with_reducible repeat (first | apply Kd.vd_ | apply Kd.vc_ | apply Kd.R_drew)); exact aF.out⟩, ⟨by (with_reducible repeat (first | apply Kd.vd_ | apply Kd.vc_ | apply Kd.R_drew)); exact aB.out⟩, ⟨by (with_reducible repeat (first | apply Kd.vd_ | apply Kd.vc_ | apply Kd.R_drew)); exact aC.out⟩, ⟨by (with_reducible repeat (first | apply Kd.qz_ | apply Kd.qy_ | apply Kd.N_drew)); exact cA.out⟩, ⟨by (with_reducible repeat (first | refine qk_ ?_ _ | refine qh_ ?_ | refine ql_ ?_ _)); exact aA.out⟩, ⟨by exact hSet_ HB⟩⟩
      case round =>
       clear H'
       try clear p1
       try clear q1
       try clear hx1
       try clear c2
       try clear p2
       try clear c4
       try clear c6
       try clear p6
       try clear p11
       try clear q11
       try clear hx11
       try clear c20
       try clear bZ
       try clear c22
       try clear cQ
       try clear c23
       try clear c25
       try clear dF
       try clear c26
       try clear dE
       try clear c27
       try clear dD
       try clear c29
       try clear bJ
       try clear bI
       try clear bH
       try clear cN
       try clear cM
       try clear cL
       try clear bG
       try clear bF
       try clear bE
       try clear cK
       try clear cJ
       try clear cI
       try clear cH
       try clear cG
       try clear cF
       try clear cE
       try clear p2
       try clear p6
       try clear cD
       try clear cC
       obtain ⟨bL, aH, rfl, rfl, HA, HK2, aF, aB, aC, aG, aA, HB⟩ := hrel
       cases gk with
       | zero => exact absurd HA.out (by simp [law22_WatchParts.l2])
       | succ k2 =>
        have H := HA.out; clear HA; simp only [law22_WatchParts.l2] at H
        by_cases c36 : aH < (l0.length : Int)
        ·rw [if_pos c36] at H; have dC : decide (aH < (l0.length : Int)) = true := decide_eq_true c36; clear c36
         by_cases c37 : 0 ≤ aH
         ·rw [if_pos c37] at H; have c37b0 : decide (0 ≤ aH) = true := decide_eq_true c37; clear c37
          by_cases c38 : ((rd_T36 l0 aH).f0) = (Int.tmod (wrap64 (aK)) 8)
          ·rw [if_pos c38] at H; have dB : (((rd_T36 l0 aH).f0) == (Int.tmod (wrap64 (aK)) 8)) = true := beq_iff_eq.mpr c38; have dA : (((rd_T36 l0 aH).f0) != (Int.tmod (wrap64 (aK)) 8)) = false := bne_eq_false_iff_eq.mpr c38; clear c38; have H' := Zq_.mk H; clear H; have bR : 0 ≤ (aH : Int) := dA_; have bQ : aH < (l0.length : Int) := dA_; obtain ⟨dG, cV, cT, cR, bB, bA, aZ, aY, aX, aW, aV, bC, bD⟩ := at_T36 HR0.out aH bR bQ; cases cR; replace bB := hC_ HB bB; replace bA := hC_ HB bA; replace aZ := hC_ HB aZ; replace aY := hC_ HB aY; replace aX := hC_ HB aX; replace aW := hC_ HB aW; replace aV := hC_ HB aV; have cO := Zq_.mk bD; have cP := Zq_.mk bC; clear bD bC; replace bR := eq_true bR; replace bQ := eq_true bQ; obtain ⟨hcz39_0, hcz39_1, hcz39_2⟩ := c3_ aA; obtain ⟨hfz39_0, hfz39_1, hfz39_2⟩ := f3_ aA
           go_wp2
           repeat (go_quiet (fail); try go_wp2)
           go_roundg k2
           case measure => have := HK1.out; have := HK2.out; omega
           case rel => exact ⟨(wrap64 (bL + 1)), (wrap64 (aH + 1)), eS_, eS_, H', ⟨by have := HK1.out; have := HK2.out; omega⟩, ⟨by (with_reducible repeat (first | apply Kd.vd_ | apply Kd.vc_ | apply Kd.R_drew)); exact aF.out⟩, ⟨by (with_reducible repeat (first | apply Kd.vd_ | apply Kd.vc_ | apply Kd.R_drew)); exact aB.out⟩, ⟨by (with_reducible repeat (first | apply Kd.vd_ | apply Kd.vc_ | apply Kd.R_drew)); exact aC.out⟩, ⟨by (with_reducible repeat (first | apply Kd.qz_ | apply Kd.qy_ | apply Kd.N_drew)); exact aG.out⟩, ⟨by (with_reducible repeat (first | refine qk_ ?_ _ | refine qh_ ?_ | refine ql_ ?_ _)); exact aA.out⟩, ⟨by exact hSet_ HB⟩⟩
          ·rw [if_neg c38] at H; have dB : (((rd_T36 l0 aH).f0) == (Int.tmod (wrap64 (aK)) 8)) = false := beq_eq_false_iff_ne.mpr c38; have dA : (((rd_T36 l0 aH).f0) != (Int.tmod (wrap64 (aK)) 8)) = true := bne_iff_ne.mpr c38; have H' := Zq_.mk H; clear H; have bR : 0 ≤ (aH : Int) := dA_; have bQ : aH < (l0.length : Int) := dA_; obtain ⟨dG, cV, cT, cR, bB, bA, aZ, aY, aX, aW, aV, bC, bD⟩ := at_T36 HR0.out aH bR bQ; cases cR; replace bB := hC_ HB bB; replace bA := hC_ HB bA; replace aZ := hC_ HB aZ; replace aY := hC_ HB aY; replace aX := hC_ HB aX; replace aW := hC_ HB aW; replace aV := hC_ HB aV; have cO := Zq_.mk bD; have cP := Zq_.mk bC; clear bD bC; replace bR := eq_true bR; replace bQ := eq_true bQ; obtain ⟨hcz40_0, hcz40_1, hcz40_2⟩ := c3_ aA; obtain ⟨hfz40_0, hfz40_1, hfz40_2⟩ := f3_ aA
           go_wp2
           repeat (go_quiet (fail); try go_wp2)
           go_roundg k2
           case measure => have := HK1.out; have := HK2.out; omega
           case rel => exact ⟨(bL), (wrap64 (aH + 1)), eS_, eS_, H', ⟨by have := HK1.out; have := HK2.out; omega⟩, ⟨by (with_reducible repeat (first | apply Kd.vd_ | apply Kd.vc_ | apply Kd.R_drew)); exact aF.out⟩, ⟨by (with_reducible repeat (first | apply Kd.vd_ | apply Kd.vc_ | apply Kd.R_drew)); exact aB.out⟩, ⟨by (with_reducible repeat (first | apply Kd.vd_ | apply Kd.vc_ | apply Kd.R_drew)); exact aC.out⟩, ⟨by (with_reducible repeat (first | apply Kd.qz_ | apply Kd.qy_ | apply Kd.N_drew)); exact aG.out⟩, ⟨by (with_reducible repeat (first | refine qk_ ?_ _ | refine qh_ ?_ | refine ql_ ?_ _)); exact aA.out⟩, ⟨by exact hSet_ HB⟩⟩
         ·rw [if_neg c37] at H; exact absurd H (by simp)
        ·rw [if_neg c36] at H; have dC : decide (aH < (l0.length : Int)) = false := decide_eq_false c36; clear c36
         by_cases c41 : (wrap64 ((aR.length : Int) + (aM.length : Int))) = (l0.length : Int)
         ·rw [if_pos c41] at H; have cZ : ((wrap64 ((aR.length : Int) + (aM.length : Int))) == (l0.length : Int)) = true := beq_iff_eq.mpr c41; have cY : ((wrap64 ((aR.length : Int) + (aM.length : Int))) != (l0.length : Int)) = false := bne_eq_false_iff_eq.mpr c41; clear c41; replace H := ob_ H; obtain ⟨bO, dK, H⟩ := H; (try dsimp only at H); have A42 := Zq_.mk dK; clear dK
          by_cases c43 : (aD.length : Int) ≤ (bO.length : Int)
          ·rw [if_pos c43] at H; have c43b0 : decide ((aD.length : Int) ≤ (bO.length : Int)) = true := decide_eq_true c43; have c43b1 : decide (aD.length ≤ bO.length) = true := decide_eq_true (Int.ofNat_le.mp c43); clear c43
           by_cases c44 : (bK.length : Int) = (wrap64 ((l0.length : Int) - bL))
           ·rw [if_pos c44] at H; have c44b0 : ((bK.length : Int) == (wrap64 ((l0.length : Int) - bL))) = true := beq_iff_eq.mpr c44; have c44b1 : ((bK.length : Int) != (wrap64 ((l0.length : Int) - bL))) = false := bne_eq_false_iff_eq.mpr c44; clear c44; replace H := ob_ H; obtain ⟨bU, dJ, H⟩ := H; (try dsimp only at H); have A45 := Zq_.mk dJ; clear dJ; obtain rfl := Option.some.inj H; obtain ⟨Ao46, co46, eo46⟩ := Kd.ve_ aF.out; subst eo46; obtain ⟨Ao47, co47, eo47⟩ := Kd.ve_ aB.out; subst eo47; obtain ⟨hcz48_0, hcz48_1, hcz48_2⟩ := c3_ aA; obtain ⟨hfz48_0, hfz48_1, hfz48_2⟩ := f3_ aA
            go_wp2_with (first | (go_at_call 18; (with_reducible refine (watch_Expired.calls _ _ l0 (wrap64 ((wrap64 (aE)) + 1)) (wrap64 (aJ)) bO _ ?side1 ?side2 A42.out).mono ?_); (case side1 => exact cX_ (Kd.qi_ HR0.out HB.out)); (case side2 => exact HC0.out); rintro e w49 ⟨v120, rfl, ho0, hb⟩; replace aG := Zq_.mk (Kd.N_elder' (vX_ aG) (Kd.R_base ho0) hb); have aU := Zq_.mk (Kd.vj_ (Kd.R_new' (Kd.R_new' (Kd.R_new' ho0 (Kd.R_lt (vX_ aF))) (Kd.R_lt (vX_ aB))) (Kd.R_lt (vX_ aC))) (qb_ (by exact hSet_ HB))); replace aF := Zq_.mk (Kd.R_elder' (vX_ aF) (Kd.R_base ho0) hb); replace aB := Zq_.mk (Kd.R_elder' (vX_ aB) (Kd.R_base ho0) hb); replace aC := Zq_.mk (Kd.R_elder' (vX_ aC) (Kd.R_base ho0) hb); replace aA := kB_ aA hb; replace HB := sB_ HB hb; (try clear hb); (try clear ho0); obtain ⟨dI, cX, bY⟩ := Kd.ve_ aU.out; subst bY; obtain ⟨dH, cW, bX⟩ := Kd.vp_ aG.out; subst bX) | (go_at_call 16; (with_reducible refine (watch_Right.calls k2 _ _ bK bU _ ?side1 ?side2 A45.out).mono ?_); (case side1 => exact cX_ ((Kd.N_reads' aG.out).2.2)); (case side2 => exact (Kd.N_reads' aG.out).2.1); rintro e w52 ⟨rfl, hb⟩; replace aF := vV_ Kd.vh_ aF hb; replace aB := vV_ Kd.vh_ aB hb; replace aC := vV_ Kd.vh_ aC hb; replace aG := vV_ Kd.va_ aG hb; replace aU := vV_ Kd.vh_ aU hb; replace aA := kB_ aA hb; replace HB := sB_ HB hb; (try clear hb)))
            repeat (go_quiet (first | (go_at_call 18; (with_reducible refine (watch_Expired.calls _ _ l0 (wrap64 ((wrap64 (aE)) + 1)) (wrap64 (aJ)) bO _ ?side1 ?side2 A42.out).mono ?_); (case side1 => exact cX_ (Kd.qi_ HR0.out HB.out)); (case side2 => exact HC0.out); rintro e w49 ⟨v120, rfl, ho0, hb⟩; replace aG := Zq_.mk (Kd.N_elder' (vX_ aG) (Kd.R_base ho0) hb); have aU := Zq_.mk (Kd.vj_ (Kd.R_new' (Kd.R_new' (Kd.R_new' ho0 (Kd.R_lt (vX_ aF))) (Kd.R_lt (vX_ aB))) (Kd.R_lt (vX_ aC))) (qb_ (by exact hSet_ HB))); replace aF := Zq_.mk (Kd.R_elder' (vX_ aF) (Kd.R_base ho0) hb); replace aB := Zq_.mk (Kd.R_elder' (vX_ aB) (Kd.R_base ho0) hb); replace aC := Zq_.mk (Kd.R_elder' (vX_ aC) (Kd.R_base ho0) hb); replace aA := kB_ aA hb; replace HB := sB_ HB hb; (try clear hb); (try clear ho0); obtain ⟨dI, cX, bY⟩ := Kd.ve_ aU.out; subst bY; obtain ⟨dH, cW, bX⟩ := Kd.vp_ aG.out; subst bX) | (go_at_call 16; (with_reducible refine (watch_Right.calls k2 _ _ bK bU _ ?side1 ?side2 A45.out).mono ?_); (case side1 => exact cX_ ((Kd.N_reads' aG.out).2.2)); (case side2 => exact (Kd.N_reads' aG.out).2.1); rintro e w52 ⟨rfl, hb⟩; replace aF := vV_ Kd.vh_ aF hb; replace aB := vV_ Kd.vh_ aB hb; replace aC := vV_ Kd.vh_ aC hb; replace aG := vV_ Kd.va_ aG hb; replace aU := vV_ Kd.vh_ aU hb; replace aA := kB_ aA hb; replace HB := sB_ HB hb; (try clear hb))); try go_wp2_with (first | (go_at_call 18; (with_reducible refine (watch_Expired.calls _ _ l0 (wrap64 ((wrap64 (aE)) + 1)) (wrap64 (aJ)) bO _ ?side1 ?side2 A42.out).mono ?_); (case side1 => exact cX_ (Kd.qi_ HR0.out HB.out)); (case side2 => exact HC0.out); rintro e w49 ⟨v120, rfl, ho0, hb⟩; replace aG := Zq_.mk (Kd.N_elder' (vX_ aG) (Kd.R_base ho0) hb); have aU := Zq_.mk (Kd.vj_ (Kd.R_new' (Kd.R_new' (Kd.R_new' ho0 (Kd.R_lt (vX_ aF))) (Kd.R_lt (vX_ aB))) (Kd.R_lt (vX_ aC))) (qb_ (by exact hSet_ HB))); replace aF := Zq_.mk (Kd.R_elder' (vX_ aF) (Kd.R_base ho0) hb); replace aB := Zq_.mk (Kd.R_elder' (vX_ aB) (Kd.R_base ho0) hb); replace aC := Zq_.mk (Kd.R_elder' (vX_ aC) (Kd.R_base ho0) hb); replace aA := kB_ aA hb; replace HB := sB_ HB hb; (try clear hb); (try clear ho0); obtain ⟨dI, cX, bY⟩ := Kd.ve_ aU.out; subst bY; obtain ⟨dH, cW, bX⟩ := Kd.vp_ aG.out; subst bX) | (go_at_call 16; (with_reducible refine (watch_Right.calls k2 _ _ bK bU _ ?side1 ?side2 A45.out).mono ?_); (case side1 => exact cX_ ((Kd.N_reads' aG.out).2.2)); (case side2 => exact (Kd.N_reads' aG.out).2.1); rintro e w52 ⟨rfl, hb⟩; replace aF := vV_ Kd.vh_ aF hb; replace aB := vV_ Kd.vh_ aB hb; replace aC := vV_ Kd.vh_ aC hb; replace aG := vV_ Kd.va_ aG hb; replace aU := vV_ Kd.vh_ aU hb; replace aA := kB_ aA hb; replace HB := sB_ HB hb; (try clear hb))))
            go_ret
            exact ⟨by exact eW_, by exact hSet_ HB⟩
           ·rw [if_neg c44] at H; exact absurd ((Option.some.inj H).trans HRT.out) (by decide)
          ·rw [if_neg c43] at H; exact absurd ((Option.some.inj H).trans HRT.out) (by decide)
         ·rw [if_neg c41] at H; have cZ : ((wrap64 ((aR.length : Int) + (aM.length : Int))) == (l0.length : Int)) = false := beq_eq_false_iff_ne.mpr c41; have cY : ((wrap64 ((aR.length : Int) + (aM.length : Int))) != (l0.length : Int)) = true := bne_iff_ne.mpr c41; obtain rfl := Option.some.inj H; obtain ⟨Ao64, co64, eo64⟩ := Kd.ve_ aF.out; subst eo64; obtain ⟨Ao65, co65, eo65⟩ := Kd.ve_ aB.out; subst eo65
          go_wp2
          repeat (go_quiet (fail); try go_wp2)
          go_ret
          exact ⟨by exact eW_, by exact hSet_ HB⟩
 ·rw [if_neg c4] at H; exact absurd ((Option.some.inj H).trans HRT.out) (by decide)
end Go.Proofs.Ytoghjpoblbdnpaa.P

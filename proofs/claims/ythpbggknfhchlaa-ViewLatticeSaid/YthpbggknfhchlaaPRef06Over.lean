/- What this function of the program comes to, and that the machine's call does it. No condition. -/
import Derived.Test.YthpbggknfhchlaaPRef06Same
import Derived.Test.YthpbggknfhchlaaPRef06Join
namespace Go.Proofs.Ythpbggknfhchlaa.P
set_option maxHeartbeats 8000000
set_option maxRecDepth 100000
open Go.RowKit Go.Proofs.YthpbggknfhchlaaW.PrintWords Go.Proofs.YthpbggknfhchlaaW.PrintLast Go.Proofs.YthpbggknfhchlaaW.PrintMore
attribute [local go_sem] max2_int min2_int max_two min_two ve_ vd_ max_four min_four Go.Proofs.YthpbggknfhchlaaW.Hw.string_gtr
set_option linter.unusedVariables false
set_option linter.unusedSimpArgs false
def ref06_Over.f (k : Nat) (l0 : List (S41)) (l1 : List (S41)) : Option (Bool) := (ref06_Join.f k l0 l1).bind fun t101 => ((ref06_Same.f k t101 l0).bind fun t104 => (some t104))
theorem ref06_Over.mono : ∀ a0 a1 k, LeO (ref06_Over.f k a0 a1) (ref06_Over.f (k + 1) a0 a1) := by
 intro a0 a1 k
 unfold ref06_Over.f
 repeat' first
   | (with_reducible exact ref06_Join.mono _ _ _)
   | (with_reducible exact ref06_Same.mono _ _ _)
   | (with_reducible exact LeO.refl _)
   | (with_reducible exact LeO.none _)
   | (with_reducible refine LeO.ite ?_ ?_)
   | (with_reducible refine LeO.bind ?_ (fun _ => ?_))
   | exact ref06_Join.mono _ _ _
   | exact ref06_Same.mono _ _ _
   | exact LeO.none _
   | refine LeO.ite ?_ ?_
   | refine LeO.bind ?_ (fun _ => ?_)
theorem ref06_Over.calls (k : Nat) (A0 : Option Addr) (c0 : Nat) (l0 : List (S41)) (A1 : Option Addr) (c1 : Nat) (l1 : List (S41)) (r : Bool) (w : World) (hr0 : Kd.C k41 w A0 l0.length l0) (hc0 : l0.length ≤ c0) (hr1 : Kd.C k41 w A1 l1.length l1) (hc1 : l1.length ≤ c1) (h : ref06_Over.f k l0 l1 = some r) :
  Calls Try.prog 23 #[.slice A0 l0.length c0, .slice A1 l1.length c1] w fun e w' => e = .returned (.bool r) ∧ Below w.heap.size w w' := by
 have HR0 := Zq_.mk hr0; have HC0 := Zq_.mk hc0; clear hr0 hc0; have HR1 := Zq_.mk hr1; have HC1 := Zq_.mk hc1; clear hr1 hc1; have HB := Zq_.mk (Below.refl w.heap.size w); have H : ((ref06_Join.f k l0 l1).bind fun t101 => ((ref06_Same.f k t101 l0).bind fun t104 => (some t104))) = some r := h; clear h; replace H := ob_ H; obtain ⟨t101, A30, H⟩ := H; replace H : ((ref06_Same.f k t101 l0).bind fun t104 => (some t104)) = some r := H; have A3 := Zq_.mk A30; clear A30; replace H := ob_ H; obtain ⟨t104, A40, H⟩ := H; replace H : (some t104) = some r := H; have A4 := Zq_.mk A40; clear A40; obtain rfl := Option.some.inj H
 go_enter Try.func23, Try.ntmps23
 go_wp2_with (first | ((with_reducible refine qz_ (f := 21) rfl ?_); refine goesL_ (some 7) rfl rfl Try.func21 (by kernel_rfl) rfl #[.slice A0 l0.length c0, .slice A1 l1.length c1] rfl (by (try simp only [List.map_toArray, List.map_cons, List.map_nil]); first | done | rfl | (simp only [List.length_drop, List.length_take]; rfl)) ?_; (with_reducible refine (ref06_Join.calls k _ _ l0 _ _ l1 t101 _ ?side1 ?side2 ?side3 ?side4 A3.out).mono ?_); (case side1 => exact cX_ HR0.out); (case side2 => exact HC0.out); (case side3 => exact cX_ HR1.out); (case side4 => exact HC1.out); rintro e w5 ⟨v102, rfl, ho0, hb⟩; refine ⟨_, rfl, ?_⟩; have HO103 := Zq_.mk (Kd.N_lower (Kd.N_mono (ok' := fun k_ => True) ho0 (fun k_ hk_ => trivial)) (qi_ (hB_ HB))); replace HB := Zq_.mk (qm_ (hB_ HB) hb); (try clear hb); (try clear ho0); obtain ⟨Ao6, co6, eo6⟩ := Kd.N_slice HO103.out; subst eo6) | ((with_reducible refine qz_ (f := 16) rfl ?_); refine goesL_ (some 9) rfl rfl Try.func16 (by kernel_rfl) rfl #[.slice Ao6 t101.length co6, .slice A0 l0.length c0] rfl (by (try simp only [List.map_toArray, List.map_cons, List.map_nil]); first | done | rfl | (simp only [List.length_drop, List.length_take]; rfl)) ?_; (with_reducible refine (ref06_Same.calls k _ _ t101 _ _ l0 t104 _ ?side1 ?side2 ?side3 ?side4 A4.out).mono ?_); (case side1 => exact cX_ ((Kd.N_reads' HO103.out).2.2)); (case side2 => exact (Kd.N_reads' HO103.out).2.1); (case side3 => exact cX_ (Kd.vb_ HR0.out HB.out)); (case side4 => exact HC0.out); rintro e w7 ⟨rfl, hb⟩; refine ⟨_, rfl, ?_⟩; replace HO103 := vV_ Kd.vc_ HO103 hb; replace HB := Zq_.mk (qm_ (hB_ HB) hb); (try clear hb)))
 go_ret
 exact ⟨by first | rfl | (simp [errW_none, errW_some] <;> rfl) | (simp [*, errW_none, errW_some] <;> rfl), hB_ HB⟩
end Go.Proofs.Ythpbggknfhchlaa.P

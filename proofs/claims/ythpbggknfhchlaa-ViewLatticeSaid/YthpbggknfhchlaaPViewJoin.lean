/- What this function of the program comes to, and that the machine's call does it. No condition. -/
import Derived.Test.YthpbggknfhchlaaPViewCopy
import Derived.Test.YthpbggknfhchlaaPViewMerge
namespace Go.Proofs.Ythpbggknfhchlaa.P
set_option maxHeartbeats 8000000
set_option maxRecDepth 100000
open Go.RowKit Go.Proofs.YthpbggknfhchlaaW.PrintWords Go.Proofs.YthpbggknfhchlaaW.PrintLast Go.Proofs.YthpbggknfhchlaaW.PrintMore
attribute [local go_sem] max2_int min2_int max_two min_two ve_ vd_ max_four min_four Go.Proofs.YthpbggknfhchlaaW.Hw.string_gtr
set_option linter.unusedVariables false
set_option linter.unusedSimpArgs false
def view_Join.f (k : Nat) (l0 : List (S41)) (l1 : List (S41)) : Option ((List (S41))) := (view_Copy.f k l0).bind fun t101 => ((view_Copy.f k l1).bind fun t104 => ((view_merge.f k t101 t104).bind fun t107 => (some t107)))
theorem view_Join.mono : ∀ a0 a1 k, LeO (view_Join.f k a0 a1) (view_Join.f (k + 1) a0 a1) := by
 intro a0 a1 k
 unfold view_Join.f
 repeat' first
   | (with_reducible exact view_Copy.mono _ _)
   | (with_reducible exact view_merge.mono _ _ _)
   | (with_reducible exact LeO.refl _)
   | (with_reducible exact LeO.none _)
   | (with_reducible refine LeO.ite ?_ ?_)
   | (with_reducible refine LeO.bind ?_ (fun _ => ?_))
   | exact view_Copy.mono _ _
   | exact view_merge.mono _ _ _
   | exact LeO.none _
   | refine LeO.ite ?_ ?_
   | refine LeO.bind ?_ (fun _ => ?_)
theorem view_Join.calls (k : Nat) (A0 : Option Addr) (c0 : Nat) (l0 : List (S41)) (A1 : Option Addr) (c1 : Nat) (l1 : List (S41)) (r : List (S41)) (w : World) (hr0 : Kd.C k41 w A0 l0.length l0) (hc0 : l0.length ≤ c0) (hr1 : Kd.C k41 w A1 l1.length l1) (hc1 : l1.length ≤ c1) (h : view_Join.f k l0 l1 = some r) :
  Calls Try.prog 20 #[.slice A0 l0.length c0, .slice A1 l1.length c1] w fun e w' => ∃ v0_ : Value, e = .returned (v0_) ∧ Kd.V k41 41 w' w.heap.size (fun k_ => (w.heap.size ≤ k_)) v0_ r ∧ Below w.heap.size w w' := by
 have HR0 := Zq_.mk hr0; have HC0 := Zq_.mk hc0; clear hr0 hc0; have HR1 := Zq_.mk hr1; have HC1 := Zq_.mk hc1; clear hr1 hc1; have HB := Zq_.mk (Below.refl w.heap.size w); have H : ((view_Copy.f k l0).bind fun t101 => ((view_Copy.f k l1).bind fun t104 => ((view_merge.f k t101 t104).bind fun t107 => (some t107)))) = some r := h; clear h; replace H := ob_ H; obtain ⟨t101, A30, H⟩ := H; replace H : ((view_Copy.f k l1).bind fun t104 => ((view_merge.f k t101 t104).bind fun t107 => (some t107))) = some r := H; have A3 := Zq_.mk A30; clear A30; replace H := ob_ H; obtain ⟨t104, A40, H⟩ := H; replace H : ((view_merge.f k t101 t104).bind fun t107 => (some t107)) = some r := H; have A4 := Zq_.mk A40; clear A40; replace H := ob_ H; obtain ⟨t107, A50, H⟩ := H; replace H : (some t107) = some r := H; have A5 := Zq_.mk A50; clear A50; obtain rfl := Option.some.inj H
 go_enter Try.func20, Try.ntmps20
 go_wp2_with (first | ((with_reducible refine qz_ (f := 30) rfl ?_); refine goesL_ (some 6) rfl rfl Try.func30 (by kernel_rfl) rfl #[.slice A0 l0.length c0] rfl (by (try simp only [List.map_toArray, List.map_cons, List.map_nil]); first | done | rfl | (simp only [List.length_drop, List.length_take]; rfl)) ?_; (with_reducible refine (view_Copy.calls k _ _ l0 t101 _ ?side1 ?side2 A3.out).mono ?_); (case side1 => exact cX_ HR0.out); (case side2 => exact HC0.out); rintro e w6 ⟨v102, rfl, ho0, hb⟩; refine ⟨_, rfl, ?_⟩; have HO103 := Zq_.mk (Kd.S_lower (Kd.S_newM (M := fun k_ => (w.heap.size ≤ k_)) ho0 (qi_ (hB_ HB)) (fun k_ h_ => h_)) (qi_ (hB_ HB))); replace HB := Zq_.mk (qm_ (hB_ HB) hb); (try clear hb); (try clear ho0)) | ((with_reducible refine qz_ (f := 30) rfl ?_); refine goesL_ (some 8) rfl rfl Try.func30 (by kernel_rfl) rfl #[.slice A1 l1.length c1] rfl (by (try simp only [List.map_toArray, List.map_cons, List.map_nil]); first | done | rfl | (simp only [List.length_drop, List.length_take]; rfl)) ?_; (with_reducible refine (view_Copy.calls k _ _ l1 t104 _ ?side1 ?side2 A4.out).mono ?_); (case side1 => exact cX_ (Kd.vb_ HR1.out HB.out)); (case side2 => exact HC1.out); rintro e w7 ⟨v105, rfl, ho0, hb⟩; refine ⟨_, rfl, ?_⟩; have HO106 := Zq_.mk (Kd.S_lower (Kd.S_new' (Kd.S_newM (M := fun k_ => (w.heap.size ≤ k_)) ho0 (qi_ (hB_ HB)) (fun k_ h_ => h_)) (Kd.S_lt (vX_ HO103))) (qi_ (hB_ HB))); replace HO103 := Zq_.mk (Kd.S_elder' (vX_ HO103) (Kd.S_base ho0) hb); replace HB := Zq_.mk (qm_ (hB_ HB) hb); (try clear hb); (try clear ho0); obtain ⟨Ao8, co8, eo8⟩ := Kd.S_slice HO103.out; subst eo8; obtain ⟨Ao9, co9, eo9⟩ := Kd.S_slice HO106.out; subst eo9) | ((with_reducible refine qz_ (f := 36) rfl ?_); refine goesL_ (some 9) rfl rfl Try.func36 (by kernel_rfl) rfl #[.slice Ao8 t101.length co8, .slice Ao9 t104.length co9] rfl (by (try simp only [List.map_toArray, List.map_cons, List.map_nil]); first | done | rfl | (simp only [List.length_drop, List.length_take]; rfl)) ?_; (with_reducible refine (view_merge.calls k (fun k_ => (((w.heap.size ≤ k_) ∧ True) ∧ some k_ ≠ (.slice Ao9 t104.length co9 : Value).ownBlock)) _ _ t101 (fun k_ => (((w.heap.size ≤ k_) ∧ True) ∧ some k_ ≠ (.slice Ao8 t101.length co8 : Value).ownBlock)) _ _ t104 t107 _ ?side1 ?side2 A5.out).mono ?_); (case side1 => exact Kd.S_V (HO103.out)); (case side2 => exact Kd.S_V (HO106.out)); rintro e w10 ⟨v108, rfl, ho0, hb⟩; refine ⟨_, rfl, ?_⟩; replace HO103 := vV_ Kd.S_below HO103 hb; replace HO106 := vV_ Kd.S_below HO106 hb; have HO109 := Zq_.mk (Kd.V_lower (Kd.V_mono (ok' := fun k_ => (w.heap.size ≤ k_)) ho0 (fun k_ hk_ => Or.elim hk_ (fun hs_ => Or.elim hs_ (fun hs_ => hs_.1.1) (fun hs_ => hs_.1.1)) (fun hn_ => (Nat.le_trans (qi_ (hB_ HB)) hn_)))) (qi_ (hB_ HB))); replace HB := Zq_.mk (qm_ (hB_ HB) hb); (try clear hb); (try clear ho0)))
 go_ret
 exact ⟨_, by first | rfl | (simp [errW_none, errW_some] <;> rfl) | (simp [*, errW_none, errW_some] <;> rfl), by (with_reducible repeat (first | apply Kd.qk_ | apply Kd.ql_ | apply Kd.V_drew)); exact HO109.out, hB_ HB⟩
end Go.Proofs.Ythpbggknfhchlaa.P

/- What this function of the program comes to, and that the machine's call does it. No condition. -/
import Derived.Test.YthpbggknfhchlaaPViewCopy
import Derived.Test.YthpbggknfhchlaaPNamedF
namespace Go.Proofs.Ythpbggknfhchlaa.P
set_option maxHeartbeats 8000000
set_option maxRecDepth 100000
open Go.RowKit Go.Proofs.YthpbggknfhchlaaW.PrintWords Go.Proofs.YthpbggknfhchlaaW.PrintLast Go.Proofs.YthpbggknfhchlaaW.PrintMore
attribute [local go_sem] max2_int min2_int max_two min_two ve_ vd_ max_four min_four Go.Proofs.YthpbggknfhchlaaW.Hw.string_gtr
set_option linter.unusedVariables false
set_option linter.unusedSimpArgs false
def view_Without.f (k : Nat) (l0 : List S41) (a1 : Int) : Option (List S41) := (view_Copy.f k l0).bind fun c => some (c.filter (fun x => !(x.f0 == a1)))
theorem view_Without.mono : ∀ a0 a1 k, LeO (view_Without.f k a0 a1) (view_Without.f (k + 1) a0 a1) := by
 intro a0 a1 k
 unfold view_Without.f
 exact LeO.bind (view_Copy.mono _ _) (fun _ => LeO.refl _)
open Go.Proofs.YthpbggknfhchlaaW.Hw in
theorem view_Without.pred (a1 : Int) (g : Nat) (w : World) (row : Option Nat) (hc : w.cell? ⟨g, 0, none⟩ = some (.int .i64 a1)) (hne : some g ≠ row) : PredR Try.prog k41 47 #[.pointer (some ⟨g, 0, none⟩)] aggOf (fun x => x.f0 == a1) w row := by
 intro W x cs hb hx; have hcW := grown_cell hb hc hne; obtain ⟨A3, c3, rfl, l3, g3⟩ := k41_open hx; clear hx hb hc l3 g3 hne; have HB := Zq_.mk (Below.refl W.heap.size W)
 go_enter Try.func47, Try.ntmps47
 go_wp2_with (first | ((with_reducible refine qt_ (N := 2) rfl ?_); (try (refine gate_guard (by rfl) ?_; dsimp only)); refine qr_ ?hg (N := 2) ?hd (cs := #[.int .i64 x.f0, .int .i64 x.f1.f0, .int .i64 x.f1.f1, .slice A3 x.f1.f2.length c3]) (t := 41) ?hr ?_; (case hd => rfl); (case hg => rfl); (case hr => first | (go_simp; done) | (go_simp; rfl)); intro gb102 hg_ w102 hbox_ hb_; have n0_ := Zq_.mk (qm_ (hB_ HB) hb_); have GE102 := Zq_.mk ((by rw [hg_]; exact (qi_ (hB_ HB)) : W.heap.size ≤ gb102)); have n1_ := Zq_.mk (hbox_); clear HB; have HB := n0_; have BK102 := n1_; clear n0_ n1_; clear hb_ hbox_ hg_; have hcz102_0 : w102.cell? ⟨gb102, 0, none⟩ = some (.int .i64 x.f0) := (qh_ BK102.out 0).trans rfl; have hcz102_1 : w102.cell? ⟨gb102, 1, none⟩ = some (.int .i64 x.f1.f0) := (qh_ BK102.out 1).trans rfl; have hcz102_2 : w102.cell? ⟨gb102, 2, none⟩ = some (.int .i64 x.f1.f1) := (qh_ BK102.out 2).trans rfl; have hcz102_3 : w102.cell? ⟨gb102, 3, none⟩ = some (.slice A3 x.f1.f2.length c3) := (qh_ BK102.out 3).trans rfl; have hfz102_0 := qe_ BK102.out 0; have hfz102_1 := qe_ BK102.out 1; have hfz102_2 := qe_ BK102.out 2; have hfz102_3 := qe_ BK102.out 3; have hcw_ := pw_cell_below HB.out hcW))
 go_ret
 exact ⟨by first | rfl | (simp; done) | (simp [*]; done), (hB_ HB)⟩
open Go.Proofs.YthpbggknfhchlaaW.Hw in
theorem view_Without.calls (k : Nat) (A0 : Option Addr) (c0 : Nat) (l0 : List S41) (a1 : Int) (r : List S41) (w : World) (hr0 : Kd.C k41 w A0 l0.length l0) (hc0 : l0.length ≤ c0) (h : view_Without.f k l0 a1 = some r) :
  Calls Try.prog 24 #[.slice A0 l0.length c0, .int .i64 a1] w fun e w' => ∃ v0_ : Value, e = .returned v0_ ∧ Kd.V k41 41 w' w.heap.size (fun k_ => (w.heap.size ≤ k_)) v0_ r ∧ Below w.heap.size w w' := by
 unfold view_Without.f at h
 obtain ⟨lc, hl, h⟩ := Option.bind_eq_some_iff.1 h; obtain rfl := Option.some.inj h; clear h; have HL := Zq_.mk hl; have HR := Zq_.mk hr0; have HC := Zq_.mk hc0; clear hr0 hc0 hl; have HB := Zq_.mk (Below.refl w.heap.size w); have EG := Zq_.mk (fun args w => enters Try.prog Try.func47 (by kernel_rfl) (by kernel_rfl) args w)
 go_enter Try.func24, Try.ntmps24
 go_wp2_with (first | ((with_reducible refine qt_ (N := 3) rfl ?_); (try (refine gate_guard (by rfl) ?_; dsimp only)); refine qr_ ?hg (N := 3) ?hd (cs := #[.int .i64 a1]) (t := 3) ?hr ?_; (case hd => rfl); (case hg => rfl); (case hr => first | (go_simp; done) | (go_simp; rfl)); intro gb101 hg_ w101 hbox_ hb_; have n0_ := Zq_.mk (qm_ (hB_ HB) hb_); have GE101 := Zq_.mk ((by rw [hg_]; exact (qi_ (hB_ HB)) : w.heap.size ≤ gb101)); have n1_ := Zq_.mk (hbox_); clear HB; have HB := n0_; have BK101 := n1_; clear n0_ n1_; clear hb_ hbox_ hg_; have hcz101_0 : w101.cell? ⟨gb101, 0, none⟩ = some (.int .i64 a1) := (qh_ BK101.out 0).trans rfl; have hfz101_0 := qe_ BK101.out 0; have LT101 := Zq_.mk (blk_lt BK101.out)) | (go_at_call 30; refine (view_Copy.calls k A0 c0 l0 lc _ (Kd.vb_ HR.out (hB_ HB)) HC.out HL.out).mono ?_; rintro e w3 ⟨v5, rfl, ho5, hb3⟩; have NE5 := Zq_.mk (show some gb101 ≠ v5.ownBlock from fun e_ => by have h1 := Kd.R_base (Kd.S_R ho5) gb101 e_.symm; have h2 := LT101.out; omega); have HO5 := Zq_.mk (Kd.R_lower (Kd.S_R ho5) (qi_ (hB_ HB))); have n0_ := Zq_.mk (qm_ (hB_ HB) hb3); have m101_ := Zq_.mk (blk_bel (by exact bK_ BK101) hb3); clear HB; have HB := n0_; clear n0_; clear BK101; have BK101 := m101_; clear m101_; clear hb3; clear ho5) | (go_at_call 46; refine (DeleteFuncN.calls (fun x => x.f0 == a1) 47 #[.pointer (some ⟨gb101, 0, none⟩)] EG.out v5 lc w.heap.size (fun _ => True) _ (view_Without.pred a1 gb101 _ v5.ownBlock ((qh_ (by exact bK_ BK101) 0).trans rfl) NE5.out) (vX_ HO5) (qi_ (hB_ HB))).mono ?_; rintro e w4 ⟨v6, rfl, ho6, hg6, _⟩; have n0_ := Zq_.mk (((hB_ HB) : Below w.heap.size w w3).grown hg6 (qi_ (hB_ HB)) (Kd.R_base HO5.out)); clear HB; have HB := n0_; have HO6 := Zq_.mk ho6; clear n0_ ho6 hg6))
 go_ret
 exact ⟨_, rfl, Kd.V_mono (Kd.R_V (Kd.R_bound HO6.out)) (fun _ hk => hk.2.1), HB.out⟩
end Go.Proofs.Ythpbggknfhchlaa.P

/- What this function of the program comes to, and that the machine's call does it. No condition. -/
import Derived.Test.YthpbggknfhchlaaPNamedF
namespace Go.Proofs.Ythpbggknfhchlaa.P
set_option maxHeartbeats 8000000
set_option maxRecDepth 100000
open Go.RowKit Go.Proofs.YthpbggknfhchlaaW.PrintWords Go.Proofs.YthpbggknfhchlaaW.PrintLast Go.Proofs.YthpbggknfhchlaaW.PrintMore
attribute [local go_sem] max2_int min2_int max_two min_two ve_ vd_ max_four min_four Go.Proofs.YthpbggknfhchlaaW.Hw.string_gtr
set_option linter.unusedVariables false
set_option linter.unusedSimpArgs false
def view_place.f (l0 : List S41) (a1 : Int) : Option Int := some (Go.Proofs.YthpbggknfhchlaaW.Hw.idxI (fun x => x.f0 == a1) l0)
open Go.Proofs.YthpbggknfhchlaaW.Hw in
theorem view_place.pred (a1 : Int) (g : Nat) (w : World) (hc : w.cell? ⟨g, 0, none⟩ = some (.int .i64 a1)) : PredK Try.prog k41 55 #[.pointer (some ⟨g, 0, none⟩)] aggOf (fun x => x.f0 == a1) w := by
 intro W x cs hb hx; have hcW := (hb.cell (wb_ w _ hc)).trans hc; obtain ⟨A3, c3, rfl, l3, g3⟩ := k41_open hx; clear hx hb hc l3 g3; have HB := Zq_.mk (Below.refl W.heap.size W)
 go_enter Try.func55, Try.ntmps55
 go_wp2_with (first | ((with_reducible refine qt_ (N := 2) rfl ?_); (try (refine gate_guard (by rfl) ?_; dsimp only)); refine qr_ ?hg (N := 2) ?hd (cs := #[.int .i64 x.f0, .int .i64 x.f1.f0, .int .i64 x.f1.f1, .slice A3 x.f1.f2.length c3]) (t := 41) ?hr ?_; (case hd => rfl); (case hg => rfl); (case hr => first | (go_simp; done) | (go_simp; rfl)); intro gb102 hg_ w102 hbox_ hb_; have n0_ := Zq_.mk (qm_ (hB_ HB) hb_); have GE102 := Zq_.mk ((by rw [hg_]; exact (qi_ (hB_ HB)) : W.heap.size ≤ gb102)); have n1_ := Zq_.mk (hbox_); clear HB; have HB := n0_; have BK102 := n1_; clear n0_ n1_; clear hb_ hbox_ hg_; have hcz102_0 : w102.cell? ⟨gb102, 0, none⟩ = some (.int .i64 x.f0) := (qh_ BK102.out 0).trans rfl; have hcz102_1 : w102.cell? ⟨gb102, 1, none⟩ = some (.int .i64 x.f1.f0) := (qh_ BK102.out 1).trans rfl; have hcz102_2 : w102.cell? ⟨gb102, 2, none⟩ = some (.int .i64 x.f1.f1) := (qh_ BK102.out 2).trans rfl; have hcz102_3 : w102.cell? ⟨gb102, 3, none⟩ = some (.slice A3 x.f1.f2.length c3) := (qh_ BK102.out 3).trans rfl; have hfz102_0 := qe_ BK102.out 0; have hfz102_1 := qe_ BK102.out 1; have hfz102_2 := qe_ BK102.out 2; have hfz102_3 := qe_ BK102.out 3; have hcw_ := pw_cell_below HB.out hcW))
 go_ret
 exact ⟨by first | rfl | (simp; done) | (simp [*]; done), (hB_ HB)⟩
open Go.Proofs.YthpbggknfhchlaaW.Hw in
theorem view_place.calls (A0 : Option Addr) (c0 : Nat) (l0 : List S41) (a1 : Int) (r : Int) (w : World) (hr0 : Kd.C k41 w A0 l0.length l0) (hc0 : l0.length ≤ c0) (h : view_place.f l0 a1 = some r) :
  Calls Try.prog 38 #[.slice A0 l0.length c0, .int .i64 a1] w fun e w' => e = .returned (.int .i64 r) ∧ Below w.heap.size w w' := by
 unfold view_place.f at h
 obtain rfl := Option.some.inj h; clear h; have HC := Zq_.mk (fun (W : World) (g : Nat) (hW : Below w.heap.size w W) (hc : W.cell? ⟨g, 0, none⟩ = some (.int .i64 a1)) => IndexFuncN.calls (fun x => x.f0 == a1) 55 #[.pointer (some ⟨g, 0, none⟩)] (fun args w => enters Try.prog Try.func55 (by kernel_rfl) (by kernel_rfl) args w) A0 c0 l0 W (view_place.pred a1 g W hc) (Kd.vb_ hr0 hW)); generalize idxI (fun x : S41 => x.f0 == a1) l0 = b at HC ⊢; clear hr0 hc0; have HB := Zq_.mk (Below.refl w.heap.size w)
 go_enter Try.func38, Try.ntmps38
 go_wp2_with (first | ((with_reducible refine qt_ (N := 3) rfl ?_); (try (refine gate_guard (by rfl) ?_; dsimp only)); refine qr_ ?hg (N := 3) ?hd (cs := #[.int .i64 a1]) (t := 3) ?hr ?_; (case hd => rfl); (case hg => rfl); (case hr => first | (go_simp; done) | (go_simp; rfl)); intro gb101 hg_ w101 hbox_ hb_; have n0_ := Zq_.mk (qm_ (hB_ HB) hb_); have GE101 := Zq_.mk ((by rw [hg_]; exact (qi_ (hB_ HB)) : w.heap.size ≤ gb101)); have n1_ := Zq_.mk (hbox_); clear HB; have HB := n0_; have BK101 := n1_; clear n0_ n1_; clear hb_ hbox_ hg_; have hcz101_0 : w101.cell? ⟨gb101, 0, none⟩ = some (.int .i64 a1) := (qh_ BK101.out 0).trans rfl; have hfz101_0 := qe_ BK101.out 0) | (go_at_call 54; refine (HC.out _ gb101 (hB_ HB) ((qh_ (by exact bK_ BK101) 0).trans rfl)).mono ?_; rintro e w3 ⟨rfl, hb3⟩; have n0_ := Zq_.mk (qm_ (hB_ HB) hb3); have m101_ := Zq_.mk (blk_bel (by exact bK_ BK101) hb3); clear HB; have HB := n0_; clear n0_; clear BK101; have BK101 := m101_; clear m101_; clear hb3))
 go_ret
 exact ⟨by first | rfl | (simp; done) | (simp [*]; done), (hB_ HB)⟩
end Go.Proofs.Ythpbggknfhchlaa.P

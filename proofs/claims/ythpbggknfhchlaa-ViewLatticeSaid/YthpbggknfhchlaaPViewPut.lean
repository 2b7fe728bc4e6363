/- What this function of the program comes to, and that the machine's call does it. No condition. -/
import Derived.Test.YthpbggknfhchlaaPViewWithout
import Derived.Test.YthpbggknfhchlaaPViewMerge
namespace Go.Proofs.Ythpbggknfhchlaa.P
set_option maxHeartbeats 8000000
set_option maxRecDepth 100000
open Go.RowKit Go.Proofs.YthpbggknfhchlaaW.PrintWords Go.Proofs.YthpbggknfhchlaaW.PrintLast Go.Proofs.YthpbggknfhchlaaW.PrintMore
attribute [local go_sem] max2_int min2_int max_two min_two ve_ vd_ max_four min_four Go.Proofs.YthpbggknfhchlaaW.Hw.string_gtr
set_option linter.unusedVariables false
set_option linter.unusedSimpArgs false
/-- A literal of one element whose cells lead to what is only read. -/
theorem Kd_V_lit1 {α : Type} (d : Kd α) (e base : Nat) {t : TypeId} {W : World} {ok : Nat → Prop} {x : α} {cs : List Value} (hl : cs.length = d.sz) (hK : Kd.FK d W ok x cs) (q : Nat × Nat) :
  Kd.V d e (W.alloc (.cells cs.toArray t q)) base (fun k => ok k ∨ k = W.heap.size) (.slice (some ⟨W.heap.size, 0, none⟩) 1 1) [x] := by
 refine ⟨_, 1, rfl, Nat.le_refl _, fun W' hW => ⟨rfl, by simp, fun _ => ⟨_, rfl, fun j p hj => ?_⟩⟩⟩
 match j, hj with
 | 0, hj =>
  have hj : x = p := by simpa using hj
  subst hj
  have hsz : (W.alloc (.cells cs.toArray t q)).heap.size = W.heap.size + 1 := by simp
  refine ⟨cs, hl, hK W' (fun k hk hlt => (hW k (Or.inl hk) (by omega)).trans (heap_alloc_old W _ hlt)), fun i u hu => ?_⟩; have hb : W'.heap[W.heap.size]? = some (.cells cs.toArray t q) := (hW W.heap.size (Or.inr rfl) (by omega)).trans (heap_alloc_new W _); rw [Nat.zero_mul, Nat.zero_add, add_at, Nat.zero_add, World.cell?]
  dsimp only
  rw [hb]
  simpa using hu
 | j + 1, hj => simp at hj
def view_Put.f (k : Nat) (l0 : List S41) (a1 : Int) (a2_0 : Int) (a2_1 : Int) (l2_2 : List S60) : Option (List S41) := (view_Without.f k l0 a1).bind fun q => (view_own.f a1 a2_0 a2_1 l2_2).bind fun o => view_merge.f k q [⟨o.1, ⟨o.2.1, o.2.2.1, o.2.2.2⟩⟩]
theorem view_Put.mono : ∀ a0 a1 a2 a3 a4 k, LeO (view_Put.f k a0 a1 a2 a3 a4) (view_Put.f (k + 1) a0 a1 a2 a3 a4) := by
 intro a0 a1 a2 a3 a4 k
 unfold view_Put.f
 exact LeO.bind (view_Without.mono _ _ _) (fun _ => LeO.bind (LeO.refl _) (fun _ => view_merge.mono _ _ _))
open Go.Proofs.YthpbggknfhchlaaW.Hw in
theorem view_Put.calls (k : Nat) (A0 : Option Addr) (c0 : Nat) (l0 : List S41) (a1 : Int) (a2_0 : Int) (a2_1 : Int) (A2_2 : Option Addr) (c2_2 : Nat) (l2_2 : List S60) (r : List S41) (w : World) (hr0 : Kd.C k41 w A0 l0.length l0) (hc0 : l0.length ≤ c0) (hr2_2 : Kd.C k60 w A2_2 l2_2.length l2_2) (hc2_2 : l2_2.length ≤ c2_2) (h : view_Put.f k l0 a1 a2_0 a2_1 l2_2 = some r) :
  Calls Try.prog 14 #[.slice A0 l0.length c0, .int .i64 a1, .agg #[.int .i64 a2_0, .int .i64 a2_1, .slice A2_2 l2_2.length c2_2]] w fun e w' => ∃ v0_ : Value, e = .returned v0_ ∧ Kd.V k41 41 w' w.heap.size (fun k_ => (w.heap.size ≤ k_)) v0_ r ∧ Below w.heap.size w w' := by
 unfold view_Put.f at h
 obtain ⟨q, hq, h⟩ := Option.bind_eq_some_iff.1 h; obtain ⟨⟨o1, o2, o3, o4⟩, ho, h⟩ := Option.bind_eq_some_iff.1 h; have H1 := Zq_.mk hq; have H2 := Zq_.mk ho; have H3 := Zq_.mk h; have HR0 := Zq_.mk hr0; have HC0 := Zq_.mk hc0; have HR2 := Zq_.mk hr2_2; have HC2 := Zq_.mk hc2_2; clear h hq ho hr0 hc0 hr2_2 hc2_2; have HB := Zq_.mk (Below.refl w.heap.size w)
 go_enter Try.func14, Try.ntmps14
 go_wp2_with (first | ((with_reducible refine qt_ (N := 5) rfl ?_); (try (refine gate_guard (by rfl) ?_; dsimp only)); refine qr_ ?hg (N := 5) ?hd (cs := #[.int .i64 a2_0, .int .i64 a2_1, .slice A2_2 l2_2.length c2_2]) (t := 25) ?hr ?_; (case hd => rfl); (case hg => rfl); (case hr => first | (go_simp; done) | (go_simp; rfl)); intro gb101 hg_ w101 hbox_ hb_; have n0_ := Zq_.mk (qm_ (hB_ HB) hb_); have GE101 := Zq_.mk ((by rw [hg_]; exact (qi_ (hB_ HB)) : w.heap.size ≤ gb101)); have n1_ := Zq_.mk (hbox_); clear HB; have HB := n0_; have BK101 := n1_; clear n0_ n1_; clear hb_ hbox_ hg_; have hcz101_0 : w101.cell? ⟨gb101, 0, none⟩ = some (.int .i64 a2_0) := (qh_ BK101.out 0).trans rfl; have hcz101_1 : w101.cell? ⟨gb101, 1, none⟩ = some (.int .i64 a2_1) := (qh_ BK101.out 1).trans rfl; have hcz101_2 : w101.cell? ⟨gb101, 2, none⟩ = some (.slice A2_2 l2_2.length c2_2) := (qh_ BK101.out 2).trans rfl; have hfz101_0 := qe_ BK101.out 0; have hfz101_1 := qe_ BK101.out 1; have hfz101_2 := qe_ BK101.out 2))
 go_region_held3 (fun W => W.cell? ⟨gb101, 0, none⟩ = some (.int .i64 a2_0) ∧ W.cell? ⟨gb101, 1, none⟩ = some (.int .i64 a2_1) ∧ W.cell? ⟨gb101, 2, none⟩ = some (.slice A2_2 l2_2.length c2_2)) (first | exact ⟨by assumption, by assumption, by assumption⟩ | exact ⟨pw_cell_below (qc_ (Below.refl _ _) _) hcw7_101_0, pw_cell_below (qc_ (Below.refl _ _) _) hcw7_101_1, pw_cell_below (qc_ (Below.refl _ _) _) hcw7_101_2⟩) (first | (go_at_call 24; refine (view_Without.calls k A0 c0 l0 a1 q _ (Kd.vb_ HR0.out (hB_ HB)) HC0.out H1.out).mono ?_; rintro e w6 ⟨v9, rfl, ho9, hb6⟩; obtain ⟨A9, c9, rfl⟩ := Kd.V_slice ho9; have HO9 := Zq_.mk (Kd.V_mono (Kd.V_lower ho9 (qi_ (hB_ HB))) (fun k_ hk_ => Nat.le_trans (qi_ (hB_ HB)) hk_)); have n0_ := Zq_.mk (qm_ (hB_ HB) hb6); have m101_ := Zq_.mk (blk_bel (by exact bK_ BK101) hb6); clear HB; have HB := n0_; clear n0_; clear BK101; have BK101 := m101_; clear m101_; clear hb6; have hcw6_101_0 : w6.cell? ⟨gb101, 0, none⟩ = some (.int .i64 a2_0) := (qh_ BK101.out 0).trans rfl; have hcw6_101_1 : w6.cell? ⟨gb101, 1, none⟩ = some (.int .i64 a2_1) := (qh_ BK101.out 1).trans rfl; have hcw6_101_2 : w6.cell? ⟨gb101, 2, none⟩ = some (.slice A2_2 l2_2.length c2_2) := (qh_ BK101.out 2).trans rfl; clear ho9) | (go_at_call 37; refine (view_own.calls a1 a2_0 a2_1 A2_2 c2_2 l2_2 o1 o2 o3 o4 _ (Kd.vb_ HR2.out (hB_ HB)) HC2.out H2.out).mono ?_; rintro e w7 ⟨v12, rfl, ho12, hb7⟩; have HO9b := Zq_.mk (Kd.qn_ HO9.out hb7); obtain ⟨Ao, co, rfl⟩ := Kd.R_slice ho12; have HO12 := Zq_.mk (Kd.R_V (base' := w.heap.size) (Kd.R_mono (Kd.R_bound ho12) (ok' := fun k_ => w.heap.size ≤ k_) (fun k_ hk_ => Nat.le_trans (qi_ (hB_ HB)) hk_.2.1))); have n0_ := Zq_.mk (qm_ (hB_ HB) hb7); have m101_ := Zq_.mk (blk_bel (by exact bK_ BK101) hb7); clear HB; have HB := n0_; clear n0_; clear BK101; have BK101 := m101_; clear m101_; clear hb7; have hcw7_101_0 : w7.cell? ⟨gb101, 0, none⟩ = some (.int .i64 a2_0) := (qh_ BK101.out 0).trans rfl; have hcw7_101_1 : w7.cell? ⟨gb101, 1, none⟩ = some (.int .i64 a2_1) := (qh_ BK101.out 1).trans rfl; have hcw7_101_2 : w7.cell? ⟨gb101, 2, none⟩ = some (.slice A2_2 l2_2.length c2_2) := (qh_ BK101.out 2).trans rfl; clear ho12) | (go_at_call 36; refine (view_merge.calls k (fun k_ => w.heap.size ≤ k_) A9 c9 q (fun k_ => w.heap.size ≤ k_) (some ⟨w7.heap.size, 0, none⟩) 1 [⟨o1, ⟨o2, o3, o4⟩⟩] r _ ?m0 ?m1 H3.out).mono ?_; (case m0 => exact Kd.V_map (Kd.qk_ HO9b.out _) (fun _ hf => hf)); (case m1 => exact Kd.V_map (Kd_V_lit1 k41 41 0 (W := w7) (ok := fun k_ => w.heap.size ≤ k_) (x := ⟨o1, ⟨o2, o3, o4⟩⟩) (cs := [.int .i64 o1, .int .i64 o2, .int .i64 o3, .slice Ao o4.length co]) rfl (k41_mkF w7 _ ⟨o1, ⟨o2, o3, o4⟩⟩ (Kd.V_at HO12.out).2.1 (Kd.V_at HO12.out).2.2) (0, 0)) (fun _ hf => Kd.F_mono hf (fun k_ hk_ => hk_.elim id (fun e_ => by rw [e_]; exact qi_ HB.out)))); rintro e w8 ⟨v14, rfl, ho14, hb8⟩; have HO14 := Zq_.mk (show Kd.V k41 41 w8 w.heap.size (fun k_ => w.heap.size ≤ k_) v14 r from Kd.V_map ho14 (fun _ hf => Kd.F_mono hf (fun k_ hk_ => hk_.elim (fun h_ => h_.elim id id) (fun h_ => Nat.le_trans (qi_ (hB_ HB)) h_)))); have HB14 := Zq_.mk (qm_ (qc_ HB.out _) hb8); have hb9 := qm_ (qc_ (Below.refl w7.heap.size w7) _) hb8; have hcw8_0 := pw_cell_below hb9 hcw7_101_0; have hcw8_1 := pw_cell_below hb9 hcw7_101_1; have hcw8_2 := pw_cell_below hb9 hcw7_101_2; clear ho14))
 all_goals go_wp2
 all_goals go_ret
 all_goals exact ⟨_, rfl, HO14.out, HB14.out⟩
end Go.Proofs.Ythpbggknfhchlaa.P

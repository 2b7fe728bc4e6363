/- What this function of the program comes to, and that the machine's call does it: written by a program (wip/tool). No condition. -/
import Derived.Test.YtonggencfnaheaaP0
import Derived.Test.YtonggencfnaheaaPApiWard22
import Derived.Test.YtonggencfnaheaaPWardMay
import Derived.Test.YtonggencfnaheaaPWardRight
import Derived.Test.YtonggencfnaheaaPApiWard25
import Derived.Test.YtonggencfnaheaaPApiWard27
import Derived.Test.YtonggencfnaheaaHw
namespace Go.Proofs.Ytonggencfnaheaa.P
open Go.RowKit Go.Proofs.YtonggencfnaheaaW.PrintWords Go.Proofs.YtonggencfnaheaaW.PrintLast Go.Proofs.YtonggencfnaheaaW.PrintMore
attribute [local go_sem] max2_int min2_int max_two min_two max_three min_three max_four min_four Go.Proofs.YtonggencfnaheaaW.Hw.string_gtr   -- for this text's walks alone
set_option linter.unusedVariables false
set_option linter.unusedSimpArgs false
/-! ### ward_Put: function 13 -/
theorem halveW_le (less : Nat → Bool) : ∀ (f lo hi : Nat), lo ≤ hi → halveW less f lo hi ≤ hi := by
 intro f
 induction f with
 | zero => intro lo hi h; exact h
 | succ f ih =>
  intro lo hi h
  unfold halveW
  split
  ·split
   ·exact ih _ _ (by omega)
   ·exact Nat.le_trans (ih _ _ (by omega)) (by omega)
  ·exact h
/-- The place of a key by halving. -/
def ward_Put.pl (l0 : List S44) (k : Int) : Nat := halveW (fun j => decide (wrap64 ((l0.getD j z44).f0 - k) < 0)) l0.length 0 l0.length
def ward_Put.hit (l0 : List S44) (k : Int) : Bool := decide (ward_Put.pl l0 k < l0.length) && decide (wrap64 ((l0.getD (ward_Put.pl l0 k) z44).f0 - k) = 0)
def ward_Put.res (l0 : List S44) (a1 a2 : Int) : List S44 := if ward_Put.hit l0 a1 = true then l0.set (ward_Put.pl l0 a1) ⟨(l0.getD (ward_Put.pl l0 a1) z44).f0, mx (l0.getD (ward_Put.pl l0 a1) z44).f1 a2⟩ else l0.take (ward_Put.pl l0 a1) ++ [⟨a1, a2⟩] ++ l0.drop (ward_Put.pl l0 a1)
def ward_Put.f (k : Nat) (l0 : List S44) (a1 : Int) (a2 : Int) : Option (List S44 × Int) := (ward_may.f a1 a2).bind fun m => (if m = true then ((ward_Right.f k l0).bind fun q => (if q = true then (if l0.length < 1099511627776 then some (ward_Put.res l0 a1 a2, 0) else none) else some (l0, 1))) else some (l0, 1))
theorem ward_Put.mono : ∀ a0 a1 a2 k, LeO (ward_Put.f k a0 a1 a2) (ward_Put.f (k + 1) a0 a1 a2) := by
 intro a0 a1 a2 k
 unfold ward_Put.f
 refine LeO.bind (LeO.refl _) (fun m => LeO.ite (LeO.bind (ward_Right.mono _ _) (fun q => LeO.refl _)) (LeO.refl _))
open Go.Proofs.YtonggencfnaheaaW.Hw in
set_option maxHeartbeats 4000000 in
theorem ward_Put.pred (x t : S44) (W : World) : Calls Try.prog 26 (#[.agg #[.int .i64 x.f0, .int .i64 x.f1], .agg #[.int .i64 t.f0, .int .i64 t.f1]] ++ #[]) W fun e w' => e = .returned (.int .i64 (wrap64 (x.f0 - t.f0))) ∧ Below W.heap.size W w' := by
 have HB := Aside0.mk (Below.refl W.heap.size W)
 go_enter Try.func26, Try.ntmps26
 go_wp2_with (first | ((with_reducible refine gate_dst (N := 2) rfl ?_); (try (refine gate_guard (by rfl) ?_; dsimp only)); refine box_event ?hg (N := 2) ?hd (cs := #[.int .i64 x.f0, .int .i64 x.f1]) (t := 44) ?hr ?_; (case hd => rfl); (case hg => rfl); (case hr => first | (go_simp; done) | (go_simp; rfl)); intro gb102 hg_ w102 hbox_ hb_; have n0_ := Aside0.mk (qd_ (by repeat (first | (with_reducible first | exact HB.out | apply qb_ | apply qa_ | apply qc_) | exact HB.out)) hb_); have GE102 := Aside0.mk ((by rw [hg_]; exact (qg_ (by repeat (first | (with_reducible first | exact HB.out | apply qb_ | apply qa_ | apply qc_) | exact HB.out))) : W.heap.size ≤ gb102)); have n1_ := Aside0.mk (hbox_); clear HB; have HB := n0_; have BK102 := n1_; clear n0_ n1_; clear hb_ hbox_ hg_; have hcz102_0 : w102.cell? ⟨gb102, 0, none⟩ = some (.int .i64 x.f0) := (qe_ BK102.out 0).trans rfl; have hcz102_1 : w102.cell? ⟨gb102, 1, none⟩ = some (.int .i64 x.f1) := (qe_ BK102.out 1).trans rfl; have hfz102_0 := qm_ BK102.out 0; have hfz102_1 := qm_ BK102.out 1) | ((with_reducible refine gate_dst (N := 3) rfl ?_); (try (refine gate_guard (by rfl) ?_; dsimp only)); refine box_event ?hg (N := 3) ?hd (cs := #[.int .i64 t.f0, .int .i64 t.f1]) (t := 44) ?hr ?_; (case hd => rfl); (case hg => rfl); (case hr => first | (go_simp; done) | (go_simp; rfl)); intro gb103 hg_ w103 hbox_ hb_; have n0_ := Aside0.mk (qd_ (by repeat (first | (with_reducible first | exact HB.out | apply qb_ | apply qa_ | apply qc_) | exact HB.out)) hb_); have GE103 := Aside0.mk ((by rw [hg_]; exact (qg_ (by repeat (first | (with_reducible first | exact HB.out | apply qb_ | apply qa_ | apply qc_) | exact HB.out))) : W.heap.size ≤ gb103)); have n1_ := Aside0.mk (hbox_); have NB102_103 : Aside0 (gb102 ≠ gb103) := ⟨fun e_ => by have h1 := blk_lt (by (with_reducible repeat (first | refine qh_ ?_ _ | refine qj_ ?_ | refine qi_ ?_ _)); exact BK102.out); rw [e_, hg_] at h1; exact absurd h1 (Nat.lt_irrefl _)⟩; have m102_ := Aside0.mk (blk_bel (by (with_reducible repeat (first | refine qh_ ?_ _ | refine qj_ ?_ | refine qi_ ?_ _)); exact BK102.out) hb_); clear BK102; have BK102 := m102_; clear m102_; clear HB; have HB := n0_; have BK103 := n1_; clear n0_ n1_; clear hb_ hbox_ hg_; have hcz103_0 : w103.cell? ⟨gb103, 0, none⟩ = some (.int .i64 t.f0) := (qe_ BK103.out 0).trans rfl; have hcz103_1 : w103.cell? ⟨gb103, 1, none⟩ = some (.int .i64 t.f1) := (qe_ BK103.out 1).trans rfl; have hfz103_0 := qm_ BK103.out 0; have hfz103_1 := qm_ BK103.out 1; have hcw103_102_0 : w103.cell? ⟨gb102, 0, none⟩ = some (.int .i64 x.f0) := (qe_ BK102.out 0).trans rfl; have hcw103_102_1 : w103.cell? ⟨gb102, 1, none⟩ = some (.int .i64 x.f1) := (qe_ BK102.out 1).trans rfl))
 go_ret
 exact ⟨by first | rfl | (simp; done) | (simp [*]; done), (by repeat (first | (with_reducible first | exact HB.out | apply qb_ | apply qa_ | apply qc_) | exact HB.out))⟩
open Go.Proofs.YtonggencfnaheaaW.Hw in
set_option maxHeartbeats 16000000 in
set_option maxRecDepth 100000 in
theorem ward_Put.calls (k : Nat) (P0_ : Nat → Prop) (A0 : Option Addr) (c0 : Nat) (l0 : List S44) (a1 : Int) (a2 : Int) (r1 : List S44) (r2 : Int) (w : World) (hs0 : Kd.V k44 44 w w.heap.size (fun k_ => P0_ k_) (.slice A0 l0.length c0) l0) (h : ward_Put.f k l0 a1 a2 = some (r1, r2)) :
  Calls Try.prog 13 #[.slice A0 l0.length c0, .int .i64 a1, .int .i64 a2] w fun e w' => ∃ v0_ : Value, e = .returned (.tuple #[v0_, .int .i64 r2]) ∧ Kd.V k44 44 w' w.heap.size (fun k_ => (P0_ k_ ∨ w.heap.size ≤ k_)) v0_ r1 ∧ Below w.heap.size w w' := by
 unfold ward_Put.f at h
 have hA := Option.bind_eq_some_iff.1 h
 clear h
 obtain ⟨m, hm, h⟩ := hA
 have HMAY := Aside0.mk hm
 have HV := Aside0.mk hs0
 have HR := Aside0.mk (Kd.V_reads' hs0).2.2
 have HC := Aside0.mk (Kd.V_reads' hs0).2.1
 clear hm hs0
 have HB := Aside0.mk (Below.refl w.heap.size w)
 cases m with
 | false =>
  rw [if_neg (by decide)] at h
  obtain ⟨rfl, rfl⟩ := Prod.mk.inj (Option.some.inj h)
  clear h
  go_enter Try.func13, Try.ntmps13
  go_wp2_with (first
   | ((with_reducible refine gate_dst (N := 8) rfl ?_); (try (refine gate_guard (by rfl) ?_; dsimp only)); refine box_event ?hg (N := 8) ?hd (cs := #[.int .i64 0, .int .i64 0]) (t := 44) ?hr ?_; (case hd => rfl); (case hg => rfl); (case hr => first | (go_simp; done) | (go_simp; rfl)); intro gb108 hg_ w108 hbox_ hb_; have n0_ := Aside0.mk (qd_ (by repeat (first | (with_reducible first | exact HB.out | apply qb_ | apply qa_ | apply qc_) | exact HB.out)) hb_); have GE108 := Aside0.mk ((by rw [hg_]; exact (qg_ (by repeat (first | (with_reducible first | exact HB.out | apply qb_ | apply qa_ | apply qc_) | exact HB.out))) : w.heap.size ≤ gb108)); have n1_ := Aside0.mk (hbox_); clear HB; have HB := n0_; have BK108 := n1_; clear n0_ n1_; clear hb_ hbox_ hg_; have hcz108_0 : w108.cell? ⟨gb108, 0, none⟩ = some (.int .i64 0) := (qe_ BK108.out 0).trans rfl; have hcz108_1 : w108.cell? ⟨gb108, 1, none⟩ = some (.int .i64 0) := (qe_ BK108.out 1).trans rfl; have hfz108_0 := qm_ BK108.out 0; have hfz108_1 := qm_ BK108.out 1) | (go_at_call 24; refine (ward_may.calls a1 a2 false _ HMAY.out).mono ?_; rintro e w9 ⟨rfl, hb9⟩; have n0_ := Aside0.mk (qd_ (qf_ (qf_ HB.out GE108.out (j := 0) (v := .int .i64 a1)) GE108.out (j := 1) (v := .int .i64 a2)) hb9); have n1_ : Aside0 (w9.heap[gb108]? = some (.cells #[.int .i64 a1, .int .i64 a2] 44 (0, 0))) := ⟨blk_bel (blk_set (blk_set BK108.out 0 (.int .i64 a1)) 1 (.int .i64 a2)) hb9⟩; clear HB BK108; have HB := n0_; have BK108 := n1_; clear n0_ n1_ hb9; have hcw9_108_0 : w9.cell? ⟨gb108, 0, none⟩ = some (.int .i64 a1) := (qe_ BK108.out 0).trans rfl; have hcw9_108_1 : w9.cell? ⟨gb108, 1, none⟩ = some (.int .i64 a2) := (qe_ BK108.out 1).trans rfl))
  go_ret2
  exact ⟨_, rfl, Kd.V_mono (Kd.V_below HV.out HB.out) (fun k_ hk => Or.inl hk), HB.out⟩
 | true =>
  rw [if_pos rfl] at h
  have hA := Option.bind_eq_some_iff.1 h
  clear h
  obtain ⟨q, hq, h⟩ := hA
  have HQ := Aside0.mk hq
  clear hq
  cases q with
  | false =>
   rw [if_neg (by decide)] at h
   obtain ⟨rfl, rfl⟩ := Prod.mk.inj (Option.some.inj h)
   clear h
   go_enter Try.func13, Try.ntmps13
   go_wp2_with (first
    | ((with_reducible refine gate_dst (N := 8) rfl ?_); (try (refine gate_guard (by rfl) ?_; dsimp only)); refine box_event ?hg (N := 8) ?hd (cs := #[.int .i64 0, .int .i64 0]) (t := 44) ?hr ?_; (case hd => rfl); (case hg => rfl); (case hr => first | (go_simp; done) | (go_simp; rfl)); intro gb108 hg_ w108 hbox_ hb_; have n0_ := Aside0.mk (qd_ (by repeat (first | (with_reducible first | exact HB.out | apply qb_ | apply qa_ | apply qc_) | exact HB.out)) hb_); have GE108 := Aside0.mk ((by rw [hg_]; exact (qg_ (by repeat (first | (with_reducible first | exact HB.out | apply qb_ | apply qa_ | apply qc_) | exact HB.out))) : w.heap.size ≤ gb108)); have n1_ := Aside0.mk (hbox_); clear HB; have HB := n0_; have BK108 := n1_; clear n0_ n1_; clear hb_ hbox_ hg_; have hcz108_0 : w108.cell? ⟨gb108, 0, none⟩ = some (.int .i64 0) := (qe_ BK108.out 0).trans rfl; have hcz108_1 : w108.cell? ⟨gb108, 1, none⟩ = some (.int .i64 0) := (qe_ BK108.out 1).trans rfl; have hfz108_0 := qm_ BK108.out 0; have hfz108_1 := qm_ BK108.out 1) | (go_at_call 24; refine (ward_may.calls a1 a2 true _ HMAY.out).mono ?_; rintro e w9 ⟨rfl, hb9⟩; have n0_ := Aside0.mk (qd_ (qf_ (qf_ HB.out GE108.out (j := 0) (v := .int .i64 a1)) GE108.out (j := 1) (v := .int .i64 a2)) hb9); have n1_ : Aside0 (w9.heap[gb108]? = some (.cells #[.int .i64 a1, .int .i64 a2] 44 (0, 0))) := ⟨blk_bel (blk_set (blk_set BK108.out 0 (.int .i64 a1)) 1 (.int .i64 a2)) hb9⟩; clear HB BK108; have HB := n0_; have BK108 := n1_; clear n0_ n1_ hb9; have hcw9_108_0 : w9.cell? ⟨gb108, 0, none⟩ = some (.int .i64 a1) := (qe_ BK108.out 0).trans rfl; have hcw9_108_1 : w9.cell? ⟨gb108, 1, none⟩ = some (.int .i64 a2) := (qe_ BK108.out 1).trans rfl) | (go_at_call 14; refine (ward_Right.calls k A0 c0 l0 false _ (Kd.C_below HR.out (by repeat (first | (with_reducible first | exact HB.out | apply qb_ | apply qa_ | apply qc_) | exact HB.out))) HC.out HQ.out).mono ?_; rintro e w10 ⟨rfl, hb10⟩; have n0_ := Aside0.mk (qd_ (by repeat (first | (with_reducible first | exact HB.out | apply qb_ | apply qa_ | apply qc_) | exact HB.out)) hb10); have m108_ := Aside0.mk (blk_bel (by (with_reducible repeat (first | refine qh_ ?_ _ | refine qj_ ?_ | refine qi_ ?_ _)); exact BK108.out) hb10); clear HB; have HB := n0_; clear n0_; clear BK108; have BK108 := m108_; clear m108_; clear hb10; have hcw10_108_0 : w10.cell? ⟨gb108, 0, none⟩ = some (.int .i64 a1) := (qe_ BK108.out 0).trans rfl; have hcw10_108_1 : w10.cell? ⟨gb108, 1, none⟩ = some (.int .i64 a2) := (qe_ BK108.out 1).trans rfl))
   go_ret2
   exact ⟨_, rfl, Kd.V_mono (Kd.V_below HV.out HB.out) (fun k_ hk => Or.inl hk), HB.out⟩
  | true =>
   rw [if_pos rfl] at h
   by_cases hl : l0.length < 1099511627776
   case neg => rw [if_neg hl] at h; cases h
   rw [if_pos hl] at h
   have h2 := Prod.mk.inj (Option.some.inj h)
   clear h
   obtain ⟨h, rfl⟩ := h2
   have hHI := halveW_le (fun j => decide (wrap64 ((l0.getD j z44).f0 - a1) < 0)) l0.length 0 l0.length (Nat.zero_le _)
   have HCL := Aside0.mk (show api_Ward_22.f l0 = some l0 by unfold api_Ward_22.f; rw [if_pos (by omega)])
   have EG := fun args w => enters Try.prog Try.func26 (by kernel_rfl) (by kernel_rfl) args w
   have hsr := fun (W : World) (hW : Below w.heap.size w W) => SearchW.calls (fun x => wrap64 (x.f0 - a1)) ⟨a1, a2⟩ 26 #[] EG A0 c0 l0 W (fun W' x _ => ward_Put.pred x ⟨a1, a2⟩ W') (Kd.C_below HR.out hW) hl
   unfold ward_Put.res ward_Put.hit ward_Put.pl at h
   dsimp only at hsr
   try dsimp only at hHI
   try dsimp only at h
   generalize hi_ : halveW (fun j => decide (wrap64 ((l0.getD j z44).f0 - a1) < 0)) l0.length 0 l0.length = i at hsr hHI h
   generalize hb_ : (decide (i < l0.length) && decide (wrap64 ((l0.getD i z44).f0 - a1) = 0)) = b at hsr h
   have HS := Aside0.mk hsr
   have HL := Aside0.mk hl
   have HIE := Aside0.mk hHI
   clear hsr hl hi_ EG hHI
   cases b with
   | true =>
    have hil : i < l0.length := by
     rw [Bool.and_eq_true] at hb_
     exact of_decide_eq_true hb_.1
    have HP := Aside0.mk (show 0 < l0.length by omega)
    rw [if_pos rfl] at h
    generalize hy : l0.getD i z44 = y at h
    obtain ⟨y0, y1⟩ := y
    dsimp only at h
    have HY := Aside0.mk (show l0.getD (i : Int).toNat z44 = ⟨y0, y1⟩ from hy)
    have HH := Aside0.mk h
    clear hy
    have q1 : (0 : Int) ≤ (i : Int) := by omega
    have q2 : (i : Int) < (l0.length : Int) := by omega
    have p1 := eq_true q1
    have p2 := eq_true q2
    have p3 := eq_true hil
    have Q1 := Aside0.mk q1
    have Q2 := Aside0.mk q2
    clear h hb_ hil q1 q2
    go_enter Try.func13, Try.ntmps13
    go_wp2_with (first
     | ((with_reducible refine gate_dst (N := 8) rfl ?_); (try (refine gate_guard (by rfl) ?_; dsimp only)); refine box_event ?hg (N := 8) ?hd (cs := #[.int .i64 0, .int .i64 0]) (t := 44) ?hr ?_; (case hd => rfl); (case hg => rfl); (case hr => first | (go_simp; done) | (go_simp; rfl)); intro gb108 hg_ w108 hbox_ hb_; have n0_ := Aside0.mk (qd_ (by repeat (first | (with_reducible first | exact HB.out | apply qb_ | apply qa_ | apply qc_) | exact HB.out)) hb_); have GE108 := Aside0.mk ((by rw [hg_]; exact (qg_ (by repeat (first | (with_reducible first | exact HB.out | apply qb_ | apply qa_ | apply qc_) | exact HB.out))) : w.heap.size ≤ gb108)); have n1_ := Aside0.mk (hbox_); clear HB; have HB := n0_; have BK108 := n1_; clear n0_ n1_; clear hb_ hbox_ hg_; have hcz108_0 : w108.cell? ⟨gb108, 0, none⟩ = some (.int .i64 0) := (qe_ BK108.out 0).trans rfl; have hcz108_1 : w108.cell? ⟨gb108, 1, none⟩ = some (.int .i64 0) := (qe_ BK108.out 1).trans rfl; have hfz108_0 := qm_ BK108.out 0; have hfz108_1 := qm_ BK108.out 1) | (go_at_call 24; refine (ward_may.calls a1 a2 true _ HMAY.out).mono ?_; rintro e w9 ⟨rfl, hb9⟩; have n0_ := Aside0.mk (qd_ (qf_ (qf_ HB.out GE108.out (j := 0) (v := .int .i64 a1)) GE108.out (j := 1) (v := .int .i64 a2)) hb9); have n1_ : Aside0 (w9.heap[gb108]? = some (.cells #[.int .i64 a1, .int .i64 a2] 44 (0, 0))) := ⟨blk_bel (blk_set (blk_set BK108.out 0 (.int .i64 a1)) 1 (.int .i64 a2)) hb9⟩; clear HB BK108; have HB := n0_; have BK108 := n1_; clear n0_ n1_ hb9; have hcw9_108_0 : w9.cell? ⟨gb108, 0, none⟩ = some (.int .i64 a1) := (qe_ BK108.out 0).trans rfl; have hcw9_108_1 : w9.cell? ⟨gb108, 1, none⟩ = some (.int .i64 a2) := (qe_ BK108.out 1).trans rfl) | (go_at_call 14; refine (ward_Right.calls k A0 c0 l0 true _ (Kd.C_below HR.out (by repeat (first | (with_reducible first | exact HB.out | apply qb_ | apply qa_ | apply qc_) | exact HB.out))) HC.out HQ.out).mono ?_; rintro e w10 ⟨rfl, hb10⟩; have n0_ := Aside0.mk (qd_ (by repeat (first | (with_reducible first | exact HB.out | apply qb_ | apply qa_ | apply qc_) | exact HB.out)) hb10); have m108_ := Aside0.mk (blk_bel (by (with_reducible repeat (first | refine qh_ ?_ _ | refine qj_ ?_ | refine qi_ ?_ _)); exact BK108.out) hb10); clear HB; have HB := n0_; clear n0_; clear BK108; have BK108 := m108_; clear m108_; clear hb10; have hcw10_108_0 : w10.cell? ⟨gb108, 0, none⟩ = some (.int .i64 a1) := (qe_ BK108.out 0).trans rfl; have hcw10_108_1 : w10.cell? ⟨gb108, 1, none⟩ = some (.int .i64 a2) := (qe_ BK108.out 1).trans rfl) | (go_at_call 25; refine (HS.out _ (by repeat (first | (with_reducible first | exact HB.out | apply qb_ | apply qa_ | apply qc_) | exact HB.out))).mono ?_; rintro e w3 ⟨rfl, hb3⟩; have n0_ := Aside0.mk (qd_ (by repeat (first | (with_reducible first | exact HB.out | apply qb_ | apply qa_ | apply qc_) | exact HB.out)) hb3); have m108_ := Aside0.mk (blk_bel (by (with_reducible repeat (first | refine qh_ ?_ _ | refine qj_ ?_ | refine qi_ ?_ _)); exact BK108.out) hb3); clear HB; have HB := n0_; clear n0_; clear BK108; have BK108 := m108_; clear m108_; clear hb3; have hcw3_108_0 : w3.cell? ⟨gb108, 0, none⟩ = some (.int .i64 a1) := (qe_ BK108.out 0).trans rfl; have hcw3_108_1 : w3.cell? ⟨gb108, 1, none⟩ = some (.int .i64 a2) := (qe_ BK108.out 1).trans rfl) | (go_at_call 22; refine (api_Ward_22.calls A0 c0 l0 l0 _ (Kd.C_below HR.out (by repeat (first | (with_reducible first | exact HB.out | apply qb_ | apply qa_ | apply qc_) | exact HB.out))) HC.out HCL.out).mono ?_; rintro e w4 ⟨v5, rfl, ho5, hb4⟩; obtain ⟨g5, cap5, rfl, hgb5, hglt5, hcx5⟩ := Kd.R_form ho5 HP.out; have HO5 := Aside0.mk (Kd.R_lower ho5 (qg_ (by repeat (first | (with_reducible first | exact HB.out | apply qb_ | apply qa_ | apply qc_) | exact HB.out)))); have n0_ := Aside0.mk (qd_ (by repeat (first | (with_reducible first | exact HB.out | apply qb_ | apply qa_ | apply qc_) | exact HB.out)) hb4); have m108_ := Aside0.mk (blk_bel (by (with_reducible repeat (first | refine qh_ ?_ _ | refine qj_ ?_ | refine qi_ ?_ _)); exact BK108.out) hb4); clear HB; have HB := n0_; clear n0_; clear BK108; have BK108 := m108_; clear m108_; clear hb4; have hcw4_108_0 : w4.cell? ⟨gb108, 0, none⟩ = some (.int .i64 a1) := (qe_ BK108.out 0).trans rfl; have hcw4_108_1 : w4.cell? ⟨gb108, 1, none⟩ = some (.int .i64 a2) := (qe_ BK108.out 1).trans rfl; obtain ⟨co, hclo, hMo, hcco, hfro⟩ := Kd.R_elem HO5.out z44 (i : Int) Q1.out Q2.out; rw [HY.out] at hMo; obtain rfl := k44_openM hMo; have hx_1 : w4.cell? ⟨g5, i * 2 + 1, none⟩ = some (.int .i64 y1) := hcco 1 _ rfl; have HCC := Aside0.mk hcco; clear ho5 hclo hMo hcco hfro hgb5 hglt5 hcx5)
     | ((with_reducible refine gate_store (t := 3) (p := 48) rfl ?_); refine Kd.R_store k44 (w0 := w) (W := w4) w.heap.size rfl rfl 3 (.tmp 48) (.tmp 46) rfl 44 (g := g5) (n := l0.length) (cap := cap5) (o' := i * 2 + 1) (i : Int) 1 l0 ⟨y0, mx y1 a2⟩ (.int .i64 (mx y1 a2)) [.int .i64 (mx y1 a2)] [.int .i64 y0, .int .i64 y1] (fun _ => True) (fun k => True ∧ k ≠ g5) ?ha rfl ?hx rfl (by kernel_rfl) ?h1 HO5.out Q1.out Q2.out rfl ?hcc (show (2 : Nat) ≤ 2 from Nat.le_refl 2) (k44_mkM w4 _ _ ⟨y0, mx y1 a2⟩) (fun _ hk => hk) (by repeat (first | (with_reducible first | exact HB.out | apply qb_ | apply qa_ | apply qc_) | exact HB.out)) ?_; (case ha => first | rfl | (go_simp; done) | (go_simp; rfl)); (case hx => first | rfl | (go_simp; done) | (go_simp; rfl)); (case h1 => intro q hq_; simp only [List.mem_cons, List.not_mem_nil, or_false] at hq_; subst hq_; rfl); (case hcc => exact HCC.out); intro w5 hR5 hB5 hg5; have HR5 := Aside0.mk hR5; have HB5 := Aside0.mk hB5; clear hR5 hB5 hg5))
    all_goals go_ret2
    all_goals exact ⟨_, rfl, by rw [← HH.out]; exact Kd.V_mono (Kd.R_V (Kd.R_bound HR5.out)) (fun k_ hk => Or.inr hk.2.1), HB5.out⟩
   | false =>
    rw [if_neg (show ¬ (false = true) by decide)] at h
    have HH := Aside0.mk h
    clear h hb_
    go_enter Try.func13, Try.ntmps13
    go_wp2_with (first
     | ((with_reducible refine gate_dst (N := 8) rfl ?_); (try (refine gate_guard (by rfl) ?_; dsimp only)); refine box_event ?hg (N := 8) ?hd (cs := #[.int .i64 0, .int .i64 0]) (t := 44) ?hr ?_; (case hd => rfl); (case hg => rfl); (case hr => first | (go_simp; done) | (go_simp; rfl)); intro gb108 hg_ w108 hbox_ hb_; have n0_ := Aside0.mk (qd_ (by repeat (first | (with_reducible first | exact HB.out | apply qb_ | apply qa_ | apply qc_) | exact HB.out)) hb_); have GE108 := Aside0.mk ((by rw [hg_]; exact (qg_ (by repeat (first | (with_reducible first | exact HB.out | apply qb_ | apply qa_ | apply qc_) | exact HB.out))) : w.heap.size ≤ gb108)); have n1_ := Aside0.mk (hbox_); clear HB; have HB := n0_; have BK108 := n1_; clear n0_ n1_; clear hb_ hbox_ hg_; have hcz108_0 : w108.cell? ⟨gb108, 0, none⟩ = some (.int .i64 0) := (qe_ BK108.out 0).trans rfl; have hcz108_1 : w108.cell? ⟨gb108, 1, none⟩ = some (.int .i64 0) := (qe_ BK108.out 1).trans rfl; have hfz108_0 := qm_ BK108.out 0; have hfz108_1 := qm_ BK108.out 1) | (go_at_call 24; refine (ward_may.calls a1 a2 true _ HMAY.out).mono ?_; rintro e w9 ⟨rfl, hb9⟩; have n0_ := Aside0.mk (qd_ (qf_ (qf_ HB.out GE108.out (j := 0) (v := .int .i64 a1)) GE108.out (j := 1) (v := .int .i64 a2)) hb9); have n1_ : Aside0 (w9.heap[gb108]? = some (.cells #[.int .i64 a1, .int .i64 a2] 44 (0, 0))) := ⟨blk_bel (blk_set (blk_set BK108.out 0 (.int .i64 a1)) 1 (.int .i64 a2)) hb9⟩; clear HB BK108; have HB := n0_; have BK108 := n1_; clear n0_ n1_ hb9; have hcw9_108_0 : w9.cell? ⟨gb108, 0, none⟩ = some (.int .i64 a1) := (qe_ BK108.out 0).trans rfl; have hcw9_108_1 : w9.cell? ⟨gb108, 1, none⟩ = some (.int .i64 a2) := (qe_ BK108.out 1).trans rfl) | (go_at_call 14; refine (ward_Right.calls k A0 c0 l0 true _ (Kd.C_below HR.out (by repeat (first | (with_reducible first | exact HB.out | apply qb_ | apply qa_ | apply qc_) | exact HB.out))) HC.out HQ.out).mono ?_; rintro e w10 ⟨rfl, hb10⟩; have n0_ := Aside0.mk (qd_ (by repeat (first | (with_reducible first | exact HB.out | apply qb_ | apply qa_ | apply qc_) | exact HB.out)) hb10); have m108_ := Aside0.mk (blk_bel (by (with_reducible repeat (first | refine qh_ ?_ _ | refine qj_ ?_ | refine qi_ ?_ _)); exact BK108.out) hb10); clear HB; have HB := n0_; clear n0_; clear BK108; have BK108 := m108_; clear m108_; clear hb10; have hcw10_108_0 : w10.cell? ⟨gb108, 0, none⟩ = some (.int .i64 a1) := (qe_ BK108.out 0).trans rfl; have hcw10_108_1 : w10.cell? ⟨gb108, 1, none⟩ = some (.int .i64 a2) := (qe_ BK108.out 1).trans rfl) | (go_at_call 25; refine (HS.out _ (by repeat (first | (with_reducible first | exact HB.out | apply qb_ | apply qa_ | apply qc_) | exact HB.out))).mono ?_; rintro e w3 ⟨rfl, hb3⟩; have n0_ := Aside0.mk (qd_ (by repeat (first | (with_reducible first | exact HB.out | apply qb_ | apply qa_ | apply qc_) | exact HB.out)) hb3); have m108_ := Aside0.mk (blk_bel (by (with_reducible repeat (first | refine qh_ ?_ _ | refine qj_ ?_ | refine qi_ ?_ _)); exact BK108.out) hb3); clear HB; have HB := n0_; clear n0_; clear BK108; have BK108 := m108_; clear m108_; clear hb3; have hcw3_108_0 : w3.cell? ⟨gb108, 0, none⟩ = some (.int .i64 a1) := (qe_ BK108.out 0).trans rfl; have hcw3_108_1 : w3.cell? ⟨gb108, 1, none⟩ = some (.int .i64 a2) := (qe_ BK108.out 1).trans rfl) | (go_at_call 22; refine (api_Ward_22.calls A0 c0 l0 l0 _ (Kd.C_below HR.out (by repeat (first | (with_reducible first | exact HB.out | apply qb_ | apply qa_ | apply qc_) | exact HB.out))) HC.out HCL.out).mono ?_; rintro e w4 ⟨v5, rfl, ho5, hb4⟩; have HO5 := Aside0.mk (Kd.R_lower ho5 (qg_ (by repeat (first | (with_reducible first | exact HB.out | apply qb_ | apply qa_ | apply qc_) | exact HB.out)))); have n0_ := Aside0.mk (qd_ (by repeat (first | (with_reducible first | exact HB.out | apply qb_ | apply qa_ | apply qc_) | exact HB.out)) hb4); have m108_ := Aside0.mk (blk_bel (by (with_reducible repeat (first | refine qh_ ?_ _ | refine qj_ ?_ | refine qi_ ?_ _)); exact BK108.out) hb4); clear HB; have HB := n0_; clear n0_; clear BK108; have BK108 := m108_; clear m108_; clear hb4; have hcw4_108_0 : w4.cell? ⟨gb108, 0, none⟩ = some (.int .i64 a1) := (qe_ BK108.out 0).trans rfl; have hcw4_108_1 : w4.cell? ⟨gb108, 1, none⟩ = some (.int .i64 a2) := (qe_ BK108.out 1).trans rfl; clear ho5)
     | ((with_reducible refine gate_dst (N := 36) rfl ?_); refine lit_event (n := 1) ?hg (N := 36) ?hd (cs := #[.int .i64 a1, .int .i64 a2]) (t := 44) ?hr ?_; (case hd => rfl); (case hg => rfl); (case hr => first | (go_simp; done) | (go_simp; rfl)); intro gb105 hg_ w6 hbox_ hb_; have NE5 := Aside0.mk (show some gb105 ≠ v5.ownBlock from fun e_ => by have h1 := Kd.R_lt HO5.out gb105 e_.symm; omega); have BK105 := Aside0.mk hbox_; have n0_ := Aside0.mk (qd_ (by repeat (first | (with_reducible first | exact HB.out | apply qb_ | apply qa_ | apply qc_) | exact HB.out)) hb_); have n1_ := Aside0.mk (Kd.R_below HO5.out hb_); clear HB HO5; have HB := n0_; have HO5 := n1_; clear n0_ n1_ hbox_ hb_ hg_) | (go_at_call 27; refine (InsertW.calls v5 l0 i HIE.out ⟨a1, a2⟩ gb105 w.heap.size (fun _ => True) _ HO5.out (qg_ (by repeat (first | (with_reducible first | exact HB.out | apply qb_ | apply qa_ | apply qc_) | exact HB.out))) HL.out (fun _ _ => trivial) NE5.out BK105.out).mono ?_; rintro e w7 ⟨v8, rfl, ho8, hg8⟩; have n0_ := Aside0.mk (((by repeat (first | (with_reducible first | exact HB.out | apply qb_ | apply qa_ | apply qc_) | exact HB.out)) : Below w.heap.size w w6).grown hg8 (qg_ (by repeat (first | (with_reducible first | exact HB.out | apply qb_ | apply qa_ | apply qc_) | exact HB.out))) (Kd.R_base HO5.out)); have HO8 := Aside0.mk ho8; clear HB; have HB := n0_; clear n0_ ho8 hg8))
    go_ret2
    exact ⟨_, rfl, by rw [← HH.out]; exact Kd.V_mono (Kd.R_V (Kd.R_bound HO8.out)) (fun k_ hk => Or.inr hk.2.1), HB.out⟩
end Go.Proofs.Ytonggencfnaheaa.P

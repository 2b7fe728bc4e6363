/- What this function of the program comes to, and that the machine's call does it: written by a program (wip/tool). No condition. -/
import Derived.Test.YtfoeahjbkmdgfaaP0
import Derived.Test.YtfoeahjbkmdgfaaPApiEntry45
import Derived.Test.YtfoeahjbkmdgfaaPApiEntry48
import Derived.Test.YtfoeahjbkmdgfaaPApiEntry50
import Derived.Test.YtfoeahjbkmdgfaaHw
namespace Go.Proofs.Ytfoeahjbkmdgfaa.P
open Go.RowKit Go.Proofs.YtfoeahjbkmdgfaaW.PrintWords Go.Proofs.YtfoeahjbkmdgfaaW.PrintLast Go.Proofs.YtfoeahjbkmdgfaaW.PrintMore
attribute [local go_sem] max2_int min2_int max_two min_two vb_ va_ max_four min_four Go.Proofs.YtfoeahjbkmdgfaaW.Hw.string_gtr   -- for this text's walks alone
set_option linter.unusedVariables false
set_option linter.unusedSimpArgs false
/-! ### entry_Put: function 32 -/
theorem halveE_le (less : Nat → Bool) : ∀ (f lo hi : Nat), lo ≤ hi → halveE less f lo hi ≤ hi := by
 intro f
 induction f with
 | zero => intro lo hi h; exact h
 | succ f ih =>
  intro lo hi h
  unfold halveE
  split
  ·split
   ·exact ih _ _ (by omega)
   ·exact Nat.le_trans (ih _ _ (by omega)) (by omega)
  ·exact h
/-- The place of a key by halving. -/
def entry_Put.pl (l0 : List S40) (k : Int) : Nat := halveE (fun j => decide (wrap64 ((l0.getD j z40).f0 - k) < 0)) l0.length 0 l0.length
def entry_Put.hit (l0 : List S40) (k : Int) : Bool := decide (entry_Put.pl l0 k < l0.length) && decide (wrap64 ((l0.getD (entry_Put.pl l0 k) z40).f0 - k) = 0)
def entry_Put.f (l0 : List S40) (a1_0 : Int) (a1_1 : Int) (a1_2 : ByteArray) : Option (List S40) :=
 if l0.length < 1099511627776 then some (if entry_Put.hit l0 a1_0 = true then l0.set (entry_Put.pl l0 a1_0) ⟨a1_0, a1_1, a1_2⟩ else l0.take (entry_Put.pl l0 a1_0) ++ [⟨a1_0, a1_1, a1_2⟩] ++ l0.drop (entry_Put.pl l0 a1_0)) else none
open Go.Proofs.YtfoeahjbkmdgfaaW.Hw in
set_option maxHeartbeats 4000000 in
theorem entry_Put.pred (x t : S40) (W : World) : Calls Try.prog 49 (#[.agg #[.int .i64 x.f0, .int .i64 x.f1, .string x.f2], .agg #[.int .i64 t.f0, .int .i64 t.f1, .string t.f2]] ++ #[]) W fun e w' => e = .returned (.int .i64 (wrap64 (x.f0 - t.f0))) ∧ Below W.heap.size W w' := by
 have HB := Aside0.mk (Below.refl W.heap.size W)
 go_enter Try.func49, Try.ntmps49
 go_wp2_with (first | ((with_reducible refine qq_ (N := 2) rfl ?_); (try (refine qz_ (by rfl) ?_; dsimp only)); refine qp_ ?hg (N := 2) ?hd (cs := #[.int .i64 x.f0, .int .i64 x.f1, .string x.f2]) (t := 40) ?hr ?_; (case hd => rfl); (case hg => rfl); (case hr => first | (go_simp; done) | (go_simp; rfl)); intro gb102 hg_ w102 hbox_ hb_; have n0_ := Aside0.mk (ql_ (by repeat (first | (with_reducible first | exact HB.out | apply qc_ | apply qa_ | apply qb_) | exact HB.out)) hb_); have GE102 := Aside0.mk ((by rw [hg_]; exact (qj_ (by repeat (first | (with_reducible first | exact HB.out | apply qc_ | apply qa_ | apply qb_) | exact HB.out))) : W.heap.size ≤ gb102)); have n1_ := Aside0.mk (hbox_); clear HB; have HB := n0_; have BK102 := n1_; clear n0_ n1_; clear hb_ hbox_ hg_; have hcz102_0 : w102.cell? ⟨gb102, 0, none⟩ = some (.int .i64 x.f0) := (qg_ BK102.out 0).trans rfl; have hcz102_1 : w102.cell? ⟨gb102, 1, none⟩ = some (.int .i64 x.f1) := (qg_ BK102.out 1).trans rfl; have hcz102_2 : w102.cell? ⟨gb102, 2, none⟩ = some (.string x.f2) := (qg_ BK102.out 2).trans rfl; have hfz102_0 := qi_ BK102.out 0; have hfz102_1 := qi_ BK102.out 1; have hfz102_2 := qi_ BK102.out 2) | ((with_reducible refine qq_ (N := 3) rfl ?_); (try (refine qz_ (by rfl) ?_; dsimp only)); refine qp_ ?hg (N := 3) ?hd (cs := #[.int .i64 t.f0, .int .i64 t.f1, .string t.f2]) (t := 40) ?hr ?_; (case hd => rfl); (case hg => rfl); (case hr => first | (go_simp; done) | (go_simp; rfl)); intro gb103 hg_ w103 hbox_ hb_; have n0_ := Aside0.mk (ql_ (by repeat (first | (with_reducible first | exact HB.out | apply qc_ | apply qa_ | apply qb_) | exact HB.out)) hb_); have GE103 := Aside0.mk ((by rw [hg_]; exact (qj_ (by repeat (first | (with_reducible first | exact HB.out | apply qc_ | apply qa_ | apply qb_) | exact HB.out))) : W.heap.size ≤ gb103)); have n1_ := Aside0.mk (hbox_); have NB102_103 : Aside0 (gb102 ≠ gb103) := ⟨fun e_ => by have h1 := blk_lt (by (with_reducible repeat (first | refine qe_ ?_ _ | refine qh_ ?_ | refine qd_ ?_ _)); exact BK102.out); rw [e_, hg_] at h1; exact absurd h1 (Nat.lt_irrefl _)⟩; have m102_ := Aside0.mk (blk_bel (by (with_reducible repeat (first | refine qe_ ?_ _ | refine qh_ ?_ | refine qd_ ?_ _)); exact BK102.out) hb_); clear BK102; have BK102 := m102_; clear m102_; clear HB; have HB := n0_; have BK103 := n1_; clear n0_ n1_; clear hb_ hbox_ hg_; have hcz103_0 : w103.cell? ⟨gb103, 0, none⟩ = some (.int .i64 t.f0) := (qg_ BK103.out 0).trans rfl; have hcz103_1 : w103.cell? ⟨gb103, 1, none⟩ = some (.int .i64 t.f1) := (qg_ BK103.out 1).trans rfl; have hcz103_2 : w103.cell? ⟨gb103, 2, none⟩ = some (.string t.f2) := (qg_ BK103.out 2).trans rfl; have hfz103_0 := qi_ BK103.out 0; have hfz103_1 := qi_ BK103.out 1; have hfz103_2 := qi_ BK103.out 2; have hcw103_102_0 : w103.cell? ⟨gb102, 0, none⟩ = some (.int .i64 x.f0) := (qg_ BK102.out 0).trans rfl; have hcw103_102_1 : w103.cell? ⟨gb102, 1, none⟩ = some (.int .i64 x.f1) := (qg_ BK102.out 1).trans rfl; have hcw103_102_2 : w103.cell? ⟨gb102, 2, none⟩ = some (.string x.f2) := (qg_ BK102.out 2).trans rfl))
 go_ret
 exact ⟨by first | rfl | (simp; done) | (simp [*]; done), (by repeat (first | (with_reducible first | exact HB.out | apply qc_ | apply qa_ | apply qb_) | exact HB.out))⟩
open Go.Proofs.YtfoeahjbkmdgfaaW.Hw in
set_option maxHeartbeats 16000000 in
set_option maxRecDepth 100000 in
theorem entry_Put.calls (A0 : Option Addr) (c0 : Nat) (l0 : List S40) (a1_0 : Int) (a1_1 : Int) (a1_2 : ByteArray) (r : List S40) (w : World) (hr0 : Kd.C k40 w A0 l0.length l0) (hc0 : l0.length ≤ c0) (h : entry_Put.f l0 a1_0 a1_1 a1_2 = some r) :
  Calls Try.prog 32 #[.slice A0 l0.length c0, .agg #[.int .i64 a1_0, .int .i64 a1_1, .string a1_2]] w fun e w' => ∃ v0_ : Value, e = .returned v0_ ∧ Kd.R k40 40 w' w.heap.size (fun _ => True) v0_ r ∧ Below w.heap.size w w' := by
 unfold entry_Put.f at h
 by_cases hl : l0.length < 1099511627776
 case neg => rw [if_neg hl] at h; cases h
 rw [if_pos hl] at h
 have h := Option.some.inj h
 have hHI := halveE_le (fun j => decide (wrap64 ((l0.getD j z40).f0 - a1_0) < 0)) l0.length 0 l0.length (Nat.zero_le _)
 have HCL := Aside0.mk (show api_Entry_45.f l0 = some l0 by unfold api_Entry_45.f; rw [if_pos (by omega)])
 have EG := fun args w => enters Try.prog Try.func49 (by kernel_rfl) (by kernel_rfl) args w
 have hsr := fun (W : World) (hW : Below w.heap.size w W) => SearchE.calls (fun x => wrap64 (x.f0 - a1_0)) ⟨a1_0, a1_1, a1_2⟩ 49 #[] EG A0 c0 l0 W (fun W' x _ => entry_Put.pred x ⟨a1_0, a1_1, a1_2⟩ W') (Kd.C_below hr0 hW) hl
 unfold entry_Put.hit entry_Put.pl at h
 dsimp only at hsr
 try dsimp only at hHI
 try dsimp only at h
 generalize hi_ : halveE (fun j => decide (wrap64 ((l0.getD j z40).f0 - a1_0) < 0)) l0.length 0 l0.length = i at hsr hHI h
 generalize hb_ : (decide (i < l0.length) && decide (wrap64 ((l0.getD i z40).f0 - a1_0) = 0)) = b at hsr h
 have HS := Aside0.mk hsr
 have HL := Aside0.mk hl
 have HR := Aside0.mk hr0
 have HC := Aside0.mk hc0
 have HIE := Aside0.mk hHI
 clear hr0 hc0 hsr hl hi_ EG hHI
 have HB := Aside0.mk (Below.refl w.heap.size w)
 cases b with
 | true =>
  have hil : i < l0.length := by
   rw [Bool.and_eq_true] at hb_
   exact of_decide_eq_true hb_.1
  have HP := Aside0.mk (show 0 < l0.length by omega)
  rw [if_pos rfl] at h
  have HH := Aside0.mk h
  have q1 : (0 : Int) ≤ (i : Int) := by omega
  have q2 : (i : Int) < (l0.length : Int) := by omega
  have p1 := eq_true q1
  have p2 := eq_true q2
  have p3 := eq_true hil
  have Q1 := Aside0.mk q1
  have Q2 := Aside0.mk q2
  clear h hb_ hil q1 q2
  go_enter Try.func32, Try.ntmps32
  go_wp2_with (first
   | ((with_reducible refine qq_ (N := 3) rfl ?_); (try (refine qz_ (by rfl) ?_; dsimp only)); refine qp_ ?hg (N := 3) ?hd (cs := #[.int .i64 a1_0, .int .i64 a1_1, .string a1_2]) (t := 40) ?hr ?_; (case hd => rfl); (case hg => rfl); (case hr => first | (go_simp; done) | (go_simp; rfl)); intro gb101 hg_ w101 hbox_ hb_; have n0_ := Aside0.mk (ql_ (by repeat (first | (with_reducible first | exact HB.out | apply qc_ | apply qa_ | apply qb_) | exact HB.out)) hb_); have GE101 := Aside0.mk ((by rw [hg_]; exact (qj_ (by repeat (first | (with_reducible first | exact HB.out | apply qc_ | apply qa_ | apply qb_) | exact HB.out))) : w.heap.size ≤ gb101)); have n1_ := Aside0.mk (hbox_); clear HB; have HB := n0_; have BK101 := n1_; clear n0_ n1_; clear hb_ hbox_ hg_; have hcz101_0 : w101.cell? ⟨gb101, 0, none⟩ = some (.int .i64 a1_0) := (qg_ BK101.out 0).trans rfl; have hcz101_1 : w101.cell? ⟨gb101, 1, none⟩ = some (.int .i64 a1_1) := (qg_ BK101.out 1).trans rfl; have hcz101_2 : w101.cell? ⟨gb101, 2, none⟩ = some (.string a1_2) := (qg_ BK101.out 2).trans rfl; have hfz101_0 := qi_ BK101.out 0; have hfz101_1 := qi_ BK101.out 1; have hfz101_2 := qi_ BK101.out 2) | (go_at_call 48; refine (HS.out _ (by repeat (first | (with_reducible first | exact HB.out | apply qc_ | apply qa_ | apply qb_) | exact HB.out))).mono ?_; rintro e w3 ⟨rfl, hb3⟩; have n0_ := Aside0.mk (ql_ (by repeat (first | (with_reducible first | exact HB.out | apply qc_ | apply qa_ | apply qb_) | exact HB.out)) hb3); have m101_ := Aside0.mk (blk_bel (by (with_reducible repeat (first | refine qe_ ?_ _ | refine qh_ ?_ | refine qd_ ?_ _)); exact BK101.out) hb3); clear HB; have HB := n0_; clear n0_; clear BK101; have BK101 := m101_; clear m101_; clear hb3) | (go_at_call 45; refine (api_Entry_45.calls A0 c0 l0 l0 _ (Kd.C_below HR.out (by repeat (first | (with_reducible first | exact HB.out | apply qc_ | apply qa_ | apply qb_) | exact HB.out))) HC.out HCL.out).mono ?_; rintro e w4 ⟨v5, rfl, ho5, hb4⟩; obtain ⟨g5, cap5, rfl, hgb5, hglt5, hcx5⟩ := Kd.R_form ho5 HP.out; have HO5 := Aside0.mk (Kd.R_lower ho5 (qj_ (by repeat (first | (with_reducible first | exact HB.out | apply qc_ | apply qa_ | apply qb_) | exact HB.out)))); have n0_ := Aside0.mk (ql_ (by repeat (first | (with_reducible first | exact HB.out | apply qc_ | apply qa_ | apply qb_) | exact HB.out)) hb4); have m101_ := Aside0.mk (blk_bel (by (with_reducible repeat (first | refine qe_ ?_ _ | refine qh_ ?_ | refine qd_ ?_ _)); exact BK101.out) hb4); clear HB; have HB := n0_; clear n0_; clear BK101; have BK101 := m101_; clear m101_; clear hb4; have hcw4_101_0 : w4.cell? ⟨gb101, 0, none⟩ = some (.int .i64 a1_0) := (qg_ BK101.out 0).trans rfl; have hcw4_101_1 : w4.cell? ⟨gb101, 1, none⟩ = some (.int .i64 a1_1) := (qg_ BK101.out 1).trans rfl; have hcw4_101_2 : w4.cell? ⟨gb101, 2, none⟩ = some (.string a1_2) := (qg_ BK101.out 2).trans rfl; obtain ⟨co, hclo, hMo, hcco, hfro⟩ := Kd.R_elem HO5.out z40 (i : Int) Q1.out Q2.out; have hfz0 := hfro 0; have hfz1 := hfro 1; have hfz2 := hfro 2; obtain rfl := k40_openM hMo; have HCC := Aside0.mk hcco; clear ho5 hclo hMo hcco hfro hgb5 hglt5 hcx5 hfz0 hfz1 hfz2)
   | ((with_reducible refine gate_store (t := 40) (p := 19) rfl ?_); refine Kd.R_store k40 (w0 := w) (W := w4) w.heap.size rfl rfl 40 (.tmp 19) (.tmp 18) rfl 40 (g := g5) (n := l0.length) (cap := cap5) (o' := (i : Int).toNat * 3) (i : Int) 0 l0 ⟨a1_0, a1_1, a1_2⟩ (.agg #[.int .i64 a1_0, .int .i64 a1_1, .string a1_2]) [.int .i64 a1_0, .int .i64 a1_1, .string a1_2] [.int .i64 (l0.getD (i : Int).toNat z40).f0, .int .i64 (l0.getD (i : Int).toNat z40).f1, .string (l0.getD (i : Int).toNat z40).f2] (fun _ => True) (fun k => True ∧ k ≠ g5) ?ha ?ho ?hx rfl (by kernel_rfl) ?h1 HO5.out Q1.out Q2.out rfl ?hcc (show (3 : Nat) ≤ 3 from Nat.le_refl 3) (k40_mkM w4 _ _ ⟨a1_0, a1_1, a1_2⟩) (fun _ hk => hk) (by repeat (first | (with_reducible first | exact HB.out | apply qc_ | apply qa_ | apply qb_) | exact HB.out)) ?_; (case ha => first | rfl | (go_simp; done) | (go_simp; rfl)); (case ho => first | rfl | (simp; done)); (case hx => first | rfl | (go_simp; done) | (go_simp; rfl)); (case h1 => intro q hq_; simp only [List.mem_cons, List.not_mem_nil, or_false] at hq_; rcases hq_ with rfl | rfl | rfl <;> rfl); (case hcc => exact HCC.out); intro w5 hR5 hB5 hg5; have HR5 := Aside0.mk hR5; have HB5 := Aside0.mk hB5; clear hR5 hB5 hg5))
  go_ret
  exact ⟨_, rfl, by rw [← HH.out]; exact HR5.out, HB5.out⟩
 | false =>
  rw [if_neg (by decide)] at h
  have HH := Aside0.mk h
  clear h hb_
  go_enter Try.func32, Try.ntmps32
  go_wp2_with (first
   | ((with_reducible refine qq_ (N := 3) rfl ?_); (try (refine qz_ (by rfl) ?_; dsimp only)); refine qp_ ?hg (N := 3) ?hd (cs := #[.int .i64 a1_0, .int .i64 a1_1, .string a1_2]) (t := 40) ?hr ?_; (case hd => rfl); (case hg => rfl); (case hr => first | (go_simp; done) | (go_simp; rfl)); intro gb101 hg_ w101 hbox_ hb_; have n0_ := Aside0.mk (ql_ (by repeat (first | (with_reducible first | exact HB.out | apply qc_ | apply qa_ | apply qb_) | exact HB.out)) hb_); have GE101 := Aside0.mk ((by rw [hg_]; exact (qj_ (by repeat (first | (with_reducible first | exact HB.out | apply qc_ | apply qa_ | apply qb_) | exact HB.out))) : w.heap.size ≤ gb101)); have n1_ := Aside0.mk (hbox_); clear HB; have HB := n0_; have BK101 := n1_; clear n0_ n1_; clear hb_ hbox_ hg_; have hcz101_0 : w101.cell? ⟨gb101, 0, none⟩ = some (.int .i64 a1_0) := (qg_ BK101.out 0).trans rfl; have hcz101_1 : w101.cell? ⟨gb101, 1, none⟩ = some (.int .i64 a1_1) := (qg_ BK101.out 1).trans rfl; have hcz101_2 : w101.cell? ⟨gb101, 2, none⟩ = some (.string a1_2) := (qg_ BK101.out 2).trans rfl; have hfz101_0 := qi_ BK101.out 0; have hfz101_1 := qi_ BK101.out 1; have hfz101_2 := qi_ BK101.out 2) | (go_at_call 48; refine (HS.out _ (by repeat (first | (with_reducible first | exact HB.out | apply qc_ | apply qa_ | apply qb_) | exact HB.out))).mono ?_; rintro e w3 ⟨rfl, hb3⟩; have n0_ := Aside0.mk (ql_ (by repeat (first | (with_reducible first | exact HB.out | apply qc_ | apply qa_ | apply qb_) | exact HB.out)) hb3); have m101_ := Aside0.mk (blk_bel (by (with_reducible repeat (first | refine qe_ ?_ _ | refine qh_ ?_ | refine qd_ ?_ _)); exact BK101.out) hb3); clear HB; have HB := n0_; clear n0_; clear BK101; have BK101 := m101_; clear m101_; clear hb3) | (go_at_call 45; refine (api_Entry_45.calls A0 c0 l0 l0 _ (Kd.C_below HR.out (by repeat (first | (with_reducible first | exact HB.out | apply qc_ | apply qa_ | apply qb_) | exact HB.out))) HC.out HCL.out).mono ?_; rintro e w4 ⟨v5, rfl, ho5, hb4⟩; have HO5 := Aside0.mk (Kd.R_lower ho5 (qj_ (by repeat (first | (with_reducible first | exact HB.out | apply qc_ | apply qa_ | apply qb_) | exact HB.out)))); have n0_ := Aside0.mk (ql_ (by repeat (first | (with_reducible first | exact HB.out | apply qc_ | apply qa_ | apply qb_) | exact HB.out)) hb4); have m101_ := Aside0.mk (blk_bel (by (with_reducible repeat (first | refine qe_ ?_ _ | refine qh_ ?_ | refine qd_ ?_ _)); exact BK101.out) hb4); clear HB; have HB := n0_; clear n0_; clear BK101; have BK101 := m101_; clear m101_; clear hb4; have hcw4_101_0 : w4.cell? ⟨gb101, 0, none⟩ = some (.int .i64 a1_0) := (qg_ BK101.out 0).trans rfl; have hcw4_101_1 : w4.cell? ⟨gb101, 1, none⟩ = some (.int .i64 a1_1) := (qg_ BK101.out 1).trans rfl; have hcw4_101_2 : w4.cell? ⟨gb101, 2, none⟩ = some (.string a1_2) := (qg_ BK101.out 2).trans rfl; clear ho5)
   | ((with_reducible refine qq_ (N := 24) rfl ?_); refine lit_event (n := 1) ?hg (N := 24) ?hd (cs := #[.int .i64 a1_0, .int .i64 a1_1, .string a1_2]) (t := 40) ?hr ?_; (case hd => rfl); (case hg => rfl); (case hr => first | (go_simp; done) | (go_simp; rfl)); intro gb105 hg_ w6 hbox_ hb_; have NE5 := Aside0.mk (show some gb105 ≠ v5.ownBlock from fun e_ => by have h1 := Kd.R_lt HO5.out gb105 e_.symm; omega); have BK105 := Aside0.mk hbox_; have n0_ := Aside0.mk (ql_ (by repeat (first | (with_reducible first | exact HB.out | apply qc_ | apply qa_ | apply qb_) | exact HB.out)) hb_); have n1_ := Aside0.mk (Kd.R_below HO5.out hb_); clear HB HO5; have HB := n0_; have HO5 := n1_; clear n0_ n1_ hbox_ hb_ hg_) | (go_at_call 50; refine (InsertE.calls v5 l0 i HIE.out ⟨a1_0, a1_1, a1_2⟩ gb105 w.heap.size (fun _ => True) _ HO5.out (qj_ (by repeat (first | (with_reducible first | exact HB.out | apply qc_ | apply qa_ | apply qb_) | exact HB.out))) HL.out (fun _ _ => trivial) NE5.out BK105.out).mono ?_; rintro e w7 ⟨v8, rfl, ho8, hg8⟩; have n0_ := Aside0.mk (((by repeat (first | (with_reducible first | exact HB.out | apply qc_ | apply qa_ | apply qb_) | exact HB.out)) : Below w.heap.size w w6).grown hg8 (qj_ (by repeat (first | (with_reducible first | exact HB.out | apply qc_ | apply qa_ | apply qb_) | exact HB.out))) (Kd.R_base HO5.out)); have HO8 := Aside0.mk ho8; clear HB; have HB := n0_; clear n0_ ho8 hg8))
  go_ret
  exact ⟨_, rfl, by rw [← HH.out]; exact HO8.out, HB.out⟩
end Go.Proofs.Ytfoeahjbkmdgfaa.P

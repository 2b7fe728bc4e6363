/- BlockWakes: the law's walk where it answers true. No condition. -/
import Derived.Test.YtckodbfjihcddaaSecL
import Derived.Test.YtckodbfjihcddaaPBlockGet
import Derived.Test.YtckodbfjihcddaaPBlockSame
import Derived.Test.YtckodbfjihcddaaPBlockNew
namespace Go.Proofs.Ytckodbfjihcddaa.P
open Go.RowKit Go.Proofs.YtckodbfjihcddaaW.PrintWords Go.Proofs.YtckodbfjihcddaaW.PrintLast Go.Proofs.YtckodbfjihcddaaW.PrintMore Go.Proofs.YtckodbfjihcddaaW.Hw
attribute [local go_sem] max2_int min2_int max_two min_two ql_ qk_ max_four min_four Go.Proofs.YtckodbfjihcddaaW.Hw.string_gtr
set_option linter.unusedVariables false
set_option linter.unusedSimpArgs false
theorem law12_BlockWakes.same_self (l : List S26) (f : Int) (b : Bool) : ref12_Same.f l f b l f b = some true := by simp [ref12_Same.f]
def law12_BlockWakes.f (l0_0 : List S26) (a0_1 : Int) (a0_2 : Bool) (a1 : Int) : Option Bool := (block_Wake.f l0_0 a0_1 a0_2).bind fun x => if (l0_0.length : Int) > 64 then (if (l0_0.length : Int) > 200 then some true else some (decide ((l0_0, a0_1, a0_2, 1) = x))) else (block_Right.f l0_0 a0_1 a0_2).bind fun t => if t = true then (block_Wake.f x.1 x.2.1 x.2.2.1).bind fun y => some (decide ((l0_0, -1, false, 0) = x) && (decide ((l0_0, -1, false, 0) = y) && (List.range l0_0.length).all (fun i => decide (block_Get.f l0_0 (-1) false i = some (l0_0.getD i z26, 0))))) else some (decide ((l0_0, a0_1, a0_2, 1) = x))
set_option maxHeartbeats 8000000 in
set_option maxRecDepth 100000 in
theorem law12_BlockWakes.calls (P0_0_ : Nat → Prop) (A0_0 : Option Addr) (c0_0 : Nat) (l0_0 : List S26) (a0_1 : Int) (a0_2 : Bool) (a1 : Int) (r : Bool) (w : World) (hs0_0 : Kd.V k26 26 w w.heap.size (fun k_ => P0_0_ k_) (.slice A0_0 l0_0.length c0_0) l0_0) (h : law12_BlockWakes.f l0_0 a0_1 a0_2 a1 = some r) (hrt : r = true) :
  Calls Try.prog 6 #[.agg #[.slice A0_0 l0_0.length c0_0, .int .i64 a0_1, .bool a0_2], .int .u8 a1] w fun e w' => e = .returned (.bool true) ∧ Below w.heap.size w w' := by
 have hu24 := Try.underlying24
 have hu26 := Try.underlying26
 have hu5 := Try.underlying5
 obtain ⟨ti, hti, _⟩ := Option.map_eq_some_iff.1 info5
 unfold law12_BlockWakes.f at h
 obtain ⟨⟨x1, x2, x3, x4⟩, h1, h⟩ := Option.bind_eq_some_iff.1 h
 have S0 := Zq_.mk ((St.start w).came hs0_0)
 clear hs0_0
 by_cases hn : (l0_0.length : Int) > 64
 case pos =>
  rw [if_pos hn] at h
  have hn1 : decide ((l0_0.length : Int) > 64) = true := decide_eq_true hn
  have hn2 : ((l0_0.length : Int) > 64) = True := eq_true hn
  by_cases hm : (l0_0.length : Int) > 200
  case pos =>
   have hm1 : decide ((l0_0.length : Int) > 200) = true := decide_eq_true hm
   have hm2 : ((l0_0.length : Int) > 200) = True := eq_true hm
   go_enter Try.func6, Try.ntmps6
   go_upto_region 3 with (first | ((with_reducible refine qc_ (N := 2) rfl ?_); refine box_event ?hg (N := 2) ?hd (cs := #[.slice A0_0 l0_0.length c0_0, .int .i64 a0_1, .bool a0_2]) (t := 24) ?hr ?_; (case hd => rfl); (case hg => rfl); (case hr => first | (go_simp; done) | (go_simp; rfl)); intro g1 hg_ w1 hk_ hb_; have S1 := Zq_.mk (S0.out.box hb_ (Nat.le_of_eq hg_.symm) hk_); clear S0 hb_ hg_ hk_) | (go_at_call 8; refine (law12_alive.holds _).mono ?_; rintro e_ w2 ⟨rfl, hb_⟩; have S2 := Zq_.mk (S1.out.step hb_); clear S1 hb_))
   have y2_0 := (qb_ (S2.out.bk 0 rfl) 0).trans rfl
   go_upto_region 5 with (first | ((with_reducible refine qc_ (N := 26) rfl ?_); refine load_box rfl 24 (.tmp 2) rfl ?lp (S2.out.bk 0 rfl) hu24 rfl (by kernel_rfl) ?_; (case lp => first | rfl | (go_simp; done) | (go_simp; rfl))) | (go_at_call 18; refine (block_Wake.calls _ A0_0 c0_0 l0_0 a0_1 a0_2 _ _ _ _ _ (S2.out.lies 0 rfl) h1).mono ?_; rintro e_ w3 ⟨v_, rfl, hv_, hb_⟩; obtain ⟨A3, c3, rfl⟩ := Kd.V_slice hv_; have S3 := Zq_.mk (S2.out.got hb_ hv_); clear S2 hv_ hb_) | ((with_reducible refine qc_ (N := 5) rfl ?_); refine alloc_store rfl (N := 5) rfl (cs := #[.slice none 0 0, .int .i64 0, .bool false]) (cs' := #[.slice A3 x1.length c3, .int .i64 x2, .bool x3]) (t := 24) ?hr rfl rfl (.tmp 28) rfl ?hp ?hx (by kernel_rfl) rfl (disk_one ..) ?_; (case hr => first | (go_simp; done) | (go_simp; rfl)); (case hp => intro v_; first | rfl | (go_simp; done)); (case hx => intro v_; first | rfl | (go_simp; done) | (go_simp; rfl)); intro g4 hg_ w4 hk_ hb_; have S4 := Zq_.mk (S3.out.box hb_ hg_ hk_); clear S3 hb_ hg_ hk_))
   have y2_0 := (qb_ (S4.out.bk 1 rfl) 0).trans rfl
   go_wp2
   go_ret
   exact ⟨rfl, S4.out.1⟩
  rw [if_neg hm] at h
  have hm1 : decide ((l0_0.length : Int) > 200) = false := decide_eq_false hm
  have hm2 : ((l0_0.length : Int) > 200) = False := eq_false hm
  have h := (Option.some.inj h).trans hrt
  simp only [decide_eq_true_eq, Prod.mk.injEq] at h
  obtain ⟨rfl, rfl, rfl, rfl⟩ := h
  go_enter Try.func6, Try.ntmps6
  go_upto_region 3 with (first | ((with_reducible refine qc_ (N := 2) rfl ?_); refine box_event ?hg (N := 2) ?hd (cs := #[.slice A0_0 l0_0.length c0_0, .int .i64 a0_1, .bool a0_2]) (t := 24) ?hr ?_; (case hd => rfl); (case hg => rfl); (case hr => first | (go_simp; done) | (go_simp; rfl)); intro g1 hg_ w1 hk_ hb_; have S1 := Zq_.mk (S0.out.box hb_ (Nat.le_of_eq hg_.symm) hk_); clear S0 hb_ hg_ hk_) | (go_at_call 8; refine (law12_alive.holds _).mono ?_; rintro e_ w2 ⟨rfl, hb_⟩; have S2 := Zq_.mk (S1.out.step hb_); clear S1 hb_))
  have y2_0 := (qb_ (S2.out.bk 0 rfl) 0).trans rfl
  go_upto_region 5 with (first | ((with_reducible refine qc_ (N := 26) rfl ?_); refine load_box rfl 24 (.tmp 2) rfl ?lp (S2.out.bk 0 rfl) hu24 rfl (by kernel_rfl) ?_; (case lp => first | rfl | (go_simp; done) | (go_simp; rfl))) | (go_at_call 18; refine (block_Wake.calls _ A0_0 c0_0 l0_0 a0_1 a0_2 _ _ _ _ _ (S2.out.lies 0 rfl) h1).mono ?_; rintro e_ w3 ⟨v_, rfl, hv_, hb_⟩; obtain ⟨A3, c3, rfl⟩ := Kd.V_slice hv_; have S3 := Zq_.mk (S2.out.got hb_ hv_); clear S2 hv_ hb_) | ((with_reducible refine qc_ (N := 5) rfl ?_); refine alloc_store rfl (N := 5) rfl (cs := #[.slice none 0 0, .int .i64 0, .bool false]) (cs' := #[.slice A3 l0_0.length c3, .int .i64 a0_1, .bool a0_2]) (t := 24) ?hr rfl rfl (.tmp 28) rfl ?hp ?hx (by kernel_rfl) rfl (disk_one ..) ?_; (case hr => first | (go_simp; done) | (go_simp; rfl)); (case hp => intro v_; first | rfl | (go_simp; done)); (case hx => intro v_; first | rfl | (go_simp; done) | (go_simp; rfl)); intro g4 hg_ w4 hk_ hb_; have S4 := Zq_.mk (S3.out.box hb_ hg_ hk_); clear S3 hb_ hg_ hk_))
  have y2_0 := (qb_ (S4.out.bk 1 rfl) 0).trans rfl
  go_wp2_with (first | ((with_reducible refine qc_ (N := 38) rfl ?_); refine qd_ (by rfl) ?_; refine load_box rfl 24 (.tmp 5) rfl ?lp (S4.out.bk 0 rfl) hu24 rfl (by kernel_rfl) ?_; (case lp => first | rfl | (go_simp; done) | (go_simp; rfl))) | ((with_reducible refine qc_ (N := 39) rfl ?_); refine qd_ (by rfl) ?_; refine load_box rfl 24 (.tmp 2) rfl ?lp (S4.out.bk 1 rfl) hu24 rfl (by kernel_rfl) ?_; (case lp => first | rfl | (go_simp; done) | (go_simp; rfl))) | (go_at_call 16; refine (ref12_Same.calls A3 c3 l0_0 a0_1 a0_2 A0_0 c0_0 l0_0 a0_1 a0_2 _ _ (S4.out.reads 0 rfl) (S4.out.room 0 rfl) (S4.out.reads 1 rfl) (S4.out.room 1 rfl) (law12_BlockWakes.same_self ..)).mono ?_; rintro e_ w5 ⟨rfl, hb_⟩; have S5 := Zq_.mk (S4.out.step hb_); clear S4 hb_))
  go_ret
  exact ⟨rfl, S5.out.1⟩
 rw [if_neg hn] at h
 have hn1 : decide ((l0_0.length : Int) > 64) = false := decide_eq_false hn
 have hn2 : ((l0_0.length : Int) > 64) = False := eq_false hn
 have hm : ¬ ((l0_0.length : Int) > 200) := by omega
 have hm1 : decide ((l0_0.length : Int) > 200) = false := decide_eq_false hm
 have hm2 : ((l0_0.length : Int) > 200) = False := eq_false hm
 obtain ⟨c, h2, h⟩ := Option.bind_eq_some_iff.1 h
 cases c with
 | false =>
  rw [if_neg (by decide)] at h
  have h := (Option.some.inj h).trans hrt
  simp only [decide_eq_true_eq, Prod.mk.injEq] at h
  obtain ⟨rfl, rfl, rfl, rfl⟩ := h
  go_enter Try.func6, Try.ntmps6
  go_upto_region 3 with (first | ((with_reducible refine qc_ (N := 2) rfl ?_); refine box_event ?hg (N := 2) ?hd (cs := #[.slice A0_0 l0_0.length c0_0, .int .i64 a0_1, .bool a0_2]) (t := 24) ?hr ?_; (case hd => rfl); (case hg => rfl); (case hr => first | (go_simp; done) | (go_simp; rfl)); intro g1 hg_ w1 hk_ hb_; have S1 := Zq_.mk (S0.out.box hb_ (Nat.le_of_eq hg_.symm) hk_); clear S0 hb_ hg_ hk_) | (go_at_call 8; refine (law12_alive.holds _).mono ?_; rintro e_ w2 ⟨rfl, hb_⟩; have S2 := Zq_.mk (S1.out.step hb_); clear S1 hb_))
  have y2_0 := (qb_ (S2.out.bk 0 rfl) 0).trans rfl
  go_upto_region 5 with (first | ((with_reducible refine qc_ (N := 21) rfl ?_); refine qd_ (by rfl) ?_; refine load_box rfl 24 (.tmp 2) rfl ?lp (S2.out.bk 0 rfl) hu24 rfl (by kernel_rfl) ?_; (case lp => first | rfl | (go_simp; done) | (go_simp; rfl))) | (go_at_call 19; refine (block_Right.calls A0_0 c0_0 l0_0 a0_1 a0_2 _ _ (S2.out.reads 0 rfl) (S2.out.room 0 rfl) h2).mono ?_; rintro e_ w3 ⟨rfl, hb_⟩; have S3 := Zq_.mk (S2.out.step hb_); clear S2 hb_) | ((with_reducible refine qc_ (N := 26) rfl ?_); refine load_box rfl 24 (.tmp 2) rfl ?lp (S3.out.bk 0 rfl) hu24 rfl (by kernel_rfl) ?_; (case lp => first | rfl | (go_simp; done) | (go_simp; rfl))) | (go_at_call 18; refine (block_Wake.calls _ A0_0 c0_0 l0_0 a0_1 a0_2 _ _ _ _ _ (S3.out.lies 0 rfl) h1).mono ?_; rintro e_ w4 ⟨v_, rfl, hv_, hb_⟩; obtain ⟨A4, c4, rfl⟩ := Kd.V_slice hv_; have S4 := Zq_.mk (S3.out.got hb_ hv_); clear S3 hv_ hb_) | ((with_reducible refine qc_ (N := 5) rfl ?_); refine alloc_store rfl (N := 5) rfl (cs := #[.slice none 0 0, .int .i64 0, .bool false]) (cs' := #[.slice A4 l0_0.length c4, .int .i64 a0_1, .bool a0_2]) (t := 24) ?hr rfl rfl (.tmp 28) rfl ?hp ?hx (by kernel_rfl) rfl (disk_one ..) ?_; (case hr => first | (go_simp; done) | (go_simp; rfl)); (case hp => intro v_; first | rfl | (go_simp; done)); (case hx => intro v_; first | rfl | (go_simp; done) | (go_simp; rfl)); intro g5 hg_ w5 hk_ hb_; have S5 := Zq_.mk (S4.out.box hb_ hg_ hk_); clear S4 hb_ hg_ hk_))
  have y2_0 := (qb_ (S5.out.bk 1 rfl) 0).trans rfl
  go_wp2_with (first | ((with_reducible refine qc_ (N := 38) rfl ?_); refine qd_ (by rfl) ?_; refine load_box rfl 24 (.tmp 5) rfl ?lp (S5.out.bk 0 rfl) hu24 rfl (by kernel_rfl) ?_; (case lp => first | rfl | (go_simp; done) | (go_simp; rfl))) | ((with_reducible refine qc_ (N := 39) rfl ?_); refine qd_ (by rfl) ?_; refine load_box rfl 24 (.tmp 2) rfl ?lp (S5.out.bk 1 rfl) hu24 rfl (by kernel_rfl) ?_; (case lp => first | rfl | (go_simp; done) | (go_simp; rfl))) | (go_at_call 16; refine (ref12_Same.calls A4 c4 l0_0 a0_1 a0_2 A0_0 c0_0 l0_0 a0_1 a0_2 _ _ (S5.out.reads 0 rfl) (S5.out.room 0 rfl) (S5.out.reads 1 rfl) (S5.out.room 1 rfl) (law12_BlockWakes.same_self ..)).mono ?_; rintro e_ w6 ⟨rfl, hb_⟩; have S6 := Zq_.mk (S5.out.step hb_); clear S5 hb_))
  go_ret
  exact ⟨rfl, S6.out.1⟩
 | true =>
  rw [if_pos rfl] at h
  obtain ⟨⟨y1, y2, y3, y4⟩, h3, h⟩ := Option.bind_eq_some_iff.1 h
  have h := (Option.some.inj h).trans hrt
  simp only [Bool.and_eq_true, decide_eq_true_eq, Prod.mk.injEq, List.all_eq_true, List.mem_range] at h
  obtain ⟨⟨rfl, rfl, rfl, rfl⟩, ⟨rfl, rfl, rfl, rfl⟩, hg⟩ := h
  have HG := Zq_.mk hg
  clear hg
  have HLM := Zq_.mk (S0.out.reads 0 rfl).2.1
  go_enter Try.func6, Try.ntmps6
  go_upto_region 3 with (first | ((with_reducible refine qc_ (N := 2) rfl ?_); refine box_event ?hg (N := 2) ?hd (cs := #[.slice A0_0 l0_0.length c0_0, .int .i64 a0_1, .bool a0_2]) (t := 24) ?hr ?_; (case hd => rfl); (case hg => rfl); (case hr => first | (go_simp; done) | (go_simp; rfl)); intro g1 hg_ w1 hk_ hb_; have S1 := Zq_.mk (S0.out.box hb_ (Nat.le_of_eq hg_.symm) hk_); clear S0 hb_ hg_ hk_) | (go_at_call 8; refine (law12_alive.holds _).mono ?_; rintro e_ w2 ⟨rfl, hb_⟩; have S2 := Zq_.mk (S1.out.step hb_); clear S1 hb_))
  have y2_0 := (qb_ (S2.out.bk 0 rfl) 0).trans rfl
  go_upto_region 7 with (first | ((with_reducible refine qc_ (N := 21) rfl ?_); refine qd_ (by rfl) ?_; refine load_box rfl 24 (.tmp 2) rfl ?lp (S2.out.bk 0 rfl) hu24 rfl (by kernel_rfl) ?_; (case lp => first | rfl | (go_simp; done) | (go_simp; rfl))) | (go_at_call 19; refine (block_Right.calls A0_0 c0_0 l0_0 a0_1 a0_2 _ _ (S2.out.reads 0 rfl) (S2.out.room 0 rfl) h2).mono ?_; rintro e_ w3 ⟨rfl, hb_⟩; have S3 := Zq_.mk (S2.out.step hb_); clear S2 hb_) | ((with_reducible refine qc_ (N := 44) rfl ?_); refine load_box rfl 24 (.tmp 2) rfl ?lp (S3.out.bk 0 rfl) hu24 rfl (by kernel_rfl) ?_; (case lp => first | rfl | (go_simp; done) | (go_simp; rfl))) | (go_at_call 18; refine (block_Wake.calls _ A0_0 c0_0 l0_0 a0_1 a0_2 _ _ _ _ _ (S3.out.lies 0 rfl) h1).mono ?_; rintro e_ w4 ⟨v_, rfl, hv_, hb_⟩; obtain ⟨A4, c4, rfl⟩ := Kd.V_slice hv_; have S4 := Zq_.mk (S3.out.got hb_ hv_); clear S3 hv_ hb_) | ((with_reducible refine qc_ (N := 7) rfl ?_); refine alloc_store rfl (N := 7) rfl (cs := #[.slice none 0 0, .int .i64 0, .bool false]) (cs' := #[.slice A4 l0_0.length c4, .int .i64 (-1), .bool false]) (t := 24) ?hr rfl rfl (.tmp 46) rfl ?hp ?hx (by kernel_rfl) rfl (disk_one ..) ?_; (case hr => first | (go_simp; done) | (go_simp; rfl)); (case hp => intro v_; first | rfl | (go_simp; done)); (case hx => intro v_; first | rfl | (go_simp; done) | (go_simp; rfl)); intro g5 hg_ w5 hk_ hb_; have S5 := Zq_.mk (S4.out.box hb_ hg_ hk_); clear S4 hb_ hg_ hk_))
  go_upto_region 8 with (first | ((with_reducible refine qc_ (N := 49) rfl ?_); refine load_box rfl 24 (.tmp 7) rfl ?lp (S5.out.bk 0 rfl) hu24 rfl (by kernel_rfl) ?_; (case lp => first | rfl | (go_simp; done) | (go_simp; rfl))) | (go_at_call 18; refine (block_Wake.calls _ A4 c4 l0_0 (-1) false _ _ _ _ _ (S5.out.lies 0 rfl) h3).mono ?_; rintro e_ w6 ⟨v_, rfl, hv_, hb_⟩; obtain ⟨A6, c6, rfl⟩ := Kd.V_slice hv_; have S6 := Zq_.mk (S5.out.got hb_ hv_); clear S5 hv_ hb_) | ((with_reducible refine qc_ (N := 9) rfl ?_); refine alloc_store rfl (N := 9) rfl (cs := #[.slice none 0 0, .int .i64 0, .bool false]) (cs' := #[.slice A6 l0_0.length c6, .int .i64 (-1), .bool false]) (t := 24) ?hr rfl rfl (.tmp 51) rfl ?hp ?hx (by kernel_rfl) rfl (disk_one ..) ?_; (case hr => first | (go_simp; done) | (go_simp; rfl)); (case hp => intro v_; first | rfl | (go_simp; done)); (case hx => intro v_; first | rfl | (go_simp; done) | (go_simp; rfl)); intro g7 hg_ w7 hk_ hb_; have S7 := Zq_.mk (S6.out.box hb_ hg_ hk_); clear S6 hb_ hg_ hk_))
  have y7_1 := (qb_ (S7.out.bk 1 rfl) 1).trans rfl
  have y7_2 := (qb_ (S7.out.bk 1 rfl) 2).trans rfl
  go_upto_block 0 with (first | ((with_reducible refine qc_ (N := 69) rfl ?_); refine qd_ (by rfl) ?_; refine load_box rfl 24 (.tmp 7) rfl ?lp (S7.out.bk 1 rfl) hu24 rfl (by kernel_rfl) ?_; (case lp => first | rfl | (go_simp; done) | (go_simp; rfl))) | ((with_reducible refine qc_ (N := 70) rfl ?_); refine qd_ (by rfl) ?_; refine load_box rfl 24 (.tmp 9) rfl ?lp (S7.out.bk 0 rfl) hu24 rfl (by kernel_rfl) ?_; (case lp => first | rfl | (go_simp; done) | (go_simp; rfl))) | (go_at_call 16; refine (ref12_Same.calls A4 c4 l0_0 (-1) false A6 c6 l0_0 (-1) false _ _ (S7.out.reads 1 rfl) (S7.out.room 1 rfl) (S7.out.reads 0 rfl) (S7.out.room 0 rfl) (law12_BlockWakes.same_self ..)).mono ?_; rintro e_ w8 ⟨rfl, hb_⟩; have S8 := Zq_.mk (S7.out.step hb_); clear S7 hb_; have y7_0 := (qb_ (S8.out.bk 1 rfl) 0).trans rfl; have y2_0 := (qb_ (S8.out.bk 2 rfl) 0).trans rfl))
  go_wp2
  go_loopg [11] (l0_0.length + 1) (fun kq v11 w' => ∃ (i : Nat), v11 = .int .i64 (i : Int) ∧ Zq_ (i ≤ l0_0.length ∧ kq + i = l0_0.length + 1) ∧ Zq_ (St w w' [(g7, 24, #[.slice A6 l0_0.length c6, .int .i64 (-1), .bool false]), (g5, 24, #[.slice A4 l0_0.length c4, .int .i64 (-1), .bool false]), (g1, 24, #[.slice A0_0 l0_0.length c0_0, .int .i64 a0_1, .bool a0_2])] [(.slice A6 l0_0.length c6, l0_0), (.slice A4 l0_0.length c4, l0_0), (.slice A0_0 l0_0.length c0_0, l0_0)]))
  case atStart => exact ⟨0, by first | rfl | (simp; done), ⟨by omega, by omega⟩, S8⟩
  case round =>
   clear S8
   obtain ⟨i, rfl, HI, S8⟩ := hrel
   by_cases hi : i < l0_0.length
   ·skip
    have HGI := Zq_.mk (HG.out i hi)
    obtain ⟨x, hx⟩ : ∃ x_, l0_0.getD i z26 = x_ := ⟨_, rfl⟩
    obtain ⟨ad, hA, hxl, _⟩ := elem_cells (S8.out.reads 2 rfl) z26 (i : Int) (by omega) (by omega)
    rw [Int.toNat_natCast, hx] at hxl
    subst hA
    have hgi := HGI.out
    rw [hx] at hgi
    have HX := Zq_.mk hx
    have HII := Zq_.mk hi
    have HWR := Zq_.mk (show wrap64 ((i : Int) + 1) = ((i + 1 : Nat) : Int) by have := HLM.out; unfold wrap64; omega)
    have j1 : decide ((i : Int) < (l0_0.length : Int)) = true := decide_eq_true (by omega)
    have j2 : ((i : Int) < (l0_0.length : Int)) = True := eq_true (by omega)
    have j3 : (i < l0_0.length) = True := eq_true hi
    have j4 : decide (i < l0_0.length) = true := decide_eq_true hi
    clear hx hi
    have y2_0 := (qb_ (S8.out.bk 2 rfl) 0).trans rfl
    go_upto_region 14 with (first | ((with_reducible refine qc_ (N := 91) rfl ?_); refine load_box rfl 24 (.tmp 7) rfl ?lp (S8.out.bk 1 rfl) hu24 rfl (by kernel_rfl) ?_; (case lp => first | rfl | (go_simp; done) | (go_simp; rfl))) | (go_at_call 12; refine (block_Get.calls A4 c4 l0_0 (-1) false (i : Int) _ _ _ (S8.out.reads 1 rfl) (S8.out.room 1 rfl) hgi).mono ?_; rintro e_ w9 ⟨rfl, hb_⟩; have S9 := Zq_.mk (S8.out.step hb_); clear S8 hb_) | ((with_reducible refine qc_ (N := 12) rfl ?_); refine alloc_store rfl (N := 12) rfl (cs := (z26.map (Value.int .u8)).toArray) (cs' := (x.map (Value.int .u8)).toArray) (t := 26) ?hr rfl rfl (.tmp 94) rfl ?hp ?hx (sect_size hxl) (sect_same hxl) (one_cells .u8 x) ?_; (case hr => first | (go_simp; done) | (go_simp; rfl)); (case hp => intro v_; first | rfl | (go_simp; done)); (case hx => intro v_; first | rfl | (go_simp; done) | (go_simp; rfl)); intro g10 hg_ w10 hk_ hb_; have S10 := Zq_.mk (S9.out.box hb_ hg_ hk_); clear S9 hb_ hg_ hk_))
    clear j1 j2 j3 j4 y2_0
    have S11 := Zq_.mk S10.out.drew
    clear S10
    obtain ⟨ad_, hA_, _, hcx⟩ := elem_cells (S11.out.reads 2 rfl) z26 (i : Int) (by omega) (by have := HII.out; omega)
    cases hA_
    rw [Int.toNat_natCast, HX.out] at hcx
    have HCX := Zq_.mk hcx
    clear hcx
    refine start_ (n := 11) (S := fun W => W.cell? ⟨g1, 0, none⟩ = some (.slice (some ad) l0_0.length c0_0) ∧ W.heap[g10]? = some (.cells (x.map (Value.int .u8)).toArray 26 (0, 0)) ∧ (∀ j v, (x.map (Value.int .u8))[j]? = some v → W.cell? ((ad.add (i * 64)).add j) = some v)) (ds := []) #[false,false,false,false,false,false,false,false,false,false,false] (by kernel_rfl) rfl rfl ⟨(qb_ (S11.out.bk 3 rfl) 0).trans rfl, S11.out.bk 0 rfl, HCX.out⟩ (fun hHeld => ?_)
    generalize hw_ : World.drew _ = w11 at S11 hHeld ⊢
    clear hw_ HCX
    refine pure_ (i := 0) (N := some 96) (v := (.int .i64 0)) (a' := ?_) #[true,false,false,false,false,false,false,false,false,false,false] rfl rfl (by kernel_rfl) (fun _ _ _ h => h) ?_ ?_ ?_
    ·refine Or.inl ⟨by rfl, ?_⟩
     intro w'
     first | (go_simp; done) | (go_simp; with_reducible rfl) | (go_simp; rfl)
    rotate_left
    ·simp only [Act.put, sa_, sb_, sc_, i64_w, i32_w]
     rfl
    refine pure_ (i := 1) (N := some 97) (v := (.bool false)) (a' := ?_) #[true,true,false,false,false,false,false,false,false,false,false] rfl rfl (by kernel_rfl) (fun _ _ _ h => h) ?_ ?_ ?_
    ·refine Or.inl ⟨by rfl, ?_⟩
     intro w'
     first | (go_simp; done) | (go_simp; with_reducible rfl) | (go_simp; rfl)
    rotate_left
    ·simp only [Act.put, sa_, sb_, sc_, i64_w, i32_w]
     rfl
    refine pure_ (i := 2) (N := some 98) (v := (.bool false)) (a' := ?_) #[true,true,true,false,false,false,false,false,false,false,false] rfl rfl (by kernel_rfl) (fun _ _ _ h => h) ?_ ?_ ?_
    ·refine Or.inl ⟨by rfl, ?_⟩
     intro w'
     first | (go_simp; done) | (go_simp; with_reducible rfl) | (go_simp; rfl)
    rotate_left
    ·simp only [Act.put, sa_, sb_, sc_, i64_w, i32_w]
     rfl
    refine take_ (i := 3) (N := some 99) (v := (aggN .u8 x)) (a' := ?_) #[true,true,true,true,false,false,false,false,false,false,false] rfl rfl (by kernel_rfl) (fun _ _ _ h => h) ?_ hHeld ?_ ?_
    ·refine Or.inl ⟨by rfl, ?_⟩
     rintro w' ⟨s0, s1, s2⟩
     exact exec_load_box rfl (by first | rfl | (go_simp; done) | (go_simp; rfl)) s1 hu26 rfl (sect_size hxl)
    rotate_left
    ·simp only [Act.put, sa_, sb_, sc_, i64_w, i32_w]
     rfl
    refine pure_ (i := 4) (N := some 100) (v := (.pointer (some ⟨g1, 0, none⟩))) (a' := ?_) #[true,true,true,true,true,false,false,false,false,false,false] rfl rfl (by kernel_rfl) (fun _ _ _ h => h) ?_ ?_ ?_
    ·refine Or.inl ⟨by rfl, ?_⟩
     intro w'
     first | (go_simp; done) | (go_simp; with_reducible rfl) | (go_simp; rfl)
    rotate_left
    ·simp only [Act.put, sa_, sb_, sc_, i64_w, i32_w]
     rfl
    refine take_ (i := 5) (N := some 101) (v := (.slice (some ad) l0_0.length c0_0)) (a' := ?_) #[true,true,true,true,true,true,false,false,false,false,false] rfl rfl (by kernel_rfl) (fun _ _ _ h => h) ?_ hHeld ?_ ?_
    ·refine Or.inl ⟨by rfl, ?_⟩
     rintro w' ⟨s0, s1, s2⟩
     first | (go_simp; done) | (go_simp; with_reducible rfl) | (go_simp; rfl)
    rotate_left
    ·simp only [Act.put, sa_, sb_, sc_, i64_w, i32_w]
     rfl
    refine pure_ (i := 6) (N := some 102) (v := (.int .i64 (i : Int))) (a' := ?_) #[true,true,true,true,true,true,true,false,false,false,false] rfl rfl (by kernel_rfl) (fun _ _ _ h => h) ?_ ?_ ?_
    ·refine Or.inl ⟨by rfl, ?_⟩
     intro w'
     first | (go_simp; done) | (go_simp; with_reducible rfl) | (go_simp; rfl)
    rotate_left
    ·simp only [Act.put, sa_, sb_, sc_, i64_w, i32_w]
     rfl
    refine pure_ (i := 7) (N := some 103) (v := (.pointer (some (ad.add (i * 64))))) (a' := ?_) #[true,true,true,true,true,true,true,true,false,false,false] rfl rfl (by kernel_rfl) (fun _ _ _ h => h) ?_ ?_ ?_
    ·refine Or.inl ⟨by rfl, ?_⟩
     intro w'
     have hi_ := HII.out
     have j1 : decide ((i : Int) < (l0_0.length : Int)) = true := decide_eq_true (by omega)
     have j2 : ((i : Int) < (l0_0.length : Int)) = True := eq_true (by omega)
     have j3 : (i < l0_0.length) = True := eq_true (by omega)
     have j4 : decide (i < l0_0.length) = true := decide_eq_true (by omega)
     have j5 : (l0_0.length ≤ i) = False := eq_false (by omega)
     clear hi_
     first | (go_simp; done) | (go_simp; with_reducible rfl) | (go_simp; rfl)
    rotate_left
    ·simp only [Act.put, sa_, sb_, sc_, i64_w, i32_w]
     rfl
    refine take_ (i := 8) (N := some 104) (v := (aggN .u8 x)) (a' := ?_) #[true,true,true,true,true,true,true,true,true,false,false] rfl rfl (by kernel_rfl) (fun _ _ _ h => h) ?_ hHeld ?_ ?_
    ·refine Or.inl ⟨by rfl, ?_⟩
     rintro w' ⟨s0, s1, s2⟩
     exact exec_load_elem rfl (by first | rfl | (go_simp; done) | (go_simp; rfl)) s2 hu26 (by rw [hxl]; kernel_rfl)
    rotate_left
    ·simp only [Act.put, sa_, sb_, sc_, i64_w, i32_w]
     rfl
    refine pure_ (i := 9) (N := some 105) (v := (.bool false)) (a' := ?_) #[true,true,true,true,true,true,true,true,true,true,false] rfl rfl (by kernel_rfl) (fun _ _ _ h => h) ?_ ?_ ?_
    ·refine Or.inl ⟨by rfl, ?_⟩
     intro w'
     have e_ : (!decide (x = x)) = false := by simp
     rw [← e_]
     exact exec_neq_ints w' rfl hu26 (by kernel_rfl) hu5 (by kernel_rfl) hti (by kernel_rfl) x x hxl hxl (by first | rfl | (go_simp; done) | (go_simp; rfl)) (by first | rfl | (go_simp; done) | (go_simp; rfl))
    rotate_left
    ·simp only [Act.put, sa_, sb_, sc_, i64_w, i32_w]
     rfl
    refine pure_ (i := 10) (N := some 106) (v := (.bool false)) (a' := ?_) #[true,true,true,true,true,true,true,true,true,true,true] rfl rfl (by kernel_rfl) (fun _ _ _ h => h) ?_ ?_ ?_
    ·refine Or.inl ⟨by rfl, ?_⟩
     intro w'
     first | (go_simp; done) | (go_simp; with_reducible rfl) | (go_simp; rfl)
    rotate_left
    ·simp only [Act.put, sa_, sb_, sc_, i64_w, i32_w]
     rfl
    refine done_ (by kernel_rfl) ?_
    clear hHeld
    go_wp2
    go_roundg (l0_0.length - i)
    case measure => have := HI.out.2; have := HII.out; omega
    case rel => exact ⟨i + 1, by first | rfl | exact congrArg (Value.int .i64) HWR.out, ⟨by have := HII.out; omega, by have := HI.out.2; have := HII.out; omega⟩, ⟨S11.out.less⟩⟩
   ·have hi2 : i = l0_0.length := by have := HI.out.1; omega
    subst hi2
    clear hi
    have y2_0 := (qb_ (S8.out.bk 2 rfl) 0).trans rfl
    go_wp2
    go_ret
    exact ⟨rfl, S8.out.1⟩
end Go.Proofs.Ytckodbfjihcddaa.P

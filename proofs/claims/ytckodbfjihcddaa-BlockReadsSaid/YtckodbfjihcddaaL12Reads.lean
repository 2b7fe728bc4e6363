/- BlockReads: the law's walk where it answers true. No condition. -/
import Derived.Test.YtckodbfjihcddaaSecL
import Derived.Test.YtckodbfjihcddaaPBlockGet
import Derived.Test.YtckodbfjihcddaaPBlockNew
namespace Go.Proofs.Ytckodbfjihcddaa.P
open Go.RowKit Go.Proofs.YtckodbfjihcddaaW.PrintWords Go.Proofs.YtckodbfjihcddaaW.PrintLast Go.Proofs.YtckodbfjihcddaaW.PrintMore Go.Proofs.YtckodbfjihcddaaW.Hw
attribute [local go_sem] max2_int min2_int max_two min_two ql_ qk_ max_four min_four Go.Proofs.YtckodbfjihcddaaW.Hw.string_gtr
set_option linter.unusedVariables false
set_option linter.unusedSimpArgs false
theorem put_len {l : List S26} {f : Int} {b : Bool} {a : Int} {x : S26} {p : List S26} {q e : Int} {c : Bool} (hl : ∀ y ∈ l, y.length = 64) (hx : x.length = 64) (h : block_Put.f l f b a x = some (p, q, c, e)) : ∀ y ∈ p, y.length = 64 := by
 have hs : ∀ (t : List S26) (n : Nat) (z : S26), (∀ y ∈ t, y.length = 64) → z.length = 64 → ∀ y ∈ t.set n z, y.length = 64 := by
  intro t n z ht hz y hy
  rcases List.mem_or_eq_of_mem_set hy with hy | rfl
  ·exact ht y hy
  ·exact hz
 unfold block_Put.f at h
 obtain ⟨c0, _, h⟩ := Option.bind_eq_some_iff.1 h
 split at h
 ·obtain ⟨t, ht, h⟩ := Option.bind_eq_some_iff.1 h
  have ht' : ∀ y ∈ t, y.length = 64 := by
   unfold slices_Clone_64_byte_64_byte.f at ht
   split at ht
   ·cases ht; exact hl
   ·cases ht
  split at h
  ·split at h
   ·split at h
    ·have e_ := congrArg Prod.fst (Option.some.inj h); intro y hy; rw [← show t.set a.toNat x = p from e_] at hy; exact hs _ _ _ ht' hx y hy
    ·split at h
     ·have e_ := congrArg Prod.fst (Option.some.inj h); intro y hy; rw [← show t.set a.toNat x = p from e_] at hy; exact hs _ _ _ ht' hx y hy
     ·split at h
      ·have e_ := congrArg Prod.fst (Option.some.inj h); intro y hy; rw [← show t.set a.toNat (x.take f.toNat ++ List.replicate (x.length - f.toNat) 0) = p from e_] at hy
       refine hs _ _ _ ht' ?_ y hy
       rw [List.length_append, List.length_take, List.length_replicate]; omega
      ·cases h
   ·cases h
  ·cases h
 ·have e_ := congrArg Prod.fst (Option.some.inj h); intro y hy; rw [← show l = p from e_] at hy; exact hl y hy
def law12_BlockReads.f (l0_0 : List S26) (a0_1 : Int) (a0_2 : Bool) (a1_0 a1_1 : Int) (l2 : S26) : Option Bool := (if (l0_0.length : Int) > 64 then some true else (if (l0_0.length : Int) = 0 then some true else (block_Put.f l0_0 a0_1 a0_2 (Int.tmod (wrap64 a1_0) (l0_0.length : Int)) l2).bind fun p => if p.2.2.2 = 0 then (block_Get.f p.1 p.2.1 p.2.2.1 (Int.tmod (wrap64 a1_0) (l0_0.length : Int))).bind fun y => (block_Get.f p.1 p.2.1 p.2.2.1 (Int.tmod (wrap64 a1_1) (l0_0.length : Int))).bind fun z => (block_Get.f l0_0 a0_1 a0_2 (Int.tmod (wrap64 a1_1) (l0_0.length : Int))).bind fun v => some (decide ((l2, 0) = y) && (decide (0 = z.2) && (decide (0 = v.2) && ((decide ((Int.tmod (wrap64 a1_0) (l0_0.length : Int)) = (Int.tmod (wrap64 a1_1) (l0_0.length : Int))) || decide (z.1 = v.1)) && (if a0_1 = -1 then decide (-1 = p.2.1) else decide (wrap64 (a0_1 - 64) = p.2.1)))))) else if p.2.2.2 = 1 then (block_Right.f l0_0 a0_1 a0_2).bind fun t => some (!t) else if p.2.2.2 = 9 then some p.2.2.1 else some false))
set_option maxHeartbeats 8000000 in
set_option maxRecDepth 100000 in
theorem law12_BlockReads.calls (P0_0_ : Nat → Prop) (A0_0 : Option Addr) (c0_0 : Nat) (l0_0 : List S26) (a0_1 : Int) (a0_2 : Bool) (a1_0 a1_1 : Int) (l2 : S26) (r : Bool) (w : World) (hs0_0 : Kd.V k26 26 w w.heap.size (fun k_ => P0_0_ k_) (.slice A0_0 l0_0.length c0_0) l0_0) (hx2 : l2.length = 64) (h : law12_BlockReads.f l0_0 a0_1 a0_2 a1_0 a1_1 l2 = some r) (hrt : r = true) :
  Calls Try.prog 5 #[.agg #[.slice A0_0 l0_0.length c0_0, .int .i64 a0_1, .bool a0_2], .agg #[.int .u8 a1_0, .int .u8 a1_1], aggN .u8 l2] w fun e w' => e = .returned (.bool true) ∧ Below w.heap.size w w' := by
 have hu24 := Try.underlying24
 have hu26 := Try.underlying26
 have hu5 := Try.underlying5
 obtain ⟨ti, hti, _⟩ := Option.map_eq_some_iff.1 info5
 have hx := hx2
 unfold law12_BlockReads.f at h
 have S0 := Zq_.mk ((St.start w).came hs0_0)
 clear hs0_0
 by_cases hn : (l0_0.length : Int) > 64
 case pos =>
  rw [if_pos hn] at h
  have hn1 : decide ((l0_0.length : Int) > 64) = true := decide_eq_true hn
  have hn2 : ((l0_0.length : Int) > 64) = True := eq_true hn
  go_enter Try.func5, Try.ntmps5
  go_upto_region 3 with (first | ((with_reducible refine qc_ (N := 3) rfl ?_); refine box_event ?hg (N := 3) ?hd (cs := #[.slice A0_0 l0_0.length c0_0, .int .i64 a0_1, .bool a0_2]) (t := 24) ?hr ?_; (case hd => rfl); (case hg => rfl); (case hr => first | (go_simp; done) | (go_simp; rfl)); intro g1 hg_ w1 hk_ hb_; have S1 := Zq_.mk (S0.out.box hb_ (Nat.le_of_eq hg_.symm) hk_); clear S0 hb_ hg_ hk_) | ((with_reducible refine qc_ (N := 4) rfl ?_); refine box_event ?hg (N := 4) ?hd (cs := #[.int .u8 a1_0, .int .u8 a1_1]) (t := 45) ?hr ?_; (case hd => rfl); (case hg => rfl); (case hr => first | (go_simp; done) | (go_simp; rfl)); intro g2 hg_ w2 hk_ hb_; have S2 := Zq_.mk (S1.out.box hb_ (Nat.le_of_eq hg_.symm) hk_); clear S1 hb_ hg_ hk_) | ((with_reducible refine qc_ (N := 5) rfl ?_); refine box_ints rfl (N := 5) rfl 26 (.tmp 2) rfl (k := .u8) (xs := l2) ?bx ?_; (case bx => first | rfl | (go_simp; done) | (go_simp; rfl)); intro g3 hg_ w3 hk_ hb_; have S3 := Zq_.mk (S2.out.box hb_ (Nat.le_of_eq hg_.symm) hk_); clear S2 hb_ hg_ hk_) | (go_at_call 8; refine (law12_alive.holds _).mono ?_; rintro e_ w4 ⟨rfl, hb_⟩; have S4 := Zq_.mk (S3.out.step hb_); clear S3 hb_))
  have y3_0 := (qb_ (S4.out.bk 2 rfl) 0).trans rfl
  go_wp2
  go_ret
  exact ⟨rfl, S4.out.1⟩
 rw [if_neg hn] at h
 have hn1 : decide ((l0_0.length : Int) > 64) = false := decide_eq_false hn
 have hn2 : ((l0_0.length : Int) > 64) = False := eq_false hn
 by_cases hz : (l0_0.length : Int) = 0
 case pos =>
  rw [if_pos hz] at h
  have hz1 : ((l0_0.length : Int) == 0) = true := beq_iff_eq.mpr hz
  have hz2 : ((l0_0.length : Int) = 0) = True := eq_true hz
  have hz3 : (l0_0.length = 0) = True := eq_true (by omega)
  have hz4 : (l0_0 = []) = True := by rw [← List.length_eq_zero_iff]; exact hz3
  go_enter Try.func5, Try.ntmps5
  go_upto_region 3 with (first | ((with_reducible refine qc_ (N := 3) rfl ?_); refine box_event ?hg (N := 3) ?hd (cs := #[.slice A0_0 l0_0.length c0_0, .int .i64 a0_1, .bool a0_2]) (t := 24) ?hr ?_; (case hd => rfl); (case hg => rfl); (case hr => first | (go_simp; done) | (go_simp; rfl)); intro g1 hg_ w1 hk_ hb_; have S1 := Zq_.mk (S0.out.box hb_ (Nat.le_of_eq hg_.symm) hk_); clear S0 hb_ hg_ hk_) | ((with_reducible refine qc_ (N := 4) rfl ?_); refine box_event ?hg (N := 4) ?hd (cs := #[.int .u8 a1_0, .int .u8 a1_1]) (t := 45) ?hr ?_; (case hd => rfl); (case hg => rfl); (case hr => first | (go_simp; done) | (go_simp; rfl)); intro g2 hg_ w2 hk_ hb_; have S2 := Zq_.mk (S1.out.box hb_ (Nat.le_of_eq hg_.symm) hk_); clear S1 hb_ hg_ hk_) | ((with_reducible refine qc_ (N := 5) rfl ?_); refine box_ints rfl (N := 5) rfl 26 (.tmp 2) rfl (k := .u8) (xs := l2) ?bx ?_; (case bx => first | rfl | (go_simp; done) | (go_simp; rfl)); intro g3 hg_ w3 hk_ hb_; have S3 := Zq_.mk (S2.out.box hb_ (Nat.le_of_eq hg_.symm) hk_); clear S2 hb_ hg_ hk_) | (go_at_call 8; refine (law12_alive.holds _).mono ?_; rintro e_ w4 ⟨rfl, hb_⟩; have S4 := Zq_.mk (S3.out.step hb_); clear S3 hb_))
  have y3_0 := (qb_ (S4.out.bk 2 rfl) 0).trans rfl
  go_wp2
  go_ret
  exact ⟨rfl, S4.out.1⟩
 rw [if_neg hz] at h
 have hz1 : ((l0_0.length : Int) == 0) = false := beq_eq_false_iff_ne.mpr hz
 have hz2 : ((l0_0.length : Int) = 0) = False := eq_false hz
 have hz3 : (l0_0.length = 0) = False := eq_false (by omega)
 have hz4 : (l0_0 = []) = False := by rw [← List.length_eq_zero_iff]; exact hz3
 obtain ⟨⟨p1, p2, p3, p4⟩, h1, h⟩ := Option.bind_eq_some_iff.1 h
 obtain ⟨i, hi⟩ : ∃ i_, (Int.tmod (wrap64 a1_0) (l0_0.length : Int)) = i_ := ⟨_, rfl⟩
 obtain ⟨j, hj⟩ : ∃ j_, (Int.tmod (wrap64 a1_1) (l0_0.length : Int)) = j_ := ⟨_, rfl⟩
 rw [hi] at h1
 simp only [hi, hj] at h
 have hi := Zq_.mk hi
 have hj := Zq_.mk hj
 go_enter Try.func5, Try.ntmps5
 go_upto_region 3 with (first | ((with_reducible refine qc_ (N := 3) rfl ?_); refine box_event ?hg (N := 3) ?hd (cs := #[.slice A0_0 l0_0.length c0_0, .int .i64 a0_1, .bool a0_2]) (t := 24) ?hr ?_; (case hd => rfl); (case hg => rfl); (case hr => first | (go_simp; done) | (go_simp; rfl)); intro g1 hg_ w1 hk_ hb_; have S1 := Zq_.mk (S0.out.box hb_ (Nat.le_of_eq hg_.symm) hk_); clear S0 hb_ hg_ hk_) | ((with_reducible refine qc_ (N := 4) rfl ?_); refine box_event ?hg (N := 4) ?hd (cs := #[.int .u8 a1_0, .int .u8 a1_1]) (t := 45) ?hr ?_; (case hd => rfl); (case hg => rfl); (case hr => first | (go_simp; done) | (go_simp; rfl)); intro g2 hg_ w2 hk_ hb_; have S2 := Zq_.mk (S1.out.box hb_ (Nat.le_of_eq hg_.symm) hk_); clear S1 hb_ hg_ hk_) | ((with_reducible refine qc_ (N := 5) rfl ?_); refine box_ints rfl (N := 5) rfl 26 (.tmp 2) rfl (k := .u8) (xs := l2) ?bx ?_; (case bx => first | rfl | (go_simp; done) | (go_simp; rfl)); intro g3 hg_ w3 hk_ hb_; have S3 := Zq_.mk (S2.out.box hb_ (Nat.le_of_eq hg_.symm) hk_); clear S2 hb_ hg_ hk_) | (go_at_call 8; refine (law12_alive.holds _).mono ?_; rintro e_ w4 ⟨rfl, hb_⟩; have S4 := Zq_.mk (S3.out.step hb_); clear S3 hb_))
 have y3_0 := (qb_ (S4.out.bk 2 rfl) 0).trans rfl
 go_wp2
 have y4_0 := (qb_ (S4.out.bk 1 rfl) 0).trans rfl
 have y4_1 := (qb_ (S4.out.bk 1 rfl) 1).trans rfl
 go_region_held3 (fun V => V.cell? ⟨g1, 0, none⟩ = some (.slice A0_0 l0_0.length c0_0) ∧ V.cell? ⟨g2, 0, none⟩ = some (.int .u8 a1_0) ∧ V.cell? ⟨g2, 1, none⟩ = some (.int .u8 a1_1)) (exact ⟨y3_0, y4_0, y4_1⟩) (fail)
 simp only [i64_w, hi.out, hj.out]
 have S5 := Zq_.mk (S4.out.step (below_drew (Below.refl _ _)))
 clear S4
 generalize hw_ : World.drew _ = w5 at S5 ⊢
 clear hw_
 by_cases e0 : p4 = 0
 case neg =>
  rw [if_neg e0] at h
  by_cases e1 : p4 = 1
  case pos =>
   subst e1
   rw [if_pos rfl] at h
   obtain ⟨c, h2, h⟩ := Option.bind_eq_some_iff.1 h
   have h := (Option.some.inj h).trans hrt
   obtain rfl : c = false := by cases c with | false => rfl | true => cases h
   clear h e0
   go_upto_region 7 with (first | ((with_reducible refine qc_ (N := 44) rfl ?_); refine load_box rfl 24 (.tmp 3) rfl ?lp (S5.out.bk 2 rfl) hu24 rfl (by kernel_rfl) ?_; (case lp => first | rfl | (go_simp; done) | (go_simp; rfl))) | ((with_reducible refine qc_ (N := 46) rfl ?_); refine load_box rfl 26 (.tmp 5) rfl ?lp (S5.out.bk 0 rfl) hu26 rfl (sect_size hx) ?_; (case lp => first | rfl | (go_simp; done) | (go_simp; rfl))) | (go_at_call 10; refine (block_Put.calls _ A0_0 c0_0 l0_0 a0_1 a0_2 i l2 _ _ _ _ _ (S5.out.lies 0 rfl) hx h1).mono ?_; rintro e_ w6 ⟨v_, rfl, hv_, hb_⟩; obtain ⟨A6, c6, rfl⟩ := Kd.V_slice hv_; have S6 := Zq_.mk (S5.out.got hb_ hv_); clear S5 hv_ hb_) | ((with_reducible refine qc_ (N := 9) rfl ?_); refine alloc_store rfl (N := 9) rfl (cs := #[.slice none 0 0, .int .i64 0, .bool false]) (cs' := #[.slice A6 p1.length c6, .int .i64 p2, .bool p3]) (t := 24) ?hr rfl rfl (.tmp 48) rfl ?hp ?hx (by kernel_rfl) rfl (disk_one ..) ?_; (case hr => first | (go_simp; done) | (go_simp; rfl)); (case hp => intro v_; first | rfl | (go_simp; done)); (case hx => intro v_; first | rfl | (go_simp; done) | (go_simp; rfl)); intro g7 hg_ w7 hk_ hb_; have S7 := Zq_.mk (S6.out.box hb_ hg_ hk_); clear S6 hb_ hg_ hk_))
   go_wp2_with (first | ((with_reducible refine qc_ (N := 55) rfl ?_); refine qd_ (by rfl) ?_; refine load_box rfl 24 (.tmp 3) rfl ?lp (S7.out.bk 3 rfl) hu24 rfl (by kernel_rfl) ?_; (case lp => first | rfl | (go_simp; done) | (go_simp; rfl))) | (go_at_call 19; refine (block_Right.calls A0_0 c0_0 l0_0 a0_1 a0_2 _ _ (S7.out.reads 1 rfl) (S7.out.room 1 rfl) h2).mono ?_; rintro e_ w8 ⟨rfl, hb_⟩; have S8 := Zq_.mk (S7.out.step hb_); clear S7 hb_))
   go_ret
   exact ⟨rfl, S8.out.1⟩
  rw [if_neg e1] at h
  by_cases e9 : p4 = 9
  case neg => rw [if_neg e9] at h; exact absurd ((Option.some.inj h).trans hrt) (by decide)
  subst e9
  rw [if_pos rfl] at h
  have h := (Option.some.inj h).trans hrt
  subst h
  clear e0 e1
  go_upto_region 7 with (first | ((with_reducible refine qc_ (N := 44) rfl ?_); refine load_box rfl 24 (.tmp 3) rfl ?lp (S5.out.bk 2 rfl) hu24 rfl (by kernel_rfl) ?_; (case lp => first | rfl | (go_simp; done) | (go_simp; rfl))) | ((with_reducible refine qc_ (N := 46) rfl ?_); refine load_box rfl 26 (.tmp 5) rfl ?lp (S5.out.bk 0 rfl) hu26 rfl (sect_size hx) ?_; (case lp => first | rfl | (go_simp; done) | (go_simp; rfl))) | (go_at_call 10; refine (block_Put.calls _ A0_0 c0_0 l0_0 a0_1 a0_2 i l2 _ _ _ _ _ (S5.out.lies 0 rfl) hx h1).mono ?_; rintro e_ w6 ⟨v_, rfl, hv_, hb_⟩; obtain ⟨A6, c6, rfl⟩ := Kd.V_slice hv_; have S6 := Zq_.mk (S5.out.got hb_ hv_); clear S5 hv_ hb_) | ((with_reducible refine qc_ (N := 9) rfl ?_); refine alloc_store rfl (N := 9) rfl (cs := #[.slice none 0 0, .int .i64 0, .bool false]) (cs' := #[.slice A6 p1.length c6, .int .i64 p2, .bool true]) (t := 24) ?hr rfl rfl (.tmp 48) rfl ?hp ?hx (by kernel_rfl) rfl (disk_one ..) ?_; (case hr => first | (go_simp; done) | (go_simp; rfl)); (case hp => intro v_; first | rfl | (go_simp; done)); (case hx => intro v_; first | rfl | (go_simp; done) | (go_simp; rfl)); intro g7 hg_ w7 hk_ hb_; have S7 := Zq_.mk (S6.out.box hb_ hg_ hk_); clear S6 hb_ hg_ hk_))
  have y9_2 := (qb_ (S7.out.bk 0 rfl) 2).trans rfl
  go_wp2
  go_ret
  exact ⟨rfl, S7.out.1⟩
 subst e0
 rw [if_pos rfl] at h
 obtain ⟨⟨y1, y2⟩, h2, h⟩ := Option.bind_eq_some_iff.1 h
 obtain ⟨⟨z1, z2⟩, h3, h⟩ := Option.bind_eq_some_iff.1 h
 obtain ⟨⟨v1, v2⟩, h4, h⟩ := Option.bind_eq_some_iff.1 h
 have h := (Option.some.inj h).trans hrt
 simp only [Bool.and_eq_true, Bool.or_eq_true, decide_eq_true_eq, Prod.mk.injEq] at h
 obtain ⟨⟨rfl, rfl⟩, rfl, rfl, hq, hr⟩ := h
 have hz1 : z1.length = 64 := get_len (fun x hx_ => put_len (fun x hx_ => S5.out.sect 0 rfl x hx_) hx h1 x hx_) h3
 have hv1 : v1.length = 64 := get_len (fun x hx_ => S5.out.sect 0 rfl x hx_) h4
 go_upto_region 7 with (first | ((with_reducible refine qc_ (N := 44) rfl ?_); refine load_box rfl 24 (.tmp 3) rfl ?lp (S5.out.bk 2 rfl) hu24 rfl (by kernel_rfl) ?_; (case lp => first | rfl | (go_simp; done) | (go_simp; rfl))) | ((with_reducible refine qc_ (N := 46) rfl ?_); refine load_box rfl 26 (.tmp 5) rfl ?lp (S5.out.bk 0 rfl) hu26 rfl (sect_size hx) ?_; (case lp => first | rfl | (go_simp; done) | (go_simp; rfl))) | (go_at_call 10; refine (block_Put.calls _ A0_0 c0_0 l0_0 a0_1 a0_2 i l2 _ _ _ _ _ (S5.out.lies 0 rfl) hx h1).mono ?_; rintro e_ w6 ⟨v_, rfl, hv_, hb_⟩; obtain ⟨A6, c6, rfl⟩ := Kd.V_slice hv_; have S6 := Zq_.mk (S5.out.got hb_ hv_); clear S5 hv_ hb_) | ((with_reducible refine qc_ (N := 9) rfl ?_); refine alloc_store rfl (N := 9) rfl (cs := #[.slice none 0 0, .int .i64 0, .bool false]) (cs' := #[.slice A6 p1.length c6, .int .i64 p2, .bool p3]) (t := 24) ?hr rfl rfl (.tmp 48) rfl ?hp ?hx (by kernel_rfl) rfl (disk_one ..) ?_; (case hr => first | (go_simp; done) | (go_simp; rfl)); (case hp => intro v_; first | rfl | (go_simp; done)); (case hx => intro v_; first | rfl | (go_simp; done) | (go_simp; rfl)); intro g7 hg_ w7 hk_ hb_; have S7 := Zq_.mk (S6.out.box hb_ hg_ hk_); clear S6 hb_ hg_ hk_))
 go_upto_region 10 with (first | ((with_reducible refine qc_ (N := 68) rfl ?_); refine load_box rfl 24 (.tmp 9) rfl ?lp (S7.out.bk 0 rfl) hu24 rfl (by kernel_rfl) ?_; (case lp => first | rfl | (go_simp; done) | (go_simp; rfl))) | (go_at_call 12; refine (block_Get.calls A6 c6 p1 p2 p3 i _ _ _ (S7.out.reads 0 rfl) (S7.out.room 0 rfl) h2).mono ?_; rintro e_ w8 ⟨rfl, hb_⟩; have S8 := Zq_.mk (S7.out.step hb_); clear S7 hb_) | ((with_reducible refine qc_ (N := 11) rfl ?_); refine alloc_store rfl (N := 11) rfl (cs := (z26.map (Value.int .u8)).toArray) (cs' := (l2.map (Value.int .u8)).toArray) (t := 26) ?hr rfl rfl (.tmp 71) rfl ?hp ?hx (sect_size hx) (sect_same hx) (one_cells .u8 l2) ?_; (case hr => first | (go_simp; done) | (go_simp; rfl)); (case hp => intro v_; first | rfl | (go_simp; done)); (case hx => intro v_; first | rfl | (go_simp; done) | (go_simp; rfl)); intro g9 hg_ w9 hk_ hb_; have S9 := Zq_.mk (S8.out.box hb_ hg_ hk_); clear S8 hb_ hg_ hk_))
 go_upto_region 11 with (first | ((with_reducible refine qc_ (N := 74) rfl ?_); refine load_box rfl 24 (.tmp 9) rfl ?lp (S9.out.bk 1 rfl) hu24 rfl (by kernel_rfl) ?_; (case lp => first | rfl | (go_simp; done) | (go_simp; rfl))) | (go_at_call 12; refine (block_Get.calls A6 c6 p1 p2 p3 j _ _ _ (S9.out.reads 0 rfl) (S9.out.room 0 rfl) h3).mono ?_; rintro e_ w10 ⟨rfl, hb_⟩; have S10 := Zq_.mk (S9.out.step hb_); clear S9 hb_) | ((with_reducible refine qc_ (N := 13) rfl ?_); refine alloc_store rfl (N := 13) rfl (cs := (z26.map (Value.int .u8)).toArray) (cs' := (z1.map (Value.int .u8)).toArray) (t := 26) ?hr rfl rfl (.tmp 77) rfl ?hp ?hx (sect_size hz1) (sect_same hz1) (one_cells .u8 z1) ?_; (case hr => first | (go_simp; done) | (go_simp; rfl)); (case hp => intro v_; first | rfl | (go_simp; done)); (case hx => intro v_; first | rfl | (go_simp; done) | (go_simp; rfl)); intro g11 hg_ w11 hk_ hb_; have S11 := Zq_.mk (S10.out.box hb_ hg_ hk_); clear S10 hb_ hg_ hk_))
 go_upto_region 12 with (first | ((with_reducible refine qc_ (N := 80) rfl ?_); refine load_box rfl 24 (.tmp 3) rfl ?lp (S11.out.bk 5 rfl) hu24 rfl (by kernel_rfl) ?_; (case lp => first | rfl | (go_simp; done) | (go_simp; rfl))) | (go_at_call 12; refine (block_Get.calls A0_0 c0_0 l0_0 a0_1 a0_2 j _ _ _ (S11.out.reads 1 rfl) (S11.out.room 1 rfl) h4).mono ?_; rintro e_ w12 ⟨rfl, hb_⟩; have S12 := Zq_.mk (S11.out.step hb_); clear S11 hb_) | ((with_reducible refine qc_ (N := 15) rfl ?_); refine alloc_store rfl (N := 15) rfl (cs := (z26.map (Value.int .u8)).toArray) (cs' := (v1.map (Value.int .u8)).toArray) (t := 26) ?hr rfl rfl (.tmp 83) rfl ?hp ?hx (sect_size hv1) (sect_same hv1) (one_cells .u8 v1) ?_; (case hr => first | (go_simp; done) | (go_simp; rfl)); (case hp => intro v_; first | rfl | (go_simp; done)); (case hx => intro v_; first | rfl | (go_simp; done) | (go_simp; rfl)); intro g13 hg_ w13 hk_ hb_; have S13 := Zq_.mk (S12.out.box hb_ hg_ hk_); clear S12 hb_ hg_ hk_))
 have y3_1 := (qb_ (S13.out.bk 6 rfl) 1).trans rfl
 have y9_1 := (qb_ (S13.out.bk 3 rfl) 1).trans rfl
 by_cases hi1 : i = j
 all_goals by_cases hf : a0_1 = -1
 ·skip
  have i1 : (i == j) = true := beq_iff_eq.mpr hi1
  have i2 : (i = j) = True := eq_true hi1
  rw [if_pos hf] at hr
  have f1 : (a0_1 == -1) = true := beq_iff_eq.mpr hf
  have f2 : (a0_1 = -1) = True := eq_true hf
  have hr : p2 = -1 := (of_decide_eq_true hr).symm
  have f3 : (p2 == -1) = true := beq_iff_eq.mpr hr
  have f4 : (p2 = -1) = True := eq_true hr
  go_wp2_with (first | ((with_reducible refine qc_ (N := 96) rfl ?_); refine qd_ (by rfl) ?_; refine load_box rfl 26 (.tmp 11) rfl ?lp (S13.out.bk 2 rfl) hu26 rfl (sect_size hx) ?_; (case lp => first | rfl | (go_simp; done) | (go_simp; rfl))) | ((with_reducible refine qc_ (N := 97) rfl ?_); refine qd_ (by rfl) ?_; refine load_box rfl 26 (.tmp 5) rfl ?lp (S13.out.bk 4 rfl) hu26 rfl (sect_size hx) ?_; (case lp => first | rfl | (go_simp; done) | (go_simp; rfl))) | ((with_reducible refine qc_ (N := 98) rfl ?_); refine qd_ (by rfl) ?_; refine Kd.event_run rfl (exec_eql_ints _ rfl hu26 (by kernel_rfl) hu5 (by kernel_rfl) hti (by kernel_rfl) l2 l2 hx hx ?ep ?eq) ?_; (case ep => first | rfl | (go_simp; done) | (go_simp; rfl)); (case eq => first | rfl | (go_simp; done) | (go_simp; rfl))) | ((with_reducible refine qc_ (N := 105) rfl ?_); refine qd_ (by rfl) ?_; refine load_box rfl 26 (.tmp 13) rfl ?lp (S13.out.bk 1 rfl) hu26 rfl (sect_size hz1) ?_; (case lp => first | rfl | (go_simp; done) | (go_simp; rfl))) | ((with_reducible refine qc_ (N := 106) rfl ?_); refine qd_ (by rfl) ?_; refine load_box rfl 26 (.tmp 15) rfl ?lp (S13.out.bk 0 rfl) hu26 rfl (sect_size hv1) ?_; (case lp => first | rfl | (go_simp; done) | (go_simp; rfl))) | ((with_reducible refine qc_ (N := 107) rfl ?_); refine qd_ (by rfl) ?_; refine Kd.event_run rfl (exec_eql_ints _ rfl hu26 (by kernel_rfl) hu5 (by kernel_rfl) hti (by kernel_rfl) z1 v1 hz1 hv1 ?ep ?eq) ?_; (case ep => first | rfl | (go_simp; done) | (go_simp; rfl)); (case eq => first | rfl | (go_simp; done) | (go_simp; rfl))))
  go_ret
  exact ⟨rfl, S13.out.1⟩
 ·skip
  have i1 : (i == j) = true := beq_iff_eq.mpr hi1
  have i2 : (i = j) = True := eq_true hi1
  rw [if_neg hf] at hr
  have f1 : (a0_1 == -1) = false := beq_eq_false_iff_ne.mpr hf
  have f2 : (a0_1 = -1) = False := eq_false hf
  have hr : p2 = wrap64 (a0_1 - 64) := (of_decide_eq_true hr).symm
  have f3 : (p2 == wrap64 (a0_1 - 64)) = true := beq_iff_eq.mpr hr
  have f4 : (p2 = wrap64 (a0_1 - 64)) = True := eq_true hr
  go_wp2_with (first | ((with_reducible refine qc_ (N := 96) rfl ?_); refine qd_ (by rfl) ?_; refine load_box rfl 26 (.tmp 11) rfl ?lp (S13.out.bk 2 rfl) hu26 rfl (sect_size hx) ?_; (case lp => first | rfl | (go_simp; done) | (go_simp; rfl))) | ((with_reducible refine qc_ (N := 97) rfl ?_); refine qd_ (by rfl) ?_; refine load_box rfl 26 (.tmp 5) rfl ?lp (S13.out.bk 4 rfl) hu26 rfl (sect_size hx) ?_; (case lp => first | rfl | (go_simp; done) | (go_simp; rfl))) | ((with_reducible refine qc_ (N := 98) rfl ?_); refine qd_ (by rfl) ?_; refine Kd.event_run rfl (exec_eql_ints _ rfl hu26 (by kernel_rfl) hu5 (by kernel_rfl) hti (by kernel_rfl) l2 l2 hx hx ?ep ?eq) ?_; (case ep => first | rfl | (go_simp; done) | (go_simp; rfl)); (case eq => first | rfl | (go_simp; done) | (go_simp; rfl))) | ((with_reducible refine qc_ (N := 105) rfl ?_); refine qd_ (by rfl) ?_; refine load_box rfl 26 (.tmp 13) rfl ?lp (S13.out.bk 1 rfl) hu26 rfl (sect_size hz1) ?_; (case lp => first | rfl | (go_simp; done) | (go_simp; rfl))) | ((with_reducible refine qc_ (N := 106) rfl ?_); refine qd_ (by rfl) ?_; refine load_box rfl 26 (.tmp 15) rfl ?lp (S13.out.bk 0 rfl) hu26 rfl (sect_size hv1) ?_; (case lp => first | rfl | (go_simp; done) | (go_simp; rfl))) | ((with_reducible refine qc_ (N := 107) rfl ?_); refine qd_ (by rfl) ?_; refine Kd.event_run rfl (exec_eql_ints _ rfl hu26 (by kernel_rfl) hu5 (by kernel_rfl) hti (by kernel_rfl) z1 v1 hz1 hv1 ?ep ?eq) ?_; (case ep => first | rfl | (go_simp; done) | (go_simp; rfl)); (case eq => first | rfl | (go_simp; done) | (go_simp; rfl))))
  go_ret
  exact ⟨rfl, S13.out.1⟩
 ·skip
  have i1 : (i == j) = false := beq_eq_false_iff_ne.mpr hi1
  have i2 : (i = j) = False := eq_false hi1
  have hq := hq.resolve_left hi1
  have i3 : decide (z1 = v1) = true := decide_eq_true hq
  have i4 : (z1 = v1) = True := eq_true hq
  rw [if_pos hf] at hr
  have f1 : (a0_1 == -1) = true := beq_iff_eq.mpr hf
  have f2 : (a0_1 = -1) = True := eq_true hf
  have hr : p2 = -1 := (of_decide_eq_true hr).symm
  have f3 : (p2 == -1) = true := beq_iff_eq.mpr hr
  have f4 : (p2 = -1) = True := eq_true hr
  go_wp2_with (first | ((with_reducible refine qc_ (N := 96) rfl ?_); refine qd_ (by rfl) ?_; refine load_box rfl 26 (.tmp 11) rfl ?lp (S13.out.bk 2 rfl) hu26 rfl (sect_size hx) ?_; (case lp => first | rfl | (go_simp; done) | (go_simp; rfl))) | ((with_reducible refine qc_ (N := 97) rfl ?_); refine qd_ (by rfl) ?_; refine load_box rfl 26 (.tmp 5) rfl ?lp (S13.out.bk 4 rfl) hu26 rfl (sect_size hx) ?_; (case lp => first | rfl | (go_simp; done) | (go_simp; rfl))) | ((with_reducible refine qc_ (N := 98) rfl ?_); refine qd_ (by rfl) ?_; refine Kd.event_run rfl (exec_eql_ints _ rfl hu26 (by kernel_rfl) hu5 (by kernel_rfl) hti (by kernel_rfl) l2 l2 hx hx ?ep ?eq) ?_; (case ep => first | rfl | (go_simp; done) | (go_simp; rfl)); (case eq => first | rfl | (go_simp; done) | (go_simp; rfl))) | ((with_reducible refine qc_ (N := 105) rfl ?_); refine qd_ (by rfl) ?_; refine load_box rfl 26 (.tmp 13) rfl ?lp (S13.out.bk 1 rfl) hu26 rfl (sect_size hz1) ?_; (case lp => first | rfl | (go_simp; done) | (go_simp; rfl))) | ((with_reducible refine qc_ (N := 106) rfl ?_); refine qd_ (by rfl) ?_; refine load_box rfl 26 (.tmp 15) rfl ?lp (S13.out.bk 0 rfl) hu26 rfl (sect_size hv1) ?_; (case lp => first | rfl | (go_simp; done) | (go_simp; rfl))) | ((with_reducible refine qc_ (N := 107) rfl ?_); refine qd_ (by rfl) ?_; refine Kd.event_run rfl (exec_eql_ints _ rfl hu26 (by kernel_rfl) hu5 (by kernel_rfl) hti (by kernel_rfl) z1 v1 hz1 hv1 ?ep ?eq) ?_; (case ep => first | rfl | (go_simp; done) | (go_simp; rfl)); (case eq => first | rfl | (go_simp; done) | (go_simp; rfl))))
  go_ret
  exact ⟨rfl, S13.out.1⟩
 ·skip
  have i1 : (i == j) = false := beq_eq_false_iff_ne.mpr hi1
  have i2 : (i = j) = False := eq_false hi1
  have hq := hq.resolve_left hi1
  have i3 : decide (z1 = v1) = true := decide_eq_true hq
  have i4 : (z1 = v1) = True := eq_true hq
  rw [if_neg hf] at hr
  have f1 : (a0_1 == -1) = false := beq_eq_false_iff_ne.mpr hf
  have f2 : (a0_1 = -1) = False := eq_false hf
  have hr : p2 = wrap64 (a0_1 - 64) := (of_decide_eq_true hr).symm
  have f3 : (p2 == wrap64 (a0_1 - 64)) = true := beq_iff_eq.mpr hr
  have f4 : (p2 = wrap64 (a0_1 - 64)) = True := eq_true hr
  go_wp2_with (first | ((with_reducible refine qc_ (N := 96) rfl ?_); refine qd_ (by rfl) ?_; refine load_box rfl 26 (.tmp 11) rfl ?lp (S13.out.bk 2 rfl) hu26 rfl (sect_size hx) ?_; (case lp => first | rfl | (go_simp; done) | (go_simp; rfl))) | ((with_reducible refine qc_ (N := 97) rfl ?_); refine qd_ (by rfl) ?_; refine load_box rfl 26 (.tmp 5) rfl ?lp (S13.out.bk 4 rfl) hu26 rfl (sect_size hx) ?_; (case lp => first | rfl | (go_simp; done) | (go_simp; rfl))) | ((with_reducible refine qc_ (N := 98) rfl ?_); refine qd_ (by rfl) ?_; refine Kd.event_run rfl (exec_eql_ints _ rfl hu26 (by kernel_rfl) hu5 (by kernel_rfl) hti (by kernel_rfl) l2 l2 hx hx ?ep ?eq) ?_; (case ep => first | rfl | (go_simp; done) | (go_simp; rfl)); (case eq => first | rfl | (go_simp; done) | (go_simp; rfl))) | ((with_reducible refine qc_ (N := 105) rfl ?_); refine qd_ (by rfl) ?_; refine load_box rfl 26 (.tmp 13) rfl ?lp (S13.out.bk 1 rfl) hu26 rfl (sect_size hz1) ?_; (case lp => first | rfl | (go_simp; done) | (go_simp; rfl))) | ((with_reducible refine qc_ (N := 106) rfl ?_); refine qd_ (by rfl) ?_; refine load_box rfl 26 (.tmp 15) rfl ?lp (S13.out.bk 0 rfl) hu26 rfl (sect_size hv1) ?_; (case lp => first | rfl | (go_simp; done) | (go_simp; rfl))) | ((with_reducible refine qc_ (N := 107) rfl ?_); refine qd_ (by rfl) ?_; refine Kd.event_run rfl (exec_eql_ints _ rfl hu26 (by kernel_rfl) hu5 (by kernel_rfl) hti (by kernel_rfl) z1 v1 hz1 hv1 ?ep ?eq) ?_; (case ep => first | rfl | (go_simp; done) | (go_simp; rfl)); (case eq => first | rfl | (go_simp; done) | (go_simp; rfl))))
  go_ret
  exact ⟨rfl, S13.out.1⟩
end Go.Proofs.Ytckodbfjihcddaa.P

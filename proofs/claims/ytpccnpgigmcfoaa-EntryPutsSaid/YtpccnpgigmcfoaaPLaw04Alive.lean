/- What this function of the program comes to, and that the machine's call does it: written by a program (wip/tool). No condition. -/
import Derived.Test.YtpccnpgigmcfoaaP0
import Derived.Test.YtpccnpgigmcfoaaPEntryJoin
import Derived.Test.YtpccnpgigmcfoaaPRef04Same
import Derived.Test.YtpccnpgigmcfoaaPEntryOver
import Derived.Test.YtpccnpgigmcfoaaPEntryRight
import Derived.Test.YtpccnpgigmcfoaaPEntryTop
import Derived.Test.YtpccnpgigmcfoaaPEntryAbove
import Derived.Test.YtpccnpgigmcfoaaHw
namespace Go.Proofs.Ytpccnpgigmcfoaa.P
open Go.RowKit Go.Proofs.YtpccnpgigmcfoaaW.PrintWords Go.Proofs.YtpccnpgigmcfoaaW.PrintLast Go.Proofs.YtpccnpgigmcfoaaW.PrintMore
attribute [local go_sem] max2_int min2_int max_two min_two max_three min_three max_four min_four Go.Proofs.YtpccnpgigmcfoaaW.Hw.string_gtr   -- for this text's walks alone
set_option linter.unusedVariables false
set_option linter.unusedSimpArgs false
/-! ### law04_alive: function 8 -/
def law04_alive.f (k : Nat)  : Option (Bool) := (some (([(⟨1, 2, (⟨#[122]⟩ : ByteArray)⟩ : S30)] : List (S30)) : List (S30))).bind fun y101 => ((some (([(⟨1, 3, (⟨#[]⟩ : ByteArray)⟩ : S30), (⟨4, 1, (⟨#[]⟩ : ByteArray)⟩ : S30)] : List (S30)) : List (S30))).bind fun y104 => ((entry_Join.f k y101 y104).bind fun t107 => ((ref04_Same.f k t107 y104).bind fun t110 => (if t110 = true then ((entry_Over.f y104 y101).bind fun t111 => (if t111 = true then ((entry_Over.f y101 y104).bind fun t112 => (if t112 = true then (some false) else ((entry_Top.f k y104).bind fun t113 => (if t113 = 3 then ((entry_Above.f y104 1).bind fun t114 => (if (t114.length : Int) = 1 then ((entry_Right.f k y104).bind fun t117 => (some t117)) else (some false))) else (some false))))) else (some false))) else (some false)))))
theorem law04_alive.mono : ∀ k, LeO (law04_alive.f k ) (law04_alive.f (k + 1) ) := by
 intro  k
 unfold law04_alive.f
 repeat' first
   | (with_reducible exact ref04_Same.mono _ _ _)
   | (with_reducible exact entry_Join.mono _ _ _)
   | (with_reducible exact entry_Right.mono _ _)
   | (with_reducible exact entry_Top.mono _ _)
   | (with_reducible exact LeO.refl _)
   | (with_reducible exact LeO.none _)
   | (with_reducible refine LeO.ite ?_ ?_)
   | (with_reducible refine LeO.bind ?_ (fun _ => ?_))
   | exact ref04_Same.mono _ _ _
   | exact entry_Join.mono _ _ _
   | exact entry_Right.mono _ _
   | exact entry_Top.mono _ _
   | exact LeO.none _
   | refine LeO.ite ?_ ?_
   | refine LeO.bind ?_ (fun _ => ?_)
theorem law04_alive.yes (k : Nat) (r : Bool) (h : law04_alive.f k = some r) : r = true := by
 have h60 : law04_alive.f 60 = some true := by decide +kernel
 rcases Nat.le_total k 60 with hk | hk
 ·have := at_rounds (fun k => law04_alive.mono k) hk h; rw [h60] at this; exact (Option.some.inj this).symm
 ·have := at_rounds (fun k => law04_alive.mono k) hk h60; rw [h] at this; exact Option.some.inj this
set_option maxHeartbeats 8000000 in
set_option maxRecDepth 100000 in
theorem law04_alive.calls (k : Nat)  (r : Bool) (w : World) (h : law04_alive.f k  = some r) :
  Calls Try.prog 8 #[] w fun e w' => e = .returned (.bool r) ∧ Below w.heap.size w w' := by
 have HRT := Aside0.mk (law04_alive.yes k r h)
 have hu30 := Try.underlying30
 have HB := Aside0.mk (Below.refl w.heap.size w)
 have H : ((some (([(⟨1, 2, (⟨#[122]⟩ : ByteArray)⟩ : S30)] : List (S30)) : List (S30))).bind fun y101 => ((some (([(⟨1, 3, (⟨#[]⟩ : ByteArray)⟩ : S30), (⟨4, 1, (⟨#[]⟩ : ByteArray)⟩ : S30)] : List (S30)) : List (S30))).bind fun y104 => ((entry_Join.f k y101 y104).bind fun t107 => ((ref04_Same.f k t107 y104).bind fun t110 => (if t110 = true then ((entry_Over.f y104 y101).bind fun t111 => (if t111 = true then ((entry_Over.f y101 y104).bind fun t112 => (if t112 = true then (some false) else ((entry_Top.f k y104).bind fun t113 => (if t113 = 3 then ((entry_Above.f y104 1).bind fun t114 => (if (t114.length : Int) = 1 then ((entry_Right.f k y104).bind fun t117 => (some t117)) else (some false))) else (some false))))) else (some false))) else (some false)))))) = some r := h
 clear h
 obtain ⟨y101, hy101⟩ : ∃ y_ : List (S30), y_ = (([(⟨1, 2, (⟨#[122]⟩ : ByteArray)⟩ : S30)] : List (S30))) := ⟨_, rfl⟩
 replace H : ((some (([(⟨1, 3, (⟨#[]⟩ : ByteArray)⟩ : S30), (⟨4, 1, (⟨#[]⟩ : ByteArray)⟩ : S30)] : List (S30)) : List (S30))).bind fun y104 => ((entry_Join.f k y101 y104).bind fun t107 => ((ref04_Same.f k t107 y104).bind fun t110 => (if t110 = true then ((entry_Over.f y104 y101).bind fun t111 => (if t111 = true then ((entry_Over.f y101 y104).bind fun t112 => (if t112 = true then (some false) else ((entry_Top.f k y104).bind fun t113 => (if t113 = 3 then ((entry_Above.f y104 1).bind fun t114 => (if (t114.length : Int) = 1 then ((entry_Right.f k y104).bind fun t117 => (some t117)) else (some false))) else (some false))))) else (some false))) else (some false))))) = some r := by first | (rw [hy101]; with_reducible exact H) | (have H2_ := (Option.bind_some _ _).symm.trans H; rw [hy101]; with_reducible exact H2_) | (have H2_ := (Option.bind_some _ _).symm.trans H; with_reducible exact H2_) | with_reducible exact H | (rw [hy101]; exact H) | exact H
 have Ny101 := Aside0.mk hy101
 clear hy101
 obtain ⟨y104, hy104⟩ : ∃ y_ : List (S30), y_ = (([(⟨1, 3, (⟨#[]⟩ : ByteArray)⟩ : S30), (⟨4, 1, (⟨#[]⟩ : ByteArray)⟩ : S30)] : List (S30))) := ⟨_, rfl⟩
 replace H : ((entry_Join.f k y101 y104).bind fun t107 => ((ref04_Same.f k t107 y104).bind fun t110 => (if t110 = true then ((entry_Over.f y104 y101).bind fun t111 => (if t111 = true then ((entry_Over.f y101 y104).bind fun t112 => (if t112 = true then (some false) else ((entry_Top.f k y104).bind fun t113 => (if t113 = 3 then ((entry_Above.f y104 1).bind fun t114 => (if (t114.length : Int) = 1 then ((entry_Right.f k y104).bind fun t117 => (some t117)) else (some false))) else (some false))))) else (some false))) else (some false)))) = some r := by first | (rw [hy104]; with_reducible exact H) | (have H2_ := (Option.bind_some _ _).symm.trans H; rw [hy104]; with_reducible exact H2_) | (have H2_ := (Option.bind_some _ _).symm.trans H; with_reducible exact H2_) | with_reducible exact H | (rw [hy104]; exact H) | exact H
 have Ny104 := Aside0.mk hy104
 clear hy104
 replace H := ob_ H
 obtain ⟨t107, A10, H⟩ := H
 replace H : ((ref04_Same.f k t107 y104).bind fun t110 => (if t110 = true then ((entry_Over.f y104 y101).bind fun t111 => (if t111 = true then ((entry_Over.f y101 y104).bind fun t112 => (if t112 = true then (some false) else ((entry_Top.f k y104).bind fun t113 => (if t113 = 3 then ((entry_Above.f y104 1).bind fun t114 => (if (t114.length : Int) = 1 then ((entry_Right.f k y104).bind fun t117 => (some t117)) else (some false))) else (some false))))) else (some false))) else (some false))) = some r := H
 have A1 := Aside0.mk A10
 clear A10
 replace H := ob_ H
 obtain ⟨t110, A20, H⟩ := H
 replace H : (if t110 = true then ((entry_Over.f y104 y101).bind fun t111 => (if t111 = true then ((entry_Over.f y101 y104).bind fun t112 => (if t112 = true then (some false) else ((entry_Top.f k y104).bind fun t113 => (if t113 = 3 then ((entry_Above.f y104 1).bind fun t114 => (if (t114.length : Int) = 1 then ((entry_Right.f k y104).bind fun t117 => (some t117)) else (some false))) else (some false))))) else (some false))) else (some false)) = some r := H
 have A2 := Aside0.mk A20
 clear A20
 by_cases c3 : t110 = true
 ·subst c3
  have H1 : ((entry_Over.f y104 y101).bind fun t111 => (if t111 = true then ((entry_Over.f y101 y104).bind fun t112 => (if t112 = true then (some false) else ((entry_Top.f k y104).bind fun t113 => (if t113 = 3 then ((entry_Above.f y104 1).bind fun t114 => (if (t114.length : Int) = 1 then ((entry_Right.f k y104).bind fun t117 => (some t117)) else (some false))) else (some false))))) else (some false))) = some r := by rw [if_pos rfl] at H; exact H
  clear H
  have H := H1
  clear H1
  replace H := ob_ H
  obtain ⟨t111, A40, H⟩ := H
  replace H : (if t111 = true then ((entry_Over.f y101 y104).bind fun t112 => (if t112 = true then (some false) else ((entry_Top.f k y104).bind fun t113 => (if t113 = 3 then ((entry_Above.f y104 1).bind fun t114 => (if (t114.length : Int) = 1 then ((entry_Right.f k y104).bind fun t117 => (some t117)) else (some false))) else (some false))))) else (some false)) = some r := H
  have A4 := Aside0.mk A40
  clear A40
  by_cases c5 : t111 = true
  ·subst c5
   have H1 : ((entry_Over.f y101 y104).bind fun t112 => (if t112 = true then (some false) else ((entry_Top.f k y104).bind fun t113 => (if t113 = 3 then ((entry_Above.f y104 1).bind fun t114 => (if (t114.length : Int) = 1 then ((entry_Right.f k y104).bind fun t117 => (some t117)) else (some false))) else (some false))))) = some r := by rw [if_pos rfl] at H; exact H
   clear H
   have H := H1
   clear H1
   replace H := ob_ H
   obtain ⟨t112, A60, H⟩ := H
   replace H : (if t112 = true then (some false) else ((entry_Top.f k y104).bind fun t113 => (if t113 = 3 then ((entry_Above.f y104 1).bind fun t114 => (if (t114.length : Int) = 1 then ((entry_Right.f k y104).bind fun t117 => (some t117)) else (some false))) else (some false)))) = some r := H
   have A6 := Aside0.mk A60
   clear A60
   by_cases c7 : t112 = true
   ·rw [if_pos c7] at H
    exact absurd ((Option.some.inj H).trans HRT.out) (by decide)
   ·replace c7 := Bool.eq_false_iff.mpr c7
    subst c7
    have H1 : ((entry_Top.f k y104).bind fun t113 => (if t113 = 3 then ((entry_Above.f y104 1).bind fun t114 => (if (t114.length : Int) = 1 then ((entry_Right.f k y104).bind fun t117 => (some t117)) else (some false))) else (some false))) = some r := by rw [if_neg (show ¬ (false = true) by decide)] at H; exact H
    clear H
    have H := H1
    clear H1
    replace H := ob_ H
    obtain ⟨t113, A180, H⟩ := H
    replace H : (if t113 = 3 then ((entry_Above.f y104 1).bind fun t114 => (if (t114.length : Int) = 1 then ((entry_Right.f k y104).bind fun t117 => (some t117)) else (some false))) else (some false)) = some r := H
    have A18 := Aside0.mk A180
    clear A180
    by_cases c19 : t113 = 3
    ·rw [if_pos c19] at H
     have c19b0 : (t113 == 3) = true := beq_iff_eq.mpr c19
     have c19b1 : (t113 != 3) = false := bne_eq_false_iff_eq.mpr c19
     clear c19
     replace H := ob_ H
     obtain ⟨t114, A200, H⟩ := H
     replace H : (if (t114.length : Int) = 1 then ((entry_Right.f k y104).bind fun t117 => (some t117)) else (some false)) = some r := H
     have A20 := Aside0.mk A200
     clear A200
     by_cases c21 : (t114.length : Int) = 1
     ·rw [if_pos c21] at H
      have c21b0 : ((t114.length : Int) == 1) = true := beq_iff_eq.mpr c21
      have c21b1 : ((t114.length : Int) != 1) = false := bne_eq_false_iff_eq.mpr c21
      clear c21
      replace H := ob_ H
      obtain ⟨t117, A220, H⟩ := H
      replace H : (some t117) = some r := H
      have A22 := Aside0.mk A220
      clear A220
      obtain rfl := Option.some.inj H
      go_enter Try.func8, Try.ntmps8
      go_wp2_with (first | ((with_reducible refine qq_ (N := 4) rfl ?_); (try (refine gate_guard (by rfl) ?_; dsimp only)); refine Kd.R_lit k30 _ 30 ?hg (N := 4) ?hd (xs := ([(⟨1, 2, (⟨#[122]⟩ : ByteArray)⟩ : S30)] : List (S30))) (inner := [.int .i64 1, .int .i64 2, .string (⟨#[122]⟩ : ByteArray)]) (ok := fun _ => True) (okp := fun _ => True) ?hr ?hp (fun _ hk => hk) trivial (Below.refl _ _) (Nat.le_refl _) (by simp) ?_; (case hd => rfl); (case hg => rfl); (case hr => first | (go_simp; done) | (go_simp; rfl)); (case hp => exact (Reps.c3 (show Kd.M k30 _ _ _ (⟨1, 2, (⟨#[122]⟩ : ByteArray)⟩ : S30) [.int .i64 1, .int .i64 2, .string (⟨#[122]⟩ : ByteArray)] from (k30_mkM _ _ _ (⟨1, 2, (⟨#[122]⟩ : ByteArray)⟩ : S30) )) (Reps.none _ _))); intro v102 w23 ho24 hb hg_ hnew_; clear hg_ hnew_; (first | rw [← Ny101.out] at ho24 | (simp only [Int.reduceToNat] at ho24; rw [← Ny101.out] at ho24)); have n0_ := Aside0.mk (Kd.R_lower ho24 (qj_ (by repeat (first | (with_reducible first | exact HB.out | apply qc_ | apply qa_ | apply qb_) | exact HB.out)))); have n1_ := Aside0.mk (qk_ (by repeat (first | (with_reducible first | exact HB.out | apply qc_ | apply qa_ | apply qb_) | exact HB.out)) hb); clear HB; have HO103 := n0_; have HB := n1_; clear n0_ n1_; clear hb ho24) | ((with_reducible refine qq_ (N := 7) rfl ?_); (try (refine gate_guard (by rfl) ?_; dsimp only)); refine Kd.R_lit k30 _ 30 ?hg (N := 7) ?hd (xs := ([(⟨1, 3, (⟨#[]⟩ : ByteArray)⟩ : S30), (⟨4, 1, (⟨#[]⟩ : ByteArray)⟩ : S30)] : List (S30))) (inner := [.int .i64 1, .int .i64 3, .string (⟨#[]⟩ : ByteArray), .int .i64 4, .int .i64 1, .string (⟨#[]⟩ : ByteArray)]) (ok := fun _ => True) (okp := fun _ => True) ?hr ?hp (fun _ hk => hk) trivial (Below.refl _ _) (Nat.le_refl _) (by simp) ?_; (case hd => rfl); (case hg => rfl); (case hr => first | (go_simp; done) | (go_simp; rfl)); (case hp => exact (Reps.c3 (show Kd.M k30 _ _ _ (⟨1, 3, (⟨#[]⟩ : ByteArray)⟩ : S30) [.int .i64 1, .int .i64 3, .string (⟨#[]⟩ : ByteArray)] from (k30_mkM _ _ _ (⟨1, 3, (⟨#[]⟩ : ByteArray)⟩ : S30) )) (Reps.c3 (show Kd.M k30 _ _ _ (⟨4, 1, (⟨#[]⟩ : ByteArray)⟩ : S30) [.int .i64 4, .int .i64 1, .string (⟨#[]⟩ : ByteArray)] from (k30_mkM _ _ _ (⟨4, 1, (⟨#[]⟩ : ByteArray)⟩ : S30) )) (Reps.none _ _)))); intro v105 w25 ho26 hb hg_ hnew_; clear hg_ hnew_; (first | rw [← Ny104.out] at ho26 | (simp only [Int.reduceToNat] at ho26; rw [← Ny104.out] at ho26)); have n0_ := Aside0.mk (Kd.R_elder' (by (with_reducible repeat (first | apply Kd.qn_ | apply Kd.qm_ | apply Kd.R_drew)); exact HO103.out) (Kd.R_base ho26) hb); have n1_ := Aside0.mk (Kd.R_lower (Kd.R_new' ho26 (Kd.R_lt (by (with_reducible repeat (first | apply Kd.qn_ | apply Kd.qm_ | apply Kd.R_drew)); exact HO103.out))) (qj_ (by repeat (first | (with_reducible first | exact HB.out | apply qc_ | apply qa_ | apply qb_) | exact HB.out)))); have n2_ := Aside0.mk (qk_ (by repeat (first | (with_reducible first | exact HB.out | apply qc_ | apply qa_ | apply qb_) | exact HB.out)) hb); clear HO103; clear HB; have HO103 := n0_; have HO106 := n1_; have HB := n2_; clear n0_ n1_ n2_; clear hb ho26; obtain ⟨Ao27, co27, eo27⟩ := Kd.R_slice HO103.out; subst eo27; obtain ⟨Ao28, co28, eo28⟩ := Kd.R_slice HO106.out; subst eo28) | ((with_reducible refine gate_callee (f := 11) rfl ?_); refine goesL_ (some 10) rfl rfl Try.func11 (by kernel_rfl) rfl #[.slice Ao27 y101.length co27, .slice Ao28 y104.length co28] rfl (by (try simp only [List.map_toArray, List.map_cons, List.map_nil]); first | done | rfl | (simp only [List.length_drop, List.length_take]; rfl)) ?_; (with_reducible refine (entry_Join.calls k (fun k_ => some k_ = (.slice Ao27 y101.length co27 : Value).ownBlock) _ _ y101 (fun k_ => some k_ = (.slice Ao28 y104.length co28 : Value).ownBlock) _ _ y104 t107 _ ?side1 ?side2 A1.out).mono ?_); (case side1 => exact Kd.R_V (Kd.R_tight rfl (HO103.out))); (case side2 => exact Kd.R_V (Kd.R_tight rfl (HO106.out))); rintro e w29 ⟨v108, rfl, ho0, hb⟩; refine ⟨_, rfl, ?_⟩; have n0_ := Aside0.mk (Kd.R_elder' (by (with_reducible repeat (first | apply Kd.qn_ | apply Kd.qm_ | apply Kd.R_drew)); exact HO103.out) (Kd.R_base ho0) hb); have n1_ := Aside0.mk (Kd.R_elder' (by (with_reducible repeat (first | apply Kd.qn_ | apply Kd.qm_ | apply Kd.R_drew)); exact HO106.out) (Kd.R_base ho0) hb); have n2_ := Aside0.mk (Kd.R_lower (Kd.R_new' (Kd.R_new' (Kd.R_mono (ok' := fun k_ => True) ho0 (fun _ hk_ => trivial)) (Kd.R_lt (by (with_reducible repeat (first | apply Kd.qn_ | apply Kd.qm_ | apply Kd.R_drew)); exact HO103.out))) (Kd.R_lt (by (with_reducible repeat (first | apply Kd.qn_ | apply Kd.qm_ | apply Kd.R_drew)); exact HO106.out))) (qj_ (by repeat (first | (with_reducible first | exact HB.out | apply qc_ | apply qa_ | apply qb_) | exact HB.out)))); have n3_ := Aside0.mk (qk_ (by repeat (first | (with_reducible first | exact HB.out | apply qc_ | apply qa_ | apply qb_) | exact HB.out)) hb); clear HO103; clear HO106; clear HB; have HO103 := n0_; have HO106 := n1_; have HO109 := n2_; have HB := n3_; clear n0_ n1_ n2_ n3_; (try clear hb); (try clear hb2); (try clear hk); (try clear hi); (try clear ho0); obtain ⟨Ao30, co30, eo30⟩ := Kd.R_slice HO109.out; subst eo30) | ((with_reducible refine gate_callee (f := 12) rfl ?_); refine goesL_ (some 12) rfl rfl Try.func12 (by kernel_rfl) rfl #[.slice Ao30 t107.length co30, .slice Ao28 y104.length co28] rfl (by (try simp only [List.map_toArray, List.map_cons, List.map_nil]); first | done | rfl | (simp only [List.length_drop, List.length_take]; rfl)) ?_; (with_reducible refine (ref04_Same.calls k _ _ t107 _ _ y104 true _ ?side1 ?side2 ?side3 ?side4 A2.out).mono ?_); (case side1 => repeat (first | exact (Kd.R_reads' HO109.out).2.2 | (with_reducible refine Kd.qt_ ?_ _) | (with_reducible refine Kd.qs_ ?_ _) | (with_reducible refine Kd.C_drew ?_))); (case side2 => exact (Kd.R_reads' HO109.out).2.1); (case side3 => repeat (first | exact (Kd.R_reads' HO106.out).2.2 | (with_reducible refine Kd.qt_ ?_ _) | (with_reducible refine Kd.qs_ ?_ _) | (with_reducible refine Kd.C_drew ?_))); (case side4 => exact (Kd.R_reads' HO106.out).2.1); rintro e w' ⟨rfl, ⟨nd, rfl⟩⟩; refine ⟨_, rfl, ?_⟩) | (go_at_call 13; (with_reducible refine (entry_Over.calls _ _ y104 _ _ y101 true _ ?side1 ?side2 ?side3 ?side4 A4.out).mono ?_); (case side1 => repeat (first | exact (Kd.R_reads' HO106.out).2.2 | (with_reducible refine Kd.qt_ ?_ _) | (with_reducible refine Kd.qs_ ?_ _) | (with_reducible refine Kd.C_drew ?_))); (case side2 => exact (Kd.R_reads' HO106.out).2.1); (case side3 => repeat (first | exact (Kd.R_reads' HO103.out).2.2 | (with_reducible refine Kd.qt_ ?_ _) | (with_reducible refine Kd.qs_ ?_ _) | (with_reducible refine Kd.C_drew ?_))); (case side4 => exact (Kd.R_reads' HO103.out).2.1); rintro e w31 ⟨rfl, hb⟩; have n0_ := Aside0.mk (Kd.R_below (by (with_reducible repeat (first | apply Kd.qn_ | apply Kd.qm_ | apply Kd.R_drew)); exact HO103.out) hb); have n1_ := Aside0.mk (Kd.R_below (by (with_reducible repeat (first | apply Kd.qn_ | apply Kd.qm_ | apply Kd.R_drew)); exact HO106.out) hb); have n2_ := Aside0.mk (Kd.R_below (by (with_reducible repeat (first | apply Kd.qn_ | apply Kd.qm_ | apply Kd.R_drew)); exact HO109.out) hb); have n3_ := Aside0.mk (qk_ (by repeat (first | (with_reducible first | exact HB.out | apply qc_ | apply qa_ | apply qb_) | exact HB.out)) hb); clear HO103; clear HO106; clear HO109; clear HB; have HO103 := n0_; have HO106 := n1_; have HO109 := n2_; have HB := n3_; clear n0_ n1_ n2_ n3_; (try clear hb); (try clear hb2); (try clear hk); (try clear hi)) | (go_at_call 13; (with_reducible refine (entry_Over.calls _ _ y101 _ _ y104 false _ ?side1 ?side2 ?side3 ?side4 A6.out).mono ?_); (case side1 => repeat (first | exact (Kd.R_reads' HO103.out).2.2 | (with_reducible refine Kd.qt_ ?_ _) | (with_reducible refine Kd.qs_ ?_ _) | (with_reducible refine Kd.C_drew ?_))); (case side2 => exact (Kd.R_reads' HO103.out).2.1); (case side3 => repeat (first | exact (Kd.R_reads' HO106.out).2.2 | (with_reducible refine Kd.qt_ ?_ _) | (with_reducible refine Kd.qs_ ?_ _) | (with_reducible refine Kd.C_drew ?_))); (case side4 => exact (Kd.R_reads' HO106.out).2.1); rintro e w32 ⟨rfl, hb⟩; have n0_ := Aside0.mk (Kd.R_below (by (with_reducible repeat (first | apply Kd.qn_ | apply Kd.qm_ | apply Kd.R_drew)); exact HO103.out) hb); have n1_ := Aside0.mk (Kd.R_below (by (with_reducible repeat (first | apply Kd.qn_ | apply Kd.qm_ | apply Kd.R_drew)); exact HO106.out) hb); have n2_ := Aside0.mk (Kd.R_below (by (with_reducible repeat (first | apply Kd.qn_ | apply Kd.qm_ | apply Kd.R_drew)); exact HO109.out) hb); have n3_ := Aside0.mk (qk_ (by repeat (first | (with_reducible first | exact HB.out | apply qc_ | apply qa_ | apply qb_) | exact HB.out)) hb); clear HO103; clear HO106; clear HO109; clear HB; have HO103 := n0_; have HO106 := n1_; have HO109 := n2_; have HB := n3_; clear n0_ n1_ n2_ n3_; (try clear hb); (try clear hb2); (try clear hk); (try clear hi)) | (go_at_call 15; (with_reducible refine (entry_Top.calls k _ _ y104 t113 _ ?side1 ?side2 A18.out).mono ?_); (case side1 => repeat (first | exact (Kd.R_reads' HO106.out).2.2 | (with_reducible refine Kd.qt_ ?_ _) | (with_reducible refine Kd.qs_ ?_ _) | (with_reducible refine Kd.C_drew ?_))); (case side2 => exact (Kd.R_reads' HO106.out).2.1); rintro e w33 ⟨rfl, hb⟩; have n0_ := Aside0.mk (Kd.R_below (by (with_reducible repeat (first | apply Kd.qn_ | apply Kd.qm_ | apply Kd.R_drew)); exact HO103.out) hb); have n1_ := Aside0.mk (Kd.R_below (by (with_reducible repeat (first | apply Kd.qn_ | apply Kd.qm_ | apply Kd.R_drew)); exact HO106.out) hb); have n2_ := Aside0.mk (Kd.R_below (by (with_reducible repeat (first | apply Kd.qn_ | apply Kd.qm_ | apply Kd.R_drew)); exact HO109.out) hb); have n3_ := Aside0.mk (qk_ (by repeat (first | (with_reducible first | exact HB.out | apply qc_ | apply qa_ | apply qb_) | exact HB.out)) hb); clear HO103; clear HO106; clear HO109; clear HB; have HO103 := n0_; have HO106 := n1_; have HO109 := n2_; have HB := n3_; clear n0_ n1_ n2_ n3_; (try clear hb); (try clear hb2); (try clear hk); (try clear hi)) | (go_at_call 20; (with_reducible refine (entry_Above.calls _ _ y104 1 t114 _ ?side1 ?side2 A20.out).mono ?_); (case side1 => repeat (first | exact (Kd.R_reads' HO106.out).2.2 | (with_reducible refine Kd.qt_ ?_ _) | (with_reducible refine Kd.qs_ ?_ _) | (with_reducible refine Kd.C_drew ?_))); (case side2 => exact (Kd.R_reads' HO106.out).2.1); rintro e w34 ⟨v115, rfl, ho0, hb⟩; have n0_ := Aside0.mk (Kd.R_elder' (by (with_reducible repeat (first | apply Kd.qn_ | apply Kd.qm_ | apply Kd.R_drew)); exact HO103.out) (Kd.R_base ho0) hb); have n1_ := Aside0.mk (Kd.R_elder' (by (with_reducible repeat (first | apply Kd.qn_ | apply Kd.qm_ | apply Kd.R_drew)); exact HO106.out) (Kd.R_base ho0) hb); have n2_ := Aside0.mk (Kd.R_elder' (by (with_reducible repeat (first | apply Kd.qn_ | apply Kd.qm_ | apply Kd.R_drew)); exact HO109.out) (Kd.R_base ho0) hb); have n3_ := Aside0.mk (Kd.R_lower (Kd.R_new' (Kd.R_new' (Kd.R_new' ho0 (Kd.R_lt (by (with_reducible repeat (first | apply Kd.qn_ | apply Kd.qm_ | apply Kd.R_drew)); exact HO103.out))) (Kd.R_lt (by (with_reducible repeat (first | apply Kd.qn_ | apply Kd.qm_ | apply Kd.R_drew)); exact HO106.out))) (Kd.R_lt (by (with_reducible repeat (first | apply Kd.qn_ | apply Kd.qm_ | apply Kd.R_drew)); exact HO109.out))) (qj_ (by repeat (first | (with_reducible first | exact HB.out | apply qc_ | apply qa_ | apply qb_) | exact HB.out)))); have n4_ := Aside0.mk (qk_ (by repeat (first | (with_reducible first | exact HB.out | apply qc_ | apply qa_ | apply qb_) | exact HB.out)) hb); clear HO103; clear HO106; clear HO109; clear HB; have HO103 := n0_; have HO106 := n1_; have HO109 := n2_; have HO116 := n3_; have HB := n4_; clear n0_ n1_ n2_ n3_ n4_; (try clear hb); (try clear hb2); (try clear hk); (try clear hi); (try clear ho0); obtain ⟨Ao35, co35, eo35⟩ := Kd.R_slice HO116.out; subst eo35) | (go_at_call 14; (with_reducible refine (entry_Right.calls k _ _ y104 t117 _ ?side1 ?side2 A22.out).mono ?_); (case side1 => repeat (first | exact (Kd.R_reads' HO106.out).2.2 | (with_reducible refine Kd.qt_ ?_ _) | (with_reducible refine Kd.qs_ ?_ _) | (with_reducible refine Kd.C_drew ?_))); (case side2 => exact (Kd.R_reads' HO106.out).2.1); rintro e w36 ⟨rfl, hb⟩; have n0_ := Aside0.mk (Kd.R_below (by (with_reducible repeat (first | apply Kd.qn_ | apply Kd.qm_ | apply Kd.R_drew)); exact HO103.out) hb); have n1_ := Aside0.mk (Kd.R_below (by (with_reducible repeat (first | apply Kd.qn_ | apply Kd.qm_ | apply Kd.R_drew)); exact HO106.out) hb); have n2_ := Aside0.mk (Kd.R_below (by (with_reducible repeat (first | apply Kd.qn_ | apply Kd.qm_ | apply Kd.R_drew)); exact HO109.out) hb); have n3_ := Aside0.mk (Kd.R_below (by (with_reducible repeat (first | apply Kd.qn_ | apply Kd.qm_ | apply Kd.R_drew)); exact HO116.out) hb); have n4_ := Aside0.mk (qk_ (by repeat (first | (with_reducible first | exact HB.out | apply qc_ | apply qa_ | apply qb_) | exact HB.out)) hb); clear HO103; clear HO106; clear HO109; clear HO116; clear HB; have HO103 := n0_; have HO106 := n1_; have HO109 := n2_; have HO116 := n3_; have HB := n4_; clear n0_ n1_ n2_ n3_ n4_; (try clear hb); (try clear hb2); (try clear hk); (try clear hi)))
      go_ret
      exact ⟨by first | rfl | (simp [errW_none, errW_some] <;> rfl) | (simp [*, errW_none, errW_some] <;> rfl), by repeat (first | (with_reducible first | exact HB.out | apply qc_ | apply qa_ | apply qb_) | exact HB.out)⟩
     ·rw [if_neg c21] at H
      exact absurd ((Option.some.inj H).trans HRT.out) (by decide)
    ·rw [if_neg c19] at H
     exact absurd ((Option.some.inj H).trans HRT.out) (by decide)
  ·rw [if_neg c5] at H
   exact absurd ((Option.some.inj H).trans HRT.out) (by decide)
 ·rw [if_neg c3] at H
  exact absurd ((Option.some.inj H).trans HRT.out) (by decide)
end Go.Proofs.Ytpccnpgigmcfoaa.P

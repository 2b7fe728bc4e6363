/- What this function of the program comes to, and that the machine's call does it: written by a program (wip/tool). No condition. -/
import Derived.Test.YtfaiapmckimjeaaP0
import Derived.Test.YtfaiapmckimjeaaPSlicesGrowByteByte
import Derived.Test.YtfaiapmckimjeaaHw
namespace Go.Proofs.Ytfaiapmckimjeaa.P
open Go.RowKit Go.Proofs.YtfaiapmckimjeaaW.PrintWords Go.Proofs.YtfaiapmckimjeaaW.PrintLast Go.Proofs.YtfaiapmckimjeaaW.PrintMore
attribute [local go_sem] max2_int min2_int max_two min_two max_three min_three max_four min_four Go.Proofs.YtfaiapmckimjeaaW.Hw.string_gtr   -- for this text's walks alone
set_option linter.unusedVariables false
set_option linter.unusedSimpArgs false
/-! ### slices_Concat_byte_byte: function 18 -/
/-- How long rows are, all together. -/
def slices_Concat_byte_byte.tot (l0 : List (List Int)) : Nat := (l0.map List.length).sum
def slices_Concat_byte_byte.f (l0 : List (List Int)) : Option (List Int) := if slices_Concat_byte_byte.tot l0 < 70368744177664 then some l0.flatten else none
theorem slices_Concat_byte_byte.tot_take (l0 : List (List Int)) (i : Nat) (h : i < l0.length) : slices_Concat_byte_byte.tot (l0.take (i + 1)) = slices_Concat_byte_byte.tot (l0.take i) + (l0.getD i []).length := by
 unfold slices_Concat_byte_byte.tot
 rw [List.take_succ_eq_append_getElem h, List.map_append, List.sum_append, List.getD_eq_getElem?_getD, List.getElem?_eq_getElem h]
 simp
theorem slices_Concat_byte_byte.tot_le (l0 : List (List Int)) (i : Nat) : slices_Concat_byte_byte.tot (l0.take i) ≤ slices_Concat_byte_byte.tot l0 := by
 have h : slices_Concat_byte_byte.tot l0 = slices_Concat_byte_byte.tot (l0.take i) + slices_Concat_byte_byte.tot (l0.drop i) := by
  unfold slices_Concat_byte_byte.tot
  rw [← List.sum_append, ← List.map_append, List.take_append_drop]
 omega
theorem slices_Concat_byte_byte.flat_take (l0 : List (List Int)) (i : Nat) (h : i < l0.length) : (l0.take (i + 1)).flatten = (l0.take i).flatten ++ l0.getD i [] := by
 rw [List.take_succ_eq_append_getElem h, List.flatten_append, List.getD_eq_getElem?_getD, List.getElem?_eq_getElem h]
 simp
theorem slices_Concat_byte_byte.flat_len (l0 : List (List Int)) : l0.flatten.length = slices_Concat_byte_byte.tot l0 := by
 unfold slices_Concat_byte_byte.tot
 rw [List.length_flatten]
open Go.Proofs.YtfaiapmckimjeaaW.Hw in
set_option maxHeartbeats 16000000 in
set_option maxRecDepth 100000 in
theorem slices_Concat_byte_byte.calls (A0 : Option Addr) (c0 : Nat) (l0 : List (List Int)) (r : List Int) (w : World) (hr0 : Kd.C (Kd.slice 22 (Kd.int .u8)) w A0 l0.length l0) (hc0 : l0.length ≤ c0) (h : slices_Concat_byte_byte.f l0 = some r) :
  Calls Try.prog 18 #[.slice A0 l0.length c0] w fun e w' => ∃ v0_ : Value, e = .returned v0_ ∧ Kd.R (Kd.int .u8) 5 w' w.heap.size (fun _ => True) v0_ r ∧ Below w.heap.size w w' := by
 unfold slices_Concat_byte_byte.f at h
 by_cases hl : slices_Concat_byte_byte.tot l0 < 70368744177664
 case neg => rw [if_neg hl] at h; cases h
 rw [if_pos hl] at h
 obtain rfl := Option.some.inj h
 have HT := Aside0.mk hl
 have HR := Aside0.mk hr0
 have HL := Aside0.mk hr0.2.1
 clear h hl hr0 hc0
 have HB0 := Aside0.mk (Below.refl w.heap.size w)
 go_enter Try.func18, Try.ntmps18
 go_wp2
 go_loopg [3, 11] l0.length (fun kx s3 s11 wr => ∃ i : Nat, s3 = .int .i64 ((slices_Concat_byte_byte.tot (l0.take i) : Nat) : Int) ∧ s11 = .int .i64 (i : Int) ∧ Aside0 (i ≤ l0.length ∧ l0.length - i ≤ kx) ∧ Aside0 (Below w.heap.size w wr))
 case atStart => exact ⟨0, rfl, rfl, ⟨by omega⟩, HB0⟩
 case round =>
  obtain ⟨i, rfl, rfl, HI, BW⟩ := hrel
  by_cases hlt : i < l0.length
  ·have p1 : (0 : Int) ≤ (i : Int) := by omega
   have p2 : (i : Int) < (l0.length : Int) := by omega
   obtain ⟨ad, c, e_, hcl, hK, hcell⟩ := ReadsRow.get_ HR.out ([] : List Int) (i : Int) p1 p2
   cases e_
   obtain ⟨Ai, ci, rfl, hli, hCi⟩ := hK
   have hx_0 : wr.cell? (ad.add i) = some (.slice Ai (l0.getD i []).length ci) := by
    have h0 := hcell 0 _ rfl
    have e9 : ((i : Int).toNat * (Kd.slice 22 (Kd.int .u8)).sz + 0) = i := by show i * 1 + 0 = i; omega
    rw [e9] at h0
    exact (BW.out.cell (wb_ w _ h0)).trans h0
   have hT := slices_Concat_byte_byte.tot_take l0 i hlt
   have hT2 := slices_Concat_byte_byte.tot_le l0 (i + 1)
   have hT3 := HT.out
   have hw1 : wrap64 (((slices_Concat_byte_byte.tot (l0.take i) : Nat) : Int) + ((l0.getD i []).length : Int)) = ((slices_Concat_byte_byte.tot (l0.take (i + 1)) : Nat) : Int) := by unfold wrap64; omega
   have hlw := HL.out
   have hw2 : wrap64 ((i : Int) + 1) = ((i + 1 : Nat) : Int) := by unfold wrap64; omega
   have hneg : decide (((slices_Concat_byte_byte.tot (l0.take (i + 1)) : Nat) : Int) < 0) = false := decide_eq_false (Int.not_lt.2 (Int.natCast_nonneg _))
   have p3 := decide_eq_true p2
   have p5 := decide_eq_true hlt
   have p6 := eq_true hlt
   replace p1 := eq_true p1
   replace p2 := eq_true p2
   have HLT := Aside0.mk hlt
   clear hcl hcell hli hCi hT hT2 hT3 hlw hlt
   generalize (l0.getD i []).length = len at hx_0 hw1
   go_wp2
   go_roundg (l0.length - (i + 1))
   case measure => have h1 := HI.out; have h2 := HLT.out; omega
   case rel => exact ⟨i + 1, (by first | rfl | (simp; done) | (simp [*]; done)), (by first | rfl | (simp; done) | (simp [*]; done)), ⟨by have h1 := HI.out; have h2 := HLT.out; omega⟩, BW⟩
  ·obtain rfl : i = l0.length := by have := HI.out; omega
   have hT3 := HT.out
   have hG := fun W => GrowNil.calls (slices_Concat_byte_byte.tot l0) (by omega) W
   rw [List.take_length]
   have HG := Aside0.mk hG
   clear hG hT3 hlt
   go_wp2_with (go_at_call 20; refine (HG.out _).mono ?_; rintro e w3 ⟨v3, rfl, ho3, hb3⟩; have HO3 := Aside0.mk (Kd.R_lower ho3 (below_size BW.out)); have HB3 := Aside0.mk (below_step BW.out hb3); clear ho3 hb3)
   go_loopg [6, 27] l0.length (fun kx s6 s27 wr => ∃ (i : Nat) (v : Value), s27 = .int .i64 (i : Int) ∧ v = s6 ∧ Aside0 (i ≤ l0.length ∧ l0.length - i ≤ kx) ∧ Aside0 (Below w.heap.size w wr) ∧ Aside0 (Kd.R (Kd.int .u8) 5 wr w.heap.size (fun _ => True) v (l0.take i).flatten))
   case atStart => exact ⟨0, v3, rfl, rfl, ⟨by omega⟩, HB3, HO3⟩
   case round =>
    obtain ⟨i, v6, rfl, hv6, HI2, BW2, HO⟩ := hrel
    subst hv6
    by_cases hlt : i < l0.length
    ·have p1 : (0 : Int) ≤ (i : Int) := by omega
     have p2 : (i : Int) < (l0.length : Int) := by omega
     obtain ⟨ad, c, e_, hcl, hK, hcell⟩ := ReadsRow.get_ HR.out ([] : List Int) (i : Int) p1 p2
     cases e_
     obtain ⟨Ai, ci, rfl, hli, hCi⟩ := hK
     have hx_0 : wr.cell? (ad.add i) = some (.slice Ai (l0.getD i []).length ci) := by
      have h0 := hcell 0 _ rfl
      have e9 : ((i : Int).toNat * (Kd.slice 22 (Kd.int .u8)).sz + 0) = i := by show i * 1 + 0 = i; omega
      rw [e9] at h0
      exact (BW2.out.cell (wb_ w _ h0)).trans h0
     have HCI := Aside0.mk (show (Kd.int .u8).C w Ai (l0.getD i []).length (l0.getD i []) from hCi)
     have hlw := HL.out
     have hw2 : wrap64 ((i : Int) + 1) = ((i + 1 : Nat) : Int) := by unfold wrap64; omega
     have HTL := Aside0.mk (show ((l0.take i).flatten.length + (l0.getD i []).length) * 1 ≤ 140737488355328 by
      have h1 := slices_Concat_byte_byte.tot_take l0 i hlt
      have h2 := slices_Concat_byte_byte.tot_le l0 (i + 1)
      have h3 := HT.out
      rw [slices_Concat_byte_byte.flat_len]; omega)
     have HF := Aside0.mk (slices_Concat_byte_byte.flat_take l0 i hlt)
     generalize l0.getD i [] = row at hx_0 HCI HTL HF
     have p3 := decide_eq_true p2
     have p5 := decide_eq_true hlt
     have p6 := eq_true hlt
     replace p1 := eq_true p1
     replace p2 := eq_true p2
     have HLT := Aside0.mk hlt
     clear hcl hcell hli hCi hlw hlt
     go_wp2_with (first | ((with_reducible refine gate_builtin (b := .append) (xs := #[.tmp 31, .tmp 32]) rfl ?_); at_builtin; refine Kd.R_append_rows (Kd.int .u8) (w0 := w) w.heap.size rfl (.tmp 31) (.tmp 32) 22 5 (.int .u8 0) 1 rfl Try.underlying22 info5 rfl (by decide) (by omega) v6 (l0.take i).flatten row _ _ _ (fun _ => True) (fun _ => False) rfl rfl ?aO ?aR (fun _ _ h => h) (fun _ h => h.elim) ?aF ?aB ?aS ?aL ?_; (case aR => repeat (first | exact (Kd.C_below HCI.out BW2.out) | (with_reducible refine Kd.C_alloc ?_ _) | (with_reducible refine Kd.C_drewN ?_ _) | (with_reducible refine Kd.C_drew ?_))); (case aB => exact BW2.out); (case aF => exact (fun _ _ => trivial)); (case aO => exact HO.out); (case aS => exact (below_size BW2.out)); (case aL => exact HTL.out); intro v7 w9 ho hb hg hat; rw [← HF.out] at ho; have HO2 := Aside0.mk ho; have HB2 := Aside0.mk hb; clear ho hb hg hat))
     go_roundg (l0.length - (i + 1))
     case measure => have h1 := HI2.out; have h2 := HLT.out; omega
     case rel => exact ⟨i + 1, v7, (by first | rfl | (simp; done) | (simp [*]; done)), rfl, ⟨by have h1 := HI2.out; have h2 := HLT.out; omega⟩, HB2, HO2⟩
    ·obtain rfl : i = l0.length := by have := HI2.out; omega
     have HO2 := Aside0.mk (show Kd.R (Kd.int .u8) 5 wr w.heap.size (fun _ => True) v6 l0.flatten by have h1 := HO.out; rw [List.take_length] at h1; exact h1)
     clear hlt
     go_wp2
     go_ret
     exact ⟨_, rfl, HO2.out, BW2.out⟩
end Go.Proofs.Ytfaiapmckimjeaa.P

/- What this function of the program comes to, and that the machine's call does it. No condition. -/
import Derived.Test.YtgipbmjkgciccaaPApiNamed84
namespace Go.Proofs.Ytgipbmjkgciccaa.P
set_option maxHeartbeats 16000000
set_option maxRecDepth 100000
open Go.RowKit Go.Proofs.YtgipbmjkgciccaaW.PrintWords Go.Proofs.YtgipbmjkgciccaaW.PrintLast Go.Proofs.YtgipbmjkgciccaaW.PrintMore
attribute [local go_sem] max2_int min2_int max_two min_two max_three min_three max_four min_four Go.Proofs.YtgipbmjkgciccaaW.Hw.string_gtr
set_option linter.unusedVariables false
set_option linter.unusedSimpArgs false
/-- How long rows are, all together. -/
def api_Named_79.tot (l0 : List (List S39)) : Nat := (l0.map List.length).sum
def api_Named_79.f (l0 : List (List S39)) : Option (List S39) := if api_Named_79.tot l0 < 1099511627776 then some l0.flatten else none
theorem api_Named_79.tot_take (l0 : List (List S39)) (i : Nat) (h : i < l0.length) : api_Named_79.tot (l0.take (i + 1)) = api_Named_79.tot (l0.take i) + (l0.getD i []).length := by
 unfold api_Named_79.tot
 rw [List.take_succ_eq_append_getElem h, List.map_append, List.sum_append, List.getD_eq_getElem?_getD, List.getElem?_eq_getElem h]
 simp
theorem api_Named_79.tot_le (l0 : List (List S39)) (i : Nat) : api_Named_79.tot (l0.take i) ≤ api_Named_79.tot l0 := by
 have h : api_Named_79.tot l0 = api_Named_79.tot (l0.take i) + api_Named_79.tot (l0.drop i) := by
  unfold api_Named_79.tot
  rw [← List.sum_append, ← List.map_append, List.take_append_drop]
 omega
theorem api_Named_79.flat_take (l0 : List (List S39)) (i : Nat) (h : i < l0.length) : (l0.take (i + 1)).flatten = (l0.take i).flatten ++ l0.getD i [] := by
 rw [List.take_succ_eq_append_getElem h, List.flatten_append, List.getD_eq_getElem?_getD, List.getElem?_eq_getElem h]
 simp
theorem api_Named_79.flat_len (l0 : List (List S39)) : l0.flatten.length = api_Named_79.tot l0 := by
 unfold api_Named_79.tot
 rw [List.length_flatten]
open Go.Proofs.YtgipbmjkgciccaaW.Hw in
theorem api_Named_79.calls (P0_ : Nat → Prop) (A0 : Option Addr) (c0 : Nat) (l0 : List (List S39)) (r : List S39) (w : World) (hs0 : Kd.V (Kd.slice 39 k39) 22 w w.heap.size (fun k_ => P0_ k_) (.slice A0 l0.length c0) l0) (h : api_Named_79.f l0 = some r) :
  Calls Try.prog 79 #[.slice A0 l0.length c0] w fun e w' => ∃ v0_ : Value, e = .returned v0_ ∧ Kd.V k39 39 w' w.heap.size (fun k_ => (P0_ k_ ∨ w.heap.size ≤ k_)) v0_ r ∧ Below w.heap.size w w' := by
 unfold api_Named_79.f at h
 by_cases hl : api_Named_79.tot l0 < 1099511627776
 case neg => rw [if_neg hl] at h; cases h
 rw [if_pos hl] at h; obtain rfl := Option.some.inj h; have hF0 := Kd.F_bound (Kd.V_F hs0); have HT := Zq_.mk hl; have HR := Zq_.mk hF0; have HL := Zq_.mk (Kd.F_max hF0); clear h hl hs0 hF0; have HB0 := Zq_.mk (Below.refl w.heap.size w)
 go_enter Try.func79, Try.ntmps79
 go_wp2
 go_loopg [3, 11] l0.length (fun kx s3 s11 wr => ∃ i : Nat, s3 = .int .i64 ((api_Named_79.tot (l0.take i) : Nat) : Int) ∧ s11 = .int .i64 (i : Int) ∧ Zq_ (i ≤ l0.length ∧ l0.length - i ≤ kx) ∧ Zq_ (Below w.heap.size w wr))
 case atStart => exact ⟨0, rfl, rfl, ⟨by omega⟩, HB0⟩
 case round =>
  obtain ⟨i, rfl, rfl, HI, BW⟩ := hrel
  by_cases hlt : i < l0.length
  ·have p1 : (0 : Int) ≤ (i : Int) := by omega
   have p2 : (i : Int) < (l0.length : Int) := by omega
   obtain ⟨ad, c, e_, hcl, hK, hcell, _⟩ := Kd.F_get HR.out ([] : List S39) (i : Int) p1 p2; cases e_; obtain ⟨Ai, ci, rfl, hli, hCi⟩ := Kd.FK_slice_open hK
   have hx_0 : wr.cell? (ad.add i) = some (.slice Ai (l0.getD i []).length ci) := by
    have h0 := hcell 0 _ rfl
    have e9 : ((i : Int).toNat * (Kd.slice 39 k39).sz + 0) = i := by show i * 1 + 0 = i; omega
    rw [e9] at h0; exact (BW.out.cell (wb_ w _ h0)).trans h0
   have hT := api_Named_79.tot_take l0 i hlt; have hT2 := api_Named_79.tot_le l0 (i + 1); have hT3 := HT.out
   have hw1 : wrap64 (((api_Named_79.tot (l0.take i) : Nat) : Int) + ((l0.getD i []).length : Int)) = ((api_Named_79.tot (l0.take (i + 1)) : Nat) : Int) := by unfold wrap64; omega
   have hlw := HL.out
   have hw2 : wrap64 ((i : Int) + 1) = ((i + 1 : Nat) : Int) := by unfold wrap64; omega
   have hneg : decide (((api_Named_79.tot (l0.take (i + 1)) : Nat) : Int) < 0) = false := decide_eq_false (Int.not_lt.2 (Int.natCast_nonneg _)); have p3 := decide_eq_true p2; have p5 := decide_eq_true hlt; have p6 := eq_true hlt; replace p1 := eq_true p1; replace p2 := eq_true p2; have HLT := Zq_.mk hlt; clear hcl hcell hK hli hCi hT hT2 hT3 hlw hlt; generalize (l0.getD i []).length = len at hx_0 hw1
   go_wp2
   go_roundg (l0.length - (i + 1))
   case measure => have h1 := HI.out; have h2 := HLT.out; omega
   case rel => exact ⟨i + 1, (by first | rfl | (simp; done) | (simp [*]; done)), (by first | rfl | (simp; done) | (simp [*]; done)), ⟨by have h1 := HI.out; have h2 := HLT.out; omega⟩, BW⟩
  ·obtain rfl : i = l0.length := by have := HI.out; omega
   have hT3 := HT.out
   have hG := fun W => GrowN.calls (api_Named_79.tot l0) (by omega) W
   rw [List.take_length]; have HG := Zq_.mk hG; clear hG hT3 hlt
   go_wp2_with (go_at_call 84; refine (HG.out _).mono ?_; rintro e w3 ⟨v3, rfl, ho3, hb3⟩; have HO3 := Zq_.mk (Kd.N_mono (Kd.R_N (Kd.R_lower (Kd.R_bound ho3) (qj_ BW.out))) (ok' := fun k_ => ((P0_ k_ ∧ k_ < w.heap.size) ∨ w.heap.size ≤ k_)) (fun k hk => Or.inr (Nat.le_trans (qj_ BW.out) hk.2.1))); have HB3 := Zq_.mk (ql_ BW.out hb3); clear ho3 hb3)
   go_loopg [6, 27] l0.length (fun kx s6 s27 wr => ∃ (i : Nat) (v : Value), s27 = .int .i64 (i : Int) ∧ v = s6 ∧ Zq_ (i ≤ l0.length ∧ l0.length - i ≤ kx) ∧ Zq_ (Below w.heap.size w wr) ∧ Zq_ (Kd.N k39 39 wr w.heap.size (fun k_ => ((P0_ k_ ∧ k_ < w.heap.size) ∨ w.heap.size ≤ k_)) v (l0.take i).flatten))
   case atStart => exact ⟨0, v3, rfl, rfl, ⟨by omega⟩, HB3, HO3⟩
   case round =>
    obtain ⟨i, v6, rfl, hv6, HI2, BW2, HO⟩ := hrel; subst hv6
    by_cases hlt : i < l0.length
    ·have p1 : (0 : Int) ≤ (i : Int) := by omega
     have p2 : (i : Int) < (l0.length : Int) := by omega
     obtain ⟨ad, c, e_, hcl, hK, hcell, _⟩ := Kd.F_get HR.out ([] : List S39) (i : Int) p1 p2; cases e_; obtain ⟨Ai, ci, rfl, hli, hCi⟩ := Kd.FK_slice_open hK
     have hx_0 : wr.cell? (ad.add i) = some (.slice Ai (l0.getD i []).length ci) := by
      have h0 := hcell 0 _ rfl
      have e9 : ((i : Int).toNat * (Kd.slice 39 k39).sz + 0) = i := by show i * 1 + 0 = i; omega
      rw [e9] at h0; exact (BW2.out.cell (wb_ w _ h0)).trans h0
     have HCI := Zq_.mk (show Kd.F k39 w (fun k_ => P0_ k_ ∧ k_ < w.heap.size) Ai (l0.getD i []).length (l0.getD i []) from hCi); have hlw := HL.out
     have hw2 : wrap64 ((i : Int) + 1) = ((i + 1 : Nat) : Int) := by unfold wrap64; omega
     have HTL := Zq_.mk (show ((l0.take i).flatten.length + (l0.getD i []).length) * 48 ≤ 140737488355328 by
      have h1 := api_Named_79.tot_take l0 i hlt; have h2 := api_Named_79.tot_le l0 (i + 1); have h3 := HT.out
      rw [api_Named_79.flat_len]; omega)
     have HF := Zq_.mk (api_Named_79.flat_take l0 i hlt); generalize l0.getD i [] = row at hx_0 HCI HTL HF; have p3 := decide_eq_true p2; have p5 := decide_eq_true hlt; have p6 := eq_true hlt; replace p1 := eq_true p1; replace p2 := eq_true p2; have HLT := Zq_.mk hlt; have NB6 := Zq_.mk (Kd.N_base HO.out); clear hcl hK hcell hli hCi hlw hlt
     go_wp2_with (first | ((with_reducible refine gate_builtin (b := .append) (xs := #[.tmp 31, .tmp 32]) rfl ?_); at_builtin; refine Kd.N_append_rows k39 (w0 := w) w.heap.size rfl (.tmp 31) (.tmp 32) 22 39 (.agg #[.int .i64 0, .int .i64 0, .int .i64 0, .slice none 0 0]) 48 rfl Try.underlying22 info39 rfl (by decide) (by omega) v6 (l0.take i).flatten row _ _ _ (fun k_ => ((P0_ k_ ∧ k_ < w.heap.size) ∨ w.heap.size ≤ k_)) (fun k_ => P0_ k_ ∧ k_ < w.heap.size) rfl rfl ?aO ?aR ?aK ?aF ?aB ?aS ?aL ?_; (case aR => exact (Kd.F_below HCI.out BW2.out)); (case aK => exact (fun k hk => ⟨Or.inl hk, fun e_ => by have h1 := NB6.out k e_.symm; have h2 := hk.2; omega⟩)); (case aB => exact BW2.out); (case aF => exact (fun k hk => Or.inr (Nat.le_trans (qj_ BW2.out) hk))); (case aO => exact HO.out); (case aS => exact (qj_ BW2.out)); (case aL => exact HTL.out); intro v7 w9 ho hb hg hat; rw [← HF.out] at ho; have HO2 := Zq_.mk ho; have HB2 := Zq_.mk hb; clear ho hb hg hat))
     go_roundg (l0.length - (i + 1))
     case measure => have h1 := HI2.out; have h2 := HLT.out; omega
     case rel => exact ⟨i + 1, v7, (by first | rfl | (simp; done) | (simp [*]; done)), rfl, ⟨by have h1 := HI2.out; have h2 := HLT.out; omega⟩, HB2, HO2⟩
    ·obtain rfl : i = l0.length := by have := HI2.out; omega
     have HO2 := Zq_.mk (show Kd.V k39 39 wr w.heap.size (fun k_ => (P0_ k_ ∨ w.heap.size ≤ k_)) v6 l0.flatten by have h1 := HO.out; rw [List.take_length] at h1; exact Kd.V_mono (Kd.N_V h1) (fun k hk => hk.imp (fun h => h.1) id)); clear hlt
     go_wp2
     go_ret
     exact ⟨_, rfl, HO2.out, BW2.out⟩
end Go.Proofs.Ytgipbmjkgciccaa.P

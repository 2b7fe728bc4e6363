/- What this function of the program comes to, and that the machine's call does it: written by a program (wip/tool). No condition. -/
import Derived.Test.YtonggencfnaheaaP0
import Derived.Test.YtonggencfnaheaaHw
namespace Go.Proofs.Ytonggencfnaheaa.P
open Go.RowKit Go.Proofs.YtonggencfnaheaaW.PrintWords Go.Proofs.YtonggencfnaheaaW.PrintLast Go.Proofs.YtonggencfnaheaaW.PrintMore
attribute [local go_sem] max2_int min2_int max_two min_two max_three min_three max_four min_four Go.Proofs.YtonggencfnaheaaW.Hw.string_gtr   -- for this text's walks alone
set_option linter.unusedVariables false
set_option linter.unusedSimpArgs false
/-! ### api_Ward_25: function 25 -/
/-- The halving: the place where `less` ends. -/
def halveW (less : Nat → Bool) : Nat → Nat → Nat → Nat
 | 0, lo, _ => lo
 | f + 1, lo, hi => if lo < hi then (if less ((lo + hi) / 2) then halveW less f ((lo + hi) / 2 + 1) hi else halveW less f lo ((lo + hi) / 2)) else lo
theorem halveW_end (less : Nat → Bool) (f lo : Nat) : halveW less f lo lo = lo := by cases f <;> simp [halveW]
theorem halveW_up (less : Nat → Bool) {f lo hi : Nat} (h : lo < hi) (hl : less ((lo + hi) / 2) = true) : halveW less (f + 1) lo hi = halveW less f ((lo + hi) / 2 + 1) hi := by simp [halveW, h, hl]
theorem halveW_down (less : Nat → Bool) {f lo hi : Nat} (h : lo < hi) (hl : less ((lo + hi) / 2) = false) : halveW less (f + 1) lo hi = halveW less f lo ((lo + hi) / 2) := by simp [halveW, h, hl]
open Go.Proofs.YtonggencfnaheaaW.Hw in
set_option maxHeartbeats 8000000 in
set_option maxRecDepth 100000 in
theorem SearchW.calls (c : S44 → Int) (t : S44) (g : Nat) (lb : Array Value) (eg : ∀ args w, (callFunc g args).run Try.prog w = .ok (.enter g args) w) (A0 : Option Addr) (c0 : Nat) (l0 : List S44) (w : World)
  (hp : ∀ (W : World) (x : S44), Below w.heap.size w W → Calls Try.prog g (#[.agg #[.int .i64 x.f0, .int .i64 x.f1], .agg #[.int .i64 t.f0, .int .i64 t.f1]] ++ lb) W fun e w' => e = .returned (.int .i64 (c x)) ∧ Below W.heap.size W w') (hr0 : Kd.C k44 w A0 l0.length l0) (hlen : l0.length < 1099511627776) :
  Calls Try.prog 25 #[.slice A0 l0.length c0, .agg #[.int .i64 t.f0, .int .i64 t.f1], .func (.func g) #[] lb] w fun e w' =>
   e = .returned (.tuple #[.int .i64 (halveW (fun j => decide (c (l0.getD j z44) < 0)) l0.length 0 l0.length : Nat), .bool (decide (halveW (fun j => decide (c (l0.getD j z44) < 0)) l0.length 0 l0.length < l0.length) && decide (c (l0.getD (halveW (fun j => decide (c (l0.getD j z44) < 0)) l0.length 0 l0.length) z44) = 0))]) ∧ Below w.heap.size w w' := by
 have hu_ := Try.underlying44
 have HR := Aside0.mk hr0
 have HP := Aside0.mk hp
 have HM := Aside0.mk hlen
 clear hr0 hp hlen
 generalize hres : halveW (fun j => decide (c (l0.getD j z44) < 0)) l0.length 0 l0.length = res
 have HE := Aside0.mk hres
 clear hres
 go_enter Try.func25, Try.ntmps25
 go_wp2
 go_loopg [9, 10] l0.length (fun kx s9 s10 wr => ∃ lo hi : Nat, s9 = .int .i64 lo ∧ s10 = .int .i64 hi ∧ Aside0 (lo ≤ hi ∧ hi ≤ l0.length ∧ hi - lo ≤ kx) ∧ Aside0 (Below w.heap.size w wr) ∧ Aside0 (wr.heap[w.heap.size]? = some (.cells #[.int .i64 t.f0, .int .i64 t.f1] 44 (0, 0))) ∧ Aside0 (∃ f, hi - lo ≤ f ∧ halveW (fun j => decide (c (l0.getD j z44) < 0)) f lo hi = res))
 case atStart => exact ⟨0, l0.length, rfl, rfl, ⟨by omega⟩, ⟨qb_ (Below.refl _ w) _⟩, ⟨heap_alloc_new w _⟩, ⟨l0.length, by omega, HE.out⟩⟩
 case round =>
  obtain ⟨lo, hi, rfl, rfl, HI, BW, BX, HF⟩ := hrel
  by_cases hlt : lo < hi
  ·have hhi := HI.out.2.1
   have hM := HM.out
   have v1 : wrap64 ((lo : Int) + (hi : Int)) = (lo : Int) + (hi : Int) := by unfold wrap64; omega
   have v2 : IntKind.u64.wrap ((lo : Int) + (hi : Int)) = (lo : Int) + (hi : Int) := by first | (rw [IntKind.wrap_u64]; omega) | (simp [IntKind.wrap]; omega)
   have v3 : wrap64 (((lo : Int) + (hi : Int)) / 2) = ((lo : Int) + (hi : Int)) / 2 := by unfold wrap64; omega
   have p1 : (0 : Int) ≤ ((lo : Int) + (hi : Int)) / 2 := by omega
   have p2 : ((lo : Int) + (hi : Int)) / 2 < (l0.length : Int) := by omega
   obtain ⟨ad, e_, hx_0, hx_1⟩ := at_T44 HR.out (((lo : Int) + (hi : Int)) / 2) p1 p2
   cases e_
   replace hx_0 := (BW.out.cell (wb_ w _ hx_0)).trans hx_0
   replace hx_1 := (BW.out.cell (wb_ w _ hx_1)).trans hx_1
   have hy_0 : wr.cell? ⟨w.heap.size, 0, none⟩ = some (.int .i64 t.f0) := by rw [qe_ BX.out]; rfl
   have hy_1 : wr.cell? ⟨w.heap.size, 1, none⟩ = some (.int .i64 t.f1) := by rw [qe_ BX.out]; rfl
   have hcall := HP.out wr.drew (rd_T44 l0 (((lo : Int) + (hi : Int)) / 2)) BW.out.drew
   have HC := Aside0.mk hcall
   have hcv : (rd_T44 l0 (((lo : Int) + (hi : Int)) / 2)) = l0.getD ((lo + hi) / 2) z44 := by unfold rd_T44; congr 1
   have HD0 := Aside0.mk hcv
   clear hcv hcall hu_ hM
   generalize (rd_T44 l0 (((lo : Int) + (hi : Int)) / 2)) = y at hx_0 hx_1 HC HD0
   obtain ⟨y0, y1⟩ := y
   dsimp only at hx_0 hx_1 HC
   generalize hr : c ⟨y0, y1⟩ = r at HC
   have HRR := Aside0.mk hr
   clear hr
   by_cases hyx : r < 0
   ·have hd := decide_eq_true hyx
    have HD := Aside0.mk hd
    clear hd
    have p3 := decide_eq_true p2
    have p4 := decide_eq_true p1
    replace p1 := eq_true p1
    replace p2 := eq_true p2
    go_wp2_with fail
    go_region_with ((with_reducible refine HC.out.mono ?_); rintro e w6 ⟨rfl, hb6⟩)
    all_goals go_wp2
    all_goals (go_roundg (hi - ((lo + hi) / 2 + 1)))
    all_goals (try (have := HI.out; omega))
    all_goals
     have hlo := HI.out
     have hM := HM.out
     have hw6 : w6.heap[w.heap.size]? = some (.cells #[.int .i64 t.f0, .int .i64 t.f1] 44 (0, 0)) := (hb6.block _ (blk_lt (qj_ BX.out))).trans (qj_ BX.out)
     obtain ⟨f, hf, hres⟩ := HF.out
     obtain ⟨f', rfl⟩ : ∃ f', f = f' + 1 := ⟨f - 1, by omega⟩
     refine ⟨(lo + hi) / 2 + 1, hi, ?_, rfl, ⟨by omega⟩, ⟨qd_ BW.out.drew hb6⟩, ⟨hw6⟩, ⟨f', by omega, ?_⟩⟩
     ·rw [show wrap64 (((lo : Int) + (hi : Int)) / 2 + 1) = (((lo + hi) / 2 + 1 : Nat) : Int) by unfold wrap64; omega]
     ·rw [← hres, halveW_up _ hlt (by show decide (c (l0.getD ((lo + hi) / 2) z44) < 0) = true; rw [← HD0.out, HRR.out]; exact HD.out)]
   ·have hd := decide_eq_false hyx
    have HD := Aside0.mk hd
    clear hd
    have p3 := decide_eq_true p2
    have p4 := decide_eq_true p1
    replace p1 := eq_true p1
    replace p2 := eq_true p2
    go_wp2_with fail
    go_region_with ((with_reducible refine HC.out.mono ?_); rintro e w6 ⟨rfl, hb6⟩)
    all_goals go_wp2
    all_goals (go_roundg ((lo + hi) / 2 - lo))
    all_goals (try (have := HI.out; omega))
    all_goals
     have hlo := HI.out
     have hM := HM.out
     have hw6 : w6.heap[w.heap.size]? = some (.cells #[.int .i64 t.f0, .int .i64 t.f1] 44 (0, 0)) := (hb6.block _ (blk_lt (qj_ BX.out))).trans (qj_ BX.out)
     obtain ⟨f, hf, hres⟩ := HF.out
     obtain ⟨f', rfl⟩ : ∃ f', f = f' + 1 := ⟨f - 1, by omega⟩
     refine ⟨lo, (lo + hi) / 2, rfl, ?_, ⟨by omega⟩, ⟨qd_ BW.out.drew hb6⟩, ⟨hw6⟩, ⟨f', by omega, ?_⟩⟩
     ·rw [show ((lo : Int) + (hi : Int)) / 2 = (((lo + hi) / 2 : Nat) : Int) by omega]
     ·rw [← hres, halveW_down _ hlt (by show decide (c (l0.getD ((lo + hi) / 2) z44) < 0) = false; rw [← HD0.out, HRR.out]; exact HD.out)]
  ·obtain ⟨f, hf, hres⟩ := HF.out
   obtain rfl : lo = hi := by have := HI.out; omega
   rw [halveW_end] at hres
   subst hres
   clear hlt
   have hhi := HI.out.2.1
   have hM := HM.out
   by_cases hn : lo < l0.length
   ·have p1 : (0 : Int) ≤ (lo : Int) := by omega
    have p2 : (lo : Int) < (l0.length : Int) := by omega
    obtain ⟨ad, e_, hx_0, hx_1⟩ := at_T44 HR.out (lo : Int) p1 p2
    cases e_
    replace hx_0 := (BW.out.cell (wb_ w _ hx_0)).trans hx_0
    replace hx_1 := (BW.out.cell (wb_ w _ hx_1)).trans hx_1
    have hy_0 : wr.cell? ⟨w.heap.size, 0, none⟩ = some (.int .i64 t.f0) := by rw [qe_ BX.out]; rfl
    have hy_1 : wr.cell? ⟨w.heap.size, 1, none⟩ = some (.int .i64 t.f1) := by rw [qe_ BX.out]; rfl
    have HC := Aside0.mk (HP.out wr.drew (rd_T44 l0 (lo : Int)) BW.out.drew)
    have HD0 := Aside0.mk (show rd_T44 l0 (lo : Int) = l0.getD lo z44 by unfold rd_T44; congr 1)
    have HN := Aside0.mk (show decide (lo < l0.length) = true from decide_eq_true hn)
    have p3 := decide_eq_true p2
    have p4 := decide_eq_true p1
    have p5 := decide_eq_true hn
    have p6 := eq_true hn
    replace p1 := eq_true p1
    replace p2 := eq_true p2
    clear hn hhi hM hu_
    simp only [Int.toNat_natCast] at hx_0 hx_1
    generalize rd_T44 l0 (lo : Int) = y at hx_0 hx_1 HC HD0
    obtain ⟨y0, y1⟩ := y
    dsimp only at hx_0 hx_1 HC
    generalize hr : c ⟨y0, y1⟩ = r at HC
    have HRR := Aside0.mk hr
    clear hr
    go_wp2_with fail
    go_region_held3 (fun W => W.cell? (ad.add (lo * 2)) = some (.int .i64 y0) ∧ W.cell? ⟨(ad.add (lo * 2)).block, (ad.add (lo * 2)).off + 1, none⟩ = some (.int .i64 y1) ∧ W.cell? ⟨w.heap.size, 0, none⟩ = some (.int .i64 t.f0) ∧ W.cell? ⟨w.heap.size, 1, none⟩ = some (.int .i64 t.f1)) (first | exact ⟨hx_0, hx_1, hy_0, hy_1⟩ | exact ⟨(hb6.cell (wb_ _ _ hx_0)).trans hx_0, (hb6.cell (wb_ _ _ hx_1)).trans hx_1, (hb6.cell (wb_ _ _ hy_0)).trans hy_0, (hb6.cell (wb_ _ _ hy_1)).trans hy_1⟩) (((with_reducible refine HC.out.mono ?_); rintro e w6 ⟨rfl, hb6⟩))
    all_goals go_wp2
    all_goals go_ret2
    all_goals exact ⟨by rw [HN.out, ← HD0.out, HRR.out, Bool.true_and]; exact congrArg (fun b => Ending.returned (.tuple #[.int .i64 lo, .bool b])) (by by_cases h0 : r = 0 <;> simp [h0]), qd_ BW.out.drew hb6⟩
   ·have hnb : decide ((lo : Int) < (l0.length : Int)) = false := decide_eq_false (by omega)
    have HN := Aside0.mk (show decide (lo < l0.length) = false from decide_eq_false hn)
    have hnc := decide_eq_false hn
    have hnd := eq_false hn
    clear hn hhi hM
    go_wp2_with fail
    go_region
    all_goals go_wp2
    all_goals go_ret2
    all_goals exact ⟨by rw [HN.out]; simp, BW.out.drew⟩
end Go.Proofs.Ytonggencfnaheaa.P

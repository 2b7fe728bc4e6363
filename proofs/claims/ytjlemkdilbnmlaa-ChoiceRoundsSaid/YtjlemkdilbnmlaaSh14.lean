/- The shelf's contracts laid at this program, as plain terms (printed by a program). No condition. -/
import Derived.Shelf.SlIterI.Sorted
import Derived.Shelf.SortM.Plain
import Derived.Shelf.SortM.SortNone
import Derived.Shelf.SlicesG.CompactI
import Derived.Shelf.SlicesE.DeleteFunc
import Derived.WalkKit
import Derived.RangeFuncGives
import Derived.Maps.AppendAt
import Derived.Shelf.Abstract
import Derived.OwnWalkIn
import Derived.TacticsInMore
import Derived.LoopNIn
import Derived.LoopIn
import Derived.Lib.SliceRun
import Derived.Test.YtjlemkdilbnmlaaProg
namespace Go.Proofs.Ytjlemkdilbnmlaa
open Go.Proofs Go.RowKit Go.Maps Go.Sort Go.Shelf
set_option linter.unusedVariables false
set_option linter.unusedSimpArgs false
def sortedA_ren : Ren := { f := fun x => match x with | 6 => 27 | 8 => 31 | 9 => 32 | 11 => 34 | 13 => 36 | 12 => 35 | 23 => 46 | 24 => 47 | 14 => 37 | 15 => 38 | 16 => 39 | 17 => 40 | 18 => 41 | 19 => 42 | 20 => 43 | 21 => 44 | 22 => 45 | 25 => 48 | 26 => 49 | 27 => 50 | 28 => 51 | 29 => 52 | 30 => 53 | 31 => 54 | n => n, t := fun x => match x with | 26 => 3 | 28 => 46 | 24 => 22 | 0 => 0 | 3 => 3 | 37 => 54 | 48 => 25 | 50 => 40 | 4 => 4 | 40 => 57 | 39 => 56 | 45 => 29 | 5 => 5 | 9 => 9 | 51 => 65 | 55 => 69 | 57 => 71 | 58 => 72 | 33 => 43 | n => n, g := fun x => x }
theorem sortedA : SlLaysZI.n6 Try.prog sortedA_ren where
 mixed := rfl
 f6 := ⟨"slices.Sorted[int]", by decide, (Try.func27).trans (congrArg some (by kernel_rfl))⟩
 f8 := ⟨"slices.Collect[int]", by decide, (Try.func31).trans (congrArg some (by kernel_rfl))⟩
 f11 := ⟨"slices.AppendSeq[[]int,int]", by decide, (Try.func34).trans (congrArg some (by kernel_rfl))⟩
 t0 := Try.underlying0
 a0 := Try.isAgg0
 z0 := Try.sizeOf0
 v0 := Try.zeroValue0
 t24 := Try.underlying22
 a24 := Try.isAgg22
 z24 := Try.sizeOf22
 v24 := Try.zeroValue22
 t26 := Try.underlying3
 a26 := Try.isAgg3
 z26 := Try.sizeOf3
 v26 := Try.zeroValue3
 t28 := Try.underlying46
 a28 := Try.isAgg46
 z28 := Try.sizeOf46
 v28 := Try.zeroValue46
 i26 := by kernel_rfl
def sortA_ren : Ren := { f := fun x => match x with | 5 => 32 | 8 => 36 | 7 => 35 | 19 => 46 | 20 => 47 | 10 => 37 | 11 => 38 | 12 => 39 | 13 => 40 | 14 => 41 | 15 => 42 | 16 => 43 | 17 => 44 | 18 => 45 | 30 => 48 | 31 => 49 | 32 => 50 | 33 => 51 | 34 => 52 | 35 => 53 | 40 => 54 | n => n, t := fun x => match x with | 23 => 22 | 25 => 3 | 3 => 3 | 32 => 54 | 22 => 22 | 0 => 0 | 44 => 25 | 46 => 40 | 4 => 4 | 36 => 57 | 35 => 56 | 41 => 29 | 5 => 5 | 9 => 9 | 53 => 65 | 57 => 69 | 63 => 71 | 64 => 72 | n => n, g := fun x => x }
theorem sortA : SlLaysM.n5 Try.prog sortA_ren where
 mixed := rfl
 f5 := ⟨"slices.Sort[[]int,int]", by decide, (Try.func32).trans (congrArg some (by kernel_rfl))⟩
 f7 := ⟨"slices.pdqsortOrdered[int]", by decide, (Try.func35).trans (congrArg some (by kernel_rfl))⟩
 f8 := (Try.func36).trans (congrArg some (by kernel_rfl))
 f10 := ⟨"slices.insertionSortOrdered[int]", by decide, (Try.func37).trans (congrArg some (by kernel_rfl))⟩
 f11 := ⟨"slices.heapSortOrdered[int]", by decide, (Try.func38).trans (congrArg some (by kernel_rfl))⟩
 f12 := ⟨"slices.breakPatternsOrdered[int]", by decide, (Try.func39).trans (congrArg some (by kernel_rfl))⟩
 f13 := ⟨"slices.choosePivotOrdered[int]", by decide, (Try.func40).trans (congrArg some (by kernel_rfl))⟩
 f14 := ⟨"slices.reverseRangeOrdered[int]", by decide, (Try.func41).trans (congrArg some (by kernel_rfl))⟩
 f15 := ⟨"slices.partialInsertionSortOrdered[int]", by decide, (Try.func42).trans (congrArg some (by kernel_rfl))⟩
 f16 := ⟨"cmp.Less[int]", by decide, (Try.func43).trans (congrArg some (by kernel_rfl))⟩
 f17 := ⟨"slices.partitionEqualOrdered[int]", by decide, (Try.func44).trans (congrArg some (by kernel_rfl))⟩
 f18 := ⟨"slices.partitionOrdered[int]", by decide, (Try.func45).trans (congrArg some (by kernel_rfl))⟩
 f19 := (Try.func46).trans (congrArg some (by kernel_rfl))
 f20 := (Try.func47).trans (congrArg some (by kernel_rfl))
 f30 := ⟨"slices.siftDownOrdered[int]", by decide, (Try.func48).trans (congrArg some (by kernel_rfl))⟩
 f31 := (Try.func49).trans (congrArg some (by kernel_rfl))
 f32 := (Try.func50).trans (congrArg some (by kernel_rfl))
 f33 := ⟨"slices.medianAdjacentOrdered[int]", by decide, (Try.func51).trans (congrArg some (by kernel_rfl))⟩
 f34 := ⟨"slices.medianOrdered[int]", by decide, (Try.func52).trans (congrArg some (by kernel_rfl))⟩
 f35 := ⟨"cmp.isNaN[int]", by decide, (Try.func53).trans (congrArg some (by kernel_rfl))⟩
 f40 := ⟨"slices.order2Ordered[int]", by decide, (Try.func54).trans (congrArg some (by kernel_rfl))⟩
 t0 := Try.underlying0
 a0 := Try.isAgg0
 z0 := Try.sizeOf0
 v0 := Try.zeroValue0
 t3 := Try.underlying3
 a3 := Try.isAgg3
 z3 := Try.sizeOf3
 v3 := Try.zeroValue3
 t4 := Try.underlying4
 a4 := Try.isAgg4
 z4 := Try.sizeOf4
 v4 := Try.zeroValue4
 t5 := Try.underlying5
 a5 := Try.isAgg5
 z5 := Try.sizeOf5
 v5 := Try.zeroValue5
 t9 := Try.underlying9
 a9 := Try.isAgg9
 z9 := Try.sizeOf9
 v9 := Try.zeroValue9
 t22 := Try.underlying22
 a22 := Try.isAgg22
 z22 := Try.sizeOf22
 v22 := Try.zeroValue22
 t23 := Try.underlying22
 a23 := Try.isAgg22
 z23 := Try.sizeOf22
 v23 := Try.zeroValue22
 t25 := Try.underlying3
 a25 := Try.isAgg3
 z25 := Try.sizeOf3
 v25 := Try.zeroValue3
 t32 := Try.underlying54
 a32 := Try.isAgg54
 z32 := Try.sizeOf54
 v32 := Try.zeroValue54
 t35 := Try.underlying56
 a35 := Try.isAgg56
 z35 := Try.sizeOf56
 v35 := Try.zeroValue56
 t36 := Try.underlying57
 a36 := Try.isAgg57
 z36 := Try.sizeOf57
 v36 := Try.zeroValue57
 t41 := Try.underlying29
 a41 := Try.isAgg29
 z41 := Try.sizeOf29
 v41 := Try.zeroValue29
 t44 := Try.underlying25
 a44 := Try.isAgg25
 z44 := Try.sizeOf25
 v44 := Try.zeroValue25
 t46 := Try.underlying40
 a46 := Try.isAgg40
 z46 := Try.sizeOf40
 v46 := Try.zeroValue40
 t53 := Try.underlying65
 a53 := Try.isAgg65
 z53 := Try.sizeOf65
 v53 := Try.zeroValue65
 t57 := Try.underlying69
 a57 := Try.isAgg69
 z57 := Try.sizeOf69
 v57 := Try.zeroValue69
 t63 := Try.underlying71
 a63 := Try.isAgg71
 z63 := Try.sizeOf71
 v63 := Try.zeroValue71
 t64 := Try.underlying72
 a64 := Try.isAgg72
 z64 := Try.sizeOf72
 v64 := Try.zeroValue72
def compactA_ren : Ren := { f := fun x => match x with | 43 => 26 | n => n, t := fun x => match x with | 22 => 22 | 23 => 3 | 3 => 3 | 4 => 4 | 0 => 0 | n => n, g := fun x => x }
theorem compactA : SlLaysN.n43 Try.prog compactA_ren where
 mixed := rfl
 f43 := ⟨"slices.Compact[[]int,int]", by decide, (Try.func26).trans (congrArg some (by kernel_rfl))⟩
 t0 := Try.underlying0
 a0 := Try.isAgg0
 z0 := Try.sizeOf0
 v0 := Try.zeroValue0
 t3 := Try.underlying3
 a3 := Try.isAgg3
 z3 := Try.sizeOf3
 v3 := Try.zeroValue3
 t4 := Try.underlying4
 a4 := Try.isAgg4
 z4 := Try.sizeOf4
 v4 := Try.zeroValue4
 t22 := Try.underlying22
 a22 := Try.isAgg22
 z22 := Try.sizeOf22
 v22 := Try.zeroValue22
 t23 := Try.underlying3
 a23 := Try.isAgg3
 z23 := Try.sizeOf3
 v23 := Try.zeroValue3
 i23 := by kernel_rfl
def deleteA_ren : Ren := { f := fun x => match x with | 10 => 22 | 6 => 29 | n => n, t := fun x => match x with | 22 => 22 | 23 => 3 | 25 => 43 | 3 => 3 | 4 => 4 | 0 => 0 | n => n, g := fun x => x }
theorem deleteA : SlLaysH.n10 Try.prog deleteA_ren where
 mixed := rfl
 f6 := ⟨"slices.IndexFunc[[]int,int]", by decide, (Try.func29).trans (congrArg some (by kernel_rfl))⟩
 f10 := ⟨"slices.DeleteFunc[[]int,int]", by decide, (Try.func22).trans (congrArg some (by kernel_rfl))⟩
 t0 := Try.underlying0
 a0 := Try.isAgg0
 z0 := Try.sizeOf0
 v0 := Try.zeroValue0
 t3 := Try.underlying3
 a3 := Try.isAgg3
 z3 := Try.sizeOf3
 v3 := Try.zeroValue3
 t4 := Try.underlying4
 a4 := Try.isAgg4
 z4 := Try.sizeOf4
 v4 := Try.zeroValue4
 t22 := Try.underlying22
 a22 := Try.isAgg22
 z22 := Try.sizeOf22
 v22 := Try.zeroValue22
 a23 := Try.isAgg3
 z23 := Try.sizeOf3
 t25 := Try.underlying43
 a25 := Try.isAgg43
 z25 := Try.sizeOf43
 v25 := Try.zeroValue43
attribute [local go_sem] Oper.semAt_some
/-- What an iterator that reads what lay there gives, of bodies that leave what lay there. -/
def SeqB {α : Type} (F : Fence) (n : Nat) (P : Program) (g : Nat) (lb : Array Value) (enc : α → Value) (S : List α → Prop) (N : Nat) (w : World) : Prop :=
 ∀ (l : Nat) (J : List α → World → Prop) (W : World), Below w.heap.size w W → AbidesFrom W.heap.size J → (∀ pre W1, J pre W1 → Below w.heap.size w W1) →
  (∀ pre x W1, J pre W1 → pre.length < N → YieldAt F (n - 1) P l #[enc x] W1 fun e W' => e = .returned (.bool true) ∧ J (pre ++ [x]) W' ∧ KeepsWalks W1 W') →
  J [] W →
  CallsIn F n P g (#[.func (.yield l) #[] #[]] ++ lb) W fun e W' => (∃ v, e = .returned v) ∧ ∃ xs, S xs ∧ J xs W'
set_option maxRecDepth 100000 in
set_option maxHeartbeats 4000000 in
theorem values_b (F : Fence) (n : Nat) (h33 : F.fn 33) (hro : F.round = none) (_hn : 1 ≤ n) (w : World) (Bs cap : Nat) (ad : Addr) (zs : List Int) (hmax : zs.length * 8 ≤ 140737488351232)
  (hBs : w.cell? ⟨Bs, 0, none⟩ = some (.slice (some ad) zs.length cap)) (hc : ∀ j, j < zs.length → w.cell? (ad.add j) = some (.int .i64 (zs.getD j 0))) :
  SeqB F n Try.prog 33 #[.pointer (some ⟨Bs, 0, none⟩)] encZ (fun ys => ys = zs) zs.length w := by
 intro l J W hW hA hJB hY h0
 have hBW : W.cell? ⟨Bs, 0, none⟩ = some (.slice (some ad) zs.length cap) := (hW.cell (World.block_lt_of_cell? w _ hBs)).trans hBs
 refine callsIn_of_wp Try.func33 rfl h33 ?_ hro
 simp only [Try.ntmps33, List.size_toArray, List.length_cons, List.length_nil, Nat.reduceAdd, Nat.reduceSub, Array.replicate_succ, Array.replicate_zero, List.push_toArray, List.append_toArray, List.nil_append, List.cons_append]
 gi_wp2
 gi_loopw [7] (fun i wr => ∃ k : Nat, k ≤ zs.length ∧ i = .int .i64 k ∧ J (zs.take k) wr)
  (fun i _ => zs.length - (intOf i).toNat)
 case atStart => exact ⟨0, Nat.zero_le _, rfl, h0⟩
 case round =>
  obtain ⟨k, hk, rfl, hJs⟩ := hrel
  have hnx := hJB _ _ hJs
  by_cases hlt : k < zs.length
  ·have hcx : wr.cell? (ad.add k) = some (.int .i64 (zs.getD k 0)) := (hnx.cell (World.block_lt_of_cell? w _ (hc k hlt))).trans (hc k hlt)
   have hY2 := hY _ (zs.getD k 0) wr hJs (by rw [List.length_take]; omega)
   have hzt : zs.take k ++ [zs.getD k 0] = zs.take (k + 1) := by rw [List.take_add_one]; simp [List.getD_eq_getElem?_getD, hlt]
   rw [hzt] at hY2
   generalize zs.getD k 0 = x at hcx hY2
   obtain ⟨fn, tmps, assign, body, hy, hR⟩ := hY2
   gi_wp2
   refine hR.mono ?_
   rintro e W3 ⟨rfl, hJ3, hk3⟩
   gi_wp2
   go_roundw
   case rel => exact ⟨k + 1, by omega, by simp, hJ3⟩
   case measure => simp [intOf]; omega
  ·obtain rfl : k = zs.length := by omega
   gi_wp2
   go_end0
   exact ⟨⟨_, rfl⟩, zs, rfl, by rw [List.take_length] at hJs; exact hJs⟩
set_option maxRecDepth 100000 in
set_option maxHeartbeats 4000000 in
theorem append_b (F : Fence) (n : Nat) (h34 : F.fn 34) (hro : F.round = none) (hn : 2 ≤ n) (g : Nat) (lb : Array Value) (hFg : F.fn g) (eg : ∀ args w, (callFunc g args).run Try.prog w = .ok (.enter g args) w)
  (S : List Int → Prop) (N : Nat) (hN : N ≤ maxLen) (hNb : N * 8 ≤ 140737488355328) (w : World) (hseq : SeqB F (n - 1) Try.prog g lb encZ S N w) :
  CallsIn F n Try.prog 34 #[.slice none 0 0, .func (.func g) #[] lb] w fun e w' => ∃ (v : Value) (ss : List Int), e = .returned v ∧ S ss ∧ w'.ownsRow w.heap.size 3 1 v ss.length (ss.map encZ) ∧ (v = .slice none 0 0 ↔ ss = []) ∧ Below w.heap.size w w' := by
 have h1 : 1 ≤ n := by omega
 refine callsIn_of_wp_marks Try.func34 rfl h34 ?_ hro
 simp only [Try.ntmps34, List.size_toArray, List.length_cons, List.length_nil, Nat.reduceAdd, Nat.reduceSub, Array.replicate_succ, Array.replicate_zero, List.push_toArray, List.append_toArray, List.nil_append, List.cons_append]
 gi_wp2
 refine wpIn_rangeFunc ?_
 intro fn hfn
 rw [hro]
 obtain ⟨W0, hW0⟩ : ∃ W0, w.alloc (.cells #[.slice none 0 0] 22) = W0 := ⟨_, rfl⟩
 have hs0 : W0.heap.size = w.heap.size + 1 := by rw [← hW0]; simp
 have hv0 : W0.heap[w.heap.size]? = some (.cells #[.slice none 0 0] 22 (0, 0)) := by rw [← hW0]; exact World.alloc_heap_new w _
 have hb0 : Below w.heap.size w W0 := by rw [← hW0]; exact (Below.refl _ w).alloc (Nat.le_refl _) _
 rw [hW0]
 obtain ⟨W1, hW1⟩ : ∃ W1, (W0.alloc (.deferred (some []))).alloc (.loop (AnyZI.apRec sortedA_ren fn (.func (.func g) #[] lb) w.heap.size W0.heap.size .ready none)) = W1 := ⟨_, rfl⟩
 have hold : ∀ k, k < W0.heap.size → W1.heap[k]? = W0.heap[k]? := fun k hk => by
  rw [← hW1]; exact (Below.heap_alloc _ _ k (by simp; omega)).trans (Below.heap_alloc _ _ k hk)
 have hb1 : Below w.heap.size w W1 := by rw [← hW1]; exact (hb0.alloc hb0.size _).alloc (by have := hb0.size; simp; omega) _
 have hs1 : W1.heap.size = W0.heap.size + 2 := by rw [← hW1]; simp
 have hM : AnyZI.ApAt sortedA_ren w fn (.func (.func g) #[] lb) w.heap.size (W0.heap.size + 1) W0.heap.size [] W1 :=
  ⟨⟨_, (hold w.heap.size (by omega)).trans hv0, ⟨rfl, .inl ⟨rfl, rfl⟩⟩, by simp⟩,
   by rw [← hW1]; have := World.alloc_heap_new (W0.alloc (.deferred (some []))) (.loop (AnyZI.apRec sortedA_ren fn (.func (.func g) #[] lb) w.heap.size W0.heap.size .ready none)); rwa [World.size_alloc] at this,
   by rw [← hW1]; exact (Below.heap_alloc _ _ _ (by simp)).trans (World.alloc_heap_new W0 _), hb1⟩
 refine ⟨W0.heap.size + 1, [{ target := .collected W0.heap.size, args := #[] }], W1, { target := .fn (.func g) lb, args := #[.func (.yield (W0.heap.size + 1)) #[] #[]] }, W1, g,
  #[.func (.yield (W0.heap.size + 1)) #[] #[]] ++ lb, W1, ?_, ?_, ?_, ?_, fun _ => h1, ?_⟩
 ·rw [← hW1]; exact run_enterLoop_outer _ _ _ _ _
 ·simp [resolve, go_sem]
 ·intro f' hf'; simp [Target.leads] at hf'; subst hf'; exact hFg
 ·simp [invoke, go_sem, eg]
 ·refine (hseq (W0.heap.size + 1) (AnyZI.ApAt sortedA_ren w fn (.func (.func g) #[] lb) w.heap.size (W0.heap.size + 1) W0.heap.size) W1 hb1 (AnyZI.ap_abides sortedA_ren _ _ _ _ _ _ _ hb1.size) (fun pre W1 h => h.below)
   (fun pre x W hJ hl => AnyZI.apYield (ρ := sortedA_ren) { sortedA with } F (n - 1 - 1) w fn hfn _ w.heap.size (W0.heap.size + 1) W0.heap.size (by omega) (by omega) (by omega) (Nat.le_refl _) (by omega) N hN hNb pre x W hJ hl) hM).mono ?_
  rintro e W2 ⟨⟨v0, rfl⟩, ss, hS, h2⟩
  obtain ⟨v, hv, hrow, hnil⟩ := h2.box
  have hend := run_endLoop (P := Try.prog) h2.L (by simp [AnyZI.apRec])
  obtain ⟨W3, hW3⟩ : ∃ W3, W2.putObj (W0.heap.size + 1) (.loop { AnyZI.apRec sortedA_ren fn (.func (.func g) #[] lb) w.heap.size W0.heap.size .ready none with state := .exhausted }) = W3 := ⟨_, rfl⟩
  rw [hW3] at hend
  have hg3 : W2.grownBy W3 (some (W0.heap.size + 1)) := by rw [← hW3]; exact grownBy_putObj_a _ _ _
  have hv3 : W3.heap[w.heap.size]? = some (.cells #[v] 22 (0, 0)) := by rw [← hW3]; exact (World.putObj_heap_other (by omega)).trans hv
  have hK3 : W3.heap[W0.heap.size]? = some (.deferred (some [])) := by rw [← hW3]; exact (World.putObj_heap_other (by omega)).trans h2.K
  have hrow3 := hrow.kept hg3 (ownsRow_ne_a hrow h2.L (fun cur e => by cases e))
  have hb3 : Below w.heap.size w W3 := h2.below.grown hg3 h2.below.size (fun k e => by cases e; omega)
  obtain ⟨hc3, hf3⟩ := cell_of_box_a hv3
  clear hW3
  refine ⟨none, W3, hend, ?_⟩
  gi_wp2
  rw [← hs0]
  refine ⟨by simp, .inl ⟨_, _, rfl, run_takeDeferred hK3, ?_⟩⟩
  exact ⟨_, results_tmp rfl _ _ _, v, ss, rfl, hS, hrow3.kept (grownBy_putObj_a _ _ _) (ownsRow_ne_a hrow3 hK3 (fun cur e => by cases e)), hnil, hb3.grown (grownBy_putObj_a _ _ _) hb3.size (fun k e => by cases e; omega)⟩
set_option maxHeartbeats 1000000 in
theorem collect_b (F : Fence) (n : Nat) (h31 : F.fn 31) (h34 : F.fn 34) (hro : F.round = none) (hn : 3 ≤ n) (g : Nat) (lb : Array Value) (hFg : F.fn g) (eg : ∀ args w, (callFunc g args).run Try.prog w = .ok (.enter g args) w)
  (S : List Int → Prop) (N : Nat) (hN : N ≤ maxLen) (hNb : N * 8 ≤ 140737488355328) (w : World) (hseq : SeqB F (n - 1 - 1) Try.prog g lb encZ S N w) :
  CallsIn F n Try.prog 31 #[.func (.func g) #[] lb] w fun e w' => ∃ (v : Value) (ss : List Int), e = .returned v ∧ S ss ∧ w'.ownsRow w.heap.size 3 1 v ss.length (ss.map encZ) ∧ (v = .slice none 0 0 ↔ ss = []) ∧ Below w.heap.size w w' := by
 have h1 : 1 ≤ n := by omega
 refine callsIn_of_wp Try.func31 rfl h31 ?_ hro
 simp only [Try.ntmps31, List.size_toArray, List.length_cons, List.length_nil, Nat.reduceAdd, Nat.reduceSub, Array.replicate_succ, Array.replicate_zero, List.push_toArray, List.append_toArray, List.nil_append, List.cons_append]
 gi_wp2_with (gi_at_call 34; refine (append_b F (n - 1) h34 hro (by omega) g lb hFg eg S N hN hNb _ hseq).mono ?_; rintro e w' ⟨v, ss, rfl, hS, hrow, hnil, hb⟩)
 go_ret
 exact ⟨v, ss, rfl, hS, hrow, hnil, hb⟩
set_option maxRecDepth 100000 in
set_option maxHeartbeats 4000000 in
theorem sorted_b (F : Fence) (n : Nat) (h6 : F.fn 27) (h8 : F.fn 31) (h9 : F.fn 32) (h11 : F.fn 34) (hro : F.round = none) (hn : 4 ≤ n) (hsort : AnyZI.SortsIn Try.prog sortedA_ren F (n - 1)) (g : Nat) (lb : Array Value) (hFg : F.fn g) (eg : ∀ args w, (callFunc g args).run Try.prog w = .ok (.enter g args) w)
  (S : List Int → Prop) (hSl : ∀ ss, S ss → ss.length < 4611686018427387904) (N : Nat) (hN : N ≤ maxLen) (hNb : N * 8 ≤ 140737488355328) (w : World) (hseq : SeqB F (n - 1 - 1 - 1) Try.prog g lb encZ S N w) :
  CallsIn F n Try.prog 27 #[.func (.func g) #[] lb] w fun e w' => ∃ (v : Value) (ss : List Int), e = .returned v ∧ S ss ∧
   w'.ownsRow w.heap.size 3 1 v ss.length ((ss.mergeSort (fun x y => decide (x ≤ y))).map encZ) ∧ (v = .slice none 0 0 ↔ ss = []) ∧ Below w.heap.size w w' := by
 have h1 : 1 ≤ n := by omega
 refine callsIn_of_wp Try.func27 rfl h6 ?_ hro
 simp only [Try.ntmps27, List.size_toArray, List.length_cons, List.length_nil, Nat.reduceAdd, Nat.reduceSub, Array.replicate_succ, Array.replicate_zero, List.push_toArray, List.append_toArray, List.nil_append, List.cons_append]
 gi_wp2_with (gi_at_call 31; refine (collect_b F (n - 1) h8 h11 hro (by omega) g lb hFg eg _ N hN hNb _ hseq).mono ?_; rintro e W ⟨v, ss, rfl, hS, hrow, hnil, hb⟩)
 rcases hrow.2 with ⟨rfl, hz⟩ | ⟨gb, cap, cur, rfl, hbase, hgb, r1, r2, r3, r4⟩
 ·-- nothing came: the nil slice is sorted and handed back
  have hss : ss = [] := List.eq_nil_of_length_eq_zero hz
  subst hss
  gi_wp2_with (gi_at_call 32; refine (hsort.2 none 0 W).mono ?_; rintro e w' ⟨rfl, rfl⟩)
  go_ret
  exact ⟨.slice none 0 0, [], rfl, hS, by simpa using hrow, by simp, hb⟩
 ·have hH : Holds encZ W gb 0 ss.toArray := holds_of_block_i hgb (by simpa using r4)
  have hgl : gb < W.heap.size := (Array.getElem?_eq_some_iff.1 hgb).1
  have hsz : ss.length < 4611686018427387904 := hSl ss hS
  have cS := hsort.1 gb 0 cap ss W hH hgl hsz
  gi_wp2_with (gi_at_call 32; refine cS.mono ?_; rintro e w' ⟨rfl, nn, os, rfl⟩)
  go_ret
  exact ⟨_, ss, rfl, hS, ownsRow_sorted_i (by simp) hbase hgb r1 r2 r3, hnil, hb.grown (grownBy_sorted_i _) hb.size (fun j hj => by cases hj; exact hbase)⟩
theorem sorts_w (m : Nat) : AnyZI.SortsIn Try.prog sortedA_ren Fence.wide m :=
 ⟨fun blk off cap ss W hH hblk hsz => callsIn_wide.2 (AnyM.slices_Sort_int sortA blk off cap ss W hH hblk hsz),
  fun p cap W => callsIn_wide.2 (AnyM.slices_Sort_int_none sortA p cap W)⟩
set_option maxHeartbeats 2000000 in
set_option maxRecDepth 100000 in
/-- slices.Sorted(slices.Values(l)): a row of the call's own that holds l, sorted. -/
theorem sortedValues (w : World) (Bs cap : Nat) (ad : Addr) (zs : List Int) (hmax : zs.length ≤ 1000000) (hBs : w.cell? ⟨Bs, 0, none⟩ = some (.slice (some ad) zs.length cap)) (hc : ∀ j, j < zs.length → w.cell? (ad.add j) = some (.int .i64 (zs.getD j 0))) :
  Calls Try.prog 27 #[.func (.func 33) #[] #[.pointer (some ⟨Bs, 0, none⟩)]] w fun e w' => ∃ v : Value, e = .returned v ∧ w'.ownsRow w.heap.size 3 1 v zs.length ((zs.mergeSort (fun x y => decide (x ≤ y))).map encZ) ∧ (v = .slice none 0 0 ↔ zs = []) ∧ Below w.heap.size w w' := by
 refine (callsIn_wide (n := 6)).1 ((sorted_b Fence.wide 6 trivial trivial trivial trivial rfl (by omega) (sorts_w _) 33 #[.pointer (some ⟨Bs, 0, none⟩)] trivial (enters_of Try.func33 (by kernel_rfl) rfl) (fun ys => ys = zs) (fun ss h => by rw [h]; omega) zs.length (by simp only [maxLen]; omega) (by omega) w (values_b Fence.wide _ trivial rfl (by omega) w Bs cap ad zs (by omega) hBs hc)).mono ?_)
 rintro e w' ⟨v, ss, rfl, rfl, h1, h2, h3⟩
 exact ⟨v, rfl, h1, h2, h3⟩
set_option maxRecDepth 100000 in
set_option maxHeartbeats 4000000 in
theorem values_nil_b (F : Fence) (n : Nat) (h33 : F.fn 33) (hro : F.round = none) (w : World) (Bs cap : Nat) (a : Option Addr)
  (hBs : w.cell? ⟨Bs, 0, none⟩ = some (.slice a 0 cap)) : SeqB F n Try.prog 33 #[.pointer (some ⟨Bs, 0, none⟩)] encZ (fun ys : List Int => ys = []) 0 w := by
 intro l J W hW hA hJB hY h0
 have hBW : W.cell? ⟨Bs, 0, none⟩ = some (.slice a 0 cap) := (hW.cell (World.block_lt_of_cell? w _ hBs)).trans hBs
 refine callsIn_of_wp Try.func33 rfl h33 ?_ hro
 simp only [Try.ntmps33, List.size_toArray, List.length_cons, List.length_nil, Nat.reduceAdd, Nat.reduceSub, Array.replicate_succ, Array.replicate_zero, List.push_toArray, List.append_toArray, List.nil_append, List.cons_append]
 gi_wp2
 gi_loopw [7] (fun i wr => i = .int .i64 0 ∧ J [] wr) (fun _ _ => 0)
 case atStart => exact ⟨rfl, h0⟩
 case round =>
  obtain ⟨rfl, hJs⟩ := hrel
  gi_wp2
  go_end0
  exact ⟨⟨_, rfl⟩, [], rfl, hJs⟩
theorem values_c (a : Option Addr) (len cap : Nat) (w : World) :
  Calls Try.prog 28 #[.slice a len cap] w fun e w' => e = .returned (.func (.func 33) #[] #[.pointer (some ⟨w.heap.size, 0, none⟩)]) ∧ w' = w.alloc (.cells #[.slice a len cap] 22) := by
 go_enter Try.func28, Try.ntmps28
 go_wp2
 go_ret
 exact ⟨rfl, rfl⟩
set_option maxHeartbeats 2000000 in
set_option maxRecDepth 100000 in
theorem sortedNil (w : World) (Bs cap : Nat) (a : Option Addr) (hBs : w.cell? ⟨Bs, 0, none⟩ = some (.slice a 0 cap)) :
  Calls Try.prog 27 #[.func (.func 33) #[] #[.pointer (some ⟨Bs, 0, none⟩)]] w fun e w' => e = .returned (.slice none 0 0) ∧ Below w.heap.size w w' := by
 refine (callsIn_wide (n := 6)).1 ((sorted_b Fence.wide 6 trivial trivial trivial trivial rfl (by omega) (sorts_w _) 33 #[.pointer (some ⟨Bs, 0, none⟩)] trivial (enters_of Try.func33 (by kernel_rfl) rfl) (fun ys => ys = []) (fun ss h => by rw [h]; simp) 0 (Nat.zero_le _) (by omega) w (values_nil_b Fence.wide _ trivial rfl w Bs cap a hBs)).mono ?_)
 rintro e w' ⟨v, ss, rfl, rfl, h1, h2, h3⟩
 exact ⟨by rw [h2.2 rfl], h3⟩
/-- What choice.Rising comes to. -/
def risL (l : List Int) : List Int := Lib.compact (l.mergeSort (fun x y => decide (x ≤ y)))
theorem compact_len (zs : List Int) : (Lib.compact zs).length ≤ zs.length := by
 unfold Lib.compact Lib.compactUpTo
 rw [List.length_map]
 exact Nat.le_trans (List.length_filter_le _ _) (by simp)
theorem ownsRow_short {w : World} {base g cap n m : Nat} {e : TypeId} {ts : List Value} (h : w.ownsRow base e 1 (.slice (some ⟨g, 0, none⟩) n cap) n ts) (hm : m ≤ n) (hn : 0 < n) : w.ownsRow base e 1 (.slice (some ⟨g, 0, none⟩) m cap) m (ts.take m) := by
 obtain ⟨h1, h2⟩ := h
 rcases h2 with ⟨h2, _⟩ | ⟨g', cap', cur, h2, h3, h4, h5, h6, h7, h8⟩
 ·cases h2
 ·injection h2 with e1 _ e3
  injection e1 with e1
  injection e1 with e1
  subst e1 e3
  refine ⟨by rw [List.length_take]; omega, .inr ⟨g, cap, cur, rfl, h3, h4, by omega, h6, h7, ?_⟩⟩
  rw [← h8, List.take_take]
  congr 1
  omega
set_option maxHeartbeats 4000000 in
set_option maxRecDepth 100000 in
/-- choice.Rising: a row of the call's own. -/
theorem rising_c (w : World) (A0 : Option Addr) (c0 : Nat) (l : List Int) (hn : l.length ≤ 1000000) (hA : l ≠ [] → ∃ ad, A0 = some ad ∧ ∀ j, j < l.length → w.cell? (ad.add j) = some (.int .i64 (l.getD j 0))) :
  Calls Try.prog 18 #[.slice A0 l.length c0] w fun e w' => ∃ v, e = .returned v ∧ w'.ownsRow w.heap.size 3 1 v (risL l).length ((risL l).map encZ) ∧ Below w.heap.size w w' := by
 obtain ⟨W1, hW1⟩ : ∃ W1, W1 = w.alloc (.cells #[.slice A0 l.length c0] 22) := ⟨_, rfl⟩
 have hb1 : Below w.heap.size w W1 := by rw [hW1]; exact (Below.refl _ w).alloc (Nat.le_refl _) _
 have hc1 : W1.cell? ⟨w.heap.size, 0, none⟩ = some (.slice A0 l.length c0) := by rw [hW1]; exact (cell_of_box_a (World.alloc_heap_new w _)).1
 have hs1 : w.heap.size ≤ W1.heap.size := hb1.size
 have cV : Calls Try.prog 28 #[.slice A0 l.length c0] w fun e w' => e = .returned (.func (.func 33) #[] #[.pointer (some ⟨w.heap.size, 0, none⟩)]) ∧ w' = W1 := by rw [hW1]; exact values_c A0 l.length c0 w
 clear hW1
 by_cases hl : l = []
 ·subst hl
  have cS := sortedNil W1 w.heap.size c0 A0 hc1
  have cC := fun W => AnyG.slices_Compact_int_empty compactA none 0 W
  change ∀ W, Calls Try.prog 26 _ _ _ at cC
  go_enter Try.func18, Try.ntmps18
  go_wp2_with (first | (go_at_call 28; refine cV.mono ?_; rintro e w' ⟨rfl, rfl⟩) | (go_at_call 27; refine cS.mono ?_; rintro e w2 ⟨rfl, hb2⟩) | (go_at_call 26; refine (cC _).mono ?_; rintro e w3 ⟨rfl, rfl⟩))
  go_ret
  have h0 : risL [] = [] := by simp [risL, Lib.compact, Lib.compactUpTo]
  rw [h0]
  exact ⟨_, rfl, ⟨rfl, .inl ⟨rfl, rfl⟩⟩, hb1.trans (hb2.mono hs1)⟩
 ·obtain ⟨ad, rfl, hr⟩ := hA hl
  have cS := sortedValues W1 w.heap.size c0 ad l hn hc1 (fun j hj => (hb1.cell (World.block_lt_of_cell? w _ (hr j hj))).trans (hr j hj))
  go_enter Try.func18, Try.ntmps18
  have hlz : (l.mergeSort (fun x y => decide (x ≤ y))).length = l.length := List.length_mergeSort l
  go_wp2_with (first | (go_at_call 28; refine cV.mono ?_; rintro e w' ⟨rfl, rfl⟩) | (go_at_call 27; refine cS.mono ?_; rintro e w2 ⟨v, rfl, hrow, hnil, hb2⟩; obtain ⟨gb, cap, cur, rfl, hbase, hgb, r1, r2, r3, r4⟩ := hrow.2.resolve_left (fun h => hl (List.eq_nil_of_length_eq_zero h.2)); have cC := AnyG.slices_Compact_int compactA gb 0 cap (l.mergeSort (fun x y => decide (x ≤ y))) w2 (holds_of_block_i hgb (by rw [hlz]; exact (by simpa using r4))) (by rw [hlz]; omega) (by rw [hlz]; exact r1); rw [hlz] at cC; change Calls Try.prog 26 _ _ _ at cC) | (go_at_call 26; refine cC.mono ?_; rintro e w3 ⟨rfl, q, rfl⟩))
  go_ret
  have hm : (risL l).length ≤ l.length := by rw [← hlz]; exact compact_len _
  have hts : (risL l ++ List.replicate (l.length - (risL l).length) 0).length = l.length := by rw [List.length_append, List.length_replicate]; omega
  have h0 := ownsRow_sorted_i (n := q) (os := #[]) (ss := l) (ts := risL l ++ List.replicate (l.length - (risL l).length) 0) hts hbase hgb r1 r2 r3
  have h1 := ownsRow_short h0 hm (List.length_pos_iff.2 hl)
  rw [← List.map_take, List.take_left] at h1
  have hgr := grownBy_sorted_i (w := w2) (g := gb) (n := q) (os := #[]) (risL l ++ List.replicate (l.length - (risL l).length) 0).toArray
  have hg0 : ∀ W : World, grow W #[] = W := fun W => by simp [grow]
  rw [hg0] at h1 hgr
  exact ⟨_, rfl, ownsRow_base_a h1 hs1, hb1.trans ((hb2.mono hs1).grown hgr (Nat.le_trans hs1 hb2.size) (fun j hj => by cases hj; omega))⟩
open Go.Lib in
theorem gives24 (n x : Int) (B : Nat) (W : World) (hc : W.cell? ⟨B, 0, none⟩ = some (.int .i64 n)) :
  FnGives Try.prog 24 #[.pointer (some ⟨B, 0, none⟩)] #[.int .i64 x] (.bool (x == n)) W := by
 show Calls Try.prog 24 #[.int .i64 x, .pointer (some ⟨B, 0, none⟩)] W _
 go_enter Try.func24, Try.ntmps24
 go_wp2
 all_goals (go_ret; exact ⟨by simp_all, 0, rfl⟩)
open Go.Lib in
theorem pred24 (n : Int) (B : Nat) (w : World) (hB : B < w.heap.size) (hcell : w.cell? ⟨B, 0, none⟩ = some (.int .i64 n)) :
  PredAt Try.prog 24 #[.pointer (some ⟨B, 0, none⟩)] (Value.int .i64) (fun x => x == n) w :=
 fun W x hb => gives24 n x B W ((hb.cell (p := ⟨B, 0, none⟩) hB).trans hcell)
open Go.Lib in
theorem over24 (n : Int) (B blk off size : Nat) (w : World) (hB : B < w.heap.size) (hne : B ≠ blk) (hcell : w.cell? ⟨B, 0, none⟩ = some (.int .i64 n)) :
  PredOver Try.prog 24 #[.pointer (some ⟨B, 0, none⟩)] (Value.int .i64) (fun x => x == n) blk off size w :=
 fun m os dk x _ => gives24 n x B _ (by
  unfold sortWorld
  rw [cell?_grow _ _ _ (by show B < (putRow _ _ _ _ _).heap.size; rw [size_putRow]; exact hB), cell?_putRow_other _ _ blk off _ _ (Or.inl hne)]
  exact hcell)
set_option maxHeartbeats 2000000 in
open Go.Lib in
/-- slices.DeleteFunc over a row of one's own, not empty, by 'is it n'. -/
theorem delete_own (n : Int) (B : Nat) (v : Value) (l : List Int) (w : World) (base : Nat) (hrow : w.ownsRow base 3 1 v l.length (l.map encZ)) (hl : l ≠ []) (hB : B < w.heap.size) (hBv : some B ≠ v.ownBlock)
  (hc : w.cell? ⟨B, 0, none⟩ = some (.int .i64 n)) (hn : l.length ≤ 1000000) :
  Calls Try.prog 22 #[v, .func (.func 24) #[] #[.pointer (some ⟨B, 0, none⟩)]] w fun e w' => ∃ v', e = .returned v' ∧ w'.ownsRow base 3 1 v' (l.filter (fun x => !(x == n))).length ((l.filter (fun x => !(x == n))).map encZ) ∧ w.grownBy w' v.ownBlock := by
 obtain ⟨gb, cap, cur, rfl, hbase, hgb, r1, r2, r3, r4⟩ := hrow.2.resolve_left (fun h => hl (List.eq_nil_of_length_eq_zero h.2))
 have hne : B ≠ gb := fun e => hBv (by rw [e]; rfl)
 have eg : ∀ args w, (callFunc 24 args).run Try.prog w = .ok (.enter 24 args) w := enters_of Try.func24 (by kernel_rfl) rfl
 have hcon := AnyE.slices_DeleteFunc deleteA (Value.int .i64) (fun _ => rfl) (fun x => x == n) 24 #[.pointer (some ⟨B, 0, none⟩)] eg 0 Try.zeroValue3 gb 0 cap l.toArray w
  (pred24 n B w hB hc) (over24 n B gb 0 _ w hB hne hc) (holds_of_block_i hgb (by simpa using r4)) (by simp; omega) (by simpa using r1)
 change Calls Try.prog 22 _ _ _ at hcon
 have hsz : l.toArray.size = l.length := by simp
 rw [hsz] at hcon
 refine hcon.mono ?_
 rintro e w3 ⟨rfl, q, rfl⟩
 have hm : (l.filter (fun x => !(x == n))).length ≤ l.length := List.length_filter_le _ _
 have hts : (l.filter (fun x => !(x == n)) ++ List.replicate (l.length - (l.filter (fun x => !(x == n))).length) 0).length = l.length := by rw [List.length_append, List.length_replicate]; omega
 have h0 := ownsRow_sorted_i (n := q) (os := #[]) (ss := l) (ts := l.filter (fun x => !(x == n)) ++ List.replicate (l.length - (l.filter (fun x => !(x == n))).length) 0) hts hbase hgb r1 r2 r3
 have h1 := ownsRow_short h0 hm (List.length_pos_iff.2 hl)
 rw [← List.map_take, List.take_left] at h1
 have hgr := grownBy_sorted_i (w := w) (g := gb) (n := q) (os := #[]) (l.filter (fun x => !(x == n)) ++ List.replicate (l.length - (l.filter (fun x => !(x == n))).length) 0).toArray
 have hg0 : ∀ W : World, grow W #[] = W := fun W => by simp [grow]
 rw [hg0] at h1 hgr
 exact ⟨_, rfl, h1, hgr⟩
end Go.Proofs.Ytjlemkdilbnmlaa

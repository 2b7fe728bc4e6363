/- Words for the functions that take functions: what is asked of a predicate, the first place where it holds. No condition. -/
import Derived.Test.YtkojggbogdjmcaaW
import Derived.Test.YtkojggbogdjmcaaOpn
import Derived.Lib.Hide
import Derived.Lib.SliceRun
import Derived.Lib.BitFns
import Derived.Lib.Small
import Derived.Laws.Externs
namespace Go.Proofs.YtkojggbogdjmcaaW.Hw
open Go.RowKit Go.Proofs.YtkojggbogdjmcaaW.PrintWords Go.Proofs.YtkojggbogdjmcaaW.PrintLast Go.Proofs.YtkojggbogdjmcaaW.PrintMore
/-- A predicate on elements of a kind, called as function g with what it captured behind: it leaves all that lay there. -/
def PredK {α : Type} (P : Program) (d : Kd α) (g : Nat) (lb : Array Value) (enc : List Value → Value) (p : α → Bool) (w : World) : Prop :=
 ∀ (W : World) (x : α) (cs : List Value), Below w.heap.size w W → d.K W x cs → Calls P g (#[enc cs] ++ lb) W fun e w' => e = .returned (.bool (p x)) ∧ Below W.heap.size W w'
/-- A predicate on whole numbers, called as function g with what it captured behind: it leaves all that lay there. -/
def PredI (P : Program) (g : Nat) (lb : Array Value) (p : Int → Bool) (w : World) : Prop :=
 ∀ (W : World) (x : Int), Below w.heap.size w W → Calls P g (#[.int .i64 x] ++ lb) W fun e w' => e = .returned (.bool (p x)) ∧ Below W.heap.size W w'
/-- A function of the program's own text is entered. -/
theorem enters (P : Program) {f : FuncId} {fn : Func} (hf : P.funcs[f]? = some fn) (hname : (fn.name == "runtime.NumGoroutine") = false) (hs : fn.body.isSome = true) (args : Array Value) (w : World) :
  (callFunc f args).run P w = .ok (.enter f args) w := by
 have h1 : fn.name ≠ "runtime.NumGoroutine" := by simpa using hname
 obtain ⟨c, hb⟩ := Option.isSome_iff_exists.1 hs
 simp [callFunc, hf, h1, hb, mark]
def aggOf (cs : List Value) : Value := .agg cs.toArray
def oneOf (cs : List Value) : Value := cs.headD (.bool false)
/-- The first place where p holds, or -1. -/
def idxI {α : Type} (p : α → Bool) (l : List α) : Int := if l.findIdx p < l.length then (l.findIdx p : Int) else -1
theorem idxI_hit {α : Type} (p : α → Bool) (l : List α) (z : α) (k : Nat) (hk : k < l.length) (h : p (l.getD k z) = true) (hb : ∀ j, j < k → p (l.getD j z) = false) : idxI p l = k := by
 have e : l.findIdx p = k := by
  rw [List.findIdx_eq hk]
  refine ⟨?_, fun j hj => ?_⟩
  ·simpa [List.getD_eq_getElem?_getD, hk] using h
  ·have := hb j hj
   have hj' : j < l.length := by omega
   simpa [List.getD_eq_getElem?_getD, hj'] using this
 unfold idxI
 rw [e, if_pos hk]
theorem idxI_miss {α : Type} (p : α → Bool) (l : List α) (z : α) (h : ∀ j, j < l.length → p (l.getD j z) = false) : idxI p l = -1 := by
 have e : l.findIdx p = l.length := by
  rw [List.findIdx_eq_length]
  intro x hx
  obtain ⟨j, hj, rfl⟩ := List.mem_iff_getElem.1 hx
  have := h j hj
  simpa [List.getD_eq_getElem?_getD, hj] using this
 unfold idxI
 rw [e, if_neg (by omega)]
theorem idxI_range {α : Type} (p : α → Bool) (l : List α) : -1 ≤ idxI p l ∧ idxI p l < l.length := by
 unfold idxI
 split <;> omega
theorem idxI_any {α : Type} (p : α → Bool) (l : List α) : decide (0 ≤ idxI p l) = l.any p := by
 unfold idxI
 by_cases h : l.findIdx p < l.length
 ·rw [if_pos h]
  have := (List.findIdx_lt_length.1 h)
  simp [this]
 ·rw [if_neg h]
  have h2 : ¬ ∃ x, x ∈ l ∧ p x = true := fun ⟨x, hx, hp⟩ => h (List.findIdx_lt_length.2 ⟨x, hx, hp⟩)
  have : l.any p = false := by
   rw [Bool.eq_false_iff]
   intro ha
   rw [List.any_eq_true] at ha
   exact h2 ha
  simp [this]
end Go.Proofs.YtkojggbogdjmcaaW.Hw
namespace Go.Proofs.YtkojggbogdjmcaaW.PrintWords.Kd
open Go.RowKit
theorem V_off {α : Type} {d : Kd α} {e base n c : Nat} {ok : Nat → Prop} {W : World} {ad : Addr} {xs : List α} (h : V d e W base ok (.slice (some ad) n c) xs) (hp : 0 < xs.length) (hs : 0 < d.sz) : ok ad.block := by
 obtain ⟨A, c', hv, _, hf⟩ := h
 cases hv
 exact F_in hf rfl hp hs
section
variable {P : Program} {ops : Array Oper} {rest : List Oper} {o : Oper} {a : Act} {Q : Exit → Act → World → Prop} {α : Type}
/-- make([]T, 0, c). -/
theorem R_makec (d : Kd α) {w0 W : World} (base e : Nat) (hgd : o.guard = none) {N : Tmp} (_hd : o.dst = some N) (t : TypeId) (x y : Operand) (ho : o.op = .makeSlice t x y) (c : Int) (hx : a.eval x = .int .i64 0) (hy : a.eval y = .int .i64 c)
  (ht : P.underlying t = some (.slice e)) (z : Value) (bytes : Nat) (hinfo : (P.info? e).map (fun i => (i.zero, i.size, i.bytes)) = some (some z, d.sz, bytes)) (_hz : z.cells.size = d.sz) (_hs0 : 0 < d.sz) (hb0 : 0 < bytes)
  {ok : Nat → Prop} (hfresh : ok W.heap.size) (h0 : 0 ≤ c) (hl : c.toNat * bytes ≤ 281474976710656) (HB : Below base w0 W) (hbase : base ≤ W.heap.size)
  (h : ∀ v1 w1, d.R e w1 base ok v1 [] → Below base w0 w1 → W.grownBy w1 none → (∃ b, v1.ownBlock = some b ∧ W.heap.size ≤ b) → wpList P ops Q rest (a.put o.dst v1) w1) : wpList P ops Q (o :: rest) a W := by
 obtain ⟨m, rfl⟩ := Int.eq_ofNat_of_zero_le h0
 simp only [Int.toNat_natCast] at hl
 obtain ⟨i0, hi, hzz⟩ := Option.map_eq_some_iff.1 hinfo
 simp only [Prod.mk.injEq] at hzz
 obtain ⟨hz0, hz1, hz2⟩ := hzz
 have hm : m ≤ 281474976710656 := Nat.le_trans (Nat.le_mul_of_pos_right _ hb0) hl
 have hr := run_make (P := P) W t e i0 z ht hi hz0 .i64 .i64 (0 : Int) (m : Int) (by omega) (by omega)
  (by
   have h3 : ((i0.bytes * m : Nat) : Int) ≤ 281474976710656 := by rw [hz2, Nat.mul_comm]; omega
   rwa [Int.natCast_mul] at h3) (by omega)
 simp only [Int.toNat_natCast, Int.toNat_zero] at hr
 rw [hz1] at hr
 have hrun : (execOp a.eval o).run P W = .ok (.value (.slice (some ⟨W.heap.size, 0, none⟩) 0 m)) (W.alloc (.cells (madeCells z.cells (m * d.sz)) e)) := by simp [execOp, ho, hx, hy, hr]
 refine event_run hgd hrun (h _ _ ⟨fun k hk => ?_, [], ⟨by simp, .inr ⟨W.heap.size, m, madeCells z.cells (m * d.sz), rfl, hbase, heap_alloc_new W _, Nat.zero_le _, by simp only [maxLen]; omega, by simp [size_madeCells], by simp⟩⟩, Reps.none _ _⟩ (HB.alloc hbase _) (World.grownBy_alloc W _ none) ⟨W.heap.size, by simp [Value.ownBlock], Nat.le_refl _⟩)
 have : W.heap.size = k := by simpa [Value.ownBlock] using hk
 subst this
 exact hfresh
end
end Go.Proofs.YtkojggbogdjmcaaW.PrintWords.Kd

/- Words for the functions that take functions: what is asked of a predicate, the first place where it holds. No condition. -/
import Derived.Test.YtoghjpoblbdnpaaW
import Derived.Test.YtoghjpoblbdnpaaOpn
import Derived.Lib.Hide
import Derived.Lib.SliceRun
import Derived.Lib.BitFns
import Derived.Lib.Small
import Derived.Laws.Externs
import Derived.Lib.Overlaps
import Derived.Lib.SlBytesConst
import Derived.Deep.RegionLaw
namespace Go.Proofs.YtoghjpoblbdnpaaW.Hw
open Go.RowKit Go.Proofs.YtoghjpoblbdnpaaW.PrintWords Go.Proofs.YtoghjpoblbdnpaaW.PrintLast Go.Proofs.YtoghjpoblbdnpaaW.PrintMore
/-- A predicate on elements of a kind, called as function g with what it captured behind: it leaves all that lay there. -/
def PredK {α : Type} (P : Program) (d : Kd α) (g : Nat) (lb : Array Value) (enc : List Value → Value) (p : α → Bool) (w : World) : Prop :=
 ∀ (W : World) (x : α) (cs : List Value), Below w.heap.size w W → d.K W x cs → Calls P g (#[enc cs] ++ lb) W fun e w' => e = .returned (.bool (p x)) ∧ Below W.heap.size W w'
/-- A predicate on whole numbers, called as function g with what it captured behind: it leaves all that lay there. -/
def PredI (P : Program) (g : Nat) (lb : Array Value) (p : Int → Bool) (w : World) : Prop :=
 ∀ (W : World) (x : Int), Below w.heap.size w W → Calls P g (#[.int .i64 x] ++ lb) W fun e w' => e = .returned (.bool (p x)) ∧ Below W.heap.size W w'
/-- A block lives on where all that lay there does. -/
theorem blk_bel {w w1 : World} {g : Nat} {o : Obj} (h : w.heap[g]? = some o) (hb : Below w.heap.size w w1) : w1.heap[g]? = some o := (hb.block g (blk_lt h)).trans h
/-- A predicate on elements of a kind that is asked while a row is written. -/
def PredR {α : Type} (P : Program) (d : Kd α) (g : Nat) (lb : Array Value) (enc : List Value → Value) (p : α → Bool) (w : World) (row : Option Nat) : Prop :=
 ∀ (W : World) (x : α) (cs : List Value), w.grownBy W row → d.K W x cs → Calls P g (#[enc cs] ++ lb) W fun e w' => e = .returned (.bool (p x)) ∧ Below W.heap.size W w'
theorem PredR.k {α : Type} {P : Program} {d : Kd α} {g : Nat} {lb : Array Value} {enc : List Value → Value} {p : α → Bool} {w : World} {row : Option Nat} (h : PredR P d g lb enc p w row) : PredK P d g lb enc p w :=
 fun W x cs hb hk => h W x cs (grown_of_below hb row) hk
theorem grown_self (w : World) (row : Option Nat) : w.grownBy w row := ⟨rfl, rfl, rfl, Nat.le_refl _, fun _ _ _ => rfl⟩
theorem grown_bel {w W w1 : World} {row : Option Nat} (h : w.grownBy W row) (hb : Below W.heap.size W w1) : w.grownBy w1 row := World.grownBy.trans h (grown_of_below hb row)
theorem grown_cell {w W : World} {row : Option Nat} (h : w.grownBy W row) {a : Addr} {v : Value} (hc : w.cell? a = some v) (hne : some a.block ≠ row) : W.cell? a = some v := by
 have := h.block _ (wb_ w a hc) hne
 rw [← hc]
 unfold World.cell?
 rw [this]
theorem bl_irrefl : ∀ x : List UInt8, Op.bytesLess x x = false
 | [] => rfl
 | a :: x => by
  unfold Op.bytesLess
  rw [bl_irrefl x]
  have : ¬ a < a := UInt8.lt_irrefl a
  simp [this]
theorem bl_trans : ∀ x y z : List UInt8, Op.bytesLess x y = true → Op.bytesLess y z = true → Op.bytesLess x z = true
 | _, [], _, h, _ => by simp [Op.bytesLess] at h
 | _, _ :: _, [], _, h => by simp [Op.bytesLess] at h
 | [], _ :: _, _ :: _, _, _ => by simp [Op.bytesLess]
 | a :: x, b :: y, c :: z, h, k => by
  simp only [Op.bytesLess, Bool.or_eq_true, Bool.and_eq_true, decide_eq_true_eq, beq_iff_eq] at h k ⊢
  rcases h with h | ⟨rfl, h⟩
  ·rcases k with k | ⟨rfl, k⟩
   ·exact .inl (UInt8.lt_trans h k)
   ·exact .inl h
  ·rcases k with k | ⟨rfl, k⟩
   ·exact .inl k
   ·exact .inr ⟨rfl, bl_trans x y z h k⟩
theorem bl_total : ∀ x y : List UInt8, Op.bytesLess x y = true ∨ x = y ∨ Op.bytesLess y x = true
 | [], [] => .inr (.inl rfl)
 | [], _ :: _ => .inl (by simp [Op.bytesLess])
 | _ :: _, [] => .inr (.inr (by simp [Op.bytesLess]))
 | a :: x, b :: y => by
  simp only [Op.bytesLess, Bool.or_eq_true, Bool.and_eq_true, decide_eq_true_eq, beq_iff_eq, List.cons.injEq]
  rcases UInt8.lt_or_eq_of_le (a := a) (b := a) (UInt8.le_refl a) with h | _
  ·exact absurd h (UInt8.lt_irrefl a)
  ·by_cases hab : a < b
   ·exact .inl (.inl hab)
   ·by_cases hba : b < a
    ·exact .inr (.inr (.inl hba))
    ·have e : a = b := UInt8.le_antisymm (UInt8.not_lt.1 hba) (UInt8.not_lt.1 hab)
     subst e
     rcases bl_total x y with h | h | h
     ·exact .inl (.inr ⟨rfl, h⟩)
     ·exact .inr (.inl ⟨rfl, h⟩)
     ·exact .inr (.inr (.inr ⟨rfl, h⟩))
theorem bl_asymm (x y : List UInt8) (h : Op.bytesLess x y = true) : Op.bytesLess y x = false := by
 cases hk : Op.bytesLess y x with
 | false => rfl
 | true =>
  have := bl_trans x y x h hk
  rw [bl_irrefl] at this
  cases this
theorem bl_not (x y : List UInt8) : (!(Op.bytesLess x y || x == y)) = Op.bytesLess y x := by
 rcases bl_total x y with h | h | h
 ·simp [h, bl_asymm x y h]
 ·subst h
  simp [bl_irrefl]
 ·have h2 := bl_asymm y x h
  have h3 : (x == y) = false := by
   rw [beq_eq_false_iff_ne]
   intro e
   subst e
   rw [bl_irrefl] at h
   cases h
  simp [h, h2, h3]
/-- A string above another one. -/
theorem string_gtr (t : TypeId) (a b : ByteArray) : binOp .gtr t (.string a) (.string b) = pure (.bool (Op.bytesLess b.toList a.toList)) := by
 rw [← bl_not]
 simp [binOp, Op.stringOp]
/-- A function of the program's own text is entered. -/
theorem enters (P : Program) {f : FuncId} {fn : Func} (hf : P.funcs[f]? = some fn) (hname : (fn.name == "runtime.NumGoroutine") = false) (hs : fn.body.isSome = true) (args : Array Value) (w : World) :
  (callFunc f args).run P w = .ok (.enter f args) w := by
 have h1 : fn.name ≠ "runtime.NumGoroutine" := by simpa using hname
 obtain ⟨c, hb⟩ := Option.isSome_iff_exists.1 hs
 simp [callFunc, hf, h1, hb, mark]
theorem zero_len (z : Array Value) (n : Nat) : (Builtin.zeroCells z n).toList.length = n * z.size := by simp [Builtin.zeroCells]
/-- 'clear(s)', s a slice of n > 0 elements of several cells. -/
theorem run_clear_rows {P : Program} (w : World) (t e ty : TypeId) (z : Value) (ht : P.underlying t = some (.slice e)) (hv : ∀ w, (zeroValue e).run P w = .ok z w) (h1 : ∀ u ∈ z.cells.toList, u.oneCell' = true) (b o n c : Nat) (hn : 0 < n)
  (hc : ∀ j, j < n * z.cells.size → (w.cell? ⟨b, o + j, none⟩).isSome = true) (hf : ∀ j, j < n * z.cells.size → w.frozen? ⟨b, o + j, none⟩ = false) :
  (Builtin.clear_ #[t] ty #[.slice (some ⟨b, o, none⟩) n c]).run P w = .ok (.tuple #[]) (w.setCells b o (Builtin.zeroCells z.cells n).toList) := by
 have hm : ∀ v ∈ (Builtin.zeroCells z.cells n).toList, v.oneCell' = true := by
  intro v hv'
  simp only [Builtin.zeroCells, Array.toList_map, List.mem_map] at hv'
  obtain ⟨i, hi, rfl⟩ := hv'
  have hi' : i < n * z.cells.size := by simpa using hi
  have hz : 0 < z.cells.size := by
   rcases Nat.eq_zero_or_pos z.cells.size with e | e
   ·rw [e] at hi'; omega
   ·exact e
  have hlt : i % z.cells.size < z.cells.size := Nat.mod_lt _ hz
  rw [getElem!_pos z.cells _ hlt]
  exact h1 _ (by rw [Array.mem_toList_iff]; exact Array.getElem_mem hlt)
 have hst := run_storeCells_cells (P := P) b o (Builtin.zeroCells z.cells n).toList 0 w (by rw [zero_len]; simpa using hc) (by rw [zero_len]; simpa using hf) hm
 simp only [Nat.add_zero] at hst
 obtain ⟨m, rfl⟩ : ∃ m, n = m + 1 := ⟨n - 1, by omega⟩
 simp [Builtin.clear_, run_underlying ht, hv, hst]
def aggOf (cs : List Value) : Value := .agg cs.toArray
/-- The first place where p holds, or -1. -/
def idxI {α : Type} (p : α → Bool) (l : List α) : Int := if l.findIdx p < l.length then (l.findIdx p : Int) else -1
theorem idxI_hit {α : Type} (p : α → Bool) (l : List α) (z : α) (k : Nat) (hk : k < l.length) (h : p (l.getD k z) = true) (hb : ∀ j, j < k → p (l.getD j z) = false) : idxI p l = k := by
 have e : l.findIdx p = k := by
  rw [List.findIdx_eq hk]
  refine ⟨?_, fun j hj => ?_⟩
  ·simpa [List.getD_eq_getElem?_getD, hk] using h
  ·have := hb j hj
   have hj' : j < l.length := by omega
   simpa [List.getD_eq_getElem?_getD, hj'] using this
 unfold idxI
 rw [e, if_pos hk]
theorem idxI_miss {α : Type} (p : α → Bool) (l : List α) (z : α) (h : ∀ j, j < l.length → p (l.getD j z) = false) : idxI p l = -1 := by
 have e : l.findIdx p = l.length := by
  rw [List.findIdx_eq_length]
  intro x hx
  obtain ⟨j, hj, rfl⟩ := List.mem_iff_getElem.1 hx
  have := h j hj
  simpa [List.getD_eq_getElem?_getD, hj] using this
 unfold idxI
 rw [e, if_neg (by omega)]
theorem idxI_range {α : Type} (p : α → Bool) (l : List α) : -1 ≤ idxI p l ∧ idxI p l < l.length := by
 unfold idxI
 split <;> omega
theorem idxI_any {α : Type} (p : α → Bool) (l : List α) : decide (0 ≤ idxI p l) = l.any p := by
 unfold idxI
 by_cases h : l.findIdx p < l.length
 ·rw [if_pos h]
  have := (List.findIdx_lt_length.1 h)
  simp [this]
 ·rw [if_neg h]
  have h2 : ¬ ∃ x, x ∈ l ∧ p x = true := fun ⟨x, hx, hp⟩ => h (List.findIdx_lt_length.2 ⟨x, hx, hp⟩)
  have : l.any p = false := by
   rw [Bool.eq_false_iff]
   intro ha
   rw [List.any_eq_true] at ha
   exact h2 ha
  simp [this]
/-- 'copy(dst, src)' of elements of several cells. -/
theorem run_copy_rows {P : Program} (w : World) (dT sT ty elem : TypeId) (sz g o dLen dCap : Nat) (a : Addr) (sLen sCap m : Nat) (cur : Array Value) (t : TypeId) (cs : List Value)
  (hu : P.underlying dT = some (.slice elem)) (hs : (P.info? elem).map (·.size) = some sz)
  (hg : w.heap[g]? = some (.cells cur t (0, 0))) (hm : m = Nat.min sLen dLen) (hn : cs.length = m * sz)
  (hsrc : ∀ j v, cs[j]? = some v → w.cell? (a.add j) = some v) (hfit : o + cs.length ≤ cur.size) (h1 : ∀ v ∈ cs, v.oneCell' = true) :
  (Builtin.copy_ #[dT, sT] ty #[.slice (some ⟨g, o, none⟩) dLen dCap, .slice (some a) sLen sCap]).run P w = .ok (goInt m) (w.setCells g o cs) := by
 have hl := run_loadCells_list (P := P) w a cs hsrc
 have hst := run_storeCells_cells (P := P) g o cs 0 w (fun j hj => by
   rw [cell_of_row w g _ cur t (0, 0) hg]
   simp only [Nat.add_zero]
   rw [Array.getElem?_eq_getElem (by omega)]
   rfl) (fun j hj => by simp [World.frozen?, hg]) h1
 simp only [Nat.add_zero] at hst
 cases hq : P.info? elem with
 | none => simp [hq] at hs
 | some i =>
  have hi : i.size = sz := by simpa [hq] using hs
  subst hm
  simp [Builtin.copy_, run_underlying hu, Builtin.lenOf, Builtin.firstCells, sizeOf, typeInfo, hq, hi, ← hn, hl, hst]
section
variable {P : Program}
theorem wpList_copy_run (w : World) {ops : Array Oper} {rest : List Oper} {o : Oper} {a : Act} {Q : Exit → Act → World → Prop} (hgd : o.guard = none) (d s : Operand) (t t' : TypeId)
  (ho : o.op = .call { callee := .builtin .copy, args := #[d, s], argTypes := #[t, t'] }) (v u : Value) (hd : a.eval d = v) (hs : a.eval s = u) {v' : Value} {w' : World}
  (hr : (Builtin.copy_ #[t, t'] o.type #[v, u]).run P w = .ok v' w') (h : wpList P ops Q rest (a.put o.dst v') w') : wpList P ops Q (o :: rest) a w := by
 refine wpList_plain hgd fun K hK => ?_
 unfold Oper.wp execOp
 simp only [ho, resolve, invoke, builtin, Sem.run_bind, Sem.run_pure, Result.andThen_ok, List.map_toArray, List.map_cons, List.map_nil, hd, hs, hr]
 exact hK _ _ h
theorem wpList_append_run (w : World) {ops : Array Oper} {rest : List Oper} {o : Oper} {a : Act} {Q : Exit → Act → World → Prop} (hgd : o.guard = none) (d s : Operand) (t t' : TypeId)
  (ho : o.op = .call { callee := .builtin .append, args := #[d, s], argTypes := #[t, t'] }) (v u : Value) (hd : a.eval d = v) (hs : a.eval s = u) {v' : Value} {w' : World}
  (hr : (Builtin.append_ #[t, t'] o.type #[v, u]).run P w = .ok v' w') (h : wpList P ops Q rest (a.put o.dst v') w') : wpList P ops Q (o :: rest) a w := by
 refine wpList_plain hgd fun K hK => ?_
 unfold Oper.wp execOp
 simp only [ho, resolve, invoke, builtin, Sem.run_bind, Sem.run_pure, Result.andThen_ok, List.map_toArray, List.map_cons, List.map_nil, hd, hs, hr]
 exact hK _ _ h
theorem step_copy_run {ops : Array Oper} {o : Oper} {a : Act} {w : World} {K : Act → World → Prop} {Q : Exit → Act → World → Prop} {E : Prop}
  (hg : o.guard = none) (d x : Operand) (dT sT : TypeId) (hop : o.op = Op.call { callee := Callee.builtin Builtin.copy, args := #[d, x], argTypes := #[dT, sT] })
  (v u : Value) (hd : a.eval d = v) (hx : a.eval x = u) {v' : Value} {w' : World} (hr : (Builtin.copy_ #[dT, sT] o.type #[v, u]).run P w = .ok v' w') (hK : K (a.put o.dst v') w') :
  if Region.wanted o (yielded ops a.tmps) = true then Oper.wp P o a w K Q else E := by
 have hw : Region.wanted o (yielded ops a.tmps) = true := by simp [Region.wanted, hg]
 rw [if_pos hw]
 unfold Oper.wp
 simp [execOp, hop, resolve, invoke, builtin, hd, hx, hr, Result.andThen]
 exact hK
end
theorem take_set_next {α : Type} (l : List α) (i : Nat) (x : α) (h : i < l.length) : (l.set i x).take (i + 1) = l.take i ++ [x] := by
 rw [List.take_add_one, List.getElem?_set_self h, Option.toList_some, List.take_set_of_le (Nat.le_refl i)]
theorem filter_take_next {α : Type} (q : α → Bool) (l : List α) (z : α) (j : Nat) (h : j < l.length) : (l.take (j + 1)).filter q = (l.take j).filter q ++ (if q (l.getD j z) = true then [l.getD j z] else []) := by
 rw [List.take_add_one, List.getElem?_eq_getElem h, Option.toList_some, List.filter_append, List.getD_eq_getElem?_getD, List.getElem?_eq_getElem h]
 simp only [Option.getD_some, List.filter_cons, List.filter_nil]
theorem getD_of_drop {α : Type} {a b : List α} {j : Nat} (z : α) (h : a.drop j = b.drop j) : a.getD j z = b.getD j z := by
 have := congrArg (fun l => l[0]?) h
 simp only [List.getElem?_drop, Nat.add_zero] at this
 rw [List.getD_eq_getElem?_getD, List.getD_eq_getElem?_getD, this]
theorem drop_next {α : Type} {a b : List α} {j : Nat} (h : a.drop j = b.drop j) : a.drop (j + 1) = b.drop (j + 1) := by
 have := congrArg (List.drop 1) h
 simpa [List.drop_drop, Nat.add_comm] using this
/-- What a filter in place has come to: i elements kept of the first j. -/
structure Filt {α : Type} (q : α → Bool) (l cur : List α) (i j : Nat) : Prop where
 len : cur.length = l.length
 ij : i < j
 jn : j ≤ l.length
 kept : cur.take i = (l.take j).filter q
 rest : cur.drop j = l.drop j
theorem Filt.start {α : Type} {p : α → Bool} {l : List α} {i : Nat} (h : idxI p l = (i : Int)) : Filt (fun x => !p x) l l i (i + 1) := by
 have hi : i < l.length := by
  have := (idxI_range p l).2
  omega
 have hf : l.findIdx p = i := by
  unfold idxI at h
  split at h <;> omega
 have hb : ∀ j, j < i → p (l.getD j l[i]) = false := by
  intro j hj
  have hj' : j < l.findIdx p := by omega
  have := List.not_of_lt_findIdx hj'
  have hjl : j < l.length := by omega
  simpa [List.getD_eq_getElem?_getD, hjl] using this
 have hp : p l[i] = true := by
  have := List.findIdx_getElem (p := p) (xs := l) (w := by rw [hf]; exact hi)
  simpa [hf] using this
 refine ⟨rfl, by omega, by omega, ?_, rfl⟩
 rw [filter_take_next (fun x => !p x) l l[i] i hi, show l.getD i l[i] = l[i] by simp [List.getD_eq_getElem?_getD, hi]]
 simp only [hp, Bool.not_true, Bool.false_eq_true, if_false, List.append_nil]
 symm
 apply List.filter_eq_self.2
 intro x hx
 obtain ⟨j, hj, rfl⟩ := List.mem_iff_getElem.1 hx
 rw [List.length_take] at hj
 have := hb j (by omega)
 rw [List.getElem_take]
 have hjl : j < l.length := by omega
 rw [show l.getD j l[i] = l[j] by simp [List.getD_eq_getElem?_getD, hjl]] at this
 simp [this]
theorem Filt.keep {α : Type} {q : α → Bool} {l cur : List α} {i j : Nat} (z : α) (h : Filt q l cur i j) (hj : j < l.length) (hq : q (cur.getD j z) = true) : Filt q l (cur.set i (cur.getD j z)) (i + 1) (j + 1) := by
 have e := getD_of_drop z h.rest
 have := h.len; have := h.ij
 refine ⟨by rw [List.length_set, h.len], by omega, by omega, ?_, ?_⟩
 ·rw [take_set_next _ _ _ (by omega), h.kept, filter_take_next q l z j hj, ← e, if_pos hq]
 ·rw [List.drop_set_of_lt (by omega)]
  exact drop_next h.rest
theorem Filt.skip {α : Type} {q : α → Bool} {l cur : List α} {i j : Nat} (z : α) (h : Filt q l cur i j) (hj : j < l.length) (hq : q (cur.getD j z) = false) : Filt q l cur i (j + 1) := by
 have e := getD_of_drop z h.rest
 have := h.ij
 refine ⟨h.len, by omega, by omega, ?_, drop_next h.rest⟩
 rw [h.kept, filter_take_next q l z j hj, ← e, if_neg (by rw [hq]; decide), List.append_nil]
theorem Filt.done {α : Type} {q : α → Bool} {l cur : List α} {i j : Nat} (h : Filt q l cur i j) (hj : ¬ j < l.length) : cur.take i = l.filter q := by
 have := h.jn
 rw [h.kept, show j = l.length by omega, List.take_length]
theorem filter_miss {α : Type} {p : α → Bool} {l : List α} (h : idxI p l = -1) : l.filter (fun x => !p x) = l := by
 apply List.filter_eq_self.2
 intro x hx
 have : ¬ l.findIdx p < l.length := by
  unfold idxI at h
  split at h <;> omega
 by_cases hp : p x = true
 ·exact absurd (List.findIdx_lt_length.2 ⟨x, hx, hp⟩) this
 ·simp [hp]
end Go.Proofs.YtoghjpoblbdnpaaW.Hw
namespace Go.Proofs.YtoghjpoblbdnpaaW.PrintWords.Kd
open Go.RowKit
/-- The rest of a row is written over: its first elements stay. -/
theorem R_rest {α : Type} {d : Kd α} {e base g n cap : Nat} {ok : Nat → Prop} {W : World} {xs : List α} (h : d.R e W base ok (.slice (some ⟨g, 0, none⟩) n cap) xs) (i : Nat) (hi : i ≤ xs.length) (vs : List Value) (hv : vs.length = (xs.length - i) * d.sz) :
  d.R e (W.setCells g (i * d.sz) vs) base ok (.slice (some ⟨g, 0, none⟩) i cap) (xs.take i) ∧ W.grownBy (W.setCells g (i * d.sz) vs) (some g) := by
 have hn := (R_reads' h).1
 have h' := R_take h hi
 obtain ⟨_, inner0, ho0, hr0⟩ := h
 obtain ⟨hok, inner, ho, hr⟩ := h'
 obtain ⟨hl0, ho0⟩ := ho0
 rcases ho0 with ⟨hx, _⟩ | ⟨g0, cap0, cur0, hx0, _, hh0, hnc0, hcm0, hcs0, _⟩
 ·cases hx
 injection hx0 with ha0 hn0 hc0
 injection ha0 with ha0
 injection ha0 with hg0
 subst hg0; subst hc0
 obtain ⟨hl, ho⟩ := ho
 rcases ho with ⟨hx, _⟩ | ⟨g1, cap1, cur1, hx1, hb1, hh1, hnc1, hcm1, hcs1, ht1⟩
 ·cases hx
 injection hx1 with ha1 hn1 hc1
 injection ha1 with ha1
 injection ha1 with hg1
 subst hg1; subst hc1
 rw [hh0] at hh1
 injection hh1 with hh1
 injection hh1 with hcur
 subst hcur
 have hin : i * d.sz + vs.length ≤ cur0.size := by
  rw [hv, hcs0, ← Nat.add_mul]
  exact Nat.mul_le_mul_right _ (by omega)
 obtain ⟨cur', h3, h4, h5⟩ := setCells_row vs (i * d.sz) W cur0 hh0 hin
 obtain ⟨s1, s2, s3, s4⟩ := setCells_same g vs (i * d.sz) W
 have hfar : ∀ k, k ≠ g → (W.setCells g (i * d.sz) vs).heap[k]? = W.heap[k]? := fun k hk => setCells_far vs _ k hk
 have hli : (xs.take i).length = i := by rw [List.length_take]; omega
 refine ⟨⟨hok, inner, ⟨hl, .inr ⟨g, cap, cur', by rw [hli], hb1, h3, hnc1, hcm1, by rw [h4, hcs1], ?_⟩⟩, ?_⟩, ⟨s1, s2, s3, by rw [s4]; exact Nat.le_refl _, fun k _ hk => hfar k (fun he => hk (by rw [he]))⟩⟩
 ·rw [← ht1, h5, hli]
  rw [List.append_assoc, List.take_append_of_le_length (by rw [List.length_take, Array.length_toList]; omega), List.take_take, Nat.min_self]
 ·exact hr.imp_ (fun _ _ hp => d.M_move (fun k hk => hfar k (fun he => hk.2 (by rw [he]; rfl))) hp)
theorem R_block {α : Type} {d : Kd α} {e base g n cap : Nat} {ok : Nat → Prop} {W : World} {xs : List α} (h : d.R e W base ok (.slice (some ⟨g, 0, none⟩) n cap) xs) :
  ∃ cur : Array Value, W.heap[g]? = some (.cells cur e (0, 0)) ∧ cur.size = cap * d.sz ∧ n ≤ cap ∧ cap ≤ 9223372036854775807 := by
 have hn := (R_reads' h).1
 obtain ⟨hok, inner, ⟨hl, ho2⟩, hr⟩ := h
 rcases ho2 with ⟨hx, _⟩ | ⟨g1, cap1, cur, hx1, hb1, hh, hnc, hcm, hcs, ht⟩
 ·cases hx
 injection hx1 with ha1 hn1 hc1
 injection ha1 with ha1
 injection ha1 with hg1
 subst hg1; subst hc1
 exact ⟨cur, hh, hcs, by omega, by simpa [maxLen] using hcm⟩
theorem seg_at {α : Type} (L seg : List α) (o : Nat) (h : o ≤ L.length) (q : Nat) : (L.take o ++ seg ++ L.drop (o + seg.length))[q]? = if q < o then L[q]? else if q < o + seg.length then seg[q - o]? else L[q]? := by
 have hl : (L.take o).length = o := by rw [List.length_take]; omega
 by_cases h1 : q < o
 ·rw [if_pos h1, List.append_assoc, List.getElem?_append_left (by omega), List.getElem?_take, if_pos h1]
 ·rw [if_neg h1]
  by_cases h2 : q < o + seg.length
  ·rw [if_pos h2, List.getElem?_append_left (by rw [List.length_append]; omega), List.getElem?_append_right (by omega), hl]
  ·rw [if_neg h2, List.getElem?_append_right (by rw [List.length_append]; omega), List.length_append, hl, List.getElem?_drop]
   congr 1
   omega
/-- Cells are laid over an owned row, up to its end at least, or within it. -/
theorem R_lay {α : Type} {d : Kd α} {e base g n cap : Nat} {ok : Nat → Prop} {W : World} {xs : List α} (h : d.R e W base ok (.slice (some ⟨g, 0, none⟩) n cap) xs) (o n' : Nat) (cs : List Value) (zs : List α) (hn' : n' ≤ cap) (ho : o ≤ n * d.sz)
  (hz : ∀ inner, Reps (d.M W base (fun k => ok k ∧ k ≠ g)) d.sz xs inner → (∀ j u, inner[j]? = some u → W.cell? ⟨g, j, none⟩ = some u) → Reps (d.M W base (fun k => ok k ∧ k ≠ g)) d.sz zs (inner.take o ++ cs ++ inner.drop (o + cs.length))) (hzl : zs.length = n') :
  d.R e (W.setCells g o cs) base ok (.slice (some ⟨g, 0, none⟩) n' cap) zs ∧ W.grownBy (W.setCells g o cs) (some g) := by
 have hn := (R_reads' h).1
 obtain ⟨hok, inner, ⟨hl, ho2⟩, hr⟩ := h
 rcases ho2 with ⟨hx, _⟩ | ⟨g1, cap1, cur, hx1, hb1, hh, hnc, hcm, hcs, ht⟩
 ·cases hx
 injection hx1 with ha1 hn1 hc1
 injection ha1 with ha1
 injection ha1 with hg1
 subst hg1; subst hc1
 have hr' : Reps (d.M W base (fun k => ok k ∧ k ≠ g)) d.sz xs inner := hr.imp_ (fun _ _ hp => d.M_mono (fun k hk => ⟨hk.1, fun e_ => hk.2 (by rw [e_]; rfl)⟩) hp)
 have hin : inner.length = n * d.sz := by rw [hl, hn]
 have hcin : ∀ q, q < inner.length → cur.toList[q]? = inner[q]? := by
  intro q hq
  rw [← ht, List.getElem?_take, if_pos (by rw [← hl]; exact hq)]
 have hcell : ∀ j u, inner[j]? = some u → W.cell? ⟨g, j, none⟩ = some u := by
  intro j u hj
  have hjl := (List.getElem?_eq_some_iff.1 hj).1
  rw [cell_of_row W g j cur e (0, 0) hh, ← Array.getElem?_toList, hcin j hjl, hj]
 have hnew := hz inner hr' hcell
 have hlen := hnew.1
 rw [hzl] at hlen
 have hlen2 : (inner.take o ++ cs ++ inner.drop (o + cs.length)).length = o + cs.length + (inner.length - (o + cs.length)) := by
  simp only [List.length_append, List.length_take, List.length_drop]
  omega
 have hcap : n' * d.sz ≤ cap * d.sz := Nat.mul_le_mul_right _ hn'
 have hfit : o + cs.length ≤ cur.size := by rw [hcs]; omega
 obtain ⟨cur', h3, h4, h5⟩ := setCells_row cs o W cur hh hfit
 obtain ⟨s1, s2, s3, s4⟩ := setCells_same g cs o W
 have hfar : ∀ k, k ≠ g → (W.setCells g o cs).heap[k]? = W.heap[k]? := fun k hk => setCells_far cs _ k hk
 refine ⟨⟨hok, inner.take o ++ cs ++ inner.drop (o + cs.length), ⟨hnew.1, .inr ⟨g, cap, cur', by rw [hzl], hb1, h3, by rw [hzl]; exact hn', hcm, by rw [h4, hcs], ?_⟩⟩, ?_⟩, ⟨s1, s2, s3, by rw [s4]; exact Nat.le_refl _, fun k _ hk => hfar k (fun he => hk (by rw [he]))⟩⟩
 ·rw [hzl]
  apply List.ext_getElem?
  intro q
  rw [List.getElem?_take, h5, seg_at cur.toList cs o (by rw [Array.length_toList]; omega) q, seg_at inner cs o (by omega) q]
  by_cases hq : q < n' * d.sz
  ·rw [if_pos hq]
   by_cases h1 : q < o
   ·rw [if_pos h1, if_pos h1, hcin q (by omega)]
   ·rw [if_neg h1, if_neg h1]
    by_cases h2 : q < o + cs.length
    ·rw [if_pos h2, if_pos h2]
    ·rw [if_neg h2, if_neg h2, hcin q (by omega)]
  ·rw [if_neg hq]
   symm
   have h1 : ¬ q < o := by omega
   have h2 : ¬ q < o + cs.length := by omega
   rw [if_neg h1, if_neg h2]
   exact List.getElem?_eq_none (by omega)
 ·exact hnew.imp_ (fun _ _ hp => d.M_mono (fun k hk => ⟨hk.1, fun e_ => hk.2 (by have e2_ : some k = some g := e_; injection e2_)⟩) (d.M_move (fun k hk => hfar k hk.2) hp))
/-- Elements are laid over an owned row's. -/
theorem R_cp {α : Type} {d : Kd α} {e base g n cap : Nat} {ok : Nat → Prop} {W : World} {xs : List α} (h : d.R e W base ok (.slice (some ⟨g, 0, none⟩) n cap) xs) (a : Nat) (cs : List Value) (ys : List α) (hy : Reps (d.M W base (fun k => ok k ∧ k ≠ g)) d.sz ys cs) (ha : a + ys.length ≤ n) :
  d.R e (W.setCells g (a * d.sz) cs) base ok (.slice (some ⟨g, 0, none⟩) n cap) (xs.take a ++ ys ++ xs.drop (a + ys.length)) ∧ W.grownBy (W.setCells g (a * d.sz) cs) (some g) := by
 have hn := (R_reads' h).1
 have hnc := (R_reads' h).2.1
 refine R_lay h (a * d.sz) n cs _ hnc (Nat.mul_le_mul_right _ (by omega)) ?_ (by simp only [List.length_append, List.length_take, List.length_drop]; omega)
 intro inner hr _
 have e2 : a * d.sz + cs.length = (a + ys.length) * d.sz := by rw [hy.1, Nat.add_mul]
 rw [e2]
 exact reps_append (reps_append (reps_take hr (by omega)) hy) (reps_drop hr)
/-- An owned row is one longer, its elements from i on moved up by one. -/
theorem R_shift {α : Type} {d : Kd α} {e base g n cap : Nat} {ok : Nat → Prop} {W : World} {xs : List α} (h : d.R e W base ok (.slice (some ⟨g, 0, none⟩) n cap) xs) (i : Nat) (hi : i < n) (hcap : n + 1 ≤ cap) :
  ∃ cs : List Value, cs.length = (n - i) * d.sz ∧ (∀ j u, cs[j]? = some u → W.cell? ⟨g, i * d.sz + j, none⟩ = some u) ∧ Reps (d.M W base (fun k => ok k ∧ k ≠ g)) d.sz (xs.drop i) cs ∧
  d.R e (W.setCells g ((i + 1) * d.sz) cs) base ok (.slice (some ⟨g, 0, none⟩) (n + 1) cap) (xs.take (i + 1) ++ xs.drop i) ∧ W.grownBy (W.setCells g ((i + 1) * d.sz) cs) (some g) := by
 have hn := (R_reads' h).1
 have h0 := h
 obtain ⟨hok, inner, ⟨hl, ho2⟩, hr⟩ := h
 rcases ho2 with ⟨hx, _⟩ | ⟨g1, cap1, cur, hx1, hb1, hh, hnc, hcm, hcs, ht⟩
 ·cases hx
 injection hx1 with ha1 hn1 hc1
 injection ha1 with ha1
 injection ha1 with hg1
 subst hg1; subst hc1
 have hr' : Reps (d.M W base (fun k => ok k ∧ k ≠ g)) d.sz xs inner := hr.imp_ (fun _ _ hp => d.M_mono (fun k hk => ⟨hk.1, fun e_ => hk.2 (by rw [e_]; rfl)⟩) hp)
 have hcell : ∀ j u, inner[j]? = some u → W.cell? ⟨g, j, none⟩ = some u := by
  intro j u hj
  have hjl := (List.getElem?_eq_some_iff.1 hj).1
  rw [cell_of_row W g j cur e (0, 0) hh, ← Array.getElem?_toList, ← hj, ← ht, List.getElem?_take, if_pos (by rw [← hl]; exact hjl)]
 have hin : inner.length = n * d.sz := by rw [hl, hn]
 have hle : i * d.sz ≤ n * d.sz := Nat.mul_le_mul_right _ (by omega)
 have hsub : n * d.sz - i * d.sz = (n - i) * d.sz := (Nat.sub_mul n i d.sz).symm
 have hcl : (inner.drop (i * d.sz)).length = (n - i) * d.sz := by rw [List.length_drop, hin, hsub]
 refine ⟨inner.drop (i * d.sz), hcl, fun j u hj => ?_, reps_drop hr', ?_⟩
 ·rw [List.getElem?_drop] at hj
  exact hcell _ u hj
 ·refine R_lay h0 ((i + 1) * d.sz) (n + 1) (inner.drop (i * d.sz)) _ hcap (Nat.mul_le_mul_right _ (by omega)) ?_ (by simp only [List.length_append, List.length_take, List.length_drop]; omega)
  intro inner2 hr2 hcell2
  -- the row's cells are what they are
  have e2 : inner2 = inner := by
   have hl2 : inner2.length = inner.length := by rw [hr2.1, hr'.1]
   apply List.ext_getElem?
   intro q
   rcases Nat.lt_or_ge q inner.length with hq | hq
   ·have h1 := hcell q _ (List.getElem?_eq_getElem hq)
    have h2 := hcell2 q _ (List.getElem?_eq_getElem (show q < inner2.length by omega))
    rw [h1] at h2
    rw [List.getElem?_eq_getElem hq, List.getElem?_eq_getElem (show q < inner2.length by omega)]
    exact h2.symm
   ·rw [List.getElem?_eq_none hq, List.getElem?_eq_none (by omega)]
  subst e2
  have e3 : inner2.drop ((i + 1) * d.sz + (inner2.drop (i * d.sz)).length) = [] := by
   apply List.drop_eq_nil_of_le
   rw [hcl, hin, ← Nat.add_mul]
   exact Nat.mul_le_mul_right _ (by omega)
  rw [e3, List.append_nil]
  exact reps_append (reps_take hr2 (by omega)) (reps_drop hr2)
section
variable {P : Program} {ops : Array Oper} {rest : List Oper} {o : Oper} {a : Act} {Q : Exit → Act → World → Prop} {α : Type}
end
section
variable {P : Program} {α : Type}
theorem run_zeros_grow (w : World) (base : Nat) (t ti ty e : TypeId) (i : TypeInfo) (z : Value) (ht : P.underlying t = some (.slice e)) {k : IntKind} (hti : P.underlying ti = some (.int k)) (hi : P.info? e = some i) (hz : i.zero = some z)
  (_hzs : z.cells.size = i.size) (hsz : 0 < i.size) (hb0 : 0 < i.bytes) (g n cap : Nat) (xs : List Value) (hown : w.ownsRow base e i.size (.slice (some ⟨g, 0, none⟩) n cap) n xs) (kx : IntKind) (m : Nat) (hm : 0 < m)
  (hbytes : (n + m) * i.bytes ≤ 140737488355328) (hcap : cap < n + m) :
  ∃ cells c', (Builtin.append_ #[t, ti] ty #[.slice (some ⟨g, 0, none⟩) n cap, .int kx m]).run P w = .ok (.slice (some ⟨w.heap.size, 0, none⟩) (n + m) c') (w.drew.alloc (.cells cells e)) := by
 have hle : n + m ≤ 140737488355328 := Nat.le_trans (Nat.le_mul_of_pos_right _ hb0) hbytes
 have h63 : n + m ≤ maxLen := by simp only [maxLen]; omega
 have hw : IntKind.i64.wrap (m : Int) = m := by rw [IntKind.wrap_i64]; omega
 have hneg : ¬ ((m : Int) < 0) := by omega
 have hmb : m * i.bytes ≤ 140737488355328 := Nat.le_trans (Nat.mul_le_mul_right _ (Nat.le_add_left m n)) hbytes
 have hbig : ¬ (281474976710656 < (m : Int) * (i.bytes : Int)) := by
  rw [← Int.natCast_mul]
  omega
 have hsn : i.size ≠ 0 := by omega
 have hn : ¬ (n + m ≤ cap) := by omega
 have h63' : ¬ (9223372036854775807 < ((n : Int) + (m : Int))) := by omega
 have hfit := growslice_fits hcap hbytes
 have h48' : ¬ (281474976710656 < Builtin.nextslicecap (n + m) cap * i.bytes) := by omega
 have holds : ∀ j u, xs[j]? = some u → w.cell? ((⟨g, 0, none⟩ : Addr).add j) = some u := hown.cells (g := g) rfl
 have hfo := run_firstCells_some (P := P) w.drew i.size n ⟨g, 0, none⟩ n cap xs hown.1 (by simpa using holds)
 have hmz : ¬ (m * i.size = 0) := Nat.mul_ne_zero (by omega) hsn
 refine ⟨xs.toArray ++ Builtin.zeroCells z.cells m ++ Builtin.zeroCells z.cells (grownCap w (n + m) cap e - (n + m)), grownCap w (n + m) cap e, ?_⟩
 simp [Builtin.append_, run_underlying ht, run_underlying hti, sizeOf, typeInfo, zeroValue, hi, hz, asInt, asIntOf, hw, hneg, hbig, hn, h63', h48', Question.forced, hfo, newRow, grownCap, hmz]
theorem R_zeros_grow (d : Kd α) {W : World} (base : Nat) (t ti ty e : TypeId) (z : Value) (bytes : Nat) (ht : P.underlying t = some (.slice e)) {k : IntKind} (hti : P.underlying ti = some (.int k)) (hinfo : (P.info? e).map (fun i => (i.zero, i.size, i.bytes)) = some (some z, d.sz, bytes)) (hz : z.cells.size = d.sz) (hs0 : 0 < d.sz) (hb0 : 0 < bytes)
  (g n cap : Nat) (xs : List α) (z0 : α) {ok : Nat → Prop} (hzero : d.M W base (fun _ => False) z0 z.cells.toList) (hfresh : ∀ k, W.heap.size ≤ k → ok k) (HO : d.R e W base ok (.slice (some ⟨g, 0, none⟩) n cap) xs) (kx : IntKind) (m : Nat) (hm : 0 < m) (hl : (xs.length + m) * bytes ≤ 140737488355328) (hbase : base ≤ W.heap.size) (hcap : cap < n + m) :
  ∃ c' w1, (Builtin.append_ #[t, ti] ty #[.slice (some ⟨g, 0, none⟩) n cap, .int kx m]).run P W = .ok (.slice (some ⟨W.heap.size, 0, none⟩) (n + m) c') w1 ∧ d.R e w1 base ok (.slice (some ⟨W.heap.size, 0, none⟩) (n + m) c') (xs ++ List.replicate m z0) ∧ W.grownBy w1 none := by
 have hn := (R_reads' HO).1
 obtain ⟨v1, w1, hrun, hR1, _, _⟩ := R_zeros_run (P := P) d base t ti ty e z bytes ht hti hinfo hz hs0 hb0 _ xs z0 hzero hfresh HO kx m (by omega) (by simpa using hl) hbase
 obtain ⟨i0, hi, hzz⟩ := Option.map_eq_some_iff.1 hinfo
 simp only [Prod.mk.injEq] at hzz
 obtain ⟨hz0, hz1, hz2⟩ := hzz
 obtain ⟨_, inner, hown, _⟩ := HO
 rw [← hn] at hown hl
 obtain ⟨cells, c', hg⟩ := run_zeros_grow (P := P) W base t ti ty e i0 z ht hti hi hz0 (by rw [hz, hz1]) (by omega) (by omega) g n cap inner (by rw [hz1]; exact hown) kx m hm (by rw [hz2]; exact hl) hcap
 rw [hg] at hrun
 injection hrun with h1 h2
 subst h1
 subst h2
 rw [Int.toNat_natCast] at hR1
 exact ⟨c', _, hg, hR1, ⟨rfl, rfl, rfl, by simp, fun k hk _ => heap_alloc_old W.drew _ hk⟩⟩
end
theorem grown_fresh {w w1 w2 : World} (h1 : w.grownBy w1 none) {b : Nat} (h2 : w1.grownBy w2 (some b)) (hb : w.heap.size ≤ b) : w.grownBy w2 none :=
 ⟨h2.os.trans h1.os, h2.tape.trans h1.tape, h2.output.trans h1.output, Nat.le_trans h1.size h2.size, fun k hk hne => (h2.block k (Nat.lt_of_lt_of_le hk h1.size) (fun he => by injection he with he; omega)).trans (h1.block k hk hne)⟩
theorem R_tail {α : Type} {d : Kd α} {e base g n cap : Nat} {ok : Nat → Prop} {W : World} {xs : List α} (h : d.R e W base ok (.slice (some ⟨g, 0, none⟩) n cap) xs) (i : Nat) (_hi : i < n) :
  ∃ cs : List Value, cs.length = (n - i) * d.sz ∧ (∀ j u, cs[j]? = some u → W.cell? ⟨g, i * d.sz + j, none⟩ = some u) ∧ Reps (d.M W base (fun k => ok k ∧ k ≠ g)) d.sz (xs.drop i) cs := by
 have hn := (R_reads' h).1
 obtain ⟨hok, inner, ⟨hl, ho2⟩, hr⟩ := h
 rcases ho2 with ⟨hx, _⟩ | ⟨g1, cap1, cur, hx1, hb1, hh, hnc, hcm, hcs, ht⟩
 ·cases hx
 injection hx1 with ha1 hn1 hc1
 injection ha1 with ha1
 injection ha1 with hg1
 subst hg1; subst hc1
 have hr' : Reps (d.M W base (fun k => ok k ∧ k ≠ g)) d.sz xs inner := hr.imp_ (fun _ _ hp => d.M_mono (fun k hk => ⟨hk.1, fun e_ => hk.2 (by rw [e_]; rfl)⟩) hp)
 have hin : inner.length = n * d.sz := by rw [hl, hn]
 have hsub : n * d.sz - i * d.sz = (n - i) * d.sz := (Nat.sub_mul n i d.sz).symm
 refine ⟨inner.drop (i * d.sz), by rw [List.length_drop, hin, hsub], fun j u hj => ?_, reps_drop hr'⟩
 rw [List.getElem?_drop] at hj
 have hjl := (List.getElem?_eq_some_iff.1 hj).1
 rw [cell_of_row W g _ cur e (0, 0) hh, ← Array.getElem?_toList, ← hj, ← ht, List.getElem?_take, if_pos (by rw [← hl]; exact hjl)]
theorem R_grow_in {α : Type} {d : Kd α} {e base g n cap c' m i : Nat} {ok : Nat → Prop} {W W1 : World} {xs : List α} {z0 x : α} {xcs : List Value} (h : d.R e W base ok (.slice (some ⟨g, 0, none⟩) n cap) xs)
  (h1 : d.R e W1 base ok (.slice (some ⟨W.heap.size, 0, none⟩) (n + 1) c') (xs.take i ++ List.replicate m z0)) (hg : W.grownBy W1 none) (hi : i < n) (hm : m = n + 1 - i) (hx : Reps (d.M W1 base (fun k => ok k ∧ k ≠ W.heap.size)) d.sz [x] xcs) :
  ∃ cs : List Value, cs.length = (n - i) * d.sz ∧ (∀ j u, cs[j]? = some u → (W1.setCells W.heap.size (i * d.sz) xcs).cell? ⟨g, i * d.sz + j, none⟩ = some u) ∧ Reps (d.M W base (fun k => ok k ∧ k ≠ g)) d.sz (xs.drop i) cs ∧
   d.R e ((W1.setCells W.heap.size (i * d.sz) xcs).drew.setCells W.heap.size ((i + 1) * d.sz) cs) base ok (.slice (some ⟨W.heap.size, 0, none⟩) (n + 1) c') (xs.take i ++ [x] ++ xs.drop i) ∧
   W.grownBy ((W1.setCells W.heap.size (i * d.sz) xcs).drew.setCells W.heap.size ((i + 1) * d.sz) cs) none ∧
   ∃ cur, (W1.setCells W.heap.size (i * d.sz) xcs).drew.heap[W.heap.size]? = some (.cells cur e (0, 0)) ∧ cur.size = c' * d.sz := by
 have hn := (R_reads' h).1
 obtain ⟨curg, hcg, _⟩ := R_block h
 have hgl := blk_lt hcg
 obtain ⟨cs, hcl, hcell, hrep⟩ := R_tail h i hi
 have hl1 : (xs.take i ++ List.replicate m z0).length = n + 1 := by rw [List.length_append, List.length_take, List.length_replicate]; omega
 obtain ⟨h2, hg2⟩ := R_cp h1 i xcs [x] hx (by rw [List.length_singleton]; omega)
 have hG := grown_fresh hg hg2 (Nat.le_refl _)
 have h2d := R_drew h2
 obtain ⟨cur, hc2, hs2, _, _⟩ := R_block h2d
 have hGd : W.grownBy (W1.setCells W.heap.size (i * d.sz) xcs).drew none := World.grownBy.trans hG ⟨rfl, rfl, rfl, Nat.le_refl _, fun _ _ _ => rfl⟩
 have hrep2 : Reps (d.M (W1.setCells W.heap.size (i * d.sz) xcs).drew base (fun k => ok k ∧ k ≠ W.heap.size)) d.sz (xs.drop i) cs :=
  hrep.imp_ (fun _ _ hp => d.M_mono (fun k hk => ⟨hk.1.1, by have := hk.2.2.1; omega⟩) (d.M_move (w1 := (W1.setCells W.heap.size (i * d.sz) xcs).drew) (fun k hk => hGd.block k hk.2.2.1 (by simp)) (d.M_bound hp)))
 have hlt : (List.take i (xs.take i ++ List.replicate m z0) ++ [x]).length = i + 1 := by rw [List.length_append, List.length_take, List.length_singleton]; omega
 obtain ⟨h3, hg3⟩ := R_cp h2d (i + 1) cs (xs.drop i) hrep2 (by rw [List.length_drop]; omega)
 refine ⟨cs, hcl, fun j u hj => cell_grown hG (hcell j u hj) (by simp), hrep, ?_, grown_fresh hGd hg3 (Nat.le_refl _), cur, hc2, hs2⟩
 have hti : (xs.take i).length = i := by rw [List.length_take]; omega
 have e1 : List.take i (xs.take i ++ List.replicate m z0) = xs.take i := by rw [List.take_append_of_le_length (by omega), List.take_take, Nat.min_self]
 have e2 : List.take (i + 1) (List.take i (xs.take i ++ List.replicate m z0) ++ [x] ++ List.drop (i + [x].length) (xs.take i ++ List.replicate m z0)) = xs.take i ++ [x] := by
  rw [List.take_append_of_le_length (by omega), List.take_of_length_le (by omega), e1]
 have e3 : List.drop (i + 1 + (xs.drop i).length) (List.take i (xs.take i ++ List.replicate m z0) ++ [x] ++ List.drop (i + [x].length) (xs.take i ++ List.replicate m z0)) = [] := by
  refine List.drop_eq_nil_of_le ?_
  rw [List.length_append, hlt, List.length_drop, List.length_drop, List.length_singleton]
  omega
 rw [e2, e3, List.append_nil] at h3
 exact h3
end Go.Proofs.YtoghjpoblbdnpaaW.PrintWords.Kd
namespace Go.Proofs.YtoghjpoblbdnpaaW.Hw
open Go.RowKit Go.Proofs.YtoghjpoblbdnpaaW.PrintWords Go.Proofs.YtoghjpoblbdnpaaW.PrintLast Go.Proofs.YtoghjpoblbdnpaaW.PrintMore
/-- A literal of one row's cells: its block is told by name. -/
theorem lit_event {P : Program} {ops : Array Oper} {rest : List Oper} {o : Oper} {a : Act} {Q : Exit → Act → World → Prop} {W : World} (hgd : o.guard = none) {N : Tmp} (_hd : o.dst = some N) {cs : Array Value} {t : TypeId} {n : Nat}
  (hrun : (execOp a.eval o).run P W = .ok (.value (.slice (some ⟨W.heap.size, 0, none⟩) n n)) (W.alloc (.cells cs t (0, 0))))
  (h : ∀ g, g = W.heap.size → ∀ w1, w1.heap[g]? = some (.cells cs t (0, 0)) → Below W.heap.size W w1 → wpList P ops Q rest (a.put o.dst (.slice (some ⟨g, 0, none⟩) n n)) w1) : wpList P ops Q (o :: rest) a W :=
 Kd.event_run hgd hrun (h _ rfl _ (blk_new W _) (vo_ (Below.refl _ _) _))
end Go.Proofs.YtoghjpoblbdnpaaW.Hw
namespace Go.Proofs.YtoghjpoblbdnpaaW.PrintWords.Kd
open Go.RowKit
end Go.Proofs.YtoghjpoblbdnpaaW.PrintWords.Kd
namespace Go.Proofs.YtoghjpoblbdnpaaW.Hw
open Go.RowKit Go.Proofs.YtoghjpoblbdnpaaW.PrintWords Go.Proofs.YtoghjpoblbdnpaaW.PrintLast Go.Proofs.YtoghjpoblbdnpaaW.PrintMore
end Go.Proofs.YtoghjpoblbdnpaaW.Hw
namespace Go.Proofs.YtoghjpoblbdnpaaW.PrintWords
open Go.RowKit Go.Proofs.YtoghjpoblbdnpaaW.PrintLast Go.Proofs.YtoghjpoblbdnpaaW.PrintMore
/-- Bits of a number, the first ones first. -/
def bz_ (n v : Nat) : Array Bool := ((List.range n).map (fun i => Nat.testBit v i)).toArray
/-- What stands among the facts. -/
theorem dA_ {p : Prop} [Decidable p] (h : decide p = true := by first | (with_reducible assumption) | assumption) : p := of_decide_eq_true h
/-- A fact moved behind what makes memory and draws. -/
theorem vX_ {p q : Prop} (a : Zq_ p) (h : p → q := by intro h_; (with_reducible repeat (first | apply Kd.V_alloc | apply Kd.V_drewN | apply Kd.V_drew | apply Kd.vd_ | apply Kd.vc_ | apply Kd.R_drew | apply Kd.S_alloc | apply Kd.S_drewN | apply Kd.S_drew | apply Kd.qz_ | apply Kd.qy_ | apply Kd.N_drew | apply Kd.Q_alloc | apply Kd.Q_drewN | apply Kd.Q_drew | apply Kd.C_alloc | apply Kd.C_drewN | apply Kd.C_drew | apply Kd.F_alloc | apply Kd.F_drewN | apply Kd.F_drew)); exact h_) : q := h a.out
theorem vV_ {p q r B : Prop} (f : q → B → r) (a : Zq_ p) (hb : B) (h : p → q := by intro h_; (with_reducible repeat (first | apply Kd.V_alloc | apply Kd.V_drewN | apply Kd.V_drew | apply Kd.vd_ | apply Kd.vc_ | apply Kd.R_drew | apply Kd.S_alloc | apply Kd.S_drewN | apply Kd.S_drew | apply Kd.qz_ | apply Kd.qy_ | apply Kd.N_drew | apply Kd.Q_alloc | apply Kd.Q_drewN | apply Kd.Q_drew | apply Kd.C_alloc | apply Kd.C_drewN | apply Kd.C_drew | apply Kd.F_alloc | apply Kd.F_drewN | apply Kd.F_drew)); exact h_) : Zq_ r := ⟨f (h a.out) hb⟩
/-- All that lay there stays, behind what makes memory and draws. -/
theorem hB_ {p q : Prop} (a : Zq_ p) (h : p → q := by intro h_; repeat (first | (with_reducible first | exact h_ | apply vo_ | apply vk_ | apply qu_) | exact h_)) : q := h a.out
/-- A cell that came in, read later on. -/
theorem hC_ {w W : World} {a : Addr} {v : Value} (hb : Zq_ (Below w.heap.size w W)) (h : w.cell? a = some v) : W.cell? a = some v := (hb.out.cell (World.block_lt_of_cell? w _ h)).trans h
/-- A block moved behind what makes memory and draws. -/
theorem bK_ {p q : Prop} (a : Zq_ p) (h : p → q := by intro h_; (with_reducible repeat (first | refine qk_ ?_ _ | refine qh_ ?_ | refine ql_ ?_ _)); exact h_) : q := h a.out
theorem bP_ {w : World} {g : Nat} {t : TypeId} {cs cs' : Array Value} {u : Value} {q : Prop} (i : Nat) (h : w.heap[g]? = some (.cells cs t (0, 0))) (m : (w.setCell ⟨g, i, none⟩ u).heap[g]? = some (.cells cs' t (0, 0)) → q := by intro h_; (with_reducible repeat (first | refine qk_ ?_ _ | refine qh_ ?_ | refine ql_ ?_ _)); exact h_) (e : cs.setIfInBounds i u = cs' := by exact rfl) : q := m (blk_put h i u e)
theorem bF_ {w : World} {g g' : Nat} {t : TypeId} {cs : Array Value} {p : Addr} {u : Value} {q : Prop} (n : Zq_ (g ≠ g')) (h : w.heap[g]? = some (.cells cs t (0, 0))) (m : (w.setCell p u).heap[g]? = some (.cells cs t (0, 0)) → q := by intro h_; (with_reducible repeat (first | refine qk_ ?_ _ | refine qh_ ?_ | refine ql_ ?_ _)); exact h_) (e : g' = p.block := by exact rfl) : q := m (blk_far h (e ▸ n.out) u)
theorem cz_ {w : World} {g : Nat} {t : TypeId} {cs : Array Value} (h : Zq_ (w.heap[g]? = some (.cells cs t (0, 0)))) (i : Nat) (v : Value) (e : cs[i]? = some v := by exact rfl) : w.cell? ⟨g, i, none⟩ = some v := (qa_ h.out i).trans e
theorem gW_ {w W : World} {g : Nat} (hg : g = W.heap.size) (h : Below w.heap.size w W) : Zq_ (w.heap.size ≤ g) := ⟨by rw [hg]; exact qb_ h⟩
theorem cX_ {p q : Prop} (a : p) (h : p → q := by intro h_; repeat (first | exact h_ | (with_reducible refine Kd.C_alloc ?_ _) | (with_reducible refine Kd.C_drewN ?_ _) | (with_reducible refine Kd.C_drew ?_))) : q := h a
/-- hB_, behind stores into what is new, too. -/
theorem hSet_ {p q : Prop} (a : Zq_ p) (h : p → q := by intro h_; repeat (first | (with_reducible first | exact h_ | apply vo_ | apply vk_ | apply qu_ | refine qj_ ?_ (Zq_.out (by assumption))) | exact h_)) : q := h a.out
section
variable {P : Program} {md : Region.Mode} {ops : Array Oper} {Q : Exit → Act → World → Prop} {S : World → Prop} {ds : List Nat} {T : Bool × List (List Nat × List Nat)}
end
end Go.Proofs.YtoghjpoblbdnpaaW.PrintWords
namespace Go.Proofs.YtoghjpoblbdnpaaW.PrintWords
open Go.RowKit Go.Proofs.YtoghjpoblbdnpaaW.PrintLast Go.Proofs.YtoghjpoblbdnpaaW.PrintMore
/-- What is said, found by the common ways. -/
theorem aR_ {p : Prop} (h : p := by (try simp only [List.map_toArray, List.map_cons, List.map_nil]); first | done | rfl | (simp only [List.length_drop, List.length_take]; rfl)) : p := h
theorem hY_ {α : Type} {y e : α} {p q : Prop} (hy : y = e) (H : p) (h : y = e → p → q := by intro hy_ H; first | (rw [hy_]; with_reducible exact H) | (have H2_ := (Option.bind_some _ _).symm.trans H; rw [hy_]; with_reducible exact H2_) | (have H2_ := (Option.bind_some _ _).symm.trans H; with_reducible exact H2_) | with_reducible exact H | (rw [hy_]; exact H) | exact H) : q := h hy H
theorem kB_ {w W W1 : World} {g : Nat} {o : Obj} (a : Zq_ (w.heap[g]? = some o)) (hb : Below W.heap.size W W1) (h : w.heap[g]? = some o → W.heap[g]? = some o := by intro h_; (with_reducible repeat (first | refine qk_ ?_ _ | refine qh_ ?_ | refine ql_ ?_ _)); exact h_) : Zq_ (W1.heap[g]? = some o) := ⟨blk_below (h a.out) hb⟩
theorem nL_ {w W : World} {g g' : Nat} {o : Obj} (a : Zq_ (w.heap[g]? = some o)) (hg : g' = W.heap.size) (h : w.heap[g]? = some o → W.heap[g]? = some o := by intro h_; (with_reducible repeat (first | refine qk_ ?_ _ | refine qh_ ?_ | refine ql_ ?_ _)); exact h_) : Zq_ (g ≠ g') := ⟨by rw [hg]; exact Nat.ne_of_lt (blk_lt (h a.out))⟩
theorem nG_ {w W : World} {g g' : Nat} {o : Obj} (a : Zq_ (w.heap[g]? = some o)) (hg : g' = W.heap.size) (h : w.heap[g]? = some o → W.heap[g]? = some o := by intro h_; (with_reducible repeat (first | refine qk_ ?_ _ | refine qh_ ?_ | refine ql_ ?_ _)); exact h_) : Zq_ (g' ≠ g) := ⟨by rw [hg]; exact Nat.ne_of_gt (blk_lt (h a.out))⟩
theorem sB_ {w V W W1 : World} (a : Zq_ (Below w.heap.size w V)) (hb : Below W.heap.size W W1) (h : Below w.heap.size w V → Below w.heap.size w W := by intro h_; repeat (first | (with_reducible first | exact h_ | apply vo_ | apply vk_ | apply qu_ | refine qj_ ?_ (Zq_.out (by assumption))) | exact h_)) : Zq_ (Below w.heap.size w W1) := ⟨qe_ (h a.out) hb⟩
theorem eW_ {p : Prop} (h : p := by first | rfl | (simp [errW_none, errW_some] <;> rfl) | (simp [*, errW_none, errW_some] <;> rfl)) : p := h
theorem eS_ {p : Prop} (h : p := by first | rfl | (simp; done) | (simp [*]; done)) : p := h
theorem vM_ {p q : Prop} (a : p) (h : p → q := by intro h_; (with_reducible repeat (first | apply Kd.V_alloc | apply Kd.V_drewN | apply Kd.V_drew)); exact h_) : q := h a
theorem b0_ {w : World} {g : Nat} {t : TypeId} {c0 : Value} {l : List Value} (h : Zq_ (w.heap[g]? = some (.cells (List.toArray (c0 :: l)) t (0, 0)))) : w.cell? ⟨g, 0, none⟩ = some c0 := qa_ h.out 0
theorem b1_ {w : World} {g : Nat} {t : TypeId} {c0 c1 : Value} {l : List Value} (h : Zq_ (w.heap[g]? = some (.cells (List.toArray (c0 :: c1 :: l)) t (0, 0)))) : w.cell? ⟨g, 1, none⟩ = some c1 := qa_ h.out 1
theorem b2_ {w : World} {g : Nat} {t : TypeId} {c0 c1 c2 : Value} {l : List Value} (h : Zq_ (w.heap[g]? = some (.cells (List.toArray (c0 :: c1 :: c2 :: l)) t (0, 0)))) : w.cell? ⟨g, 2, none⟩ = some c2 := qa_ h.out 2
theorem b3_ {w : World} {g : Nat} {t : TypeId} {c0 c1 c2 c3 : Value} {l : List Value} (h : Zq_ (w.heap[g]? = some (.cells (List.toArray (c0 :: c1 :: c2 :: c3 :: l)) t (0, 0)))) : w.cell? ⟨g, 3, none⟩ = some c3 := qa_ h.out 3
theorem b4_ {w : World} {g : Nat} {t : TypeId} {c0 c1 c2 c3 c4 : Value} {l : List Value} (h : Zq_ (w.heap[g]? = some (.cells (List.toArray (c0 :: c1 :: c2 :: c3 :: c4 :: l)) t (0, 0)))) : w.cell? ⟨g, 4, none⟩ = some c4 := qa_ h.out 4
theorem b5_ {w : World} {g : Nat} {t : TypeId} {c0 c1 c2 c3 c4 c5 : Value} {l : List Value} (h : Zq_ (w.heap[g]? = some (.cells (List.toArray (c0 :: c1 :: c2 :: c3 :: c4 :: c5 :: l)) t (0, 0)))) : w.cell? ⟨g, 5, none⟩ = some c5 := qa_ h.out 5
theorem b6_ {w : World} {g : Nat} {t : TypeId} {c0 c1 c2 c3 c4 c5 c6 : Value} {l : List Value} (h : Zq_ (w.heap[g]? = some (.cells (List.toArray (c0 :: c1 :: c2 :: c3 :: c4 :: c5 :: c6 :: l)) t (0, 0)))) : w.cell? ⟨g, 6, none⟩ = some c6 := qa_ h.out 6
theorem c2_ {w : World} {g : Nat} {t : TypeId} {c0 c1 : Value} {l : List Value} (h : Zq_ (w.heap[g]? = some (.cells (List.toArray (c0 :: c1 :: l)) t (0, 0)))) : w.cell? ⟨g, 0, none⟩ = some c0 ∧ w.cell? ⟨g, 1, none⟩ = some c1 := ⟨qa_ h.out 0, qa_ h.out 1⟩
theorem f2_ {w : World} {g : Nat} {t : TypeId} {cs : Array Value} (h : Zq_ (w.heap[g]? = some (.cells cs t (0, 0)))) : w.frozen? ⟨g, 0, none⟩ = false ∧ w.frozen? ⟨g, 1, none⟩ = false := ⟨qf_ h.out 0, qf_ h.out 1⟩
theorem c3_ {w : World} {g : Nat} {t : TypeId} {c0 c1 c2 : Value} {l : List Value} (h : Zq_ (w.heap[g]? = some (.cells (List.toArray (c0 :: c1 :: c2 :: l)) t (0, 0)))) : w.cell? ⟨g, 0, none⟩ = some c0 ∧ w.cell? ⟨g, 1, none⟩ = some c1 ∧ w.cell? ⟨g, 2, none⟩ = some c2 := ⟨qa_ h.out 0, qa_ h.out 1, qa_ h.out 2⟩
theorem f3_ {w : World} {g : Nat} {t : TypeId} {cs : Array Value} (h : Zq_ (w.heap[g]? = some (.cells cs t (0, 0)))) : w.frozen? ⟨g, 0, none⟩ = false ∧ w.frozen? ⟨g, 1, none⟩ = false ∧ w.frozen? ⟨g, 2, none⟩ = false := ⟨qf_ h.out 0, qf_ h.out 1, qf_ h.out 2⟩
theorem c4_ {w : World} {g : Nat} {t : TypeId} {c0 c1 c2 c3 : Value} {l : List Value} (h : Zq_ (w.heap[g]? = some (.cells (List.toArray (c0 :: c1 :: c2 :: c3 :: l)) t (0, 0)))) : w.cell? ⟨g, 0, none⟩ = some c0 ∧ w.cell? ⟨g, 1, none⟩ = some c1 ∧ w.cell? ⟨g, 2, none⟩ = some c2 ∧ w.cell? ⟨g, 3, none⟩ = some c3 := ⟨qa_ h.out 0, qa_ h.out 1, qa_ h.out 2, qa_ h.out 3⟩
theorem f4_ {w : World} {g : Nat} {t : TypeId} {cs : Array Value} (h : Zq_ (w.heap[g]? = some (.cells cs t (0, 0)))) : w.frozen? ⟨g, 0, none⟩ = false ∧ w.frozen? ⟨g, 1, none⟩ = false ∧ w.frozen? ⟨g, 2, none⟩ = false ∧ w.frozen? ⟨g, 3, none⟩ = false := ⟨qf_ h.out 0, qf_ h.out 1, qf_ h.out 2, qf_ h.out 3⟩
theorem c5_ {w : World} {g : Nat} {t : TypeId} {c0 c1 c2 c3 c4 : Value} {l : List Value} (h : Zq_ (w.heap[g]? = some (.cells (List.toArray (c0 :: c1 :: c2 :: c3 :: c4 :: l)) t (0, 0)))) : w.cell? ⟨g, 0, none⟩ = some c0 ∧ w.cell? ⟨g, 1, none⟩ = some c1 ∧ w.cell? ⟨g, 2, none⟩ = some c2 ∧ w.cell? ⟨g, 3, none⟩ = some c3 ∧ w.cell? ⟨g, 4, none⟩ = some c4 := ⟨qa_ h.out 0, qa_ h.out 1, qa_ h.out 2, qa_ h.out 3, qa_ h.out 4⟩
theorem f5_ {w : World} {g : Nat} {t : TypeId} {cs : Array Value} (h : Zq_ (w.heap[g]? = some (.cells cs t (0, 0)))) : w.frozen? ⟨g, 0, none⟩ = false ∧ w.frozen? ⟨g, 1, none⟩ = false ∧ w.frozen? ⟨g, 2, none⟩ = false ∧ w.frozen? ⟨g, 3, none⟩ = false ∧ w.frozen? ⟨g, 4, none⟩ = false := ⟨qf_ h.out 0, qf_ h.out 1, qf_ h.out 2, qf_ h.out 3, qf_ h.out 4⟩
theorem c7_ {w : World} {g : Nat} {t : TypeId} {c0 c1 c2 c3 c4 c5 c6 : Value} {l : List Value} (h : Zq_ (w.heap[g]? = some (.cells (List.toArray (c0 :: c1 :: c2 :: c3 :: c4 :: c5 :: c6 :: l)) t (0, 0)))) : w.cell? ⟨g, 0, none⟩ = some c0 ∧ w.cell? ⟨g, 1, none⟩ = some c1 ∧ w.cell? ⟨g, 2, none⟩ = some c2 ∧ w.cell? ⟨g, 3, none⟩ = some c3 ∧ w.cell? ⟨g, 4, none⟩ = some c4 ∧ w.cell? ⟨g, 5, none⟩ = some c5 ∧ w.cell? ⟨g, 6, none⟩ = some c6 := ⟨qa_ h.out 0, qa_ h.out 1, qa_ h.out 2, qa_ h.out 3, qa_ h.out 4, qa_ h.out 5, qa_ h.out 6⟩
theorem f7_ {w : World} {g : Nat} {t : TypeId} {cs : Array Value} (h : Zq_ (w.heap[g]? = some (.cells cs t (0, 0)))) : w.frozen? ⟨g, 0, none⟩ = false ∧ w.frozen? ⟨g, 1, none⟩ = false ∧ w.frozen? ⟨g, 2, none⟩ = false ∧ w.frozen? ⟨g, 3, none⟩ = false ∧ w.frozen? ⟨g, 4, none⟩ = false ∧ w.frozen? ⟨g, 5, none⟩ = false ∧ w.frozen? ⟨g, 6, none⟩ = false := ⟨qf_ h.out 0, qf_ h.out 1, qf_ h.out 2, qf_ h.out 3, qf_ h.out 4, qf_ h.out 5, qf_ h.out 6⟩
theorem bW2_ {w : World} {g : Nat} {t : TypeId} {u0 u1 c0 c1 : Value} (h : w.heap[g]? = some (.cells #[c0, c1] t (0, 0))) : ((w.setCell ⟨g, 0, none⟩ u0).setCell ⟨g, 1, none⟩ u1).heap[g]? = some (.cells #[u0, u1] t (0, 0)) := (blk_put (blk_put h 0 u0 rfl) 1 u1 rfl)
theorem bW3_ {w : World} {g : Nat} {t : TypeId} {u0 u1 u2 c0 c1 c2 : Value} (h : w.heap[g]? = some (.cells #[c0, c1, c2] t (0, 0))) : (((w.setCell ⟨g, 0, none⟩ u0).setCell ⟨g, 1, none⟩ u1).setCell ⟨g, 2, none⟩ u2).heap[g]? = some (.cells #[u0, u1, u2] t (0, 0)) := (blk_put (blk_put (blk_put h 0 u0 rfl) 1 u1 rfl) 2 u2 rfl)
section
variable {P : Program} {ops : Array Oper} {rest : List Oper} {o : Oper} {a : Act} {Q : Exit → Act → World → Prop} {Kc : Act → World → Prop}
theorem bE_ {W : World} (N : Tmp) (cs : Array Value) (t : TypeId)
  (h : ∀ g, g = W.heap.size → ∀ w1, w1.heap[g]? = some (.cells cs t (0, 0)) → Below W.heap.size W w1 → wpList P ops Q rest (a.put o.dst (.pointer (some ⟨g, 0, none⟩))) w1) (hd : o.dst = some N := by rfl) (hg : o.guard = none := by rfl)
  (hr : (execOp a.eval o).run P W = .ok (.value (.pointer (some ⟨W.heap.size, 0, none⟩))) (W.alloc (.cells cs t (0, 0))) := by first | (go_simp; done) | (go_simp; rfl)) : wpList P ops Q (o :: rest) a W := box_event hg hd hr h
theorem bS_ {W : World} (N : Tmp) (cs : Array Value) (t : TypeId)
  (h : ∀ g, g = W.heap.size → ∀ w1, w1.heap[g]? = some (.cells cs t (0, 0)) → Below W.heap.size W w1 → Kc (a.put o.dst (.pointer (some ⟨g, 0, none⟩))) w1) (hd : o.dst = some N := by rfl) (hg : Region.wanted o (yielded ops a.tmps) = true := by rfl)
  (hr : (execOp a.eval o).run P W = .ok (.value (.pointer (some ⟨W.heap.size, 0, none⟩))) (W.alloc (.cells cs t (0, 0))) := by first | (go_simp; done) | (go_simp; rfl)) : if Region.wanted o (yielded ops a.tmps) = true then Oper.wp P o a W Kc Q else Kc (a.put o.dst undef) W := box_step hg hd hr h
end
theorem bz_zero (n : Nat) : Array.replicate n false = bz_ n 0 := by
  unfold bz_
  simp [Nat.zero_testBit, List.map_const']
/-- Of n bits the first i. -/
def up_ (n i : Nat) : Array Bool := bz_ n (2 ^ i - 1)
theorem up0_ {P : Program} {md : Region.Mode} {ops : Array Oper} {Q : Exit → Act → World → Prop} {S : World → Prop} {ds : List Nat} {n b fuel : Nat} {a : Act} {w : World} (i : Nat) (h : qp_ P md ops Q S ds fuel (up_ n i) a w) (e : Nat.beq b (2 ^ i - 1) = true := by kernel_rfl) : qp_ P md ops Q S ds fuel (bz_ n b) a w := by
  rw [Nat.eq_of_beq_eq_true e]; exact h
/-- What is held all along, told by the facts. -/
def Hd_ (S : World → Prop) (w : World) : Prop := S w
theorem hZ_ {w : World} {x : Addr} {v : Value} (h : w.cell? x = some v) : Hd_ (fun w' => w'.cell? x = some v) w := h
theorem hA_ {w : World} {x : Addr} {v : Value} {S : World → Prop} (h : w.cell? x = some v) (r : Hd_ S w) : Hd_ (fun w' => w'.cell? x = some v ∧ S w') w := ⟨h, r⟩
section
variable {P : Program} {md : Region.Mode} {ops : Array Oper} {Q : Exit → Act → World → Prop} {S : World → Prop} {T : Bool × List (List Nat × List Nat)}
theorem gD_ {id : Nat} (n : Nat) (ds : List Nat) {a : Act} {w : World} (hS : Hd_ S w.drew) (h : S w.drew → qp_ P .any ops Q S ds n (bz_ n 0) a w.drew) (hm : P.follows .mixedOrders = true := by kernel_rfl) (hn : ops.size = n := by rfl) : (Code.region id ops true).wp P Q a w := start_ (bz_ n 0) hm hn (bz_zero n) hS h
theorem gS_ {id : Nat} (n : Nat) {a : Act} {w : World} (hS : Hd_ S w.drew) (h : S w.drew → qp_ P .any ops Q S [] n (bz_ n 0) a w.drew) (hm : P.follows .mixedOrders = true := by kernel_rfl) (hn : ops.size = n := by rfl) : (Code.region id ops true).wp P Q a w := start_ (bz_ n 0) hm hn (bz_zero n) hS h
theorem gT_ {id : Nat} (n : Nat) {a : Act} {w : World} (h : True → qp_ P .any ops Q (fun _ => True) [] n (bz_ n 0) a w.drew) (hm : P.follows .mixedOrders = true := by kernel_rfl) (hn : ops.size = n := by rfl) : (Code.region id ops true).wp P Q a w := start_ (S := fun _ => True) (bz_ n 0) hm hn (bz_zero n) trivial h
variable {ds : List Nat}
theorem pQ_ (i : Nat) {N n b : Nat} {oi : Oper} {v : Value} {fuel : Nat} {a : Act} {w : World} (hT : Zq_ (rtab md ops = T)) {a' : Act} (h : qp_ P md ops Q S ds fuel (bz_ n (b + 2 ^ i)) a' w) (hi : ops[i]? = some oi := by rfl) (hN : oi.dst = some N := by rfl)
  (hy : Yields P ops oi v a := by exact Or.inl ⟨by rfl, by intro w'; go_simp; with_reducible rfl⟩) (ha : a.put (some N) v = a' := by simp only [Act.put, sa_, sb_, sc_, i64_w, i32_w]; rfl)
  (hc : anyT T (bz_ n b).toList (bz_ n (b + 2 ^ i)).toList i = true := by kernel_rfl) (hQ : ∀ c a w, Q (.panic c) (a.put oi.dst v) w → Q (.panic c) a w := by exact fun _ _ _ h => h) : qp_ P md ops Q S ds (fuel + 1) (bz_ n b) a w := pure_ (bz_ n (b + 2 ^ i)) hi hN (any_of hT.out hc) hQ hy ha h
theorem pV_ (i : Nat) {N n b : Nat} {oi : Oper} {fuel : Nat} {a : Act} {w : World} (hT : Zq_ (rtab md ops = T)) {a' : Act} (h : qp_ P md ops Q S ds fuel (bz_ n (b + 2 ^ i)) a' w) (hi : ops[i]? = some oi := by rfl) (hN : oi.dst = some N := by rfl)
  (hy : Yields P ops oi undef a := by exact Or.inr ⟨by rfl, rfl⟩) (ha : a.put (some N) undef = a' := by simp only [Act.put, sa_, sb_, sc_, i64_w, i32_w]; rfl)
  (hc : anyT T (bz_ n b).toList (bz_ n (b + 2 ^ i)).toList i = true := by kernel_rfl) (hQ : ∀ c a w, Q (.panic c) (a.put oi.dst undef) w → Q (.panic c) a w := by exact fun _ _ _ h => h) : qp_ P md ops Q S ds (fuel + 1) (bz_ n b) a w := pure_ (bz_ n (b + 2 ^ i)) hi hN (any_of hT.out hc) hQ hy ha h
theorem tL_ (i : Nat) {N n b : Nat} {oi : Oper} {v : Value} {fuel : Nat} {a : Act} {w : World} {B : List Nat} (hT : Zq_ (rtab md ops = T)) (hW : Zq_ (waitsOk T.2 B = true)) (hS : S w) {a' : Act} (h : qp_ P md ops Q S ds fuel (bz_ n (b + 2 ^ i)) a' w) (hi : ops[i]? = some oi := by rfl) (hN : oi.dst = some N := by rfl)
  (hw : Region.wanted oi (yielded ops a.tmps) = true := by rfl) (hy : ∀ w', S w' → (execOp a.eval oi).run P w' = .ok (.value v) w' := by intro w' hs; repeat (have s_ := hs.1; replace hs := hs.2); go_simp; with_reducible rfl) (ha : a.put (some N) v = a' := by simp only [Act.put, sa_, sb_, sc_, i64_w, i32_w]; rfl)
  (hc : takeW T B ds (bz_ n b).toList (bz_ n (b + 2 ^ i)).toList i = true := by kernel_rfl) (hQ : ∀ c a w, Q (.panic c) (a.put oi.dst v) w → Q (.panic c) a w := by exact fun _ _ _ h => h) : qp_ P md ops Q S ds (fuel + 1) (bz_ n b) a w := take_ (bz_ n (b + 2 ^ i)) hi hN (take_ofW hT.out hW.out hc) hQ (Or.inl ⟨hw, hy⟩) hS ha h
theorem pN_ {i N n : Nat} {oi : Oper} {v : Value} {fuel : Nat} {a : Act} {w : World} {a' : Act} (h : qp_ P md ops Q S ds fuel (up_ n (i + 1)) a' w) (hT : Zq_ (rtab md ops = T) := by assumption) (hi : ops[i]? = some oi := by rfl) (hN : oi.dst = some N := by rfl)
  (hy : Yields P ops oi v a := by exact Or.inl ⟨by rfl, by intro w'; go_simp; with_reducible rfl⟩) (ha : a.put (some N) v = a' := by simp only [Act.put, sa_, sb_, sc_, i64_w, i32_w]; rfl)
  (hc : anyT T (up_ n i).toList (up_ n (i + 1)).toList i = true := by kernel_rfl) (hQ : ∀ c a w, Q (.panic c) (a.put oi.dst v) w → Q (.panic c) a w := by exact fun _ _ _ h => h) : qp_ P md ops Q S ds (fuel + 1) (up_ n i) a w := pure_ (up_ n (i + 1)) hi hN (any_of hT.out hc) hQ hy ha h
theorem vN_ {i N n : Nat} {oi : Oper} {fuel : Nat} {a : Act} {w : World} {a' : Act} (h : qp_ P md ops Q S ds fuel (up_ n (i + 1)) a' w) (hT : Zq_ (rtab md ops = T) := by assumption) (hi : ops[i]? = some oi := by rfl) (hN : oi.dst = some N := by rfl)
  (hy : Yields P ops oi undef a := by exact Or.inr ⟨by rfl, rfl⟩) (ha : a.put (some N) undef = a' := by simp only [Act.put, sa_, sb_, sc_, i64_w, i32_w]; rfl)
  (hc : anyT T (up_ n i).toList (up_ n (i + 1)).toList i = true := by kernel_rfl) (hQ : ∀ c a w, Q (.panic c) (a.put oi.dst undef) w → Q (.panic c) a w := by exact fun _ _ _ h => h) : qp_ P md ops Q S ds (fuel + 1) (up_ n i) a w := pure_ (up_ n (i + 1)) hi hN (any_of hT.out hc) hQ hy ha h
theorem tN_ {i N n : Nat} {oi : Oper} {v : Value} {fuel : Nat} {a : Act} {w : World} {B : List Nat} {a' : Act} (h : qp_ P md ops Q S ds fuel (up_ n (i + 1)) a' w) (hT : Zq_ (rtab md ops = T) := by assumption) (hW : Zq_ (waitsOk T.2 B = true) := by assumption) (hS : S w := by assumption) (hi : ops[i]? = some oi := by rfl) (hN : oi.dst = some N := by rfl)
  (hw : Region.wanted oi (yielded ops a.tmps) = true := by rfl) (hy : ∀ w', S w' → (execOp a.eval oi).run P w' = .ok (.value v) w' := by intro w' hs; repeat (have s_ := hs.1; replace hs := hs.2); go_simp; with_reducible rfl) (ha : a.put (some N) v = a' := by simp only [Act.put, sa_, sb_, sc_, i64_w, i32_w]; rfl)
  (hc : takeW T B ds (up_ n i).toList (up_ n (i + 1)).toList i = true := by kernel_rfl) (hQ : ∀ c a w, Q (.panic c) (a.put oi.dst v) w → Q (.panic c) a w := by exact fun _ _ _ h => h) : qp_ P md ops Q S ds (fuel + 1) (up_ n i) a w := take_ (up_ n (i + 1)) hi hN (take_ofW hT.out hW.out hc) hQ (Or.inl ⟨hw, hy⟩) hS ha h
theorem oN_ (i N n b : Nat) {oi : Oper} {fuel : Nat} {l : Array Bool} {a : Act} {w : World} (hT : Zq_ (rtab md ops = T))
  (h : ∀ K : Act → World → Prop, Shut (∀ a' w', S w' → (S w' → qp_ P md ops Q S ds fuel (bz_ n b) a' w') → K a' w') → if Region.wanted oi (yielded ops a.tmps) = true then Oper.wp P oi a w K Q else K (a.put (some N) undef) w) (hi : ops[i]? = some oi := by rfl) (hN : oi.dst = some N := by rfl)
  (hc : (readyT T.2 l.toList == [i] && l.toList.set i true == (bz_ n b).toList) = true := by kernel_rfl) (hd : i ∉ ds := by decide) : qp_ P md ops Q S ds (fuel + 1) l a w := one_ (bz_ n b) hi hN (one_of hT.out hc) hd h
theorem dN_ {l : Array Bool} {a : Act} {w : World} {n : Nat} (hT : Zq_ (rtab md ops = T)) (h : Q .normal a w) (hr : (readyT T.2 l.toList == []) = true := by kernel_rfl) : qp_ P md ops Q S ds n l a w := done_ (done_of hT.out hr) h
end
end Go.Proofs.YtoghjpoblbdnpaaW.PrintWords

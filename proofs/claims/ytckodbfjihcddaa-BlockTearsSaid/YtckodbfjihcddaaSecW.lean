/- Words of whole arrays that are read and written at once in a walk. No program runs here. No condition. -/
import Derived.Test.YtckodbfjihcddaaSec0
import Derived.Test.YtckodbfjihcddaaHw
import Derived.Deep.MidRow
import Derived.Laws.Tables
import Derived.Laws.CopyOwn
import Derived.ChangeKeysEq
namespace Go.Proofs.YtckodbfjihcddaaW.Hw
set_option linter.unusedVariables false
set_option linter.unusedSimpArgs false
open Go.RowKit Go.Proofs.YtckodbfjihcddaaW.PrintWords Go.Proofs.YtckodbfjihcddaaW.PrintLast Go.Proofs.YtckodbfjihcddaaW.PrintMore
/-- An array's cells as a value. -/
def aggN (k : IntKind) (x : List Int) : Value := .agg (x.map (Value.int k)).toArray
/-- A whole array stored into a box. -/
theorem store_whole {P : Program} {ops : Array Oper} {rest : List Oper} {o : Oper} {a : Act} {Q : Exit → Act → World → Prop} {W : World} (hgd : o.guard = none) (hN : o.dst = none) (t : TypeId) (p x : Operand) (ho : o.op = .store t p x) {g : Nat} {c c' : Array Value}
  (hp : a.eval p = .pointer (some ⟨g, 0, none⟩)) (hx : a.eval x = .agg c') (hb : W.heap[g]? = some (.cells c t (0, 0))) (hi : (P.info? t).map (·.size) = some c'.size) (hs : c.size = c'.size) (h1 : c'.all (·.oneCell') = true)
  (h : ∀ W1, W1 = W.setRow g c' → wpList P ops Q rest a W1) : wpList P ops Q (o :: rest) a W := by
 refine wpList_plain hgd fun K hK => ?_
 unfold Oper.wp execOp
 simp only [ho, hp, hx, Instr.storeAt, Instr.sureAddr, Sem.run_bind, Sem.run_pure, Result.andThen_ok, run_storeVar_row W g t t c c' hb hi hs h1]
 have h2 := hK a (W.setRow g c') (h _ rfl)
 show K (a.put o.dst undef) _
 rw [hN]
 exact h2
/-- A whole array read from a box. -/
theorem load_whole {P : Program} {ops : Array Oper} {rest : List Oper} {o : Oper} {a : Act} {Q : Exit → Act → World → Prop} {W : World} (hgd : o.guard = none) {N : Tmp} (_hN : o.dst = some N) (t : TypeId) (p : Operand) (ho : o.op = .load t p) {g : Nat} {c : Array Value} {n : Nat} {e : TypeId}
  (hp : a.eval p = .pointer (some ⟨g, 0, none⟩)) (hb : W.heap[g]? = some (.cells c t (0, 0))) (hu : P.underlying t = some (.array n e)) (hi : (P.info? t).map (·.size) = some c.size)
  (h : wpList P ops Q rest (a.put o.dst (.agg c)) W) : wpList P ops Q (o :: rest) a W := by
 refine Kd.event_run hgd ?_ h
 unfold execOp
 simp only [ho, hp, Instr.loadAt, Instr.sureAddr, Sem.run_bind, Sem.run_pure, Result.andThen_ok, run_loadVar_row W g t t c (0, 0) _ hb hu rfl hi]
/-- An element of a row of arrays, read whole. -/
theorem run_load_elem {P : Program} {W : World} {t : TypeId} {ad : Addr} {cs : List Value} {n : Nat} {e : TypeId} (hc : ∀ j v, cs[j]? = some v → W.cell? (ad.add j) = some v) (hu : P.underlying t = some (.array n e)) (hi : (P.info? t).map (·.size) = some cs.length) :
  (loadVar t ad).run P W = .ok (.agg cs.toArray) W := by
 have hl : (loadCells ad cs.length).run P W = .ok cs.toArray W := run_loadCells_list (P := P) W ad cs hc
 cases hq : P.info? t with
 | none => simp [hq] at hi
 | some i =>
  have hs : i.size = cs.length := by simpa [hq] using hi
  have hagg : (isAgg t).run P W = .ok true W := by
   unfold isAgg
   rw [Sem.run_bind, run_underlying hu W]
   simp
  simp [loadVar, Sem.run_bind, hagg, sizeOf, typeInfo, hq, hs, hl]
theorem load_elem {P : Program} {ops : Array Oper} {rest : List Oper} {o : Oper} {a : Act} {Q : Exit → Act → World → Prop} {W : World} (hgd : o.guard = none) {N : Tmp} (_hN : o.dst = some N) (t : TypeId) (p : Operand) (ho : o.op = .load t p) {ad : Addr} {cs : List Value} {n : Nat} {e : TypeId}
  (hp : a.eval p = .pointer (some ad)) (hc : ∀ j v, cs[j]? = some v → W.cell? (ad.add j) = some v) (hu : P.underlying t = some (.array n e)) (hi : (P.info? t).map (·.size) = some cs.length)
  (h : wpList P ops Q rest (a.put o.dst (.agg cs.toArray)) W) : wpList P ops Q (o :: rest) a W := by
 refine Kd.event_run hgd ?_ h
 unfold execOp
 simp only [ho, hp, Instr.loadAt, Instr.sureAddr, Sem.run_bind, Sem.run_pure, Result.andThen_ok, run_load_elem hc hu hi]
/-- Element i of a row of arrays: its cells, from its address on. -/
theorem elem_cells {k : IntKind} {m : Nat} {W : World} {A : Option Addr} {n : Nat} {xs : List (List Int)} (h : Kd.C (Kd.nar k m) W A n xs) (z : List Int) (i : Int) (h0 : 0 ≤ i) (h1 : i < n) :
  ∃ ad, A = some ad ∧ (xs.getD i.toNat z).length = m ∧ ∀ j v, ((xs.getD i.toNat z).map (Value.int k))[j]? = some v → W.cell? ((ad.add (i.toNat * m)).add j) = some v := by
 obtain ⟨ad, c, e, _, ⟨hl, hc⟩, hcc⟩ := Kd.C_get h z i h0 h1
 exact ⟨ad, e, hl, fun j v hj => by rw [add_add]; exact hcc j v (by rw [hc]; exact hj)⟩
theorem one_cells (k : IntKind) (x : List Int) : (x.map (Value.int k)).toArray.all (·.oneCell') = true := by
 rw [Array.all_eq_true_iff_forall_mem]
 intro v hv
 obtain ⟨a, _, rfl⟩ := List.mem_map.1 (by simpa using hv)
 rfl
theorem run_eqItems_ints {P : Program} (w : World) (d : Nat) {e : TypeId} {k : IntKind} (he : P.plainKey e = true) (hu : P.underlying e = some (.int k)) (hc : P.cellsOf e = 1) (x y : List Int) (hl : x.length = y.length) : ∀ (is : List Nat), (∀ i ∈ is, i < x.length) →
  (Op.eqItems (d + 1) e (P.cellsOf e) (x.map (Value.int k)).toArray (y.map (Value.int k)).toArray is).run P w = .ok (is.all (fun i => x.getD i 0 == y.getD i 0)) w
 | [], _ => by simp [Op.eqItems]
 | i :: is, h => by
  have hi := h i (by simp)
  have hx : (x.map (Value.int k)).toArray[i * P.cellsOf e]? = some (.int k (x.getD i 0)) := by rw [hc, Nat.mul_one]; simp [List.getD_eq_getElem?_getD, List.getElem?_eq_getElem hi]
  have hy : (y.map (Value.int k)).toArray[i * P.cellsOf e]? = some (.int k (y.getD i 0)) := by rw [hc, Nat.mul_one]; simp [List.getD_eq_getElem?_getD, List.getElem?_eq_getElem (show i < y.length by omega)]
  have hr := run_equalIn_int (P := P) w d e k k (x.getD i 0) (y.getD i 0) hu
  have ih := run_eqItems_ints w d he hu hc x y hl is (fun j hj => h j (by simp [hj]))
  simp only [Op.eqItems, Sem.run_bind, run_part_plain w he hx, run_part_plain w he hy, hr, Result.andThen_ok]
  cases hb : (x.getD i 0 == y.getD i 0) with
  | false => simp only [Bool.not_false, ↓reduceIte, List.all_cons, hb, Bool.false_and, Sem.run_pure]
  | true => simp only [Bool.not_true, Bool.false_eq_true, ↓reduceIte, List.all_cons, hb, Bool.true_and]; exact ih
theorem run_equalIn_ints {P : Program} (w : World) (d : Nat) {t e : TypeId} {k : IntKind} {n : Nat} {i : TypeInfo} (ht : P.underlying t = some (.array n e)) (he : P.plainKey e = true) (hu : P.underlying e = some (.int k)) (hc : P.cellsOf e = 1) (hi : P.info? e = some i) (x y : List Int) (hx : x.length = n) (hy : y.length = n) :
  (Op.equalIn (d + 2) t (aggN k x) (aggN k y)).run P w = .ok (decide (x = y)) w := by
 unfold aggN
 rw [run_equalIn_array w (d + 1) _ _ ht hi, run_eqItems_ints w d he hu hc x y (by omega) (List.range n) (fun j hj => by rw [hx]; exact List.mem_range.1 hj)]
 congr 1
 rw [Bool.eq_iff_iff, List.all_eq_true, decide_eq_true_eq]
 constructor
 ·intro h
  refine List.ext_getElem (by omega) (fun j h1 h2 => ?_)
  have := h j (List.mem_range.2 (by omega))
  simpa [List.getD_eq_getElem?_getD, List.getElem?_eq_getElem h1, List.getElem?_eq_getElem h2] using this
 ·rintro rfl j _
  simp
theorem run_neq_ints {P : Program} (w : World) {t e : TypeId} {k : IntKind} {n : Nat} {i : TypeInfo} (ht : P.underlying t = some (.array n e)) (he : P.plainKey e = true) (hu : P.underlying e = some (.int k)) (hc : P.cellsOf e = 1) (hi : P.info? e = some i) (x y : List Int) (hx : x.length = n) (hy : y.length = n) :
  (binOp .neq t (aggN k x) (aggN k y)).run P w = .ok (.bool (!decide (x = y))) w := by
 have h := run_equalIn_ints w 9998 ht he hu hc hi x y hx hy
 unfold aggN at h ⊢
 rw [run_neq_struct, h]
 rfl
theorem run_eql_ints {P : Program} (w : World) {t e : TypeId} {k : IntKind} {n : Nat} {i : TypeInfo} (ht : P.underlying t = some (.array n e)) (he : P.plainKey e = true) (hu : P.underlying e = some (.int k)) (hc : P.cellsOf e = 1) (hi : P.info? e = some i) (x y : List Int) (hx : x.length = n) (hy : y.length = n) :
  (binOp .eql t (aggN k x) (aggN k y)).run P w = .ok (.bool (decide (x = y))) w := by
 have h := run_equalIn_ints w 9998 ht he hu hc hi x y hx hy
 unfold aggN at h ⊢
 rw [run_eql_struct, h]
 rfl
theorem exec_neq_ints {P : Program} (w : World) {ev : Operand → Value} {o : Oper} {t e tr : TypeId} {p q : Operand} {k : IntKind} {n : Nat} {i : TypeInfo} (ho : o.op = .binOp .neq t p q tr) (ht : P.underlying t = some (.array n e)) (he : P.plainKey e = true) (hu : P.underlying e = some (.int k)) (hc : P.cellsOf e = 1) (hi : P.info? e = some i) (hm : P.eqGuardType P.depth t = false) (x y : List Int) (hx : x.length = n) (hy : y.length = n)
  (hp : ev p = aggN k x) (hq : ev q = aggN k y) : (execOp ev o).run P w = .ok (.value (.bool (!decide (x = y)))) w := by
 have h := run_neq_ints w ht he hu hc hi x y hx hy
 have hg := run_eqGuard_agg (P := P) w .neq t p q (x.map (Value.int k)).toArray (y.map (Value.int k)).toArray hm
 unfold execOp
 unfold aggN at h hp hq
 simp [ho, hp, hq, h, hg]
theorem exec_eql_ints {P : Program} (w : World) {ev : Operand → Value} {o : Oper} {t e tr : TypeId} {p q : Operand} {k : IntKind} {n : Nat} {i : TypeInfo} (ho : o.op = .binOp .eql t p q tr) (ht : P.underlying t = some (.array n e)) (he : P.plainKey e = true) (hu : P.underlying e = some (.int k)) (hc : P.cellsOf e = 1) (hi : P.info? e = some i) (hm : P.eqGuardType P.depth t = false) (x y : List Int) (hx : x.length = n) (hy : y.length = n)
  (hp : ev p = aggN k x) (hq : ev q = aggN k y) : (execOp ev o).run P w = .ok (.value (.bool (decide (x = y)))) w := by
 have h := run_eql_ints w ht he hu hc hi x y hx hy
 have hg := run_eqGuard_agg (P := P) w .eql t p q (x.map (Value.int k)).toArray (y.map (Value.int k)).toArray hm
 unfold execOp
 unfold aggN at h hp hq
 simp [ho, hp, hq, h, hg]
theorem exec_load_elem {P : Program} {W : World} {ev : Operand → Value} {o : Oper} {t : TypeId} {p : Operand} (ho : o.op = .load t p) {ad : Addr} {k : IntKind} {x : List Int} {n : Nat} {e : TypeId} (hp : ev p = .pointer (some ad)) (hc : ∀ j v, (x.map (Value.int k))[j]? = some v → W.cell? (ad.add j) = some v) (hu : P.underlying t = some (.array n e)) (hi : (P.info? t).map (·.size) = some x.length) :
  (execOp ev o).run P W = .ok (.value (aggN k x)) W := by
 have hl := run_load_elem hc hu (by rw [List.length_map]; exact hi)
 unfold execOp aggN
 simp only [ho, hp, Instr.loadAt, Instr.sureAddr, Sem.run_bind, Sem.run_pure, Result.andThen_ok, hl]
end Go.Proofs.YtckodbfjihcddaaW.Hw

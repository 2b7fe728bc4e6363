/- Four sectors in one block, written by rows and by bytes; the writes of a script as they come in. No program runs here. No condition. -/
import Derived.Test.YtckodbfjihcddaaSecL
namespace Go.Proofs.Ytckodbfjihcddaa.P
set_option linter.unusedVariables false
set_option linter.unusedSimpArgs false
open Go.RowKit Go.Proofs.YtckodbfjihcddaaW.PrintWords Go.Proofs.YtckodbfjihcddaaW.PrintLast Go.Proofs.YtckodbfjihcddaaW.PrintMore Go.Proofs.YtckodbfjihcddaaW.Hw
theorem add_pos (ad : Addr) {n : Nat} (h : n ≠ 0) : ad.add n = ⟨ad.block, ad.off + n, none⟩ := by unfold Addr.add; rw [if_neg h]
theorem add_block (ad : Addr) (n : Nat) : (ad.add n).block = ad.block := by unfold Addr.add; split <;> rfl
theorem add_off (ad : Addr) (n : Nat) : (ad.add n).off = ad.off + n := by unfold Addr.add; split <;> simp_all
/-- The cells of sectors that lie one behind the other. -/
def want (ls : List (List Int)) : Array Value := (ls.flatten.map (Value.int .u8)).toArray
theorem flat_len : ∀ {ls : List (List Int)}, (∀ x ∈ ls, x.length = 64) → ls.flatten.length = ls.length * 64
 | [], _ => rfl
 | y :: r, h => by
  rw [List.flatten_cons, List.length_append, flat_len (fun x hx => h x (List.mem_cons_of_mem _ hx)), h y List.mem_cons_self, List.length_cons]; omega
theorem flat_set : ∀ {ls : List (List Int)} {i : Nat} {x : List Int}, (∀ x ∈ ls, x.length = 64) → i < ls.length → ls.flatten.take (i * 64) ++ x ++ ls.flatten.drop (i * 64 + 64) = (ls.set i x).flatten
 | [], _, _, _, h => by simp at h
 | y :: r, 0, x, h, _ => by
  rw [List.flatten_cons, List.set_cons_zero, List.flatten_cons, Nat.zero_mul, List.take_zero, List.nil_append, Nat.zero_add, List.drop_left' (h y List.mem_cons_self)]
 | y :: r, i + 1, x, h, hi => by
  have hy := h y List.mem_cons_self
  have ih := flat_set (ls := r) (i := i) (x := x) (fun x hx => h x (List.mem_cons_of_mem _ hx)) (by simpa using hi)
  rw [List.flatten_cons, List.set_cons_succ, List.flatten_cons, ← ih, List.take_append, List.drop_append, List.take_of_length_le (by omega), List.drop_of_length_le (by omega), List.nil_append, hy, show (i + 1) * 64 - 64 = i * 64 by omega, show (i + 1) * 64 + 64 - 64 = i * 64 + 64 by omega]
  simp only [List.append_assoc]
theorem flat_byte : ∀ {ls : List (List Int)} {i j : Nat} {b : Int}, (∀ x ∈ ls, x.length = 64) → i < ls.length → j < 64 → ls.flatten.set (i * 64 + j) b = (ls.set i ((ls.getD i []).set j b)).flatten
 | [], _, _, _, _, h, _ => by simp at h
 | y :: r, 0, j, b, h, _, hj => by
  have hy := h y List.mem_cons_self
  rw [List.flatten_cons, Nat.zero_mul, Nat.zero_add, List.set_append_left _ _ (by omega), List.set_cons_zero, List.flatten_cons]; rfl
 | y :: r, i + 1, j, b, h, hi, hj => by
  have hy := h y List.mem_cons_self
  rw [List.flatten_cons, List.set_append_right _ _ (by omega), hy, show (i + 1) * 64 + j - 64 = i * 64 + j by omega, flat_byte (fun x hx => h x (List.mem_cons_of_mem _ hx)) (by simpa using hi) hj, List.set_cons_succ, List.flatten_cons]; rfl
theorem flat_get : ∀ {ls : List (List Int)} {i j : Nat}, (∀ x ∈ ls, x.length = 64) → i < ls.length → j < 64 → ls.flatten[i * 64 + j]? = (ls.getD i [])[j]?
 | [], _, _, _, h, _ => by simp at h
 | y :: r, 0, j, h, _, hj => by
  have hy := h y List.mem_cons_self
  rw [List.flatten_cons, Nat.zero_mul, Nat.zero_add, List.getElem?_append_left (by omega)]; rfl
 | y :: r, i + 1, j, h, hi, hj => by
  have hy := h y List.mem_cons_self
  rw [List.flatten_cons, List.getElem?_append_right (by omega), hy, show (i + 1) * 64 + j - 64 = i * 64 + j by omega, flat_get (fun x hx => h x (List.mem_cons_of_mem _ hx)) (by simpa using hi) hj]; rfl
section
variable {w W W' : World} {bs : List Box} {ds : List (Value × List S26)} {g : Nat} {t : TypeId} {ls : List S26} {x : List Int} {k : Nat}
theorem want_size (h : ∀ x ∈ ls, x.length = 64) : (want ls).size = ls.length * 64 := by unfold want; rw [List.size_toArray, List.length_map, flat_len h]
theorem want_put (h : ∀ x ∈ ls, x.length = 64) (hk : k < ls.length) (hx : x.length = 64) (hb : W.heap[g]? = some (.cells (want ls) t (0, 0))) : (W.setCells g (k * 64) (x.map (Value.int .u8))).heap[g]? = some (.cells (want (ls.set k x)) t (0, 0)) := by
 obtain ⟨cur, h1, h2, h3⟩ := setCells_row (x.map (Value.int .u8)) (k * 64) W _ hb (by rw [want_size h, List.length_map, hx]; omega)
 rw [h1]
 congr 2
 refine Array.toList_inj.1 ?_
 rw [h3, List.length_map, hx]
 unfold want
 rw [← flat_set h hk, List.map_append, List.map_append, List.map_take, List.map_drop]
theorem want_byte (h : ∀ x ∈ ls, x.length = 64) (hk : k < ls.length) {j : Nat} (hj : j < 64) (b : Int) (hb : W.heap[g]? = some (.cells (want ls) t (0, 0))) : (W.setCells g (k * 64 + j) [Value.int .u8 b]).heap[g]? = some (.cells (want (ls.set k ((ls.getD k []).set j b))) t (0, 0)) := by
 have hb2 := blk_set hb (k * 64 + j) (Value.int .u8 b)
 show (W.setCell ⟨g, k * 64 + j, none⟩ (Value.int .u8 b)).heap[g]? = _
 rw [hb2]
 congr 2
 refine Array.toList_inj.1 ?_
 unfold want
 rw [Array.toList_setIfInBounds, ← flat_byte h hk hj, List.map_set]
theorem St.wcells (h : St w W bs ds) (i : Nat) {cs cs' : Array Value} (hi : bs[i]? = some (g, t, cs)) (o : Nat) (vs : List Value) (hc : (W.setCells g o vs).heap[g]? = some (.cells cs' t (0, 0))) : St w (W.setCells g o vs) (bs.set i (g, t, cs')) ds :=
 h.upd i hi hc (fun j hj => setCells_far _ _ j hj) (fun hg => ⟨(setCells_same g vs o W).1.trans h.1.os, (setCells_same g vs o W).2.1.trans h.1.tape, (setCells_same g vs o W).2.2.1.trans h.1.output, by rw [(setCells_same g vs o W).2.2.2]; exact h.1.size, fun q hq => (setCells_far _ _ q (by omega)).trans (h.1.block q hq)⟩)
/-- Of the disks some alone. -/
theorem St.only {ds' : List (Value × List S26)} (h : St w W bs ds) (hd : ∀ d ∈ ds', d ∈ ds) : St w W bs ds' := ⟨h.1, h.2.1, h.2.2.1, fun d hm => h.2.2.2 d (hd d hm)⟩
/-- A sector is written into the four. -/
theorem St.wput (h : St w W bs ds) (i : Nat) (hi : bs[i]? = some (g, t, want ls)) (hl : ∀ x ∈ ls, x.length = 64) (hk : k < ls.length) (hx : x.length = 64) : St w (W.setCells g (k * 64) (x.map (Value.int .u8))) (bs.set i (g, t, want (ls.set k x))) ds :=
 h.wcells i hi _ _ (want_put hl hk hx (h.bk i hi))
/-- A byte. -/
theorem St.wbyte (h : St w W bs ds) (i : Nat) (hi : bs[i]? = some (g, t, want ls)) (hl : ∀ x ∈ ls, x.length = 64) (hk : k < ls.length) {j : Nat} (hj : j < 64) (b : Int) : St w (W.setCells g (k * 64 + j) [Value.int .u8 b]) (bs.set i (g, t, want (ls.set k ((ls.getD k []).set j b)))) ds :=
 h.wcells i hi _ _ (want_byte hl hk hj b (h.bk i hi))
/-- A sector of the four is there to be read. -/
theorem want_row (h : ∀ x ∈ ls, x.length = 64) (hk : k < ls.length) (hb : W.heap[g]? = some (.cells (want ls) t (0, 0))) : ∀ j v, ((ls.getD k []).map (Value.int .u8))[j]? = some v → W.cell? ((⟨g, k * 64, none⟩ : Addr).add j) = some v := by
 intro j v hv
 have hkl : (ls.getD k []).length = 64 := by rw [List.getD_eq_getElem?_getD, List.getElem?_eq_getElem hk]; exact h _ (List.getElem_mem hk)
 have hj : j < 64 := by
  have := (List.getElem?_eq_some_iff.1 hv).1
  rw [List.length_map, hkl] at this; exact this
 rw [Addr.add_mid, qb_ hb]
 unfold want
 rw [List.getElem?_toArray, List.getElem?_map, flat_get h hk hj, ← List.getElem?_map]; exact hv
end
section
variable {P : Program} {ops : Array Oper} {rest : List Oper} {o : Oper} {a : Act} {Q : Exit → Act → World → Prop} {W : World}
/-- What a store of cells into a block does. -/
theorem exec_store_run {ev : Operand → Value} (t : TypeId) (p x : Operand) (ho : o.op = .store t p x) {g i : Nat} {v : Value} {c : Array Value} {e : TypeId} (hp : ev p = .pointer (some ⟨g, i, none⟩)) (hx : ev x = v)
  (hb : W.heap[g]? = some (.cells c e (0, 0))) (hi : (P.info? t).map (·.size) = some v.cells.size) (hs : i + v.cells.toList.length ≤ c.size) (h1 : ∀ q ∈ v.cells.toList, q.oneCell' = true) :
  (execOp ev o).run P W = .ok .skip (W.setCells g i v.cells.toList) := by
 have hrun : (Instr.storeAt t (.pointer (some ⟨g, i, none⟩)) v).run P W = .ok () (W.setCells g i v.cells.toList) := run_store_run t _ _ hb rfl (by rw [hi]; simp) hs h1
 unfold execOp
 simp only [ho, hp, hx, Sem.run_bind, Sem.run_pure, Result.andThen_ok, hrun]
theorem exec_store_whole {ev : Operand → Value} (t : TypeId) (p x : Operand) (ho : o.op = .store t p x) {g : Nat} {c c' : Array Value}
  (hp : ev p = .pointer (some ⟨g, 0, none⟩)) (hx : ev x = .agg c') (hb : W.heap[g]? = some (.cells c t (0, 0))) (hi : (P.info? t).map (·.size) = some c'.size) (hs : c.size = c'.size) (h1 : c'.all (·.oneCell') = true) :
  (execOp ev o).run P W = .ok .skip (W.setRow g c') := by
 unfold execOp
 simp only [ho, hp, hx, Instr.storeAt, Instr.sureAddr, Sem.run_bind, Sem.run_pure, Result.andThen_ok, run_storeVar_row W g t t c c' hb hi hs h1]
end
/-- A write of the script, as it comes in: its place, then its bytes. -/
theorem elem42 {W : World} {A : Option Addr} {n : Nat} {xs : List S42} (h : Kd.C k42 W A n xs) (i : Nat) (h1 : i < n) :
  ∃ ad, A = some ad ∧ (xs.getD i z42).f1.length = 64 ∧ W.cell? (ad.add (i * 65)) = some (.int .u8 (xs.getD i z42).f0) ∧
   ∀ j v, ((xs.getD i z42).f1.map (Value.int .u8))[j]? = some v → W.cell? ((ad.add (i * 65 + 1)).add j) = some v := by
 obtain ⟨ad, c, e, hcl, hK, hcc⟩ := Kd.C_get h z42 (i : Int) (by omega) (by omega)
 rw [Int.toNat_natCast] at hK hcc
 generalize xs.getD i z42 = y at hK ⊢
 obtain ⟨c1, c2, he, hc1, hl, hc2⟩ := hK
 have hc1' : c1 = [Value.int .u8 y.f0] := hc1
 subst hc1' he hc2
 refine ⟨ad, e, hl, ?_, fun j v hj => ?_⟩
 ·have := hcc 0 (.int .u8 y.f0) rfl
  rw [Nat.add_zero] at this
  exact this
 ·rw [add_add, Nat.add_assoc]
  exact hcc (1 + j) v (by rw [Nat.add_comm, List.singleton_append, List.getElem?_cons_succ]; exact hj)
end Go.Proofs.Ytckodbfjihcddaa.P

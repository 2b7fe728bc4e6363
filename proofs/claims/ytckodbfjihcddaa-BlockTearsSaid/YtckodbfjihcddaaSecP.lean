/- Words of a sector put: a whole array boxed, its tail cut and cleared, a sector stored into a row of one's own. No program runs here. No condition. -/
import Derived.Test.YtckodbfjihcddaaSecW
import Derived.Test.YtckodbfjihcddaaW
namespace Go.Proofs.YtckodbfjihcddaaW.Hw
set_option linter.unusedVariables false
set_option linter.unusedSimpArgs false
open Go.RowKit Go.Proofs.YtckodbfjihcddaaW.PrintWords Go.Proofs.YtckodbfjihcddaaW.PrintLast Go.Proofs.YtckodbfjihcddaaW.PrintMore
section
variable {P : Program} {ops : Array Oper} {rest : List Oper} {o : Oper} {a : Act} {Q : Exit → Act → World → Prop} {W : World}
theorem box_ints (hgd : o.guard = none) {N : Tmp} (hN : o.dst = some N) (t : TypeId) (x : Operand) (ho : o.op = .box t x) {k : IntKind} {xs : List Int} (hx : a.eval x = aggN k xs)
  (h : ∀ g, g = W.heap.size → ∀ w1, w1.heap[g]? = some (.cells (xs.map (Value.int k)).toArray t (0, 0)) → Below W.heap.size W w1 → wpList P ops Q rest (a.put o.dst (.pointer (some ⟨g, 0, none⟩))) w1) : wpList P ops Q (o :: rest) a W := by
 refine box_event hgd hN (cs := (xs.map (Value.int k)).toArray) (t := t) ?_ h
 unfold execOp
 unfold aggN at hx
 simp [ho, hx, Instr.box, newVar, newRow, Value.cells]
theorem slice_tail (hgd : o.guard = none) {N : Tmp} (_hN : o.dst = some N) (t : TypeId) (p q : Operand) (ho : o.op = .slice t p (some q) none none) {g n m : Nat} {e : TypeId} (hp : a.eval p = .pointer (some ⟨g, 0, none⟩)) (hq : a.eval q = .int .i64 (n : Int))
  (hu : P.underlying t = some (.array m e)) {i : TypeInfo} (hi : P.info? e = some i) (h1 : P.cellsOf e = 1) (hn : n < m)
  (h : wpList P ops Q rest (a.put o.dst (.slice (some ⟨g, n, none⟩) (m - n) (m - n))) W) : wpList P ops Q (o :: rest) a W := by
 refine Kd.event_run hgd ?_ h
 have hne : ¬ m = n := by omega
 unfold execOp
 simp [ho, hp, hq, Instr.sliceAt, run_underlying hu, Instr.sureAddr, Instr.sliceBounds, run_sliceBound, run_sizeOf W hi, h1, hne, Addr.add_lit, Nat.le_of_lt hn]
theorem clear_tail (hgd : o.guard = none) (hN : o.dst = none) (s : Operand) (t : TypeId) (ho : o.op = .call { callee := .builtin .clear, args := #[s], argTypes := #[t] }) {e te : TypeId} {g n : Nat} {c : Nat} {x : List Int} {k : IntKind}
  (hs : a.eval s = .slice (some ⟨g, n, none⟩) (x.length - n) c) (hn : n < x.length) (ht : P.underlying t = some (.slice e)) (hv : ∀ w, (zeroValue e).run P w = .ok (.int k 0) w)
  (hb : W.heap[g]? = some (.cells (x.map (Value.int k)).toArray te (0, 0)))
  (h : ∀ w1, w1.heap[g]? = some (.cells ((x.take n ++ List.replicate (x.length - n) 0).map (Value.int k)).toArray te (0, 0)) → W.grownBy w1 (some g) → wpList P ops Q rest a w1) : wpList P ops Q (o :: rest) a W := by
 have hz : (Builtin.zeroCells (Value.int k 0).cells (x.length - n)).toList = (List.replicate (x.length - n) 0).map (Value.int k) := by
  refine List.ext_getElem (by simp [Builtin.zeroCells, Value.cells]) (fun j h1 h2 => ?_)
  simp [Builtin.zeroCells, Value.cells, Nat.mod_one]
 have hrun := fun ty => run_clear_rows (P := P) W t e ty (.int k 0) ht hv (by intro u hu; simp [Value.cells] at hu; rw [hu]; rfl) g n (x.length - n) c (by omega)
  (fun j hj => by simp only [Value.cells, List.size_toArray, List.length_cons, List.length_nil, Nat.zero_add, Nat.mul_one] at hj; rw [cell_of_row W g _ _ te (0, 0) hb]; simp; omega) (fun j _ => qa_ hb _)
 rw [hz] at hrun
 obtain ⟨cur', h3, h4, h5⟩ := setCells_row ((List.replicate (x.length - n) 0).map (Value.int k)) n W _ hb (by simp; omega)
 obtain ⟨s1, s2, s3, s4⟩ := setCells_same g ((List.replicate (x.length - n) 0).map (Value.int k)) n W
 have hcur : cur' = ((x.take n ++ List.replicate (x.length - n) 0).map (Value.int k)).toArray := by
  rw [← Array.toList_inj, h5]
  simp [List.map_take]
  omega
 rw [hcur] at h3
 refine wpList_plain hgd fun K hK => ?_
 have h6 := hK a _ (h _ h3 ⟨s1, s2, s3, by rw [s4]; exact Nat.le_refl _, fun j _ hj => setCells_far _ _ j (fun he => hj (by rw [he]))⟩)
 unfold Oper.wp execOp
 simp only [ho]
 rw [List.map_replicate] at h6
 simp [resolve, invoke, hs, builtin, hrun, hN, Act.put, Oper.upon]
 exact h6
theorem elem_put (k : IntKind) (m : Nat) {w0 : World} (base : Nat) (hgd : o.guard = none) (hN : o.dst = none) (t : TypeId) (p x : Operand) (ho : o.op = .store t p x) (e : TypeId) {g n cap i : Nat} {xs : List (List Int)} {y : List Int} {ok : Nat → Prop}
  (hp : a.eval p = .pointer (some ⟨g, i * m, none⟩)) (hx : a.eval x = aggN k y) (hy : y.length = m) (ht : (P.info? t).map (·.size) = some m)
  (HO : (Kd.nar k m).R e W base ok (.slice (some ⟨g, 0, none⟩) n cap) xs) (hi : i < n) (HB : Below base w0 W)
  (h : ∀ w1, (Kd.nar k m).R e w1 base ok (.slice (some ⟨g, 0, none⟩) n cap) (xs.set i y) → Below base w0 w1 → W.grownBy w1 (some g) → wpList P ops Q rest a w1) : wpList P ops Q (o :: rest) a W := by
 obtain ⟨hnx, _, hC⟩ := Kd.R_reads' HO
 obtain ⟨ad, c, e1, hcl, _, hcc⟩ := Kd.C_get hC [] (i : Int) (by omega) (by omega)
 injection e1 with e1
 subst e1
 have hcl : c.length = m := hcl
 refine Kd.R_store (Kd.nar k m) base hN hgd t p x ho e (i : Int) 0 xs y (aggN k y) (y.map (Value.int k)) c ok (fun _ => False) (o' := i * m) hp rfl hx rfl (by rw [ht, List.length_map, hy]) ?_ HO (by omega) (by omega) hcl ?_ (by show 0 + _ ≤ m; rw [List.length_map, hy]; omega) ?_ (fun _ hk => hk.elim) HB ?_
 ·intro q hq
  obtain ⟨u, _, rfl⟩ := List.mem_map.1 hq
  rfl
 ·intro j u hj
  have := hcc j u hj
  rw [Int.toNat_natCast] at this ⊢
  rw [Addr.add_lit] at this
  simpa using this
 ·refine ⟨hy, ?_⟩
  rw [List.take_zero, List.nil_append, List.length_map, Nat.zero_add, hy, ← hcl, List.drop_length, List.append_nil]
 ·intro w1 hr hb hg
  rw [Int.toNat_natCast] at hr
  exact h w1 hr hb hg
/-- A row of one's own that isn't empty: where it lies. -/
theorem R_lies {α : Type} {d : Kd α} {e : Nat} {base : Nat} {ok : Nat → Prop} {A : Option Addr} {n c : Nat} {xs : List α} (h : d.R e W base ok (.slice A n c) xs) (hn : 0 < xs.length) : ∃ g, A = some ⟨g, 0, none⟩ ∧ base ≤ g ∧ ok g := by
 obtain ⟨hk, inner, hown, hr⟩ := h
 rcases hown.2 with ⟨hv, hz⟩ | ⟨g, cap, cur, hv, hb, _⟩
 ·omega
 ·injection hv with ha _ _
  subst ha
  exact ⟨g, rfl, hb, hk g rfl⟩
/-- One byte of a sector of a row of one's own is written, as a region that draws its order comes to it. -/
theorem byte_step {K : Act → World → Prop} (k : IntKind) (m : Nat) {w0 : World} (base : Nat) (hw : Region.wanted o (yielded ops a.tmps) = true) (hN : o.dst = none) (t : TypeId) (p x : Operand) (ho : o.op = .store t p x) (e : TypeId) {g n cap i j : Nat} {xs : List (List Int)} {u : Int} {ok : Nat → Prop}
  (hp : a.eval p = .pointer (some ⟨g, i * m + j, none⟩)) (hx : a.eval x = .int k u) (ht : (P.info? t).map (·.size) = some 1)
  (HO : (Kd.nar k m).R e W base ok (.slice (some ⟨g, 0, none⟩) n cap) xs) (hi : i < n) (hj : j < m) (HB : Below base w0 W)
  (h : ∀ w1, (Kd.nar k m).R e w1 base ok (.slice (some ⟨g, 0, none⟩) n cap) (xs.set i ((xs.getD i []).set j u)) → Below base w0 w1 → W.grownBy w1 (some g) → K a w1) : if Region.wanted o (yielded ops a.tmps) = true then Oper.wp P o a W K Q else K (a.put none undef) W := by
 obtain ⟨hnx, hnc, hC⟩ := Kd.R_reads' HO
 obtain ⟨ad, c, e1, hcl, ⟨hyl, hcy⟩, hcc⟩ := Kd.C_get hC [] (i : Int) (by omega) (by omega)
 injection e1 with e1
 subst e1
 rw [Int.toNat_natCast] at hyl hcy hcc
 have hcl : c.length = m := hcl
 have hcc' : ∀ q v, c[q]? = some v → W.cell? ⟨g, i * m + q, none⟩ = some v := fun q v hq => by
  have := hcc q v hq
  rw [Addr.add_lit, Nat.zero_add] at this
  exact this
 obtain ⟨hrow, hg⟩ := Kd.R_seg (seg := [Value.int k u]) (j := j) (x' := (xs.getD i []).set j u) (okp := fun _ => False) HO (i : Int) (by omega) (by omega) hcl (by rw [Int.toNat_natCast]; exact hcc') (by show j + 1 ≤ m; omega) ⟨by rw [List.length_set]; exact hyl, by
   rw [hcy, List.map_set, List.set_eq_take_append_cons_drop, if_pos (by rw [List.length_map, hyl]; exact hj), List.append_assoc]
   rfl⟩ (fun _ hk => hk.elim)
 rw [Int.toNat_natCast] at hrow hg
 have hbg : base ≤ g := Kd.R_base HO g (by simp [Value.ownBlock])
 have hB : Below base w0 (W.setCells g (i * m + j) [Value.int k u]) := HB.trans ⟨hg.os, hg.tape, hg.output, hg.size, fun q hq => setCells_far _ _ q (by omega)⟩
 have hrun : (Instr.storeAt t (.pointer (some ⟨g, i * m + j, none⟩)) (.int k u)).run P W = .ok () (W.setCells g (i * m + j) [Value.int k u]) := by
  obtain ⟨_, inner, hown, hr⟩ := HO
  rcases hown.2 with ⟨hv, _⟩ | ⟨g', cap', cur, hv, hb, hh, hnc2, hcm, hcs, _⟩
  ·cases hv
  injection hv with ha _ hc
  injection ha with ha
  injection ha with hg'
  subst hg'; subst hc
  refine run_store_run t _ _ hh rfl (by rw [ht]; rfl) ?_ (by intro q hq; simp at hq; rw [hq]; rfl)
  have hs : (Kd.nar k m).sz = m := rfl
  rw [hs] at hcs
  have h2 : i * m + m ≤ n * m := by rw [← Nat.succ_mul]; exact Nat.mul_le_mul_right _ hi
  have h3 : n * m ≤ cap * m := Nat.mul_le_mul_right _ hnc
  show i * m + j + 1 ≤ _
  omega
 rw [hw, if_pos rfl]
 unfold Oper.wp execOp
 simp only [ho, hp, hx, Sem.run_bind, Sem.run_pure, Result.andThen_ok, hrun]
 show K (a.put o.dst undef) _
 rw [hN]
 exact h _ hrow hB hg
/-- What stands of a sector behind i of its bytes. -/
def tear (x : List Int) (i : Nat) : List Int := x.take i ++ List.replicate (x.length - i) 0
theorem tear_zero (x : List Int) : tear x 0 = List.replicate x.length 0 := by simp [tear]
theorem tear_all (x : List Int) : tear x x.length = x := by simp [tear]
theorem tear_len (x : List Int) (i : Nat) (h : i ≤ x.length) : (tear x i).length = x.length := by simp [tear]; omega
theorem tear_next (x : List Int) (i : Nat) (h : i < x.length) : (tear x i).set i (x.getD i 0) = tear x (i + 1) := by
 refine List.ext_getElem? (fun j => ?_)
 unfold tear
 rw [List.getElem?_set, List.getElem?_append, List.getElem?_append]
 simp only [List.length_append, List.length_take, List.length_replicate, List.getElem?_take, List.getElem?_replicate, List.getD_eq_getElem?_getD, List.getElem?_eq_getElem h, Option.getD_some]
 by_cases e : i = j
 ·subst e
  rw [if_pos rfl, if_pos (by omega), if_pos (by omega), if_pos (by omega), List.getElem?_eq_getElem h]
 ·rw [if_neg e]
  by_cases hj : j < i
  ·rw [if_pos (by omega), if_pos hj, if_pos (by omega), if_pos (by omega)]
  ·rw [if_neg (by omega)]
   by_cases hx : j < x.length
   ·rw [if_pos (by omega), if_neg (by omega), if_pos (by omega)]
   ·rw [if_neg (by omega)]
    by_cases hy : j < min (i + 1) x.length
    ·omega
    ·rw [if_neg hy, if_neg (by omega)]
theorem set_tear (l : List (List Int)) (k : Nat) (x : List Int) (i : Nat) (hk : k < l.length) (h : i < x.length) : (l.set k (tear x i)).set k (((l.set k (tear x i)).getD k []).set i (x.getD i 0)) = l.set k (tear x (i + 1)) := by
 rw [List.set_set, ← tear_next x i h]
 congr 2
 simp [List.getD_eq_getElem?_getD, List.getElem?_set, hk]
/-- How many bytes are left behind i of them. -/
def fz (f : Int) (i : Nat) : Int := if f = -1 then -1 else f - i
theorem below_grown {w W' : World} {g : Nat} (h : Below w.heap.size w W) (hg : W.grownBy W' (some g)) (hn : w.heap.size ≤ g) : Below w.heap.size w W' :=
 h.trans ⟨hg.os, hg.tape, hg.output, hg.size, fun k hk => hg.block k (Nat.lt_of_lt_of_le hk h.size) (fun he => by injection he with he; omega)⟩
end
end Go.Proofs.YtckodbfjihcddaaW.Hw

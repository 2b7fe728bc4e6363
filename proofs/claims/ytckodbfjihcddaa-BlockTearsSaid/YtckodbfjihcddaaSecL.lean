/- How disks lie in the boxes of a law: one predicate over all boxes and all disks, that every step of the walk carries on. No program runs here. No condition. -/
import Derived.Test.YtckodbfjihcddaaP0
import Derived.Test.YtckodbfjihcddaaSecW
import Derived.Test.YtckodbfjihcddaaSecP
namespace Go.Proofs.Ytckodbfjihcddaa.P
set_option linter.unusedVariables false
set_option linter.unusedSimpArgs false
open Go.RowKit Go.Proofs.YtckodbfjihcddaaW.PrintWords Go.Proofs.YtckodbfjihcddaaW.PrintLast Go.Proofs.YtckodbfjihcddaaW.PrintMore Go.Proofs.YtckodbfjihcddaaW.Hw
/-- A box: its block, its type, its cells. -/
abbrev Box := Nat × TypeId × Array Value
/-- A disk's row (read alone), in no box. -/
def Lies (W : World) (bs : List Box) (d : Value × List S26) : Prop := Kd.V k26 26 W W.heap.size (fun k_ => ∀ b ∈ bs, k_ ≠ b.1) d.1 d.2
/-- All boxes and disks. -/
def St (w W : World) (bs : List Box) (ds : List (Value × List S26)) : Prop :=
 Below w.heap.size w W ∧ (∀ b ∈ bs, W.heap[b.1]? = some (.cells b.2.2 b.2.1 (0, 0)) ∧ w.heap.size ≤ b.1) ∧ bs.Pairwise (fun a b => a.1 ≠ b.1) ∧ ∀ d ∈ ds, Lies W bs d
section
variable {w W W' : World} {bs : List Box} {ds : List (Value × List S26)} {g : Nat} {t : TypeId} {cs cs' : Array Value} {v : Value} {l : List S26}
theorem St.start (w : World) : St w w [] [] := ⟨Below.refl _ _, fun _ h => by simp at h, List.Pairwise.nil, fun _ h => by simp at h⟩
theorem St.step (h : St w W bs ds) (hb : Below W.heap.size W W') : St w W' bs ds :=
 ⟨qd_ h.1 hb, fun b hm => ⟨blk_below (h.2.1 b hm).1 hb, (h.2.1 b hm).2⟩, h.2.2.1, fun d hd => Kd.qi_ (h.2.2.2 d hd) hb⟩
/-- A new box. -/
theorem St.box (h : St w W bs ds) (hb : Below W.heap.size W W') (hg : W.heap.size ≤ g) (hk : W'.heap[g]? = some (.cells cs t (0, 0))) : St w W' ((g, t, cs) :: bs) ds := by
 refine ⟨qd_ h.1 hb, fun b hm => ?_, List.pairwise_cons.2 ⟨fun b hm => ?_, h.2.2.1⟩, fun d hd => ?_⟩
 ·rcases List.mem_cons.1 hm with rfl | hm
  ·exact ⟨hk, Nat.le_trans h.1.size hg⟩
  ·exact ⟨blk_below (h.2.1 b hm).1 hb, (h.2.1 b hm).2⟩
 ·exact Nat.ne_of_gt (Nat.lt_of_lt_of_le (blk_lt (h.2.1 b hm).1) hg)
 ·refine Kd.V_mono (Kd.qi_ (Kd.V_bound (h.2.2.2 d hd)) hb) (fun k_ hk_ b hm => ?_)
  rcases List.mem_cons.1 hm with rfl | hm
  ·exact Nat.ne_of_lt (Nat.lt_of_lt_of_le hk_.2 hg)
  ·exact hk_.1 b hm
theorem St.bk (h : St w W bs ds) (i : Nat) (hi : bs[i]? = some (g, t, cs)) : W.heap[g]? = some (.cells cs t (0, 0)) := (h.2.1 _ (List.mem_of_getElem? hi)).1
theorem St.lies (h : St w W bs ds) (i : Nat) (hi : ds[i]? = some (v, l)) : Kd.V k26 26 W W.heap.size (fun k_ => ∀ b ∈ bs, k_ ≠ b.1) v l := h.2.2.2 _ (List.mem_of_getElem? hi)
theorem St.reads {A : Option Addr} {n c : Nat} (h : St w W bs ds) (i : Nat) (hi : ds[i]? = some (.slice A n c, l)) : Kd.C k26 W A l.length l := Kd.F_now (Kd.V_at (h.lies i hi)).2.2
theorem St.room {A : Option Addr} {n c : Nat} (h : St w W bs ds) (i : Nat) (hi : ds[i]? = some (.slice A n c, l)) : n ≤ c := (Kd.V_at (h.lies i hi)).2.1
/-- The newest box is let go. -/
theorem St.less {b : Box} (h : St w W (b :: bs) ds) : St w W bs ds :=
 ⟨h.1, fun c hc => h.2.1 c (List.mem_cons_of_mem _ hc), (List.pairwise_cons.1 h.2.2.1).2, fun d hd => Kd.V_mono (h.2.2.2 d hd) (fun _ hk c hc => hk c (List.mem_cons_of_mem _ hc))⟩
theorem St.drew (h : St w W bs ds) : St w W.drew bs ds := h.step (below_drew (Below.refl _ _))
/-- A disk's sectors have 64 bytes each. -/
theorem St.sect (h : St w W bs ds) (i : Nat) (hi : ds[i]? = some (v, l)) (x : List Int) (hx : x ∈ l) : x.length = 64 := by
 obtain ⟨A, c, rfl⟩ := Kd.V_slice (h.lies i hi)
 obtain ⟨j, hj⟩ := List.mem_iff_getElem?.1 hx
 obtain ⟨hlt, e⟩ := List.getElem?_eq_some_iff.1 hj
 obtain ⟨ad, hA, hl, _⟩ := elem_cells (h.reads i hi) [] (j : Int) (by omega) (by omega)
 rw [Int.toNat_natCast, List.getD_eq_getElem?_getD, hj] at hl
 exact hl
/-- A disk that a call hands back. -/
theorem St.got (h : St w W bs ds) (hb : Below W.heap.size W W') {n : Nat} (hv : Kd.V k26 26 W' n (fun k_ => (∀ b ∈ bs, k_ ≠ b.1) ∨ W.heap.size ≤ k_) v l) : St w W' bs ((v, l) :: ds) := by
 have h' := h.step hb
 refine ⟨h'.1, h'.2.1, h'.2.2.1, fun d hd => ?_⟩
 rcases List.mem_cons.1 hd with rfl | hd
 ·exact Kd.V_mono (show Kd.V k26 26 W' W'.heap.size _ v l from hv) (fun k_ hk b hm => hk.elim (fun hk => hk b hm) (fun hk => Nat.ne_of_gt (Nat.lt_of_lt_of_le (blk_lt (h.2.1 b hm).1) hk)))
 ·exact h'.2.2.2 d hd
/-- A disk that a call makes. -/
theorem St.made (h : St w W bs ds) (hb : Below W.heap.size W W') {ok : Nat → Prop} (hv : Kd.R k26 26 W' W.heap.size ok v l) : St w W' bs ((v, l) :: ds) :=
 h.got hb (n := W.heap.size) (Kd.V_mono (Kd.R_V (Kd.R_bound hv)) (fun _ hk => .inr hk.2.1))
/-- A disk that comes in. -/
theorem St.came (h : St w w [] ds) {n : Nat} {ok : Nat → Prop} (hv : Kd.V k26 26 w n ok v l) : St w w [] ((v, l) :: ds) :=
 ⟨h.1, h.2.1, h.2.2.1, fun d hd => (List.mem_cons.1 hd).elim (fun e => by subst e; exact Kd.V_mono (show Kd.V k26 26 w w.heap.size _ v l from hv) (fun _ _ _ hm => by simp at hm)) (h.2.2.2 d)⟩
/-- A box is written: its block alone. -/
theorem St.upd (h : St w W bs ds) (i : Nat) (hi : bs[i]? = some (g, t, cs)) (hk : W'.heap[g]? = some (.cells cs' t (0, 0))) (hf : ∀ j, j ≠ g → W'.heap[j]? = W.heap[j]?) (hb : w.heap.size ≤ g → Below w.heap.size w W') : St w W' (bs.set i (g, t, cs')) ds := by
 have hm := List.mem_of_getElem? hi
 have hne : ∀ b ∈ bs.set i (g, t, cs'), b = (g, t, cs') ∨ (b ∈ bs ∧ b.1 ≠ g) := by
  intro b hb
  obtain ⟨j, hj⟩ := List.mem_iff_getElem?.1 hb
  by_cases e : i = j
  ·subst e
   obtain ⟨hlt, _⟩ := List.getElem?_eq_some_iff.1 hi
   rw [List.getElem?_set_self hlt] at hj
   exact .inl (Option.some.inj hj).symm
  ·rw [List.getElem?_set_ne e] at hj
   refine .inr ⟨List.mem_of_getElem? hj, ?_⟩
   obtain ⟨h1, e1⟩ := List.getElem?_eq_some_iff.1 hi
   obtain ⟨h2, e2⟩ := List.getElem?_eq_some_iff.1 hj
   have hp := List.pairwise_iff_getElem.1 h.2.2.1
   rcases Nat.lt_or_gt_of_ne e with hl | hl
   ·have := hp i j h1 h2 hl; rw [e1, e2] at this; exact fun he => this he.symm
   ·have := hp j i h2 h1 hl; rw [e1, e2] at this; exact this
 have hfst : (bs.set i (g, t, cs')).map Prod.fst = bs.map Prod.fst := by
  rw [List.map_set]
  refine List.ext_getElem? fun j => ?_
  by_cases e : i = j
  ·subst e
   obtain ⟨hlt, _⟩ := List.getElem?_eq_some_iff.1 hi
   rw [List.getElem?_set_self (by rw [List.length_map]; exact hlt), List.getElem?_map, hi]; rfl
  ·rw [List.getElem?_set_ne e]
 refine ⟨hb (h.2.1 _ hm).2, fun b hb => ?_, ?_, fun d hd => ?_⟩
 ·rcases hne b hb with rfl | ⟨h1, h2⟩
  ·exact ⟨hk, (h.2.1 _ hm).2⟩
  ·exact ⟨(hf _ h2).trans (h.2.1 b h1).1, (h.2.1 b h1).2⟩
 ·have hq := h.2.2.1
  rw [← List.pairwise_map (f := Prod.fst) (R := fun a b => a ≠ b)] at hq ⊢
  rw [hfst]; exact hq
 ·refine Kd.V_mono (Kd.V_step (h.2.2.2 d hd) (fun k_ hk_ _ => hf k_ (hk_ _ hm))) (fun k_ hk_ b hb => ?_)
  rcases hne b hb with rfl | ⟨h1, _⟩
  ·exact hk_ (g, t, cs) hm
  ·exact hk_ b h1
/-- A box's whole content is stored. -/
theorem St.row (h : St w W bs ds) (i : Nat) (hi : bs[i]? = some (g, t, cs)) (cs' : Array Value) : St w (W.setRow g cs') (bs.set i (g, t, cs')) ds :=
 h.upd i hi (setRow_heap _ _ _ _ _ _ (h.bk i hi)) (fun j hj => by unfold World.setRow; simp only [Array.getElem?_modify, if_neg (Ne.symm hj)]) (fun hg => below_setRow h.1 hg _)
end
section
variable {P : Program} {ops : Array Oper} {rest : List Oper} {o o2 : Oper} {a : Act} {Q : Exit → Act → World → Prop} {W : World}
/-- A box is made and filled. -/
theorem alloc_store (hgd : o.guard = none) {N : Tmp} (hN : o.dst = some N) {cs cs' : Array Value} {t : TypeId}
  (hrun : (execOp a.eval o).run P W = .ok (.value (.pointer (some ⟨W.heap.size, 0, none⟩))) (W.alloc (.cells cs t (0, 0)))) (hgd2 : o2.guard = none) (hN2 : o2.dst = none) (x : Operand) (ho2 : o2.op = .store t (.tmp N) x)
  (hp : ∀ v, (a.put (some N) v).eval (.tmp N) = v) (hx : ∀ v, (a.put (some N) v).eval x = .agg cs') (hi : (P.info? t).map (·.size) = some cs'.size) (hs : cs.size = cs'.size) (h1 : cs'.all (·.oneCell') = true)
  (h : ∀ g, W.heap.size ≤ g → ∀ w1, w1.heap[g]? = some (.cells cs' t (0, 0)) → Below W.heap.size W w1 → wpList P ops Q rest (a.put (some N) (.pointer (some ⟨g, 0, none⟩))) w1) : wpList P ops Q (o :: o2 :: rest) a W := by
 refine box_event hgd hN hrun fun g hg w1 hk hb => ?_
 rw [hN]
 refine store_whole hgd2 hN2 t (.tmp N) x ho2 (hp _) (hx _) hk hi hs h1 fun W1 hW => ?_
 subst hW
 exact h g (Nat.le_of_eq hg.symm) _ (setRow_heap _ _ _ _ _ _ hk) (below_setRow hb (Nat.le_of_eq hg.symm) _)
theorem disk_one (A : Option Addr) (n c : Nat) (f : Int) (b : Bool) : (#[.slice A n c, .int .i64 f, .bool b] : Array Value).all (·.oneCell') = true := by simp [Value.oneCell']
theorem sect_size {x : List Int} (h : x.length = 64) : (Try.prog.info? 26).map (·.size) = some (x.map (Value.int .u8)).toArray.size := by
 simp only [List.size_toArray, List.length_map, h]; kernel_rfl
theorem sect_same {x : List Int} (h : x.length = 64) : (z26.map (Value.int .u8)).toArray.size = (x.map (Value.int .u8)).toArray.size := by
 simp only [List.size_toArray, List.length_map, h]; rfl
/-- A whole box is read, in a region that draws. -/
theorem exec_load_box {ev : Operand → Value} {o : Oper} {t : TypeId} {p : Operand} (ho : o.op = .load t p) {g : Nat} {c : Array Value} {d : TypeDesc} (hp : ev p = .pointer (some ⟨g, 0, none⟩)) (hb : W.heap[g]? = some (.cells c t (0, 0)))
  (hu : P.underlying t = some d) (hd : (match d with | .struct _ | .array _ _ => true | _ => false) = true) (hi : (P.info? t).map (·.size) = some c.size) : (execOp ev o).run P W = .ok (.value (.agg c)) W := by
 unfold execOp
 simp only [ho, hp, Instr.loadAt, Instr.sureAddr, Sem.run_bind, Sem.run_pure, Result.andThen_ok, run_loadVar_row W g t t c (0, 0) _ hb hu hd hi]
/-- A whole box is read. -/
theorem load_box (hgd : o.guard = none) (t : TypeId) (p : Operand) (ho : o.op = .load t p) {g : Nat} {c : Array Value} {d : TypeDesc} (hp : a.eval p = .pointer (some ⟨g, 0, none⟩)) (hb : W.heap[g]? = some (.cells c t (0, 0)))
  (hu : P.underlying t = some d) (hd : (match d with | .struct _ | .array _ _ => true | _ => false) = true) (hi : (P.info? t).map (·.size) = some c.size) (h : wpList P ops Q rest (a.put o.dst (.agg c)) W) : wpList P ops Q (o :: rest) a W := by
 refine Kd.event_run hgd ?_ h
 unfold execOp
 simp only [ho, hp, Instr.loadAt, Instr.sureAddr, Sem.run_bind, Sem.run_pure, Result.andThen_ok, run_loadVar_row W g t t c (0, 0) _ hb hu hd hi]
end
end Go.Proofs.Ytckodbfjihcddaa.P

/- Words for the functions that take functions: what is asked of a predicate, the first place where it holds. No condition. -/
import Derived.Test.YtckodbfjihcddaaW
import Derived.Test.YtckodbfjihcddaaOpn
import Derived.Lib.Hide
import Derived.Lib.SliceRun
import Derived.Lib.BitFns
import Derived.Lib.Small
import Derived.Laws.Externs
import Derived.Lib.Overlaps
import Derived.Lib.SlBytesConst
import Derived.Deep.RegionLaw
namespace Go.Proofs.YtckodbfjihcddaaW.Hw
open Go.RowKit Go.Proofs.YtckodbfjihcddaaW.PrintWords Go.Proofs.YtckodbfjihcddaaW.PrintLast Go.Proofs.YtckodbfjihcddaaW.PrintMore
/-- A predicate on elements of a kind, called as function g with what it captured behind: it leaves all that lay there. -/
def PredK {α : Type} (P : Program) (d : Kd α) (g : Nat) (lb : Array Value) (enc : List Value → Value) (p : α → Bool) (w : World) : Prop :=
 ∀ (W : World) (x : α) (cs : List Value), Below w.heap.size w W → d.K W x cs → Calls P g (#[enc cs] ++ lb) W fun e w' => e = .returned (.bool (p x)) ∧ Below W.heap.size W w'
/-- A block lives on where all that lay there does. -/
theorem blk_bel {w w1 : World} {g : Nat} {o : Obj} (h : w.heap[g]? = some o) (hb : Below w.heap.size w w1) : w1.heap[g]? = some o := (hb.block g (blk_lt h)).trans h
/-- A predicate on elements of a kind that is asked while a row is written. -/
def PredR {α : Type} (P : Program) (d : Kd α) (g : Nat) (lb : Array Value) (enc : List Value → Value) (p : α → Bool) (w : World) (row : Option Nat) : Prop :=
 ∀ (W : World) (x : α) (cs : List Value), w.grownBy W row → d.K W x cs → Calls P g (#[enc cs] ++ lb) W fun e w' => e = .returned (.bool (p x)) ∧ Below W.heap.size W w'
theorem PredR.k {α : Type} {P : Program} {d : Kd α} {g : Nat} {lb : Array Value} {enc : List Value → Value} {p : α → Bool} {w : World} {row : Option Nat} (h : PredR P d g lb enc p w row) : PredK P d g lb enc p w :=
 fun W x cs hb hk => h W x cs (grown_of_below hb row) hk
theorem bl_irrefl : ∀ x : List UInt8, Op.bytesLess x x = false
 | [] => rfl
 | a :: x => by
  unfold Op.bytesLess
  rw [bl_irrefl x]
  have : ¬ a < a := UInt8.lt_irrefl a
  simp [this]
theorem bl_trans : ∀ x y z : List UInt8, Op.bytesLess x y = true → Op.bytesLess y z = true → Op.bytesLess x z = true
 | _, [], _, h, _ => by simp [Op.bytesLess] at h
 | _, _ :: _, [], _, h => by simp [Op.bytesLess] at h
 | [], _ :: _, _ :: _, _, _ => by simp [Op.bytesLess]
 | a :: x, b :: y, c :: z, h, k => by
  simp only [Op.bytesLess, Bool.or_eq_true, Bool.and_eq_true, decide_eq_true_eq, beq_iff_eq] at h k ⊢
  rcases h with h | ⟨rfl, h⟩
  ·rcases k with k | ⟨rfl, k⟩
   ·exact .inl (UInt8.lt_trans h k)
   ·exact .inl h
  ·rcases k with k | ⟨rfl, k⟩
   ·exact .inl k
   ·exact .inr ⟨rfl, bl_trans x y z h k⟩
theorem bl_total : ∀ x y : List UInt8, Op.bytesLess x y = true ∨ x = y ∨ Op.bytesLess y x = true
 | [], [] => .inr (.inl rfl)
 | [], _ :: _ => .inl (by simp [Op.bytesLess])
 | _ :: _, [] => .inr (.inr (by simp [Op.bytesLess]))
 | a :: x, b :: y => by
  simp only [Op.bytesLess, Bool.or_eq_true, Bool.and_eq_true, decide_eq_true_eq, beq_iff_eq, List.cons.injEq]
  rcases UInt8.lt_or_eq_of_le (a := a) (b := a) (UInt8.le_refl a) with h | _
  ·exact absurd h (UInt8.lt_irrefl a)
  ·by_cases hab : a < b
   ·exact .inl (.inl hab)
   ·by_cases hba : b < a
    ·exact .inr (.inr (.inl hba))
    ·have e : a = b := UInt8.le_antisymm (UInt8.not_lt.1 hba) (UInt8.not_lt.1 hab)
     subst e
     rcases bl_total x y with h | h | h
     ·exact .inl (.inr ⟨rfl, h⟩)
     ·exact .inr (.inl ⟨rfl, h⟩)
     ·exact .inr (.inr (.inr ⟨rfl, h⟩))
theorem bl_asymm (x y : List UInt8) (h : Op.bytesLess x y = true) : Op.bytesLess y x = false := by
 cases hk : Op.bytesLess y x with
 | false => rfl
 | true =>
  have := bl_trans x y x h hk
  rw [bl_irrefl] at this
  cases this
theorem bl_not (x y : List UInt8) : (!(Op.bytesLess x y || x == y)) = Op.bytesLess y x := by
 rcases bl_total x y with h | h | h
 ·simp [h, bl_asymm x y h]
 ·subst h
  simp [bl_irrefl]
 ·have h2 := bl_asymm y x h
  have h3 : (x == y) = false := by
   rw [beq_eq_false_iff_ne]
   intro e
   subst e
   rw [bl_irrefl] at h
   cases h
  simp [h, h2, h3]
/-- A string above another one. -/
theorem string_gtr (t : TypeId) (a b : ByteArray) : binOp .gtr t (.string a) (.string b) = pure (.bool (Op.bytesLess b.toList a.toList)) := by
 rw [← bl_not]
 simp [binOp, Op.stringOp]
theorem zero_len (z : Array Value) (n : Nat) : (Builtin.zeroCells z n).toList.length = n * z.size := by simp [Builtin.zeroCells]
/-- 'clear(s)', s a slice of n > 0 elements of several cells. -/
theorem run_clear_rows {P : Program} (w : World) (t e ty : TypeId) (z : Value) (ht : P.underlying t = some (.slice e)) (hv : ∀ w, (zeroValue e).run P w = .ok z w) (h1 : ∀ u ∈ z.cells.toList, u.oneCell' = true) (b o n c : Nat) (hn : 0 < n)
  (hc : ∀ j, j < n * z.cells.size → (w.cell? ⟨b, o + j, none⟩).isSome = true) (hf : ∀ j, j < n * z.cells.size → w.frozen? ⟨b, o + j, none⟩ = false) :
  (Builtin.clear_ #[t] ty #[.slice (some ⟨b, o, none⟩) n c]).run P w = .ok (.tuple #[]) (w.setCells b o (Builtin.zeroCells z.cells n).toList) := by
 have hm : ∀ v ∈ (Builtin.zeroCells z.cells n).toList, v.oneCell' = true := by
  intro v hv'
  simp only [Builtin.zeroCells, Array.toList_map, List.mem_map] at hv'
  obtain ⟨i, hi, rfl⟩ := hv'
  have hi' : i < n * z.cells.size := by simpa using hi
  have hz : 0 < z.cells.size := by
   rcases Nat.eq_zero_or_pos z.cells.size with e | e
   ·rw [e] at hi'; omega
   ·exact e
  have hlt : i % z.cells.size < z.cells.size := Nat.mod_lt _ hz
  rw [getElem!_pos z.cells _ hlt]
  exact h1 _ (by rw [Array.mem_toList_iff]; exact Array.getElem_mem hlt)
 have hst := run_storeCells_cells (P := P) b o (Builtin.zeroCells z.cells n).toList 0 w (by rw [zero_len]; simpa using hc) (by rw [zero_len]; simpa using hf) hm
 simp only [Nat.add_zero] at hst
 obtain ⟨m, rfl⟩ : ∃ m, n = m + 1 := ⟨n - 1, by omega⟩
 simp [Builtin.clear_, run_underlying ht, hv, hst]
/-- The first place where p holds, or -1. -/
def idxI {α : Type} (p : α → Bool) (l : List α) : Int := if l.findIdx p < l.length then (l.findIdx p : Int) else -1
theorem idxI_range {α : Type} (p : α → Bool) (l : List α) : -1 ≤ idxI p l ∧ idxI p l < l.length := by
 unfold idxI
 split <;> omega
section
variable {P : Program}
end
theorem filter_take_next {α : Type} (q : α → Bool) (l : List α) (z : α) (j : Nat) (h : j < l.length) : (l.take (j + 1)).filter q = (l.take j).filter q ++ (if q (l.getD j z) = true then [l.getD j z] else []) := by
 rw [List.take_add_one, List.getElem?_eq_getElem h, Option.toList_some, List.filter_append, List.getD_eq_getElem?_getD, List.getElem?_eq_getElem h]
 simp only [Option.getD_some, List.filter_cons, List.filter_nil]
theorem getD_of_drop {α : Type} {a b : List α} {j : Nat} (z : α) (h : a.drop j = b.drop j) : a.getD j z = b.getD j z := by
 have := congrArg (fun l => l[0]?) h
 simp only [List.getElem?_drop, Nat.add_zero] at this
 rw [List.getD_eq_getElem?_getD, List.getD_eq_getElem?_getD, this]
theorem drop_next {α : Type} {a b : List α} {j : Nat} (h : a.drop j = b.drop j) : a.drop (j + 1) = b.drop (j + 1) := by
 have := congrArg (List.drop 1) h
 simpa [List.drop_drop, Nat.add_comm] using this
/-- What a filter in place has come to: i elements kept of the first j. -/
structure Filt {α : Type} (q : α → Bool) (l cur : List α) (i j : Nat) : Prop where
 len : cur.length = l.length
 ij : i < j
 jn : j ≤ l.length
 kept : cur.take i = (l.take j).filter q
 rest : cur.drop j = l.drop j
theorem Filt.start {α : Type} {p : α → Bool} {l : List α} {i : Nat} (h : idxI p l = (i : Int)) : Filt (fun x => !p x) l l i (i + 1) := by
 have hi : i < l.length := by
  have := (idxI_range p l).2
  omega
 have hf : l.findIdx p = i := by
  unfold idxI at h
  split at h <;> omega
 have hb : ∀ j, j < i → p (l.getD j l[i]) = false := by
  intro j hj
  have hj' : j < l.findIdx p := by omega
  have := List.not_of_lt_findIdx hj'
  have hjl : j < l.length := by omega
  simpa [List.getD_eq_getElem?_getD, hjl] using this
 have hp : p l[i] = true := by
  have := List.findIdx_getElem (p := p) (xs := l) (w := by rw [hf]; exact hi)
  simpa [hf] using this
 refine ⟨rfl, by omega, by omega, ?_, rfl⟩
 rw [filter_take_next (fun x => !p x) l l[i] i hi, show l.getD i l[i] = l[i] by simp [List.getD_eq_getElem?_getD, hi]]
 simp only [hp, Bool.not_true, Bool.false_eq_true, if_false, List.append_nil]
 symm
 apply List.filter_eq_self.2
 intro x hx
 obtain ⟨j, hj, rfl⟩ := List.mem_iff_getElem.1 hx
 rw [List.length_take] at hj
 have := hb j (by omega)
 rw [List.getElem_take]
 have hjl : j < l.length := by omega
 rw [show l.getD j l[i] = l[j] by simp [List.getD_eq_getElem?_getD, hjl]] at this
 simp [this]
theorem Filt.skip {α : Type} {q : α → Bool} {l cur : List α} {i j : Nat} (z : α) (h : Filt q l cur i j) (hj : j < l.length) (hq : q (cur.getD j z) = false) : Filt q l cur i (j + 1) := by
 have e := getD_of_drop z h.rest
 have := h.ij
 refine ⟨h.len, by omega, by omega, ?_, drop_next h.rest⟩
 rw [h.kept, filter_take_next q l z j hj, ← e, if_neg (by rw [hq]; decide), List.append_nil]
theorem Filt.done {α : Type} {q : α → Bool} {l cur : List α} {i j : Nat} (h : Filt q l cur i j) (hj : ¬ j < l.length) : cur.take i = l.filter q := by
 have := h.jn
 rw [h.kept, show j = l.length by omega, List.take_length]
end Go.Proofs.YtckodbfjihcddaaW.Hw
namespace Go.Proofs.YtckodbfjihcddaaW.PrintWords.Kd
open Go.RowKit
section
variable {P : Program} {ops : Array Oper} {rest : List Oper} {o : Oper} {a : Act} {Q : Exit → Act → World → Prop} {α : Type}
end
section
variable {P : Program} {α : Type}
end
end Go.Proofs.YtckodbfjihcddaaW.PrintWords.Kd
namespace Go.Proofs.YtckodbfjihcddaaW.Hw
open Go.RowKit Go.Proofs.YtckodbfjihcddaaW.PrintWords Go.Proofs.YtckodbfjihcddaaW.PrintLast Go.Proofs.YtckodbfjihcddaaW.PrintMore
end Go.Proofs.YtckodbfjihcddaaW.Hw
namespace Go.Proofs.YtckodbfjihcddaaW.PrintWords.Kd
open Go.RowKit
end Go.Proofs.YtckodbfjihcddaaW.PrintWords.Kd
namespace Go.Proofs.YtckodbfjihcddaaW.Hw
open Go.RowKit Go.Proofs.YtckodbfjihcddaaW.PrintWords Go.Proofs.YtckodbfjihcddaaW.PrintLast Go.Proofs.YtckodbfjihcddaaW.PrintMore
end Go.Proofs.YtckodbfjihcddaaW.Hw
namespace Go.Proofs.YtckodbfjihcddaaW.PrintWords
open Go.RowKit Go.Proofs.YtckodbfjihcddaaW.PrintLast Go.Proofs.YtckodbfjihcddaaW.PrintMore
/-- Bits of a number, the first ones first. -/
def bz_ (n v : Nat) : Array Bool := ((List.range n).map (fun i => Nat.testBit v i)).toArray
/-- What stands among the facts. -/
theorem dA_ {p : Prop} [Decidable p] (h : decide p = true := by first | (with_reducible assumption) | assumption) : p := of_decide_eq_true h
/-- A fact moved behind what makes memory and draws. -/
theorem vX_ {p q : Prop} (a : Zq_ p) (h : p → q := by intro h_; (with_reducible repeat (first | apply Kd.R_alloc | apply Kd.R_drewN | apply Kd.R_drew | apply Kd.C_alloc | apply Kd.C_drewN | apply Kd.C_drew)); exact h_) : q := h a.out
/-- All that lay there stays, behind what makes memory and draws. -/
theorem hB_ {p q : Prop} (a : Zq_ p) (h : p → q := by intro h_; repeat (first | (with_reducible first | exact h_ | apply below_alloc | apply pw_below_drewN | apply below_drew1) | exact h_)) : q := h a.out
/-- A block moved behind what makes memory and draws. -/
theorem bK_ {p q : Prop} (a : Zq_ p) (h : p → q := by intro h_; (with_reducible repeat (first | refine blk_drewN ?_ _ | refine blk_drew ?_ | refine blk_alloc ?_ _)); exact h_) : q := h a.out
theorem bP_ {w : World} {g : Nat} {t : TypeId} {cs cs' : Array Value} {u : Value} {q : Prop} (i : Nat) (h : w.heap[g]? = some (.cells cs t (0, 0))) (m : (w.setCell ⟨g, i, none⟩ u).heap[g]? = some (.cells cs' t (0, 0)) → q := by intro h_; (with_reducible repeat (first | refine blk_drewN ?_ _ | refine blk_drew ?_ | refine blk_alloc ?_ _)); exact h_) (e : cs.setIfInBounds i u = cs' := by exact rfl) : q := m (blk_put h i u e)
theorem bF_ {w : World} {g g' : Nat} {t : TypeId} {cs : Array Value} {p : Addr} {u : Value} {q : Prop} (n : Zq_ (g ≠ g')) (h : w.heap[g]? = some (.cells cs t (0, 0))) (m : (w.setCell p u).heap[g]? = some (.cells cs t (0, 0)) → q := by intro h_; (with_reducible repeat (first | refine blk_drewN ?_ _ | refine blk_drew ?_ | refine blk_alloc ?_ _)); exact h_) (e : g' = p.block := by exact rfl) : q := m (blk_far h (e ▸ n.out) u)
theorem gW_ {w W : World} {g : Nat} (hg : g = W.heap.size) (h : Below w.heap.size w W) : Zq_ (w.heap.size ≤ g) := ⟨by rw [hg]; exact qf_ h⟩
theorem cX_ {p q : Prop} (a : p) (h : p → q := by intro h_; repeat (first | exact h_ | (with_reducible refine Kd.C_alloc ?_ _) | (with_reducible refine Kd.C_drewN ?_ _) | (with_reducible refine Kd.C_drew ?_))) : q := h a
/-- hB_, behind stores into what is new, too. -/
theorem hSet_ {p q : Prop} (a : Zq_ p) (h : p → q := by intro h_; repeat (first | (with_reducible first | exact h_ | apply below_alloc | apply pw_below_drewN | apply below_drew1 | refine below_set ?_ (Zq_.out (by assumption))) | exact h_)) : q := h a.out
section
variable {P : Program} {md : Region.Mode} {ops : Array Oper} {Q : Exit → Act → World → Prop} {S : World → Prop} {ds : List Nat} {T : Bool × List (List Nat × List Nat)}
end
end Go.Proofs.YtckodbfjihcddaaW.PrintWords
namespace Go.Proofs.YtckodbfjihcddaaW.PrintWords
open Go.RowKit Go.Proofs.YtckodbfjihcddaaW.PrintLast Go.Proofs.YtckodbfjihcddaaW.PrintMore
/-- What is said, found by the common ways. -/
theorem aR_ {p : Prop} (h : p := by (try simp only [List.map_toArray, List.map_cons, List.map_nil]); first | done | rfl | (simp only [List.length_drop, List.length_take]; rfl)) : p := h
theorem hY_ {α : Type} {y e : α} {p q : Prop} (hy : y = e) (H : p) (h : y = e → p → q := by intro hy_ H; first | (rw [hy_]; with_reducible exact H) | (have H2_ := (Option.bind_some _ _).symm.trans H; rw [hy_]; with_reducible exact H2_) | (have H2_ := (Option.bind_some _ _).symm.trans H; with_reducible exact H2_) | with_reducible exact H | (rw [hy_]; exact H) | exact H) : q := h hy H
theorem kB_ {w W W1 : World} {g : Nat} {o : Obj} (a : Zq_ (w.heap[g]? = some o)) (hb : Below W.heap.size W W1) (h : w.heap[g]? = some o → W.heap[g]? = some o := by intro h_; (with_reducible repeat (first | refine blk_drewN ?_ _ | refine blk_drew ?_ | refine blk_alloc ?_ _)); exact h_) : Zq_ (W1.heap[g]? = some o) := ⟨blk_below (h a.out) hb⟩
theorem nL_ {w W : World} {g g' : Nat} {o : Obj} (a : Zq_ (w.heap[g]? = some o)) (hg : g' = W.heap.size) (h : w.heap[g]? = some o → W.heap[g]? = some o := by intro h_; (with_reducible repeat (first | refine blk_drewN ?_ _ | refine blk_drew ?_ | refine blk_alloc ?_ _)); exact h_) : Zq_ (g ≠ g') := ⟨by rw [hg]; exact Nat.ne_of_lt (blk_lt (h a.out))⟩
theorem nG_ {w W : World} {g g' : Nat} {o : Obj} (a : Zq_ (w.heap[g]? = some o)) (hg : g' = W.heap.size) (h : w.heap[g]? = some o → W.heap[g]? = some o := by intro h_; (with_reducible repeat (first | refine blk_drewN ?_ _ | refine blk_drew ?_ | refine blk_alloc ?_ _)); exact h_) : Zq_ (g' ≠ g) := ⟨by rw [hg]; exact Nat.ne_of_gt (blk_lt (h a.out))⟩
theorem sB_ {w V W W1 : World} (a : Zq_ (Below w.heap.size w V)) (hb : Below W.heap.size W W1) (h : Below w.heap.size w V → Below w.heap.size w W := by intro h_; repeat (first | (with_reducible first | exact h_ | apply below_alloc | apply pw_below_drewN | apply below_drew1 | refine below_set ?_ (Zq_.out (by assumption))) | exact h_)) : Zq_ (Below w.heap.size w W1) := ⟨qd_ (h a.out) hb⟩
theorem eW_ {p : Prop} (h : p := by first | rfl | (simp [errW_none, errW_some] <;> rfl) | (simp [*, errW_none, errW_some] <;> rfl)) : p := h
theorem c3_ {w : World} {g : Nat} {t : TypeId} {c0 c1 c2 : Value} {l : List Value} (h : Zq_ (w.heap[g]? = some (.cells (List.toArray (c0 :: c1 :: c2 :: l)) t (0, 0)))) : w.cell? ⟨g, 0, none⟩ = some c0 ∧ w.cell? ⟨g, 1, none⟩ = some c1 ∧ w.cell? ⟨g, 2, none⟩ = some c2 := ⟨qb_ h.out 0, qb_ h.out 1, qb_ h.out 2⟩
theorem f3_ {w : World} {g : Nat} {t : TypeId} {cs : Array Value} (h : Zq_ (w.heap[g]? = some (.cells cs t (0, 0)))) : w.frozen? ⟨g, 0, none⟩ = false ∧ w.frozen? ⟨g, 1, none⟩ = false ∧ w.frozen? ⟨g, 2, none⟩ = false := ⟨qa_ h.out 0, qa_ h.out 1, qa_ h.out 2⟩
theorem bW3_ {w : World} {g : Nat} {t : TypeId} {u0 u1 u2 c0 c1 c2 : Value} (h : w.heap[g]? = some (.cells #[c0, c1, c2] t (0, 0))) : (((w.setCell ⟨g, 0, none⟩ u0).setCell ⟨g, 1, none⟩ u1).setCell ⟨g, 2, none⟩ u2).heap[g]? = some (.cells #[u0, u1, u2] t (0, 0)) := (blk_put (blk_put (blk_put h 0 u0 rfl) 1 u1 rfl) 2 u2 rfl)
section
variable {P : Program} {ops : Array Oper} {rest : List Oper} {o : Oper} {a : Act} {Q : Exit → Act → World → Prop} {Kc : Act → World → Prop}
theorem bE_ {W : World} (N : Tmp) (cs : Array Value) (t : TypeId)
  (h : ∀ g, g = W.heap.size → ∀ w1, w1.heap[g]? = some (.cells cs t (0, 0)) → Below W.heap.size W w1 → wpList P ops Q rest (a.put o.dst (.pointer (some ⟨g, 0, none⟩))) w1) (hd : o.dst = some N := by rfl) (hg : o.guard = none := by rfl)
  (hr : (execOp a.eval o).run P W = .ok (.value (.pointer (some ⟨W.heap.size, 0, none⟩))) (W.alloc (.cells cs t (0, 0))) := by first | (go_simp; done) | (go_simp; rfl)) : wpList P ops Q (o :: rest) a W := box_event hg hd hr h
end
section
variable {P : Program} {md : Region.Mode} {ops : Array Oper} {Q : Exit → Act → World → Prop} {S : World → Prop} {T : Bool × List (List Nat × List Nat)}
variable {ds : List Nat}
theorem dN_ {l : Array Bool} {a : Act} {w : World} {n : Nat} (hT : Zq_ (rtab md ops = T)) (h : Q .normal a w) (hr : (readyT T.2 l.toList == []) = true := by kernel_rfl) : qg_ P md ops Q S ds n l a w := done_ (done_of hT.out hr) h
end
end Go.Proofs.YtckodbfjihcddaaW.PrintWords

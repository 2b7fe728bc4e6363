/- What printed functions come to, and that the machine's calls do it. No condition. -/
import Derived.Test.YtckodbfjihcddaaProg
import Derived.Test.YtckodbfjihcddaaSec0
import Derived.Below
import Derived.Deep.Draws
import Derived.Deep.AppendLies
import Derived.Maps.AppendAt
import Derived.OwnWalk
import Derived.Laws.BytesArg
import Derived.Laws.MakeOwn
import Derived.Laws.OwnMore
import Derived.Deep.OwnRows
import Derived.Tactics
import Derived.Lib.ConvBytes
import Derived.Laws.Slices
import Derived.WalkKit
import Derived.KernelRfl
import Derived.RowKit3
import Derived.Deep.LoopGhost
import Derived.Deep.QuietTactic
import Derived.BigQuiet
import Derived.WideLaws
import Derived.Deep.DeepCutAuto
import Derived.Deep.CutBlock
import Derived.Deep.RegionHeld3
import Derived.Laws.Rows
import Derived.Lib.AppendStr
import Derived.ArgAppend
import Derived.Laws.IdiomCopy
import Derived.OrdersHeld
import Derived.Laws.BitsLemmas
import Derived.RowKit
namespace Go.Proofs.Ytckodbfjihcddaa.P
open Go.RowKit Go.Proofs.YtckodbfjihcddaaW.PrintWords Go.Proofs.YtckodbfjihcddaaW.PrintLast Go.Proofs.YtckodbfjihcddaaW.PrintMore
attribute [local go_sem] max2_int min2_int max_two min_two max_three min_three max_four min_four
set_option linter.unusedVariables false
set_option linter.unusedSimpArgs false
def errW : Option Int → Value
 | none => .nilIface
 | some c => .iface 0 (.int .i64 c)
theorem errW_none : errW none = .nilIface := rfl
theorem errW_some (c : Int) : errW (some c) = .iface 0 (.int .i64 c) := rfl
theorem info5 : (Try.prog.info? 5).map (fun i => (i.zero, i.size, i.bytes)) = some (some (.int .u8 0), 1, 1) := by kernel_rfl
theorem info26 : (Try.prog.info? 26).map (fun i => (i.zero, i.size, i.bytes)) = some (some (.agg #[(.int .u8 0), (.int .u8 0), (.int .u8 0), (.int .u8 0), (.int .u8 0), (.int .u8 0), (.int .u8 0), (.int .u8 0), (.int .u8 0), (.int .u8 0), (.int .u8 0), (.int .u8 0), (.int .u8 0), (.int .u8 0), (.int .u8 0), (.int .u8 0), (.int .u8 0), (.int .u8 0), (.int .u8 0), (.int .u8 0), (.int .u8 0), (.int .u8 0), (.int .u8 0), (.int .u8 0), (.int .u8 0), (.int .u8 0), (.int .u8 0), (.int .u8 0), (.int .u8 0), (.int .u8 0), (.int .u8 0), (.int .u8 0), (.int .u8 0), (.int .u8 0), (.int .u8 0), (.int .u8 0), (.int .u8 0), (.int .u8 0), (.int .u8 0), (.int .u8 0), (.int .u8 0), (.int .u8 0), (.int .u8 0), (.int .u8 0), (.int .u8 0), (.int .u8 0), (.int .u8 0), (.int .u8 0), (.int .u8 0), (.int .u8 0), (.int .u8 0), (.int .u8 0), (.int .u8 0), (.int .u8 0), (.int .u8 0), (.int .u8 0), (.int .u8 0), (.int .u8 0), (.int .u8 0), (.int .u8 0), (.int .u8 0), (.int .u8 0), (.int .u8 0), (.int .u8 0)]), 64, 64) := by kernel_rfl
theorem info42 : (Try.prog.info? 42).map (fun i => (i.zero, i.size, i.bytes)) = some (some (.agg #[(.int .u8 0), (.int .u8 0), (.int .u8 0), (.int .u8 0), (.int .u8 0), (.int .u8 0), (.int .u8 0), (.int .u8 0), (.int .u8 0), (.int .u8 0), (.int .u8 0), (.int .u8 0), (.int .u8 0), (.int .u8 0), (.int .u8 0), (.int .u8 0), (.int .u8 0), (.int .u8 0), (.int .u8 0), (.int .u8 0), (.int .u8 0), (.int .u8 0), (.int .u8 0), (.int .u8 0), (.int .u8 0), (.int .u8 0), (.int .u8 0), (.int .u8 0), (.int .u8 0), (.int .u8 0), (.int .u8 0), (.int .u8 0), (.int .u8 0), (.int .u8 0), (.int .u8 0), (.int .u8 0), (.int .u8 0), (.int .u8 0), (.int .u8 0), (.int .u8 0), (.int .u8 0), (.int .u8 0), (.int .u8 0), (.int .u8 0), (.int .u8 0), (.int .u8 0), (.int .u8 0), (.int .u8 0), (.int .u8 0), (.int .u8 0), (.int .u8 0), (.int .u8 0), (.int .u8 0), (.int .u8 0), (.int .u8 0), (.int .u8 0), (.int .u8 0), (.int .u8 0), (.int .u8 0), (.int .u8 0), (.int .u8 0), (.int .u8 0), (.int .u8 0), (.int .u8 0), (.int .u8 0)]), 65, 65) := by kernel_rfl
-- the values' own types
abbrev S26 := List Int
def z26 : S26 := List.replicate 64 0
def k26 : Kd S26 := Kd.nar .u8 64
theorem k26_heap : Kd.Heap k26 := Kd.heap_nar .u8 64
def rd_T26 (xs : List S26) (i : Int) : S26 := xs.getD i.toNat z26
def rd_L2 (xs : List (List S26)) (i : Int) : (List S26) := xs.getD i.toNat ([] : List S26)
theorem at_L2 {w : World} {A : Option Addr} {n : Nat} {xs : List (List S26)} (h : Kd.C (Kd.slice 26 k26) w A n xs) (i : Int) (h0 : 0 ≤ i) (h1 : i < n) : ∃ ad A0 c0, A = some ad ∧ w.cell? (ad.add i.toNat) = some (.slice A0 (rd_L2 xs i).length c0) ∧ (rd_L2 xs i).length ≤ c0 ∧ k26.C w A0 (rd_L2 xs i).length (rd_L2 xs i) := by
 obtain ⟨ad, c, e, _, hK, hc0⟩ := Kd.C_get h ([] : List S26) i h0 h1; have hc : ∀ j u, c[j]? = some u → w.cell? (ad.add (i.toNat * 1 + j)) = some u := hc0; obtain ⟨A0, c0, rfl, l0, g0⟩ := hK; exact ⟨ad, A0, c0, e, by have hq := hc 0 _ rfl; rwa [Nat.mul_one, Nat.add_zero] at hq, l0, g0⟩
structure S24 where
 f0 : (List S26)
 f1 : Int
 f2 : Bool
def z24 : S24 := ⟨([] : List S26), (0 : Int), false⟩
def k24 : Kd S24 := Kd.iso (Kd.pair (Kd.slice 26 k26) (Kd.pair (Kd.int .i64) Kd.bool)) (fun x : S24 => (x.f0, x.f1, x.f2))
theorem k24_heap : Kd.Heap k24 := Kd.heap_iso _ (Kd.heap_pair (Kd.heap_slice 26 k26_heap) (Kd.heap_pair (Kd.heap_int .i64) Kd.heap_bool))
theorem k24_open {w : World} {x : S24} {cs : List Value} (h : k24.K w x cs) : ∃ A0 c0, cs = [.slice A0 x.f0.length c0, .int .i64 x.f1, .bool x.f2] ∧ x.f0.length ≤ c0 ∧ k26.C w A0 x.f0.length x.f0 := by
 obtain ⟨_, _, rfl, ⟨A0, c0, rfl, l0, g0⟩, ⟨_, _, rfl, rfl, rfl⟩⟩ := h; exact ⟨A0, c0, rfl, l0, g0⟩
theorem k24_openM {w : World} {base : Nat} {ok : Nat → Prop} {x : S24} {cs : List Value} (h : k24.M w base ok x cs) : ∃ v0, cs = [v0, .int .i64 x.f1, .bool x.f2] ∧ k26.R 26 w base ok v0 x.f0 := by
 obtain ⟨_, _, rfl, ⟨v0, rfl, g0⟩, ⟨_, _, rfl, rfl, rfl⟩⟩ := h; exact ⟨v0, rfl, g0⟩
theorem k24_mk (w : World) (x : S24) {A0 : Option Addr} {c0 : Nat} (l0 : x.f0.length ≤ c0) (g0 : k26.C w A0 x.f0.length x.f0) : k24.K w x [.slice A0 x.f0.length c0, .int .i64 x.f1, .bool x.f2] := ⟨[.slice A0 x.f0.length c0], [.int .i64 x.f1, .bool x.f2], rfl, ⟨A0, c0, rfl, l0, g0⟩, ⟨[.int .i64 x.f1], [.bool x.f2], rfl, rfl, rfl⟩⟩
theorem k24_mkM (w : World) (base : Nat) (ok : Nat → Prop) (x : S24) {v0 : Value} (g0 : k26.R 26 w base ok v0 x.f0) : k24.M w base ok x [v0, .int .i64 x.f1, .bool x.f2] := ⟨[v0], [.int .i64 x.f1, .bool x.f2], rfl, ⟨v0, rfl, g0⟩, ⟨[.int .i64 x.f1], [.bool x.f2], rfl, rfl, rfl⟩⟩
theorem k24_openF {W : World} {ok : Nat → Prop} {x : S24} {cs : List Value} (h : Kd.FK k24 W ok x cs) : ∃ A0 c0, cs = [.slice A0 x.f0.length c0, .int .i64 x.f1, .bool x.f2] ∧ x.f0.length ≤ c0 ∧ Kd.F k26 W ok A0 x.f0.length x.f0 := by
 obtain ⟨A0, c0, rfl, l0, _⟩ := k24_open (Kd.FK_now h); exact ⟨A0, c0, rfl, l0, (fun W' hW => by obtain ⟨A0_, c0_, he, l0_, g0_⟩ := k24_open (h W' hW); injection (Option.some.inj (show some (Value.slice A0 x.f0.length c0) = some (Value.slice A0_ x.f0.length c0_) from congrArg (fun l => l[0]?) he)) with ha_ _ _; rw [ha_]; exact g0_)⟩
theorem k24_mkF (W : World) (ok : Nat → Prop) (x : S24) {A0 : Option Addr} {c0 : Nat} (l0 : x.f0.length ≤ c0) (g0 : Kd.F k26 W ok A0 x.f0.length x.f0) : Kd.FK k24 W ok x [.slice A0 x.f0.length c0, .int .i64 x.f1, .bool x.f2] := fun W2 hW => k24_mk W2 x l0 (g0 W2 hW)
def rd_T24 (xs : List S24) (i : Int) : S24 := xs.getD i.toNat z24
theorem at_T24 {w : World} {A : Option Addr} {n : Nat} {xs : List S24} (h : Kd.C k24 w A n xs) (i : Int) (h0 : 0 ≤ i) (h1 : i < n) : ∃ ad A0 c0, A = some ad ∧ w.cell? (ad.add (i.toNat * 3)) = some (.slice A0 (rd_T24 xs i).f0.length c0) ∧ w.cell? ⟨(ad.add (i.toNat * 3)).block, (ad.add (i.toNat * 3)).off + 1, none⟩ = some (.int .i64 (rd_T24 xs i).f1) ∧ w.cell? ⟨(ad.add (i.toNat * 3)).block, (ad.add (i.toNat * 3)).off + 2, none⟩ = some (.bool (rd_T24 xs i).f2) ∧ (rd_T24 xs i).f0.length ≤ c0 ∧ k26.C w A0 (rd_T24 xs i).f0.length (rd_T24 xs i).f0 := by
 obtain ⟨ad, c, e, _, hK, hc0⟩ := Kd.C_get h z24 i h0 h1; have hc : ∀ j u, c[j]? = some u → w.cell? (ad.add (i.toNat * 3 + j)) = some u := hc0; obtain ⟨A0, c0, rfl, l0, g0⟩ := k24_open hK; exact ⟨ad, A0, c0, e, hc 0 _ rfl, by rw [← add_field _ _ 1 (by omega)]; exact hc 1 _ rfl, by rw [← add_field _ _ 2 (by omega)]; exact hc 2 _ rfl, l0, g0⟩
structure S42 where
 f0 : Int
 f1 : S26
def z42 : S42 := ⟨(0 : Int), z26⟩
def k42 : Kd S42 := Kd.iso (Kd.pair (Kd.int .u8) k26) (fun x : S42 => (x.f0, x.f1))
theorem k42_heap : Kd.Heap k42 := Kd.heap_iso _ (Kd.heap_pair (Kd.heap_int .u8) k26_heap)
def rd_T42 (xs : List S42) (i : Int) : S42 := xs.getD i.toNat z42
def rd_L7 (xs : List (List S42)) (i : Int) : (List S42) := xs.getD i.toNat ([] : List S42)
theorem at_L7 {w : World} {A : Option Addr} {n : Nat} {xs : List (List S42)} (h : Kd.C (Kd.slice 42 k42) w A n xs) (i : Int) (h0 : 0 ≤ i) (h1 : i < n) : ∃ ad A0 c0, A = some ad ∧ w.cell? (ad.add i.toNat) = some (.slice A0 (rd_L7 xs i).length c0) ∧ (rd_L7 xs i).length ≤ c0 ∧ k42.C w A0 (rd_L7 xs i).length (rd_L7 xs i) := by
 obtain ⟨ad, c, e, _, hK, hc0⟩ := Kd.C_get h ([] : List S42) i h0 h1; have hc : ∀ j u, c[j]? = some u → w.cell? (ad.add (i.toNat * 1 + j)) = some u := hc0; obtain ⟨A0, c0, rfl, l0, g0⟩ := hK; exact ⟨ad, A0, c0, e, by have hq := hc 0 _ rfl; rwa [Nat.mul_one, Nat.add_zero] at hq, l0, g0⟩
def rd_L8 (xs : List (List Int)) (i : Int) : (List Int) := xs.getD i.toNat ([] : List Int)
theorem at_L8 {w : World} {A : Option Addr} {n : Nat} {xs : List (List Int)} (h : Kd.C (Kd.slice 5 (Kd.int .u8)) w A n xs) (i : Int) (h0 : 0 ≤ i) (h1 : i < n) : ∃ ad A0 c0, A = some ad ∧ w.cell? (ad.add i.toNat) = some (.slice A0 (rd_L8 xs i).length c0) ∧ (rd_L8 xs i).length ≤ c0 ∧ (Kd.int .u8).C w A0 (rd_L8 xs i).length (rd_L8 xs i) := by
 obtain ⟨ad, c, e, _, hK, hc0⟩ := Kd.C_get h ([] : List Int) i h0 h1; have hc : ∀ j u, c[j]? = some u → w.cell? (ad.add (i.toNat * 1 + j)) = some u := hc0; obtain ⟨A0, c0, rfl, l0, g0⟩ := hK; exact ⟨ad, A0, c0, e, by have hq := hc 0 _ rfl; rwa [Nat.mul_one, Nat.add_zero] at hq, l0, g0⟩
theorem k26_zM (w : World) (base : Nat) (ok : Nat → Prop) : k26.M w base ok z26 [(.int .u8 0), (.int .u8 0), (.int .u8 0), (.int .u8 0), (.int .u8 0), (.int .u8 0), (.int .u8 0), (.int .u8 0), (.int .u8 0), (.int .u8 0), (.int .u8 0), (.int .u8 0), (.int .u8 0), (.int .u8 0), (.int .u8 0), (.int .u8 0), (.int .u8 0), (.int .u8 0), (.int .u8 0), (.int .u8 0), (.int .u8 0), (.int .u8 0), (.int .u8 0), (.int .u8 0), (.int .u8 0), (.int .u8 0), (.int .u8 0), (.int .u8 0), (.int .u8 0), (.int .u8 0), (.int .u8 0), (.int .u8 0), (.int .u8 0), (.int .u8 0), (.int .u8 0), (.int .u8 0), (.int .u8 0), (.int .u8 0), (.int .u8 0), (.int .u8 0), (.int .u8 0), (.int .u8 0), (.int .u8 0), (.int .u8 0), (.int .u8 0), (.int .u8 0), (.int .u8 0), (.int .u8 0), (.int .u8 0), (.int .u8 0), (.int .u8 0), (.int .u8 0), (.int .u8 0), (.int .u8 0), (.int .u8 0), (.int .u8 0), (.int .u8 0), (.int .u8 0), (.int .u8 0), (.int .u8 0), (.int .u8 0), (.int .u8 0), (.int .u8 0), (.int .u8 0)] := ⟨List.length_replicate, rfl⟩
def set3 (W : World) (g : Nat) (v : Value) (f : Int) (b : Bool) : World := ((W.setCell ⟨g, 0, none⟩ v).setCell ⟨g, 1, none⟩ (.int .i64 f)).setCell ⟨g, 2, none⟩ (.bool b)
theorem heap_set {W : World} {g o j : Nat} {v : Value} (h : j ≠ g) : (W.setCell ⟨g, o, none⟩ v).heap[j]? = W.heap[j]? := Below.heap_setCell _ _ _ _ h
theorem set3_far {W : World} {g j : Nat} {v : Value} {f : Int} {b : Bool} (h : j ≠ g) : (set3 W g v f b).heap[j]? = W.heap[j]? := (heap_set h).trans ((heap_set h).trans (heap_set h))
theorem set3_blk {W : World} {g : Nat} {a0 a1 a2 : Value} {t : TypeId} (v : Value) (f : Int) (b : Bool) (h : W.heap[g]? = some (.cells #[a0, a1, a2] t (0, 0))) : (set3 W g v f b).heap[g]? = some (.cells #[v, .int .i64 f, .bool b] t (0, 0)) :=
 blk_put (cs := #[v, .int .i64 f, a2]) (blk_put (cs := #[v, a1, a2]) (blk_put (cs := #[a0, a1, a2]) h 0 v rfl) 1 (.int .i64 f) rfl) 2 (.bool b) rfl
theorem set3_below {w W : World} {g n : Nat} {v : Value} {f : Int} {b : Bool} (h : Below n w W) (hg : n ≤ g) : Below n w (set3 W g v f b) := ((h.setCell hg _).setCell hg _).setCell hg _
/-- The disk's box gd, the box gr of what is handed back. -/
def DSt (P : Nat → Prop) (w W : World) (gd gr : Nat) (v : Value) (f : Int) (b : Bool) (l : List S26) : Prop :=
 W.heap[gd]? = some (.cells #[v, .int .i64 f, .bool b] 24 (0, 0)) ∧ (∃ x0 x1 x2, W.heap[gr]? = some (.cells #[x0, x1, x2] 24 (0, 0))) ∧ gd ≠ gr ∧ (w.heap.size ≤ gd ∧ w.heap.size ≤ gr) ∧ Kd.V k26 26 W w.heap.size (fun k_ => (P k_ ∨ w.heap.size ≤ k_) ∧ k_ ≠ gd ∧ k_ ≠ gr) v l ∧ Below w.heap.size w W
section
variable {P : Nat → Prop} {w W W' : World} {gd gr : Nat} {v v' : Value} {f f' : Int} {b b' : Bool} {l l' : List S26}
theorem DSt.step (h : DSt P w W gd gr v f b l) (hb : Below W.heap.size W W') : DSt P w W' gd gr v f b l := by
 obtain ⟨h1, ⟨x0, x1, x2, h2⟩, h3, h4, h5, h6⟩ := h; exact ⟨blk_below h1 hb, ⟨x0, x1, x2, blk_below h2 hb⟩, h3, h4, Kd.qi_ h5 hb, qd_ h6 hb⟩
/-- The whole disk is set. -/
theorem DSt.setD (h : DSt P w W gd gr v f b l) (f' : Int) (b' : Bool) (hv : Kd.V k26 26 W w.heap.size (fun k_ => (P k_ ∨ w.heap.size ≤ k_) ∧ k_ ≠ gd ∧ k_ ≠ gr) v' l') : DSt P w (set3 W gd v' f' b') gd gr v' f' b' l' := by
 obtain ⟨h1, ⟨x0, x1, x2, h2⟩, h3, h4, h5, h6⟩ := h; exact ⟨set3_blk _ _ _ h1, ⟨x0, x1, x2, (set3_far (Ne.symm h3)).trans h2⟩, h3, h4, Kd.V_step hv (fun k_ hk _ => set3_far hk.2.1), set3_below h6 h4.1⟩
theorem DSt.fuse (h : DSt P w W gd gr v f b l) (f' : Int) : DSt P w (W.setCell ⟨gd, 1, none⟩ (.int .i64 f')) gd gr v f' b l := by
 obtain ⟨h1, ⟨x0, x1, x2, h2⟩, h3, h4, h5, h6⟩ := h; exact ⟨blk_put (cs := #[v, .int .i64 f, .bool b]) h1 1 (.int .i64 f') rfl, ⟨x0, x1, x2, (heap_set (Ne.symm h3)).trans h2⟩, h3, h4, Kd.V_step h5 (fun k_ hk _ => heap_set hk.2.1), h6.setCell h4.1 _⟩
theorem DSt.down (h : DSt P w W gd gr v f b l) (b' : Bool) : DSt P w (W.setCell ⟨gd, 2, none⟩ (.bool b')) gd gr v f b' l := by
 obtain ⟨h1, ⟨x0, x1, x2, h2⟩, h3, h4, h5, h6⟩ := h; exact ⟨blk_put (cs := #[v, .int .i64 f, .bool b]) h1 2 (.bool b') rfl, ⟨x0, x1, x2, (heap_set (Ne.symm h3)).trans h2⟩, h3, h4, Kd.V_step h5 (fun k_ hk _ => heap_set hk.2.1), h6.setCell h4.1 _⟩
theorem DSt.row (h : DSt P w W gd gr v f b l) (hv : Kd.V k26 26 W w.heap.size (fun k_ => (P k_ ∨ w.heap.size ≤ k_) ∧ k_ ≠ gd ∧ k_ ≠ gr) v' l') : DSt P w (W.setCell ⟨gd, 0, none⟩ v') gd gr v' f b l' := by
 obtain ⟨h1, ⟨x0, x1, x2, h2⟩, h3, h4, h5, h6⟩ := h; exact ⟨blk_put (cs := #[v, .int .i64 f, .bool b]) h1 0 v' rfl, ⟨x0, x1, x2, (heap_set (Ne.symm h3)).trans h2⟩, h3, h4, Kd.V_step hv (fun k_ hk _ => heap_set hk.2.1), h6.setCell h4.1 _⟩
/-- What is new to W touches neither box. -/
theorem DSt.news (h : DSt P w W gd gr v f b l) {base : Nat} {ok : Nat → Prop} (hv : Kd.V k26 26 W' base ok v' l') (hok : ∀ k_, ok k_ → W.heap.size ≤ k_ ∨ ((P k_ ∨ w.heap.size ≤ k_) ∧ k_ ≠ gd ∧ k_ ≠ gr)) : Kd.V k26 26 W' w.heap.size (fun k_ => (P k_ ∨ w.heap.size ≤ k_) ∧ k_ ≠ gd ∧ k_ ≠ gr) v' l' := by
 obtain ⟨h1, ⟨x0, x1, x2, h2⟩, h3, h4, h5, h6⟩ := h; refine Kd.V_mono (show Kd.V k26 26 W' w.heap.size ok v' l' from hv) (fun k_ hk => (hok k_ hk).elim (fun hk => ⟨.inr (Nat.le_trans h6.size hk), Nat.ne_of_gt (Nat.lt_of_lt_of_le (blk_lt h1) hk), Nat.ne_of_gt (Nat.lt_of_lt_of_le (blk_lt h2) hk)⟩) id)
/-- Another box is made, and the disk laid into it. -/
theorem DSt.out (h : DSt P w W gd gr v f b l) (hv : Kd.V k26 26 W w.heap.size (fun k_ => (P k_ ∨ w.heap.size ≤ k_) ∧ k_ ≠ gd ∧ k_ ≠ gr) v' l') {g : Nat} {z0 z1 z2 : Value} (hb : Below W.heap.size W W') (hg : W.heap.size ≤ g) (hk : W'.heap[g]? = some (.cells #[z0, z1, z2] 24 (0, 0))) (f' : Int) (b' : Bool) :
  DSt P w (set3 W' g v' f' b') g gr v' f' b' l' := by
 obtain ⟨h1, ⟨x0, x1, x2, h2⟩, h3, h4, h5, h6⟩ := h; have hgr : gr ≠ g := Nat.ne_of_lt (Nat.lt_of_lt_of_le (blk_lt h2) hg); have hwg : w.heap.size ≤ g := Nat.le_trans h6.size hg; refine ⟨set3_blk _ _ _ hk, ⟨x0, x1, x2, (set3_far hgr).trans (blk_below h2 hb)⟩, Ne.symm hgr, ⟨hwg, h4.2⟩, ?_, set3_below (qd_ h6 hb) hwg⟩; exact Kd.V_mono (Kd.V_step (Kd.qi_ (Kd.V_bound hv) hb) (fun k_ hk_ _ => set3_far (Nat.ne_of_lt (Nat.lt_of_lt_of_le hk_.2 hg)))) (fun k_ hk_ => ⟨hk_.1.1, Nat.ne_of_lt (Nat.lt_of_lt_of_le hk_.2 hg), hk_.1.2.2⟩)
/-- What is handed back is set. -/
theorem DSt.back (h : DSt P w W gd gr v f b l) : (set3 W gr v f b).heap[gr]? = some (.cells #[v, .int .i64 f, .bool b] 24 (0, 0)) ∧ Kd.V k26 26 (set3 W gr v f b) w.heap.size (fun k_ => P k_ ∨ w.heap.size ≤ k_) v l ∧ Below w.heap.size w (set3 W gr v f b) := by
 obtain ⟨h1, ⟨x0, x1, x2, h2⟩, h3, h4, h5, h6⟩ := h; exact ⟨set3_blk _ _ _ h2, Kd.V_mono (Kd.V_step h5 (fun k_ hk _ => set3_far hk.2.2)) (fun _ hk => hk.1), set3_below h6 h4.2⟩
/-- Another row is written. -/
theorem DSt.grown (h : DSt P w W gd gr v f b l) {g : Nat} (hg : W.grownBy W' (some g)) (h1 : g ≠ gd) (h2 : g ≠ gr) (hb : Below w.heap.size w W') (hv : Kd.V k26 26 W' w.heap.size (fun k_ => (P k_ ∨ w.heap.size ≤ k_) ∧ k_ ≠ gd ∧ k_ ≠ gr) v l') : DSt P w W' gd gr v f b l' := by
 obtain ⟨e1, ⟨x0, x1, x2, e2⟩, e3, e4, e5, e6⟩ := h; exact ⟨(hg.block gd (blk_lt e1) (fun he => by injection he with he; exact h1 he.symm)).trans e1, ⟨x0, x1, x2, (hg.block gr (blk_lt e2) (fun he => by injection he with he; exact h2 he.symm)).trans e2⟩, e3, e4, hv, hb⟩
end
end Go.Proofs.Ytckodbfjihcddaa.P

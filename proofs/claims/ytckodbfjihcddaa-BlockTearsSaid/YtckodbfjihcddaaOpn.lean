/- What comes in of a type is told by a kind: its cells say it, its numbers are of their kind, its rows and texts within the row's weights. No condition. -/
import Derived.Test.YtckodbfjihcddaaW
import Derived.ChangeArms
import Derived.DataElems
import Derived.SizedLaws
import Derived.OpenShut
namespace Go.Proofs.Ytckodbfjihcddaa.Opn
open Go.RowKit Go.Proofs.YtckodbfjihcddaaW.PrintWords Go.Proofs.YtckodbfjihcddaaW.PrintLast Go.Proofs.YtckodbfjihcddaaW.PrintMore
def Opens {α : Type} (P : Program) (t : TypeId) (d : Kd α) (G : α → Prop) : Prop :=
 P.cellsOf t = d.sz ∧ ∀ {H : Type} (enc : TypeId × Value → H) (w : World) (fuel : Nat) (cs : List Value) (x : DataW H × List MemPlace),
  DataW.trod enc P w 0 (fun _ => true) true fuel t cs = some x → ∃ a : α, d.K w a cs ∧ ((∀ n ∈ DataW.weights P t x.1, n ≤ reachBytes) → G a)
theorem opens_int {P : Program} {t : TypeId} {k : IntKind} (ht : P.underlying t = some (.int k)) (hc : P.cellsOf t = 1) : Opens P t (Kd.int k) (fun n => (Lit.int k n).wf = true) :=
 ⟨hc, fun enc w fuel cs x h => by
  obtain ⟨n, rfl, rfl, hw⟩ := DataW.trod_int ht h
  exact ⟨n, rfl, fun _ => hw⟩⟩
theorem opens_bool {P : Program} {t : TypeId} (ht : P.underlying t = some .bool) (hc : P.cellsOf t = 1) : Opens P t Kd.bool (fun _ => True) :=
 ⟨hc, fun enc w fuel cs x h => by
  obtain ⟨b, rfl, rfl⟩ := DataW.trod_bool ht h
  exact ⟨b, rfl, fun _ => trivial⟩⟩
theorem opens_string {P : Program} {t : TypeId} (ht : P.underlying t = some .string) (hc : P.cellsOf t = 1) : Opens P t Kd.string (fun s => s.size ≤ 140737488351232) :=
 ⟨hc, fun enc w fuel cs x h => by
  obtain ⟨s, rfl, rfl, hw⟩ := DataW.trod_string ht h
  refine ⟨s, rfl, fun hz => ?_⟩
  have := hz s.data.toList.length (by simp [DataW.weights])
  simpa [reachBytes] using this⟩
theorem opens_imp {α : Type} {P : Program} {t : TypeId} {d : Kd α} {G G' : α → Prop} (h : Opens P t d G) (hg : ∀ a, G a → G' a) : Opens P t d G' :=
 ⟨h.1, fun enc w fuel cs x hx => by
  obtain ⟨a, hK, hG⟩ := h.2 enc w fuel cs x hx
  exact ⟨a, hK, fun hz => hg a (hG hz)⟩⟩
theorem opens_iso {α β : Type} {P : Program} {t : TypeId} {d : Kd α} {G : α → Prop} {f : β → α} (g : α → β) (hfg : ∀ a, f (g a) = a) (h : Opens P t d G) : Opens P t (Kd.iso d f) (fun b => G (f b)) :=
 ⟨h.1, fun enc w fuel cs x hx => by
  obtain ⟨a, hK, hG⟩ := h.2 enc w fuel cs x hx
  refine ⟨g a, ?_, ?_⟩
  ·show d.K w (f (g a)) cs
   rw [hfg]; exact hK
  ·intro hz
   show G (f (g a))
   rw [hfg]; exact hG hz⟩
theorem list_of {α : Type} {Q : Nat → α → Prop} : ∀ n, (∀ i, i < n → ∃ a, Q i a) → ∃ l : List α, l.length = n ∧ ∀ i a, l[i]? = some a → Q i a := by
 intro n
 induction n with
 | zero => intro _; exact ⟨[], rfl, fun i a h => by simp at h⟩
 | succ n ih =>
  intro h
  obtain ⟨l, hl, hq⟩ := ih (fun i hi => h i (by omega))
  obtain ⟨a, ha⟩ := h n (by omega)
  refine ⟨l ++ [a], by simp [hl], fun i b hb => ?_⟩
  by_cases hi : i < l.length
  ·rw [List.getElem?_append_left hi] at hb
   exact hq i b hb
  ·have h2 := (List.getElem?_eq_some_iff.1 hb).1
   rw [List.length_append, List.length_singleton] at h2
   have hi' : i = l.length := by omega
   subst hi'
   rw [List.getElem?_append_right (Nat.le_refl _), Nat.sub_self] at hb
   simp at hb
   subst hb
   rw [hl]; exact ha
theorem weightsAll_mem {H : Type} {P : Program} {e : TypeId} : ∀ {l : List (DataW H)} {d : DataW H} {n : Nat}, d ∈ l → n ∈ DataW.weights P e d → n ∈ DataW.weightsAll P e l
 | [], _, _, hd, _ => by simp at hd
 | x :: r, d, n, hd, hn => by
  simp only [DataW.weightsAll, List.mem_append]
  rcases List.mem_cons.1 hd with rfl | hd
  ·exact Or.inl hn
  ·exact Or.inr (weightsAll_mem hd hn)
theorem opens_slice {α : Type} {P : Program} {t e : TypeId} {d : Kd α} {G : α → Prop} {B : Nat} (ht : P.underlying t = some (.slice e)) (hc : P.cellsOf t = 1) (hB : P.bytesOf e = B) (he : Opens P e d G) :
  Opens P t (Kd.slice e d) (fun xs => xs.length ≤ maxLen ∧ xs.length * B ≤ 140737488351232 ∧ ∀ x ∈ xs, G x) := by
 refine ⟨hc, fun enc w fuel cs x h => ?_⟩
 rcases DataW.trod_slice ht h with ⟨rfl, rfl⟩ | ⟨a, len, cap, elems, rest, n, _, rfl, rfl, hb, hl, hm, hlen, hel, hsp, hns⟩
 ·exact ⟨[], ⟨none, 0, rfl, Nat.le_refl _, Kd.C_nil _ _⟩, fun _ => ⟨by simp, by simp, fun x hx => by simp at hx⟩⟩
 ·have each : ∀ i, i < len → ∃ z : α, (∃ c, c.length = d.sz ∧ d.K w z c ∧ ∀ j u, c[j]? = some u → w.cell? (a.add (i * d.sz + j)) = some u) ∧
    ((∀ y, elems[i]? = some y → ∀ m ∈ DataW.weights P e y.1, m ≤ reachBytes) → G z) := by
   intro i hi
   have h1 := hel i hi
   obtain ⟨y, hy⟩ : ∃ y, elems[i]? = some y := ⟨elems[i]'(by omega), List.getElem?_eq_getElem (by omega)⟩
   rw [hy, Option.bind_eq_some_iff] at h1
   obtain ⟨c, hcells, htr⟩ := h1
   obtain ⟨hb0, hlc, hcc⟩ := World.cells?_some hcells
   obtain ⟨z, hK, hG⟩ := he.2 enc w n c y htr
   rw [he.1] at hlc hcc
   refine ⟨z, ⟨c, hlc, hK, fun j u hu => ?_⟩, fun hz => hG (hz y hy)⟩
   have hj : j < c.length := (List.getElem?_eq_some_iff.1 hu).1
   have h2 := hcc j (by omega)
   rw [Addr.add_add, hu] at h2
   exact h2
  obtain ⟨xs, hxl, hxs⟩ := list_of len each
  subst hxl
  refine ⟨xs, ⟨some a, cap, rfl, hl, rfl, ?_, fun hn => ⟨a, rfl, fun j p hj => (hxs j p hj).1⟩⟩, fun hz => ⟨Nat.le_trans hl hm, ?_, fun z hz' => ?_⟩⟩
  ·have : cap ≤ 9223372036854775807 := hm
   omega
  ·have h1 := hz ((elems.map (·.1)).length * B + (rest.map (·.1)).length * B) (by simp [DataW.weights, ht, hB, Nat.add_mul])
   have h2 : (elems.map (·.1)).length = xs.length := by simp [hlen]
   rw [h2] at h1
   have h3 : reachBytes = 140737488351232 := rfl
   omega
  ·obtain ⟨i, hi⟩ := List.getElem?_of_mem hz'
   refine (hxs i z hi).2 (fun y hy m hmem => hz m ?_)
   have hy' : y.1 ∈ elems.map (·.1) := List.mem_map.2 ⟨y, List.mem_of_getElem? hy, rfl⟩
   simp only [DataW.weights, ht]
   exact List.mem_cons_of_mem _ (List.mem_append_left _ (weightsAll_mem hy' hmem))
structure OpensF {α : Type} (P : Program) (fs : List Field) (o : Nat) (d : Kd α) (G : α → Prop) : Prop where
 tells : ∀ {H : Type} (enc : TypeId × Value → H) (w : World) (fuel : Nat) (cs : List Value) (xs : List (DataW H × List MemPlace)),
  cs.length = o + d.sz → xs.length = fs.length →
  (∀ (i : Nat) (f : Field), fs[i]? = some f → DataW.trod enc P w 0 (fun _ => true) true fuel f.type ((cs.drop f.offset).take (P.cellsOf f.type)) = xs[i]?) →
  ∃ a : α, d.K w a (cs.drop o) ∧ ((∀ n ∈ DataW.weightsEach P (fs.map (·.type)) (xs.map (·.1)), n ≤ reachBytes) → G a)
theorem opensF_one {α : Type} {P : Program} {f : Field} {t o : Nat} {d : Kd α} {G : α → Prop} (hf : f.type = t) (ho : f.offset = o) (h : Opens P t d G) : OpensF P [f] o d G := by
 constructor
 intro H enc w fuel cs xs hl hxl hx
 subst hf ho
 match xs, hxl with
 | [y], _ =>
  have h1 := hx 0 f rfl
  rw [h.1, List.take_of_length_le (by rw [List.length_drop]; omega)] at h1
  obtain ⟨a, hK, hG⟩ := h.2 enc w fuel _ y h1
  refine ⟨a, hK, fun hz => hG (fun n hn => hz n ?_)⟩
  simp [DataW.weightsEach, hn]
theorem opensF_cons {α β : Type} {P : Program} {f : Field} {fs : List Field} {t o o' : Nat} {d : Kd α} {d' : Kd β} {G : α → Prop} {G' : β → Prop} (hf : f.type = t) (ho : f.offset = o) (h : Opens P t d G) (ho' : o + d.sz = o') (h' : OpensF P fs o' d' G') :
  OpensF P (f :: fs) o (Kd.pair d d') (fun p => G p.1 ∧ G' p.2) := by
 constructor
 intro H enc w fuel cs xs hl hxl hx
 subst hf ho ho'
 match xs, hxl with
 | y :: ys, hxl =>
  have hsz : (Kd.pair d d').sz = d.sz + d'.sz := rfl
  rw [hsz] at hl
  have h1 := hx 0 f rfl
  rw [h.1] at h1
  obtain ⟨a, hK, hG⟩ := h.2 enc w fuel _ y h1
  obtain ⟨b, hK', hG'⟩ := h'.tells enc w fuel cs ys (by omega) (by simpa using hxl) (fun i g hg => by simpa using hx (i + 1) g (by simpa using hg))
  refine ⟨(a, b), ⟨_, _, ?_, hK, hK'⟩, fun hz => ⟨hG (fun n hn => hz n ?_), hG' (fun n hn => hz n ?_)⟩⟩
  ·rw [← List.drop_drop, List.take_append_drop]
  ·simp only [List.map_cons, DataW.weightsEach, List.mem_append]; exact Or.inl hn
  ·simp only [List.map_cons, DataW.weightsEach, List.mem_append]; exact Or.inr hn
theorem opens_struct {α : Type} {P : Program} {t : TypeId} {fs : Array Field} {d : Kd α} {G : α → Prop} (ht : P.underlying t = some (.struct fs)) (hc : P.cellsOf t = d.sz) (h : OpensF P fs.toList 0 d G) : Opens P t d G := by
 refine ⟨hc, fun enc w fuel cs x hx => ?_⟩
 obtain ⟨xs, n, _, rfl, hl, hxl, hget⟩ := DataW.trod_struct ht hx
 obtain ⟨a, hK, hG⟩ := h.tells enc w n cs xs (by omega) (by simpa using hxl) (fun i f hf => hget i f (by simpa using hf))
 refine ⟨a, by simpa using hK, fun hz => hG (fun m hm => hz m ?_)⟩
 simpa [DataW.weights, ht] using hm
/-- The elements of an array, told one behind another. -/
structure OpensA {α : Type} (P : Program) (e : TypeId) (n : Nat) (d : Kd α) (G : α → Prop) : Prop where
 tells : ∀ {H : Type} (enc : TypeId × Value → H) (w : World) (fuel : Nat) (cs : List Value) (xs : List (DataW H × List MemPlace)),
  cs.length = d.sz → xs.length = n →
  (∀ (i : Nat), i < n → DataW.trod enc P w 0 (fun _ => true) true fuel e ((cs.drop (i * P.cellsOf e)).take (P.cellsOf e)) = xs[i]?) →
  ∃ a : α, d.K w a cs ∧ ((∀ m ∈ DataW.weightsAll P e (xs.map (·.1)), m ≤ reachBytes) → G a)
theorem opensA_one {α : Type} {P : Program} {e : TypeId} {d : Kd α} {G : α → Prop} (h : Opens P e d G) : OpensA P e 1 d G := by
 constructor
 intro H enc w fuel cs xs hl hxl hx
 match xs, hxl with
 | [y], _ =>
  have h1 := hx 0 (by omega)
  rw [Nat.zero_mul, List.drop_zero, h.1, List.take_of_length_le (by omega)] at h1
  obtain ⟨a, hK, hG⟩ := h.2 enc w fuel _ y h1
  refine ⟨a, hK, fun hz => hG (fun m hm => hz m ?_)⟩
  simp [DataW.weightsAll, hm]
theorem opensA_cons {α β : Type} {P : Program} {e : TypeId} {n n' : Nat} {d : Kd α} {d' : Kd β} {G : α → Prop} {G' : β → Prop} (h : Opens P e d G) (hn : n' = n + 1) (h' : OpensA P e n d' G') :
  OpensA P e n' (Kd.pair d d') (fun p => G p.1 ∧ G' p.2) := by
 subst hn
 constructor
 intro H enc w fuel cs xs hl hxl hx
 match xs, hxl with
 | y :: ys, hxl =>
  have hsz : (Kd.pair d d').sz = d.sz + d'.sz := rfl
  rw [hsz] at hl
  have h1 := hx 0 (by omega)
  rw [Nat.zero_mul, List.drop_zero, h.1] at h1
  obtain ⟨a, hK, hG⟩ := h.2 enc w fuel _ y h1
  obtain ⟨b, hK', hG'⟩ := h'.tells enc w fuel (cs.drop d.sz) ys (by simp; omega) (by simpa using hxl) (fun i hi => by
   have h2 := hx (i + 1) (by omega)
   rw [Nat.add_mul, Nat.one_mul, h.1, Nat.add_comm, ← List.drop_drop] at h2
   rw [h.1]
   simpa using h2)
  refine ⟨(a, b), ⟨_, _, ?_, hK, hK'⟩, fun hz => ⟨hG (fun m hm => hz m ?_), hG' (fun m hm => hz m ?_)⟩⟩
  ·exact (List.take_append_drop _ _).symm
  ·simp only [List.map_cons, DataW.weightsAll, List.mem_append]; exact Or.inl hm
  ·simp only [List.map_cons, DataW.weightsAll, List.mem_append]; exact Or.inr hm
theorem opens_array {α : Type} {P : Program} {t e : TypeId} {n : Nat} {d : Kd α} {G : α → Prop} (ht : P.underlying t = some (.array n e)) (hc : P.cellsOf t = d.sz) (h : OpensA P e n d G) : Opens P t d G := by
 refine ⟨hc, fun enc w fuel cs x hx => ?_⟩
 obtain ⟨xs, m, _, rfl, hl, hxl, hget⟩ := DataW.trod_array ht hx
 obtain ⟨a, hK, hG⟩ := h.tells enc w m cs xs (by omega) hxl hget
 refine ⟨a, hK, fun hz => hG (fun k hk => hz k ?_)⟩
 simpa [DataW.weights, ht] using hk
/-- What a row hands over of one argument. -/
theorem opens_arg {α H : Type} {P : Program} {t : TypeId} {d : Kd α} {G : α → Prop} (h : Opens P t d G) {enc : TypeId × Value → H} {W : World} {v : Value} {x : DataW H} {ps : List MemPlace} (hx : DataW.Trod enc P W 0 (fun _ => true) true t v x ps)
  {ts : List TypeId} {ds : List (DataW H)} {j : Nat} (hsz : (DataW.weightsEach P ts ds).all (· ≤ reachBytes) = true) (ht : ts[j]? = some t) (hd : ds[j]? = some x) : ∃ a : α, d.K W a v.cells.toList ∧ G a := by
 obtain ⟨fuel, hf⟩ := hx
 obtain ⟨a, hK, hG⟩ := h.2 enc W fuel _ (x, ps) hf
 refine ⟨a, hK, hG (fun n hn => ?_)⟩
 have := List.all_eq_true.1 hsz n (DataW.weights_mem_each ht hd n hn)
 simpa using this
end Go.Proofs.Ytckodbfjihcddaa.Opn

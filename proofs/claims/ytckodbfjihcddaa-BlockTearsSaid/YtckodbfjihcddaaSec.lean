/- What comes in of a whole array of numbers. No program runs here. No condition. -/
import Derived.Test.YtckodbfjihcddaaSec0
import Derived.Test.YtckodbfjihcddaaOpn
namespace Go.Proofs.Ytckodbfjihcddaa.Opn
set_option linter.unusedVariables false
set_option linter.unusedSimpArgs false
open Go.RowKit Go.Proofs.YtckodbfjihcddaaW.PrintWords Go.Proofs.YtckodbfjihcddaaW.PrintLast Go.Proofs.YtckodbfjihcddaaW.PrintMore
theorem opensA_nar {P : Program} {e : TypeId} {k : IntKind} {G : Int → Prop} (h : Opens P e (Kd.int k) G) : ∀ n, OpensA P e n (Kd.nar k n) (fun xs => ∀ x ∈ xs, G x)
 | 0 => by
  constructor
  intro H enc w fuel cs xs hl hxl hx
  have hl : cs.length = 0 := hl
  obtain rfl := List.eq_nil_of_length_eq_zero hl
  exact ⟨[], ⟨rfl, rfl⟩, fun _ x hx => by simp at hx⟩
 | n + 1 => by
  constructor
  intro H enc w fuel cs xs hl hxl hx
  have hl : cs.length = n + 1 := hl
  match xs, hxl with
  | y :: ys, hxl =>
   have hc : P.cellsOf e = 1 := h.1
   have h1 := hx 0 (by omega)
   rw [Nat.zero_mul, List.drop_zero, hc] at h1
   obtain ⟨a, hK, hG⟩ := h.2 enc w fuel _ y h1
   obtain ⟨b, hK', hG'⟩ := (opensA_nar h n).tells enc w fuel (cs.drop 1) ys (by show (cs.drop 1).length = n; rw [List.length_drop]; omega) (by simpa using hxl) (fun i hi => by
    have h2 := hx (i + 1) (by omega)
    rw [Nat.add_mul, Nat.one_mul, hc, Nat.add_comm, ← List.drop_drop] at h2
    rw [hc]
    simpa using h2)
   have hK : cs.take 1 = [Value.int k a] := hK
   have hK' : b.length = n ∧ cs.drop 1 = b.map (Value.int k) := hK'
   refine ⟨a :: b, ⟨by rw [List.length_cons, hK'.1], ?_⟩, fun hz x hx => ?_⟩
   ·rw [← List.take_append_drop 1 cs, hK, hK'.2]; rfl
   ·rcases List.mem_cons.1 hx with rfl | hx
    ·exact hG (fun m hm => hz m (by simp only [List.map_cons, DataW.weightsAll, List.mem_append]; exact Or.inl hm))
    ·exact hG' (fun m hm => hz m (by simp only [List.map_cons, DataW.weightsAll, List.mem_append]; exact Or.inr hm)) x hx
end Go.Proofs.Ytckodbfjihcddaa.Opn

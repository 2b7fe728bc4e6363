/- The kind of a whole array of numbers: an array is one element, its cells are a list. No program runs here. No condition. -/
import Derived.Test.YtckodbfjihcddaaW
namespace Go.Proofs.YtckodbfjihcddaaW.PrintWords.Kd
set_option linter.unusedVariables false
set_option linter.unusedSimpArgs false
open Go.RowKit
/-- An array of n whole numbers, as one. -/
def nar (k : IntKind) (n : Nat) : Kd (List Int) where
 sz := n
 E := []
 K := fun _ x cs => x.length = n ∧ cs = x.map (Value.int k)
 M := fun _ _ _ x cs => x.length = n ∧ cs = x.map (Value.int k)
 K_len := fun h => by rw [h.2, List.length_map]; exact h.1
 K_one := fun h u hu => by
  rw [h.2] at hu
  obtain ⟨a, _, rfl⟩ := List.mem_map.1 hu
  rfl
 K_below := fun _ h => h
 K_of_M := fun h => h
 M_mono := fun _ h => h
 M_bound := fun h => h
 M_move := fun _ h => h
 M_lower := fun _ h => h
theorem heap_nar (k : IntKind) (n : Nat) : Heap (nar k n) := ⟨fun _ h => h⟩
end Go.Proofs.YtckodbfjihcddaaW.PrintWords.Kd

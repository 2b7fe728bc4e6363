/- What this function of the program comes to, and that the machine's call does it: written by a program (wip/tool). No condition. -/
import Derived.Test.YtkojggbogdjmcaaP0
import Derived.Test.YtkojggbogdjmcaaHw
namespace Go.Proofs.Ytkojggbogdjmcaa.P
open Go.RowKit Go.Proofs.YtkojggbogdjmcaaW.PrintWords Go.Proofs.YtkojggbogdjmcaaW.PrintLast Go.Proofs.YtkojggbogdjmcaaW.PrintMore
attribute [local go_sem] max2_int min2_int max_two min_two max_three min_three max_four min_four   -- for this text's walks alone
set_option linter.unusedVariables false
set_option linter.unusedSimpArgs false
/-! ### bits_Add64: function 27 -/
def bits_Add64.f (x y c : Int) : Option (Int × Int) := if c = 0 then some (((x.toNat + y.toNat) % 18446744073709551616 : Nat), ((x.toNat + y.toNat) / 18446744073709551616 : Nat)) else none
theorem bits_Add64.run (x y c t1 t2 : Int) (w : World) (h : bits_Add64.f x y c = some (t1, t2)) :
  (callFunc 27 #[.int .u64 x, .int .u64 y, .int .u64 c]).run Try.prog w = .ok (.value (.tuple #[.int .u64 t1, .int .u64 t2])) w := by
 unfold bits_Add64.f at h
 split at h
 ·rename_i hc
  subst hc
  cases h
  rw [run_callFunc_extern (fn := Try.f27) Try.func27 (by kernel_rfl) (by kernel_rfl) (by kernel_rfl) (e := add64Entry) (by kernel_rfl)]
  rfl
 ·cases h
end Go.Proofs.Ytkojggbogdjmcaa.P

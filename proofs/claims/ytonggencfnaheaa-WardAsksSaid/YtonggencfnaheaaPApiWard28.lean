/- What this function of the program comes to, and that the machine's call does it: written by a program (wip/tool). No condition. -/
import Derived.Test.YtonggencfnaheaaP0
import Derived.Test.YtonggencfnaheaaPApiWard31
import Derived.Test.YtonggencfnaheaaHw
namespace Go.Proofs.Ytonggencfnaheaa.P
open Go.RowKit Go.Proofs.YtonggencfnaheaaW.PrintWords Go.Proofs.YtonggencfnaheaaW.PrintLast Go.Proofs.YtonggencfnaheaaW.PrintMore
attribute [local go_sem] max2_int min2_int max_two min_two max_three min_three max_four min_four Go.Proofs.YtonggencfnaheaaW.Hw.string_gtr   -- for this text's walks alone
set_option linter.unusedVariables false
set_option linter.unusedSimpArgs false
/-! ### api_Ward_28: function 28 -/
open Go.Proofs.YtonggencfnaheaaW.Hw in
set_option maxHeartbeats 4000000 in
theorem ContainsFuncW.calls (p : S44 → Bool) (g : Nat) (lb : Array Value) (eg : ∀ args w, (callFunc g args).run Try.prog w = .ok (.enter g args) w) (A0 : Option Addr) (c0 : Nat) (l0 : List S44) (w : World)
  (hp : PredK Try.prog k44 g lb aggOf p w) (hr0 : Kd.C k44 w A0 l0.length l0) :
  Calls Try.prog 28 #[.slice A0 l0.length c0, .func (.func g) #[] lb] w fun e w' => e = .returned (.bool (l0.any p)) ∧ Below w.heap.size w w' := by
 have hcall := IndexFuncW.calls p g lb eg A0 c0 l0 w hp hr0
 rw [← idxI_any]
 generalize idxI p l0 = r at hcall ⊢
 clear hp hr0
 go_enter Try.func28, Try.ntmps28
 go_wp2_with fail
 refine hcall.mono ?_
 rintro e w1 ⟨rfl, hb1⟩
 go_wp2_with fail
 go_ret
 exact ⟨rfl, hb1⟩
end Go.Proofs.Ytonggencfnaheaa.P

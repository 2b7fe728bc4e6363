/- WindowForgets: for every input the law returns true, and each argument reads behind the call as it read before. No condition. -/
import Derived.Test.YtkojggbogdjmcaaRows
import Derived.Test.YtkojggbogdjmcaaPLaw10WindowForgets
import Derived.Test.YtkojggbogdjmcaaOpn
import Derived.Test.YtkojggbogdjmcaaOps
import Derived.Test.YtkojggbogdjmcaaPl10WindowForgets
import Derived.WalkKit
import Derived.ProofKit
import Derived.OpenShut
import Derived.ShutString
import Derived.ChangeOld
import Derived.Below
import Derived.SizedLaws
namespace Go.Proofs.Ytkojggbogdjmcaa.windowForgets
open Go.ChangeShapes Go.WideShapes Go.ChangeAt Go.RowKit Go.Proofs.Ytkojggbogdjmcaa.P Go.Proofs.Ytkojggbogdjmcaa.Opn Go.Proofs.YtkojggbogdjmcaaW.PrintWords Go.Proofs.YtkojggbogdjmcaaW.PrintLast Go.Proofs.YtkojggbogdjmcaaW.PrintMore
open Go.ChangeMaps (open_string shut_string)
set_option linter.unusedVariables false
theorem own : ownKnob Try.prog.godebug = none := by kernel_rfl
theorem laidOut : laidOutB Try.prog = true := by kernel_rfl
set_option maxHeartbeats 4000000 in
set_option maxRecDepth 100000 in
theorem lifted (os : Os) (started : os.Started) (H : Type) (enc : TypeId × Value → H) :
  ReturnsInHanded {} Try.checked os 4 .any (Rows.windowForgetsSpec.pre6 enc Try.prog Try.f4 Rows.windowForgetsRow.domain false) (Rows.windowForgetsSpec.post enc Try.prog Try.f4 false true false false) := by
 refine returnsInHanded_of_change_sized (C := Try.checked) own started (by kernel_rfl) Try.func4
  (ChangeSpec.witness6 (enc := enc) (C := Try.checked) false ⟨#[], #[.agg #[.int .i64 0, .slice none 0 0], .agg #[.int .u8 0, .int .u8 0, .int .u8 0, .int .u8 0, .int .u8 0, .int .u8 0, .int .u8 0, .int .u8 0, .int .u8 0, .int .u8 0, .int .u8 0, .int .u8 0, .int .u8 0, .int .u8 0, .int .u8 0, .int .u8 0]], []⟩ 8 (by kernel_rfl) (by kernel_rfl) (by kernel_rfl) (by kernel_rfl)) ?_
 intro W base args ds gs before hval0 hW hcnd hsz0 _
 have hsz : (DataW.weightsEach Try.prog (Try.f4.params.toList ++ Rows.windowForgetsSpec.plain.varTypes Try.prog) (ds ++ gs)).all (· ≤ reachBytes) = true := hsz0
 have hval : ∀ (j : Nat) t v, Try.f4.params[j]? = some t → args[j]? = some v → Value.okWide Try.prog W .any base t v := hval0
 have hW' := hW
 obtain ⟨p, q, hA0, hV, rfl, hfz, hnd⟩ := hW
 have hA : DataW.TrodAll enc Try.prog W 0 (fun _ => true) true Try.f4.params.toList args.toList ds p := hA0
 rw [Try.params4] at hA hval hsz
 obtain ⟨v0, vs0, d0, ds0, p0, q0, hargs, rfl, rfl, h0, r0⟩ := trodAll_cons hA
 obtain ⟨v1, vs1, d1, ds1, p1, q1, rfl, rfl, rfl, h1, r1⟩ := trodAll_cons r0
 obtain ⟨rfl, rfl, rfl⟩ := trodAll_nil r1
 obtain rfl : args = #[v0, v1] := by cases args; simp_all
 obtain ⟨rfl, rfl⟩ := trodVars_none hV
 have kt0 := h0
 have lt0 : ∀ x ∈ p0, x.block < W.heap.size := by obtain ⟨m, hm⟩ := kt0; exact DataW.trod_lt m _ _ _ hm
 obtain ⟨x0, hK0, g0⟩ := opens_arg op27 h0 hsz (j := 0) rfl rfl
 obtain ⟨cs0, rfl, _, _⟩ := (show ∃ cs, v0 = Value.agg cs ∧ cs.size = Try.prog.cellsOf 27 ∧ Row.okWide Try.prog W .any base 27 cs by have z := (hval 0 27 v0 rfl rfl); unfold Value.okWide at z; rw [Try.underlying27] at z; exact z)
 have hK0 : k27.K W x0 cs0.toList := hK0
 obtain ⟨A0_1, c0_1, e0, hc0_1, hr0_1⟩ := k27_open hK0
 obtain rfl : cs0 = #[(.int .i64 x0.f0), (.slice A0_1 x0.f1.length c0_1)] := by cases cs0; simp_all
 have kt1 := h1
 have lt1 : ∀ x ∈ p1, x.block < W.heap.size := by obtain ⟨m, hm⟩ := kt1; exact DataW.trod_lt m _ _ _ hm
 obtain ⟨x1, hK1, g1⟩ := opens_arg op35 h1 hsz (j := 1) rfl rfl
 obtain ⟨cs1, rfl, _, _⟩ := (show ∃ cs, v1 = Value.agg cs ∧ cs.size = Try.prog.cellsOf 35 ∧ Row.okWide Try.prog W .any base 35 cs by have z := (hval 1 35 v1 rfl rfl); unfold Value.okWide at z; rw [Try.underlying35] at z; exact z)
 have hK1 : k35.K W x1 cs1.toList := hK1
 have e1 := k35_open hK1
 obtain rfl : cs1 = #[(.int .u8 x1.f0), (.int .u8 x1.f1), (.int .u8 x1.f2), (.int .u8 x1.f3), (.int .u8 x1.f4), (.int .u8 x1.f5), (.int .u8 x1.f6), (.int .u8 x1.f7), (.int .u8 x1.f8), (.int .u8 x1.f9), (.int .u8 x1.f10), (.int .u8 x1.f11), (.int .u8 x1.f12), (.int .u8 x1.f13), (.int .u8 x1.f14), (.int .u8 x1.f15)] := by cases cs1; simp_all
 clear hA0 hval0 hsz0 hsz
 obtain ⟨k, h⟩ := Pl.WindowForgets x0 x1 g0 g1
 refine (law10_WindowForgets.calls k x0.f0 _ _ x0.f1 x1.f0 x1.f1 x1.f2 x1.f3 x1.f4 x1.f5 x1.f6 x1.f7 x1.f8 x1.f9 x1.f10 x1.f11 x1.f12 x1.f13 x1.f14 x1.f15 true W hr0_1 hc0_1 h rfl rfl).mono fun e W' ⟨he, bel0⟩ => ?_
 have bel : Below W.heap.size W W' := bel0
 subst he
 exact ⟨_, rfl, _, _, _, [], _, [], hW', trodAll_mk1 (shut_bool Try.underlying4 _), (trodAll_cons_mk (Below.trod laidOut (by kernel_rfl) (of_decide_eq_true (by kernel_rfl)) kt0 bel lt0) (trodAll_cons_mk (Below.trod laidOut (by kernel_rfl) (of_decide_eq_true (by kernel_rfl)) kt1 bel lt1) trodAll_mk0)), rfl, bel.frame _, fun h => by cases h⟩
theorem and_mk {a b : Bool} (ha : a = true) (hb : b = true) : (a && b) = true := by rw [ha, hb]; rfl
set_option maxHeartbeats 4000000 in
set_option maxRecDepth 100000 in
theorem closed : joinedFacts Try.pinned.checked.prog 4 Try.f4 Rows.windowForgetsSpec Rows.windowForgetsRow = true := by
 unfold joinedFacts
 repeat' (with_reducible refine and_mk ?_ ?_)
 all_goals (as_aux_lemma => kernel_rfl)
theorem named : Try.pinned.checked.prog.funcNamed Rows.windowForgetsRow.func = some 4 := by kernel_rfl
theorem over : Rows.windowForgetsRow.holds Try.pinned (OpenSpec.ofChange Rows.windowForgetsSpec) :=
 OpenClaim.holds_of_wide 4 Try.f4 rfl rfl rfl rfl rfl rfl rfl ⟨rfl, rfl, rfl, rfl, rfl⟩ rfl rfl rfl rfl rfl named Try.func4 closed
  (of_decide_eq_true (by kernel_rfl)) (by unfold Func.isWrapper; first | (rw [if_pos (by decide +kernel)]; kernel_rfl) | (rw [if_neg (by decide +kernel)]; exact ⟨rfl, rfl⟩))
  (fun os started H enc _ => lifted os started H enc)
theorem proved : Rows.WindowForgetsSaid := over
#print axioms proved
end Go.Proofs.Ytkojggbogdjmcaa.windowForgets
namespace Go.Proofs.Ytkojggbogdjmcaa
/-- The row, under a short name, for the claim. -/
theorem windowForgets_holds : Rows.WindowForgetsSaid := windowForgets.proved
end Go.Proofs.Ytkojggbogdjmcaa

/- DeltaWhole: for every input the law returns true, and each argument reads behind the call as it read before. No condition. -/
import Derived.Test.YtgipbmjkgciccaaRows
import Derived.Test.YtgipbmjkgciccaaPLaw08DeltaWhole
import Derived.Test.YtgipbmjkgciccaaOpn
import Derived.Test.YtgipbmjkgciccaaOps
import Derived.Test.YtgipbmjkgciccaaPl08DeltaWhole
import Derived.WalkKit
import Derived.ProofKit
import Derived.OpenShut
import Derived.ShutString
import Derived.ChangeOld
import Derived.Below
import Derived.SizedLaws
namespace Go.Proofs.Ytgipbmjkgciccaa.deltaWhole
open Go.ChangeShapes Go.WideShapes Go.ChangeAt Go.RowKit Go.Proofs.Ytgipbmjkgciccaa.P Go.Proofs.Ytgipbmjkgciccaa.Opn Go.Proofs.YtgipbmjkgciccaaW.PrintWords Go.Proofs.YtgipbmjkgciccaaW.PrintLast Go.Proofs.YtgipbmjkgciccaaW.PrintMore
open Go.ChangeMaps (open_string shut_string)
set_option linter.unusedVariables false
theorem own : ownKnob Try.prog.godebug = none := by kernel_rfl
theorem laidOut : laidOutB Try.prog = true := by kernel_rfl
set_option maxHeartbeats 4000000 in
set_option maxRecDepth 100000 in
theorem lifted (os : Os) (started : os.Started) (H : Type) (enc : TypeId × Value → H) :
  ReturnsInHanded {} Try.checked os 4 .any (Rows.deltaWholeSpec.pre6 enc Try.prog Try.f4 Rows.deltaWholeRow.domain false) (Rows.deltaWholeSpec.post enc Try.prog Try.f4 false true false false) := by
 refine returnsInHanded_of_change_sized (C := Try.checked) own started (by kernel_rfl) Try.func4
  (ChangeSpec.witness6 (enc := enc) (C := Try.checked) false ⟨#[], #[.slice none 0 0, .slice none 0 0], []⟩ 8 (by kernel_rfl) (by kernel_rfl) (by kernel_rfl) (by kernel_rfl)) ?_
 intro W base args ds gs before hval0 hW hcnd hsz0 _
 have hsz : (DataW.weightsEach Try.prog (Try.f4.params.toList ++ Rows.deltaWholeSpec.plain.varTypes Try.prog) (ds ++ gs)).all (· ≤ reachBytes) = true := hsz0
 have hval : ∀ (j : Nat) t v, Try.f4.params[j]? = some t → args[j]? = some v → Value.okWide Try.prog W .any base t v := hval0
 have hW' := hW
 obtain ⟨p, q, hA0, hV, rfl, hfz, hnd⟩ := hW
 have hA : DataW.TrodAll enc Try.prog W 0 (fun _ => true) true Try.f4.params.toList args.toList ds p := hA0
 rw [Try.params4] at hA hval hsz
 obtain ⟨v0, vs0, d0, ds0, p0, q0, hargs, rfl, rfl, h0, r0⟩ := trodAll_cons hA
 obtain ⟨v1, vs1, d1, ds1, p1, q1, rfl, rfl, rfl, h1, r1⟩ := trodAll_cons r0
 obtain ⟨rfl, rfl, rfl⟩ := trodAll_nil r1
 obtain rfl : args = #[v0, v1] := by cases args; simp_all
 obtain ⟨rfl, rfl⟩ := trodVars_none hV
 have kt0 := h0
 have lt0 : ∀ x ∈ p0, x.block < W.heap.size := by obtain ⟨m, hm⟩ := kt0; exact DataW.trod_lt m _ _ _ hm
 obtain ⟨x0, hK0, g0⟩ := opens_arg (opens_slice (t := 22) (e := 39) (B := 48) Try.underlying22 (by kernel_rfl) (by kernel_rfl) op39) h0 hsz (j := 0) rfl rfl
 obtain ⟨a0, len0, cap0, rfl⟩ := okWide_slice Try.underlying22 (hval 0 22 v0 rfl rfl)
 obtain ⟨A0, c0, e0, hc0, hr0⟩ := hK0
 have e0 : [Value.slice a0 len0 cap0] = [Value.slice A0 x0.length c0] := e0
 injection e0 with e0
 injection e0 with ea0 el0 ec0
 subst ea0 el0 ec0
 have kt1 := h1
 have lt1 : ∀ x ∈ p1, x.block < W.heap.size := by obtain ⟨m, hm⟩ := kt1; exact DataW.trod_lt m _ _ _ hm
 obtain ⟨x1, hK1, g1⟩ := opens_arg (opens_slice (t := 22) (e := 39) (B := 48) Try.underlying22 (by kernel_rfl) (by kernel_rfl) op39) h1 hsz (j := 1) rfl rfl
 obtain ⟨a1, len1, cap1, rfl⟩ := okWide_slice Try.underlying22 (hval 1 22 v1 rfl rfl)
 obtain ⟨A1, c1, e1, hc1, hr1⟩ := hK1
 have e1 : [Value.slice a1 len1 cap1] = [Value.slice A1 x1.length c1] := e1
 injection e1 with e1
 injection e1 with ea1 el1 ec1
 subst ea1 el1 ec1
 clear hA0 hval0 hsz0 hsz
 obtain ⟨k, h⟩ := Pl.DeltaWhole x0 x1 g0 g1
 refine (law08_DeltaWhole.calls k _ _ x0 _ _ x1 true W hr0 hc0 hr1 hc1 h rfl).mono fun e W' ⟨he, bel0⟩ => ?_
 have bel : Below W.heap.size W W' := bel0
 subst he
 exact ⟨_, rfl, _, _, _, [], _, [], hW', trodAll_mk1 (shut_bool Try.underlying4 _), (trodAll_cons_mk (Below.trod laidOut (by kernel_rfl) (of_decide_eq_true (by kernel_rfl)) kt0 bel lt0) (trodAll_cons_mk (Below.trod laidOut (by kernel_rfl) (of_decide_eq_true (by kernel_rfl)) kt1 bel lt1) trodAll_mk0)), rfl, bel.frame _, fun h => by cases h⟩
theorem and_mk {a b : Bool} (ha : a = true) (hb : b = true) : (a && b) = true := by rw [ha, hb]; rfl
set_option maxHeartbeats 4000000 in
set_option maxRecDepth 100000 in
theorem closed : joinedFacts Try.pinned.checked.prog 4 Try.f4 Rows.deltaWholeSpec Rows.deltaWholeRow = true := by
 unfold joinedFacts
 repeat' (with_reducible refine and_mk ?_ ?_)
 all_goals (as_aux_lemma => kernel_rfl)
theorem named : Try.pinned.checked.prog.funcNamed Rows.deltaWholeRow.func = some 4 := by kernel_rfl
theorem over : Rows.deltaWholeRow.holds Try.pinned (OpenSpec.ofChange Rows.deltaWholeSpec) :=
 OpenClaim.holds_of_wide 4 Try.f4 rfl rfl rfl rfl rfl rfl rfl ⟨rfl, rfl, rfl, rfl, rfl⟩ rfl rfl rfl rfl rfl named Try.func4 closed
  (of_decide_eq_true (by kernel_rfl)) (by unfold Func.isWrapper; first | (rw [if_pos (by decide +kernel)]; kernel_rfl) | (rw [if_neg (by decide +kernel)]; exact ⟨rfl, rfl⟩))
  (fun os started H enc _ => lifted os started H enc)
theorem proved : Rows.DeltaWholeSaid := over
#print axioms proved
end Go.Proofs.Ytgipbmjkgciccaa.deltaWhole
namespace Go.Proofs.Ytgipbmjkgciccaa
/-- The row, under a short name, for the claim. -/
theorem deltaWhole_holds : Rows.DeltaWholeSaid := deltaWhole.proved
end Go.Proofs.Ytgipbmjkgciccaa

/- WatchHears: for every input the law returns true, and each argument reads behind the call as it read before. No condition. -/
import Derived.Test.YtoghjpoblbdnpaaRows
import Derived.Test.YtoghjpoblbdnpaaPLaw22WatchHears
import Derived.Test.YtoghjpoblbdnpaaOpn
import Derived.Test.YtoghjpoblbdnpaaOps
import Derived.Test.YtoghjpoblbdnpaaPl22WatchHears
import Derived.WalkKit
import Derived.ProofKit
import Derived.OpenShut
import Derived.ShutString
import Derived.ChangeOld
import Derived.Below
import Derived.SizedLaws
namespace Go.Proofs.Ytoghjpoblbdnpaa.watchHears
open Go.ChangeShapes Go.WideShapes Go.ChangeAt Go.RowKit Go.Proofs.Ytoghjpoblbdnpaa.P Go.Proofs.Ytoghjpoblbdnpaa.Opn Go.Proofs.YtoghjpoblbdnpaaW.PrintWords Go.Proofs.YtoghjpoblbdnpaaW.PrintLast Go.Proofs.YtoghjpoblbdnpaaW.PrintMore
open Go.ChangeMaps (open_string shut_string)
set_option linter.unusedVariables false
theorem own : ownKnob Try.prog.godebug = none := by kernel_rfl
theorem laidOut : laidOutB Try.prog = true := by kernel_rfl
set_option maxHeartbeats 4000000 in
set_option maxRecDepth 100000 in
theorem lifted (os : Os) (started : os.Started) (H : Type) (enc : TypeId × Value → H) :
  ReturnsInHanded {} Try.checked os 7 .any (Rows.watchHearsSpec.pre6 enc Try.prog Try.f7 Rows.watchHearsRow.domain false) (Rows.watchHearsSpec.post enc Try.prog Try.f7 false true false false) := by
 refine returnsInHanded_of_change_sized (C := Try.checked) own started (by kernel_rfl) Try.func7
  (ChangeSpec.witness6 (enc := enc) (C := Try.checked) false ⟨#[], #[.slice none 0 0, .slice none 0 0, .agg #[.int .i64 0, .int .i64 0, .int .i64 0, .int .i64 0, .int .i64 0]], []⟩ 8 (by kernel_rfl) (by kernel_rfl) (by kernel_rfl) (by kernel_rfl)) ?_
 intro W base args ds gs before hval0 hW hcnd hsz0 _
 have hsz : (DataW.weightsEach Try.prog (Try.f7.params.toList ++ Rows.watchHearsSpec.plain.varTypes Try.prog) (ds ++ gs)).all (· ≤ reachBytes) = true := hsz0
 have hval : ∀ (j : Nat) t v, Try.f7.params[j]? = some t → args[j]? = some v → Value.okWide Try.prog W .any base t v := hval0
 have hW' := hW
 obtain ⟨p, q, hA0, hV, rfl, hfz, hnd⟩ := hW
 have hA : DataW.TrodAll enc Try.prog W 0 (fun _ => true) true Try.f7.params.toList args.toList ds p := hA0
 rw [Try.params7] at hA hval hsz
 obtain ⟨v0, vs0, d0, ds0, p0, q0, hargs, rfl, rfl, h0, r0⟩ := trodAll_cons hA
 obtain ⟨v1, vs1, d1, ds1, p1, q1, rfl, rfl, rfl, h1, r1⟩ := trodAll_cons r0
 obtain ⟨v2, vs2, d2, ds2, p2, q2, rfl, rfl, rfl, h2, r2⟩ := trodAll_cons r1
 obtain ⟨rfl, rfl, rfl⟩ := trodAll_nil r2
 obtain rfl : args = #[v0, v1, v2] := by cases args; simp_all
 obtain ⟨rfl, rfl⟩ := trodVars_none hV
 have kt0 := h0
 have lt0 : ∀ x ∈ p0, x.block < W.heap.size := by obtain ⟨m, hm⟩ := kt0; exact DataW.trod_lt m _ _ _ hm
 obtain ⟨x0, hK0, g0⟩ := opens_arg (opens_slice (t := 22) (e := 36) (B := 72) Try.underlying22 (by kernel_rfl) (by kernel_rfl) op36) h0 hsz (j := 0) rfl rfl
 obtain ⟨a0, len0, cap0, rfl⟩ := okWide_slice Try.underlying22 (hval 0 22 v0 rfl rfl)
 obtain ⟨A0, c0, e0, hc0, hr0⟩ := hK0
 have e0 : [Value.slice a0 len0 cap0] = [Value.slice A0 x0.length c0] := e0
 injection e0 with e0
 injection e0 with ea0 el0 ec0
 subst ea0 el0 ec0
 have kt1 := h1
 have lt1 : ∀ x ∈ p1, x.block < W.heap.size := by obtain ⟨m, hm⟩ := kt1; exact DataW.trod_lt m _ _ _ hm
 obtain ⟨x1, hK1, g1⟩ := opens_arg (opens_slice (t := 22) (e := 36) (B := 72) Try.underlying22 (by kernel_rfl) (by kernel_rfl) op36) h1 hsz (j := 1) rfl rfl
 obtain ⟨a1, len1, cap1, rfl⟩ := okWide_slice Try.underlying22 (hval 1 22 v1 rfl rfl)
 obtain ⟨A1, c1, e1, hc1, hr1⟩ := hK1
 have e1 : [Value.slice a1 len1 cap1] = [Value.slice A1 x1.length c1] := e1
 injection e1 with e1
 injection e1 with ea1 el1 ec1
 subst ea1 el1 ec1
 have kt2 := h2
 have lt2 : ∀ x ∈ p2, x.block < W.heap.size := by obtain ⟨m, hm⟩ := kt2; exact DataW.trod_lt m _ _ _ hm
 obtain ⟨x2, hK2, g2⟩ := opens_arg op53 h2 hsz (j := 2) rfl rfl
 obtain ⟨cs2, rfl, _, _⟩ := (show ∃ cs, v2 = Value.agg cs ∧ cs.size = Try.prog.cellsOf 53 ∧ Row.okWide Try.prog W .any base 53 cs by have z := (hval 2 53 v2 rfl rfl); unfold Value.okWide at z; rw [Try.underlying53] at z; exact z)
 have hK2 : k53.K W x2 cs2.toList := hK2
 have e2 := k53_open hK2
 obtain rfl : cs2 = #[(.int .i64 x2.f0), (.int .i64 x2.f1), (.int .i64 x2.f2), (.int .i64 x2.f3), (.int .i64 x2.f4)] := by cases cs2; simp_all
 clear hA0 hval0 hsz0 hsz
 obtain ⟨k, h⟩ := Pl.WatchHears x0 x1 x2 g0 g1 g2
 refine (law22_WatchHears.calls k _ _ x0 _ _ x1 x2.f0 x2.f1 x2.f2 x2.f3 x2.f4 true W hr0 hc0 hr1 hc1 h rfl).mono fun e W' ⟨he, bel0⟩ => ?_
 have bel : Below W.heap.size W W' := bel0
 subst he
 exact ⟨_, rfl, _, _, _, [], _, [], hW', trodAll_mk1 (shut_bool Try.underlying4 _), (trodAll_cons_mk (Below.trod laidOut (by kernel_rfl) (of_decide_eq_true (by kernel_rfl)) kt0 bel lt0) (trodAll_cons_mk (Below.trod laidOut (by kernel_rfl) (of_decide_eq_true (by kernel_rfl)) kt1 bel lt1) (trodAll_cons_mk (Below.trod laidOut (by kernel_rfl) (of_decide_eq_true (by kernel_rfl)) kt2 bel lt2) trodAll_mk0))), rfl, bel.frame _, fun h => by cases h⟩
theorem and_mk {a b : Bool} (ha : a = true) (hb : b = true) : (a && b) = true := by rw [ha, hb]; rfl
set_option maxHeartbeats 4000000 in
set_option maxRecDepth 100000 in
theorem closed : joinedFacts Try.pinned.checked.prog 7 Try.f7 Rows.watchHearsSpec Rows.watchHearsRow = true := by
 unfold joinedFacts
 repeat' (with_reducible refine and_mk ?_ ?_)
 all_goals (as_aux_lemma => kernel_rfl)
theorem named : Try.pinned.checked.prog.funcNamed Rows.watchHearsRow.func = some 7 := by kernel_rfl
theorem over : Rows.watchHearsRow.holds Try.pinned (OpenSpec.ofChange Rows.watchHearsSpec) :=
 OpenClaim.holds_of_wide 7 Try.f7 rfl rfl rfl rfl rfl rfl rfl ⟨rfl, rfl, rfl, rfl, rfl⟩ rfl rfl rfl rfl rfl named Try.func7 closed
  (of_decide_eq_true (by kernel_rfl)) (by unfold Func.isWrapper; first | (rw [if_pos (by decide +kernel)]; kernel_rfl) | (rw [if_neg (by decide +kernel)]; exact ⟨rfl, rfl⟩))
  (fun os started H enc _ => lifted os started H enc)
theorem proved : Rows.WatchHearsSaid := over
#print axioms proved
end Go.Proofs.Ytoghjpoblbdnpaa.watchHears
namespace Go.Proofs.Ytoghjpoblbdnpaa
/-- The row, under a short name, for the claim. -/
theorem watchHears_holds : Rows.WatchHearsSaid := watchHears.proved
end Go.Proofs.Ytoghjpoblbdnpaa

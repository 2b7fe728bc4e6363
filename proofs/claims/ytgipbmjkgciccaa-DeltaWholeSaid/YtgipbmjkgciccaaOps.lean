/- What comes in of each type of this translation is told by its kind. No condition. -/
import Derived.Test.YtgipbmjkgciccaaP0
import Derived.Test.YtgipbmjkgciccaaOpn
namespace Go.Proofs.Ytgipbmjkgciccaa.P
open Go.RowKit Go.Proofs.Ytgipbmjkgciccaa.Opn Go.Proofs.YtgipbmjkgciccaaW.PrintWords Go.Proofs.YtgipbmjkgciccaaW.PrintLast Go.Proofs.YtgipbmjkgciccaaW.PrintMore
def G58 (x : S58) : Prop := (Lit.int .i64 x.f0).wf = true ∧ (Lit.int .i64 x.f1).wf = true ∧ x.f2.size ≤ 140737488351232
set_option maxRecDepth 100000 in
theorem op58 : Opens Try.prog 58 k58 G58 := by
 have q := opens_iso (f := fun x : S58 => (x.f0, x.f1, x.f2)) (fun p => (⟨p.1, p.2.1, p.2.2⟩ : S58)) (fun _ => rfl) (opens_struct (t := 58) Try.underlying58 (by kernel_rfl) (opensF_cons rfl rfl (opens_int (t := 3) Try.underlying3 (by kernel_rfl)) rfl (opensF_cons rfl rfl (opens_int (t := 3) Try.underlying3 (by kernel_rfl)) rfl (opensF_one rfl rfl (opens_string (t := 9) Try.underlying9 (by kernel_rfl))))))
 exact opens_imp q (fun _ h => h)
def G35 (x : S35) : Prop := (Lit.int .i64 x.f0).wf = true ∧ (Lit.int .i64 x.f1).wf = true ∧ (x.f2.length ≤ maxLen ∧ x.f2.length * 32 ≤ 140737488351232 ∧ ∀ x_ ∈ x.f2, G58 x_)
set_option maxRecDepth 100000 in
theorem op35 : Opens Try.prog 35 k35 G35 := by
 have q := opens_iso (f := fun x : S35 => (x.f0, x.f1, x.f2)) (fun p => (⟨p.1, p.2.1, p.2.2⟩ : S35)) (fun _ => rfl) (opens_struct (t := 35) Try.underlying35 (by kernel_rfl) (opensF_cons rfl rfl (opens_int (t := 3) Try.underlying3 (by kernel_rfl)) rfl (opensF_cons rfl rfl (opens_int (t := 3) Try.underlying3 (by kernel_rfl)) rfl (opensF_one rfl rfl (opens_slice (t := 33) (e := 58) (B := 32) Try.underlying33 (by kernel_rfl) (by kernel_rfl) op58)))))
 exact opens_imp q (fun _ h => h)
def G39 (x : S39) : Prop := (Lit.int .i64 x.f0).wf = true ∧ G35 x.f1
set_option maxRecDepth 100000 in
theorem op39 : Opens Try.prog 39 k39 G39 := by
 have q := opens_iso (f := fun x : S39 => (x.f0, x.f1)) (fun p => (⟨p.1, p.2⟩ : S39)) (fun _ => rfl) (opens_struct (t := 39) Try.underlying39 (by kernel_rfl) (opensF_cons rfl rfl (opens_int (t := 3) Try.underlying3 (by kernel_rfl)) rfl (opensF_one rfl rfl op35)))
 exact opens_imp q (fun _ h => h)
def G53 (x : S53) : Prop := (Lit.int .i64 x.f0).wf = true ∧ (Lit.int .i64 x.f1).wf = true ∧ G35 x.f2
set_option maxRecDepth 100000 in
theorem op53 : Opens Try.prog 53 k53 G53 := by
 have q := opens_iso (f := fun x : S53 => (x.f0, x.f1, x.f2)) (fun p => (⟨p.1, p.2.1, p.2.2⟩ : S53)) (fun _ => rfl) (opens_struct (t := 53) Try.underlying53 (by kernel_rfl) (opensF_cons rfl rfl (opens_int (t := 3) Try.underlying3 (by kernel_rfl)) rfl (opensF_cons rfl rfl (opens_int (t := 3) Try.underlying3 (by kernel_rfl)) rfl (opensF_one rfl rfl op35))))
 exact opens_imp q (fun _ h => h)
def G60 (x : S60) : Prop := (Lit.int .i64 x.f0).wf = true ∧ (Lit.int .i64 x.f1).wf = true ∧ (Lit.int .i64 x.f2).wf = true
set_option maxRecDepth 100000 in
theorem op60 : Opens Try.prog 60 k60 G60 := by
 have q := opens_iso (f := fun x : S60 => (x.f0, x.f1, x.f2)) (fun p => (⟨p.1, p.2.1, p.2.2⟩ : S60)) (fun _ => rfl) (opens_struct (t := 60) Try.underlying60 (by kernel_rfl) (opensF_cons rfl rfl (opens_int (t := 3) Try.underlying3 (by kernel_rfl)) rfl (opensF_cons rfl rfl (opens_int (t := 3) Try.underlying3 (by kernel_rfl)) rfl (opensF_one rfl rfl (opens_int (t := 3) Try.underlying3 (by kernel_rfl))))))
 exact opens_imp q (fun _ h => h)
end Go.Proofs.Ytgipbmjkgciccaa.P

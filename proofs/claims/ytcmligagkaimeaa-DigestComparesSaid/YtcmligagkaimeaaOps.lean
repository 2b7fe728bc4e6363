/- What comes in of each type of this translation is told by its kind. No condition. -/
import Derived.Test.YtcmligagkaimeaaP0
import Derived.Test.YtcmligagkaimeaaOpn
namespace Go.Proofs.Ytcmligagkaimeaa.P
open Go.RowKit Go.Proofs.Ytcmligagkaimeaa.Opn Go.Proofs.YtcmligagkaimeaaW.PrintWords Go.Proofs.YtcmligagkaimeaaW.PrintLast Go.Proofs.YtcmligagkaimeaaW.PrintMore
def G30 (x : S30) : Prop := (Lit.int .i64 x.f0).wf = true ∧ (Lit.int .i64 x.f1).wf = true ∧ (Lit.int .i64 x.f2).wf = true
set_option maxRecDepth 100000 in
theorem op30 : Opens Try.prog 30 k30 G30 := by
 have q := opens_iso (f := fun x : S30 => (x.f0, x.f1, x.f2)) (fun p => (⟨p.1, p.2.1, p.2.2⟩ : S30)) (fun _ => rfl) (opens_struct (t := 30) Try.underlying30 (by kernel_rfl) (opensF_cons rfl rfl (opens_int (t := 3) Try.underlying3 (by kernel_rfl)) rfl (opensF_cons rfl rfl (opens_int (t := 3) Try.underlying3 (by kernel_rfl)) rfl (opensF_one rfl rfl (opens_int (t := 3) Try.underlying3 (by kernel_rfl))))))
 exact opens_imp q (fun _ h => h)
def G55 (x : S55) : Prop := (Lit.int .i64 x.f0).wf = true ∧ (Lit.int .i64 x.f1).wf = true ∧ x.f2.size ≤ 140737488351232
set_option maxRecDepth 100000 in
theorem op55 : Opens Try.prog 55 k55 G55 := by
 have q := opens_iso (f := fun x : S55 => (x.f0, x.f1, x.f2)) (fun p => (⟨p.1, p.2.1, p.2.2⟩ : S55)) (fun _ => rfl) (opens_struct (t := 55) Try.underlying55 (by kernel_rfl) (opensF_cons rfl rfl (opens_int (t := 3) Try.underlying3 (by kernel_rfl)) rfl (opensF_cons rfl rfl (opens_int (t := 3) Try.underlying3 (by kernel_rfl)) rfl (opensF_one rfl rfl (opens_string (t := 9) Try.underlying9 (by kernel_rfl))))))
 exact opens_imp q (fun _ h => h)
def G33 (x : S33) : Prop := (Lit.int .i64 x.f0).wf = true ∧ (Lit.int .i64 x.f1).wf = true ∧ (x.f2.length ≤ maxLen ∧ x.f2.length * 32 ≤ 140737488351232 ∧ ∀ x_ ∈ x.f2, G55 x_)
set_option maxRecDepth 100000 in
theorem op33 : Opens Try.prog 33 k33 G33 := by
 have q := opens_iso (f := fun x : S33 => (x.f0, x.f1, x.f2)) (fun p => (⟨p.1, p.2.1, p.2.2⟩ : S33)) (fun _ => rfl) (opens_struct (t := 33) Try.underlying33 (by kernel_rfl) (opensF_cons rfl rfl (opens_int (t := 3) Try.underlying3 (by kernel_rfl)) rfl (opensF_cons rfl rfl (opens_int (t := 3) Try.underlying3 (by kernel_rfl)) rfl (opensF_one rfl rfl (opens_slice (t := 31) (e := 55) (B := 32) Try.underlying31 (by kernel_rfl) (by kernel_rfl) op55)))))
 exact opens_imp q (fun _ h => h)
def G35 (x : S35) : Prop := (Lit.int .i64 x.f0).wf = true ∧ G33 x.f1
set_option maxRecDepth 100000 in
theorem op35 : Opens Try.prog 35 k35 G35 := by
 have q := opens_iso (f := fun x : S35 => (x.f0, x.f1)) (fun p => (⟨p.1, p.2⟩ : S35)) (fun _ => rfl) (opens_struct (t := 35) Try.underlying35 (by kernel_rfl) (opensF_cons rfl rfl (opens_int (t := 3) Try.underlying3 (by kernel_rfl)) rfl (opensF_one rfl rfl op33)))
 exact opens_imp q (fun _ h => h)
end Go.Proofs.Ytcmligagkaimeaa.P

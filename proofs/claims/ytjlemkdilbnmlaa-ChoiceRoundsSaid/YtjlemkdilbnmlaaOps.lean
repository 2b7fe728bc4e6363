/- What comes in of each type of this translation is told by its kind. No condition. -/
import Derived.Test.YtjlemkdilbnmlaaP0
import Derived.Test.YtjlemkdilbnmlaaOpn
namespace Go.Proofs.Ytjlemkdilbnmlaa.P
open Go.RowKit Go.Proofs.Ytjlemkdilbnmlaa.Opn Go.Proofs.YtjlemkdilbnmlaaW.PrintWords Go.Proofs.YtjlemkdilbnmlaaW.PrintLast Go.Proofs.YtjlemkdilbnmlaaW.PrintMore
def G24 (x : S24) : Prop := (x.f0.length ≤ maxLen ∧ x.f0.length * 8 ≤ 140737488351232 ∧ ∀ x_ ∈ x.f0, (Lit.int .i64 x_).wf = true) ∧ (x.f1.length ≤ maxLen ∧ x.f1.length * 8 ≤ 140737488351232 ∧ ∀ x_ ∈ x.f1, (Lit.int .i64 x_).wf = true) ∧ (x.f2.length ≤ maxLen ∧ x.f2.length * 8 ≤ 140737488351232 ∧ ∀ x_ ∈ x.f2, (Lit.int .i64 x_).wf = true)
set_option maxRecDepth 100000 in
theorem op24 : Opens Try.prog 24 k24 G24 := by
 have q := opens_iso (f := fun x : S24 => (x.f0, x.f1, x.f2)) (fun p => (⟨p.1, p.2.1, p.2.2⟩ : S24)) (fun _ => rfl) (opens_struct (t := 24) Try.underlying24 (by kernel_rfl) (opensF_cons rfl rfl (opens_slice (t := 22) (e := 3) (B := 8) Try.underlying22 (by kernel_rfl) (by kernel_rfl) (opens_int (t := 3) Try.underlying3 (by kernel_rfl))) rfl (opensF_cons rfl rfl (opens_slice (t := 22) (e := 3) (B := 8) Try.underlying22 (by kernel_rfl) (by kernel_rfl) (opens_int (t := 3) Try.underlying3 (by kernel_rfl))) rfl (opensF_one rfl rfl (opens_slice (t := 22) (e := 3) (B := 8) Try.underlying22 (by kernel_rfl) (by kernel_rfl) (opens_int (t := 3) Try.underlying3 (by kernel_rfl)))))))
 exact opens_imp q (fun _ h => h)
def G26 (x : S26) : Prop := (Lit.int .u32 x.f0).wf = true ∧ (Lit.int .u32 x.f1).wf = true ∧ (Lit.int .u32 x.f2).wf = true
set_option maxRecDepth 100000 in
theorem op26 : Opens Try.prog 26 k26 G26 := opens_imp (opens_iso (fun p => ⟨p.1, p.2.1, p.2.2⟩) (fun _ => rfl) (opens_array (t := 26) (n := 3) (e := 25) Try.underlying26 (by kernel_rfl) (opensA_cons (opens_int (t := 25) Try.underlying25 (by kernel_rfl)) rfl (opensA_cons (opens_int (t := 25) Try.underlying25 (by kernel_rfl)) rfl (opensA_one (opens_int (t := 25) Try.underlying25 (by kernel_rfl))))))) (fun _ h => h)
end Go.Proofs.Ytjlemkdilbnmlaa.P

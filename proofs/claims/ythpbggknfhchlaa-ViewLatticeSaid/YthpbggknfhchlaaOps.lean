/- What comes in of each type of this translation is told by its kind. No condition. -/
import Derived.Test.YthpbggknfhchlaaP0
import Derived.Test.YthpbggknfhchlaaOpn
namespace Go.Proofs.Ythpbggknfhchlaa.P
open Go.RowKit Go.Proofs.Ythpbggknfhchlaa.Opn Go.Proofs.YthpbggknfhchlaaW.PrintWords Go.Proofs.YthpbggknfhchlaaW.PrintLast Go.Proofs.YthpbggknfhchlaaW.PrintMore
def G60 (x : S60) : Prop := (Lit.int .i64 x.f0).wf = true ∧ (Lit.int .i64 x.f1).wf = true ∧ x.f2.size ≤ 140737488351232
set_option maxRecDepth 100000 in
theorem op60 : Opens Try.prog 60 k60 G60 := by
 have q := opens_iso (f := fun x : S60 => (x.f0, x.f1, x.f2)) (fun p => (⟨p.1, p.2.1, p.2.2⟩ : S60)) (fun _ => rfl) (opens_struct (t := 60) Try.underlying60 (by kernel_rfl) (opensF_cons rfl rfl (opens_int (t := 3) Try.underlying3 (by kernel_rfl)) rfl (opensF_cons rfl rfl (opens_int (t := 3) Try.underlying3 (by kernel_rfl)) rfl (opensF_one rfl rfl (opens_string (t := 9) Try.underlying9 (by kernel_rfl))))))
 exact opens_imp q (fun _ h => h)
def G25 (x : S25) : Prop := (Lit.int .i64 x.f0).wf = true ∧ (Lit.int .i64 x.f1).wf = true ∧ (x.f2.length ≤ maxLen ∧ x.f2.length * 32 ≤ 140737488351232 ∧ ∀ x_ ∈ x.f2, G60 x_)
set_option maxRecDepth 100000 in
theorem op25 : Opens Try.prog 25 k25 G25 := by
 have q := opens_iso (f := fun x : S25 => (x.f0, x.f1, x.f2)) (fun p => (⟨p.1, p.2.1, p.2.2⟩ : S25)) (fun _ => rfl) (opens_struct (t := 25) Try.underlying25 (by kernel_rfl) (opensF_cons rfl rfl (opens_int (t := 3) Try.underlying3 (by kernel_rfl)) rfl (opensF_cons rfl rfl (opens_int (t := 3) Try.underlying3 (by kernel_rfl)) rfl (opensF_one rfl rfl (opens_slice (t := 23) (e := 60) (B := 32) Try.underlying23 (by kernel_rfl) (by kernel_rfl) op60)))))
 exact opens_imp q (fun _ h => h)
def G41 (x : S41) : Prop := (Lit.int .i64 x.f0).wf = true ∧ G25 x.f1
set_option maxRecDepth 100000 in
theorem op41 : Opens Try.prog 41 k41 G41 := by
 have q := opens_iso (f := fun x : S41 => (x.f0, x.f1)) (fun p => (⟨p.1, p.2⟩ : S41)) (fun _ => rfl) (opens_struct (t := 41) Try.underlying41 (by kernel_rfl) (opensF_cons rfl rfl (opens_int (t := 3) Try.underlying3 (by kernel_rfl)) rfl (opensF_one rfl rfl op25)))
 exact opens_imp q (fun _ h => h)
end Go.Proofs.Ythpbggknfhchlaa.P

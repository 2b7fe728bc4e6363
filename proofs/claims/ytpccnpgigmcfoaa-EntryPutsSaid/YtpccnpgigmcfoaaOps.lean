/- What comes in of each type of this translation is told by its kind. No condition. -/
import Derived.Test.YtpccnpgigmcfoaaP0
import Derived.Test.YtpccnpgigmcfoaaOpn
namespace Go.Proofs.Ytpccnpgigmcfoaa.P
open Go.RowKit Go.Proofs.Ytpccnpgigmcfoaa.Opn Go.Proofs.YtpccnpgigmcfoaaW.PrintWords Go.Proofs.YtpccnpgigmcfoaaW.PrintLast Go.Proofs.YtpccnpgigmcfoaaW.PrintMore
structure S38 where
 f0 : Int
 f1 : Int
def k38 : Kd S38 := Kd.iso (Kd.pair (Kd.int .u8) (Kd.int .u8)) (fun x : S38 => (x.f0, x.f1))
theorem k38_open {w : World} {x : S38} {cs : List Value} (h : k38.K w x cs) : cs = [(.int .u8 x.f0), (.int .u8 x.f1)] := by
 obtain ⟨_, c0_, rfl, rfl, rfl⟩ := h
 rfl
def G30 (x : S30) : Prop := (Lit.int .i64 x.f0).wf = true ∧ (Lit.int .i64 x.f1).wf = true ∧ x.f2.size ≤ 140737488351232
set_option maxRecDepth 100000 in
theorem op30 : Opens Try.prog 30 k30 G30 := by
 have q := opens_iso (f := fun x : S30 => (x.f0, x.f1, x.f2)) (fun p => (⟨p.1, p.2.1, p.2.2⟩ : S30)) (fun _ => rfl) (opens_struct (t := 30) Try.underlying30 (by kernel_rfl) (opensF_cons rfl rfl (opens_int (t := 3) Try.underlying3 (by kernel_rfl)) rfl (opensF_cons rfl rfl (opens_int (t := 3) Try.underlying3 (by kernel_rfl)) rfl (opensF_one rfl rfl (opens_string (t := 9) Try.underlying9 (by kernel_rfl))))))
 exact opens_imp q (fun _ h => h)
def G38 (x : S38) : Prop := (Lit.int .u8 x.f0).wf = true ∧ (Lit.int .u8 x.f1).wf = true
set_option maxRecDepth 100000 in
theorem op38 : Opens Try.prog 38 k38 G38 := opens_imp (opens_iso (fun p => ⟨p.1, p.2⟩) (fun _ => rfl) (opens_array (t := 38) (n := 2) (e := 5) Try.underlying38 (by kernel_rfl) (opensA_cons (opens_int (t := 5) Try.underlying5 (by kernel_rfl)) rfl (opensA_one (opens_int (t := 5) Try.underlying5 (by kernel_rfl)))))) (fun _ h => h)
end Go.Proofs.Ytpccnpgigmcfoaa.P

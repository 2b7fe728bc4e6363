/- What comes in of each type of this translation is told by its kind. No condition. -/
import Derived.Test.YtonggencfnaheaaP0
import Derived.Test.YtonggencfnaheaaOpn
namespace Go.Proofs.Ytonggencfnaheaa.P
open Go.RowKit Go.Proofs.Ytonggencfnaheaa.Opn Go.Proofs.YtonggencfnaheaaW.PrintWords Go.Proofs.YtonggencfnaheaaW.PrintLast Go.Proofs.YtonggencfnaheaaW.PrintMore
structure S31 where
 f0 : Int
 f1 : Int
def k31 : Kd S31 := Kd.iso (Kd.pair (Kd.int .u16) (Kd.int .u16)) (fun x : S31 => (x.f0, x.f1))
theorem k31_open {w : World} {x : S31} {cs : List Value} (h : k31.K w x cs) : cs = [(.int .u16 x.f0), (.int .u16 x.f1)] := by
 obtain ⟨_, c0_, rfl, rfl, rfl⟩ := h
 rfl
structure S40 where
 f0 : Int
 f1 : Int
 f2 : Int
def k40 : Kd S40 := Kd.iso (Kd.pair (Kd.int .i64) (Kd.pair (Kd.int .i64) (Kd.int .i64))) (fun x : S40 => (x.f0, x.f1, x.f2))
theorem k40_open {w : World} {x : S40} {cs : List Value} (h : k40.K w x cs) : cs = [(.int .i64 x.f0), (.int .i64 x.f1), (.int .i64 x.f2)] := by
 obtain ⟨_, c0_, rfl, rfl, ⟨_, c1_, rfl, rfl, rfl⟩⟩ := h
 rfl
def G44 (x : S44) : Prop := (Lit.int .i64 x.f0).wf = true ∧ (Lit.int .i64 x.f1).wf = true
set_option maxRecDepth 100000 in
theorem op44 : Opens Try.prog 44 k44 G44 := by
 have q := opens_iso (f := fun x : S44 => (x.f0, x.f1)) (fun p => (⟨p.1, p.2⟩ : S44)) (fun _ => rfl) (opens_struct (t := 44) Try.underlying44 (by kernel_rfl) (opensF_cons rfl rfl (opens_int (t := 3) Try.underlying3 (by kernel_rfl)) rfl (opensF_one rfl rfl (opens_int (t := 3) Try.underlying3 (by kernel_rfl)))))
 exact opens_imp q (fun _ h => h)
def G31 (x : S31) : Prop := (Lit.int .u16 x.f0).wf = true ∧ (Lit.int .u16 x.f1).wf = true
set_option maxRecDepth 100000 in
theorem op31 : Opens Try.prog 31 k31 G31 := opens_imp (opens_iso (fun p => ⟨p.1, p.2⟩) (fun _ => rfl) (opens_array (t := 31) (n := 2) (e := 30) Try.underlying31 (by kernel_rfl) (opensA_cons (opens_int (t := 30) Try.underlying30 (by kernel_rfl)) rfl (opensA_one (opens_int (t := 30) Try.underlying30 (by kernel_rfl)))))) (fun _ h => h)
def G40 (x : S40) : Prop := (Lit.int .i64 x.f0).wf = true ∧ (Lit.int .i64 x.f1).wf = true ∧ (Lit.int .i64 x.f2).wf = true
set_option maxRecDepth 100000 in
theorem op40 : Opens Try.prog 40 k40 G40 := opens_imp (opens_iso (fun p => ⟨p.1, p.2.1, p.2.2⟩) (fun _ => rfl) (opens_array (t := 40) (n := 3) (e := 3) Try.underlying40 (by kernel_rfl) (opensA_cons (opens_int (t := 3) Try.underlying3 (by kernel_rfl)) rfl (opensA_cons (opens_int (t := 3) Try.underlying3 (by kernel_rfl)) rfl (opensA_one (opens_int (t := 3) Try.underlying3 (by kernel_rfl))))))) (fun _ h => h)
end Go.Proofs.Ytonggencfnaheaa.P

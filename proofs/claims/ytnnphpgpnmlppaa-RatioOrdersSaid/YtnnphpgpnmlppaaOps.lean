/- What comes in of each type of this translation is told by its kind. No condition. -/
import Derived.Test.YtnnphpgpnmlppaaP0
import Derived.Test.YtnnphpgpnmlppaaOpn
namespace Go.Proofs.Ytnnphpgpnmlppaa.P
open Go.RowKit Go.Proofs.Ytnnphpgpnmlppaa.Opn Go.Proofs.YtnnphpgpnmlppaaW.PrintWords Go.Proofs.YtnnphpgpnmlppaaW.PrintLast Go.Proofs.YtnnphpgpnmlppaaW.PrintMore
structure S22 where
 f0 : Int
 f1 : Int
 f2 : Int
def k22 : Kd S22 := Kd.iso (Kd.pair (Kd.int .i64) (Kd.pair (Kd.int .i64) (Kd.int .i64))) (fun x : S22 => (x.f0, x.f1, x.f2))
theorem k22_open {w : World} {x : S22} {cs : List Value} (h : k22.K w x cs) : cs = [(.int .i64 x.f0), (.int .i64 x.f1), (.int .i64 x.f2)] := by
 obtain ⟨_, c0_, rfl, rfl, ⟨_, c1_, rfl, rfl, rfl⟩⟩ := h
 rfl
structure S24 where
 f0 : Int
 f1 : Int
 f2 : Int
 f3 : Int
def k24 : Kd S24 := Kd.iso (Kd.pair (Kd.int .i64) (Kd.pair (Kd.int .i64) (Kd.pair (Kd.int .i64) (Kd.int .i64)))) (fun x : S24 => (x.f0, x.f1, x.f2, x.f3))
theorem k24_open {w : World} {x : S24} {cs : List Value} (h : k24.K w x cs) : cs = [(.int .i64 x.f0), (.int .i64 x.f1), (.int .i64 x.f2), (.int .i64 x.f3)] := by
 obtain ⟨_, c0_, rfl, rfl, ⟨_, c1_, rfl, rfl, ⟨_, c2_, rfl, rfl, rfl⟩⟩⟩ := h
 rfl
structure S37 where
 f0 : Int
 f1 : Int
 f2 : Int
 f3 : Int
 f4 : Int
 f5 : Int
def k37 : Kd S37 := Kd.iso (Kd.pair (Kd.int .u32) (Kd.pair (Kd.int .u32) (Kd.pair (Kd.int .u32) (Kd.pair (Kd.int .u32) (Kd.pair (Kd.int .u32) (Kd.int .u32)))))) (fun x : S37 => (x.f0, x.f1, x.f2, x.f3, x.f4, x.f5))
theorem k37_open {w : World} {x : S37} {cs : List Value} (h : k37.K w x cs) : cs = [(.int .u32 x.f0), (.int .u32 x.f1), (.int .u32 x.f2), (.int .u32 x.f3), (.int .u32 x.f4), (.int .u32 x.f5)] := by
 obtain ⟨_, c0_, rfl, rfl, ⟨_, c1_, rfl, rfl, ⟨_, c2_, rfl, rfl, ⟨_, c3_, rfl, rfl, ⟨_, c4_, rfl, rfl, rfl⟩⟩⟩⟩⟩ := h
 rfl
def G45 (x : S45) : Prop := (Lit.int .u64 x.f0).wf = true ∧ (Lit.int .u64 x.f1).wf = true
set_option maxRecDepth 100000 in
theorem op45 : Opens Try.prog 45 k45 G45 := by
 have q := opens_iso (f := fun x : S45 => (x.f0, x.f1)) (fun p => (⟨p.1, p.2⟩ : S45)) (fun _ => rfl) (opens_struct (t := 45) Try.underlying45 (by kernel_rfl) (opensF_cons rfl rfl (opens_int (t := 34) Try.underlying34 (by kernel_rfl)) rfl (opensF_one rfl rfl (opens_int (t := 34) Try.underlying34 (by kernel_rfl)))))
 exact opens_imp q (fun _ h => h)
def G22 (x : S22) : Prop := (Lit.int .i64 x.f0).wf = true ∧ (Lit.int .i64 x.f1).wf = true ∧ (Lit.int .i64 x.f2).wf = true
set_option maxRecDepth 100000 in
theorem op22 : Opens Try.prog 22 k22 G22 := opens_imp (opens_iso (fun p => ⟨p.1, p.2.1, p.2.2⟩) (fun _ => rfl) (opens_array (t := 22) (n := 3) (e := 3) Try.underlying22 (by kernel_rfl) (opensA_cons (opens_int (t := 3) Try.underlying3 (by kernel_rfl)) rfl (opensA_cons (opens_int (t := 3) Try.underlying3 (by kernel_rfl)) rfl (opensA_one (opens_int (t := 3) Try.underlying3 (by kernel_rfl))))))) (fun _ h => h)
def G24 (x : S24) : Prop := (Lit.int .i64 x.f0).wf = true ∧ (Lit.int .i64 x.f1).wf = true ∧ (Lit.int .i64 x.f2).wf = true ∧ (Lit.int .i64 x.f3).wf = true
set_option maxRecDepth 100000 in
theorem op24 : Opens Try.prog 24 k24 G24 := opens_imp (opens_iso (fun p => ⟨p.1, p.2.1, p.2.2.1, p.2.2.2⟩) (fun _ => rfl) (opens_array (t := 24) (n := 4) (e := 3) Try.underlying24 (by kernel_rfl) (opensA_cons (opens_int (t := 3) Try.underlying3 (by kernel_rfl)) rfl (opensA_cons (opens_int (t := 3) Try.underlying3 (by kernel_rfl)) rfl (opensA_cons (opens_int (t := 3) Try.underlying3 (by kernel_rfl)) rfl (opensA_one (opens_int (t := 3) Try.underlying3 (by kernel_rfl)))))))) (fun _ h => h)
def G37 (x : S37) : Prop := (Lit.int .u32 x.f0).wf = true ∧ (Lit.int .u32 x.f1).wf = true ∧ (Lit.int .u32 x.f2).wf = true ∧ (Lit.int .u32 x.f3).wf = true ∧ (Lit.int .u32 x.f4).wf = true ∧ (Lit.int .u32 x.f5).wf = true
set_option maxRecDepth 100000 in
theorem op37 : Opens Try.prog 37 k37 G37 := opens_imp (opens_iso (fun p => ⟨p.1, p.2.1, p.2.2.1, p.2.2.2.1, p.2.2.2.2.1, p.2.2.2.2.2⟩) (fun _ => rfl) (opens_array (t := 37) (n := 6) (e := 33) Try.underlying37 (by kernel_rfl) (opensA_cons (opens_int (t := 33) Try.underlying33 (by kernel_rfl)) rfl (opensA_cons (opens_int (t := 33) Try.underlying33 (by kernel_rfl)) rfl (opensA_cons (opens_int (t := 33) Try.underlying33 (by kernel_rfl)) rfl (opensA_cons (opens_int (t := 33) Try.underlying33 (by kernel_rfl)) rfl (opensA_cons (opens_int (t := 33) Try.underlying33 (by kernel_rfl)) rfl (opensA_one (opens_int (t := 33) Try.underlying33 (by kernel_rfl)))))))))) (fun _ h => h)
end Go.Proofs.Ytnnphpgpnmlppaa.P

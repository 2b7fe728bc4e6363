/- What comes in of each type of this translation is told by its kind. No condition. -/
import Derived.Test.YtkojggbogdjmcaaP0
import Derived.Test.YtkojggbogdjmcaaOpn
namespace Go.Proofs.Ytkojggbogdjmcaa.P
open Go.RowKit Go.Proofs.Ytkojggbogdjmcaa.Opn Go.Proofs.YtkojggbogdjmcaaW.PrintWords Go.Proofs.YtkojggbogdjmcaaW.PrintLast Go.Proofs.YtkojggbogdjmcaaW.PrintMore
structure S39 where
 f0 : Int
 f1 : Int
 f2 : Int
def k39 : Kd S39 := Kd.iso (Kd.pair (Kd.int .i64) (Kd.pair (Kd.int .i64) (Kd.int .i64))) (fun x : S39 => (x.f0, x.f1, x.f2))
theorem k39_open {w : World} {x : S39} {cs : List Value} (h : k39.K w x cs) : cs = [(.int .i64 x.f0), (.int .i64 x.f1), (.int .i64 x.f2)] := by
 obtain ⟨_, c0_, rfl, rfl, ⟨_, c1_, rfl, rfl, rfl⟩⟩ := h
 rfl
def G27 (x : S27) : Prop := (Lit.int .i64 x.f0).wf = true ∧ (x.f1.length ≤ maxLen ∧ x.f1.length * 8 ≤ 140737488351232 ∧ ∀ x_ ∈ x.f1, (Lit.int .i64 x_).wf = true)
set_option maxRecDepth 100000 in
theorem op27 : Opens Try.prog 27 k27 G27 := by
 have q := opens_iso (f := fun x : S27 => (x.f0, x.f1)) (fun p => (⟨p.1, p.2⟩ : S27)) (fun _ => rfl) (opens_struct (t := 27) Try.underlying27 (by kernel_rfl) (opensF_cons rfl rfl (opens_int (t := 3) Try.underlying3 (by kernel_rfl)) rfl (opensF_one rfl rfl (opens_slice (t := 25) (e := 3) (B := 8) Try.underlying25 (by kernel_rfl) (by kernel_rfl) (opens_int (t := 3) Try.underlying3 (by kernel_rfl))))))
 exact opens_imp q (fun _ h => h)
def G35 (x : S35) : Prop := (Lit.int .u8 x.f0).wf = true ∧ (Lit.int .u8 x.f1).wf = true ∧ (Lit.int .u8 x.f2).wf = true ∧ (Lit.int .u8 x.f3).wf = true ∧ (Lit.int .u8 x.f4).wf = true ∧ (Lit.int .u8 x.f5).wf = true ∧ (Lit.int .u8 x.f6).wf = true ∧ (Lit.int .u8 x.f7).wf = true ∧ (Lit.int .u8 x.f8).wf = true ∧ (Lit.int .u8 x.f9).wf = true ∧ (Lit.int .u8 x.f10).wf = true ∧ (Lit.int .u8 x.f11).wf = true ∧ (Lit.int .u8 x.f12).wf = true ∧ (Lit.int .u8 x.f13).wf = true ∧ (Lit.int .u8 x.f14).wf = true ∧ (Lit.int .u8 x.f15).wf = true
set_option maxRecDepth 100000 in
theorem op35 : Opens Try.prog 35 k35 G35 := opens_imp (opens_iso (fun p => ⟨p.1, p.2.1, p.2.2.1, p.2.2.2.1, p.2.2.2.2.1, p.2.2.2.2.2.1, p.2.2.2.2.2.2.1, p.2.2.2.2.2.2.2.1, p.2.2.2.2.2.2.2.2.1, p.2.2.2.2.2.2.2.2.2.1, p.2.2.2.2.2.2.2.2.2.2.1, p.2.2.2.2.2.2.2.2.2.2.2.1, p.2.2.2.2.2.2.2.2.2.2.2.2.1, p.2.2.2.2.2.2.2.2.2.2.2.2.2.1, p.2.2.2.2.2.2.2.2.2.2.2.2.2.2.1, p.2.2.2.2.2.2.2.2.2.2.2.2.2.2.2⟩) (fun _ => rfl) (opens_array (t := 35) (n := 16) (e := 5) Try.underlying35 (by kernel_rfl) (opensA_cons (opens_int (t := 5) Try.underlying5 (by kernel_rfl)) rfl (opensA_cons (opens_int (t := 5) Try.underlying5 (by kernel_rfl)) rfl (opensA_cons (opens_int (t := 5) Try.underlying5 (by kernel_rfl)) rfl (opensA_cons (opens_int (t := 5) Try.underlying5 (by kernel_rfl)) rfl (opensA_cons (opens_int (t := 5) Try.underlying5 (by kernel_rfl)) rfl (opensA_cons (opens_int (t := 5) Try.underlying5 (by kernel_rfl)) rfl (opensA_cons (opens_int (t := 5) Try.underlying5 (by kernel_rfl)) rfl (opensA_cons (opens_int (t := 5) Try.underlying5 (by kernel_rfl)) rfl (opensA_cons (opens_int (t := 5) Try.underlying5 (by kernel_rfl)) rfl (opensA_cons (opens_int (t := 5) Try.underlying5 (by kernel_rfl)) rfl (opensA_cons (opens_int (t := 5) Try.underlying5 (by kernel_rfl)) rfl (opensA_cons (opens_int (t := 5) Try.underlying5 (by kernel_rfl)) rfl (opensA_cons (opens_int (t := 5) Try.underlying5 (by kernel_rfl)) rfl (opensA_cons (opens_int (t := 5) Try.underlying5 (by kernel_rfl)) rfl (opensA_cons (opens_int (t := 5) Try.underlying5 (by kernel_rfl)) rfl (opensA_one (opens_int (t := 5) Try.underlying5 (by kernel_rfl)))))))))))))))))))) (fun _ h => h)
def G52 (x : S52) : Prop := (Lit.int .u64 x.f0).wf = true ∧ (Lit.int .u64 x.f1).wf = true
set_option maxRecDepth 100000 in
theorem op52 : Opens Try.prog 52 k52 G52 := by
 have q := opens_iso (f := fun x : S52 => (x.f0, x.f1)) (fun p => (⟨p.1, p.2⟩ : S52)) (fun _ => rfl) (opens_struct (t := 52) Try.underlying52 (by kernel_rfl) (opensF_cons rfl rfl (opens_int (t := 48) Try.underlying48 (by kernel_rfl)) rfl (opensF_one rfl rfl (opens_int (t := 48) Try.underlying48 (by kernel_rfl)))))
 exact opens_imp q (fun _ h => h)
def G39 (x : S39) : Prop := (Lit.int .i64 x.f0).wf = true ∧ (Lit.int .i64 x.f1).wf = true ∧ (Lit.int .i64 x.f2).wf = true
set_option maxRecDepth 100000 in
theorem op39 : Opens Try.prog 39 k39 G39 := opens_imp (opens_iso (fun p => ⟨p.1, p.2.1, p.2.2⟩) (fun _ => rfl) (opens_array (t := 39) (n := 3) (e := 3) Try.underlying39 (by kernel_rfl) (opensA_cons (opens_int (t := 3) Try.underlying3 (by kernel_rfl)) rfl (opensA_cons (opens_int (t := 3) Try.underlying3 (by kernel_rfl)) rfl (opensA_one (opens_int (t := 3) Try.underlying3 (by kernel_rfl))))))) (fun _ h => h)
end Go.Proofs.Ytkojggbogdjmcaa.P

/- What comes in of each type of this translation is told by its kind. No condition. -/
import Derived.Test.YtoghjpoblbdnpaaP0
import Derived.Test.YtoghjpoblbdnpaaOpn
namespace Go.Proofs.Ytoghjpoblbdnpaa.P
open Go.RowKit Go.Proofs.Ytoghjpoblbdnpaa.Opn Go.Proofs.YtoghjpoblbdnpaaW.PrintWords Go.Proofs.YtoghjpoblbdnpaaW.PrintLast Go.Proofs.YtoghjpoblbdnpaaW.PrintMore
structure S24 where
 f0 : Int
 f1 : Int
def k24 : Kd S24 := Kd.iso (Kd.pair (Kd.int .u16) (Kd.int .u16)) (fun x : S24 => (x.f0, x.f1))
theorem k24_open {w : World} {x : S24} {cs : List Value} (h : k24.K w x cs) : cs = [(.int .u16 x.f0), (.int .u16 x.f1)] := by
 obtain ⟨_, c0_, rfl, rfl, rfl⟩ := h
 rfl
structure S39 where
 f0 : Int
 f1 : Int
 f2 : Int
def k39 : Kd S39 := Kd.iso (Kd.pair (Kd.int .u16) (Kd.pair (Kd.int .u16) (Kd.int .u16))) (fun x : S39 => (x.f0, x.f1, x.f2))
theorem k39_open {w : World} {x : S39} {cs : List Value} (h : k39.K w x cs) : cs = [(.int .u16 x.f0), (.int .u16 x.f1), (.int .u16 x.f2)] := by
 obtain ⟨_, c0_, rfl, rfl, ⟨_, c1_, rfl, rfl, rfl⟩⟩ := h
 rfl
structure S53 where
 f0 : Int
 f1 : Int
 f2 : Int
 f3 : Int
 f4 : Int
def k53 : Kd S53 := Kd.iso (Kd.pair (Kd.int .i64) (Kd.pair (Kd.int .i64) (Kd.pair (Kd.int .i64) (Kd.pair (Kd.int .i64) (Kd.int .i64))))) (fun x : S53 => (x.f0, x.f1, x.f2, x.f3, x.f4))
theorem k53_open {w : World} {x : S53} {cs : List Value} (h : k53.K w x cs) : cs = [(.int .i64 x.f0), (.int .i64 x.f1), (.int .i64 x.f2), (.int .i64 x.f3), (.int .i64 x.f4)] := by
 obtain ⟨_, c0_, rfl, rfl, ⟨_, c1_, rfl, rfl, ⟨_, c2_, rfl, rfl, ⟨_, c3_, rfl, rfl, rfl⟩⟩⟩⟩ := h
 rfl
def G34 (x : S34) : Prop := (Lit.int .i64 x.f0).wf = true ∧ (x.f1.length ≤ maxLen ∧ x.f1.length * 8 ≤ 140737488351232 ∧ ∀ x_ ∈ x.f1, (Lit.int .i64 x_).wf = true)
set_option maxRecDepth 100000 in
theorem op34 : Opens Try.prog 34 k34 G34 := by
 have q := opens_iso (f := fun x : S34 => (x.f0, x.f1)) (fun p => (⟨p.1, p.2⟩ : S34)) (fun _ => rfl) (opens_struct (t := 34) Try.underlying34 (by kernel_rfl) (opensF_cons rfl rfl (opens_int (t := 3) Try.underlying3 (by kernel_rfl)) rfl (opensF_one rfl rfl (opens_slice (t := 27) (e := 3) (B := 8) Try.underlying27 (by kernel_rfl) (by kernel_rfl) (opens_int (t := 3) Try.underlying3 (by kernel_rfl))))))
 exact opens_imp q (fun _ h => h)
def G36 (x : S36) : Prop := (Lit.int .i64 x.f0).wf = true ∧ (Lit.int .i64 x.f1).wf = true ∧ (Lit.int .i64 x.f2).wf = true ∧ G34 x.f3 ∧ True ∧ (Lit.int .i64 x.f5).wf = true
set_option maxRecDepth 100000 in
theorem op36 : Opens Try.prog 36 k36 G36 := by
 have q := opens_iso (f := fun x : S36 => (x.f0, x.f1, x.f2, x.f3, x.f4, x.f5)) (fun p => (⟨p.1, p.2.1, p.2.2.1, p.2.2.2.1, p.2.2.2.2.1, p.2.2.2.2.2⟩ : S36)) (fun _ => rfl) (opens_struct (t := 36) Try.underlying36 (by kernel_rfl) (opensF_cons rfl rfl (opens_int (t := 3) Try.underlying3 (by kernel_rfl)) rfl (opensF_cons rfl rfl (opens_int (t := 3) Try.underlying3 (by kernel_rfl)) rfl (opensF_cons rfl rfl (opens_int (t := 3) Try.underlying3 (by kernel_rfl)) rfl (opensF_cons rfl rfl op34 rfl (opensF_cons rfl rfl (opens_bool (t := 4) Try.underlying4 (by kernel_rfl)) rfl (opensF_one rfl rfl (opens_int (t := 3) Try.underlying3 (by kernel_rfl)))))))))
 exact opens_imp q (fun _ h => h)
def G42 (x : S42) : Prop := (Lit.int .i64 x.f0).wf = true ∧ (Lit.int .i64 x.f1).wf = true ∧ (Lit.int .i64 x.f2).wf = true
set_option maxRecDepth 100000 in
theorem op42 : Opens Try.prog 42 k42 G42 := by
 have q := opens_iso (f := fun x : S42 => (x.f0, x.f1, x.f2)) (fun p => (⟨p.1, p.2.1, p.2.2⟩ : S42)) (fun _ => rfl) (opens_struct (t := 42) Try.underlying42 (by kernel_rfl) (opensF_cons rfl rfl (opens_int (t := 3) Try.underlying3 (by kernel_rfl)) rfl (opensF_cons rfl rfl (opens_int (t := 3) Try.underlying3 (by kernel_rfl)) rfl (opensF_one rfl rfl (opens_int (t := 3) Try.underlying3 (by kernel_rfl))))))
 exact opens_imp q (fun _ h => h)
def G81 (x : S81) : Prop := (Lit.int .u64 x.f0).wf = true ∧ (Lit.int .u64 x.f1).wf = true
set_option maxRecDepth 100000 in
theorem op81 : Opens Try.prog 81 k81 G81 := by
 have q := opens_iso (f := fun x : S81 => (x.f0, x.f1)) (fun p => (⟨p.1, p.2⟩ : S81)) (fun _ => rfl) (opens_struct (t := 81) Try.underlying81 (by kernel_rfl) (opensF_cons rfl rfl (opens_int (t := 79) Try.underlying79 (by kernel_rfl)) rfl (opensF_one rfl rfl (opens_int (t := 79) Try.underlying79 (by kernel_rfl)))))
 exact opens_imp q (fun _ h => h)
def G24 (x : S24) : Prop := (Lit.int .u16 x.f0).wf = true ∧ (Lit.int .u16 x.f1).wf = true
set_option maxRecDepth 100000 in
theorem op24 : Opens Try.prog 24 k24 G24 := opens_imp (opens_iso (fun p => ⟨p.1, p.2⟩) (fun _ => rfl) (opens_array (t := 24) (n := 2) (e := 23) Try.underlying24 (by kernel_rfl) (opensA_cons (opens_int (t := 23) Try.underlying23 (by kernel_rfl)) rfl (opensA_one (opens_int (t := 23) Try.underlying23 (by kernel_rfl)))))) (fun _ h => h)
def G39 (x : S39) : Prop := (Lit.int .u16 x.f0).wf = true ∧ (Lit.int .u16 x.f1).wf = true ∧ (Lit.int .u16 x.f2).wf = true
set_option maxRecDepth 100000 in
theorem op39 : Opens Try.prog 39 k39 G39 := opens_imp (opens_iso (fun p => ⟨p.1, p.2.1, p.2.2⟩) (fun _ => rfl) (opens_array (t := 39) (n := 3) (e := 23) Try.underlying39 (by kernel_rfl) (opensA_cons (opens_int (t := 23) Try.underlying23 (by kernel_rfl)) rfl (opensA_cons (opens_int (t := 23) Try.underlying23 (by kernel_rfl)) rfl (opensA_one (opens_int (t := 23) Try.underlying23 (by kernel_rfl))))))) (fun _ h => h)
def G53 (x : S53) : Prop := (Lit.int .i64 x.f0).wf = true ∧ (Lit.int .i64 x.f1).wf = true ∧ (Lit.int .i64 x.f2).wf = true ∧ (Lit.int .i64 x.f3).wf = true ∧ (Lit.int .i64 x.f4).wf = true
set_option maxRecDepth 100000 in
theorem op53 : Opens Try.prog 53 k53 G53 := opens_imp (opens_iso (fun p => ⟨p.1, p.2.1, p.2.2.1, p.2.2.2.1, p.2.2.2.2⟩) (fun _ => rfl) (opens_array (t := 53) (n := 5) (e := 3) Try.underlying53 (by kernel_rfl) (opensA_cons (opens_int (t := 3) Try.underlying3 (by kernel_rfl)) rfl (opensA_cons (opens_int (t := 3) Try.underlying3 (by kernel_rfl)) rfl (opensA_cons (opens_int (t := 3) Try.underlying3 (by kernel_rfl)) rfl (opensA_cons (opens_int (t := 3) Try.underlying3 (by kernel_rfl)) rfl (opensA_one (opens_int (t := 3) Try.underlying3 (by kernel_rfl))))))))) (fun _ h => h)
end Go.Proofs.Ytoghjpoblbdnpaa.P

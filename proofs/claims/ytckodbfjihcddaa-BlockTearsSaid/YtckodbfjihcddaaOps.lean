/- What comes in of each type of this translation is told by its kind. No condition. -/
import Derived.Test.YtckodbfjihcddaaP0
import Derived.Test.YtckodbfjihcddaaOpn
import Derived.Test.YtckodbfjihcddaaSec
namespace Go.Proofs.Ytckodbfjihcddaa.P
open Go.RowKit Go.Proofs.Ytckodbfjihcddaa.Opn Go.Proofs.YtckodbfjihcddaaW.PrintWords Go.Proofs.YtckodbfjihcddaaW.PrintLast Go.Proofs.YtckodbfjihcddaaW.PrintMore
structure S25 where
 f0 : Int
 f1 : Int
def k25 : Kd S25 := Kd.iso (Kd.pair (Kd.int .i64) (Kd.int .i64)) (fun x : S25 => (x.f0, x.f1))
theorem k25_open {w : World} {x : S25} {cs : List Value} (h : k25.K w x cs) : cs = [(.int .i64 x.f0), (.int .i64 x.f1)] := by
 obtain ⟨_, c0_, rfl, rfl, rfl⟩ := h
 rfl
structure S45 where
 f0 : Int
 f1 : Int
def k45 : Kd S45 := Kd.iso (Kd.pair (Kd.int .u8) (Kd.int .u8)) (fun x : S45 => (x.f0, x.f1))
theorem k45_open {w : World} {x : S45} {cs : List Value} (h : k45.K w x cs) : cs = [(.int .u8 x.f0), (.int .u8 x.f1)] := by
 obtain ⟨_, c0_, rfl, rfl, rfl⟩ := h
 rfl
def G26 (x : S26) : Prop := ∀ x_ ∈ x, (Lit.int .u8 x_).wf = true
theorem op26 : Opens Try.prog 26 k26 G26 := opens_array (t := 26) (n := 64) (e := 5) Try.underlying26 (by kernel_rfl) (opensA_nar (opens_int (t := 5) Try.underlying5 (by kernel_rfl)) 64)
def G24 (x : S24) : Prop := (x.f0.length ≤ maxLen ∧ x.f0.length * 64 ≤ 140737488351232 ∧ ∀ x_ ∈ x.f0, G26 x_) ∧ (Lit.int .i64 x.f1).wf = true ∧ True
set_option maxRecDepth 100000 in
theorem op24 : Opens Try.prog 24 k24 G24 := by
 have q := opens_iso (f := fun x : S24 => (x.f0, x.f1, x.f2)) (fun p => (⟨p.1, p.2.1, p.2.2⟩ : S24)) (fun _ => rfl) (opens_struct (t := 24) Try.underlying24 (by kernel_rfl) (opensF_cons rfl rfl (opens_slice (t := 22) (e := 26) (B := 64) Try.underlying22 (by kernel_rfl) (by kernel_rfl) op26) rfl (opensF_cons rfl rfl (opens_int (t := 3) Try.underlying3 (by kernel_rfl)) rfl (opensF_one rfl rfl (opens_bool (t := 4) Try.underlying4 (by kernel_rfl))))))
 exact opens_imp q (fun _ h => h)
def G42 (x : S42) : Prop := (Lit.int .u8 x.f0).wf = true ∧ G26 x.f1
set_option maxRecDepth 100000 in
theorem op42 : Opens Try.prog 42 k42 G42 := by
 have q := opens_iso (f := fun x : S42 => (x.f0, x.f1)) (fun p => (⟨p.1, p.2⟩ : S42)) (fun _ => rfl) (opens_struct (t := 42) Try.underlying42 (by kernel_rfl) (opensF_cons rfl rfl (opens_int (t := 5) Try.underlying5 (by kernel_rfl)) rfl (opensF_one rfl rfl op26)))
 exact opens_imp q (fun _ h => h)
def G25 (x : S25) : Prop := (Lit.int .i64 x.f0).wf = true ∧ (Lit.int .i64 x.f1).wf = true
set_option maxRecDepth 100000 in
theorem op25 : Opens Try.prog 25 k25 G25 := opens_imp (opens_iso (fun p => ⟨p.1, p.2⟩) (fun _ => rfl) (opens_array (t := 25) (n := 2) (e := 3) Try.underlying25 (by kernel_rfl) (opensA_cons (opens_int (t := 3) Try.underlying3 (by kernel_rfl)) rfl (opensA_one (opens_int (t := 3) Try.underlying3 (by kernel_rfl)))))) (fun _ h => h)
def G45 (x : S45) : Prop := (Lit.int .u8 x.f0).wf = true ∧ (Lit.int .u8 x.f1).wf = true
set_option maxRecDepth 100000 in
theorem op45 : Opens Try.prog 45 k45 G45 := opens_imp (opens_iso (fun p => ⟨p.1, p.2⟩) (fun _ => rfl) (opens_array (t := 45) (n := 2) (e := 5) Try.underlying45 (by kernel_rfl) (opensA_cons (opens_int (t := 5) Try.underlying5 (by kernel_rfl)) rfl (opensA_one (opens_int (t := 5) Try.underlying5 (by kernel_rfl)))))) (fun _ h => h)
end Go.Proofs.Ytckodbfjihcddaa.P

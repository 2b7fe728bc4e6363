/- What comes in of each type of this translation is told by its kind. No condition. -/
import Derived.Test.YtjallhlamaggbaaP0
import Derived.Test.YtjallhlamaggbaaOpn
namespace Go.Proofs.Ytjallhlamaggbaa.P
open Go.RowKit Go.Proofs.Ytjallhlamaggbaa.Opn Go.Proofs.YtjallhlamaggbaaW.PrintWords Go.Proofs.YtjallhlamaggbaaW.PrintLast Go.Proofs.YtjallhlamaggbaaW.PrintMore
structure S26 where
 f0 : Int
 f1 : Int
def k26 : Kd S26 := Kd.iso (Kd.pair (Kd.int .u32) (Kd.int .u32)) (fun x : S26 => (x.f0, x.f1))
theorem k26_open {w : World} {x : S26} {cs : List Value} (h : k26.K w x cs) : cs = [(.int .u32 x.f0), (.int .u32 x.f1)] := by
 obtain ⟨_, c0_, rfl, rfl, rfl⟩ := h
 rfl
structure S44 where
 f0 : Int
 f1 : Int
 f2 : Int
def k44 : Kd S44 := Kd.iso (Kd.pair (Kd.int .u16) (Kd.pair (Kd.int .u16) (Kd.int .u16))) (fun x : S44 => (x.f0, x.f1, x.f2))
theorem k44_open {w : World} {x : S44} {cs : List Value} (h : k44.K w x cs) : cs = [(.int .u16 x.f0), (.int .u16 x.f1), (.int .u16 x.f2)] := by
 obtain ⟨_, c0_, rfl, rfl, ⟨_, c1_, rfl, rfl, rfl⟩⟩ := h
 rfl
structure S46 where
 f0 : Int
 f1 : Int
def k46 : Kd S46 := Kd.iso (Kd.pair (Kd.int .u16) (Kd.int .u16)) (fun x : S46 => (x.f0, x.f1))
theorem k46_open {w : World} {x : S46} {cs : List Value} (h : k46.K w x cs) : cs = [(.int .u16 x.f0), (.int .u16 x.f1)] := by
 obtain ⟨_, c0_, rfl, rfl, rfl⟩ := h
 rfl
def G24 (x : S24) : Prop := (Lit.int .i64 x.f0).wf = true ∧ (x.f1.length ≤ maxLen ∧ x.f1.length * 8 ≤ 140737488351232 ∧ ∀ x_ ∈ x.f1, (Lit.int .i64 x_).wf = true)
set_option maxRecDepth 100000 in
theorem op24 : Opens Try.prog 24 k24 G24 := by
 have q := opens_iso (f := fun x : S24 => (x.f0, x.f1)) (fun p => (⟨p.1, p.2⟩ : S24)) (fun _ => rfl) (opens_struct (t := 24) Try.underlying24 (by kernel_rfl) (opensF_cons rfl rfl (opens_int (t := 3) Try.underlying3 (by kernel_rfl)) rfl (opensF_one rfl rfl (opens_slice (t := 22) (e := 3) (B := 8) Try.underlying22 (by kernel_rfl) (by kernel_rfl) (opens_int (t := 3) Try.underlying3 (by kernel_rfl))))))
 exact opens_imp q (fun _ h => h)
def G52 (x : S52) : Prop := (Lit.int .u64 x.f0).wf = true ∧ (Lit.int .u64 x.f1).wf = true
set_option maxRecDepth 100000 in
theorem op52 : Opens Try.prog 52 k52 G52 := by
 have q := opens_iso (f := fun x : S52 => (x.f0, x.f1)) (fun p => (⟨p.1, p.2⟩ : S52)) (fun _ => rfl) (opens_struct (t := 52) Try.underlying52 (by kernel_rfl) (opensF_cons rfl rfl (opens_int (t := 50) Try.underlying50 (by kernel_rfl)) rfl (opensF_one rfl rfl (opens_int (t := 50) Try.underlying50 (by kernel_rfl)))))
 exact opens_imp q (fun _ h => h)
def G26 (x : S26) : Prop := (Lit.int .u32 x.f0).wf = true ∧ (Lit.int .u32 x.f1).wf = true
set_option maxRecDepth 100000 in
theorem op26 : Opens Try.prog 26 k26 G26 := opens_imp (opens_iso (fun p => ⟨p.1, p.2⟩) (fun _ => rfl) (opens_array (t := 26) (n := 2) (e := 25) Try.underlying26 (by kernel_rfl) (opensA_cons (opens_int (t := 25) Try.underlying25 (by kernel_rfl)) rfl (opensA_one (opens_int (t := 25) Try.underlying25 (by kernel_rfl)))))) (fun _ h => h)
def G44 (x : S44) : Prop := (Lit.int .u16 x.f0).wf = true ∧ (Lit.int .u16 x.f1).wf = true ∧ (Lit.int .u16 x.f2).wf = true
set_option maxRecDepth 100000 in
theorem op44 : Opens Try.prog 44 k44 G44 := opens_imp (opens_iso (fun p => ⟨p.1, p.2.1, p.2.2⟩) (fun _ => rfl) (opens_array (t := 44) (n := 3) (e := 27) Try.underlying44 (by kernel_rfl) (opensA_cons (opens_int (t := 27) Try.underlying27 (by kernel_rfl)) rfl (opensA_cons (opens_int (t := 27) Try.underlying27 (by kernel_rfl)) rfl (opensA_one (opens_int (t := 27) Try.underlying27 (by kernel_rfl))))))) (fun _ h => h)
def G46 (x : S46) : Prop := (Lit.int .u16 x.f0).wf = true ∧ (Lit.int .u16 x.f1).wf = true
set_option maxRecDepth 100000 in
theorem op46 : Opens Try.prog 46 k46 G46 := opens_imp (opens_iso (fun p => ⟨p.1, p.2⟩) (fun _ => rfl) (opens_array (t := 46) (n := 2) (e := 27) Try.underlying46 (by kernel_rfl) (opensA_cons (opens_int (t := 27) Try.underlying27 (by kernel_rfl)) rfl (opensA_one (opens_int (t := 27) Try.underlying27 (by kernel_rfl)))))) (fun _ h => h)
end Go.Proofs.Ytjallhlamaggbaa.P

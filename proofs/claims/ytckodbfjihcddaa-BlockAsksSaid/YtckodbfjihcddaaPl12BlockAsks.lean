/- BlockAsks' plain law: a new disk, one that wakes, whether one may be, and whether two are the same, are the document's. No condition. -/
import Derived.Test.YtckodbfjihcddaaPl12
import Derived.Test.YtckodbfjihcddaaPLaw12BlockAsks
namespace Go.Proofs.Ytckodbfjihcddaa.Pl
open Go.RowKit Go.Proofs.Ytckodbfjihcddaa.P Go.Proofs.YtckodbfjihcddaaW.PrintWords Go.Proofs.YtckodbfjihcddaaW.PrintLast Go.Proofs.YtckodbfjihcddaaW.PrintMore
theorem asks12 (n : Int) (b : Bool) {l : List Sec} (hl : l.length < 2199023255552) (f : Int) (d : Bool) (l' : List Sec) (f' : Int) (d' : Bool) : law12_BlockAsks.j0 1 n b l f d l' f' d' = some true := by
 unfold law12_BlockAsks.j0
 simp only [new_is, new_is', wake_is hl, wake_is' hl, same_is, same_is', right_rt, right_rt', Option.bind_some, decide_true, Bool.and_self, beq_self_eq_true, ↓reduceIte, ite_self]
theorem BlockAsks : ∀ (x0 x1 : S24) (x2 : Int), G24 x0 → G24 x1 → (Lit.int .i64 x2).wf = true → ∃ k, law12_BlockAsks.f k x0.f0 x0.f1 x0.f2 x1.f0 x1.f1 x1.f2 x2 = some true := by
 intro x0 x1 x2 g0 _ _; refine ⟨1, ?_⟩
 unfold law12_BlockAsks.f law12_alive.f
 rw [Option.bind_some, if_pos rfl, asks12 _ _ (short12 g0), asks12 _ _ (short12 g0), ite_self]
end Go.Proofs.Ytckodbfjihcddaa.Pl

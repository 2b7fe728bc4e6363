/- BlockDeeds' plain law: any deed on any disk does what the document says. No condition. -/
import Derived.Test.YtckodbfjihcddaaPl12
import Derived.Test.YtckodbfjihcddaaL12Deeds
namespace Go.Proofs.Ytckodbfjihcddaa.Pl
open Go.RowKit Go.Proofs.Ytckodbfjihcddaa.P Go.Proofs.YtckodbfjihcddaaW.PrintWords Go.Proofs.YtckodbfjihcddaaW.PrintLast Go.Proofs.YtckodbfjihcddaaW.PrintMore
theorem BlockDeeds : ∀ (x0 : S24) (x1 : S25) (x2 : S26), G24 x0 → G25 x1 → G26 x2 → law12_BlockDeeds.f x0.f0 x0.f1 x0.f2 x1.f0 x1.f1 x2 = some true := by
 intro x0 x1 x2 g0 _ _; have hl := short12 g0; have hf := i64_12 g0.2.1
 unfold law12_BlockDeeds.f
 rw [if_pos hf.2]
 split
 ·rfl
 ·rw [copy12 hl, Option.bind_some, put_is hl hf.2, Option.bind_some, put_is' hl, Option.bind_some, get_is, Option.bind_some, get_is', Option.bind_some, arm_is hl, Option.bind_some, arm_is' hl, Option.bind_some]
  simp
end Go.Proofs.Ytckodbfjihcddaa.Pl

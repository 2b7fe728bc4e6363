/- SealTwice's plain law: sealed twice, and opened twice, it is as it was; a bit that is turned twice, too: for all bytes and bits. No condition. -/
import Derived.Test.YtfaiapmckimjeaaPLaw02SealTwice
import Derived.Test.YtfaiapmckimjeaaPlC
namespace Go.Proofs.Ytfaiapmckimjeaa.Pure
open Go.RowKit Go.Proofs.Ytfaiapmckimjeaa.P Go.Proofs.YtfaiapmckimjeaaW.PrintWords Go.Proofs.YtfaiapmckimjeaaW.PrintLast Go.Proofs.YtfaiapmckimjeaaW.PrintMore Go.Proofs.Ytfaiapmckimjeaa.Pl
set_option linter.unusedSimpArgs false
set_option linter.unusedVariables false
theorem SealTwice : law02_SealTwice.Pure := by
 intro l a hm hb hl wa
 refine Ev.rounds (r := true) ?_
 unfold law02_SealTwice.f
 refine Ev.bind alive02 ?_
 simp only [↓reduceIte]
 by_cases hg : (l.length : Int) > 1000
 ·simp only [hg, ↓reduceIte]
  exact Ev.now _
 ·have hn : l.length ≤ 1000 := by omega
  have h1 := sealed_len l
  have ha := u16_bd wa
  have hw : wrap64 a = a := wrap_id _ (by omega) (by omega)
  simp only [hg, ↓reduceIte]
  refine Ev.bind (ev_Seal l (by omega)) (Ev.bind (ev_Seal (sealed l) (by omega)) (Ev.bind (ev_Open_sealed (sealed l) (by omega)) (Ev.bind (ev_Open_sealed l (by omega)) ?_)))
  have hw2 : wrap64 ((l.length : Int) + 4) = (l.length : Int) + 4 := wrap_id _ (by omega) (by omega)
  have hle : ((sealed l).length : Int) = (l.length : Int) + 4 := by rw [h1]; omega
  simp only [↓reduceIte, same_true, Option.bind_some, hw2, hle, hw, turn_is l a ha.1 ha.2 (by omega), turn_is (turn l a) a ha.1 ha.2 (by rw [turn_len]; omega), turn_turn l a ha.1 (fun x hx => u8_bd (hl x hx))]
  exact Ev.now _
end Go.Proofs.Ytfaiapmckimjeaa.Pure

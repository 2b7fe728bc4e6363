/- What the laws of digests have in common. No program runs here. No condition. -/
import Derived.Test.YtcmligagkaimeaaPlG
import Derived.Test.YtcmligagkaimeaaPLaw07Alive
import Derived.Test.YtcmligagkaimeaaOps
namespace Go.Proofs.Ytcmligagkaimeaa.Pl
open Go.RowKit Go.Proofs.Ytcmligagkaimeaa.P Go.Proofs.YtcmligagkaimeaaW.PrintWords Go.Proofs.YtcmligagkaimeaaW.PrintLast Go.Proofs.YtcmligagkaimeaaW.PrintMore
set_option linter.unusedSimpArgs false
set_option linter.unusedVariables false
theorem ev_alive07 : Ev (fun k => law07_alive.f k) true := Ev.of (fun k => law07_alive.mono k) (k := 60) (by decide +kernel)
/-! ### what comes in -/
def InV (v : List Nm) : Prop := v.length ≤ maxLen ∧ v.length * 48 ≤ 140737488351232 ∧ ∀ x ∈ v, G35 x
theorem inV {v : List Nm} (h : v.length ≤ maxLen ∧ v.length * 48 ≤ 140737488351232 ∧ ∀ x_ ∈ v, G35 x_) : v.length < 4611686018427387904 ∧ ∀ x ∈ v, x.f1.f2.length < 4611686018427387904 ∧ ∀ y ∈ x.f1.f2, y.f2.size ≤ 140737488351232 := by
 obtain ⟨_, h2, h3⟩ := h
 refine ⟨by omega, fun x hx => ?_⟩
 obtain ⟨_, _, _, hl⟩ := h3 x hx
 obtain ⟨_, q2, q3⟩ := hl
 exact ⟨by omega, fun y hy => (q3 y hy).2.2⟩
theorem right_small {l : List Dg} (h : l.length ≤ 40) : l.length < 4611686018427387904 := by omega
theorem smallV_lt {v : List Nm} (h : SmallV v) : ∀ x ∈ v, x.f1.f2.length < 4611686018427387904 := fun x hx => by have := h.2 x hx; omega
theorem smallV_len {v : List Nm} (h : SmallV v) : v.length < 4611686018427387904 := by have := h.1; omega
theorem cmp_len (a b : List Dg) : (cmp a b).1.length + (cmp a b).2.length ≤ 2 * (a.length + b.length) := by
 match a, b with
 | [], b => rw [cmp_nil]; simp; omega
 | a, [] => rw [cmp_nil_r]; simp; omega
 | o :: a, d :: b =>
  have h1 := cmp_len (o :: a) b
  have h2 := cmp_len a (d :: b)
  have h3 := cmp_len a b
  have h4 := lacks_len o d
  have h5 := lacks_len d o
  rw [cmp_cons]
  rcases Int.lt_trichotomy o.f0 d.f0 with h | h | h
  ·rw [if_neg (by omega), if_pos h]; simp at *; omega
  ·rw [if_neg (by omega), if_neg (by omega)]; simp at *; omega
  ·rw [if_pos h]; simp at *; omega
termination_by a.length + b.length
end Go.Proofs.Ytcmligagkaimeaa.Pl

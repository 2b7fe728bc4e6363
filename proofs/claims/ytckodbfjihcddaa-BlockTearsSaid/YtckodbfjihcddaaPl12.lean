/- Chapter 12's plain words: what each deed on a disk computes, told once. No condition. -/
import Derived.Test.YtckodbfjihcddaaPBlockGet
import Derived.Test.YtckodbfjihcddaaPBlockSame
import Derived.Test.YtckodbfjihcddaaPBlockNew
import Derived.Test.YtckodbfjihcddaaPRef12Put
import Derived.Test.YtckodbfjihcddaaOps
namespace Go.Proofs.Ytckodbfjihcddaa.Pl
open Go.RowKit Go.Proofs.Ytckodbfjihcddaa.P Go.Proofs.YtckodbfjihcddaaW.PrintWords Go.Proofs.YtckodbfjihcddaaW.PrintLast Go.Proofs.YtckodbfjihcddaaW.PrintMore
set_option linter.unusedSimpArgs false
set_option linter.unusedVariables false
abbrev Sec := S26
theorem i64_12 {a : Int} (h : (Lit.int .i64 a).wf = true) : -9223372036854775808 ≤ a ∧ a ≤ 9223372036854775807 := by
 simp [Lit.wf, IntKind.min, IntKind.max, IntKind.bits, IntKind.signed] at h
 omega
theorem short12 {x : S24} (h : G24 x) : x.f0.length < 2199023255552 := by have := h.1.2.1; omega
/-- What is answered where a sector is asked for. -/
def ask (l : List Sec) (f : Int) (d : Bool) (a : Int) : Int := if (l.length : Int) ≤ 64 ∧ f ≥ -1 then (if d = true then 9 else if a < 0 then 1 else if a ≥ (l.length : Int) then 1 else 0) else 1
def rt (l : List Sec) (f : Int) : Bool := decide ((l.length : Int) ≤ 64 ∧ f ≥ -1)
theorem right_rt (l : List Sec) (f : Int) (d : Bool) : block_Right.f l f d = some (rt l f) := by
 unfold block_Right.f rt
 by_cases h : (l.length : Int) ≤ 64 <;> simp [h]
theorem right_rt' (l : List Sec) (f : Int) (d : Bool) : ref12_Right.f l f d = some (rt l f) := by
 unfold ref12_Right.f rt
 by_cases h : (l.length : Int) ≤ 64 <;> simp [h]
theorem rt_true {l : List Sec} {f : Int} (h : rt l f = true) : (l.length : Int) ≤ 64 ∧ f ≥ -1 := of_decide_eq_true h
theorem rt_false {l : List Sec} {f : Int} (h : rt l f = false) : ¬ ((l.length : Int) ≤ 64 ∧ f ≥ -1) := of_decide_eq_false h
theorem asked_ask (l : List Sec) (f : Int) (d : Bool) (a : Int) : block_asked.f l f d a = some (ask l f d a) := by
 unfold block_asked.f block_up.f ask
 rw [right_rt, Option.bind_some]
 cases hr : rt l f with
 | true =>
  rw [if_pos rfl, if_pos (rt_true hr)]
  cases d with
  | true => rfl
  | false =>
   simp only [Bool.false_eq_true, ↓reduceIte, Option.bind_some]
   by_cases h1 : a < 0
   ·rw [if_pos h1, if_pos h1]
   ·rw [if_neg h1, if_neg h1]
    by_cases h2 : a ≥ (l.length : Int)
    ·rw [if_pos h2, if_pos h2]
    ·rw [if_neg h2, if_neg h2]
 | false => rw [if_neg (by decide), if_neg (rt_false hr)]; rfl
theorem asked_ask' (l : List Sec) (f : Int) (d : Bool) (a : Int) : ref12_asked.f l f d a = some (ask l f d a) := by
 unfold ref12_asked.f ask
 rw [right_rt', Option.bind_some]
 cases hr : rt l f with
 | true =>
  rw [if_pos rfl, if_pos (rt_true hr)]
  cases d with
  | true => rfl
  | false =>
   simp only [Bool.false_eq_true, ↓reduceIte, Option.bind_some]
   by_cases h1 : a < 0
   ·rw [if_pos h1, if_pos h1]
   ·rw [if_neg h1, if_neg h1]
    by_cases h2 : a ≥ (l.length : Int)
    ·rw [if_pos h2, if_pos h2]
    ·rw [if_neg h2, if_neg h2]
 | false => rw [if_neg (by decide), if_neg (rt_false hr)]
theorem ask_zero {l : List Sec} {f : Int} {d : Bool} {a : Int} (h : ask l f d a = 0) : (l.length : Int) ≤ 64 ∧ f ≥ -1 ∧ d = false ∧ 0 ≤ a ∧ a < (l.length : Int) := by
 unfold ask at h
 split at h
 ·next h1 =>
  cases d with
  | true => simp at h
  | false =>
   rw [if_neg (by decide)] at h
   split at h
   ·simp at h
   ·split at h
    ·simp at h
    ·exact ⟨h1.1, h1.2, rfl, by omega, by omega⟩
 ·simp at h
theorem ask_ok {l : List Sec} {f : Int} {d : Bool} {a : Int} (h1 : (l.length : Int) ≤ 64) (h2 : f ≥ -1) (h3 : d = false) (h4 : 0 ≤ a) (h5 : a < (l.length : Int)) : ask l f d a = 0 := by
 subst h3
 unfold ask
 rw [if_pos ⟨h1, h2⟩, if_neg (by decide), if_neg (by omega), if_neg (by omega)]
theorem clone12 {l : List Sec} (h : l.length < 2199023255552) : slices_Clone_64_byte_64_byte.f l = some l := by unfold slices_Clone_64_byte_64_byte.f; rw [if_pos h]
theorem copy12 {l : List Sec} {f : Int} {d : Bool} (h : l.length < 2199023255552) : ref12_Copy.f l f d = some (l, f, d) := by
 unfold ref12_Copy.f
 rw [Option.bind_some, if_pos (by simpa using h)]; rfl
/-- What a write leaves. -/
def wrote (l : List Sec) (f : Int) (d : Bool) (i : Nat) (x : Sec) : (List Sec) × Int × Bool × Int := if f = -1 then (l.set i x, f, d, 0) else if f ≥ 64 then (l.set i x, f - 64, d, 0) else (l.set i (x.take f.toNat ++ List.replicate (x.length - f.toNat) 0), -1, true, 9)
def put12 (l : List Sec) (f : Int) (d : Bool) (a : Int) (x : Sec) : (List Sec) × Int × Bool × Int := if ask l f d a = 0 then wrote l f d a.toNat x else (l, f, d, ask l f d a)
theorem put_is {l : List Sec} {f : Int} {d : Bool} {a : Int} {x : Sec} (hl : l.length < 2199023255552) (hf : f ≤ 9223372036854775807) : block_Put.f l f d a x = some (put12 l f d a x) := by
 unfold block_Put.f put12
 rw [asked_ask, Option.bind_some]
 by_cases h : ask l f d a = 0
 ·rw [if_pos h, if_pos h, clone12 hl, Option.bind_some]; obtain ⟨h1, h2, h3, h4, h5⟩ := ask_zero h; rw [if_pos h4, if_pos h5]
  unfold wrote
  by_cases hm : f = -1
  ·rw [if_pos hm, if_pos hm]
  ·rw [if_neg hm, if_neg hm]
   by_cases hg : f ≥ 64
   ·rw [if_pos hg, if_pos hg, show wrap64 (f - 64) = f - 64 from by unfold wrap64; omega]
   ·rw [if_neg hg, if_neg hg, if_pos (by omega)]
 ·rw [if_neg h, if_neg h]
theorem put_is' {l : List Sec} {f : Int} {d : Bool} {a : Int} {x : Sec} (hl : l.length < 2199023255552) : ref12_Put.f l f d a x = some (put12 l f d a x) := by
 unfold ref12_Put.f put12
 rw [asked_ask', Option.bind_some]
 by_cases h : ask l f d a = 0
 ·rw [if_pos h, if_pos h, copy12 hl, Option.bind_some]; obtain ⟨h1, h2, h3, h4, h5⟩ := ask_zero h; rw [if_pos h4, if_pos h5]
  unfold wrote
  by_cases hm : f = -1
  ·rw [if_pos hm, if_pos hm]
  ·rw [if_neg hm, if_neg hm]
   by_cases hg : f ≥ 64
   ·rw [if_pos hg, if_pos hg]
   ·rw [if_neg hg, if_neg hg, if_pos (by omega)]
 ·rw [if_neg h, if_neg h]
def get12 (l : List Sec) (f : Int) (d : Bool) (a : Int) : Sec × Int := if ask l f d a = 0 then (l.getD a.toNat z26, 0) else (z26, ask l f d a)
theorem get_is (l : List Sec) (f : Int) (d : Bool) (a : Int) : block_Get.f l f d a = some (get12 l f d a) := by
 unfold block_Get.f get12
 rw [asked_ask, Option.bind_some]
 by_cases h : ask l f d a = 0
 ·rw [if_pos h, if_pos h]; obtain ⟨h1, h2, h3, h4, h5⟩ := ask_zero h; rw [if_pos h4, if_pos h5]
 ·rw [if_neg h, if_neg h]
theorem get_is' (l : List Sec) (f : Int) (d : Bool) (a : Int) : ref12_Get.f l f d a = some (get12 l f d a) := by
 unfold ref12_Get.f get12
 rw [asked_ask', Option.bind_some]
 by_cases h : ask l f d a = 0
 ·rw [if_pos h, if_pos h]; obtain ⟨h1, h2, h3, h4, h5⟩ := ask_zero h; rw [if_pos h4, if_pos h5]
 ·rw [if_neg h, if_neg h]
def arm12 (l : List Sec) (f : Int) (d : Bool) (b : Int) : (List Sec) × Int × Bool × Int := if rt l f = true then (if d = true then (l, f, d, 9) else if b < -1 then (l, f, d, 1) else (l, b, d, 0)) else (l, f, d, 1)
theorem arm_is {l : List Sec} {f : Int} {d : Bool} {b : Int} (hl : l.length < 2199023255552) : block_Arm.f l f d b = some (arm12 l f d b) := by
 unfold block_Arm.f block_up.f block_own.f arm12
 rw [right_rt, Option.bind_some, clone12 hl]
 cases hr : rt l f with
 | false => rfl
 | true =>
  rw [if_pos rfl, if_pos rfl]
  cases d with
  | true => rfl
  | false =>
   simp only [Bool.false_eq_true, ↓reduceIte, Option.bind_some]
   by_cases h1 : b < -1
   ·rw [if_pos h1, if_pos h1]
   ·rw [if_neg h1, if_neg h1]
theorem arm_is' {l : List Sec} {f : Int} {d : Bool} {b : Int} (hl : l.length < 2199023255552) : ref12_Arm.f l f d b = some (arm12 l f d b) := by
 unfold ref12_Arm.f arm12
 rw [right_rt', Option.bind_some, copy12 hl]
 cases hr : rt l f with
 | false => rfl
 | true =>
  rw [if_pos rfl, if_pos rfl]
  cases d with
  | true => rfl
  | false =>
   simp only [Bool.false_eq_true, ↓reduceIte, Option.bind_some]
   by_cases h1 : b < -1
   ·rw [if_pos h1, if_pos h1]
   ·rw [if_neg h1, if_neg h1]
def wake12 (l : List Sec) (f : Int) (d : Bool) : (List Sec) × Int × Bool × Int := if rt l f = true then (l, -1, false, 0) else (l, f, d, 1)
theorem wake_is {l : List Sec} {f : Int} {d : Bool} (hl : l.length < 2199023255552) : block_Wake.f l f d = some (wake12 l f d) := by
 unfold block_Wake.f block_own.f wake12
 rw [right_rt, Option.bind_some, clone12 hl]
 cases hr : rt l f <;> rfl
theorem wake_is' {l : List Sec} {f : Int} {d : Bool} (hl : l.length < 2199023255552) : ref12_Wake.f l f d = some (wake12 l f d) := by
 unfold ref12_Wake.f wake12
 rw [right_rt', Option.bind_some, copy12 hl]
 cases hr : rt l f <;> rfl
def new12 (n : Int) : (List Sec) × Int × Bool × Int := if n < 1 then ([], 0, false, 1) else if n > 64 then ([], 0, false, 1) else (List.replicate n.toNat z26, -1, false, 0)
theorem new_is (n : Int) : block_New.f n = some (new12 n) := by
 unfold block_New.f new12
 split
 ·rfl
 ·split
  ·rfl
  ·rw [if_pos (by omega), if_pos (by omega)]
theorem new_is' (n : Int) : ref12_New.f n = some (new12 n) := by
 unfold ref12_New.f new12
 split
 ·rfl
 ·split
  ·rfl
  ·rw [if_pos (by omega), if_pos (by omega)]
theorem same_is (l : List Sec) (f : Int) (d : Bool) (l' : List Sec) (f' : Int) (d' : Bool) : ref12_Same.f l f d l' f' d' = some (decide (l = l') && (decide (f = f') && (d == d'))) := rfl
theorem same_is' (l : List Sec) (f : Int) (d : Bool) (l' : List Sec) (f' : Int) (d' : Bool) : block_Same.f l f d l' f' d' = some (decide (l = l') && (decide (f = f') && (d == d'))) := by
 unfold block_Same.f slices_Equal_64_byte_64_byte.f
 rw [Option.bind_some]
 by_cases h : l = l'
 ·by_cases h2 : f = f' <;> simp [h, h2]
 ·simp [h]
theorem same_self12 (l : List Sec) (f : Int) (d : Bool) : (decide (l = l) && (decide (f = f) && (d == d))) = true := by simp
end Go.Proofs.Ytckodbfjihcddaa.Pl

/- Plain words of judgements: who is too silent is down. No program runs here. No condition. -/
import Derived.Test.YtoghjpoblbdnpaaPlX
import Derived.Test.YtoghjpoblbdnpaaPlXP
import Derived.Test.YtoghjpoblbdnpaaPWatchWithout
namespace Go.Proofs.Ytoghjpoblbdnpaa.Pl
open Go.RowKit Go.Proofs.Ytoghjpoblbdnpaa.P Go.Proofs.YtoghjpoblbdnpaaW.PrintWords Go.Proofs.YtoghjpoblbdnpaaW.PrintLast Go.Proofs.YtoghjpoblbdnpaaW.PrintMore Go.Proofs.Ytoghjpoblbdnpaa.Pl09 Go.Proofs.Ytoghjpoblbdnpaa.Pl10
set_option linter.unusedSimpArgs false
set_option linter.unusedVariables false
/-- Who falls. -/
def fb (now boot th : Int) (x : X) : Bool := x.f4 && decide ((lv x.f3.f0 x.f3.f1 now boot).2 = 0 ∧ (lv x.f3.f0 x.f3.f1 now boot).1 > th)
def jx (now boot th : Int) (x : X) : X := if fb now boot th x = true then watch_Judge.fallen x now else x
theorem jx_f0 (now boot th : Int) (x : X) : (jx now boot th x).f0 = x.f0 := by unfold jx; split <;> rfl
theorem fb_down (now boot th : Int) {x : X} (h : x.f4 = false) : fb now boot th x = false := by unfold fb; rw [h, Bool.false_and]
theorem jx_down (now boot th : Int) {x : X} (h : fb now boot th x = true) : (jx now boot th x).f4 = false := by unfold jx; rw [if_pos h]; rfl
theorem jx_since (now boot th : Int) {x : X} (h : fb now boot th x = true) : (jx now boot th x).f5 = now := by unfold jx; rw [if_pos h]; rfl
theorem jx_same (now boot th : Int) {x : X} (h : fb now boot th x = false) : jx now boot th x = x := by unfold jx; rw [if_neg (by rw [h]; decide)]
theorem jx_good {now boot th : Int} (h0 : 0 ≤ now) (h1 : now ≤ 1099511627776) {x : X} (h : GoodX x) : GoodX (jx now boot th x) := by
 unfold jx
 split
 ·obtain ⟨a, b, c, d, e, f, g, i, _, _, _⟩ := h; exact ⟨a, b, c, d, e, f, g, i, h0, h1, fun hq => by cases hq⟩
 ·exact h
theorem judge_go {now boot th : Int} (hn1 : now ≤ 1099511627776) (hb : boot ≤ 9223372036854775807) : ∀ (suf done : List X) (ns : List Int), (∀ x ∈ suf, GoodX x) → ns.length + suf.length ≤ 1000 →
  Ev (fun k => watch_Judge.go k now boot th suf done ns) (done ++ suf.map (jx now boot th), ns ++ (suf.filter (fb now boot th)).map (fun x => x.f0)) := by
 intro suf
 induction suf with
 | nil =>
  intro done ns _ _; simp only [List.map_nil, List.filter_nil, List.append_nil]; exact Ev.now _
 | cons x suf ih =>
  intro done ns hg hl; have hx := hg x (by simp)
  have hl2 : ns.length + (suf.length + 1) ≤ 1000 := by simpa using hl
  have hf : Ev (fun k => watch_Judge.falls k x now boot th) (fb now boot th x) := by
   unfold watch_Judge.falls fb
   cases hal : x.f4 with
   | false => simp only [Bool.false_eq_true, ↓reduceIte, Bool.false_and]; exact Ev.now _
   | true => simp only [↓reduceIte, Bool.true_and]; exact suspect_any hx.2.2.2.2.2.2.1 hx.2.2.2.2.2.2.2.1 now boot th hn1 hb
  refine Ev.bind hf ?_
  cases hfb : fb now boot th x with
  | true =>
   have c : ns.length < 17592186044416 := by omega
   simp only [↓reduceIte, c]; have := ih (done ++ [watch_Judge.fallen x now]) (ns ++ [x.f0]) (fun y hy => hg y (by simp [hy])) (by rw [List.length_append, List.length_singleton]; omega); rw [List.map_cons, List.filter_cons, if_pos hfb, List.map_cons]; rw [show jx now boot th x = watch_Judge.fallen x now from by unfold jx; rw [if_pos hfb]]; rw [List.append_assoc, List.append_assoc] at this; exact this
  | false =>
   simp only [Bool.false_eq_true, ↓reduceIte]; have := ih (done ++ [x]) ns (fun y hy => hg y (by simp [hy])) (by omega); rw [List.map_cons, List.filter_cons, if_neg (by rw [hfb]; decide), jx_same now boot th hfb]; rw [List.append_assoc] at this; exact this
theorem judge22 {l : List X} (hs : SmallL l) (hg : ∀ x ∈ l, GoodX x) {now boot th : Int} (hn1 : now ≤ 1099511627776) (hb : boot ≤ 9223372036854775807) :
  Ev (fun k => watch_Judge.f k l now boot th) (l.map (jx now boot th), (l.filter (fb now boot th)).map (fun x => x.f0)) := by
 unfold watch_Judge.f
 simp only [own22 hs, Option.bind_some]; exact judge_go hn1 hb l [] [] hg (by have := hs.1; simp; omega)
theorem uniq22 {l : List X} (hp : l.Pairwise (fun a b => a.f0 < b.f0)) {x z : X} (hx : x ∈ l) (hz : z ∈ l) (h : x.f0 = z.f0) : x = z := by
 obtain ⟨i, hi, rfl⟩ := List.mem_iff_getElem.1 hx; obtain ⟨j, hj, rfl⟩ := List.mem_iff_getElem.1 hz; have hq := List.pairwise_iff_getElem.1 hp
 rcases Nat.lt_trichotomy i j with hij | rfl | hij
 ·have := hq i j hi hj hij; omega
 ·rfl
 ·have := hq j i hj hi hij; omega
theorem small_map {l : List X} (h : SmallL l) (now boot th : Int) : SmallL (l.map (jx now boot th)) := by
 refine ⟨by rw [List.length_map]; exact h.1, fun x hx => ?_⟩; obtain ⟨y, hy, rfl⟩ := List.mem_map.1 hx; have := h.2 y hy
 unfold jx
 split
 ·exact this
 ·exact this
end Go.Proofs.Ytoghjpoblbdnpaa.Pl

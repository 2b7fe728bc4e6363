/- DigestCompares, in plain words. No program runs here. No condition. -/
import Derived.Test.YtcmligagkaimeaaPl07
import Derived.Test.YtcmligagkaimeaaPRef06Get
import Derived.Test.YtcmligagkaimeaaPRef07Find
import Derived.Test.YtcmligagkaimeaaPRef07Compare
import Derived.Test.YtcmligagkaimeaaPLaw07DigestCompares
namespace Go.Proofs.Ytcmligagkaimeaa.Pl
open Go.RowKit Go.Proofs.Ytcmligagkaimeaa.P Go.Proofs.YtcmligagkaimeaaW.PrintWords Go.Proofs.YtcmligagkaimeaaW.PrintLast Go.Proofs.YtcmligagkaimeaaW.PrintMore
set_option linter.unusedSimpArgs false
set_option linter.unusedVariables false
/-! ### an endpoint is looked up -/
theorem ev_ref06_Get_l0 (n : Int) (suf : List Nm) : ∀ (pre : List Nm), (pre ++ suf).length < 4611686018427387904 → (∀ x ∈ suf, x.f1.f2.length ≤ 4000) →
  Ev (fun k => ref06_Get.l0 k (pre ++ suf) n (pre.length : Int)) (match look kN suf n with | some x => (x.f1.f0, x.f1.f1, x.f1.f2, true) | none => (0, 0, [], false)) := by
 induction suf with
 | nil =>
  intro pre h h2
  refine Ev.step (fun k => by rw [ref06_Get.l0]) ?_
  simp only [end_ge, ↓reduceIte]
  exact Ev.now _
 | cons x suf ih =>
  intro pre h h2
  have hx := h2 x (by simp)
  refine Ev.step (fun k => by rw [ref06_Get.l0]) ?_
  simp only [mid_lt, nat_ge, ↓reduceIte, rdN, mid_next pre x suf (by omega), look_cons]
  by_cases e : x.f0 = n
  ·have hl : ([] : List E).length + x.f1.f2.length < 4398046511104 := by simp; omega
   have hc : ref05_Copy.f x.f1.f0 x.f1.f1 x.f1.f2 = some (x.f1.f0, x.f1.f1, x.f1.f2) := by
    unfold ref05_Copy.f
    simp only [Option.bind_some]
    rw [if_pos hl]; rfl
   have e2 : kN x = n := e
   simp only [e, e2, ↓reduceIte, hc, Option.bind_some]
   exact Ev.now _
  ·have e2 : ¬ kN x = n := e
   simp only [e, e2, ↓reduceIte]
   have := ih (pre ++ [x]) (by rw [← List.append_cons]; exact h) (fun y hy => h2 y (by simp [hy]))
   rw [← List.append_cons pre x suf] at this
   exact this
theorem ev_ref06_Get (v : List Nm) (n : Int) (h : SmallV v) : Ev (fun k => ref06_Get.f k v n) (match look kN v n with | some x => (x.f1.f0, x.f1.f1, x.f1.f2, true) | none => (0, 0, [], false)) :=
 ev_ref06_Get_l0 n v [] (by have := h.1; simp; omega) h.2
theorem ev_ref07_find_l0 (n : Int) (suf : List Dg) : ∀ (pre : List Dg), (pre ++ suf).length < 4611686018427387904 →
  Ev (fun k => ref07_find.l0 k (pre ++ suf) n (pre.length : Int)) (match look kD suf n with | some x => (x.f0, x.f1, x.f2, true) | none => (0, 0, 0, false)) := by
 induction suf with
 | nil =>
  intro pre h
  refine Ev.step (fun k => by rw [ref07_find.l0]) ?_
  simp only [end_ge, ↓reduceIte]
  exact Ev.now _
 | cons x suf ih =>
  intro pre h
  refine Ev.step (fun k => by rw [ref07_find.l0]) ?_
  simp only [mid_lt, nat_ge, ↓reduceIte, rdD, mid_next pre x suf (by omega), look_cons]
  by_cases e : x.f0 = n
  ·have e2 : kD x = n := e
   simp only [e2, e, ↓reduceIte]
   exact Ev.now _
  ·have e2 : ¬ kD x = n := e
   simp only [e, e2, ↓reduceIte]
   have := ih (pre ++ [x]) (by rw [← List.append_cons]; exact h)
   rw [← List.append_cons pre x suf] at this
   exact this
theorem ev_ref07_find (l : List Dg) (n : Int) (h : l.length < 4611686018427387904) : Ev (fun k => ref07_find.f k l n) (match look kD l n with | some x => (x.f0, x.f1, x.f2, true) | none => (0, 0, 0, false)) :=
 ev_ref07_find_l0 n l [] h
theorem look_of (v : List Nm) (n : Int) : look kD (Of v) n = (look kN v n).map ofN := by
 induction v with
 | nil => rfl
 | cons x v ih =>
  rw [show Of (x :: v) = ofN x :: Of v from rfl, look_cons, look_cons, ih]
  by_cases e : x.f0 = n
  ·rw [if_pos (show kD (ofN x) = n from e), if_pos (show kN x = n from e)]; rfl
  ·rw [if_neg (show ¬ kD (ofN x) = n from e), if_neg (show ¬ kN x = n from e)]
/-! ### node by node -/
def wantsAt (v : List Nm) (l : List Dg) (k : Int) : List Dg := wantsOf (look kD (Of v) k) (look kD l k)
def givesAt (v : List Nm) (l : List Dg) (k : Int) : List Dg := wantsOf (look kD l k) (look kD (Of v) k)
theorem wantsOf_len (a b : Option Dg) : (wantsOf a b).length ≤ 1 := by
 cases a <;> cases b <;> simp [wantsOf, lacks_len]
theorem ev_ref07_Compare_l0 (v : List Nm) (l : List Dg) (hv : SmallV v) (hl : l.length ≤ 40) (m : Nat) : ∀ (n : Nat) (wants gives : List Dg), n + m = 8 → wants.length ≤ n → gives.length ≤ n →
  Ev (fun k => ref07_Compare.l0 k v l wants gives (n : Int)) (wants ++ (List.range' n m).flatMap (fun (k : Nat) => wantsAt v l k), gives ++ (List.range' n m).flatMap (fun (k : Nat) => givesAt v l k)) := by
 induction m with
 | zero =>
  intro n wants gives hn hw hg
  refine Ev.step (fun k => by rw [ref07_Compare.l0]) ?_
  have : ¬ ((n : Int) < 8) := by omega
  simp only [this, ↓reduceIte, List.range'_zero, List.flatMap_nil, List.append_nil]
  exact Ev.now _
 | succ m ih =>
  intro n wants gives hn hw hg
  have h8 : (n : Int) < 8 := by omega
  have hw2 : wants.length < 5864062014805 := by omega
  have hg2 : gives.length < 5864062014805 := by omega
  have hnext : wrap64 ((n : Int) + 1) = ((n + 1 : Nat) : Int) := wrap_nat n (by omega)
  have hG := ev_ref06_Get v (n : Int) hv
  have hF := ev_ref07_find l (n : Int) (by omega)
  have key : ∀ (W G : List Dg), wantsAt v l (n : Int) = W → givesAt v l (n : Int) = G →
    Ev (fun k => ref07_Compare.l0 k v l (wants ++ W) (gives ++ G) ((n + 1 : Nat) : Int)) (wants ++ (List.range' n (m + 1)).flatMap (fun (k : Nat) => wantsAt v l k), gives ++ (List.range' n (m + 1)).flatMap (fun (k : Nat) => givesAt v l k)) := by
   intro W G eW eG
   have lW : W.length ≤ 1 := by rw [← eW]; exact wantsOf_len _ _
   have lG : G.length ≤ 1 := by rw [← eG]; exact wantsOf_len _ _
   have := ih (n + 1) (wants ++ W) (gives ++ G) (by omega) (by rw [List.length_append]; omega) (by rw [List.length_append]; omega)
   rw [List.range'_succ, List.flatMap_cons, List.flatMap_cons, eW, eG, ← List.append_assoc, ← List.append_assoc]
   exact this
  refine Ev.step (fun k => by rw [ref07_Compare.l0]) ?_
  simp only [h8, ↓reduceIte]
  generalize (wants ++ (List.range' n (m + 1)).flatMap (fun (k : Nat) => wantsAt v l k), gives ++ (List.range' n (m + 1)).flatMap (fun (k : Nat) => givesAt v l k)) = R at key ⊢
  unfold wantsAt givesAt at key
  rw [look_of] at key
  refine Ev.bind hG ?_
  refine Ev.bind hF ?_
  cases hs : look kN v (n : Int) with
  | none =>
   rw [hs] at key
   refine Ev.bind (ev_ref05_Top ⟨0, 0, []⟩ (by simp)) ?_
   simp only [Bool.false_eq_true, ↓reduceIte]
   cases hd : look kD l (n : Int) with
   | none =>
    rw [hd] at key
    refine Ev.step (fun k => by rw [ref07_Compare.j1]) ?_
    simp only [Bool.not_false, ↓reduceIte, hnext]
    have := key [] [] rfl rfl
    simpa using this
   | some d =>
    rw [hd] at key
    have hdn : d.f0 = n := (look_mem hd).2
    refine Ev.step (fun k => by rw [ref07_Compare.j1]) ?_
    simp only [Bool.not_true, Bool.false_eq_true, ↓reduceIte]
    refine Ev.step (fun k => by rw [ref07_Compare.j2]) ?_
    simp only [↓reduceIte, hw2, hnext]
    have := key [⟨n, d.f1, 0⟩] [] (by simp [wantsOf, hdn]) rfl
    simpa using this
  | some x =>
   rw [hs] at key
   have hxm := look_mem hs
   have hxn : x.f0 = n := hxm.2
   have hx4 := hv.2 x hxm.1
   refine Ev.bind (ev_ref05_Top x.f1 (by omega)) ?_
   simp only [↓reduceIte]
   cases hd : look kD l (n : Int) with
   | none =>
    rw [hd] at key
    refine Ev.step (fun k => by rw [ref07_Compare.j1]) ?_
    simp only [Bool.false_eq_true, ↓reduceIte]
    refine Ev.step (fun k => by rw [ref07_Compare.j2]) ?_
    simp only [Bool.false_eq_true, ↓reduceIte]
    refine Ev.step (fun k => by rw [ref07_Compare.j3]) ?_
    simp only [↓reduceIte, hg2, hnext]
    have := key [] [⟨n, x.f1.f0, 0⟩] rfl (by simp [wantsOf, ofN, hxn])
    simpa using this
   | some d =>
    rw [hd] at key
    have hdn : d.f0 = n := (look_mem hd).2
    refine Ev.step (fun k => by rw [ref07_Compare.j1]) ?_
    simp only [Bool.false_eq_true, ↓reduceIte]
    refine Ev.step (fun k => by rw [ref07_Compare.j2]) ?_
    simp only [Option.map_some, wantsOf, ofN, lacks] at key
    by_cases h1 : d.f1 > x.f1.f0
    ·simp only [h1, decide_true, ↓reduceIte, hw2, hnext]
     have := key [⟨n, d.f1, 0⟩] [] (by simp [h1, hdn]) (by rw [if_neg (by omega), if_neg (by omega)])
     simpa using this
    ·simp only [h1, decide_false, Bool.false_eq_true, ↓reduceIte]
     refine Ev.step (fun k => by rw [ref07_Compare.j3]) ?_
     by_cases h2 : x.f1.f0 > d.f1
     ·simp only [h2, decide_true, ↓reduceIte, hg2, hnext]
      have := key [] [⟨n, x.f1.f0, 0⟩] (by rw [if_neg (by omega), if_neg (by omega)]) (by simp [h2, hxn])
      simpa using this
     ·have h3 : d.f1 = x.f1.f0 := by omega
      simp only [h2, decide_false, Bool.false_eq_true, ↓reduceIte]
      by_cases h4 : d.f2 > TopS x.f1
      ·simp only [h4, ↓reduceIte, hw2, hnext]
       have := key [⟨n, x.f1.f0, TopS x.f1⟩] [] (by rw [if_neg (by omega), if_pos ⟨h3, h4⟩, hxn]) (by rw [if_neg (by omega), if_neg (by omega)])
       simpa using this
      ·by_cases h5 : TopS x.f1 > d.f2
       ·simp only [h4, h5, ↓reduceIte, hg2, hnext]
        have := key [] [⟨n, x.f1.f0, d.f2⟩] (by rw [if_neg (by omega), if_neg (by omega)]) (by rw [if_neg (by omega), if_pos ⟨h3.symm, h5⟩, ← hdn, ← h3])
        simpa using this
       ·simp only [h4, h5, ↓reduceIte, hnext]
        have := key [] [] (by rw [if_neg (by omega), if_neg (by omega)]) (by rw [if_neg (by omega), if_neg (by omega)])
        simpa using this
theorem ev_ref07_Compare (v : List Nm) (l : List Dg) (hv : SmallV v) (hl : l.length ≤ 40) (rv : RightV v) (rl : RightD l) : Ev (fun k => ref07_Compare.f k v l) (cmp (Of v) l) := by
 have h := ev_ref07_Compare_l0 v l hv hl 8 0 [] [] rfl (Nat.le_refl _) (Nat.le_refl _)
 rw [cmp_nodes 8 0 (Of v) l (of_right rv).1 rl.1 (fun x hx => by have := (of_right rv).2 x hx; omega) (fun x hx => by have := rl.2 x hx; omega)]
 exact h
/-! ### DigestCompares -/
theorem compares_out (v : List Nm) (l m : List Dg) : Ev (fun k => law07_DigestCompares.j0 k v l m true) true := by
 refine Ev.step (fun k => by rw [law07_DigestCompares.j0]) ?_
 simp only [↓reduceIte]
 exact Ev.now _
theorem compares_out2 (v : List Nm) (l : List Dg) : Ev (fun k => law07_DigestCompares.j2 k v l true) true := by
 refine Ev.step (fun k => by rw [law07_DigestCompares.j2]) ?_
 simp only [↓reduceIte]
 exact Ev.now _
theorem DigestCompares (v : List Nm) (l m : List Dg) (gv : v.length ≤ maxLen ∧ v.length * 48 ≤ 140737488351232 ∧ ∀ x_ ∈ v, G35 x_) (gl : l.length ≤ maxLen ∧ l.length * 24 ≤ 140737488351232 ∧ ∀ x_ ∈ l, G30 x_) (gm : m.length ≤ maxLen ∧ m.length * 24 ≤ 140737488351232 ∧ ∀ x_ ∈ m, G30 x_) : ∃ k, law07_DigestCompares.f k v l m = some true := by
 obtain ⟨b1, b2⟩ := inV gv
 apply Ev.get (g := fun k => law07_DigestCompares.f k v l m)
 unfold law07_DigestCompares.f
 refine Ev.bind ev_alive07 ?_
 simp only [↓reduceIte]
 obtain ⟨g, hg, hgi⟩ := ev_ref06_Great v b1 b2
 refine Ev.bind hg ?_
 cases g with
 | true => simp only [↓reduceIte]; exact compares_out v l m
 | false =>
  have sv := hgi rfl
  simp only [Bool.false_eq_true, ↓reduceIte]
  by_cases hl : (l.length : Int) > 40
  ·simp only [hl, ↓reduceIte]; exact compares_out v l m
  ·simp only [hl, ↓reduceIte]
   by_cases hm : (m.length : Int) > 40
   ·simp only [hm, decide_true]; exact compares_out v l m
   ·simp only [hm, decide_false]
    refine Ev.step (fun k => by rw [law07_DigestCompares.j0]) ?_
    simp only [Bool.false_eq_true, ↓reduceIte]
    obtain ⟨r1, hr1, i1⟩ := ev_digest_Right l (by omega)
    obtain ⟨r2, hr2, i2⟩ := ev_ref07_Right l (by omega)
    obtain ⟨s1, hs1, j1⟩ := ev_digest_Same l m (by omega)
    obtain ⟨s2, hs2, j2⟩ := ev_ref07_Same l m (by omega)
    obtain ⟨s3, hs3, j3⟩ := ev_digest_Same l l (by omega)
    have e1 : r1 = r2 := bool_iff i1 i2
    have e2 : s1 = s2 := bool_iff j1 j2
    have e3 : s3 = true := j3.2 rfl
    subst e1 e2 e3
    refine Ev.bind hr1 ?_
    refine Ev.bind hr2 ?_
    simp only [bne_self_eq_false, Bool.false_eq_true, ↓reduceIte]
    refine Ev.bind hs1 ?_
    refine Ev.bind hs2 ?_
    simp only [bne_self_eq_false, Bool.false_eq_true, ↓reduceIte]
    refine Ev.bind hs3 ?_
    refine Ev.step (fun k => by rw [law07_DigestCompares.j1]) ?_
    simp only [Bool.not_true, Bool.false_eq_true, ↓reduceIte]
    obtain ⟨q, hq, hqi⟩ := ev_ref06_Right v b1 (smallV_lt sv)
    refine Ev.bind hq ?_
    cases q with
    | false => simp only [Bool.false_eq_true, ↓reduceIte]; exact compares_out2 v l
    | true =>
     simp only [↓reduceIte]
     refine Ev.bind hr2 ?_
     cases r1 with
     | false => exact compares_out2 v l
     | true =>
      have rv := hqi.1 rfl
      have rl := i2.1 rfl
      refine Ev.step (fun k => by rw [law07_DigestCompares.j2]) ?_
      simp only [Bool.not_true, Bool.false_eq_true, ↓reduceIte]
      refine Ev.bind (ev_digest_Compare v l sv (by omega)) ?_
      refine Ev.bind (ev_ref07_Compare v l sv (by omega) rv rl) ?_
      have hlen := cmp_len (Of v) l
      have lv : (Of v).length ≤ 40 := by have := sv.1; simpa [Of] using this
      generalize cmp (Of v) l = c at *
      obtain ⟨c1, c2⟩ := c
      simp only at *
      obtain ⟨t1, ht1, k1⟩ := ev_ref07_Same c1 c1 (by omega)
      obtain ⟨t2, ht2, k2⟩ := ev_ref07_Same c2 c2 (by omega)
      obtain ⟨t3, ht3, k3⟩ := ev_ref07_Same (Of v) (Of v) (by omega)
      have f1 : t1 = true := k1.2 rfl
      have f2 : t2 = true := k2.2 rfl
      have f3 : t3 = true := k3.2 rfl
      subst f1 f2 f3
      refine Ev.bind ht1 ?_
      simp only [↓reduceIte]
      refine Ev.bind ht2 ?_
      simp only [↓reduceIte]
      refine Ev.bind (ev_digest_Of v sv) ?_
      refine Ev.bind (ev_ref07_Of v sv) ?_
      exact Ev.bind ht3 (Ev.now _)
end Go.Proofs.Ytcmligagkaimeaa.Pl

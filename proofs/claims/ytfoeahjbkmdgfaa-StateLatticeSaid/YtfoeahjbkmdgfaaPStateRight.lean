/- What this function of the program comes to, and that the machine's call does it. No condition. -/
import Derived.Test.YtfoeahjbkmdgfaaPRef04Get
import Derived.Test.YtfoeahjbkmdgfaaPApiEntry45
import Derived.Test.YtfoeahjbkmdgfaaPApiEntry50
import Derived.Test.YtfoeahjbkmdgfaaPEntryHigher
import Derived.Test.YtfoeahjbkmdgfaaPStateCopy
import Derived.Test.YtfoeahjbkmdgfaaPRef05Join
namespace Go.Proofs.Ytfoeahjbkmdgfaa.P
set_option maxHeartbeats 16000000
set_option maxRecDepth 100000
open Go.RowKit Go.Proofs.YtfoeahjbkmdgfaaW.PrintWords Go.Proofs.YtfoeahjbkmdgfaaW.PrintLast Go.Proofs.YtfoeahjbkmdgfaaW.PrintMore
attribute [local go_sem] qw_ qu_ va_ qz_ qq_ qp_ qv_ qt_ Go.Proofs.YtfoeahjbkmdgfaaW.Hw.string_gtr
set_option linter.unusedVariables false
set_option linter.unusedSimpArgs false
def state_Right.f (k : Nat) (aC : Int) (aB : Int) (aD : List (S40)) : Option (Bool) := if aC ≥ 1 then (if aC ≤ 1099511627776 then (if aB ≥ 0 then (if aB ≤ 1099511627776 then ((entry_Right.f k aD).bind fun aJ => (some aJ)) else (some false)) else (some false)) else (some false)) else (some false)
theorem state_Right.mono : ∀ a0 a1 a2 k, LeO (state_Right.f k a0 a1 a2) (state_Right.f (k + 1) a0 a1 a2) := by
 intro a0 a1 a2 k
 unfold state_Right.f
 repeat' first
   | (with_reducible exact entry_Right.mono _ _)
   | (with_reducible exact LeO.refl _)
   | (with_reducible exact LeO.none _)
   | (with_reducible refine LeO.ite ?_ ?_)
   | (with_reducible refine LeO.bind ?_ (fun _ => ?_))
   | exact entry_Right.mono _ _
   | exact LeO.none _
   | refine LeO.ite ?_ ?_
   | refine LeO.bind ?_ (fun _ => ?_)
theorem state_Right.calls (k : Nat) (aC : Int) (aB : Int) (aG : Option Addr) (aF : Nat) (aD : List (S40)) (r : Bool) (w : World) (aK : Kd.C k40 w aG aD.length aD) (aL : aD.length ≤ aF) (h : state_Right.f k aC aB aD = some r) :
  Calls Try.prog 21 #[.agg #[.int .i64 aC, .int .i64 aB, .slice aG aD.length aF]] w fun e w' => e = .returned (.bool r) ∧ Below w.heap.size w w' := by
 have hu24 := Try.underlying24; have aM := Zq_.mk aK; have aN := Zq_.mk aL; clear aK aL; have HB := Zq_.mk (Below.refl w.heap.size w); have H : (if aC ≥ 1 then (if aC ≤ 1099511627776 then (if aB ≥ 0 then (if aB ≤ 1099511627776 then ((entry_Right.f k aD).bind fun aJ => (some aJ)) else (some false)) else (some false)) else (some false)) else (some false)) = some r := h; clear h
 by_cases c2 : aC ≥ 1
 ·rw [if_pos c2] at H; have c2b0 : decide (1 ≤ aC) = true := decide_eq_true c2; clear c2
  by_cases c3 : aC ≤ 1099511627776
  ·rw [if_pos c3] at H; have c3b0 : decide (aC ≤ 1099511627776) = true := decide_eq_true c3; clear c3
   by_cases c4 : aB ≥ 0
   ·rw [if_pos c4] at H; have c4b0 : decide (0 ≤ aB) = true := decide_eq_true c4; clear c4
    by_cases c5 : aB ≤ 1099511627776
    ·rw [if_pos c5] at H; have c5b0 : decide (aB ≤ 1099511627776) = true := decide_eq_true c5; clear c5; replace H := ob_ H; obtain ⟨aJ, A60, H⟩ := H; replace H : (some aJ) = some r := H; have A6 := Zq_.mk A60; clear A60; obtain rfl := Option.some.inj H
     go_enter Try.func21, Try.ntmps21
     go_wp2_with (first | ((with_reducible refine qi_ (N := 1) rfl ?_); refine bE_ 1 #[.int .i64 aC, .int .i64 aB, .slice aG aD.length aF] 24 ?_; intro aE hg w7 hbox hb; have aA := Zq_.mk (hbox); have aH := gW_ (w := w) hg (hB_ HB); have aI := gW_ (w := w) hg (hB_ HB); replace HB := Zq_.mk (qb_ (hB_ HB) hb); clear hb hbox hg; obtain ⟨hcz8_0, hcz8_1, hcz8_2⟩ := c3_ aA; obtain ⟨hfz8_0, hfz8_1, hfz8_2⟩ := f3_ aA) | (go_at_call 40; (with_reducible refine (entry_Right.calls k _ _ aD aJ _ ?side1 ?side2 A6.out).mono ?_); (case side1 => exact cX_ (Kd.ve_ aM.out HB.out)); (case side2 => exact aN.out); rintro e w9 ⟨rfl, hb⟩; replace aA := Zq_.mk (qa_ (g := aE) (o := .cells #[.int .i64 aC, .int .i64 aB, .slice aG aD.length aF] 24 (0, 0)) (by exact bK_ aA) hb); replace HB := Zq_.mk (qb_ (by exact hSet_ HB) hb); (try clear hb)))
     go_ret
     exact ⟨by exact eW_, by exact hSet_ HB⟩
    ·rw [if_neg c5] at H; have c5b0 : decide (aB ≤ 1099511627776) = false := decide_eq_false c5; clear c5; obtain rfl := Option.some.inj H
     go_enter Try.func21, Try.ntmps21
     go_wp2_with (first | ((with_reducible refine qi_ (N := 1) rfl ?_); refine bE_ 1 #[.int .i64 aC, .int .i64 aB, .slice aG aD.length aF] 24 ?_; intro aE hg w10 hbox hb; have aA := Zq_.mk (hbox); have aH := gW_ (w := w) hg (hB_ HB); have aI := gW_ (w := w) hg (hB_ HB); replace HB := Zq_.mk (qb_ (hB_ HB) hb); clear hb hbox hg; obtain ⟨hcz11_0, hcz11_1, hcz11_2⟩ := c3_ aA; obtain ⟨hfz11_0, hfz11_1, hfz11_2⟩ := f3_ aA))
     go_ret
     exact ⟨by exact eW_, by exact hSet_ HB⟩
   ·rw [if_neg c4] at H; have c4b0 : decide (0 ≤ aB) = false := decide_eq_false c4; clear c4; obtain rfl := Option.some.inj H
    go_enter Try.func21, Try.ntmps21
    go_wp2_with (first | ((with_reducible refine qi_ (N := 1) rfl ?_); refine bE_ 1 #[.int .i64 aC, .int .i64 aB, .slice aG aD.length aF] 24 ?_; intro aE hg w12 hbox hb; have aA := Zq_.mk (hbox); have aH := gW_ (w := w) hg (hB_ HB); have aI := gW_ (w := w) hg (hB_ HB); replace HB := Zq_.mk (qb_ (hB_ HB) hb); clear hb hbox hg; obtain ⟨hcz13_0, hcz13_1, hcz13_2⟩ := c3_ aA; obtain ⟨hfz13_0, hfz13_1, hfz13_2⟩ := f3_ aA))
    go_ret
    exact ⟨by exact eW_, by exact hSet_ HB⟩
  ·rw [if_neg c3] at H; have c3b0 : decide (aC ≤ 1099511627776) = false := decide_eq_false c3; clear c3; obtain rfl := Option.some.inj H
   go_enter Try.func21, Try.ntmps21
   go_wp2_with (first | ((with_reducible refine qi_ (N := 1) rfl ?_); refine bE_ 1 #[.int .i64 aC, .int .i64 aB, .slice aG aD.length aF] 24 ?_; intro aE hg w14 hbox hb; have aA := Zq_.mk (hbox); have aH := gW_ (w := w) hg (hB_ HB); have aI := gW_ (w := w) hg (hB_ HB); replace HB := Zq_.mk (qb_ (hB_ HB) hb); clear hb hbox hg; obtain ⟨hcz15_0, hcz15_1, hcz15_2⟩ := c3_ aA; obtain ⟨hfz15_0, hfz15_1, hfz15_2⟩ := f3_ aA))
   go_ret
   exact ⟨by exact eW_, by exact hSet_ HB⟩
 ·rw [if_neg c2] at H; have c2b0 : decide (1 ≤ aC) = false := decide_eq_false c2; clear c2; obtain rfl := Option.some.inj H
  go_enter Try.func21, Try.ntmps21
  go_wp2_with (first | ((with_reducible refine qi_ (N := 1) rfl ?_); refine bE_ 1 #[.int .i64 aC, .int .i64 aB, .slice aG aD.length aF] 24 ?_; intro aE hg w16 hbox hb; have aA := Zq_.mk (hbox); have aH := gW_ (w := w) hg (hB_ HB); have aI := gW_ (w := w) hg (hB_ HB); replace HB := Zq_.mk (qb_ (hB_ HB) hb); clear hb hbox hg; obtain ⟨hcz17_0, hcz17_1, hcz17_2⟩ := c3_ aA; obtain ⟨hfz17_0, hfz17_1, hfz17_2⟩ := f3_ aA))
  go_ret
  exact ⟨by exact eW_, by exact hSet_ HB⟩
theorem halveE_le (less : Nat → Bool) : ∀ (f lo hi : Nat), lo ≤ hi → halveE less f lo hi ≤ hi := by
 intro f
 induction f with
 | zero => intro lo hi h; exact h
 | succ f ih =>
  intro lo hi h
  unfold halveE
  split
  ·split
   ·exact ih _ _ (by omega)
   ·exact Nat.le_trans (ih _ _ (by omega)) (by omega)
  ·exact h
/-- The place of a key by halving. -/
def entry_Put.pl (l0 : List S40) (k : Int) : Nat := halveE (fun j => decide (wrap64 ((l0.getD j z40).f0 - k) < 0)) l0.length 0 l0.length
def entry_Put.hit (l0 : List S40) (k : Int) : Bool := decide (entry_Put.pl l0 k < l0.length) && decide (wrap64 ((l0.getD (entry_Put.pl l0 k) z40).f0 - k) = 0)
def entry_Put.f (l0 : List S40) (aB : Int) (aD : Int) (aC : ByteArray) : Option (List S40) :=
 if l0.length < 1099511627776 then some (if entry_Put.hit l0 aB = true then l0.set (entry_Put.pl l0 aB) ⟨aB, aD, aC⟩ else l0.take (entry_Put.pl l0 aB) ++ [⟨aB, aD, aC⟩] ++ l0.drop (entry_Put.pl l0 aB)) else none
open Go.Proofs.YtfoeahjbkmdgfaaW.Hw in
theorem entry_Put.pred (x t : S40) (W : World) : Calls Try.prog 49 (#[.agg #[.int .i64 x.f0, .int .i64 x.f1, .string x.f2], .agg #[.int .i64 t.f0, .int .i64 t.f1, .string t.f2]] ++ #[]) W fun e w' => e = .returned (.int .i64 (wrap64 (x.f0 - t.f0))) ∧ Below W.heap.size W w' := by
 have HB := Zq_.mk (Below.refl W.heap.size W)
 go_enter Try.func49, Try.ntmps49
 go_wp2_with (first | ((with_reducible refine qi_ (N := 2) rfl ?_); (try (refine vc_ (by rfl) ?_; dsimp only)); refine bE_ 2 #[.int .i64 x.f0, .int .i64 x.f1, .string x.f2] 40 ?_; intro aG hg_ w102 hbox_ hb_; have n0_ := Zq_.mk (qb_ (hB_ HB) hb_); have GE102 := Zq_.mk ((by rw [hg_]; exact (qe_ (hB_ HB)) : W.heap.size ≤ aG)); have n1_ := Zq_.mk (hbox_); clear HB; have HB := n0_; have aF := n1_; clear n0_ n1_; clear hb_ hbox_ hg_; obtain ⟨bD, bC, bB⟩ := c3_ aF; obtain ⟨aX, aW, aV⟩ := f3_ aF) | ((with_reducible refine qi_ (N := 3) rfl ?_); (try (refine vc_ (by rfl) ?_; dsimp only)); refine bE_ 3 #[.int .i64 t.f0, .int .i64 t.f1, .string t.f2] 40 ?_; intro aO hg_ aQ hbox_ hb_; have n0_ := Zq_.mk (qb_ (hB_ HB) hb_); have GE103 := Zq_.mk ((by rw [hg_]; exact (qe_ (hB_ HB)) : W.heap.size ≤ aO)); have n1_ := Zq_.mk (hbox_); have aR : Zq_ (aG ≠ aO) := ⟨fun e_ => by have h1 := blk_lt (by exact bK_ aF); rw [e_, hg_] at h1; exact absurd h1 (Nat.lt_irrefl _)⟩; have m102_ := Zq_.mk (blk_bel (by exact bK_ aF) hb_); clear aF; have aF := m102_; clear m102_; clear HB; have HB := n0_; have aP := n1_; clear n0_ n1_; clear hb_ hbox_ hg_; obtain ⟨bA, aZ, aY⟩ := c3_ aP; obtain ⟨aU, aT, aS⟩ := f3_ aP; have hcw103_102_0 : aQ.cell? ⟨aG, 0, none⟩ = some (.int .i64 x.f0) := (qj_ aF.out 0).trans rfl; have hcw103_102_1 : aQ.cell? ⟨aG, 1, none⟩ = some (.int .i64 x.f1) := (qj_ aF.out 1).trans rfl; have hcw103_102_2 : aQ.cell? ⟨aG, 2, none⟩ = some (.string x.f2) := (qj_ aF.out 2).trans rfl))
 go_ret
 exact ⟨by first | rfl | (simp; done) | (simp [*]; done), (hB_ HB)⟩
open Go.Proofs.YtfoeahjbkmdgfaaW.Hw in
theorem entry_Put.calls (A0 : Option Addr) (c0 : Nat) (l0 : List S40) (aB : Int) (aD : Int) (aC : ByteArray) (r : List S40) (w : World) (hr0 : Kd.C k40 w A0 l0.length l0) (hc0 : l0.length ≤ c0) (h : entry_Put.f l0 aB aD aC = some r) :
  Calls Try.prog 32 #[.slice A0 l0.length c0, .agg #[.int .i64 aB, .int .i64 aD, .string aC]] w fun e w' => ∃ v0_ : Value, e = .returned v0_ ∧ Kd.R k40 40 w' w.heap.size (fun _ => True) v0_ r ∧ Below w.heap.size w w' := by
 unfold entry_Put.f at h
 by_cases hl : l0.length < 1099511627776
 case neg => rw [if_neg hl] at h; cases h
 rw [if_pos hl] at h; have h := Option.some.inj h; have hHI := halveE_le (fun j => decide (wrap64 ((l0.getD j z40).f0 - aB) < 0)) l0.length 0 l0.length (Nat.zero_le _); have HCL := Zq_.mk (show api_Entry_45.f l0 = some l0 by unfold api_Entry_45.f; rw [if_pos (by omega)])
 have EG := fun args w => enters Try.prog Try.func49 (by kernel_rfl) (by kernel_rfl) args w
 have hsr := fun (W : World) (hW : Below w.heap.size w W) => SearchE.calls (fun x => wrap64 (x.f0 - aB)) ⟨aB, aD, aC⟩ 49 #[] EG A0 c0 l0 W (fun W' x _ => entry_Put.pred x ⟨aB, aD, aC⟩ W') (Kd.ve_ hr0 hW) hl
 unfold entry_Put.hit entry_Put.pl at h
 dsimp only at hsr
 try dsimp only at hHI
 try dsimp only at h
 generalize hi_ : halveE (fun j => decide (wrap64 ((l0.getD j z40).f0 - aB) < 0)) l0.length 0 l0.length = i at hsr hHI h; generalize hb_ : (decide (i < l0.length) && decide (wrap64 ((l0.getD i z40).f0 - aB) = 0)) = b at hsr h; have HS := Zq_.mk hsr; have HL := Zq_.mk hl; have HR := Zq_.mk hr0; have HC := Zq_.mk hc0; have HIE := Zq_.mk hHI; clear hr0 hc0 hsr hl hi_ EG hHI; have HB := Zq_.mk (Below.refl w.heap.size w)
 cases b with
 | true =>
  have hil : i < l0.length := by
   rw [Bool.and_eq_true] at hb_; exact of_decide_eq_true hb_.1
  have HP := Zq_.mk (show 0 < l0.length by omega); rw [if_pos rfl] at h; have HH := Zq_.mk h
  have q1 : (0 : Int) ≤ (i : Int) := by omega
  have q2 : (i : Int) < (l0.length : Int) := by omega
  have p1 := eq_true q1; have p2 := eq_true q2; have p3 := eq_true hil; have Q1 := Zq_.mk q1; have Q2 := Zq_.mk q2; clear h hb_ hil q1 q2
  go_enter Try.func32, Try.ntmps32
  go_wp2_with (first
   | ((with_reducible refine qi_ (N := 3) rfl ?_); (try (refine vc_ (by rfl) ?_; dsimp only)); refine bE_ 3 #[.int .i64 aB, .int .i64 aD, .string aC] 40 ?_; intro aE hg_ w101 hbox_ hb_; have n0_ := Zq_.mk (qb_ (hB_ HB) hb_); have bE := Zq_.mk ((by rw [hg_]; exact (qe_ (hB_ HB)) : w.heap.size ≤ aE)); have n1_ := Zq_.mk (hbox_); clear HB; have HB := n0_; have aA := n1_; clear n0_ n1_; clear hb_ hbox_ hg_; obtain ⟨aM, aL, aK⟩ := c3_ aA; obtain ⟨aJ, aI, aH⟩ := f3_ aA) | (go_at_call 48; refine (HS.out _ (hB_ HB)).mono ?_; rintro e w3 ⟨rfl, hb3⟩; have n0_ := Zq_.mk (qb_ (hB_ HB) hb3); have m101_ := Zq_.mk (blk_bel (by exact bK_ aA) hb3); clear HB; have HB := n0_; clear n0_; clear aA; have aA := m101_; clear m101_; clear hb3) | (go_at_call 45; refine (api_Entry_45.calls A0 c0 l0 l0 _ (Kd.ve_ HR.out (hB_ HB)) HC.out HCL.out).mono ?_; rintro e w4 ⟨v5, rfl, ho5, hb4⟩; obtain ⟨g5, cap5, rfl, hgb5, hglt5, hcx5⟩ := Kd.R_form ho5 HP.out; have HO5 := Zq_.mk (Kd.qx_ ho5 (qe_ (hB_ HB))); have n0_ := Zq_.mk (qb_ (hB_ HB) hb4); have m101_ := Zq_.mk (blk_bel (by exact bK_ aA) hb4); clear HB; have HB := n0_; clear n0_; clear aA; have aA := m101_; clear m101_; clear hb4; have hcw4_101_0 : w4.cell? ⟨aE, 0, none⟩ = some (.int .i64 aB) := (qj_ aA.out 0).trans rfl; have hcw4_101_1 : w4.cell? ⟨aE, 1, none⟩ = some (.int .i64 aD) := (qj_ aA.out 1).trans rfl; have hcw4_101_2 : w4.cell? ⟨aE, 2, none⟩ = some (.string aC) := (qj_ aA.out 2).trans rfl; obtain ⟨co, hclo, hMo, hcco, hfro⟩ := Kd.R_elem HO5.out z40 (i : Int) Q1.out Q2.out; have hfz0 := hfro 0; have hfz1 := hfro 1; have hfz2 := hfro 2; obtain rfl := k40_openM hMo; have HCC := Zq_.mk hcco; clear ho5 hclo hMo hcco hfro hgb5 hglt5 hcx5 hfz0 hfz1 hfz2)
   | ((with_reducible refine gate_store (t := 40) (p := 19) rfl ?_); refine Kd.R_store k40 (w0 := w) (W := w4) w.heap.size rfl rfl 40 (.tmp 19) (.tmp 18) rfl 40 (g := g5) (n := l0.length) (cap := cap5) (o' := (i : Int).toNat * 3) (i : Int) 0 l0 ⟨aB, aD, aC⟩ (.agg #[.int .i64 aB, .int .i64 aD, .string aC]) [.int .i64 aB, .int .i64 aD, .string aC] [.int .i64 (l0.getD (i : Int).toNat z40).f0, .int .i64 (l0.getD (i : Int).toNat z40).f1, .string (l0.getD (i : Int).toNat z40).f2] (fun _ => True) (fun k => True ∧ k ≠ g5) ?ha ?ho ?hx rfl (by kernel_rfl) ?h1 HO5.out Q1.out Q2.out rfl ?hcc (show (3 : Nat) ≤ 3 from Nat.le_refl 3) (k40_mkM w4 _ _ ⟨aB, aD, aC⟩) (fun _ hk => hk) (hB_ HB) ?_; (case ha => first | rfl | (go_simp; done) | (go_simp; rfl)); (case ho => first | rfl | (simp; done)); (case hx => first | rfl | (go_simp; done) | (go_simp; rfl)); (case h1 => intro q hq_; simp only [List.mem_cons, List.not_mem_nil, or_false] at hq_; rcases hq_ with rfl | rfl | rfl <;> rfl); (case hcc => exact HCC.out); intro w5 hR5 hB5 hg5; have HR5 := Zq_.mk hR5; have HB5 := Zq_.mk hB5; clear hR5 hB5 hg5))
  go_ret
  exact ⟨_, rfl, by rw [← HH.out]; exact HR5.out, HB5.out⟩
 | false =>
  rw [if_neg (by decide)] at h; have HH := Zq_.mk h; clear h hb_
  go_enter Try.func32, Try.ntmps32
  go_wp2_with (first
   | ((with_reducible refine qi_ (N := 3) rfl ?_); (try (refine vc_ (by rfl) ?_; dsimp only)); refine bE_ 3 #[.int .i64 aB, .int .i64 aD, .string aC] 40 ?_; intro aE hg_ w101 hbox_ hb_; have n0_ := Zq_.mk (qb_ (hB_ HB) hb_); have bE := Zq_.mk ((by rw [hg_]; exact (qe_ (hB_ HB)) : w.heap.size ≤ aE)); have n1_ := Zq_.mk (hbox_); clear HB; have HB := n0_; have aA := n1_; clear n0_ n1_; clear hb_ hbox_ hg_; obtain ⟨aM, aL, aK⟩ := c3_ aA; obtain ⟨aJ, aI, aH⟩ := f3_ aA) | (go_at_call 48; refine (HS.out _ (hB_ HB)).mono ?_; rintro e w3 ⟨rfl, hb3⟩; have n0_ := Zq_.mk (qb_ (hB_ HB) hb3); have m101_ := Zq_.mk (blk_bel (by exact bK_ aA) hb3); clear HB; have HB := n0_; clear n0_; clear aA; have aA := m101_; clear m101_; clear hb3) | (go_at_call 45; refine (api_Entry_45.calls A0 c0 l0 l0 _ (Kd.ve_ HR.out (hB_ HB)) HC.out HCL.out).mono ?_; rintro e w4 ⟨v5, rfl, ho5, hb4⟩; have HO5 := Zq_.mk (Kd.qx_ ho5 (qe_ (hB_ HB))); have n0_ := Zq_.mk (qb_ (hB_ HB) hb4); have m101_ := Zq_.mk (blk_bel (by exact bK_ aA) hb4); clear HB; have HB := n0_; clear n0_; clear aA; have aA := m101_; clear m101_; clear hb4; have hcw4_101_0 : w4.cell? ⟨aE, 0, none⟩ = some (.int .i64 aB) := (qj_ aA.out 0).trans rfl; have hcw4_101_1 : w4.cell? ⟨aE, 1, none⟩ = some (.int .i64 aD) := (qj_ aA.out 1).trans rfl; have hcw4_101_2 : w4.cell? ⟨aE, 2, none⟩ = some (.string aC) := (qj_ aA.out 2).trans rfl; clear ho5)
   | ((with_reducible refine qi_ (N := 24) rfl ?_); refine lit_event (n := 1) ?hg (N := 24) ?hd (cs := #[.int .i64 aB, .int .i64 aD, .string aC]) (t := 40) ?hr ?_; (case hd => rfl); (case hg => rfl); (case hr => first | (go_simp; done) | (go_simp; rfl)); intro aN hg_ w6 hbox_ hb_; have NE5 := Zq_.mk (show some aN ≠ v5.ownBlock from fun e_ => by have h1 := Kd.R_lt HO5.out aN e_.symm; omega); have bF := Zq_.mk hbox_; have n0_ := Zq_.mk (qb_ (hB_ HB) hb_); have n1_ := Zq_.mk (Kd.qd_ HO5.out hb_); clear HB HO5; have HB := n0_; have HO5 := n1_; clear n0_ n1_ hbox_ hb_ hg_) | (go_at_call 50; refine (InsertE.calls v5 l0 i HIE.out ⟨aB, aD, aC⟩ aN w.heap.size (fun _ => True) _ HO5.out (qe_ (hB_ HB)) HL.out (fun _ _ => trivial) NE5.out bF.out).mono ?_; rintro e w7 ⟨v8, rfl, ho8, hg8⟩; have n0_ := Zq_.mk (((hB_ HB) : Below w.heap.size w w6).grown hg8 (qe_ (hB_ HB)) (Kd.R_base HO5.out)); have HO8 := Zq_.mk ho8; clear HB; have HB := n0_; clear n0_ ho8 hg8))
  go_ret
  exact ⟨_, rfl, by rw [← HH.out]; exact HO8.out, HB.out⟩
theorem entry_Get.total (l0 : List S40) (a1 : Int) : ∃ r1 r2 r3 r4, entry_Get.f l0 a1 = some (r1, r2, r3, r4) := by
 unfold entry_Get.f entry_place.f
 simp only [Option.bind_some]
 split
 ·exact ⟨_, _, _, _, rfl⟩
 ·have := (Go.Proofs.YtfoeahjbkmdgfaaW.Hw.idxI_range (fun x : S40 => x.f0 == a1) l0).2; rw [if_pos (by omega), if_pos this]; exact ⟨_, _, _, _, rfl⟩
theorem entry_higher.total (a b : S40) : ∃ r1 r2 r3, entry_higher.f a.f0 a.f1 a.f2 b.f0 b.f1 b.f2 = some (r1, r2, r3) := by
 unfold entry_higher.f
 repeat' split
 all_goals exact ⟨_, _, _, rfl⟩
theorem neq_run40 (q1 r1 q2 r2 : Int) (q3 r3 : ByteArray) (W : World) : (binOp .neq 40 (.agg #[.int .i64 q1, .int .i64 q2, .string q3]) (.agg #[.int .i64 r1, .int .i64 r2, .string r3])).run Try.prog W = .ok (.bool (!(q1 == r1) || (!(q2 == r2) || !(q3.toList == r3.toList)))) W := by
 have h := eqA40 9998 W q1 r1 q2 r2 q3 r3; simp only [binOp, Op.equal, Op.maxDepth]; go_simp
 try simp [h, Bool.not_and]
/-- An entry that isn't known there, or is higher. -/
def entry_Over.news (l0 : List S40) (y : S40) : Bool :=
 match entry_Get.f l0 y.f0 with
 | some (x0, x1, x2, true) => (match entry_higher.f x0 x1 x2 y.f0 y.f1 y.f2 with | some (z0, z1, z2) => !(z0 == x0) || (!(z1 == x1) || !(z2.toList == x2.toList)) | none => false)
 | _ => true
def entry_Over.f (l0 l1 : List S40) : Option Bool := some (!(l1.any (entry_Over.news l0)))
open Go.Proofs.YtfoeahjbkmdgfaaW.Hw in
theorem entry_Over.pred (A0 : Option Addr) (c0 : Nat) (l0 : List S40) (g : Nat) (w : World) (hc : w.cell? ⟨g, 0, none⟩ = some (.slice A0 l0.length c0)) (hr0 : Kd.C k40 w A0 l0.length l0) (hc0 : l0.length ≤ c0) : PredK Try.prog k40 55 #[.pointer (some ⟨g, 0, none⟩)] aggOf (entry_Over.news l0) w := by
 intro W x cs hb hx; have hcW := (hb.cell (wb_ w _ hc)).trans hc; have HR := Zq_.mk (Kd.ve_ hr0 hb); have HC := Zq_.mk hc0; obtain rfl := k40_open hx; clear hx hb hc hr0 hc0; have HB := Zq_.mk (Below.refl W.heap.size W); obtain ⟨r1, r2, r3, r4, hget⟩ := entry_Get.total l0 x.f0; have HG := Zq_.mk hget
 cases r4 with
 | false =>
  have e : entry_Over.news l0 x = true := by unfold entry_Over.news; rw [hget]
  rw [e]; clear hget e
  go_enter Try.func55, Try.ntmps55
  go_wp2_with (first | ((with_reducible refine qi_ (N := 2) rfl ?_); (try (refine vc_ (by rfl) ?_; dsimp only)); refine bE_ 2 #[.int .i64 x.f0, .int .i64 x.f1, .string x.f2] 40 ?_; intro aD hg_ w102 hbox_ hb_; have n0_ := Zq_.mk (qb_ (hB_ HB) hb_); have aX := Zq_.mk ((by rw [hg_]; exact (qe_ (hB_ HB)) : W.heap.size ≤ aD)); have n1_ := Zq_.mk (hbox_); clear HB; have HB := n0_; have aA := n1_; clear n0_ n1_; clear hb_ hbox_ hg_; obtain ⟨aT, aS, aR⟩ := c3_ aA; obtain ⟨aN, aM, aL⟩ := f3_ aA; have hcw_ := pw_cell_below HB.out hcW) | ((with_reducible refine qi_ (N := 4) rfl ?_); (try (refine vc_ (by rfl) ?_; dsimp only)); refine bE_ 4 #[.int .i64 0, .int .i64 0, .string (⟨#[]⟩ : ByteArray)] 40 ?_; intro aC hg_ aH hbox_ hb_; have n0_ := Zq_.mk (qb_ (hB_ HB) hb_); have aG := Zq_.mk ((by rw [hg_]; exact (qe_ (hB_ HB)) : W.heap.size ≤ aC)); have n1_ := Zq_.mk (hbox_); clear HB; have HB := n0_; have aB := n1_; clear n0_ n1_; clear hb_ hbox_ hg_; obtain ⟨aQ, aP, aO⟩ := c3_ aB; obtain ⟨aK, aJ, aI⟩ := f3_ aB) | (go_at_call 56; refine (entry_Get.calls A0 c0 l0 x.f0 r1 r2 r3 false _ (Kd.ve_ HR.out (hB_ HB)) HC.out HG.out).mono ?_; rintro e w3 ⟨rfl, hb3⟩; have n0_ := Zq_.mk (qb_ (hB_ HB) hb3); have m102_ := Zq_.mk (blk_bel (by exact bK_ aA) hb3); clear HB; have HB := n0_; clear n0_; clear aA; have aA := m102_; clear m102_; clear hb3))
  go_quiet (fail)
  go_wp2
  go_ret
  exact ⟨by first | rfl | (simp; done) | (simp [*]; done), (by exact hSet_ HB)⟩
 | true =>
  obtain ⟨q1, q2, q3, hhi⟩ := entry_higher.total ⟨r1, r2, r3⟩ x
  have e : entry_Over.news l0 x = (!(q1 == r1) || (!(q2 == r2) || !(q3.toList == r3.toList))) := by unfold entry_Over.news; rw [hget]; simp only [hhi]
  rw [e]; have HI := Zq_.mk hhi; have hne : ∀ W, (binOp .neq 40 (.agg #[.int .i64 q1, .int .i64 q2, .string q3]) (.agg #[.int .i64 r1, .int .i64 r2, .string r3])).run Try.prog W = .ok (.bool (!(q1 == r1) || (!(q2 == r2) || !(q3.toList == r3.toList)))) W := neq_run40 q1 r1 q2 r2 q3 r3; generalize (!(q1 == r1) || (!(q2 == r2) || !(q3.toList == r3.toList))) = b at hne ⊢; clear hget hhi e
  go_enter Try.func55, Try.ntmps55
  go_wp2_with (first | ((with_reducible refine qi_ (N := 2) rfl ?_); (try (refine vc_ (by rfl) ?_; dsimp only)); refine bE_ 2 #[.int .i64 x.f0, .int .i64 x.f1, .string x.f2] 40 ?_; intro aD hg_ w102 hbox_ hb_; have n0_ := Zq_.mk (qb_ (hB_ HB) hb_); have aX := Zq_.mk ((by rw [hg_]; exact (qe_ (hB_ HB)) : W.heap.size ≤ aD)); have n1_ := Zq_.mk (hbox_); clear HB; have HB := n0_; have aA := n1_; clear n0_ n1_; clear hb_ hbox_ hg_; obtain ⟨aT, aS, aR⟩ := c3_ aA; obtain ⟨aN, aM, aL⟩ := f3_ aA; have hcw_ := pw_cell_below HB.out hcW) | ((with_reducible refine qi_ (N := 4) rfl ?_); (try (refine vc_ (by rfl) ?_; dsimp only)); refine bE_ 4 #[.int .i64 0, .int .i64 0, .string (⟨#[]⟩ : ByteArray)] 40 ?_; intro aC hg_ aH hbox_ hb_; have n0_ := Zq_.mk (qb_ (hB_ HB) hb_); have aG := Zq_.mk ((by rw [hg_]; exact (qe_ (hB_ HB)) : W.heap.size ≤ aC)); have n1_ := Zq_.mk (hbox_); have aE : Zq_ (aD ≠ aC) := ⟨fun e_ => by have h1 := blk_lt (by exact bK_ aA); rw [e_, hg_] at h1; exact absurd h1 (Nat.lt_irrefl _)⟩; have m102_ := Zq_.mk (blk_bel (by exact bK_ aA) hb_); clear aA; have aA := m102_; clear m102_; clear HB; have HB := n0_; have aB := n1_; clear n0_ n1_; clear hb_ hbox_ hg_; obtain ⟨aQ, aP, aO⟩ := c3_ aB; obtain ⟨aK, aJ, aI⟩ := f3_ aB; have hcw103_102_0 : aH.cell? ⟨aD, 0, none⟩ = some (.int .i64 x.f0) := (qj_ aA.out 0).trans rfl; have hcw103_102_1 : aH.cell? ⟨aD, 1, none⟩ = some (.int .i64 x.f1) := (qj_ aA.out 1).trans rfl; have hcw103_102_2 : aH.cell? ⟨aD, 2, none⟩ = some (.string x.f2) := (qj_ aA.out 2).trans rfl) | (go_at_call 56; refine (entry_Get.calls A0 c0 l0 x.f0 r1 r2 r3 true _ (Kd.ve_ HR.out (hB_ HB)) HC.out HG.out).mono ?_; rintro e w3 ⟨rfl, hb3⟩; have n0_ := Zq_.mk (qb_ (hB_ HB) hb3); have m102_ := Zq_.mk (blk_bel (by exact bK_ aA) hb3); clear HB; have HB := n0_; clear n0_; clear aA; have aA := m102_; clear m102_; clear hb3))
  have HB5 := Zq_.mk (below_set (below_set (below_set HB.out aG.out (j := 0) (v := .int .i64 r1)) aG.out (j := 1) (v := .int .i64 r2)) aG.out (j := 2) (v := .string r3)); have BK5 := Zq_.mk (show _ = some (Obj.cells #[.int .i64 r1, .int .i64 r2, .string r3] 40 (0, 0)) from blk_set (blk_set (blk_set aB.out 0 (.int .i64 r1)) 1 (.int .i64 r2)) 2 (.string r3)); have BK6 := Zq_.mk (blk_far (p := ⟨aC, 2, none⟩) (blk_far (p := ⟨aC, 1, none⟩) (blk_far (p := ⟨aC, 0, none⟩) aA.out aE.out (.int .i64 r1)) aE.out (.int .i64 r2)) aE.out (.string r3)); generalize hw5 : ((aH.setCell ⟨aC, 0, none⟩ (.int .i64 r1)).setCell ⟨aC, 1, none⟩ (.int .i64 r2)).setCell ⟨aC, 2, none⟩ (.string r3) = w5 at HB5 BK5 BK6 ⊢; clear hw5 HB aA aB; have HB := HB5; have aB := BK5; have aA := BK6; clear HB5 BK5 BK6; have hcw5_102_0 : w5.cell? ⟨aD, 0, none⟩ = some (.int .i64 x.f0) := (qj_ aA.out 0).trans rfl; have hcw5_102_1 : w5.cell? ⟨aD, 1, none⟩ = some (.int .i64 x.f1) := (qj_ aA.out 1).trans rfl; have hcw5_102_2 : w5.cell? ⟨aD, 2, none⟩ = some (.string x.f2) := (qj_ aA.out 2).trans rfl; have hcw5_103_0 : w5.cell? ⟨aC, 0, none⟩ = some (.int .i64 r1) := (qj_ aB.out 0).trans rfl; have hcw5_103_1 : w5.cell? ⟨aC, 1, none⟩ = some (.int .i64 r2) := (qj_ aB.out 1).trans rfl; have hcw5_103_2 : w5.cell? ⟨aC, 2, none⟩ = some (.string r3) := (qj_ aB.out 2).trans rfl
  go_region_with (first | (go_at_call 51; refine (entry_higher.calls r1 r2 r3 x.f0 x.f1 x.f2 q1 q2 q3 _ HI.out).mono ?_; rintro e w6 ⟨rfl, hb6⟩; have n0_ := Zq_.mk (qb_ (hB_ HB) hb6); have m102_ := Zq_.mk (blk_bel (by exact bK_ aA) hb6); have m103_ := Zq_.mk (blk_bel (by exact bK_ aB) hb6); clear HB; have HB := n0_; clear n0_; clear aA; have aA := m102_; clear m102_; clear aB; have aB := m103_; clear m103_; clear hb6; have hcw6_102_0 : w6.cell? ⟨aD, 0, none⟩ = some (.int .i64 x.f0) := (qj_ aA.out 0).trans rfl; have hcw6_102_1 : w6.cell? ⟨aD, 1, none⟩ = some (.int .i64 x.f1) := (qj_ aA.out 1).trans rfl; have hcw6_102_2 : w6.cell? ⟨aD, 2, none⟩ = some (.string x.f2) := (qj_ aA.out 2).trans rfl; have hcw6_103_0 : w6.cell? ⟨aC, 0, none⟩ = some (.int .i64 r1) := (qj_ aB.out 0).trans rfl; have hcw6_103_1 : w6.cell? ⟨aC, 1, none⟩ = some (.int .i64 r2) := (qj_ aB.out 1).trans rfl; have hcw6_103_2 : w6.cell? ⟨aC, 2, none⟩ = some (.string r3) := (qj_ aB.out 2).trans rfl))
  all_goals go_wp2
  all_goals go_ret
  all_goals exact ⟨by first | rfl | (simp; done) | (simp [*]; done), (hB_ HB)⟩
open Go.Proofs.YtfoeahjbkmdgfaaW.Hw in
theorem entry_Over.calls (A0 : Option Addr) (c0 : Nat) (l0 : List S40) (A1 : Option Addr) (c1 : Nat) (l1 : List S40) (r : Bool) (w : World) (hr0 : Kd.C k40 w A0 l0.length l0) (hc0 : l0.length ≤ c0) (hr1 : Kd.C k40 w A1 l1.length l1) (hc1 : l1.length ≤ c1) (h : entry_Over.f l0 l1 = some r) :
  Calls Try.prog 39 #[.slice A0 l0.length c0, .slice A1 l1.length c1] w fun e w' => e = .returned (.bool r) ∧ Below w.heap.size w w' := by
 unfold entry_Over.f at h
 obtain rfl := Option.some.inj h; clear h; have HC := Zq_.mk (fun (W : World) (g : Nat) (hW : Below w.heap.size w W) (hc : W.cell? ⟨g, 0, none⟩ = some (.slice A0 l0.length c0)) => ContainsFuncE.calls (entry_Over.news l0) 55 #[.pointer (some ⟨g, 0, none⟩)] (fun args w => enters Try.prog Try.func55 (by kernel_rfl) (by kernel_rfl) args w) A1 c1 l1 W (entry_Over.pred A0 c0 l0 g W hc (Kd.ve_ hr0 hW) hc0) (Kd.ve_ hr1 hW)); generalize l1.any (entry_Over.news l0) = b at HC ⊢; clear hr0 hc0 hr1 hc1; have HB := Zq_.mk (Below.refl w.heap.size w)
 go_enter Try.func39, Try.ntmps39
 go_wp2_with (first | ((with_reducible refine qi_ (N := 2) rfl ?_); (try (refine vc_ (by rfl) ?_; dsimp only)); refine bE_ 2 #[.slice A0 l0.length c0] 22 ?_; intro aU hg_ w101 hbox_ hb_; have n0_ := Zq_.mk (qb_ (hB_ HB) hb_); have GE101 := Zq_.mk ((by rw [hg_]; exact (qe_ (hB_ HB)) : w.heap.size ≤ aU)); have n1_ := Zq_.mk (hbox_); clear HB; have HB := n0_; have aF := n1_; clear n0_ n1_; clear hb_ hbox_ hg_; have aW := cz_ aF 0 (.slice A0 l0.length c0); have aV := qr_ aF.out 0) | (go_at_call 54; refine (HC.out _ aU (hB_ HB) ((qj_ (by exact bK_ aF) 0).trans rfl)).mono ?_; rintro e w3 ⟨rfl, hb3⟩; have n0_ := Zq_.mk (qb_ (hB_ HB) hb3); have m101_ := Zq_.mk (blk_bel (by exact bK_ aF) hb3); clear HB; have HB := n0_; clear n0_; clear aF; have aF := m101_; clear m101_; clear hb3))
 go_ret
 exact ⟨by first | rfl | (simp; done) | (simp [*]; done), (hB_ HB)⟩
def state_Over.f (aC : Int) (aE : Int) (aD : List (S40)) (aH : Int) (aN : Int) (aM : List (S40)) : Option (Bool) := if aC = aH then (if aE ≥ aN then ((entry_Over.f aD aM).bind fun aO => (some aO)) else (some false)) else (some (decide (aC > aH)))
theorem state_Over.calls (aC : Int) (aE : Int) (aK : Option Addr) (aJ : Nat) (aD : List (S40)) (aH : Int) (aN : Int) (aQ : Option Addr) (aP : Nat) (aM : List (S40)) (r : Bool) (w : World) (aS : Kd.C k40 w aK aD.length aD) (aU : aD.length ≤ aJ) (aR : Kd.C k40 w aQ aM.length aM) (aT : aM.length ≤ aP) (h : state_Over.f aC aE aD aH aN aM = some r) :
  Calls Try.prog 20 #[.agg #[.int .i64 aC, .int .i64 aE, .slice aK aD.length aJ], .agg #[.int .i64 aH, .int .i64 aN, .slice aQ aM.length aP]] w fun e w' => e = .returned (.bool r) ∧ Below w.heap.size w w' := by
 have hu24 := Try.underlying24; have bA := Zq_.mk aS; have bC := Zq_.mk aU; clear aS aU; have aZ := Zq_.mk aR; have bB := Zq_.mk aT; clear aR aT; have HB := Zq_.mk (Below.refl w.heap.size w); have H : (if aC = aH then (if aE ≥ aN then ((entry_Over.f aD aM).bind fun aO => (some aO)) else (some false)) else (some (decide (aC > aH)))) = some r := h; clear h
 by_cases c3 : aC = aH
 ·rw [if_pos c3] at H; have c3b0 : (aC == aH) = true := beq_iff_eq.mpr c3; have c3b1 : (aC != aH) = false := bne_eq_false_iff_eq.mpr c3; clear c3
  by_cases c4 : aE ≥ aN
  ·rw [if_pos c4] at H; have c4b0 : decide (aN ≤ aE) = true := decide_eq_true c4; clear c4; replace H := ob_ H; obtain ⟨aO, A50, H⟩ := H; replace H : (some aO) = some r := H; have A5 := Zq_.mk A50; clear A50; obtain rfl := Option.some.inj H
   go_enter Try.func20, Try.ntmps20
   go_wp2_with (first | ((with_reducible refine qi_ (N := 2) rfl ?_); refine bE_ 2 #[.int .i64 aC, .int .i64 aE, .slice aK aD.length aJ] 24 ?_; intro aB hg w6 hbox hb; have aA := Zq_.mk (hbox); have aW := gW_ (w := w) hg (hB_ HB); have aY := gW_ (w := w) hg (hB_ HB); replace HB := Zq_.mk (qb_ (hB_ HB) hb); clear hb hbox hg) | ((with_reducible refine qi_ (N := 3) rfl ?_); refine bE_ 3 #[.int .i64 aH, .int .i64 aN, .slice aQ aM.length aP] 24 ?_; intro aL hg w7 hbox hb; have aI := Zq_.mk (hbox); have aV := gW_ (w := w) hg (by exact hSet_ HB); have aX := gW_ (w := w) hg (by exact hSet_ HB); replace HB := Zq_.mk (qb_ (by exact hSet_ HB) hb); have aG := Zq_.mk ((by rw [hg]; exact Nat.ne_of_lt (blk_lt (g := aB) (o := .cells #[.int .i64 aC, .int .i64 aE, .slice aK aD.length aJ] 24 (0, 0)) (by exact bK_ aA)) : aB ≠ aL)); have aF := Zq_.mk ((by rw [hg]; exact Nat.ne_of_gt (blk_lt (g := aB) (o := .cells #[.int .i64 aC, .int .i64 aE, .slice aK aD.length aJ] 24 (0, 0)) (by exact bK_ aA)) : aL ≠ aB)); replace aA := Zq_.mk (qa_ (g := aB) (o := .cells #[.int .i64 aC, .int .i64 aE, .slice aK aD.length aJ] 24 (0, 0)) (by exact bK_ aA) hb); clear hb hbox hg; have hnb8 := aG.out; have hnc8 := aF.out; obtain ⟨hcz9_0, hcz9_1, hcz9_2⟩ := c3_ aA; obtain ⟨hfz9_0, hfz9_1, hfz9_2⟩ := f3_ aA; obtain ⟨hcz10_0, hcz10_1, hcz10_2⟩ := c3_ aI; obtain ⟨hfz10_0, hfz10_1, hfz10_2⟩ := f3_ aI) | (go_at_call 39; (with_reducible refine (entry_Over.calls _ _ aD _ _ aM aO _ ?side1 ?side2 ?side3 ?side4 A5.out).mono ?_); (case side1 => exact cX_ (Kd.ve_ bA.out HB.out)); (case side2 => exact bC.out); (case side3 => exact cX_ (Kd.ve_ aZ.out HB.out)); (case side4 => exact bB.out); rintro e w11 ⟨rfl, hb⟩; replace aA := Zq_.mk (qa_ (g := aB) (o := .cells #[.int .i64 aC, .int .i64 aE, .slice aK aD.length aJ] 24 (0, 0)) (by exact bK_ aA) hb); replace aI := Zq_.mk (qa_ (g := aL) (o := .cells #[.int .i64 aH, .int .i64 aN, .slice aQ aM.length aP] 24 (0, 0)) (by exact bK_ aI) hb); replace HB := Zq_.mk (qb_ (by exact hSet_ HB) hb); (try clear hb)))
   go_ret
   exact ⟨by exact eW_, by exact hSet_ HB⟩
  ·rw [if_neg c4] at H; have c4b0 : decide (aN ≤ aE) = false := decide_eq_false c4; clear c4; obtain rfl := Option.some.inj H
   go_enter Try.func20, Try.ntmps20
   go_wp2_with (first | ((with_reducible refine qi_ (N := 2) rfl ?_); refine bE_ 2 #[.int .i64 aC, .int .i64 aE, .slice aK aD.length aJ] 24 ?_; intro aB hg w12 hbox hb; have aA := Zq_.mk (hbox); have aW := gW_ (w := w) hg (hB_ HB); have aY := gW_ (w := w) hg (hB_ HB); replace HB := Zq_.mk (qb_ (hB_ HB) hb); clear hb hbox hg) | ((with_reducible refine qi_ (N := 3) rfl ?_); refine bE_ 3 #[.int .i64 aH, .int .i64 aN, .slice aQ aM.length aP] 24 ?_; intro aL hg w13 hbox hb; have aI := Zq_.mk (hbox); have aV := gW_ (w := w) hg (by exact hSet_ HB); have aX := gW_ (w := w) hg (by exact hSet_ HB); replace HB := Zq_.mk (qb_ (by exact hSet_ HB) hb); have aG := Zq_.mk ((by rw [hg]; exact Nat.ne_of_lt (blk_lt (g := aB) (o := .cells #[.int .i64 aC, .int .i64 aE, .slice aK aD.length aJ] 24 (0, 0)) (by exact bK_ aA)) : aB ≠ aL)); have aF := Zq_.mk ((by rw [hg]; exact Nat.ne_of_gt (blk_lt (g := aB) (o := .cells #[.int .i64 aC, .int .i64 aE, .slice aK aD.length aJ] 24 (0, 0)) (by exact bK_ aA)) : aL ≠ aB)); replace aA := Zq_.mk (qa_ (g := aB) (o := .cells #[.int .i64 aC, .int .i64 aE, .slice aK aD.length aJ] 24 (0, 0)) (by exact bK_ aA) hb); clear hb hbox hg; have hnb14 := aG.out; have hnc14 := aF.out; obtain ⟨hcz15_0, hcz15_1, hcz15_2⟩ := c3_ aA; obtain ⟨hfz15_0, hfz15_1, hfz15_2⟩ := f3_ aA; obtain ⟨hcz16_0, hcz16_1, hcz16_2⟩ := c3_ aI; obtain ⟨hfz16_0, hfz16_1, hfz16_2⟩ := f3_ aI))
   go_ret
   exact ⟨by exact eW_, by exact hSet_ HB⟩
 ·rw [if_neg c3] at H; have c3b0 : (aC == aH) = false := beq_eq_false_iff_ne.mpr c3; have c3b1 : (aC != aH) = true := bne_iff_ne.mpr c3; obtain rfl := Option.some.inj H
  go_enter Try.func20, Try.ntmps20
  go_wp2_with (first | ((with_reducible refine qi_ (N := 2) rfl ?_); refine bE_ 2 #[.int .i64 aC, .int .i64 aE, .slice aK aD.length aJ] 24 ?_; intro aB hg w17 hbox hb; have aA := Zq_.mk (hbox); have aW := gW_ (w := w) hg (hB_ HB); have aY := gW_ (w := w) hg (hB_ HB); replace HB := Zq_.mk (qb_ (hB_ HB) hb); clear hb hbox hg) | ((with_reducible refine qi_ (N := 3) rfl ?_); refine bE_ 3 #[.int .i64 aH, .int .i64 aN, .slice aQ aM.length aP] 24 ?_; intro aL hg w18 hbox hb; have aI := Zq_.mk (hbox); have aV := gW_ (w := w) hg (by exact hSet_ HB); have aX := gW_ (w := w) hg (by exact hSet_ HB); replace HB := Zq_.mk (qb_ (by exact hSet_ HB) hb); have aG := Zq_.mk ((by rw [hg]; exact Nat.ne_of_lt (blk_lt (g := aB) (o := .cells #[.int .i64 aC, .int .i64 aE, .slice aK aD.length aJ] 24 (0, 0)) (by exact bK_ aA)) : aB ≠ aL)); have aF := Zq_.mk ((by rw [hg]; exact Nat.ne_of_gt (blk_lt (g := aB) (o := .cells #[.int .i64 aC, .int .i64 aE, .slice aK aD.length aJ] 24 (0, 0)) (by exact bK_ aA)) : aL ≠ aB)); replace aA := Zq_.mk (qa_ (g := aB) (o := .cells #[.int .i64 aC, .int .i64 aE, .slice aK aD.length aJ] 24 (0, 0)) (by exact bK_ aA) hb); clear hb hbox hg; have hnb19 := aG.out; have hnc19 := aF.out; obtain ⟨hcz20_0, hcz20_1, hcz20_2⟩ := c3_ aA; obtain ⟨hfz20_0, hfz20_1, hfz20_2⟩ := f3_ aA; obtain ⟨hcz21_0, hcz21_1, hcz21_2⟩ := c3_ aI; obtain ⟨hfz21_0, hfz21_1, hfz21_2⟩ := f3_ aI))
  go_ret
  exact ⟨by exact eW_, by exact hSet_ HB⟩
def ref05_Over.f (k : Nat) (aE : Int) (aD : Int) (aB : List (S40)) (aK : Int) (aJ : Int) (aF : List (S40)) : Option (Bool) := (ref05_Join.f k aE aD aB aK aJ aF).bind fun aH => ((ref05_Same.f k aH.1 aH.2.1 aH.2.2 aE aD aB).bind fun aM => (some aM))
theorem ref05_Over.mono : ∀ a0 a1 a2 a3 a4 a5 k, LeO (ref05_Over.f k a0 a1 a2 a3 a4 a5) (ref05_Over.f (k + 1) a0 a1 a2 a3 a4 a5) := by
 intro a0 a1 a2 a3 a4 a5 k
 unfold ref05_Over.f
 repeat' first
   | (with_reducible exact ref05_Join.mono _ _ _ _ _ _ _)
   | (with_reducible exact ref05_Same.mono _ _ _ _ _ _ _)
   | (with_reducible exact LeO.refl _)
   | (with_reducible exact LeO.none _)
   | (with_reducible refine LeO.ite ?_ ?_)
   | (with_reducible refine LeO.bind ?_ (fun _ => ?_))
   | exact ref05_Join.mono _ _ _ _ _ _ _
   | exact ref05_Same.mono _ _ _ _ _ _ _
   | exact LeO.none _
   | refine LeO.ite ?_ ?_
   | refine LeO.bind ?_ (fun _ => ?_)
theorem ref05_Over.calls (k : Nat) (aE : Int) (aD : Int) (aL : Option Addr) (aI : Nat) (aB : List (S40)) (aK : Int) (aJ : Int) (aQ : Option Addr) (aP : Nat) (aF : List (S40)) (r : Bool) (w : World) (aV : Kd.C k40 w aL aB.length aB) (aX : aB.length ≤ aI) (aU : Kd.C k40 w aQ aF.length aF) (aW : aF.length ≤ aP) (h : ref05_Over.f k aE aD aB aK aJ aF = some r) :
  Calls Try.prog 22 #[.agg #[.int .i64 aE, .int .i64 aD, .slice aL aB.length aI], .agg #[.int .i64 aK, .int .i64 aJ, .slice aQ aF.length aP]] w fun e w' => e = .returned (.bool r) ∧ Below w.heap.size w w' := by
 have hu24 := Try.underlying24; have aY := Zq_.mk aV; have aZ := Zq_.mk aX; clear aV aX; have bC := Zq_.mk aU; have bD := Zq_.mk aW; clear aU aW; have HB := Zq_.mk (Below.refl w.heap.size w); have H : ((ref05_Join.f k aE aD aB aK aJ aF).bind fun aH => ((ref05_Same.f k aH.1 aH.2.1 aH.2.2 aE aD aB).bind fun aM => (some aM))) = some r := h; clear h; replace H := ob_ H; obtain ⟨⟨aT, aS, aR⟩, A30, H⟩ := H; replace H : ((ref05_Same.f k aT aS aR aE aD aB).bind fun aM => (some aM)) = some r := H; have A3 := Zq_.mk A30; clear A30; replace H := ob_ H; obtain ⟨aM, A40, H⟩ := H; replace H : (some aM) = some r := H; have A4 := Zq_.mk A40; clear A40; obtain rfl := Option.some.inj H
 go_enter Try.func22, Try.ntmps22
 try go_wp2_with (first | ((with_reducible refine qi_ (N := 2) rfl ?_); refine bE_ 2 #[.int .i64 aE, .int .i64 aD, .slice aL aB.length aI] 24 ?_; intro aG hg w5 hbox hb; have aA := Zq_.mk (hbox); have GW101 := gW_ (w := w) hg (hB_ HB); have GE101 := gW_ (w := w) hg (hB_ HB); replace HB := Zq_.mk (qb_ (hB_ HB) hb); clear hb hbox hg) | ((with_reducible refine qi_ (N := 3) rfl ?_); refine bE_ 3 #[.int .i64 aK, .int .i64 aJ, .slice aQ aF.length aP] 24 ?_; intro aO hg w6 hbox hb; have aC := Zq_.mk (hbox); have GW102 := gW_ (w := w) hg (by exact hSet_ HB); have GE102 := gW_ (w := w) hg (by exact hSet_ HB); replace HB := Zq_.mk (qb_ (by exact hSet_ HB) hb); have bB := Zq_.mk ((by rw [hg]; exact Nat.ne_of_lt (blk_lt (g := aG) (o := .cells #[.int .i64 aE, .int .i64 aD, .slice aL aB.length aI] 24 (0, 0)) (by exact bK_ aA)) : aG ≠ aO)); have bA := Zq_.mk ((by rw [hg]; exact Nat.ne_of_gt (blk_lt (g := aG) (o := .cells #[.int .i64 aE, .int .i64 aD, .slice aL aB.length aI] 24 (0, 0)) (by exact bK_ aA)) : aO ≠ aG)); replace aA := Zq_.mk (qa_ (g := aG) (o := .cells #[.int .i64 aE, .int .i64 aD, .slice aL aB.length aI] 24 (0, 0)) (by exact bK_ aA) hb); clear hb hbox hg))
 replace aA := Zq_.mk (qf_ aA.out); replace aC := Zq_.mk (qf_ aC.out); replace HB := Zq_.mk (qs_ HB.out); refine gS_ 6 (hA_ (b0_ aA) (hA_ (b1_ aA) (hA_ (b2_ aA) (hA_ (b0_ aC) (hA_ (b1_ aC) (hZ_ (b2_ aC))))))) (fun hHeld => ?_); generalize w6.drew = w7 at aA aC HB hHeld ⊢; refine take_ (i := 0) (N := some 5) (v := ?_) (a' := ?_) (bz_ 6 1) rfl rfl (by kernel_rfl) (fun _ _ _ h => h) (Or.inl ⟨by rfl, ?_⟩) hHeld ?_ ?_; rotate_left; (focus rintro w' ⟨s0, s1, s2, s3, s4, s5⟩; go_simp; (with_reducible rfl)); rotate_left; (focus simp only [Act.put, sa_, sb_, sc_, i64_w, i32_w]; rfl); refine take_ (i := 1) (N := some 6) (v := ?_) (a' := ?_) (bz_ 6 3) rfl rfl (by kernel_rfl) (fun _ _ _ h => h) (Or.inl ⟨by rfl, ?_⟩) hHeld ?_ ?_; rotate_left; (focus rintro w' ⟨s0, s1, s2, s3, s4, s5⟩; go_simp; (with_reducible rfl)); rotate_left; (focus simp only [Act.put, sa_, sb_, sc_, i64_w, i32_w]; rfl); refine take_ (i := 3) (N := some 8) (v := ?_) (a' := ?_) (bz_ 6 11) rfl rfl (by kernel_rfl) (fun _ _ _ h => h) (Or.inl ⟨by rfl, ?_⟩) hHeld ?_ ?_; rotate_left; (focus rintro w' ⟨s0, s1, s2, s3, s4, s5⟩; go_simp; (with_reducible rfl)); rotate_left; (focus simp only [Act.put, sa_, sb_, sc_, i64_w, i32_w]; rfl); refine one_ (i := 2) (N := some 7) (bz_ 6 15) rfl rfl (by kernel_rfl) (by decide) (fun K hK => ?_); refine goes_ Try.func19 (by kernel_rfl) rfl #[.agg #[.int .i64 aE, .int .i64 aD, .slice aL aB.length aI], .agg #[.int .i64 aK, .int .i64 aJ, .slice aQ aF.length aP]] (by rfl) rfl rfl (by (try simp only [List.map_toArray, List.map_cons, List.map_nil]); first | done | rfl | (simp only [List.length_drop, List.length_take]; rfl)) ?_
 with_reducible refine (ref05_Join.calls k aE aD _ _ aB aK aJ _ _ aF aT aS aR _ ?side1 ?side2 ?side3 ?side4 A3.out).mono ?_
 (case side1 => exact cX_ (Kd.ve_ aY.out HB.out)); (case side2 => exact aZ.out); (case side3 => exact cX_ (Kd.ve_ bC.out HB.out)); (case side4 => exact bD.out); rintro e w8 ⟨v106, rfl, ho0, hb⟩; refine ⟨_, rfl, ?_⟩; have aN := Zq_.mk (Kd.qx_ ho0 (qe_ (by exact hSet_ HB))); replace aA := Zq_.mk (qa_ (g := aG) (o := .cells #[.int .i64 aE, .int .i64 aD, .slice aL aB.length aI] 24 (0, 0)) (by exact bK_ aA) hb); replace aC := Zq_.mk (qa_ (g := aO) (o := .cells #[.int .i64 aK, .int .i64 aJ, .slice aQ aF.length aP] 24 (0, 0)) (by exact bK_ aC) hb); replace HB := Zq_.mk (qb_ (by exact hSet_ HB) hb); (try clear hb); (try clear ho0); obtain ⟨Ao9, co9, eo9⟩ := Kd.vb_ aN.out; (first | subst eo9 | (injection eo9 with f1_ f2_ f3_; have f4_ := f1_.symm; have f5_ := f3_.symm; clear f1_ f2_ f3_; subst f4_; subst f5_)); refine hK.out _ _ ⟨b0_ aA, b1_ aA, b2_ aA, c3_ aC⟩ (fun hHeld => ?_); clear hK K; refine norm_ (a' := ?_) ?_ ?_; rotate_left
 ·show Act.put _ (some 7) _ = _
  simp only [Act.put, sa_, sb_, sc_, i64_w, i32_w]; rfl
 refine one_ (i := 4) (N := some 9) (bz_ 6 31) rfl rfl (by kernel_rfl) (by decide) (fun K hK => ?_); refine goes_ Try.func16 (by kernel_rfl) rfl #[.agg #[.int .i64 aT, .int .i64 aS, .slice Ao9 aR.length co9], .agg #[.int .i64 aE, .int .i64 aD, .slice aL aB.length aI]] (by rfl) rfl rfl (by (try simp only [List.map_toArray, List.map_cons, List.map_nil]); first | done | rfl | (simp only [List.length_drop, List.length_take]; rfl)) ?_
 with_reducible refine (ref05_Same.calls k aT aS _ _ aR aE aD _ _ aB aM _ ?side1 ?side2 ?side3 ?side4 A4.out).mono ?_
 (case side1 => exact cX_ ((Kd.R_reads' aN.out).2.2)); (case side2 => exact (Kd.R_reads' aN.out).2.1); (case side3 => exact cX_ (Kd.ve_ aY.out HB.out)); (case side4 => exact aZ.out); rintro e w10 ⟨rfl, hb⟩; refine ⟨_, rfl, ?_⟩; replace aN := vV_ Kd.qd_ aN hb; replace aA := Zq_.mk (qa_ (g := aG) (o := .cells #[.int .i64 aE, .int .i64 aD, .slice aL aB.length aI] 24 (0, 0)) (by exact bK_ aA) hb); replace aC := Zq_.mk (qa_ (g := aO) (o := .cells #[.int .i64 aK, .int .i64 aJ, .slice aQ aF.length aP] 24 (0, 0)) (by exact bK_ aC) hb); replace HB := Zq_.mk (qb_ (by exact hSet_ HB) hb); (try clear hb); refine hK.out _ _ ⟨b0_ aA, b1_ aA, b2_ aA, c3_ aC⟩ (fun hHeld => ?_); clear hK K; refine norm_ (a' := ?_) ?_ ?_; rotate_left
 ·show Act.put _ (some 9) _ = _
  simp only [Act.put, sa_, sb_, sc_, i64_w, i32_w]; rfl
 refine pure_ (i := 5) (N := some 4) (v := ?_) (a' := ?_) (bz_ 6 63) rfl rfl (by kernel_rfl) (fun _ _ _ h => h) (Or.inl ⟨by rfl, ?_⟩) ?_ ?_; rotate_left; (focus intro w'; go_simp; (with_reducible rfl)); rotate_left; (focus simp only [Act.put, sa_, sb_, sc_, i64_w, i32_w]; rfl); refine done_ (by kernel_rfl) ?_; (try go_wp2)
 go_ret
 exact ⟨by exact eW_, by exact hSet_ HB⟩
end Go.Proofs.Ytfoeahjbkmdgfaa.P

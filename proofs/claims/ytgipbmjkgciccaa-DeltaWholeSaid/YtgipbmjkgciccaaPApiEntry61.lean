/- What printed functions come to, and that the machine's calls do it. No condition. -/
import Derived.Test.YtgipbmjkgciccaaP0
import Derived.Test.YtgipbmjkgciccaaHw
namespace Go.Proofs.Ytgipbmjkgciccaa.P
set_option maxHeartbeats 8000000
set_option maxRecDepth 100000
open Go.RowKit Go.Proofs.YtgipbmjkgciccaaW.PrintWords Go.Proofs.YtgipbmjkgciccaaW.PrintLast Go.Proofs.YtgipbmjkgciccaaW.PrintMore
attribute [local go_sem] qw_ qu_ vb_ va_ qp_ qo_ qv_ qt_ Go.Proofs.YtgipbmjkgciccaaW.Hw.string_gtr
set_option linter.unusedVariables false
set_option linter.unusedSimpArgs false
def api_Entry_61.f (l0 : List S58) : Option (List S58) := if l0.length < 4398046511104 then some l0 else none
open Go.Proofs.YtgipbmjkgciccaaW.Hw in
theorem api_Entry_61.calls (A0 : Option Addr) (c0 : Nat) (l0 : List S58) (r : List S58) (w : World) (hr0 : Kd.C k58 w A0 l0.length l0) (hc0 : l0.length ≤ c0) (h : api_Entry_61.f l0 = some r) :
  Calls Try.prog 61 #[.slice A0 l0.length c0] w fun e w' => ∃ v0_ : Value, e = .returned v0_ ∧ Kd.R k58 58 w' w.heap.size (fun _ => True) v0_ r ∧ Below w.heap.size w w' := by
 unfold api_Entry_61.f at h
 by_cases hl : l0.length < 4398046511104
 case neg => rw [if_neg hl] at h; cases h
 rw [if_pos hl] at h; obtain rfl := Option.some.inj h; clear h; have LM := Zq_.mk hl; clear hl
 have hnil : ∀ (W : World) (a : Option Addr) (n c n' c' : Nat), (binOp .eql 33 (.slice a n c) (.slice none n' c')).run Try.prog W = .ok (.bool a.isNone) W := fun W a n c n' c' => Lib.run_eql_slice_nil W _ _ a n c n' c' Try.underlying33
 have HB := Zq_.mk (Below.refl w.heap.size w)
 cases A0 with
 | none =>
  have e0 : l0 = [] := by
   rcases Nat.eq_zero_or_pos l0.length with e | e
   ·exact List.eq_nil_of_length_eq_zero e
   ·obtain ⟨ad, e1, _⟩ := hr0.2.2 e; cases e1
  subst e0; clear hr0 hc0 LM
  go_enter Try.func61, Try.ntmps61
  go_wp2
  go_ret
  exact ⟨_, rfl, Kd.R_nil _ _ _ _ _, Below.refl _ _⟩
 | some ad =>
  have HR := Zq_.mk hr0; have HC := Zq_.mk hc0; clear hr0 hc0
  go_enter Try.func61, Try.ntmps61
  go_wp2_with (first
   | ((with_reducible refine qb_ (N := 5) rfl ?_); refine Kd.R_lit k58 _ 58 ?hg (N := 5) ?hd (xs := ([] : List S58)) (inner := []) (ok := fun _ => True) (okp := fun _ => True) ?hr ?hp (fun _ hk => hk) trivial (Below.refl _ _) (Nat.le_refl _) (by simp) ?_; (case hd => rfl); (case hg => rfl); (case hr => first | (go_simp; done) | (go_simp; rfl)); (case hp => exact (Reps.none _ _)); intro v5 w5 ho hb hg_ hnew_; clear hg_ hnew_; have HO := Zq_.mk (Kd.qz_ ho (qa_ (hB_ HB))); replace HB := sB_ HB hb; clear hb ho)
   | ((with_reducible refine qr_ (b := .append) (xs := #[.tmp 5, .tmp 6]) rfl ?_); at_builtin; refine Kd.R_append_rows k58 (w0 := w) w.heap.size rfl (.tmp 5) (.tmp 6) 33 58 (.agg #[(.int .i64 0), (.int .i64 0), (.string ⟨#[]⟩)]) 32 rfl Try.underlying33 info58 rfl (by decide) (by omega) v5 ([] : List S58) l0 _ _ _ (fun _ => True) (fun _ => False) rfl rfl ?aO ?aR (fun _ _ h => h) (fun _ h => h.elim) ?aF ?aB ?aS ?aL ?_; (case aR => exact cX_ (Kd.qf_ HR.out HB.out)); (case aB => exact (hB_ HB)); (case aF => exact (fun _ _ => trivial)); (case aO => exact (vX_ HO)); (case aS => exact (qa_ (hB_ HB))); (case aL => have := LM.out; simp only [List.length_nil]; omega); intro v7 w9 ho hb hg hat; rw [List.nil_append] at ho; replace HB := Zq_.mk hb; replace HO := Zq_.mk ho; clear ho hb hg hat))
  go_ret
  exact ⟨_, rfl, by (with_reducible repeat (first | apply Kd.qj_ | apply Kd.qi_ | apply Kd.R_drew)); exact HO.out, (hB_ HB)⟩
open Go.Proofs.YtgipbmjkgciccaaW.Hw in
theorem IndexFuncE.calls (p : S58 → Bool) (g : Nat) (lb : Array Value) (eg : ∀ args w, (callFunc g args).run Try.prog w = .ok (.enter g args) w) (A0 : Option Addr) (c0 : Nat) (l0 : List S58) (w : World)
  (hp : PredK Try.prog k58 g lb aggOf p w) (hr0 : Kd.C k58 w A0 l0.length l0) :
  Calls Try.prog 77 #[.slice A0 l0.length c0, .func (.func g) #[] lb] w fun e w' => e = .returned (.int .i64 (idxI p l0)) ∧ Below w.heap.size w w' := by
 have hu_ := Try.underlying58; have HR := Zq_.mk hr0; have HP := Zq_.mk hp; have HM := Zq_.mk (Kd.C_max hr0); clear hr0 hp; have HB := Zq_.mk (Below.refl w.heap.size w)
 go_enter Try.func77, Try.ntmps77
 go_wp2
 go_loopg [5, 8] l0.length (fun gg _ s8 wr => ∃ i : Int, s8 = .int .i64 i ∧ Zq_ (0 ≤ i ∧ i ≤ (l0.length : Int) ∧ l0.length - i.toNat ≤ gg) ∧ Zq_ (Below w.heap.size w wr) ∧ Zq_ (∀ j, j < i.toNat → p (l0.getD j z58) = false))
 case atStart => exact ⟨0, rfl, ⟨by omega⟩, HB, ⟨fun j hj => absurd hj (Nat.not_lt_zero _)⟩⟩
 case round =>
  obtain ⟨i, rfl, HI, BW, A⟩ := hrel
  by_cases hlt : i < (l0.length : Int)
  ·have hltb : decide (i < (l0.length : Int)) = true := decide_eq_true hlt; have p1 := HI.out.1; obtain ⟨ad, e_, hx_0, hx_1, hx_2⟩ := at_T58 HR.out i p1 hlt; cases e_; replace hx_0 := (BW.out.cell (wb_ w _ hx_0)).trans hx_0; replace hx_1 := (BW.out.cell (wb_ w _ hx_1)).trans hx_1; replace hx_2 := (BW.out.cell (wb_ w _ hx_2)).trans hx_2; have hcall : Calls Try.prog g (#[.agg #[.int .i64 (rd_T58 l0 i).f0, .int .i64 (rd_T58 l0 i).f1, .string (rd_T58 l0 i).f2]] ++ lb) wr (fun e w1 => e = .returned (.bool (p (rd_T58 l0 i))) ∧ Below wr.heap.size wr w1) := HP.out wr (rd_T58 l0 i) [.int .i64 (rd_T58 l0 i).f0, .int .i64 (rd_T58 l0 i).f1, .string (rd_T58 l0 i).f2] BW.out (k58_mk wr (rd_T58 l0 i)); have HL := Zq_.mk hlt; replace p1 := eq_true p1; replace hlt := eq_true hlt; have hwr := Zq_.mk (show wrap64 (i + 1) = i + 1 by have := HI.out; have := HM.out; have := HL.out; unfold wrap64; omega)
   cases hq : p (rd_T58 l0 i) with
   | true =>
    rw [hq] at hcall; have HQ := Zq_.mk hq; clear hq
    go_wp2_with fail
    refine hcall.mono ?_; rintro e w1 ⟨rfl, hb1⟩
    go_wp2_with fail
    go_ret
    refine ⟨?_, (by have hb2 := vf_ BW.out hb1; exact hb2)⟩; have h1 := HI.out; have h2 := HL.out; rw [idxI_hit p l0 z58 i.toNat (by omega) HQ.out A.out, Int.toNat_of_nonneg h1.1]; rfl
   | false =>
    rw [hq] at hcall; have HQ := Zq_.mk hq; clear hq
    go_wp2_with fail
    refine hcall.mono ?_; rintro e w1 ⟨rfl, hb1⟩
    go_wp2_with fail
    go_roundg (l0.length - (i.toNat + 1))
    case measure => have h1 := HI.out; have h2 := HL.out; omega
    case rel => exact ⟨wrap64 (i + 1), eS_, ⟨by rw [hwr.out]; have h1 := HI.out; have h2 := HL.out; omega⟩, ⟨vf_ BW.out hb1⟩, ⟨fun j hj => by
     rw [hwr.out] at hj; have h1 := HI.out
     by_cases e : j = i.toNat
     ·subst e; exact HQ.out
     ·exact A.out j (by omega)⟩⟩
  ·have hltb : decide (i < (l0.length : Int)) = false := decide_eq_false hlt; have HL := Zq_.mk hlt; clear hlt
   go_wp2
   go_ret
   refine ⟨?_, BW.out⟩; have h1 := HI.out; have h2 := HL.out; rw [idxI_miss p l0 z58 (fun j hj => A.out j (by omega))]; rfl
open Go.Proofs.YtgipbmjkgciccaaW.Hw in
theorem IndexFuncN.calls (p : S39 → Bool) (g : Nat) (lb : Array Value) (eg : ∀ args w, (callFunc g args).run Try.prog w = .ok (.enter g args) w) (A0 : Option Addr) (c0 : Nat) (l0 : List S39) (w : World)
  (hp : PredK Try.prog k39 g lb aggOf p w) (hr0 : Kd.C k39 w A0 l0.length l0) :
  Calls Try.prog 72 #[.slice A0 l0.length c0, .func (.func g) #[] lb] w fun e w' => e = .returned (.int .i64 (idxI p l0)) ∧ Below w.heap.size w w' := by
 have hu_ := Try.underlying39; have HR := Zq_.mk hr0; have HP := Zq_.mk hp; have HM := Zq_.mk (Kd.C_max hr0); clear hr0 hp; have HB := Zq_.mk (Below.refl w.heap.size w)
 go_enter Try.func72, Try.ntmps72
 go_wp2
 go_loopg [5, 8] l0.length (fun gg _ s8 wr => ∃ i : Int, s8 = .int .i64 i ∧ Zq_ (0 ≤ i ∧ i ≤ (l0.length : Int) ∧ l0.length - i.toNat ≤ gg) ∧ Zq_ (Below w.heap.size w wr) ∧ Zq_ (∀ j, j < i.toNat → p (l0.getD j z39) = false))
 case atStart => exact ⟨0, rfl, ⟨by omega⟩, HB, ⟨fun j hj => absurd hj (Nat.not_lt_zero _)⟩⟩
 case round =>
  obtain ⟨i, rfl, HI, BW, A⟩ := hrel
  by_cases hlt : i < (l0.length : Int)
  ·have hltb : decide (i < (l0.length : Int)) = true := decide_eq_true hlt; have p1 := HI.out.1; obtain ⟨ad, A3_, c3_, e_, hx_0, hx_1, hx_2, hx_3, l3_, g3_⟩ := at_T39 HR.out i p1 hlt; cases e_; replace hx_0 := (BW.out.cell (wb_ w _ hx_0)).trans hx_0; replace hx_1 := (BW.out.cell (wb_ w _ hx_1)).trans hx_1; replace hx_2 := (BW.out.cell (wb_ w _ hx_2)).trans hx_2; replace hx_3 := (BW.out.cell (wb_ w _ hx_3)).trans hx_3; have hcall : Calls Try.prog g (#[.agg #[.int .i64 (rd_T39 l0 i).f0, .int .i64 (rd_T39 l0 i).f1.f0, .int .i64 (rd_T39 l0 i).f1.f1, .slice A3_ (rd_T39 l0 i).f1.f2.length c3_]] ++ lb) wr (fun e w1 => e = .returned (.bool (p (rd_T39 l0 i))) ∧ Below wr.heap.size wr w1) := HP.out wr (rd_T39 l0 i) [.int .i64 (rd_T39 l0 i).f0, .int .i64 (rd_T39 l0 i).f1.f0, .int .i64 (rd_T39 l0 i).f1.f1, .slice A3_ (rd_T39 l0 i).f1.f2.length c3_] BW.out (k39_mk wr (rd_T39 l0 i) l3_ (Kd.qf_ g3_ BW.out)); have HL := Zq_.mk hlt; replace p1 := eq_true p1; replace hlt := eq_true hlt; have hwr := Zq_.mk (show wrap64 (i + 1) = i + 1 by have := HI.out; have := HM.out; have := HL.out; unfold wrap64; omega)
   cases hq : p (rd_T39 l0 i) with
   | true =>
    rw [hq] at hcall; have HQ := Zq_.mk hq; clear hq
    go_wp2_with fail
    refine hcall.mono ?_; rintro e w1 ⟨rfl, hb1⟩
    go_wp2_with fail
    go_ret
    refine ⟨?_, (by have hb2 := vf_ BW.out hb1; exact hb2)⟩; have h1 := HI.out; have h2 := HL.out; rw [idxI_hit p l0 z39 i.toNat (by omega) HQ.out A.out, Int.toNat_of_nonneg h1.1]; rfl
   | false =>
    rw [hq] at hcall; have HQ := Zq_.mk hq; clear hq
    go_wp2_with fail
    refine hcall.mono ?_; rintro e w1 ⟨rfl, hb1⟩
    go_wp2_with fail
    go_roundg (l0.length - (i.toNat + 1))
    case measure => have h1 := HI.out; have h2 := HL.out; omega
    case rel => exact ⟨wrap64 (i + 1), eS_, ⟨by rw [hwr.out]; have h1 := HI.out; have h2 := HL.out; omega⟩, ⟨vf_ BW.out hb1⟩, ⟨fun j hj => by
     rw [hwr.out] at hj; have h1 := HI.out
     by_cases e : j = i.toNat
     ·subst e; exact HQ.out
     ·exact A.out j (by omega)⟩⟩
  ·have hltb : decide (i < (l0.length : Int)) = false := decide_eq_false hlt; have HL := Zq_.mk hlt; clear hlt
   go_wp2
   go_ret
   refine ⟨?_, BW.out⟩; have h1 := HI.out; have h2 := HL.out; rw [idxI_miss p l0 z39 (fun j hj => A.out j (by omega))]; rfl
open Go.Proofs.YtgipbmjkgciccaaW.Hw in
theorem GrowN.calls (n : Nat) (hn : n < 1099511627776) (w : World) : Calls Try.prog 84 #[.slice none 0 0, .int .i64 (n : Int)] w fun e w' => ∃ v0_ : Value, e = .returned v0_ ∧ Kd.R k39 39 w' w.heap.size (fun _ => True) v0_ ([] : List S39) ∧ Below w.heap.size w w' := by
 have hneg : decide ((n : Int) < 0) = false := decide_eq_false (by omega)
 rcases Nat.eq_zero_or_pos n with rfl | hp
 ·clear hn hneg
  go_enter Try.func84, Try.ntmps84
  go_wp2
  go_ret
  exact ⟨_, rfl, Kd.R_nil _ _ _ _ _, Below.refl _ _⟩
 ·have hw1 : wrap64 ((n : Int) - 0) = (n : Int) := by unfold wrap64; omega
  have hw2 : IntKind.i64.wrap ((n : Int)) = (n : Int) := by rw [IntKind.wrap_i64]; omega
  have hpos : decide ((0 : Int) < (n : Int)) = true := decide_eq_true (by omega); have hpn := decide_eq_true hp; obtain ⟨v1, w1, hrun, hR1, hg1, _⟩ := Kd.R_zeros_run (P := Try.prog) k39 w.heap.size 22 3 22 39 (.agg #[.int .i64 0, .int .i64 0, .int .i64 0, .slice none 0 0]) 48 Try.underlying22 Try.underlying3 info39 rfl (by decide) (by omega) (.slice none 0 0) ([] : List S39) z39 (ok := fun _ => True) (k39_mkM w _ _ z39 (Kd.R_nil _ _ w _ _)) (fun _ _ => trivial) (Kd.R_nil _ _ w _ _) .i64 (n : Int) (by omega) (by simp; omega) (Nat.le_refl _)
  have hlen : 0 < (([] : List S39) ++ List.replicate (n : Int).toNat z39).length := by simp; omega
  obtain ⟨g1, c1, rfl, hb1, hlt1, _⟩ := Kd.R_form hR1 hlen; have HR := Zq_.mk (Kd.R_take (m := 0) hR1 (Nat.zero_le _)); have HB := Zq_.mk ((Below.refl w.heap.size w).grown hg1 (Nat.le_refl _) (fun k hk => by simp [Value.ownBlock] at hk)); clear hlen hR1 hg1 hb1 hlt1 hp hn
  go_enter Try.func84, Try.ntmps84
  go_wp2_with (at_builtin; refine wpList_append_run _ rfl _ _ 22 3 rfl _ _ rfl rfl hrun ?_)
  go_ret
  exact ⟨_, rfl, by simpa using HR.out, HB.out⟩
def entry_higher.f (aO : Int) (aD : Int) (aM : ByteArray) (aN : Int) (aC : Int) (aL : ByteArray) : Option (Int × Int × ByteArray) := if aC > aD then (some (aN, aC, aL)) else (if aC = aD then (if (Op.bytesLess aM.toList aL.toList) = true then (some (aN, aC, aL)) else (some (aO, aD, aM))) else (some (aO, aD, aM)))
theorem entry_higher.calls (aO : Int) (aD : Int) (aM : ByteArray) (aN : Int) (aC : Int) (aL : ByteArray) (r1 : Int) (r2 : Int) (r3 : ByteArray) (w : World) (h : entry_higher.f aO aD aM aN aC aL = some (r1, r2, r3)) :
  Calls Try.prog 85 #[.agg #[.int .i64 aO, .int .i64 aD, .string aM], .agg #[.int .i64 aN, .int .i64 aC, .string aL]] w fun e w' => e = .returned (.agg #[.int .i64 r1, .int .i64 r2, .string r3]) ∧ Below w.heap.size w w' := by
 have hu58 := Try.underlying58; have HB := Zq_.mk (Below.refl w.heap.size w); have H : (if aC > aD then (some (aN, aC, aL)) else (if aC = aD then (if (Op.bytesLess aM.toList aL.toList) = true then (some (aN, aC, aL)) else (some (aO, aD, aM))) else (some (aO, aD, aM)))) = some (r1, r2, r3) := h; clear h
 by_cases c3 : aC > aD
 ·rw [if_pos c3] at H; have c3b0 : decide (aD < aC) = true := decide_eq_true c3; clear c3; simp only [Option.some.injEq, Prod.mk.injEq] at H; obtain ⟨rfl, rfl, rfl⟩ := H
  go_enter Try.func85, Try.ntmps85
  go_wp2_with (first | ((with_reducible refine qb_ (N := 2) rfl ?_); refine bE_ 2 #[.int .i64 aO, .int .i64 aD, .string aM] 58 ?_; intro aR hg w4 hbox hb; have aA := Zq_.mk (hbox); have aU := gW_ (w := w) hg (hB_ HB); have aX := gW_ (w := w) hg (hB_ HB); replace HB := sB_ HB hb; clear hb hbox hg) | ((with_reducible refine qb_ (N := 3) rfl ?_); refine bE_ 3 #[.int .i64 aN, .int .i64 aC, .string aL] 58 ?_; intro aQ hg w5 hbox hb; have aB := Zq_.mk (hbox); have aT := gW_ (w := w) hg (by exact hSet_ HB); have aW := gW_ (w := w) hg (by exact hSet_ HB); replace HB := sB_ HB hb; have aJ := nL_ aA hg; have aH := nG_ aA hg; replace aA := kB_ aA hb; clear hb hbox hg) | ((with_reducible refine qb_ (N := 4) rfl ?_); refine bE_ 4 #[.int .i64 0, .int .i64 0, .string (⟨#[]⟩ : ByteArray)] 58 ?_; intro aP hg w6 hbox hb; have aK := Zq_.mk (hbox); have aS := gW_ (w := w) hg (by exact hSet_ HB); have aV := gW_ (w := w) hg (by exact hSet_ HB); replace HB := sB_ HB hb; have aI := nL_ aA hg; have aF := nG_ aA hg; replace aA := kB_ aA hb; have aG := nL_ aB hg; have aE := nG_ aB hg; replace aB := kB_ aB hb; clear hb hbox hg; have hnb7 := aH.out; have hnc7 := aJ.out; have hnb8 := aG.out; have hnc8 := aE.out; obtain ⟨hcz9_0, hcz9_1, hcz9_2⟩ := c3_ aB; obtain ⟨hfz9_0, hfz9_1, hfz9_2⟩ := f3_ aB; have hnb10 := aI.out; have hnc10 := aF.out; obtain ⟨hcz11_0, hcz11_1, hcz11_2⟩ := c3_ aA; obtain ⟨hfz11_0, hfz11_1, hfz11_2⟩ := f3_ aA; obtain ⟨hcz12_0, hcz12_1, hcz12_2⟩ := c3_ aK; obtain ⟨hfz12_0, hfz12_1, hfz12_2⟩ := f3_ aK))
  refine bodyPost_ret (results_cell_row rfl _ _ aP 58 #[.int .i64 aN, .int .i64 aC, .string aL] (0, 0) _ rfl (by refine bP_ (cs := #[.int .i64 aN, .int .i64 aC, .string (⟨#[]⟩ : ByteArray)]) 2 ?_; refine bP_ (cs := #[.int .i64 aN, .int .i64 0, .string (⟨#[]⟩ : ByteArray)]) 1 ?_; refine bP_ (cs := #[.int .i64 0, .int .i64 0, .string (⟨#[]⟩ : ByteArray)]) 0 ?_; exact bK_ aK) Try.underlying58 rfl (by kernel_rfl)) rfl ?_; exact ⟨by exact eW_, by exact hSet_ HB⟩
 ·rw [if_neg c3] at H; have c3b0 : decide (aD < aC) = false := decide_eq_false c3; clear c3
  by_cases c13 : aC = aD
  ·rw [if_pos c13] at H; have bA : (aC == aD) = true := beq_iff_eq.mpr c13; have aZ : (aC != aD) = false := bne_eq_false_iff_eq.mpr c13; clear c13
   by_cases c14 : (Op.bytesLess aM.toList aL.toList) = true
   ·rw [if_pos c14] at H; have aY : (Op.bytesLess aM.toList aL.toList) = true := c14; clear c14; simp only [Option.some.injEq, Prod.mk.injEq] at H; obtain ⟨rfl, rfl, rfl⟩ := H
    go_enter Try.func85, Try.ntmps85
    go_wp2_with (first | ((with_reducible refine qb_ (N := 2) rfl ?_); refine bE_ 2 #[.int .i64 aO, .int .i64 aD, .string aM] 58 ?_; intro aR hg w15 hbox hb; have aA := Zq_.mk (hbox); have aU := gW_ (w := w) hg (hB_ HB); have aX := gW_ (w := w) hg (hB_ HB); replace HB := sB_ HB hb; clear hb hbox hg) | ((with_reducible refine qb_ (N := 3) rfl ?_); refine bE_ 3 #[.int .i64 aN, .int .i64 aC, .string aL] 58 ?_; intro aQ hg w16 hbox hb; have aB := Zq_.mk (hbox); have aT := gW_ (w := w) hg (by exact hSet_ HB); have aW := gW_ (w := w) hg (by exact hSet_ HB); replace HB := sB_ HB hb; have aJ := nL_ aA hg; have aH := nG_ aA hg; replace aA := kB_ aA hb; clear hb hbox hg) | ((with_reducible refine qb_ (N := 4) rfl ?_); refine bE_ 4 #[.int .i64 0, .int .i64 0, .string (⟨#[]⟩ : ByteArray)] 58 ?_; intro aP hg w17 hbox hb; have aK := Zq_.mk (hbox); have aS := gW_ (w := w) hg (by exact hSet_ HB); have aV := gW_ (w := w) hg (by exact hSet_ HB); replace HB := sB_ HB hb; have aI := nL_ aA hg; have aF := nG_ aA hg; replace aA := kB_ aA hb; have aG := nL_ aB hg; have aE := nG_ aB hg; replace aB := kB_ aB hb; clear hb hbox hg; have hnb18 := aH.out; have hnc18 := aJ.out; have hnb19 := aG.out; have hnc19 := aE.out; obtain ⟨hcz20_0, hcz20_1, hcz20_2⟩ := c3_ aB; obtain ⟨hfz20_0, hfz20_1, hfz20_2⟩ := f3_ aB; have hnb21 := aI.out; have hnc21 := aF.out; obtain ⟨hcz22_0, hcz22_1, hcz22_2⟩ := c3_ aA; obtain ⟨hfz22_0, hfz22_1, hfz22_2⟩ := f3_ aA; obtain ⟨hcz23_0, hcz23_1, hcz23_2⟩ := c3_ aK; obtain ⟨hfz23_0, hfz23_1, hfz23_2⟩ := f3_ aK))
    refine bodyPost_ret (results_cell_row rfl _ _ aP 58 #[.int .i64 aN, .int .i64 aC, .string aL] (0, 0) _ rfl (by refine bP_ (cs := #[.int .i64 aN, .int .i64 aC, .string (⟨#[]⟩ : ByteArray)]) 2 ?_; refine bP_ (cs := #[.int .i64 aN, .int .i64 0, .string (⟨#[]⟩ : ByteArray)]) 1 ?_; refine bP_ (cs := #[.int .i64 0, .int .i64 0, .string (⟨#[]⟩ : ByteArray)]) 0 ?_; exact bK_ aK) Try.underlying58 rfl (by kernel_rfl)) rfl ?_; exact ⟨by exact eW_, by exact hSet_ HB⟩
   ·rw [if_neg c14] at H
    have aY : (Op.bytesLess aM.toList aL.toList) = false := by simpa using c14
    clear c14; simp only [Option.some.injEq, Prod.mk.injEq] at H; obtain ⟨rfl, rfl, rfl⟩ := H
    go_enter Try.func85, Try.ntmps85
    go_wp2_with (first | ((with_reducible refine qb_ (N := 2) rfl ?_); refine bE_ 2 #[.int .i64 aO, .int .i64 aD, .string aM] 58 ?_; intro aR hg w24 hbox hb; have aA := Zq_.mk (hbox); have aU := gW_ (w := w) hg (hB_ HB); have aX := gW_ (w := w) hg (hB_ HB); replace HB := sB_ HB hb; clear hb hbox hg) | ((with_reducible refine qb_ (N := 3) rfl ?_); refine bE_ 3 #[.int .i64 aN, .int .i64 aC, .string aL] 58 ?_; intro aQ hg w25 hbox hb; have aB := Zq_.mk (hbox); have aT := gW_ (w := w) hg (by exact hSet_ HB); have aW := gW_ (w := w) hg (by exact hSet_ HB); replace HB := sB_ HB hb; have aJ := nL_ aA hg; have aH := nG_ aA hg; replace aA := kB_ aA hb; clear hb hbox hg) | ((with_reducible refine qb_ (N := 4) rfl ?_); refine bE_ 4 #[.int .i64 0, .int .i64 0, .string (⟨#[]⟩ : ByteArray)] 58 ?_; intro aP hg w26 hbox hb; have aK := Zq_.mk (hbox); have aS := gW_ (w := w) hg (by exact hSet_ HB); have aV := gW_ (w := w) hg (by exact hSet_ HB); replace HB := sB_ HB hb; have aI := nL_ aA hg; have aF := nG_ aA hg; replace aA := kB_ aA hb; have aG := nL_ aB hg; have aE := nG_ aB hg; replace aB := kB_ aB hb; clear hb hbox hg; have hnb27 := aH.out; have hnc27 := aJ.out; have hnb28 := aG.out; have hnc28 := aE.out; obtain ⟨hcz29_0, hcz29_1, hcz29_2⟩ := c3_ aB; obtain ⟨hfz29_0, hfz29_1, hfz29_2⟩ := f3_ aB; have hnb30 := aI.out; have hnc30 := aF.out; obtain ⟨hcz31_0, hcz31_1, hcz31_2⟩ := c3_ aA; obtain ⟨hfz31_0, hfz31_1, hfz31_2⟩ := f3_ aA; obtain ⟨hcz32_0, hcz32_1, hcz32_2⟩ := c3_ aK; obtain ⟨hfz32_0, hfz32_1, hfz32_2⟩ := f3_ aK))
    refine bodyPost_ret (results_cell_row rfl _ _ aP 58 #[.int .i64 aO, .int .i64 aD, .string aM] (0, 0) _ rfl (by refine bP_ (cs := #[.int .i64 aO, .int .i64 aD, .string (⟨#[]⟩ : ByteArray)]) 2 ?_; refine bP_ (cs := #[.int .i64 aO, .int .i64 0, .string (⟨#[]⟩ : ByteArray)]) 1 ?_; refine bP_ (cs := #[.int .i64 0, .int .i64 0, .string (⟨#[]⟩ : ByteArray)]) 0 ?_; exact bK_ aK) Try.underlying58 rfl (by kernel_rfl)) rfl ?_; exact ⟨by exact eW_, by exact hSet_ HB⟩
  ·rw [if_neg c13] at H; have bA : (aC == aD) = false := beq_eq_false_iff_ne.mpr c13; have aZ : (aC != aD) = true := bne_iff_ne.mpr c13; simp only [Option.some.injEq, Prod.mk.injEq] at H; obtain ⟨rfl, rfl, rfl⟩ := H
   go_enter Try.func85, Try.ntmps85
   go_wp2_with (first | ((with_reducible refine qb_ (N := 2) rfl ?_); refine bE_ 2 #[.int .i64 aO, .int .i64 aD, .string aM] 58 ?_; intro aR hg w33 hbox hb; have aA := Zq_.mk (hbox); have aU := gW_ (w := w) hg (hB_ HB); have aX := gW_ (w := w) hg (hB_ HB); replace HB := sB_ HB hb; clear hb hbox hg) | ((with_reducible refine qb_ (N := 3) rfl ?_); refine bE_ 3 #[.int .i64 aN, .int .i64 aC, .string aL] 58 ?_; intro aQ hg w34 hbox hb; have aB := Zq_.mk (hbox); have aT := gW_ (w := w) hg (by exact hSet_ HB); have aW := gW_ (w := w) hg (by exact hSet_ HB); replace HB := sB_ HB hb; have aJ := nL_ aA hg; have aH := nG_ aA hg; replace aA := kB_ aA hb; clear hb hbox hg) | ((with_reducible refine qb_ (N := 4) rfl ?_); refine bE_ 4 #[.int .i64 0, .int .i64 0, .string (⟨#[]⟩ : ByteArray)] 58 ?_; intro aP hg w35 hbox hb; have aK := Zq_.mk (hbox); have aS := gW_ (w := w) hg (by exact hSet_ HB); have aV := gW_ (w := w) hg (by exact hSet_ HB); replace HB := sB_ HB hb; have aI := nL_ aA hg; have aF := nG_ aA hg; replace aA := kB_ aA hb; have aG := nL_ aB hg; have aE := nG_ aB hg; replace aB := kB_ aB hb; clear hb hbox hg; have hnb36 := aH.out; have hnc36 := aJ.out; have hnb37 := aG.out; have hnc37 := aE.out; obtain ⟨hcz38_0, hcz38_1, hcz38_2⟩ := c3_ aB; obtain ⟨hfz38_0, hfz38_1, hfz38_2⟩ := f3_ aB; have hnb39 := aI.out; have hnc39 := aF.out; obtain ⟨hcz40_0, hcz40_1, hcz40_2⟩ := c3_ aA; obtain ⟨hfz40_0, hfz40_1, hfz40_2⟩ := f3_ aA; obtain ⟨hcz41_0, hcz41_1, hcz41_2⟩ := c3_ aK; obtain ⟨hfz41_0, hfz41_1, hfz41_2⟩ := f3_ aK))
   refine bodyPost_ret (results_cell_row rfl _ _ aP 58 #[.int .i64 aO, .int .i64 aD, .string aM] (0, 0) _ rfl (by refine bP_ (cs := #[.int .i64 aO, .int .i64 aD, .string (⟨#[]⟩ : ByteArray)]) 2 ?_; refine bP_ (cs := #[.int .i64 aO, .int .i64 0, .string (⟨#[]⟩ : ByteArray)]) 1 ?_; refine bP_ (cs := #[.int .i64 0, .int .i64 0, .string (⟨#[]⟩ : ByteArray)]) 0 ?_; exact bK_ aK) Try.underlying58 rfl (by kernel_rfl)) rfl ?_; exact ⟨by exact eW_, by exact hSet_ HB⟩
theorem eqA58 (d : Nat) (w : World) (x0 y0 : Int) (x1 y1 : Int) (x2 y2 : ByteArray) :
  (Op.equalIn (d + 2) 58 (.agg #[.int .i64 x0, .int .i64 x1, .string x2]) (.agg #[.int .i64 y0, .int .i64 y1, .string y2])).run Try.prog w = .ok (x0 == y0 && (x1 == y1 && (x2.toList == y2.toList))) w := by
 refine eqA_of Try.underlying58 (by kernel_rfl) ?_; refine eqf_cons (by rfl) (by go_simp; rfl) (by go_simp; rfl) (by go_simp) ?_; refine eqf_cons (by rfl) (by go_simp; rfl) (by go_simp; rfl) (by go_simp) ?_; exact eqf_last (by rfl) (by go_simp; rfl) (by go_simp; rfl) (by go_simp)
def ref04_above.f (aJ : Int) (aE : Int) (aH : ByteArray) (aI : Int) (aD : Int) (aG : ByteArray) : Option (Bool) := if aE > aD then (some true) else (if aE = aD then (some (Op.bytesLess aG.toList aH.toList)) else (some false))
theorem ref04_above.calls (aJ : Int) (aE : Int) (aH : ByteArray) (aI : Int) (aD : Int) (aG : ByteArray) (r : Bool) (w : World) (h : ref04_above.f aJ aE aH aI aD aG = some r) :
  Calls Try.prog 80 #[.agg #[.int .i64 aJ, .int .i64 aE, .string aH], .agg #[.int .i64 aI, .int .i64 aD, .string aG]] w fun e w' => e = .returned (.bool r) ∧ Below w.heap.size w w' := by
 have hu58 := Try.underlying58; have HB := Zq_.mk (Below.refl w.heap.size w); have H : (if aE > aD then (some true) else (if aE = aD then (some (Op.bytesLess aG.toList aH.toList)) else (some false))) = some r := h; clear h
 by_cases c3 : aE > aD
 ·rw [if_pos c3] at H; have c3b0 : decide (aD < aE) = true := decide_eq_true c3; clear c3; obtain rfl := Option.some.inj H
  go_enter Try.func80, Try.ntmps80
  go_wp2_with (first | ((with_reducible refine qb_ (N := 2) rfl ?_); refine bE_ 2 #[.int .i64 aJ, .int .i64 aE, .string aH] 58 ?_; intro aL hg w4 hbox hb; have aA := Zq_.mk (hbox); have aN := gW_ (w := w) hg (hB_ HB); have aP := gW_ (w := w) hg (hB_ HB); replace HB := sB_ HB hb; clear hb hbox hg) | ((with_reducible refine qb_ (N := 3) rfl ?_); refine bE_ 3 #[.int .i64 aI, .int .i64 aD, .string aG] 58 ?_; intro aK hg w5 hbox hb; have aF := Zq_.mk (hbox); have aM := gW_ (w := w) hg (by exact hSet_ HB); have aO := gW_ (w := w) hg (by exact hSet_ HB); replace HB := sB_ HB hb; have aC := nL_ aA hg; have aB := nG_ aA hg; replace aA := kB_ aA hb; clear hb hbox hg; have hnb6 := aC.out; have hnc6 := aB.out; obtain ⟨hcz7_0, hcz7_1, hcz7_2⟩ := c3_ aA; obtain ⟨hfz7_0, hfz7_1, hfz7_2⟩ := f3_ aA; obtain ⟨hcz8_0, hcz8_1, hcz8_2⟩ := c3_ aF; obtain ⟨hfz8_0, hfz8_1, hfz8_2⟩ := f3_ aF))
  go_ret
  exact ⟨by exact eW_, by exact hSet_ HB⟩
 ·rw [if_neg c3] at H; have c3b0 : decide (aD < aE) = false := decide_eq_false c3; clear c3
  by_cases c9 : aE = aD
  ·rw [if_pos c9] at H; have c9b0 : (aE == aD) = true := beq_iff_eq.mpr c9; have c9b1 : (aE != aD) = false := bne_eq_false_iff_eq.mpr c9; clear c9; obtain rfl := Option.some.inj H
   go_enter Try.func80, Try.ntmps80
   go_wp2_with (first | ((with_reducible refine qb_ (N := 2) rfl ?_); refine bE_ 2 #[.int .i64 aJ, .int .i64 aE, .string aH] 58 ?_; intro aL hg w10 hbox hb; have aA := Zq_.mk (hbox); have aN := gW_ (w := w) hg (hB_ HB); have aP := gW_ (w := w) hg (hB_ HB); replace HB := sB_ HB hb; clear hb hbox hg) | ((with_reducible refine qb_ (N := 3) rfl ?_); refine bE_ 3 #[.int .i64 aI, .int .i64 aD, .string aG] 58 ?_; intro aK hg w11 hbox hb; have aF := Zq_.mk (hbox); have aM := gW_ (w := w) hg (by exact hSet_ HB); have aO := gW_ (w := w) hg (by exact hSet_ HB); replace HB := sB_ HB hb; have aC := nL_ aA hg; have aB := nG_ aA hg; replace aA := kB_ aA hb; clear hb hbox hg; have hnb12 := aC.out; have hnc12 := aB.out; obtain ⟨hcz13_0, hcz13_1, hcz13_2⟩ := c3_ aA; obtain ⟨hfz13_0, hfz13_1, hfz13_2⟩ := f3_ aA; obtain ⟨hcz14_0, hcz14_1, hcz14_2⟩ := c3_ aF; obtain ⟨hfz14_0, hfz14_1, hfz14_2⟩ := f3_ aF))
   go_ret
   exact ⟨by exact eW_, by exact hSet_ HB⟩
  ·rw [if_neg c9] at H; have c9b0 : (aE == aD) = false := beq_eq_false_iff_ne.mpr c9; have c9b1 : (aE != aD) = true := bne_iff_ne.mpr c9; obtain rfl := Option.some.inj H
   go_enter Try.func80, Try.ntmps80
   go_wp2_with (first | ((with_reducible refine qb_ (N := 2) rfl ?_); refine bE_ 2 #[.int .i64 aJ, .int .i64 aE, .string aH] 58 ?_; intro aL hg w15 hbox hb; have aA := Zq_.mk (hbox); have aN := gW_ (w := w) hg (hB_ HB); have aP := gW_ (w := w) hg (hB_ HB); replace HB := sB_ HB hb; clear hb hbox hg) | ((with_reducible refine qb_ (N := 3) rfl ?_); refine bE_ 3 #[.int .i64 aI, .int .i64 aD, .string aG] 58 ?_; intro aK hg w16 hbox hb; have aF := Zq_.mk (hbox); have aM := gW_ (w := w) hg (by exact hSet_ HB); have aO := gW_ (w := w) hg (by exact hSet_ HB); replace HB := sB_ HB hb; have aC := nL_ aA hg; have aB := nG_ aA hg; replace aA := kB_ aA hb; clear hb hbox hg; have hnb17 := aC.out; have hnc17 := aB.out; obtain ⟨hcz18_0, hcz18_1, hcz18_2⟩ := c3_ aA; obtain ⟨hfz18_0, hfz18_1, hfz18_2⟩ := f3_ aA; obtain ⟨hcz19_0, hcz19_1, hcz19_2⟩ := c3_ aF; obtain ⟨hfz19_0, hfz19_1, hfz19_2⟩ := f3_ aF))
   go_ret
   exact ⟨by exact eW_, by exact hSet_ HB⟩
def ref04_Get.l0 : Nat → List (S58) → Int → Int → Option (Int × Int × ByteArray × Bool)
 | 0, _, _, _ => none
 | k + 1, x0, x1, x6 => if x6 < (x0.length : Int) then (if 0 ≤ x6 then (if ((rd_T58 x0 x6).f0) = x1 then (some ((rd_T58 x0 x6).f0, (rd_T58 x0 x6).f1, (rd_T58 x0 x6).f2, true)) else (ref04_Get.l0 k x0 x1 (wrap64 (x6 + 1)))) else (none)) else (some (0, 0, (⟨#[]⟩ : ByteArray), false))
def ref04_Get.f (k : Nat) (l0 : List (S58)) (a1 : Int) : Option (Int × Int × ByteArray × Bool) := ref04_Get.l0 k l0 a1 0
theorem ref04_Get.mono_l : ∀ k, (∀ y0 y1 y2, LeO (ref04_Get.l0 k y0 y1 y2) (ref04_Get.l0 (k + 1) y0 y1 y2))
 | 0 => fun _ _ _ r h => by simp [ref04_Get.l0] at h
 | k + 1 => by
  have ih0 := ref04_Get.mono_l k
  ·intro y0 y1 y2
   unfold ref04_Get.l0
   with_reducible repeat' first | exact ih0 _ _ _ | exact LeO.refl _ | exact LeO.none _ | refine LeO.ite ?_ ?_ | refine LeO.bind ?_ (fun _ => ?_)
theorem ref04_Get.mono : ∀ a0 a1 k, LeO (ref04_Get.f k a0 a1) (ref04_Get.f (k + 1) a0 a1) := by
 intro a0 a1 k; have ih0 := ref04_Get.mono_l k
 unfold ref04_Get.f
 with_reducible repeat' first | exact ih0 _ _ _ | exact LeO.refl _ | exact LeO.none _ | refine LeO.ite ?_ ?_ | refine LeO.bind ?_ (fun _ => ?_)
theorem ref04_Get.calls (k : Nat) (A0 : Option Addr) (c0 : Nat) (l0 : List (S58)) (a1 : Int) (r1 : Int) (r2 : Int) (r3 : ByteArray) (r4 : Bool) (w : World) (hr0 : Kd.C k58 w A0 l0.length l0) (hc0 : l0.length ≤ c0) (h : ref04_Get.f k l0 a1 = some (r1, r2, r3, r4)) :
  Calls Try.prog 44 #[.slice A0 l0.length c0, .int .i64 a1] w fun e w' => e = .returned (.tuple #[.agg #[.int .i64 r1, .int .i64 r2, .string r3], .bool r4]) ∧ Below w.heap.size w w' := by
 have hu58 := Try.underlying58; have HR0 := Zq_.mk hr0; have HC0 := Zq_.mk hc0; clear hr0 hc0; have HB := Zq_.mk (Below.refl w.heap.size w); have H : (ref04_Get.l0 k l0 a1 0) = some (r1, r2, r3, r4) := h; clear h; have H' := Zq_.mk H; clear H
 go_enter Try.func44, Try.ntmps44
 go_wp2_with (first | ((with_reducible refine qb_ (N := 4) rfl ?_); refine bE_ 4 #[.int .i64 0, .int .i64 0, .string (⟨#[]⟩ : ByteArray)] 58 ?_; intro aN hg w3 hbox hb; have aE := Zq_.mk (hbox); have GW101 := gW_ (w := w) hg (hB_ HB); have GE101 := gW_ (w := w) hg (hB_ HB); replace HB := sB_ HB hb; clear hb hbox hg))
 go_loopg [6] k (fun kq v6 w' => ∃ (aA : Int) (aH : Int) (aG : Int) (aF : ByteArray), v6 = .int .i64 aA ∧ Zq_ (ref04_Get.l0 kq l0 a1 aA = some (r1, r2, r3, r4)) ∧ Zq_ (kq ≤ k) ∧ Zq_ (w'.heap[aN]? = some (.cells #[.int .i64 aH, .int .i64 aG, .string aF] 58 (0, 0))) ∧ Zq_ (Below w.heap.size w w'))
 case atStart => exact ⟨(0), (0), (0), ((⟨#[]⟩ : ByteArray)), eS_, H', ⟨Nat.le_refl _⟩, ⟨by (with_reducible repeat (first | refine qq_ ?_ _ | refine qc_ ?_ | refine ql_ ?_ _)); exact aE.out⟩, ⟨by exact hSet_ HB⟩⟩
 case round =>
  clear H'
  try clear p2
  obtain ⟨aA, aH, aG, aF, rfl, HA, HK1, aE, HB⟩ := hrel
  cases gk with
  | zero => exact absurd HA.out (by simp [ref04_Get.l0])
  | succ k1 =>
   have H := HA.out; clear HA; simp only [ref04_Get.l0] at H
   by_cases c4 : aA < (l0.length : Int)
   ·rw [if_pos c4] at H; have c4b0 : decide (aA < (l0.length : Int)) = true := decide_eq_true c4; clear c4
    by_cases c5 : 0 ≤ aA
    ·rw [if_pos c5] at H; have c5b0 : decide (0 ≤ aA) = true := decide_eq_true c5; clear c5
     by_cases c6 : ((rd_T58 l0 aA).f0) = a1
     ·rw [if_pos c6] at H; have c6b0 : (((rd_T58 l0 aA).f0) == a1) = true := beq_iff_eq.mpr c6; have c6b1 : (((rd_T58 l0 aA).f0) != a1) = false := bne_eq_false_iff_eq.mpr c6; clear c6; simp only [Option.some.injEq, Prod.mk.injEq] at H; obtain ⟨rfl, rfl, rfl, rfl⟩ := H; have aJ : 0 ≤ (aA : Int) := dA_; have aI : aA < (l0.length : Int) := dA_; obtain ⟨aO, aR, aD, aC, aB⟩ := at_T58 HR0.out aA aJ aI; cases aR; replace aD := hC_ HB aD; replace aC := hC_ HB aC; replace aB := hC_ HB aB; replace aJ := eq_true aJ; replace aI := eq_true aI; have aQ : 0 ≤ (aA : Int) := dA_; have aP : aA < (l0.length : Int) := dA_; obtain ⟨aS, e103, aM, aL, aK⟩ := at_T58 HR0.out aA aQ aP; obtain rfl : aO = aS := (by injection e103); replace aM := hC_ HB aM; replace aL := hC_ HB aL; replace aK := hC_ HB aK; replace aQ := eq_true aQ; replace aP := eq_true aP; obtain ⟨hcz7_0, hcz7_1, hcz7_2⟩ := c3_ aE; obtain ⟨hfz7_0, hfz7_1, hfz7_2⟩ := f3_ aE
      go_wp2
      refine bodyPost_ret (results_ct rfl _ _ aN 58 #[.int .i64 ((rd_T58 l0 aA).f0), .int .i64 ((rd_T58 l0 aA).f1), .string ((rd_T58 l0 aA).f2)] (0, 0) _ rfl (by exact bW3_ (bK_ aE)) Try.underlying58 rfl (by kernel_rfl)) rfl ?_; exact ⟨by exact eW_, by exact hSet_ HB⟩
     ·rw [if_neg c6] at H; have c6b0 : (((rd_T58 l0 aA).f0) == a1) = false := beq_eq_false_iff_ne.mpr c6; have c6b1 : (((rd_T58 l0 aA).f0) != a1) = true := bne_iff_ne.mpr c6; have H' := Zq_.mk H; clear H; have aJ : 0 ≤ (aA : Int) := dA_; have aI : aA < (l0.length : Int) := dA_; obtain ⟨aO, aR, aD, aC, aB⟩ := at_T58 HR0.out aA aJ aI; cases aR; replace aD := hC_ HB aD; replace aC := hC_ HB aC; replace aB := hC_ HB aB; replace aJ := eq_true aJ; replace aI := eq_true aI
      go_wp2
      go_roundg k1
      case measure => have := HK1.out; omega
      case rel => exact ⟨(wrap64 (aA + 1)), (aH), (aG), (aF), eS_, H', ⟨by have := HK1.out; omega⟩, ⟨by (with_reducible repeat (first | refine qq_ ?_ _ | refine qc_ ?_ | refine ql_ ?_ _)); exact aE.out⟩, ⟨by exact hSet_ HB⟩⟩
    ·rw [if_neg c5] at H; exact absurd H (by simp)
   ·rw [if_neg c4] at H; have c4b0 : decide (aA < (l0.length : Int)) = false := decide_eq_false c4; clear c4; simp only [Option.some.injEq, Prod.mk.injEq] at H; obtain ⟨rfl, rfl, rfl, rfl⟩ := H; obtain ⟨hcz8_0, hcz8_1, hcz8_2⟩ := c3_ aE; obtain ⟨hfz8_0, hfz8_1, hfz8_2⟩ := f3_ aE
    go_wp2
    refine bodyPost_ret (results_ct rfl _ _ aN 58 #[.int .i64 0, .int .i64 0, .string (⟨#[]⟩ : ByteArray)] (0, 0) _ rfl (by exact bW3_ (bK_ aE)) Try.underlying58 rfl (by kernel_rfl)) rfl ?_; exact ⟨by exact eW_, by exact hSet_ HB⟩
def ref04_Top.l0 : Nat → List (S58) → Int → Int → Option (Int)
 | 0, _, _, _ => none
 | k + 1, x0, x3, x4 => if x4 < (x0.length : Int) then (if 0 ≤ x4 then (ref04_Top.l0 k x0 (mx x3 ((rd_T58 x0 x4).f1)) (wrap64 (x4 + 1))) else (none)) else (some x3)
def ref04_Top.f (k : Nat) (l0 : List (S58)) : Option (Int) := ref04_Top.l0 k l0 0 0
theorem ref04_Top.mono_l : ∀ k, (∀ y0 y1 y2, LeO (ref04_Top.l0 k y0 y1 y2) (ref04_Top.l0 (k + 1) y0 y1 y2))
 | 0 => fun _ _ _ r h => by simp [ref04_Top.l0] at h
 | k + 1 => by
  have ih0 := ref04_Top.mono_l k
  ·intro y0 y1 y2
   unfold ref04_Top.l0
   with_reducible repeat' first | exact ih0 _ _ _ | exact LeO.refl _ | exact LeO.none _ | refine LeO.ite ?_ ?_ | refine LeO.bind ?_ (fun _ => ?_)
theorem ref04_Top.mono : ∀ a0 k, LeO (ref04_Top.f k a0) (ref04_Top.f (k + 1) a0) := by
 intro a0 k; have ih0 := ref04_Top.mono_l k
 unfold ref04_Top.f
 with_reducible repeat' first | exact ih0 _ _ _ | exact LeO.refl _ | exact LeO.none _ | refine LeO.ite ?_ ?_ | refine LeO.bind ?_ (fun _ => ?_)
theorem ref04_Top.calls (k : Nat) (A0 : Option Addr) (c0 : Nat) (l0 : List (S58)) (r : Int) (w : World) (hr0 : Kd.C k58 w A0 l0.length l0) (hc0 : l0.length ≤ c0) (h : ref04_Top.f k l0 = some r) :
  Calls Try.prog 65 #[.slice A0 l0.length c0] w fun e w' => e = .returned (.int .i64 r) ∧ Below w.heap.size w w' := by
 have HR0 := Zq_.mk hr0; have HC0 := Zq_.mk hc0; clear hr0 hc0; have HB := Zq_.mk (Below.refl w.heap.size w); have H : (ref04_Top.l0 k l0 0 0) = some r := h; clear h; have H' := Zq_.mk H; clear H
 go_enter Try.func65, Try.ntmps65
 go_wp2
 go_loopg [3, 4] k (fun kq v3 v4 w' => ∃ (aE : Int) (aA : Int), v3 = .int .i64 aE ∧ v4 = .int .i64 aA ∧ Zq_ (ref04_Top.l0 kq l0 aE aA = some r) ∧ Zq_ (kq ≤ k) ∧ Zq_ (Below w.heap.size w w'))
 case atStart => exact ⟨(0), (0), eS_, eS_, H', ⟨Nat.le_refl _⟩, ⟨hB_ HB⟩⟩
 case round =>
  clear H'; obtain ⟨aE, aA, rfl, rfl, HA, HK1, HB⟩ := hrel
  cases gk with
  | zero => exact absurd HA.out (by simp [ref04_Top.l0])
  | succ k1 =>
   have H := HA.out; clear HA; simp only [ref04_Top.l0] at H
   by_cases c2 : aA < (l0.length : Int)
   ·rw [if_pos c2] at H; have c2b0 : decide (aA < (l0.length : Int)) = true := decide_eq_true c2; clear c2
    by_cases c3 : 0 ≤ aA
    ·rw [if_pos c3] at H; have c3b0 : decide (0 ≤ aA) = true := decide_eq_true c3; clear c3; obtain ⟨ji4, aF⟩ : ∃ j_ : Int, (mx aE ((rd_T58 l0 aA).f1)) = j_ := ⟨_, rfl⟩
     replace H : (ref04_Top.l0 k1 l0 ji4 (wrap64 (aA + 1))) = some r := by first | (rw [aF] at H; exact H) | (simp only [aF] at H ⊢; exact H)
     have hji4_ : (if aE < ((rd_T58 l0 aA).f1) then ((rd_T58 l0 aA).f1) else aE) = ji4 := aF; have H' := Zq_.mk H; clear H; have aH : 0 ≤ (aA : Int) := dA_; have aG : aA < (l0.length : Int) := dA_; obtain ⟨ad101, e101, aD, aC, aB⟩ := at_T58 HR0.out aA aH aG; cases e101; replace aD := hC_ HB aD; replace aC := hC_ HB aC; replace aB := hC_ HB aB; replace aH := eq_true aH; replace aG := eq_true aG
     go_wp2
     go_roundg k1
     case measure => have := HK1.out; omega
     case rel => exact ⟨(ji4), (wrap64 (aA + 1)), (by first | rfl | (simp; done) | (simp only [← aF] <;> (first | rfl | simp)) | (simp [*]; done)), eS_, H', ⟨by have := HK1.out; omega⟩, ⟨hB_ HB⟩⟩
    ·rw [if_neg c3] at H; exact absurd H (by simp)
   ·rw [if_neg c2] at H; have c2b0 : decide (aA < (l0.length : Int)) = false := decide_eq_false c2; clear c2; obtain rfl := Option.some.inj H
    go_wp2
    go_ret
    exact ⟨by exact eW_, hB_ HB⟩
def ref04_May.f (aG : Int) (aF : Int) (bD : ByteArray) : Option (Bool) := if aG ≥ 0 then (if aG < 12 then (if aF ≥ 1 then (if aF ≤ 1099511627776 then (some (decide ((bD.size : Int) ≤ 200))) else (some false)) else (some false)) else (some false)) else (some false)
theorem ref04_May.calls (aG : Int) (aF : Int) (bD : ByteArray) (r : Bool) (w : World) (h : ref04_May.f aG aF bD = some r) :
  Calls Try.prog 71 #[.agg #[.int .i64 aG, .int .i64 aF, .string bD]] w fun e w' => e = .returned (.bool r) ∧ Below w.heap.size w w' := by
 have hu58 := Try.underlying58; have HB := Zq_.mk (Below.refl w.heap.size w); have H : (if aG ≥ 0 then (if aG < 12 then (if aF ≥ 1 then (if aF ≤ 1099511627776 then (some (decide ((bD.size : Int) ≤ 200))) else (some false)) else (some false)) else (some false)) else (some false)) = some r := h; clear h
 by_cases c2 : aG ≥ 0
 ·rw [if_pos c2] at H; have bN : decide (0 ≤ aG) = true := decide_eq_true c2; clear c2
  by_cases c3 : aG < 12
  ·rw [if_pos c3] at H; have cI : decide (aG < 12) = true := decide_eq_true c3; clear c3
   by_cases c4 : aF ≥ 1
   ·rw [if_pos c4] at H; have cO : decide (1 ≤ aF) = true := decide_eq_true c4; clear c4
    by_cases c5 : aF ≤ 1099511627776
    ·rw [if_pos c5] at H; have cN : decide (aF ≤ 1099511627776) = true := decide_eq_true c5; clear c5; obtain rfl := Option.some.inj H
     go_enter Try.func71, Try.ntmps71
     go_wp2_with (first | ((with_reducible refine qb_ (N := 1) rfl ?_); (try (refine vd_ (by rfl) ?_; dsimp only)); refine bE_ 1 #[.int .i64 aG, .int .i64 aF, .string bD] 58 ?_; intro aZ hg w6 hbox hb; have aE := Zq_.mk (hbox); have bA := gW_ (w := w) hg (hB_ HB); have bB := gW_ (w := w) hg (hB_ HB); replace HB := sB_ HB hb; clear hb hbox hg; obtain ⟨hcz7_0, hcz7_1, hcz7_2⟩ := c3_ aE; obtain ⟨hfz7_0, hfz7_1, hfz7_2⟩ := f3_ aE))
     go_ret
     exact ⟨by exact eW_, by exact hSet_ HB⟩
    ·rw [if_neg c5] at H; have cN : decide (aF ≤ 1099511627776) = false := decide_eq_false c5; clear c5; obtain rfl := Option.some.inj H
     go_enter Try.func71, Try.ntmps71
     go_wp2_with (first | ((with_reducible refine qb_ (N := 1) rfl ?_); (try (refine vd_ (by rfl) ?_; dsimp only)); refine bE_ 1 #[.int .i64 aG, .int .i64 aF, .string bD] 58 ?_; intro aZ hg w8 hbox hb; have aE := Zq_.mk (hbox); have bA := gW_ (w := w) hg (hB_ HB); have bB := gW_ (w := w) hg (hB_ HB); replace HB := sB_ HB hb; clear hb hbox hg; obtain ⟨hcz9_0, hcz9_1, hcz9_2⟩ := c3_ aE; obtain ⟨hfz9_0, hfz9_1, hfz9_2⟩ := f3_ aE))
     go_ret
     exact ⟨by exact eW_, by exact hSet_ HB⟩
   ·rw [if_neg c4] at H; have cO : decide (1 ≤ aF) = false := decide_eq_false c4; clear c4; obtain rfl := Option.some.inj H
    go_enter Try.func71, Try.ntmps71
    go_wp2_with (first | ((with_reducible refine qb_ (N := 1) rfl ?_); (try (refine vd_ (by rfl) ?_; dsimp only)); refine bE_ 1 #[.int .i64 aG, .int .i64 aF, .string bD] 58 ?_; intro aZ hg w10 hbox hb; have aE := Zq_.mk (hbox); have bA := gW_ (w := w) hg (hB_ HB); have bB := gW_ (w := w) hg (hB_ HB); replace HB := sB_ HB hb; clear hb hbox hg; obtain ⟨cH, cG, cF⟩ := c3_ aE; obtain ⟨bY, bX, bW⟩ := f3_ aE))
    go_ret
    exact ⟨by exact eW_, by exact hSet_ HB⟩
  ·rw [if_neg c3] at H; have cI : decide (aG < 12) = false := decide_eq_false c3; clear c3; obtain rfl := Option.some.inj H
   go_enter Try.func71, Try.ntmps71
   go_wp2_with (first | ((with_reducible refine qb_ (N := 1) rfl ?_); (try (refine vd_ (by rfl) ?_; dsimp only)); refine bE_ 1 #[.int .i64 aG, .int .i64 aF, .string bD] 58 ?_; intro aZ hg w12 hbox hb; have aE := Zq_.mk (hbox); have bA := gW_ (w := w) hg (hB_ HB); have bB := gW_ (w := w) hg (hB_ HB); replace HB := sB_ HB hb; clear hb hbox hg; obtain ⟨cE, cD, cC⟩ := c3_ aE; obtain ⟨bV, bU, bT⟩ := f3_ aE))
   go_ret
   exact ⟨by exact eW_, by exact hSet_ HB⟩
 ·rw [if_neg c2] at H; have bN : decide (0 ≤ aG) = false := decide_eq_false c2; clear c2; obtain rfl := Option.some.inj H
  go_enter Try.func71, Try.ntmps71
  go_wp2_with (first | ((with_reducible refine qb_ (N := 1) rfl ?_); (try (refine vd_ (by rfl) ?_; dsimp only)); refine bE_ 1 #[.int .i64 aG, .int .i64 aF, .string bD] 58 ?_; intro aZ hg w14 hbox hb; have aE := Zq_.mk (hbox); have bA := gW_ (w := w) hg (hB_ HB); have bB := gW_ (w := w) hg (hB_ HB); replace HB := sB_ HB hb; clear hb hbox hg; obtain ⟨cB, cA, bZ⟩ := c3_ aE; obtain ⟨bS, bR, bQ⟩ := f3_ aE))
  go_ret
  exact ⟨by exact eW_, by exact hSet_ HB⟩
def ref04_Right.l0 : Nat → List (S58) → Int → Option (Bool)
 | 0, _, _ => none
 | k + 1, x0, x3 => if x3 < (x0.length : Int) then (if 0 ≤ x3 then ((ref04_May.f ((rd_T58 x0 x3).f0) ((rd_T58 x0 x3).f1) ((rd_T58 x0 x3).f2)).bind fun bE => (if bE = true then (if x3 > 0 then (if 0 ≤ (wrap64 (x3 - 1)) then (if (wrap64 (x3 - 1)) < (x0.length : Int) then (if ((rd_T58 x0 (wrap64 (x3 - 1))).f0) ≥ ((rd_T58 x0 x3).f0) then (some false) else (ref04_Right.l0 k x0 (wrap64 (x3 + 1)))) else (none)) else (none)) else (ref04_Right.l0 k x0 (wrap64 (x3 + 1)))) else (some false))) else (none)) else (some true)
def ref04_Right.f (k : Nat) (l0 : List (S58)) : Option (Bool) := ref04_Right.l0 k l0 0
theorem ref04_Right.mono_l : ∀ k, (∀ y0 y1, LeO (ref04_Right.l0 k y0 y1) (ref04_Right.l0 (k + 1) y0 y1))
 | 0 => fun _ _ r h => by simp [ref04_Right.l0] at h
 | k + 1 => by
  have ih0 := ref04_Right.mono_l k
  ·intro y0 y1
   unfold ref04_Right.l0
   with_reducible repeat' first | exact ih0 _ _ | exact LeO.refl _ | exact LeO.none _ | refine LeO.ite ?_ ?_ | refine LeO.bind ?_ (fun _ => ?_)
theorem ref04_Right.mono : ∀ a0 k, LeO (ref04_Right.f k a0) (ref04_Right.f (k + 1) a0) := by
 intro a0 k; have ih0 := ref04_Right.mono_l k
 unfold ref04_Right.f
 with_reducible repeat' first | exact ih0 _ _ | exact LeO.refl _ | exact LeO.none _ | refine LeO.ite ?_ ?_ | refine LeO.bind ?_ (fun _ => ?_)
def ref04_Right.T4 : Bool × List (List Nat × List Nat) := (true, [([], []), ([], []), ([0, 1], [0, 1]), ([2], [2]), ([3], [3]), ([4], [4]), ([5, 4], [5]), ([6], [6]), ([7, 6], [6, 7]), ([8, 6, 6], [6, 8]), ([9], [9]), ([9], [9]), ([11, 9], [9, 11]), ([10, 12, 9], [9, 10, 12]), ([13, 9], [9, 13]), ([14, 9], [9, 14]), ([9], [9]), ([9], [9]), ([16, 17, 9], [9, 16, 17]), ([18, 9], [9, 18]), ([19, 9], [9, 19]), ([15, 20, 9], [9, 15, 20]), ([9, 21, 6], [6, 9, 21]), ([6, 22], [6, 22])])
def ref04_Right.B4 : List Nat := [0, 0, 3, 7, 15, 31, 63, 127, 255, 511, 1023, 1023, 3071, 8191, 16383, 32767, 1023, 1023, 197631, 459775, 984063, 2097151, 4194303, 8388607]
theorem ref04_Right.tab4 : rtab .any (opsOf Try.f56 4) = ref04_Right.T4 := by kernel_rfl
theorem ref04_Right.bits4 : waitsOk ref04_Right.T4.2 ref04_Right.B4 = true := by kernel_rfl
theorem ref04_Right.calls (k : Nat) (A0 : Option Addr) (c0 : Nat) (l0 : List (S58)) (r : Bool) (w : World) (hr0 : Kd.C k58 w A0 l0.length l0) (hc0 : l0.length ≤ c0) (h : ref04_Right.f k l0 = some r) :
  Calls Try.prog 56 #[.slice A0 l0.length c0] w fun e w' => e = .returned (.bool r) ∧ Below w.heap.size w w' := by
 have hu58 := Try.underlying58; have HR0 := Zq_.mk hr0; have HC0 := Zq_.mk hc0; clear hr0 hc0; have HB := Zq_.mk (Below.refl w.heap.size w); have H : (ref04_Right.l0 k l0 0) = some r := h; clear h; have H' := Zq_.mk H; clear H
 go_enter Try.func56, Try.ntmps56
 go_wp2
 go_loopg [3] k (fun kq v3 w' => ∃ (aA : Int), v3 = .int .i64 aA ∧ Zq_ (ref04_Right.l0 kq l0 aA = some r) ∧ Zq_ (kq ≤ k) ∧ Zq_ (Below w.heap.size w w'))
 case atStart => exact ⟨(0), eS_, H', ⟨Nat.le_refl _⟩, ⟨hB_ HB⟩⟩
 case round =>
  clear H'; obtain ⟨aA, rfl, HA, HK1, HB⟩ := hrel
  cases gk with
  | zero => exact absurd HA.out (by simp [ref04_Right.l0])
  | succ k1 =>
   have H := HA.out; clear HA; simp only [ref04_Right.l0] at H
   by_cases c2 : aA < (l0.length : Int)
   ·rw [if_pos c2] at H; have bN : decide (aA < (l0.length : Int)) = true := decide_eq_true c2; clear c2
    by_cases c3 : 0 ≤ aA
    ·rw [if_pos c3] at H; have cI : decide (0 ≤ aA) = true := decide_eq_true c3; clear c3; replace H := ob_ H; obtain ⟨bE, A40, H⟩ := H; (try dsimp only at H); have A4 := Zq_.mk A40; clear A40
     by_cases c5 : bE = true
     ·subst c5
      rw [if_pos rfl] at H
      by_cases c6 : aA > 0
      ·rw [if_pos c6] at H; have c6b0 : decide (0 < aA) = true := decide_eq_true c6; clear c6; obtain ⟨ji7, bM⟩ : ∃ j_ : Int, (wrap64 (aA - 1)) = j_ := ⟨_, rfl⟩
       replace H : (if 0 ≤ (ji7) then (if (ji7) < (l0.length : Int) then (if ((rd_T58 l0 (ji7)).f0) ≥ ((rd_T58 l0 aA).f0) then (some false) else (ref04_Right.l0 k1 l0 (wrap64 (aA + 1)))) else (none)) else (none)) = some r := by first | (rw [bM] at H; exact H) | (simp only [bM] at H ⊢; exact H)
       (try rw [bM] at A4); have hji7w : (IntKind.i64.wrap (aA - 1)) = ji7 := (i64_w _).trans bM
       by_cases c8 : 0 ≤ (ji7)
       ·rw [if_pos c8] at H; have c8b0 : decide (0 ≤ (ji7)) = true := decide_eq_true c8; clear c8
        by_cases c9 : (ji7) < (l0.length : Int)
        ·rw [if_pos c9] at H; have c9b0 : decide ((ji7) < (l0.length : Int)) = true := decide_eq_true c9; clear c9
         by_cases c10 : ((rd_T58 l0 (ji7)).f0) ≥ ((rd_T58 l0 aA).f0)
         ·rw [if_pos c10] at H; have cP : decide (((rd_T58 l0 aA).f0) ≤ ((rd_T58 l0 (ji7)).f0)) = true := decide_eq_true c10; clear c10; obtain rfl := Option.some.inj H; (try go_wp2); replace HB := Zq_.mk (qe_ HB.out); have aR : 0 ≤ (aA : Int) := dA_; have aQ : aA < (l0.length : Int) := dA_; obtain ⟨bC, bJ, aD, aC, aB⟩ := at_T58 HR0.out aA aR aQ; have aH := aB; have aI := aC; have aJ := aD; cases bJ; replace aD := hC_ HB aD; replace aC := hC_ HB aC; replace aB := hC_ HB aB; replace aR := eq_true aR; replace aQ := eq_true aQ; have bI : 0 ≤ ((ji7) : Int) := dA_; have bG : (ji7) < (l0.length : Int) := dA_; obtain ⟨bP, cM, aP, aO, aN⟩ := at_T58 HR0.out (ji7) bI bG; have aW := aN; have aX := aO; have aY := aP; obtain rfl : bC = bP := (by injection cM); replace aP := hC_ HB aP; replace aO := hC_ HB aO; replace aN := hC_ HB aN; replace bI := eq_true bI; replace bG := eq_true bG; have bH : 0 ≤ (aA : Int) := dA_; have bF : aA < (l0.length : Int) := dA_; obtain ⟨bO, cL, aM, aL, aK⟩ := at_T58 HR0.out aA bH bF; have aT := aK; have aU := aL; have aV := aM; obtain rfl : bC = bO := (by injection cL); replace aM := hC_ HB aM; replace aL := hC_ HB aL; replace aK := hC_ HB aK; replace bH := eq_true bH; replace bF := eq_true bF; refine gS_ 24 (hA_ (hC_ HB aJ) (hA_ (hC_ HB aI) (hA_ (hC_ HB aH) (hA_ (hC_ HB aY) (hA_ (hC_ HB aX) (hA_ (hC_ HB aW) (hA_ (hC_ HB aV) (hA_ (hC_ HB aU) (hZ_ (hC_ HB aT)))))))))) (fun hHeld => ?_); refine qm_ ref04_Right.tab4 ref04_Right.bits4 (fun HT_ HW_ => ?_); generalize wr.drew = w11 at HB aD aC aB aP aO aN aM aL aK hHeld ⊢; refine up0_ 0 ?_; (iterate 4 first | refine pN_ ?_ | refine tN_ ?_); refine oN_ 4 14 24 31 HT_ (fun K hK => ?_); refine goes_ Try.func71 (by kernel_rfl) rfl #[.agg #[.int .i64 ((rd_T58 l0 aA).f0), .int .i64 ((rd_T58 l0 aA).f1), .string ((rd_T58 l0 aA).f2)]] (by rfl) rfl rfl aR_ ?_
          with_reducible refine (ref04_May.calls ((rd_T58 l0 aA).f0) ((rd_T58 l0 aA).f1) ((rd_T58 l0 aA).f2) true _ A4.out).mono ?_
          rintro e w12 ⟨rfl, hb⟩; refine ⟨_, rfl, ?_⟩; replace HB := sB_ HB hb; (try clear hb); refine hK.out _ _ ⟨(hC_ HB aJ), (hC_ HB aI), (hC_ HB aH), (hC_ HB aY), (hC_ HB aX), (hC_ HB aW), (hC_ HB aV), (hC_ HB aU), (hC_ HB aT)⟩ (fun hHeld => ?_); clear hK K; refine norm_ (a' := ?_) ?_ ?_; rotate_left
          ·show Act.put _ (some 14) _ = _
           simp only [Act.put, sa_, sb_, sc_, i64_w, i32_w]; rfl
          refine up0_ 5 ?_; (iterate 10 refine pN_ ?_); refine pQ_ 16 HT_ ?_; refine pQ_ 17 HT_ ?_; refine pQ_ 18 HT_ ?_; refine pQ_ 19 HT_ ?_; refine tL_ 15 HT_ HW_ hHeld ?_; refine up0_ 20 ?_; (iterate 4 first | refine pN_ ?_ | refine tN_ ?_); refine dN_ HT_ ?_; (try go_wp2)
          go_ret
          exact ⟨by first | rfl | (simp [errW_none, errW_some] <;> rfl) | (simp only [← bM]; first | rfl | (simp [errW_none, errW_some] <;> rfl)) | (simp [*, errW_none, errW_some] <;> rfl), hB_ HB⟩
         ·rw [if_neg c10] at H; have cP : decide (((rd_T58 l0 aA).f0) ≤ ((rd_T58 l0 (ji7)).f0)) = false := decide_eq_false c10; clear c10; have H' := Zq_.mk H; clear H; (try go_wp2); replace HB := Zq_.mk (qe_ HB.out); have aR : 0 ≤ (aA : Int) := dA_; have aQ : aA < (l0.length : Int) := dA_; obtain ⟨bC, bJ, aD, aC, aB⟩ := at_T58 HR0.out aA aR aQ; have aH := aB; have aI := aC; have aJ := aD; cases bJ; replace aD := hC_ HB aD; replace aC := hC_ HB aC; replace aB := hC_ HB aB; replace aR := eq_true aR; replace aQ := eq_true aQ; have bI : 0 ≤ ((ji7) : Int) := dA_; have bG : (ji7) < (l0.length : Int) := dA_; obtain ⟨bP, cM, aP, aO, aN⟩ := at_T58 HR0.out (ji7) bI bG; have aW := aN; have aX := aO; have aY := aP; obtain rfl : bC = bP := (by injection cM); replace aP := hC_ HB aP; replace aO := hC_ HB aO; replace aN := hC_ HB aN; replace bI := eq_true bI; replace bG := eq_true bG; have bH : 0 ≤ (aA : Int) := dA_; have bF : aA < (l0.length : Int) := dA_; obtain ⟨bO, cL, aM, aL, aK⟩ := at_T58 HR0.out aA bH bF; have aT := aK; have aU := aL; have aV := aM; obtain rfl : bC = bO := (by injection cL); replace aM := hC_ HB aM; replace aL := hC_ HB aL; replace aK := hC_ HB aK; replace bH := eq_true bH; replace bF := eq_true bF; refine gS_ 24 (hA_ (hC_ HB aJ) (hA_ (hC_ HB aI) (hA_ (hC_ HB aH) (hA_ (hC_ HB aY) (hA_ (hC_ HB aX) (hA_ (hC_ HB aW) (hA_ (hC_ HB aV) (hA_ (hC_ HB aU) (hZ_ (hC_ HB aT)))))))))) (fun hHeld => ?_); refine qm_ ref04_Right.tab4 ref04_Right.bits4 (fun HT_ HW_ => ?_); generalize wr.drew = w13 at HB aD aC aB aP aO aN aM aL aK hHeld ⊢; refine up0_ 0 ?_; (iterate 4 first | refine pN_ ?_ | refine tN_ ?_); refine oN_ 4 14 24 31 HT_ (fun K hK => ?_); refine goes_ Try.func71 (by kernel_rfl) rfl #[.agg #[.int .i64 ((rd_T58 l0 aA).f0), .int .i64 ((rd_T58 l0 aA).f1), .string ((rd_T58 l0 aA).f2)]] (by rfl) rfl rfl aR_ ?_
          with_reducible refine (ref04_May.calls ((rd_T58 l0 aA).f0) ((rd_T58 l0 aA).f1) ((rd_T58 l0 aA).f2) true _ A4.out).mono ?_
          rintro e w14 ⟨rfl, hb⟩; refine ⟨_, rfl, ?_⟩; replace HB := sB_ HB hb; (try clear hb); refine hK.out _ _ ⟨(hC_ HB aJ), (hC_ HB aI), (hC_ HB aH), (hC_ HB aY), (hC_ HB aX), (hC_ HB aW), (hC_ HB aV), (hC_ HB aU), (hC_ HB aT)⟩ (fun hHeld => ?_); clear hK K; refine norm_ (a' := ?_) ?_ ?_; rotate_left
          ·show Act.put _ (some 14) _ = _
           simp only [Act.put, sa_, sb_, sc_, i64_w, i32_w]; rfl
          refine up0_ 5 ?_; (iterate 10 refine pN_ ?_); refine pQ_ 16 HT_ ?_; refine pQ_ 17 HT_ ?_; refine pQ_ 18 HT_ ?_; refine pQ_ 19 HT_ ?_; refine tL_ 15 HT_ HW_ hHeld ?_; refine up0_ 20 ?_; (iterate 4 first | refine pN_ ?_ | refine tN_ ?_); refine dN_ HT_ ?_; (try go_wp2)
          go_roundg k1
          case measure => have := HK1.out; omega
          case rel => exact ⟨(wrap64 (aA + 1)), eS_, H', ⟨by have := HK1.out; omega⟩, ⟨hB_ HB⟩⟩
        ·rw [if_neg c9] at H; exact absurd H (by simp)
       ·rw [if_neg c8] at H; exact absurd H (by simp)
      ·rw [if_neg c6] at H; have c6b0 : decide (0 < aA) = false := decide_eq_false c6; clear c6; have H' := Zq_.mk H; clear H; (try go_wp2); replace HB := Zq_.mk (qe_ HB.out); have aR : 0 ≤ (aA : Int) := dA_; have aQ : aA < (l0.length : Int) := dA_; obtain ⟨bC, bJ, aD, aC, aB⟩ := at_T58 HR0.out aA aR aQ; have aH := aB; have aI := aC; have aJ := aD; cases bJ; replace aD := hC_ HB aD; replace aC := hC_ HB aC; replace aB := hC_ HB aB; replace aR := eq_true aR; replace aQ := eq_true aQ; refine gS_ 24 (hA_ (hC_ HB aJ) (hA_ (hC_ HB aI) (hZ_ (hC_ HB aH)))) (fun hHeld => ?_); refine qm_ ref04_Right.tab4 ref04_Right.bits4 (fun HT_ HW_ => ?_); generalize wr.drew = w15 at HB aD aC aB hHeld ⊢; refine up0_ 0 ?_; (iterate 4 first | refine pN_ ?_ | refine tN_ ?_); refine oN_ 4 14 24 31 HT_ (fun K hK => ?_); refine goes_ Try.func71 (by kernel_rfl) rfl #[.agg #[.int .i64 ((rd_T58 l0 aA).f0), .int .i64 ((rd_T58 l0 aA).f1), .string ((rd_T58 l0 aA).f2)]] (by rfl) rfl rfl aR_ ?_
       with_reducible refine (ref04_May.calls ((rd_T58 l0 aA).f0) ((rd_T58 l0 aA).f1) ((rd_T58 l0 aA).f2) true _ A4.out).mono ?_
       rintro e w16 ⟨rfl, hb⟩; refine ⟨_, rfl, ?_⟩; replace HB := sB_ HB hb; (try clear hb); refine hK.out _ _ ⟨(hC_ HB aJ), (hC_ HB aI), (hC_ HB aH)⟩ (fun hHeld => ?_); clear hK K; refine norm_ (a' := ?_) ?_ ?_; rotate_left
       ·show Act.put _ (some 14) _ = _
        simp only [Act.put, sa_, sb_, sc_, i64_w, i32_w]; rfl
       refine up0_ 5 ?_; (iterate 19 first | refine vN_ ?_ | refine pN_ ?_); refine dN_ HT_ ?_; (try go_wp2)
       go_roundg k1
       case measure => have := HK1.out; omega
       case rel => exact ⟨(wrap64 (aA + 1)), eS_, H', ⟨by have := HK1.out; omega⟩, ⟨hB_ HB⟩⟩
     ·replace c5 := Bool.eq_false_iff.mpr c5; subst c5
      have H1 : (some false) = some r := by rw [if_neg (show ¬ (false = true) by decide)] at H; exact H
      clear H; have H := H1; clear H1; obtain rfl := Option.some.inj H; (try go_wp2); replace HB := Zq_.mk (qe_ HB.out); have aR : 0 ≤ (aA : Int) := dA_; have aQ : aA < (l0.length : Int) := dA_; obtain ⟨bC, bJ, aD, aC, aB⟩ := at_T58 HR0.out aA aR aQ; have aH := aB; have aI := aC; have aJ := aD; cases bJ; replace aD := hC_ HB aD; replace aC := hC_ HB aC; replace aB := hC_ HB aB; replace aR := eq_true aR; replace aQ := eq_true aQ; refine gS_ 24 (hA_ (hC_ HB aJ) (hA_ (hC_ HB aI) (hZ_ (hC_ HB aH)))) (fun hHeld => ?_); refine qm_ ref04_Right.tab4 ref04_Right.bits4 (fun HT_ HW_ => ?_); generalize wr.drew = w17 at HB aD aC aB hHeld ⊢; refine up0_ 0 ?_; (iterate 4 first | refine pN_ ?_ | refine tN_ ?_); refine oN_ 4 14 24 31 HT_ (fun K hK => ?_); refine goes_ Try.func71 (by kernel_rfl) rfl #[.agg #[.int .i64 ((rd_T58 l0 aA).f0), .int .i64 ((rd_T58 l0 aA).f1), .string ((rd_T58 l0 aA).f2)]] (by rfl) rfl rfl aR_ ?_
      with_reducible refine (ref04_May.calls ((rd_T58 l0 aA).f0) ((rd_T58 l0 aA).f1) ((rd_T58 l0 aA).f2) false _ A4.out).mono ?_
      rintro e w18 ⟨rfl, hb⟩; refine ⟨_, rfl, ?_⟩; replace HB := sB_ HB hb; (try clear hb); refine hK.out _ _ ⟨(hC_ HB aJ), (hC_ HB aI), (hC_ HB aH)⟩ (fun hHeld => ?_); clear hK K; refine norm_ (a' := ?_) ?_ ?_; rotate_left
      ·show Act.put _ (some 14) _ = _
       simp only [Act.put, sa_, sb_, sc_, i64_w, i32_w]; rfl
      refine up0_ 5 ?_; (iterate 19 first | refine vN_ ?_ | refine pN_ ?_); refine dN_ HT_ ?_; (try go_wp2)
      go_ret
      exact ⟨by exact eW_, hB_ HB⟩
    ·rw [if_neg c3] at H; exact absurd H (by simp)
   ·rw [if_neg c2] at H; have bN : decide (aA < (l0.length : Int)) = false := decide_eq_false c2; clear c2; obtain rfl := Option.some.inj H
    go_wp2
    go_ret
    exact ⟨by exact eW_, hB_ HB⟩
def ref05_Right.f (k : Nat) (aG : Int) (aF : Int) (aS : List (S58)) : Option (Bool) := if aG ≥ 1 then (if aG ≤ 1099511627776 then (if aF ≥ 0 then (if aF ≤ 1099511627776 then ((ref04_Right.f k aS).bind fun bE => (some bE)) else (some false)) else (some false)) else (some false)) else (some false)
theorem ref05_Right.mono : ∀ a0 a1 a2 k, LeO (ref05_Right.f k a0 a1 a2) (ref05_Right.f (k + 1) a0 a1 a2) := by
 intro a0 a1 a2 k
 unfold ref05_Right.f
 with_reducible repeat' first | exact ref04_Right.mono _ _ | exact LeO.refl _ | exact LeO.none _ | refine LeO.ite ?_ ?_ | refine LeO.bind ?_ (fun _ => ?_)
theorem ref05_Right.calls (k : Nat) (aG : Int) (aF : Int) (bL : Option Addr) (bK : Nat) (aS : List (S58)) (r : Bool) (w : World) (cJ : Kd.C k58 w bL aS.length aS) (cK : aS.length ≤ bK) (h : ref05_Right.f k aG aF aS = some r) :
  Calls Try.prog 35 #[.agg #[.int .i64 aG, .int .i64 aF, .slice bL aS.length bK]] w fun e w' => e = .returned (.bool r) ∧ Below w.heap.size w w' := by
 have hu35 := Try.underlying35; have cQ := Zq_.mk cJ; have cR := Zq_.mk cK; clear cJ cK; have HB := Zq_.mk (Below.refl w.heap.size w); have H : (if aG ≥ 1 then (if aG ≤ 1099511627776 then (if aF ≥ 0 then (if aF ≤ 1099511627776 then ((ref04_Right.f k aS).bind fun bE => (some bE)) else (some false)) else (some false)) else (some false)) else (some false)) = some r := h; clear h
 by_cases c2 : aG ≥ 1
 ·rw [if_pos c2] at H; have bN : decide (1 ≤ aG) = true := decide_eq_true c2; clear c2
  by_cases c3 : aG ≤ 1099511627776
  ·rw [if_pos c3] at H; have cI : decide (aG ≤ 1099511627776) = true := decide_eq_true c3; clear c3
   by_cases c4 : aF ≥ 0
   ·rw [if_pos c4] at H; have cO : decide (0 ≤ aF) = true := decide_eq_true c4; clear c4
    by_cases c5 : aF ≤ 1099511627776
    ·rw [if_pos c5] at H; have cN : decide (aF ≤ 1099511627776) = true := decide_eq_true c5; clear c5; replace H := ob_ H; obtain ⟨bE, A60, H⟩ := H; (try dsimp only at H); have A6 := Zq_.mk A60; clear A60; obtain rfl := Option.some.inj H
     go_enter Try.func35, Try.ntmps35
     go_wp2_with (first | ((with_reducible refine qb_ (N := 1) rfl ?_); refine bE_ 1 #[.int .i64 aG, .int .i64 aF, .slice bL aS.length bK] 35 ?_; intro aZ hg w7 hbox hb; have aE := Zq_.mk (hbox); have bA := gW_ (w := w) hg (hB_ HB); have bB := gW_ (w := w) hg (hB_ HB); replace HB := sB_ HB hb; clear hb hbox hg; obtain ⟨hcz8_0, hcz8_1, hcz8_2⟩ := c3_ aE; obtain ⟨hfz8_0, hfz8_1, hfz8_2⟩ := f3_ aE) | (go_at_call 56; (with_reducible refine (ref04_Right.calls k _ _ aS bE _ ?side1 ?side2 A6.out).mono ?_); (case side1 => exact cX_ (Kd.qf_ cQ.out HB.out)); (case side2 => exact cR.out); rintro e w9 ⟨rfl, hb⟩; replace aE := kB_ aE hb; replace HB := sB_ HB hb; (try clear hb)))
     go_ret
     exact ⟨by exact eW_, by exact hSet_ HB⟩
    ·rw [if_neg c5] at H; have cN : decide (aF ≤ 1099511627776) = false := decide_eq_false c5; clear c5; obtain rfl := Option.some.inj H
     go_enter Try.func35, Try.ntmps35
     go_wp2_with (first | ((with_reducible refine qb_ (N := 1) rfl ?_); refine bE_ 1 #[.int .i64 aG, .int .i64 aF, .slice bL aS.length bK] 35 ?_; intro aZ hg w10 hbox hb; have aE := Zq_.mk (hbox); have bA := gW_ (w := w) hg (hB_ HB); have bB := gW_ (w := w) hg (hB_ HB); replace HB := sB_ HB hb; clear hb hbox hg; obtain ⟨cH, cG, cF⟩ := c3_ aE; obtain ⟨bY, bX, bW⟩ := f3_ aE))
     go_ret
     exact ⟨by exact eW_, by exact hSet_ HB⟩
   ·rw [if_neg c4] at H; have cO : decide (0 ≤ aF) = false := decide_eq_false c4; clear c4; obtain rfl := Option.some.inj H
    go_enter Try.func35, Try.ntmps35
    go_wp2_with (first | ((with_reducible refine qb_ (N := 1) rfl ?_); refine bE_ 1 #[.int .i64 aG, .int .i64 aF, .slice bL aS.length bK] 35 ?_; intro aZ hg w12 hbox hb; have aE := Zq_.mk (hbox); have bA := gW_ (w := w) hg (hB_ HB); have bB := gW_ (w := w) hg (hB_ HB); replace HB := sB_ HB hb; clear hb hbox hg; obtain ⟨cE, cD, cC⟩ := c3_ aE; obtain ⟨bV, bU, bT⟩ := f3_ aE))
    go_ret
    exact ⟨by exact eW_, by exact hSet_ HB⟩
  ·rw [if_neg c3] at H; have cI : decide (aG ≤ 1099511627776) = false := decide_eq_false c3; clear c3; obtain rfl := Option.some.inj H
   go_enter Try.func35, Try.ntmps35
   go_wp2_with (first | ((with_reducible refine qb_ (N := 1) rfl ?_); refine bE_ 1 #[.int .i64 aG, .int .i64 aF, .slice bL aS.length bK] 35 ?_; intro aZ hg w14 hbox hb; have aE := Zq_.mk (hbox); have bA := gW_ (w := w) hg (hB_ HB); have bB := gW_ (w := w) hg (hB_ HB); replace HB := sB_ HB hb; clear hb hbox hg; obtain ⟨cB, cA, bZ⟩ := c3_ aE; obtain ⟨bS, bR, bQ⟩ := f3_ aE))
   go_ret
   exact ⟨by exact eW_, by exact hSet_ HB⟩
 ·rw [if_neg c2] at H; have bN : decide (1 ≤ aG) = false := decide_eq_false c2; clear c2; obtain rfl := Option.some.inj H
  go_enter Try.func35, Try.ntmps35
  go_wp2_with (first | ((with_reducible refine qb_ (N := 1) rfl ?_); refine bE_ 1 #[.int .i64 aG, .int .i64 aF, .slice bL aS.length bK] 35 ?_; intro aZ hg w16 hbox hb; have aE := Zq_.mk (hbox); have bA := gW_ (w := w) hg (hB_ HB); have bB := gW_ (w := w) hg (hB_ HB); replace HB := sB_ HB hb; clear hb hbox hg; obtain ⟨hcz17_0, hcz17_1, hcz17_2⟩ := c3_ aE; obtain ⟨hfz17_0, hfz17_1, hfz17_2⟩ := f3_ aE))
  go_ret
  exact ⟨by exact eW_, by exact hSet_ HB⟩
def ref05_Copy.f (aV : Int) (bD : Int) (aD : List (S58)) : Option (Int × Int × (List (S58))) := (some (([] : List (S58)) : List (S58))).bind fun bC => (if bC.length + aD.length < 4398046511104 then (some (aV, bD, (bC ++ aD))) else (none))
theorem ref05_Copy.calls (aV : Int) (bD : Int) (bZ : Option Addr) (bW : Nat) (aD : List (S58)) (r1 : Int) (r2 : Int) (r3 : List (S58)) (w : World) (cA : Kd.C k58 w bZ aD.length aD) (cB : aD.length ≤ bW) (h : ref05_Copy.f aV bD aD = some (r1, r2, r3)) :
  Calls Try.prog 41 #[.agg #[.int .i64 aV, .int .i64 bD, .slice bZ aD.length bW]] w fun e w' => ∃ v2_ : Value, e = .returned (.agg #[.int .i64 r1, .int .i64 r2, v2_]) ∧ Kd.R k58 58 w' w.heap.size (fun _ => True) v2_ r3 ∧ Below w.heap.size w w' := by
 have hu35 := Try.underlying35; have cS := Zq_.mk cA; have HC0_2 := Zq_.mk cB; clear cA cB; have HB := Zq_.mk (Below.refl w.heap.size w); have H : ((some (([] : List (S58)) : List (S58))).bind fun bC => (if bC.length + aD.length < 4398046511104 then (some (aV, bD, (bC ++ aD))) else (none))) = some (r1, r2, r3) := h; clear h; obtain ⟨bC, bU⟩ : ∃ y_ : List (S58), y_ = (([] : List (S58))) := ⟨_, rfl⟩
 replace H : (if bC.length + aD.length < 4398046511104 then (some (aV, bD, (bC ++ aD))) else (none)) = some (r1, r2, r3) := hY_ bU H
 have cD := Zq_.mk bU; clear bU
 by_cases c2 : bC.length + aD.length < 4398046511104
 ·rw [if_pos c2] at H; have LMc2 := Zq_.mk c2; clear c2; obtain ⟨cM, bT⟩ : ∃ y_ : List (S58), y_ = (bC ++ aD) := ⟨_, rfl⟩
  replace H : (some (aV, bD, cM)) = some (r1, r2, r3) := hY_ bT H
  have cR := Zq_.mk bT; clear bT; simp only [Option.some.injEq, Prod.mk.injEq] at H; obtain ⟨rfl, rfl, rfl⟩ := H
  go_enter Try.func41, Try.ntmps41
  go_wp2_with (first | ((with_reducible refine qb_ (N := 1) rfl ?_); refine bE_ 1 #[.int .i64 aV, .int .i64 bD, .slice bZ aD.length bW] 35 ?_; intro cN hg w3 hbox hb; have aC := Zq_.mk (hbox); have GW101 := gW_ (w := w) hg (hB_ HB); have GE101 := gW_ (w := w) hg (hB_ HB); replace HB := sB_ HB hb; clear hb hbox hg) | ((with_reducible refine qb_ (N := 2) rfl ?_); refine bE_ 2 #[.int .i64 0, .int .i64 0, .slice none 0 0] 35 ?_; intro cC hg w4 hbox hb; have aU := Zq_.mk (hbox); have GW102 := gW_ (w := w) hg (by exact hSet_ HB); have GE102 := gW_ (w := w) hg (by exact hSet_ HB); replace HB := sB_ HB hb; have bP := nL_ aC hg; have bF := nG_ aC hg; replace aC := kB_ aC hb; clear hb hbox hg) | ((with_reducible refine qb_ (N := 3) rfl ?_); refine Kd.R_lit k58 _ 58 ?hg (N := 3) ?hd (xs := ([] : List (S58))) (inner := []) (ok := fun _ => True) (okp := fun _ => True) ?hr ?hp (fun _ hk => hk) trivial (Below.refl _ _) (Nat.le_refl _) (by simp) ?_; (case hd => rfl); (case hg => rfl); (case hr => first | (go_simp; done) | (go_simp; rfl)); (case hp => exact (Reps.none _ _)); intro v104 w5 ho6 hb hg_ hnew_; clear hg_ hnew_; (first | rw [← cD.out] at ho6 | (simp only [Int.reduceToNat] at ho6; rw [← cD.out] at ho6)); have bM := Zq_.mk (Kd.qz_ ho6 (qa_ (by exact hSet_ HB))); replace aC := kB_ aC hb; replace aU := kB_ aU hb; replace HB := sB_ HB hb; clear hb ho6; have hnb7 := bP.out; have hnc7 := bF.out; obtain ⟨hcz8_0, hcz8_1, hcz8_2⟩ := c3_ aC; obtain ⟨hfz8_0, hfz8_1, hfz8_2⟩ := f3_ aC) | ((with_reducible refine qr_ (b := .append) (xs := #[.tmp 3, .tmp 5]) rfl ?_); at_builtin; refine Kd.R_append_rows k58 (w0 := w) w.heap.size rfl (.tmp 3) (.tmp 5) 33 58 (.agg #[(.int .i64 0), (.int .i64 0), (.string ⟨#[]⟩)]) 32 rfl Try.underlying33 info58 rfl (by decide) (by omega) v104 bC aD _ _ _ (fun _ => True) (fun _ => False) rfl rfl ?aO ?aR (fun _ _ h => h) (fun _ h => h.elim) ?aF ?aB ?aS ?aL ?_; (case aR => exact cX_ (Kd.qf_ cS.out HB.out)); (case aB => exact (by exact hSet_ HB)); (case aF => exact (fun _ _ => trivial)); (case aO => exact (vX_ bM)); (case aS => exact (qa_ (by exact hSet_ HB))); (case aL => have := LMc2.out; omega); intro v107 w9 ho hb hg hat; rw [← cR.out] at ho; replace aC := Zq_.mk (qs_ (g := cN) (o := .cells #[.int .i64 aV, .int .i64 bD, .slice bZ aD.length bW] 35 (0, 0)) (by exact bK_ aC) hg (Kd.R_ne bM.out aC.out (by decide))); replace aU := Zq_.mk (qs_ (g := cC) (o := .cells #[.int .i64 0, .int .i64 0, .slice none 0 0] 35 (0, 0)) (by exact bK_ aU) hg (Kd.R_ne bM.out aU.out (by decide))); replace HB := Zq_.mk (hb); have cE := Zq_.mk (ho); clear bM; clear ho hb hg hat; obtain ⟨Ao10, co10, eo10⟩ := Kd.ve_ cE.out; subst eo10; obtain ⟨hcz11_0, hcz11_1, hcz11_2⟩ := c3_ aC; obtain ⟨hfz11_0, hfz11_1, hfz11_2⟩ := f3_ aC; obtain ⟨hcz12_0, hcz12_1, hcz12_2⟩ := c3_ aU; obtain ⟨hfz12_0, hfz12_1, hfz12_2⟩ := f3_ aU))
  refine bodyPost_ret (results_cell_row rfl _ _ cC 35 #[.int .i64 aV, .int .i64 bD, .slice Ao10 cM.length co10] (0, 0) _ rfl (by refine bP_ (cs := #[.int .i64 aV, .int .i64 bD, .slice none 0 0]) 2 ?_; refine bP_ (cs := #[.int .i64 aV, .int .i64 0, .slice none 0 0]) 1 ?_; refine bP_ (cs := #[.int .i64 0, .int .i64 0, .slice none 0 0]) 0 ?_; refine bF_ bF ?_; exact bK_ aU) Try.underlying35 rfl (by kernel_rfl)) rfl ?_; exact ⟨_, by exact eW_, by (with_reducible repeat (first | apply Kd.qj_ | apply Kd.qi_ | apply Kd.R_drew)); exact Kd.R_mono (Kd.R_far (Kd.R_far (Kd.R_far (Kd.R_far (Kd.qy_ (Kd.qy_ cE.out aC.out (by decide)) aU.out (by decide)) (fun _ hk => hk.1.2) _) (fun _ hk => hk.2) _) (fun _ hk => hk.2) _) (fun _ hk => hk.2) _) (fun _ hk => trivial), by exact hSet_ HB⟩
 ·rw [if_neg c2] at H; exact absurd H (by simp)
def ref06_Copy.l0 : Nat → List (S39) → List (S39) → Int → Option ((List (S39)))
 | 0, _, _, _ => none
 | k + 1, x0, x3, x4 => if x4 < (x0.length : Int) then (if 0 ≤ x4 then ((ref05_Copy.f ((rd_T39 x0 x4).f1.f0) ((rd_T39 x0 x4).f1.f1) ((rd_T39 x0 x4).f1.f2)).bind fun bV => (if x3.length < 2932031007402 then (ref06_Copy.l0 k x0 (x3 ++ [(⟨(rd_T39 x0 x4).f0, (⟨bV.1, bV.2.1, bV.2.2⟩ : S35)⟩ : S39)]) (wrap64 (x4 + 1))) else (none))) else (none)) else (some x3)
def ref06_Copy.f (k : Nat) (l0 : List (S39)) : Option ((List (S39))) := ref06_Copy.l0 k l0 ([] : List (S39)) 0
theorem ref06_Copy.mono_l : ∀ k, (∀ y0 y1 y2, LeO (ref06_Copy.l0 k y0 y1 y2) (ref06_Copy.l0 (k + 1) y0 y1 y2))
 | 0 => fun _ _ _ r h => by simp [ref06_Copy.l0] at h
 | k + 1 => by
  have ih0 := ref06_Copy.mono_l k
  ·intro y0 y1 y2
   unfold ref06_Copy.l0
   with_reducible repeat' first | exact ih0 _ _ _ | exact LeO.refl _ | exact LeO.none _ | refine LeO.ite ?_ ?_ | refine LeO.bind ?_ (fun _ => ?_)
theorem ref06_Copy.mono : ∀ a0 k, LeO (ref06_Copy.f k a0) (ref06_Copy.f (k + 1) a0) := by
 intro a0 k; have ih0 := ref06_Copy.mono_l k
 unfold ref06_Copy.f
 with_reducible repeat' first | exact ih0 _ _ _ | exact LeO.refl _ | exact LeO.none _ | refine LeO.ite ?_ ?_ | refine LeO.bind ?_ (fun _ => ?_)
def ref06_Copy.T5 : Bool × List (List Nat × List Nat) := (true, [([], []), ([], []), ([], []), ([1, 2], [1, 2]), ([3], [3]), ([4], [4]), ([], []), ([], []), ([6, 7], [6, 7]), ([8], [8]), ([9], [9]), ([10], [10]), ([5, 11], [5, 11]), ([12], [12]), ([0, 13, 11], [0, 13]), ([14, 14, 0, 1, 2, 3, 4, 5, 6, 7, 8, 9, 10, 11, 12, 13, 14], [0, 14])])
def ref06_Copy.B5 : List Nat := [0, 0, 0, 6, 14, 30, 0, 0, 192, 448, 960, 1984, 4094, 8190, 16383, 32767]
theorem ref06_Copy.tab5 : rtab .any (opsOf Try.f27 5) = ref06_Copy.T5 := by kernel_rfl
theorem ref06_Copy.bits5 : waitsOk ref06_Copy.T5.2 ref06_Copy.B5 = true := by kernel_rfl
theorem ref06_Copy.calls (k : Nat) (A0 : Option Addr) (c0 : Nat) (l0 : List (S39)) (r : List (S39)) (w : World) (hr0 : Kd.C k39 w A0 l0.length l0) (hc0 : l0.length ≤ c0) (h : ref06_Copy.f k l0 = some r) :
  Calls Try.prog 27 #[.slice A0 l0.length c0] w fun e w' => ∃ v0_ : Value, e = .returned (v0_) ∧ Kd.S k39 39 w' w.heap.size (fun _ => True) v0_ r ∧ Below w.heap.size w w' := by
 have hu35 := Try.underlying35; have hu39 := Try.underlying39; have HR0 := Zq_.mk hr0; have HC0 := Zq_.mk hc0; clear hr0 hc0; have HB := Zq_.mk (Below.refl w.heap.size w); have H : (ref06_Copy.l0 k l0 ([] : List (S39)) 0) = some r := h; clear h; have H' := Zq_.mk H; clear H
 go_enter Try.func27, Try.ntmps27
 go_wp2
 go_loopg [3, 4] k (fun kq v3 v4 w' => ∃ (bN : List (S39)) (aA : Int), v4 = .int .i64 aA ∧ Zq_ (ref06_Copy.l0 kq l0 bN aA = some r) ∧ Zq_ (kq ≤ k) ∧ Zq_ (Kd.S k39 39 w' w.heap.size (fun _ => True) v3 bN) ∧ Zq_ (Below w.heap.size w w'))
 case atStart => exact ⟨(([] : List (S39))), (0), eS_, H', ⟨Nat.le_refl _⟩, ⟨by first | exact Kd.S_nil _ _ _ _ _ | exact Kd.N_nil _ _ _ _ _ | exact Kd.V_nil _ _ _ _ _ | exact Kd.Q_nil _ _ _ _ _ | exact Kd.R_nil _ _ _ _ _⟩, ⟨hB_ HB⟩⟩
 case round =>
  clear H'; obtain ⟨bN, aA, rfl, HA, HK1, bE, HB⟩ := hrel
  cases gk with
  | zero => exact absurd HA.out (by simp [ref06_Copy.l0])
  | succ k1 =>
   have H := HA.out; clear HA; simp only [ref06_Copy.l0] at H
   by_cases c2 : aA < (l0.length : Int)
   ·rw [if_pos c2] at H; have c2b0 : decide (aA < (l0.length : Int)) = true := decide_eq_true c2; clear c2
    by_cases c3 : 0 ≤ aA
    ·rw [if_pos c3] at H; have c3b0 : decide (0 ≤ aA) = true := decide_eq_true c3; clear c3; replace H := ob_ H; obtain ⟨⟨bR, bQ, bO⟩, A40, H⟩ := H; (try dsimp only at H); have A4 := Zq_.mk A40; clear A40
     by_cases c5 : bN.length < 2932031007402
     ·rw [if_pos c5] at H; have LMc5 := Zq_.mk c5; clear c5; obtain ⟨cL, bS⟩ : ∃ y_ : List (S39), y_ = (bN ++ [(⟨(rd_T39 l0 aA).f0, (⟨bR, bQ, bO⟩ : S35)⟩ : S39)]) := ⟨_, rfl⟩
      replace H : (ref06_Copy.l0 k1 l0 cL (wrap64 (aA + 1))) = some r := hY_ bS H
      have cQ := Zq_.mk bS; clear bS; have H' := Zq_.mk H; clear H; (try go_wp2); replace bE := Zq_.mk (Kd.S_drew bE.out); replace HB := Zq_.mk (qe_ HB.out); have cI : 0 ≤ (aA : Int) := dA_; have cG : aA < (l0.length : Int) := dA_; obtain ⟨cP, cK, cJ, e101, bB, bA, aZ, aG, bH, bJ⟩ := at_T39 HR0.out aA cI cG; have aM := aG; have aN := aZ; have aQ := bA; have aT := bB; cases e101; replace bB := hC_ HB bB; replace bA := hC_ HB bA; replace aZ := hC_ HB aZ; replace aG := hC_ HB aG; have bX := Zq_.mk bJ; have HC101_3 := Zq_.mk bH; clear bJ bH; replace cI := eq_true cI; replace cG := eq_true cG; have cH : 0 ≤ (aA : Int) := dA_; have cF : aA < (l0.length : Int) := dA_; obtain ⟨cO, A102_3, c102_3, e102, aY, aX, aW, aE, bG, bI⟩ := at_T39 HR0.out aA cH cF; have aH := aE; have aI := aW; have aJ := aX; have aK := aY; obtain rfl : cP = cO := (by injection e102); replace aY := hC_ HB aY; replace aX := hC_ HB aX; replace aW := hC_ HB aW; replace aE := hC_ HB aE; have bK := Zq_.mk bI; have bY := Zq_.mk bG; clear bI bG; replace cH := eq_true cH; replace cF := eq_true cF; have ea_ := Option.some.inj (aG.symm.trans aE)
      injection ea_ with ea_ en_ ec_
      subst ea_; subst ec_; clear en_; refine gS_ 16 (hA_ (hC_ HB aT) (hA_ (hC_ HB aQ) (hA_ (hC_ HB aN) (hA_ (hC_ HB aM) (hA_ (hC_ HB aK) (hA_ (hC_ HB aJ) (hA_ (hC_ HB aI) (hZ_ (hC_ HB aH))))))))) (fun hHeld => ?_); refine qm_ ref06_Copy.tab5 ref06_Copy.bits5 (fun HT_ HW_ => ?_); generalize wr.drew = w6 at bE HB bX bK bB bA aZ aG aY aX aW aE hHeld ⊢; refine up0_ 0 ?_; (iterate 5 refine pN_ ?_); refine pQ_ 6 HT_ ?_; refine pQ_ 7 HT_ ?_; refine pQ_ 8 HT_ ?_; refine pQ_ 9 HT_ ?_; refine tL_ 5 HT_ HW_ hHeld ?_; refine tL_ 10 HT_ HW_ hHeld ?_; refine oN_ 11 22 16 4095 HT_ (fun K hK => ?_); refine goes_ Try.func41 (by kernel_rfl) rfl #[.agg #[.int .i64 ((rd_T39 l0 aA).f1.f0), .int .i64 ((rd_T39 l0 aA).f1.f1), .slice cK ((rd_T39 l0 aA).f1.f2).length cJ]] (by rfl) rfl rfl aR_ ?_
      with_reducible refine (ref05_Copy.calls ((rd_T39 l0 aA).f1.f0) ((rd_T39 l0 aA).f1.f1) _ _ ((rd_T39 l0 aA).f1.f2) bR bQ bO _ ?side1 ?side2 A4.out).mono ?_
      (case side1 => exact cX_ (Kd.qf_ bK.out HB.out)); (case side2 => exact bY.out); rintro e w7 ⟨v106, rfl, ho0, hb⟩; refine ⟨_, rfl, ?_⟩; replace bE := Zq_.mk (Kd.S_elder' (vX_ bE) (Kd.R_base ho0) hb); have bL := Zq_.mk (Kd.qz_ ho0 (qa_ (hB_ HB))); replace HB := sB_ HB hb; (try clear hb); (try clear ho0); obtain ⟨Ao8, co8, eo8⟩ := Kd.ve_ bL.out; (first | subst eo8 | (injection eo8 with f1_ f2_ f3_; have f4_ := f1_.symm; have f5_ := f3_.symm; clear f1_ f2_ f3_; subst f4_; subst f5_)); refine hK.out _ _ ⟨(hC_ HB aT), (hC_ HB aQ), (hC_ HB aN), (hC_ HB aM), (hC_ HB aK), (hC_ HB aJ), (hC_ HB aI), (hC_ HB aH)⟩ (fun hHeld => ?_); clear hK K; refine norm_ (a' := ?_) ?_ ?_; rotate_left
      ·show Act.put _ (some 22) _ = _
       simp only [Act.put, sa_, sb_, sc_, i64_w, i32_w]; rfl
      refine pQ_ 12 HT_ ?_; refine oN_ 13 24 16 16383 HT_ (fun K hK => ?_); refine value_ (w1 := ?_) (v := ?_) (by rfl) rfl ?_ ?_; rotate_left 2
      ·go_simp
       constructor
       ·rfl
       ·rfl
      refine hK.out _ _ ⟨(World.cell?_alloc_lt _ _ _ (wb_ _ _ ((hC_ HB aT)))).trans ((hC_ HB aT)), (World.cell?_alloc_lt _ _ _ (wb_ _ _ ((hC_ HB aQ)))).trans ((hC_ HB aQ)), (World.cell?_alloc_lt _ _ _ (wb_ _ _ ((hC_ HB aN)))).trans ((hC_ HB aN)), (World.cell?_alloc_lt _ _ _ (wb_ _ _ ((hC_ HB aM)))).trans ((hC_ HB aM)), (World.cell?_alloc_lt _ _ _ (wb_ _ _ ((hC_ HB aK)))).trans ((hC_ HB aK)), (World.cell?_alloc_lt _ _ _ (wb_ _ _ ((hC_ HB aJ)))).trans ((hC_ HB aJ)), (World.cell?_alloc_lt _ _ _ (wb_ _ _ ((hC_ HB aI)))).trans ((hC_ HB aI)), (World.cell?_alloc_lt _ _ _ (wb_ _ _ ((hC_ HB aH)))).trans ((hC_ HB aH))⟩ (fun hHeld => ?_); clear hK K; refine norm_ (a' := ?_) ?_ ?_; rotate_left
      ·show Act.put _ (some 24) _ = _
       simp only [Act.put, sa_, sb_, sc_, i64_w, i32_w]; rfl
      refine oN_ 14 25 16 32767 HT_ (fun K hK => ?_); refine Kd.S_append_step k39 (w0 := w) w.heap.size (by rfl) (.tmp 11) (.tmp 24) 22 39 (.agg #[(.int .i64 0), (.int .i64 0), (.int .i64 0), (.slice none 0 0)]) 48 rfl Try.underlying22 info39 rfl (by decide) (by omega) u3 bN (⟨(rd_T39 l0 aA).f0, (⟨bR, bQ, bO⟩ : S35)⟩ : S39) [.int .i64 ((rd_T39 l0 aA).f0), .int .i64 bR, .int .i64 bQ, .slice Ao8 bO.length co8] (fun _ => True) (fun k_ => some k_ = (.slice Ao8 bO.length co8 : Value).ownBlock) rfl rfl ?aP (fun k_ hk_ => ((Kd.R_mono (ok' := fun k_ => ((fun _ => True)) k_ ∧ some k_ ≠ (u3 : Value).ownBlock) (Kd.R_apart' (bL.out) (Kd.S_typed bE.out) (by decide)) (fun k_ hk => ⟨trivial, hk.2⟩))).1 k_ hk_.symm) ?aF ?aO ?aB ?aS ?aL ?_; (case aP => exact k39_mkM _ _ _ (⟨(rd_T39 l0 aA).f0, (⟨bR, bQ, bO⟩ : S35)⟩ : S39) (Kd.R_mono (Kd.R_tight rfl (Kd.R_mono (ok' := fun k_ => ((fun _ => True)) k_ ∧ some k_ ≠ (u3 : Value).ownBlock) (Kd.R_apart' (bL.out) (Kd.S_typed bE.out) (by decide)) (fun k_ hk => ⟨trivial, hk.2⟩))) (fun _ h_ => h_))); (case aB => exact (hB_ HB)); (case aF => exact (fun _ _ => trivial)); (case aO => exact (by (with_reducible repeat (first | apply Kd.S_alloc | apply Kd.S_drewN | apply Kd.S_drew)); exact Kd.S_mono bE.out (fun k_ hk => ⟨trivial, fun e_ => hk.2 e_⟩))); (case aS => exact (qa_ (hB_ HB))); (case aL => have := LMc5.out; omega); intro v109 w9 ho hb hg hat; rw [← cQ.out] at ho; replace HB := Zq_.mk (hb); have cT := Zq_.mk (ho); clear bE bL; clear ho hb hg hat; refine hK.out _ _ ⟨(hC_ HB aT), (hC_ HB aQ), (hC_ HB aN), (hC_ HB aM), (hC_ HB aK), (hC_ HB aJ), (hC_ HB aI), (hC_ HB aH)⟩ (fun hHeld => ?_); clear hK K; refine norm_ (a' := ?_) ?_ ?_; rotate_left
      ·show Act.put _ (some 25) _ = _
       simp only [Act.put, sa_, sb_, sc_, i64_w, i32_w]; rfl
      refine pQ_ 15 HT_ ?_; refine dN_ HT_ ?_; (try go_wp2)
      go_roundg k1
      case measure => have := HK1.out; omega
      case rel => exact ⟨(cL), (wrap64 (aA + 1)), eS_, H', ⟨by have := HK1.out; omega⟩, ⟨by (with_reducible repeat (first | apply Kd.S_alloc | apply Kd.S_drewN | apply Kd.S_drew)); exact cT.out⟩, ⟨hB_ HB⟩⟩
     ·rw [if_neg c5] at H; exact absurd H (by simp)
    ·rw [if_neg c3] at H; exact absurd H (by simp)
   ·rw [if_neg c2] at H; have c2b0 : decide (aA < (l0.length : Int)) = false := decide_eq_false c2; clear c2; obtain rfl := Option.some.inj H
    go_wp2
    go_ret
    exact ⟨_, by exact eW_, by (with_reducible repeat (first | apply Kd.S_alloc | apply Kd.S_drewN | apply Kd.S_drew)); exact bE.out, hB_ HB⟩
def ref06_Ints.l0 : Nat → List Int → List Int → Int → Option (Bool)
 | 0, _, _, _ => none
 | k + 1, x0, x1, x5 => if x5 < (x0.length : Int) then (if 0 ≤ x5 then (if x5 < (x1.length : Int) then (if (rd x0 x5) = (rd x1 x5) then (ref06_Ints.l0 k x0 x1 (wrap64 (x5 + 1))) else (some false)) else (none)) else (none)) else (some true)
def ref06_Ints.f (k : Nat) (l0 : List Int) (l1 : List Int) : Option (Bool) := if (l0.length : Int) = (l1.length : Int) then (ref06_Ints.l0 k l0 l1 0) else (some false)
theorem ref06_Ints.mono_l : ∀ k, (∀ y0 y1 y2, LeO (ref06_Ints.l0 k y0 y1 y2) (ref06_Ints.l0 (k + 1) y0 y1 y2))
 | 0 => fun _ _ _ r h => by simp [ref06_Ints.l0] at h
 | k + 1 => by
  have ih0 := ref06_Ints.mono_l k
  ·intro y0 y1 y2
   unfold ref06_Ints.l0
   with_reducible repeat' first | exact ih0 _ _ _ | exact LeO.refl _ | exact LeO.none _ | refine LeO.ite ?_ ?_ | refine LeO.bind ?_ (fun _ => ?_)
theorem ref06_Ints.mono : ∀ a0 a1 k, LeO (ref06_Ints.f k a0 a1) (ref06_Ints.f (k + 1) a0 a1) := by
 intro a0 a1 k; have ih0 := ref06_Ints.mono_l k
 unfold ref06_Ints.f
 with_reducible repeat' first | exact ih0 _ _ _ | exact LeO.refl _ | exact LeO.none _ | refine LeO.ite ?_ ?_ | refine LeO.bind ?_ (fun _ => ?_)
theorem ref06_Ints.calls (k : Nat) (A0 : Option Addr) (c0 : Nat) (l0 : List Int) (A1 : Option Addr) (c1 : Nat) (l1 : List Int) (r : Bool) (w : World) (hr0 : Kd.C (Kd.int .i64) w A0 l0.length l0) (hc0 : l0.length ≤ c0) (hr1 : Kd.C (Kd.int .i64) w A1 l1.length l1) (hc1 : l1.length ≤ c1) (h : ref06_Ints.f k l0 l1 = some r) :
  Calls Try.prog 31 #[.slice A0 l0.length c0, .slice A1 l1.length c1] w fun e w' => e = .returned (.bool r) ∧ Drawn0 w w' := by
 have HR0 := Zq_.mk hr0; have HC0 := Zq_.mk hc0; clear hr0 hc0; have HR1 := Zq_.mk hr1; have HC1 := Zq_.mk hc1; clear hr1 hc1; have H : (if (l0.length : Int) = (l1.length : Int) then (ref06_Ints.l0 k l0 l1 0) else (some false)) = some r := h; clear h
 by_cases c3 : (l0.length : Int) = (l1.length : Int)
 ·rw [if_pos c3] at H; have aL : ((l0.length : Int) == (l1.length : Int)) = true := beq_iff_eq.mpr c3; have aK : ((l0.length : Int) != (l1.length : Int)) = false := bne_eq_false_iff_eq.mpr c3
  have aJ : (l0.length == l1.length) = true := by first | simpa using c3 | (simp at c3 ⊢; omega)
  clear c3; have H' := Zq_.mk H; clear H
  go_enter Try.func31, Try.ntmps31
  go_wp2
  repeat (go_quiet (fail); try go_wp2)
  go_loopg [5] k (fun kq v5 w' => ∃ (aA : Int), v5 = .int .i64 aA ∧ Zq_ (ref06_Ints.l0 kq l0 l1 aA = some r) ∧ Zq_ (kq ≤ k) ∧ Drawn0 w w')
  case atStart => exact ⟨(0), eS_, H', ⟨Nat.le_refl _⟩, by repeat (first | exact Drawn0.refl _ | apply Drawn0.step)⟩
  case round =>
   clear H'
   try clear c1
   try clear p2
   try clear c3
   try clear aL
   try clear aK
   try clear aJ
   obtain ⟨aA, rfl, HA, HK1, ⟨m1, rfl⟩⟩ := hrel
   cases gk with
   | zero => exact absurd HA.out (by simp [ref06_Ints.l0])
   | succ k1 =>
    have H := HA.out; clear HA; simp only [ref06_Ints.l0] at H
    by_cases c4 : aA < (l0.length : Int)
    ·rw [if_pos c4] at H; have c4b0 : decide (aA < (l0.length : Int)) = true := decide_eq_true c4; clear c4
     by_cases c5 : 0 ≤ aA
     ·rw [if_pos c5] at H; have c5b0 : decide (0 ≤ aA) = true := decide_eq_true c5; clear c5
      by_cases c6 : aA < (l1.length : Int)
      ·rw [if_pos c6] at H; have c6b0 : decide (aA < (l1.length : Int)) = true := decide_eq_true c6; clear c6
       by_cases c7 : (rd l0 aA) = (rd l1 aA)
       ·rw [if_pos c7] at H; have c7b0 : ((rd l0 aA) == (rd l1 aA)) = true := beq_iff_eq.mpr c7; have c7b1 : ((rd l0 aA) != (rd l1 aA)) = false := bne_eq_false_iff_eq.mpr c7; clear c7; have H' := Zq_.mk H; clear H; have aE : 0 ≤ (aA : Int) := dA_; have aC : aA < (l0.length : Int) := dA_; obtain ⟨aN, aI, aG⟩ := Kd.at_int HR0.out aA aE aC; cases aI; replace aE := eq_true aE; replace aC := eq_true aC; have aD : 0 ≤ (aA : Int) := dA_; have aB : aA < (l1.length : Int) := dA_; obtain ⟨aM, aH, aF⟩ := Kd.at_int HR1.out aA aD aB; cases aH; replace aD := eq_true aD; replace aB := eq_true aB
        go_wp2
        repeat (go_quiet (fail); try go_wp2)
        go_roundg k1
        case measure => have := HK1.out; omega
        case rel => exact ⟨(wrap64 (aA + 1)), eS_, H', ⟨by have := HK1.out; omega⟩, by repeat (first | exact Drawn0.refl _ | apply Drawn0.step)⟩
       ·rw [if_neg c7] at H; have c7b0 : ((rd l0 aA) == (rd l1 aA)) = false := beq_eq_false_iff_ne.mpr c7; have c7b1 : ((rd l0 aA) != (rd l1 aA)) = true := bne_iff_ne.mpr c7; obtain rfl := Option.some.inj H; have aE : 0 ≤ (aA : Int) := dA_; have aC : aA < (l0.length : Int) := dA_; obtain ⟨aN, aI, aG⟩ := Kd.at_int HR0.out aA aE aC; cases aI; replace aE := eq_true aE; replace aC := eq_true aC; have aD : 0 ≤ (aA : Int) := dA_; have aB : aA < (l1.length : Int) := dA_; obtain ⟨aM, aH, aF⟩ := Kd.at_int HR1.out aA aD aB; cases aH; replace aD := eq_true aD; replace aB := eq_true aB
        go_wp2
        repeat (go_quiet (fail); try go_wp2)
        go_ret
        exact ⟨by first | rfl | (simp; done) | (simp [*]; done), by repeat (first | exact Drawn0.refl _ | apply Drawn0.step)⟩
      ·rw [if_neg c6] at H; exact absurd H (by simp)
     ·rw [if_neg c5] at H; exact absurd H (by simp)
    ·rw [if_neg c4] at H; have c4b0 : decide (aA < (l0.length : Int)) = false := decide_eq_false c4; clear c4; obtain rfl := Option.some.inj H
     go_wp2
     repeat (go_quiet (fail); try go_wp2)
     go_ret
     exact ⟨by first | rfl | (simp; done) | (simp [*]; done), by repeat (first | exact Drawn0.refl _ | apply Drawn0.step)⟩
 ·rw [if_neg c3] at H; have aL : ((l0.length : Int) == (l1.length : Int)) = false := beq_eq_false_iff_ne.mpr c3; have aK : ((l0.length : Int) != (l1.length : Int)) = true := bne_iff_ne.mpr c3
  have aJ : (l0.length == l1.length) = false := by first | simpa using c3 | (simp at c3 ⊢; omega)
  obtain rfl := Option.some.inj H
  go_enter Try.func31, Try.ntmps31
  go_wp2
  repeat (go_quiet (fail); try go_wp2)
  go_ret
  exact ⟨by first | rfl | (simp; done) | (simp [*]; done), by repeat (first | exact Drawn0.refl _ | apply Drawn0.step)⟩
open Go.Proofs.YtgipbmjkgciccaaW.Hw in
theorem ContainsFuncE.calls (p : S58 → Bool) (g : Nat) (lb : Array Value) (eg : ∀ args w, (callFunc g args).run Try.prog w = .ok (.enter g args) w) (A0 : Option Addr) (c0 : Nat) (l0 : List S58) (w : World)
  (hp : PredK Try.prog k58 g lb aggOf p w) (hr0 : Kd.C k58 w A0 l0.length l0) :
  Calls Try.prog 64 #[.slice A0 l0.length c0, .func (.func g) #[] lb] w fun e w' => e = .returned (.bool (l0.any p)) ∧ Below w.heap.size w w' := by
 have hcall := IndexFuncE.calls p g lb eg A0 c0 l0 w hp hr0; rw [← idxI_any]; generalize idxI p l0 = r at hcall ⊢; clear hp hr0
 go_enter Try.func64, Try.ntmps64
 go_wp2_with fail
 refine hcall.mono ?_; rintro e w1 ⟨rfl, hb1⟩
 go_wp2_with fail
 go_ret
 exact ⟨rfl, hb1⟩
end Go.Proofs.Ytgipbmjkgciccaa.P

/- What this function of the program comes to, and that the machine's call does it. No condition. -/
import Derived.Test.YtgipbmjkgciccaaP0
import Derived.Test.YtgipbmjkgciccaaHw
namespace Go.Proofs.Ytgipbmjkgciccaa.P
set_option maxHeartbeats 8000000
set_option maxRecDepth 100000
open Go.RowKit Go.Proofs.YtgipbmjkgciccaaW.PrintWords Go.Proofs.YtgipbmjkgciccaaW.PrintLast Go.Proofs.YtgipbmjkgciccaaW.PrintMore
attribute [local go_sem] qz_ qx_ vf_ ve_ qr_ qq_ qy_ qw_ Go.Proofs.YtgipbmjkgciccaaW.Hw.string_gtr
set_option linter.unusedVariables false
set_option linter.unusedSimpArgs false
def api_Entry_61.f (l0 : List S58) : Option (List S58) := if l0.length < 4398046511104 then some l0 else none
open Go.Proofs.YtgipbmjkgciccaaW.Hw in
theorem api_Entry_61.calls (A0 : Option Addr) (c0 : Nat) (l0 : List S58) (r : List S58) (w : World) (hr0 : Kd.C k58 w A0 l0.length l0) (hc0 : l0.length ≤ c0) (h : api_Entry_61.f l0 = some r) :
  Calls Try.prog 61 #[.slice A0 l0.length c0] w fun e w' => ∃ v0_ : Value, e = .returned v0_ ∧ Kd.R k58 58 w' w.heap.size (fun _ => True) v0_ r ∧ Below w.heap.size w w' := by
 unfold api_Entry_61.f at h
 by_cases hl : l0.length < 4398046511104
 case neg => rw [if_neg hl] at h; cases h
 rw [if_pos hl] at h; obtain rfl := Option.some.inj h; clear h; have LM := Zq_.mk hl; clear hl
 have hnil : ∀ (W : World) (a : Option Addr) (n c n' c' : Nat), (binOp .eql 33 (.slice a n c) (.slice none n' c')).run Try.prog W = .ok (.bool a.isNone) W := fun W a n c n' c' => Lib.run_eql_slice_nil W _ _ a n c n' c' Try.underlying33
 have HB := Zq_.mk (Below.refl w.heap.size w)
 cases A0 with
 | none =>
  have e0 : l0 = [] := by
   rcases Nat.eq_zero_or_pos l0.length with e | e
   ·exact List.eq_nil_of_length_eq_zero e
   ·obtain ⟨ad, e1, _⟩ := hr0.2.2 e; cases e1
  subst e0; clear hr0 hc0 LM
  go_enter Try.func61, Try.ntmps61
  go_wp2
  go_ret
  exact ⟨_, rfl, Kd.R_nil _ _ _ _ _, Below.refl _ _⟩
 | some ad =>
  have HR := Zq_.mk hr0; have HC := Zq_.mk hc0; clear hr0 hc0
  go_enter Try.func61, Try.ntmps61
  go_wp2_with (first
   | ((with_reducible refine qe_ (N := 5) rfl ?_); refine Kd.R_lit k58 _ 58 ?hg (N := 5) ?hd (xs := ([] : List S58)) (inner := []) (ok := fun _ => True) (okp := fun _ => True) ?hr ?hp (fun _ hk => hk) trivial (Below.refl _ _) (Nat.le_refl _) (by simp) ?_; (case hd => rfl); (case hg => rfl); (case hr => first | (go_simp; done) | (go_simp; rfl)); (case hp => exact (Reps.none _ _)); intro v5 w5 ho hb hg_ hnew_; clear hg_ hnew_; have HO := Zq_.mk (Kd.vd_ ho (qb_ (hB_ HB))); replace HB := Zq_.mk (qa_ (hB_ HB) hb); clear hb ho)
   | ((with_reducible refine qs_ (b := .append) (xs := #[.tmp 5, .tmp 6]) rfl ?_); at_builtin; refine Kd.R_append_rows k58 (w0 := w) w.heap.size rfl (.tmp 5) (.tmp 6) 33 58 (.agg #[(.int .i64 0), (.int .i64 0), (.string ⟨#[]⟩)]) 32 rfl Try.underlying33 info58 rfl (by decide) (by omega) v5 ([] : List S58) l0 _ _ _ (fun _ => True) (fun _ => False) rfl rfl ?aO ?aR (fun _ _ h => h) (fun _ h => h.elim) ?aF ?aB ?aS ?aL ?_; (case aR => exact cX_ (Kd.qk_ HR.out HB.out)); (case aB => exact (hB_ HB)); (case aF => exact (fun _ _ => trivial)); (case aO => exact (vX_ HO)); (case aS => exact (qb_ (hB_ HB))); (case aL => have := LM.out; simp only [List.length_nil]; omega); intro v7 w9 ho hb hg hat; rw [List.nil_append] at ho; replace HB := Zq_.mk hb; replace HO := Zq_.mk ho; clear ho hb hg hat))
  go_ret
  exact ⟨_, rfl, by (with_reducible repeat (first | apply Kd.qu_ | apply Kd.qt_ | apply Kd.R_drew)); exact HO.out, (hB_ HB)⟩
open Go.Proofs.YtgipbmjkgciccaaW.Hw in
theorem IndexFuncE.calls (p : S58 → Bool) (g : Nat) (lb : Array Value) (eg : ∀ args w, (callFunc g args).run Try.prog w = .ok (.enter g args) w) (A0 : Option Addr) (c0 : Nat) (l0 : List S58) (w : World)
  (hp : PredK Try.prog k58 g lb aggOf p w) (hr0 : Kd.C k58 w A0 l0.length l0) :
  Calls Try.prog 77 #[.slice A0 l0.length c0, .func (.func g) #[] lb] w fun e w' => e = .returned (.int .i64 (idxI p l0)) ∧ Below w.heap.size w w' := by
 have hu_ := Try.underlying58; have HR := Zq_.mk hr0; have HP := Zq_.mk hp; have HM := Zq_.mk (Kd.C_max hr0); clear hr0 hp; have HB := Zq_.mk (Below.refl w.heap.size w)
 go_enter Try.func77, Try.ntmps77
 go_wp2
 go_loopg [5, 8] l0.length (fun gg _ s8 wr => ∃ i : Int, s8 = .int .i64 i ∧ Zq_ (0 ≤ i ∧ i ≤ (l0.length : Int) ∧ l0.length - i.toNat ≤ gg) ∧ Zq_ (Below w.heap.size w wr) ∧ Zq_ (∀ j, j < i.toNat → p (l0.getD j z58) = false))
 case atStart => exact ⟨0, rfl, ⟨by omega⟩, HB, ⟨fun j hj => absurd hj (Nat.not_lt_zero _)⟩⟩
 case round =>
  obtain ⟨i, rfl, HI, BW, A⟩ := hrel
  by_cases hlt : i < (l0.length : Int)
  ·have hltb : decide (i < (l0.length : Int)) = true := decide_eq_true hlt; have p1 := HI.out.1; obtain ⟨ad, e_, hx_0, hx_1, hx_2⟩ := at_T58 HR.out i p1 hlt; cases e_; replace hx_0 := (BW.out.cell (wb_ w _ hx_0)).trans hx_0; replace hx_1 := (BW.out.cell (wb_ w _ hx_1)).trans hx_1; replace hx_2 := (BW.out.cell (wb_ w _ hx_2)).trans hx_2; have hcall : Calls Try.prog g (#[.agg #[.int .i64 (rd_T58 l0 i).f0, .int .i64 (rd_T58 l0 i).f1, .string (rd_T58 l0 i).f2]] ++ lb) wr (fun e w1 => e = .returned (.bool (p (rd_T58 l0 i))) ∧ Below wr.heap.size wr w1) := HP.out wr (rd_T58 l0 i) [.int .i64 (rd_T58 l0 i).f0, .int .i64 (rd_T58 l0 i).f1, .string (rd_T58 l0 i).f2] BW.out (k58_mk wr (rd_T58 l0 i)); have HL := Zq_.mk hlt; replace p1 := eq_true p1; replace hlt := eq_true hlt; have hwr := Zq_.mk (show wrap64 (i + 1) = i + 1 by have := HI.out; have := HM.out; have := HL.out; unfold wrap64; omega)
   cases hq : p (rd_T58 l0 i) with
   | true =>
    rw [hq] at hcall; have HQ := Zq_.mk hq; clear hq
    go_wp2_with fail
    refine hcall.mono ?_; rintro e w1 ⟨rfl, hb1⟩
    go_wp2_with fail
    go_ret
    refine ⟨?_, (by have hb2 := qa_ BW.out hb1; exact hb2)⟩; have h1 := HI.out; have h2 := HL.out; rw [idxI_hit p l0 z58 i.toNat (by omega) HQ.out A.out, Int.toNat_of_nonneg h1.1]; rfl
   | false =>
    rw [hq] at hcall; have HQ := Zq_.mk hq; clear hq
    go_wp2_with fail
    refine hcall.mono ?_; rintro e w1 ⟨rfl, hb1⟩
    go_wp2_with fail
    go_roundg (l0.length - (i.toNat + 1))
    case measure => have h1 := HI.out; have h2 := HL.out; omega
    case rel => exact ⟨wrap64 (i + 1), eS_, ⟨by rw [hwr.out]; have h1 := HI.out; have h2 := HL.out; omega⟩, ⟨qa_ BW.out hb1⟩, ⟨fun j hj => by
     rw [hwr.out] at hj; have h1 := HI.out
     by_cases e : j = i.toNat
     ·subst e; exact HQ.out
     ·exact A.out j (by omega)⟩⟩
  ·have hltb : decide (i < (l0.length : Int)) = false := decide_eq_false hlt; have HL := Zq_.mk hlt; clear hlt
   go_wp2
   go_ret
   refine ⟨?_, BW.out⟩; have h1 := HI.out; have h2 := HL.out; rw [idxI_miss p l0 z58 (fun j hj => A.out j (by omega))]; rfl
open Go.Proofs.YtgipbmjkgciccaaW.Hw in
theorem IndexFuncN.calls (p : S39 → Bool) (g : Nat) (lb : Array Value) (eg : ∀ args w, (callFunc g args).run Try.prog w = .ok (.enter g args) w) (A0 : Option Addr) (c0 : Nat) (l0 : List S39) (w : World)
  (hp : PredK Try.prog k39 g lb aggOf p w) (hr0 : Kd.C k39 w A0 l0.length l0) :
  Calls Try.prog 72 #[.slice A0 l0.length c0, .func (.func g) #[] lb] w fun e w' => e = .returned (.int .i64 (idxI p l0)) ∧ Below w.heap.size w w' := by
 have hu_ := Try.underlying39; have HR := Zq_.mk hr0; have HP := Zq_.mk hp; have HM := Zq_.mk (Kd.C_max hr0); clear hr0 hp; have HB := Zq_.mk (Below.refl w.heap.size w)
 go_enter Try.func72, Try.ntmps72
 go_wp2
 go_loopg [5, 8] l0.length (fun gg _ s8 wr => ∃ i : Int, s8 = .int .i64 i ∧ Zq_ (0 ≤ i ∧ i ≤ (l0.length : Int) ∧ l0.length - i.toNat ≤ gg) ∧ Zq_ (Below w.heap.size w wr) ∧ Zq_ (∀ j, j < i.toNat → p (l0.getD j z39) = false))
 case atStart => exact ⟨0, rfl, ⟨by omega⟩, HB, ⟨fun j hj => absurd hj (Nat.not_lt_zero _)⟩⟩
 case round =>
  obtain ⟨i, rfl, HI, BW, A⟩ := hrel
  by_cases hlt : i < (l0.length : Int)
  ·have hltb : decide (i < (l0.length : Int)) = true := decide_eq_true hlt; have p1 := HI.out.1; obtain ⟨ad, A3_, c3_, e_, hx_0, hx_1, hx_2, hx_3, l3_, g3_⟩ := at_T39 HR.out i p1 hlt; cases e_; replace hx_0 := (BW.out.cell (wb_ w _ hx_0)).trans hx_0; replace hx_1 := (BW.out.cell (wb_ w _ hx_1)).trans hx_1; replace hx_2 := (BW.out.cell (wb_ w _ hx_2)).trans hx_2; replace hx_3 := (BW.out.cell (wb_ w _ hx_3)).trans hx_3; have hcall : Calls Try.prog g (#[.agg #[.int .i64 (rd_T39 l0 i).f0, .int .i64 (rd_T39 l0 i).f1.f0, .int .i64 (rd_T39 l0 i).f1.f1, .slice A3_ (rd_T39 l0 i).f1.f2.length c3_]] ++ lb) wr (fun e w1 => e = .returned (.bool (p (rd_T39 l0 i))) ∧ Below wr.heap.size wr w1) := HP.out wr (rd_T39 l0 i) [.int .i64 (rd_T39 l0 i).f0, .int .i64 (rd_T39 l0 i).f1.f0, .int .i64 (rd_T39 l0 i).f1.f1, .slice A3_ (rd_T39 l0 i).f1.f2.length c3_] BW.out (k39_mk wr (rd_T39 l0 i) l3_ (Kd.qk_ g3_ BW.out)); have HL := Zq_.mk hlt; replace p1 := eq_true p1; replace hlt := eq_true hlt; have hwr := Zq_.mk (show wrap64 (i + 1) = i + 1 by have := HI.out; have := HM.out; have := HL.out; unfold wrap64; omega)
   cases hq : p (rd_T39 l0 i) with
   | true =>
    rw [hq] at hcall; have HQ := Zq_.mk hq; clear hq
    go_wp2_with fail
    refine hcall.mono ?_; rintro e w1 ⟨rfl, hb1⟩
    go_wp2_with fail
    go_ret
    refine ⟨?_, (by have hb2 := qa_ BW.out hb1; exact hb2)⟩; have h1 := HI.out; have h2 := HL.out; rw [idxI_hit p l0 z39 i.toNat (by omega) HQ.out A.out, Int.toNat_of_nonneg h1.1]; rfl
   | false =>
    rw [hq] at hcall; have HQ := Zq_.mk hq; clear hq
    go_wp2_with fail
    refine hcall.mono ?_; rintro e w1 ⟨rfl, hb1⟩
    go_wp2_with fail
    go_roundg (l0.length - (i.toNat + 1))
    case measure => have h1 := HI.out; have h2 := HL.out; omega
    case rel => exact ⟨wrap64 (i + 1), eS_, ⟨by rw [hwr.out]; have h1 := HI.out; have h2 := HL.out; omega⟩, ⟨qa_ BW.out hb1⟩, ⟨fun j hj => by
     rw [hwr.out] at hj; have h1 := HI.out
     by_cases e : j = i.toNat
     ·subst e; exact HQ.out
     ·exact A.out j (by omega)⟩⟩
  ·have hltb : decide (i < (l0.length : Int)) = false := decide_eq_false hlt; have HL := Zq_.mk hlt; clear hlt
   go_wp2
   go_ret
   refine ⟨?_, BW.out⟩; have h1 := HI.out; have h2 := HL.out; rw [idxI_miss p l0 z39 (fun j hj => A.out j (by omega))]; rfl
open Go.Proofs.YtgipbmjkgciccaaW.Hw in
theorem GrowN.calls (n : Nat) (hn : n < 1099511627776) (w : World) : Calls Try.prog 84 #[.slice none 0 0, .int .i64 (n : Int)] w fun e w' => ∃ v0_ : Value, e = .returned v0_ ∧ Kd.R k39 39 w' w.heap.size (fun _ => True) v0_ ([] : List S39) ∧ Below w.heap.size w w' := by
 have hneg : decide ((n : Int) < 0) = false := decide_eq_false (by omega)
 rcases Nat.eq_zero_or_pos n with rfl | hp
 ·clear hn hneg
  go_enter Try.func84, Try.ntmps84
  go_wp2
  go_ret
  exact ⟨_, rfl, Kd.R_nil _ _ _ _ _, Below.refl _ _⟩
 ·have hw1 : wrap64 ((n : Int) - 0) = (n : Int) := by unfold wrap64; omega
  have hw2 : IntKind.i64.wrap ((n : Int)) = (n : Int) := by rw [IntKind.wrap_i64]; omega
  have hpos : decide ((0 : Int) < (n : Int)) = true := decide_eq_true (by omega); have hpn := decide_eq_true hp; obtain ⟨v1, w1, hrun, hR1, hg1, _⟩ := Kd.R_zeros_run (P := Try.prog) k39 w.heap.size 22 3 22 39 (.agg #[.int .i64 0, .int .i64 0, .int .i64 0, .slice none 0 0]) 48 Try.underlying22 Try.underlying3 info39 rfl (by decide) (by omega) (.slice none 0 0) ([] : List S39) z39 (ok := fun _ => True) (k39_mkM w _ _ z39 (Kd.R_nil _ _ w _ _)) (fun _ _ => trivial) (Kd.R_nil _ _ w _ _) .i64 (n : Int) (by omega) (by simp; omega) (Nat.le_refl _)
  have hlen : 0 < (([] : List S39) ++ List.replicate (n : Int).toNat z39).length := by simp; omega
  obtain ⟨g1, c1, rfl, hb1, hlt1, _⟩ := Kd.R_form hR1 hlen; have HR := Zq_.mk (Kd.R_take (m := 0) hR1 (Nat.zero_le _)); have HB := Zq_.mk ((Below.refl w.heap.size w).grown hg1 (Nat.le_refl _) (fun k hk => by simp [Value.ownBlock] at hk)); clear hlen hR1 hg1 hb1 hlt1 hp hn
  go_enter Try.func84, Try.ntmps84
  go_wp2_with (at_builtin; refine wpList_append_run _ rfl _ _ 22 3 rfl _ _ rfl rfl hrun ?_)
  go_ret
  exact ⟨_, rfl, by simpa using HR.out, HB.out⟩
theorem eqA58 (d : Nat) (w : World) (x0 y0 : Int) (x1 y1 : Int) (x2 y2 : ByteArray) :
  (Op.equalIn (d + 2) 58 (.agg #[.int .i64 x0, .int .i64 x1, .string x2]) (.agg #[.int .i64 y0, .int .i64 y1, .string y2])).run Try.prog w = .ok (x0 == y0 && (x1 == y1 && (x2.toList == y2.toList))) w := by
 refine eqA_of Try.underlying58 (by kernel_rfl) ?_; refine eqf_cons (by rfl) (by go_simp; rfl) (by go_simp; rfl) (by go_simp) ?_; refine eqf_cons (by rfl) (by go_simp; rfl) (by go_simp; rfl) (by go_simp) ?_; exact eqf_last (by rfl) (by go_simp; rfl) (by go_simp; rfl) (by go_simp)
def ref04_above.f (aH : Int) (aB : Int) (aG : ByteArray) (aL : Int) (aF : Int) (aK : ByteArray) : Option (Bool) := if aB > aF then (some true) else (if aB = aF then (some (Op.bytesLess aK.toList aG.toList)) else (some false))
theorem ref04_above.calls (aH : Int) (aB : Int) (aG : ByteArray) (aL : Int) (aF : Int) (aK : ByteArray) (r : Bool) (w : World) (h : ref04_above.f aH aB aG aL aF aK = some r) :
  Calls Try.prog 80 #[.agg #[.int .i64 aH, .int .i64 aB, .string aG], .agg #[.int .i64 aL, .int .i64 aF, .string aK]] w fun e w' => e = .returned (.bool r) ∧ Below w.heap.size w w' := by
 have hu58 := Try.underlying58; have HB := Zq_.mk (Below.refl w.heap.size w); have H : (if aB > aF then (some true) else (if aB = aF then (some (Op.bytesLess aK.toList aG.toList)) else (some false))) = some r := h; clear h
 by_cases c3 : aB > aF
 ·rw [if_pos c3] at H; have c3b0 : decide (aF < aB) = true := decide_eq_true c3; clear c3; obtain rfl := Option.some.inj H
  go_enter Try.func80, Try.ntmps80
  go_wp2_with (first | ((with_reducible refine qe_ (N := 2) rfl ?_); refine bE_ 2 #[.int .i64 aH, .int .i64 aB, .string aG] 58 ?_; intro aC hg w4 hbox hb; have aA := Zq_.mk (hbox); have aN := gW_ (w := w) hg (hB_ HB); have aP := gW_ (w := w) hg (hB_ HB); replace HB := Zq_.mk (qa_ (hB_ HB) hb); clear hb hbox hg) | ((with_reducible refine qe_ (N := 3) rfl ?_); refine bE_ 3 #[.int .i64 aL, .int .i64 aF, .string aK] 58 ?_; intro aI hg w5 hbox hb; have aJ := Zq_.mk (hbox); have aM := gW_ (w := w) hg (by exact hSet_ HB); have aO := gW_ (w := w) hg (by exact hSet_ HB); replace HB := Zq_.mk (qa_ (by exact hSet_ HB) hb); have aE := Zq_.mk ((by rw [hg]; exact Nat.ne_of_lt (blk_lt (g := aC) (o := .cells #[.int .i64 aH, .int .i64 aB, .string aG] 58 (0, 0)) (by exact bK_ aA)) : aC ≠ aI)); have aD := Zq_.mk ((by rw [hg]; exact Nat.ne_of_gt (blk_lt (g := aC) (o := .cells #[.int .i64 aH, .int .i64 aB, .string aG] 58 (0, 0)) (by exact bK_ aA)) : aI ≠ aC)); replace aA := Zq_.mk (qd_ (g := aC) (o := .cells #[.int .i64 aH, .int .i64 aB, .string aG] 58 (0, 0)) (by exact bK_ aA) hb); clear hb hbox hg; have hnb6 := aE.out; have hnc6 := aD.out; obtain ⟨hcz7_0, hcz7_1, hcz7_2⟩ := c3_ aA; obtain ⟨hfz7_0, hfz7_1, hfz7_2⟩ := f3_ aA; obtain ⟨hcz8_0, hcz8_1, hcz8_2⟩ := c3_ aJ; obtain ⟨hfz8_0, hfz8_1, hfz8_2⟩ := f3_ aJ))
  go_ret
  exact ⟨by exact eW_, by exact hSet_ HB⟩
 ·rw [if_neg c3] at H; have c3b0 : decide (aF < aB) = false := decide_eq_false c3; clear c3
  by_cases c9 : aB = aF
  ·rw [if_pos c9] at H; have c9b0 : (aB == aF) = true := beq_iff_eq.mpr c9; have c9b1 : (aB != aF) = false := bne_eq_false_iff_eq.mpr c9; clear c9; obtain rfl := Option.some.inj H
   go_enter Try.func80, Try.ntmps80
   go_wp2_with (first | ((with_reducible refine qe_ (N := 2) rfl ?_); refine bE_ 2 #[.int .i64 aH, .int .i64 aB, .string aG] 58 ?_; intro aC hg w10 hbox hb; have aA := Zq_.mk (hbox); have aN := gW_ (w := w) hg (hB_ HB); have aP := gW_ (w := w) hg (hB_ HB); replace HB := Zq_.mk (qa_ (hB_ HB) hb); clear hb hbox hg) | ((with_reducible refine qe_ (N := 3) rfl ?_); refine bE_ 3 #[.int .i64 aL, .int .i64 aF, .string aK] 58 ?_; intro aI hg w11 hbox hb; have aJ := Zq_.mk (hbox); have aM := gW_ (w := w) hg (by exact hSet_ HB); have aO := gW_ (w := w) hg (by exact hSet_ HB); replace HB := Zq_.mk (qa_ (by exact hSet_ HB) hb); have aE := Zq_.mk ((by rw [hg]; exact Nat.ne_of_lt (blk_lt (g := aC) (o := .cells #[.int .i64 aH, .int .i64 aB, .string aG] 58 (0, 0)) (by exact bK_ aA)) : aC ≠ aI)); have aD := Zq_.mk ((by rw [hg]; exact Nat.ne_of_gt (blk_lt (g := aC) (o := .cells #[.int .i64 aH, .int .i64 aB, .string aG] 58 (0, 0)) (by exact bK_ aA)) : aI ≠ aC)); replace aA := Zq_.mk (qd_ (g := aC) (o := .cells #[.int .i64 aH, .int .i64 aB, .string aG] 58 (0, 0)) (by exact bK_ aA) hb); clear hb hbox hg; have hnb12 := aE.out; have hnc12 := aD.out; obtain ⟨hcz13_0, hcz13_1, hcz13_2⟩ := c3_ aA; obtain ⟨hfz13_0, hfz13_1, hfz13_2⟩ := f3_ aA; obtain ⟨hcz14_0, hcz14_1, hcz14_2⟩ := c3_ aJ; obtain ⟨hfz14_0, hfz14_1, hfz14_2⟩ := f3_ aJ))
   go_ret
   exact ⟨by exact eW_, by exact hSet_ HB⟩
  ·rw [if_neg c9] at H; have c9b0 : (aB == aF) = false := beq_eq_false_iff_ne.mpr c9; have c9b1 : (aB != aF) = true := bne_iff_ne.mpr c9; obtain rfl := Option.some.inj H
   go_enter Try.func80, Try.ntmps80
   go_wp2_with (first | ((with_reducible refine qe_ (N := 2) rfl ?_); refine bE_ 2 #[.int .i64 aH, .int .i64 aB, .string aG] 58 ?_; intro aC hg w15 hbox hb; have aA := Zq_.mk (hbox); have aN := gW_ (w := w) hg (hB_ HB); have aP := gW_ (w := w) hg (hB_ HB); replace HB := Zq_.mk (qa_ (hB_ HB) hb); clear hb hbox hg) | ((with_reducible refine qe_ (N := 3) rfl ?_); refine bE_ 3 #[.int .i64 aL, .int .i64 aF, .string aK] 58 ?_; intro aI hg w16 hbox hb; have aJ := Zq_.mk (hbox); have aM := gW_ (w := w) hg (by exact hSet_ HB); have aO := gW_ (w := w) hg (by exact hSet_ HB); replace HB := Zq_.mk (qa_ (by exact hSet_ HB) hb); have aE := Zq_.mk ((by rw [hg]; exact Nat.ne_of_lt (blk_lt (g := aC) (o := .cells #[.int .i64 aH, .int .i64 aB, .string aG] 58 (0, 0)) (by exact bK_ aA)) : aC ≠ aI)); have aD := Zq_.mk ((by rw [hg]; exact Nat.ne_of_gt (blk_lt (g := aC) (o := .cells #[.int .i64 aH, .int .i64 aB, .string aG] 58 (0, 0)) (by exact bK_ aA)) : aI ≠ aC)); replace aA := Zq_.mk (qd_ (g := aC) (o := .cells #[.int .i64 aH, .int .i64 aB, .string aG] 58 (0, 0)) (by exact bK_ aA) hb); clear hb hbox hg; have hnb17 := aE.out; have hnc17 := aD.out; obtain ⟨hcz18_0, hcz18_1, hcz18_2⟩ := c3_ aA; obtain ⟨hfz18_0, hfz18_1, hfz18_2⟩ := f3_ aA; obtain ⟨hcz19_0, hcz19_1, hcz19_2⟩ := c3_ aJ; obtain ⟨hfz19_0, hfz19_1, hfz19_2⟩ := f3_ aJ))
   go_ret
   exact ⟨by exact eW_, by exact hSet_ HB⟩
def ref04_Get.l0 : Nat → List (S58) → Int → Int → Option (Int × Int × ByteArray × Bool)
 | 0, _, _, _ => none
 | k + 1, x0, x1, x6 => if x6 < (x0.length : Int) then (if 0 ≤ x6 then (if ((rd_T58 x0 x6).f0) = x1 then (some ((rd_T58 x0 x6).f0, (rd_T58 x0 x6).f1, (rd_T58 x0 x6).f2, true)) else (ref04_Get.l0 k x0 x1 (wrap64 (x6 + 1)))) else (none)) else (some (0, 0, (⟨#[]⟩ : ByteArray), false))
def ref04_Get.f (k : Nat) (l0 : List (S58)) (a1 : Int) : Option (Int × Int × ByteArray × Bool) := ref04_Get.l0 k l0 a1 0
theorem ref04_Get.mono_l : ∀ k, (∀ y0 y1 y2, LeO (ref04_Get.l0 k y0 y1 y2) (ref04_Get.l0 (k + 1) y0 y1 y2))
 | 0 => fun _ _ _ r h => by simp [ref04_Get.l0] at h
 | k + 1 => by
  have ih0 := ref04_Get.mono_l k
  ·intro y0 y1 y2
   unfold ref04_Get.l0
   repeat' first
   | (with_reducible exact ih0 _ _ _)
   | (with_reducible exact LeO.refl _)
   | (with_reducible exact LeO.none _)
   | (with_reducible refine LeO.ite ?_ ?_)
   | (with_reducible refine LeO.bind ?_ (fun _ => ?_))
   | exact ih0 _ _ _
   | exact LeO.none _
   | refine LeO.ite ?_ ?_
   | refine LeO.bind ?_ (fun _ => ?_)
theorem ref04_Get.mono : ∀ a0 a1 k, LeO (ref04_Get.f k a0 a1) (ref04_Get.f (k + 1) a0 a1) := by
 intro a0 a1 k; have ih0 := ref04_Get.mono_l k
 unfold ref04_Get.f
 repeat' first
   | (with_reducible exact ih0 _ _ _)
   | (with_reducible exact LeO.refl _)
   | (with_reducible exact LeO.none _)
   | (with_reducible refine LeO.ite ?_ ?_)
   | (with_reducible refine LeO.bind ?_ (fun _ => ?_))
   | exact ih0 _ _ _
   | exact LeO.none _
   | refine LeO.ite ?_ ?_
   | refine LeO.bind ?_ (fun _ => ?_)
theorem ref04_Get.calls (k : Nat) (A0 : Option Addr) (c0 : Nat) (l0 : List (S58)) (a1 : Int) (r1 : Int) (r2 : Int) (r3 : ByteArray) (r4 : Bool) (w : World) (hr0 : Kd.C k58 w A0 l0.length l0) (hc0 : l0.length ≤ c0) (h : ref04_Get.f k l0 a1 = some (r1, r2, r3, r4)) :
  Calls Try.prog 44 #[.slice A0 l0.length c0, .int .i64 a1] w fun e w' => e = .returned (.tuple #[.agg #[.int .i64 r1, .int .i64 r2, .string r3], .bool r4]) ∧ Below w.heap.size w w' := by
 have hu58 := Try.underlying58; have HR0 := Zq_.mk hr0; have HC0 := Zq_.mk hc0; clear hr0 hc0; have HB := Zq_.mk (Below.refl w.heap.size w); have H : (ref04_Get.l0 k l0 a1 0) = some (r1, r2, r3, r4) := h; clear h; have H' := Zq_.mk H; clear H
 go_enter Try.func44, Try.ntmps44
 go_wp2_with (first | ((with_reducible refine qe_ (N := 4) rfl ?_); refine bE_ 4 #[.int .i64 0, .int .i64 0, .string (⟨#[]⟩ : ByteArray)] 58 ?_; intro aI hg w3 hbox hb; have aE := Zq_.mk (hbox); have GW101 := gW_ (w := w) hg (hB_ HB); have GE101 := gW_ (w := w) hg (hB_ HB); replace HB := Zq_.mk (qa_ (hB_ HB) hb); clear hb hbox hg))
 go_loopg [6] k (fun kq v6 w' => ∃ (aC : Int) (aD : Int) (aB : Int) (aA : ByteArray), v6 = .int .i64 aC ∧ Zq_ (ref04_Get.l0 kq l0 a1 aC = some (r1, r2, r3, r4)) ∧ Zq_ (kq ≤ k) ∧ Zq_ (w'.heap[aI]? = some (.cells #[.int .i64 aD, .int .i64 aB, .string aA] 58 (0, 0))) ∧ Zq_ (Below w.heap.size w w'))
 case atStart => exact ⟨(0), (0), (0), ((⟨#[]⟩ : ByteArray)), eS_, H', ⟨Nat.le_refl _⟩, ⟨by (with_reducible repeat (first | refine qh_ ?_ _ | refine qf_ ?_ | refine qg_ ?_ _)); exact aE.out⟩, ⟨by exact hSet_ HB⟩⟩
 case round =>
  clear H'
  try clear p2
  obtain ⟨aC, aD, aB, aA, rfl, HA, HK1, aE, HB⟩ := hrel
  cases gk with
  | zero => exact absurd HA.out (by simp [ref04_Get.l0])
  | succ k1 =>
   have H := HA.out; clear HA; simp only [ref04_Get.l0] at H
   by_cases c4 : aC < (l0.length : Int)
   ·rw [if_pos c4] at H; have c4b0 : decide (aC < (l0.length : Int)) = true := decide_eq_true c4; clear c4
    by_cases c5 : 0 ≤ aC
    ·rw [if_pos c5] at H; have c5b0 : decide (0 ≤ aC) = true := decide_eq_true c5; clear c5
     by_cases c6 : ((rd_T58 l0 aC).f0) = a1
     ·rw [if_pos c6] at H; have c6b0 : (((rd_T58 l0 aC).f0) == a1) = true := beq_iff_eq.mpr c6; have c6b1 : (((rd_T58 l0 aC).f0) != a1) = false := bne_eq_false_iff_eq.mpr c6; clear c6; simp only [Option.some.injEq, Prod.mk.injEq] at H; obtain ⟨rfl, rfl, rfl, rfl⟩ := H; have aK : 0 ≤ (aC : Int) := dA_; have aJ : aC < (l0.length : Int) := dA_; obtain ⟨aO, aR, aH, aG, aF⟩ := at_T58 HR0.out aC aK aJ; cases aR; replace aH := hC_ HB aH; replace aG := hC_ HB aG; replace aF := hC_ HB aF; replace aK := eq_true aK; replace aJ := eq_true aJ; have aQ : 0 ≤ (aC : Int) := dA_; have aP : aC < (l0.length : Int) := dA_; obtain ⟨aS, e103, aN, aM, aL⟩ := at_T58 HR0.out aC aQ aP; obtain rfl : aO = aS := (by injection e103); replace aN := hC_ HB aN; replace aM := hC_ HB aM; replace aL := hC_ HB aL; replace aQ := eq_true aQ; replace aP := eq_true aP; have hcz7_0 : wr.cell? ⟨aI, 0, none⟩ = some (.int .i64 aD) := (qc_ aE.out 0).trans rfl; have hcz7_1 : wr.cell? ⟨aI, 1, none⟩ = some (.int .i64 aB) := (qc_ aE.out 1).trans rfl; have hcz7_2 : wr.cell? ⟨aI, 2, none⟩ = some (.string aA) := (qc_ aE.out 2).trans rfl; obtain ⟨hfz7_0, hfz7_1, hfz7_2⟩ := f3_ aE
      go_wp2
      refine bodyPost_ret (results_ct rfl _ _ aI 58 #[.int .i64 ((rd_T58 l0 aC).f0), .int .i64 ((rd_T58 l0 aC).f1), .string ((rd_T58 l0 aC).f2)] (0, 0) _ rfl (by refine bP_ (cs := #[.int .i64 ((rd_T58 l0 aC).f0), .int .i64 ((rd_T58 l0 aC).f1), .string aA]) 2 ?_; refine bP_ (cs := #[.int .i64 ((rd_T58 l0 aC).f0), .int .i64 aB, .string aA]) 1 ?_; refine bP_ (cs := #[.int .i64 aD, .int .i64 aB, .string aA]) 0 ?_; (with_reducible repeat (first | refine qh_ ?_ _ | refine qf_ ?_ | refine qg_ ?_ _)); exact aE.out) Try.underlying58 rfl (by kernel_rfl)) rfl ?_; exact ⟨by exact eW_, by exact hSet_ HB⟩
     ·rw [if_neg c6] at H; have c6b0 : (((rd_T58 l0 aC).f0) == a1) = false := beq_eq_false_iff_ne.mpr c6; have c6b1 : (((rd_T58 l0 aC).f0) != a1) = true := bne_iff_ne.mpr c6; have H' := Zq_.mk H; clear H; have aK : 0 ≤ (aC : Int) := dA_; have aJ : aC < (l0.length : Int) := dA_; obtain ⟨aO, aR, aH, aG, aF⟩ := at_T58 HR0.out aC aK aJ; cases aR; replace aH := hC_ HB aH; replace aG := hC_ HB aG; replace aF := hC_ HB aF; replace aK := eq_true aK; replace aJ := eq_true aJ
      go_wp2
      go_roundg k1
      case measure => have := HK1.out; omega
      case rel => exact ⟨(wrap64 (aC + 1)), (aD), (aB), (aA), eS_, H', ⟨by have := HK1.out; omega⟩, ⟨by (with_reducible repeat (first | refine qh_ ?_ _ | refine qf_ ?_ | refine qg_ ?_ _)); exact aE.out⟩, ⟨by exact hSet_ HB⟩⟩
    ·rw [if_neg c5] at H; exact absurd H (by simp)
   ·rw [if_neg c4] at H; have c4b0 : decide (aC < (l0.length : Int)) = false := decide_eq_false c4; clear c4; simp only [Option.some.injEq, Prod.mk.injEq] at H; obtain ⟨rfl, rfl, rfl, rfl⟩ := H; have hcz8_0 : wr.cell? ⟨aI, 0, none⟩ = some (.int .i64 aD) := (qc_ aE.out 0).trans rfl; have hcz8_1 : wr.cell? ⟨aI, 1, none⟩ = some (.int .i64 aB) := (qc_ aE.out 1).trans rfl; have hcz8_2 : wr.cell? ⟨aI, 2, none⟩ = some (.string aA) := (qc_ aE.out 2).trans rfl; obtain ⟨hfz8_0, hfz8_1, hfz8_2⟩ := f3_ aE
    go_wp2
    refine bodyPost_ret (results_ct rfl _ _ aI 58 #[.int .i64 0, .int .i64 0, .string (⟨#[]⟩ : ByteArray)] (0, 0) _ rfl (by refine bP_ (cs := #[.int .i64 0, .int .i64 0, .string aA]) 2 ?_; refine bP_ (cs := #[.int .i64 0, .int .i64 aB, .string aA]) 1 ?_; refine bP_ (cs := #[.int .i64 aD, .int .i64 aB, .string aA]) 0 ?_; (with_reducible repeat (first | refine qh_ ?_ _ | refine qf_ ?_ | refine qg_ ?_ _)); exact aE.out) Try.underlying58 rfl (by kernel_rfl)) rfl ?_; exact ⟨by exact eW_, by exact hSet_ HB⟩
def ref04_Above.l0 : Nat → List (S58) → Int → List (S58) → Int → Option ((List (S58)))
 | 0, _, _, _, _ => none
 | k + 1, x0, x1, x5, x6 => if x6 < (x0.length : Int) then (if 0 ≤ x6 then (if ((rd_T58 x0 x6).f1) > x1 then (if x5.length < 4398046511104 then (ref04_Above.l0 k x0 x1 (x5 ++ [(⟨(rd_T58 x0 x6).f0, (rd_T58 x0 x6).f1, (rd_T58 x0 x6).f2⟩ : S58)]) (wrap64 (x6 + 1))) else (none)) else (ref04_Above.l0 k x0 x1 x5 (wrap64 (x6 + 1)))) else (none)) else (some x5)
def ref04_Above.f (k : Nat) (l0 : List (S58)) (a1 : Int) : Option ((List (S58))) := ref04_Above.l0 k l0 a1 ([] : List (S58)) 0
theorem ref04_Above.mono_l : ∀ k, (∀ y0 y1 y2 y3, LeO (ref04_Above.l0 k y0 y1 y2 y3) (ref04_Above.l0 (k + 1) y0 y1 y2 y3))
 | 0 => fun _ _ _ _ r h => by simp [ref04_Above.l0] at h
 | k + 1 => by
  have ih0 := ref04_Above.mono_l k
  ·intro y0 y1 y2 y3
   unfold ref04_Above.l0
   repeat' first
   | (with_reducible exact ih0 _ _ _ _)
   | (with_reducible exact LeO.refl _)
   | (with_reducible exact LeO.none _)
   | (with_reducible refine LeO.ite ?_ ?_)
   | (with_reducible refine LeO.bind ?_ (fun _ => ?_))
   | exact ih0 _ _ _ _
   | exact LeO.none _
   | refine LeO.ite ?_ ?_
   | refine LeO.bind ?_ (fun _ => ?_)
theorem ref04_Above.mono : ∀ a0 a1 k, LeO (ref04_Above.f k a0 a1) (ref04_Above.f (k + 1) a0 a1) := by
 intro a0 a1 k; have ih0 := ref04_Above.mono_l k
 unfold ref04_Above.f
 repeat' first
   | (with_reducible exact ih0 _ _ _ _)
   | (with_reducible exact LeO.refl _)
   | (with_reducible exact LeO.none _)
   | (with_reducible refine LeO.ite ?_ ?_)
   | (with_reducible refine LeO.bind ?_ (fun _ => ?_))
   | exact ih0 _ _ _ _
   | exact LeO.none _
   | refine LeO.ite ?_ ?_
   | refine LeO.bind ?_ (fun _ => ?_)
theorem ref04_Above.calls (k : Nat) (A0 : Option Addr) (c0 : Nat) (l0 : List (S58)) (a1 : Int) (r : List (S58)) (w : World) (hr0 : Kd.C k58 w A0 l0.length l0) (hc0 : l0.length ≤ c0) (h : ref04_Above.f k l0 a1 = some r) :
  Calls Try.prog 60 #[.slice A0 l0.length c0, .int .i64 a1] w fun e w' => ∃ v0_ : Value, e = .returned (v0_) ∧ Kd.R k58 58 w' w.heap.size (fun _ => True) v0_ r ∧ Below w.heap.size w w' := by
 have hu58 := Try.underlying58; have HR0 := Zq_.mk hr0; have HC0 := Zq_.mk hc0; clear hr0 hc0; have HB := Zq_.mk (Below.refl w.heap.size w); have H : (ref04_Above.l0 k l0 a1 ([] : List (S58)) 0) = some r := h; clear h; have H' := Zq_.mk H; clear H
 go_enter Try.func60, Try.ntmps60
 go_wp2
 go_loopg [5, 6] k (fun kq v5 v6 w' => ∃ (aU : List (S58)) (aA : Int), v6 = .int .i64 aA ∧ Zq_ (ref04_Above.l0 kq l0 a1 aU aA = some r) ∧ Zq_ (kq ≤ k) ∧ Zq_ (Kd.R k58 58 w' w.heap.size (fun _ => True) v5 aU) ∧ Zq_ (Below w.heap.size w w'))
 case atStart => exact ⟨(([] : List (S58))), (0), eS_, H', ⟨Nat.le_refl _⟩, ⟨by first | exact Kd.R_nil _ _ _ _ _ | exact Kd.N_nil _ _ _ _ _ | exact Kd.V_nil _ _ _ _ _ | exact Kd.Q_nil _ _ _ _ _ | exact Kd.S_nil _ _ _ _ _⟩, ⟨hB_ HB⟩⟩
 case round =>
  clear H'
  try clear p2
  obtain ⟨aU, aA, rfl, HA, HK1, bE, HB⟩ := hrel
  cases gk with
  | zero => exact absurd HA.out (by simp [ref04_Above.l0])
  | succ k1 =>
   have H := HA.out; clear HA; simp only [ref04_Above.l0] at H
   by_cases c3 : aA < (l0.length : Int)
   ·rw [if_pos c3] at H; have c3b0 : decide (aA < (l0.length : Int)) = true := decide_eq_true c3; clear c3
    by_cases c4 : 0 ≤ aA
    ·rw [if_pos c4] at H; have c4b0 : decide (0 ≤ aA) = true := decide_eq_true c4; clear c4
     by_cases c5 : ((rd_T58 l0 aA).f1) > a1
     ·rw [if_pos c5] at H; have c5b0 : decide (a1 < ((rd_T58 l0 aA).f1)) = true := decide_eq_true c5; clear c5
      by_cases c6 : aU.length < 4398046511104
      ·rw [if_pos c6] at H; have LMc6 := Zq_.mk c6; clear c6; obtain ⟨bL, aQ⟩ : ∃ y_ : List (S58), y_ = (aU ++ [(⟨(rd_T58 l0 aA).f0, (rd_T58 l0 aA).f1, (rd_T58 l0 aA).f2⟩ : S58)]) := ⟨_, rfl⟩
       replace H : (ref04_Above.l0 k1 l0 a1 bL (wrap64 (aA + 1))) = some r := by first | (rw [aQ]; with_reducible exact H) | (have H2_ := (Option.bind_some _ _).symm.trans H; rw [aQ]; with_reducible exact H2_) | (have H2_ := (Option.bind_some _ _).symm.trans H; with_reducible exact H2_) | with_reducible exact H | (rw [aQ]; exact H) | exact H
       have bN := Zq_.mk aQ; clear aQ; have H' := Zq_.mk H; clear H; have aX : 0 ≤ (aA : Int) := dA_; have aW : aA < (l0.length : Int) := dA_; obtain ⟨bH, bK, aH, aG, aE⟩ := at_T58 HR0.out aA aX aW; cases bK; replace aH := hC_ HB aH; replace aG := hC_ HB aG; replace aE := hC_ HB aE; replace aX := eq_true aX; replace aW := eq_true aW; have bJ : 0 ≤ (aA : Int) := dA_; have bI : aA < (l0.length : Int) := dA_; obtain ⟨bM, e102, bA, aZ, aY⟩ := at_T58 HR0.out aA bJ bI; obtain rfl : bH = bM := (by injection e102); replace bA := hC_ HB bA; replace aZ := hC_ HB aZ; replace aY := hC_ HB aY; replace bJ := eq_true bJ; replace bI := eq_true bI
       go_wp2_with (first | ((with_reducible refine qs_ (b := .append) (xs := #[.tmp 20, .tmp 25]) rfl ?_); at_builtin; refine Kd.R_append k58 (w0 := w) w.heap.size rfl (.tmp 20) (.tmp 25) 33 58 (.agg #[(.int .i64 0), (.int .i64 0), (.string ⟨#[]⟩)]) 32 rfl Try.underlying33 info58 rfl (by decide) (by omega) u5 aU (⟨(rd_T58 l0 aA).f0, (rd_T58 l0 aA).f1, (rd_T58 l0 aA).f2⟩ : S58) [.int .i64 ((rd_T58 l0 aA).f0), .int .i64 ((rd_T58 l0 aA).f1), .string ((rd_T58 l0 aA).f2)] (fun _ => True) (fun _ => False) rfl rfl ?aP (fun _ hk => hk.elim) ?aF ?aO ?aB ?aS ?aL ?_; (case aP => exact k58_mkM _ _ _ (⟨(rd_T58 l0 aA).f0, (rd_T58 l0 aA).f1, (rd_T58 l0 aA).f2⟩ : S58)); (case aB => exact (hB_ HB)); (case aF => exact (fun _ _ => trivial)); (case aO => exact (vX_ bE)); (case aS => exact (qb_ (hB_ HB))); (case aL => have := LMc6.out; omega); intro v104 w7 ho hb hg hat; rw [← bN.out] at ho; replace HB := Zq_.mk (hb); have bC := Zq_.mk (ho); clear bE; clear ho hb hg hat))
       go_roundg k1
       case measure => have := HK1.out; omega
       case rel => exact ⟨(bL), (wrap64 (aA + 1)), eS_, H', ⟨by have := HK1.out; omega⟩, ⟨by (with_reducible repeat (first | apply Kd.qu_ | apply Kd.qt_ | apply Kd.R_drew)); exact bC.out⟩, ⟨hB_ HB⟩⟩
      ·rw [if_neg c6] at H; exact absurd H (by simp)
     ·rw [if_neg c5] at H; have c5b0 : decide (a1 < ((rd_T58 l0 aA).f1)) = false := decide_eq_false c5; clear c5; have H' := Zq_.mk H; clear H; have aX : 0 ≤ (aA : Int) := dA_; have aW : aA < (l0.length : Int) := dA_; obtain ⟨bH, bK, aH, aG, aE⟩ := at_T58 HR0.out aA aX aW; cases bK; replace aH := hC_ HB aH; replace aG := hC_ HB aG; replace aE := hC_ HB aE; replace aX := eq_true aX; replace aW := eq_true aW
      go_wp2
      go_roundg k1
      case measure => have := HK1.out; omega
      case rel => exact ⟨(aU), (wrap64 (aA + 1)), eS_, H', ⟨by have := HK1.out; omega⟩, ⟨by (with_reducible repeat (first | apply Kd.qu_ | apply Kd.qt_ | apply Kd.R_drew)); exact bE.out⟩, ⟨hB_ HB⟩⟩
    ·rw [if_neg c4] at H; exact absurd H (by simp)
   ·rw [if_neg c3] at H; have c3b0 : decide (aA < (l0.length : Int)) = false := decide_eq_false c3; clear c3; obtain rfl := Option.some.inj H
    go_wp2
    go_ret
    exact ⟨_, by exact eW_, by (with_reducible repeat (first | apply Kd.qu_ | apply Kd.qt_ | apply Kd.R_drew)); exact bE.out, hB_ HB⟩
def ref05_Above.f (k : Nat) (aI : Int) (aJ : Int) (aD : List (S58)) (a1 : Int) : Option (Int × Int × (List (S58))) := (ref04_Above.f k aD a1).bind fun aV => (some (aI, aJ, aV))
theorem ref05_Above.mono : ∀ a0 a1 a2 a3 k, LeO (ref05_Above.f k a0 a1 a2 a3) (ref05_Above.f (k + 1) a0 a1 a2 a3) := by
 intro a0 a1 a2 a3 k
 unfold ref05_Above.f
 repeat' first
   | (with_reducible exact ref04_Above.mono _ _ _)
   | (with_reducible exact LeO.refl _)
   | (with_reducible exact LeO.none _)
   | (with_reducible refine LeO.ite ?_ ?_)
   | (with_reducible refine LeO.bind ?_ (fun _ => ?_))
   | exact ref04_Above.mono _ _ _
   | exact LeO.none _
   | refine LeO.ite ?_ ?_
   | refine LeO.bind ?_ (fun _ => ?_)
theorem ref05_Above.calls (k : Nat) (aI : Int) (aJ : Int) (aT : Option Addr) (aR : Nat) (aD : List (S58)) (a1 : Int) (r1 : Int) (r2 : Int) (r3 : List (S58)) (w : World) (bF : Kd.C k58 w aT aD.length aD) (bG : aD.length ≤ aR) (h : ref05_Above.f k aI aJ aD a1 = some (r1, r2, r3)) :
  Calls Try.prog 39 #[.agg #[.int .i64 aI, .int .i64 aJ, .slice aT aD.length aR], .int .i64 a1] w fun e w' => ∃ v2_ : Value, e = .returned (.agg #[.int .i64 r1, .int .i64 r2, v2_]) ∧ Kd.R k58 58 w' w.heap.size (fun _ => True) v2_ r3 ∧ Below w.heap.size w w' := by
 have hu35 := Try.underlying35; have bO := Zq_.mk bF; have bP := Zq_.mk bG; clear bF bG; have HB := Zq_.mk (Below.refl w.heap.size w); have H : ((ref04_Above.f k aD a1).bind fun aV => (some (aI, aJ, aV))) = some (r1, r2, r3) := h; clear h; replace H := ob_ H; obtain ⟨aV, A30, H⟩ := H; replace H : (some (aI, aJ, aV)) = some (r1, r2, r3) := H; have A3 := Zq_.mk A30; clear A30; simp only [Option.some.injEq, Prod.mk.injEq] at H; obtain ⟨rfl, rfl, rfl⟩ := H
 go_enter Try.func39, Try.ntmps39
 go_wp2_with (first | ((with_reducible refine qe_ (N := 2) rfl ?_); refine bE_ 2 #[.int .i64 aI, .int .i64 aJ, .slice aT aD.length aR] 35 ?_; intro aK hg w4 hbox hb; have aC := Zq_.mk (hbox); have GW101 := gW_ (w := w) hg (hB_ HB); have GE101 := gW_ (w := w) hg (hB_ HB); replace HB := Zq_.mk (qa_ (hB_ HB) hb); clear hb hbox hg) | ((with_reducible refine qe_ (N := 4) rfl ?_); refine bE_ 4 #[.int .i64 0, .int .i64 0, .slice none 0 0] 35 ?_; intro bB hg w5 hbox hb; have aN := Zq_.mk (hbox); have GW102 := gW_ (w := w) hg (by exact hSet_ HB); have GE102 := gW_ (w := w) hg (by exact hSet_ HB); replace HB := Zq_.mk (qa_ (by exact hSet_ HB) hb); have bD := Zq_.mk ((by rw [hg]; exact Nat.ne_of_lt (blk_lt (g := aK) (o := .cells #[.int .i64 aI, .int .i64 aJ, .slice aT aD.length aR] 35 (0, 0)) (by exact bK_ aC)) : aK ≠ bB)); have aM := Zq_.mk ((by rw [hg]; exact Nat.ne_of_gt (blk_lt (g := aK) (o := .cells #[.int .i64 aI, .int .i64 aJ, .slice aT aD.length aR] 35 (0, 0)) (by exact bK_ aC)) : bB ≠ aK)); replace aC := Zq_.mk (qd_ (g := aK) (o := .cells #[.int .i64 aI, .int .i64 aJ, .slice aT aD.length aR] 35 (0, 0)) (by exact bK_ aC) hb); clear hb hbox hg; have hnb6 := bD.out; have hnc6 := aM.out; obtain ⟨hcz7_0, hcz7_1, hcz7_2⟩ := c3_ aC; obtain ⟨hfz7_0, hfz7_1, hfz7_2⟩ := f3_ aC) | ((with_reducible refine qi_ (f := 60) rfl ?_); refine goesL_ (some 8) rfl rfl Try.func60 (by kernel_rfl) rfl #[.slice aT aD.length aR, .int .i64 a1] rfl (by (try simp only [List.map_toArray, List.map_cons, List.map_nil]); first | done | rfl | (simp only [List.length_drop, List.length_take]; rfl)) ?_; (with_reducible refine (ref04_Above.calls k _ _ aD a1 aV _ ?side1 ?side2 A3.out).mono ?_); (case side1 => exact cX_ (Kd.qk_ bO.out HB.out)); (case side2 => exact bP.out); rintro e w8 ⟨v104, rfl, ho0, hb⟩; refine ⟨_, rfl, ?_⟩; have bC := Zq_.mk (Kd.vd_ ho0 (qb_ (by exact hSet_ HB))); replace aC := Zq_.mk (qd_ (g := aK) (o := .cells #[.int .i64 aI, .int .i64 aJ, .slice aT aD.length aR] 35 (0, 0)) (by exact bK_ aC) hb); replace aN := Zq_.mk (qd_ (g := bB) (o := .cells #[.int .i64 0, .int .i64 0, .slice none 0 0] 35 (0, 0)) (by exact bK_ aN) hb); replace HB := Zq_.mk (qa_ (by exact hSet_ HB) hb); (try clear hb); (try clear ho0); obtain ⟨Ao9, co9, eo9⟩ := Kd.vh_ bC.out; subst eo9; obtain ⟨hcz10_0, hcz10_1, hcz10_2⟩ := c3_ aC; obtain ⟨hfz10_0, hfz10_1, hfz10_2⟩ := f3_ aC; obtain ⟨hcz11_0, hcz11_1, hcz11_2⟩ := c3_ aN; obtain ⟨hfz11_0, hfz11_1, hfz11_2⟩ := f3_ aN))
 refine bodyPost_ret (results_cell_row rfl _ _ bB 35 #[.int .i64 aI, .int .i64 aJ, .slice Ao9 aV.length co9] (0, 0) _ rfl (by refine bP_ (cs := #[.int .i64 aI, .int .i64 aJ, .slice none 0 0]) 2 ?_; refine bP_ (cs := #[.int .i64 aI, .int .i64 0, .slice none 0 0]) 1 ?_; refine bP_ (cs := #[.int .i64 0, .int .i64 0, .slice none 0 0]) 0 ?_; refine bF_ aM ?_; (with_reducible repeat (first | refine qh_ ?_ _ | refine qf_ ?_ | refine qg_ ?_ _)); exact aN.out) Try.underlying35 rfl (by kernel_rfl)) rfl ?_; exact ⟨_, by exact eW_, by (with_reducible repeat (first | apply Kd.qu_ | apply Kd.qt_ | apply Kd.R_drew)); exact Kd.R_mono (Kd.R_far (Kd.R_far (Kd.R_far (Kd.R_far (Kd.vg_ (Kd.vg_ bC.out aC.out (by decide)) aN.out (by decide)) (fun _ hk => hk.1.2) _) (fun _ hk => hk.2) _) (fun _ hk => hk.2) _) (fun _ hk => hk.2) _) (fun _ hk => trivial), by exact hSet_ HB⟩
open Go.Proofs.YtgipbmjkgciccaaW.Hw in
theorem ContainsFuncE.calls (p : S58 → Bool) (g : Nat) (lb : Array Value) (eg : ∀ args w, (callFunc g args).run Try.prog w = .ok (.enter g args) w) (A0 : Option Addr) (c0 : Nat) (l0 : List S58) (w : World)
  (hp : PredK Try.prog k58 g lb aggOf p w) (hr0 : Kd.C k58 w A0 l0.length l0) :
  Calls Try.prog 64 #[.slice A0 l0.length c0, .func (.func g) #[] lb] w fun e w' => e = .returned (.bool (l0.any p)) ∧ Below w.heap.size w w' := by
 have hcall := IndexFuncE.calls p g lb eg A0 c0 l0 w hp hr0; rw [← idxI_any]; generalize idxI p l0 = r at hcall ⊢; clear hp hr0
 go_enter Try.func64, Try.ntmps64
 go_wp2_with fail
 refine hcall.mono ?_; rintro e w1 ⟨rfl, hb1⟩
 go_wp2_with fail
 go_ret
 exact ⟨rfl, hb1⟩
end Go.Proofs.Ytgipbmjkgciccaa.P

/- What this function of the program comes to, and that the machine's call does it. No condition. -/
import Derived.Test.YtfoeahjbkmdgfaaP0
import Derived.Test.YtfoeahjbkmdgfaaHw
namespace Go.Proofs.Ytfoeahjbkmdgfaa.P
set_option maxHeartbeats 8000000
set_option maxRecDepth 100000
open Go.RowKit Go.Proofs.YtfoeahjbkmdgfaaW.PrintWords Go.Proofs.YtfoeahjbkmdgfaaW.PrintLast Go.Proofs.YtfoeahjbkmdgfaaW.PrintMore
attribute [local go_sem] qw_ qu_ va_ qz_ qq_ qp_ qv_ qt_ Go.Proofs.YtfoeahjbkmdgfaaW.Hw.string_gtr
set_option linter.unusedVariables false
set_option linter.unusedSimpArgs false
def api_Entry_45.f (l0 : List S40) : Option (List S40) := if l0.length < 4398046511104 then some l0 else none
open Go.Proofs.YtfoeahjbkmdgfaaW.Hw in
theorem api_Entry_45.calls (A0 : Option Addr) (c0 : Nat) (l0 : List S40) (r : List S40) (w : World) (hr0 : Kd.C k40 w A0 l0.length l0) (hc0 : l0.length ≤ c0) (h : api_Entry_45.f l0 = some r) :
  Calls Try.prog 45 #[.slice A0 l0.length c0] w fun e w' => ∃ v0_ : Value, e = .returned v0_ ∧ Kd.R k40 40 w' w.heap.size (fun _ => True) v0_ r ∧ Below w.heap.size w w' := by
 unfold api_Entry_45.f at h
 by_cases hl : l0.length < 4398046511104
 case neg => rw [if_neg hl] at h; cases h
 rw [if_pos hl] at h; obtain rfl := Option.some.inj h; clear h; have LM := Zq_.mk hl; clear hl
 have hnil : ∀ (W : World) (a : Option Addr) (n c n' c' : Nat), (binOp .eql 22 (.slice a n c) (.slice none n' c')).run Try.prog W = .ok (.bool a.isNone) W := fun W a n c n' c' => Lib.run_eql_slice_nil W _ _ a n c n' c' Try.underlying22
 have HB := Zq_.mk (Below.refl w.heap.size w)
 cases A0 with
 | none =>
  have e0 : l0 = [] := by
   rcases Nat.eq_zero_or_pos l0.length with e | e
   ·exact List.eq_nil_of_length_eq_zero e
   ·obtain ⟨ad, e1, _⟩ := hr0.2.2 e; cases e1
  subst e0; clear hr0 hc0 LM
  go_enter Try.func45, Try.ntmps45
  go_wp2
  go_ret
  exact ⟨_, rfl, Kd.R_nil _ _ _ _ _, Below.refl _ _⟩
 | some ad =>
  have HR := Zq_.mk hr0; have HC := Zq_.mk hc0; clear hr0 hc0
  go_enter Try.func45, Try.ntmps45
  go_wp2_with (first
   | ((with_reducible refine qi_ (N := 5) rfl ?_); refine Kd.R_lit k40 _ 40 ?hg (N := 5) ?hd (xs := ([] : List S40)) (inner := []) (ok := fun _ => True) (okp := fun _ => True) ?hr ?hp (fun _ hk => hk) trivial (Below.refl _ _) (Nat.le_refl _) (by simp) ?_; (case hd => rfl); (case hg => rfl); (case hr => first | (go_simp; done) | (go_simp; rfl)); (case hp => exact (Reps.none _ _)); intro v5 w5 ho hb hg_ hnew_; clear hg_ hnew_; have HO := Zq_.mk (Kd.qx_ ho (qe_ (hB_ HB))); replace HB := Zq_.mk (qb_ (hB_ HB) hb); clear hb ho)
   | ((with_reducible refine qy_ (b := .append) (xs := #[.tmp 5, .tmp 6]) rfl ?_); at_builtin; refine Kd.R_append_rows k40 (w0 := w) w.heap.size rfl (.tmp 5) (.tmp 6) 22 40 (.agg #[(.int .i64 0), (.int .i64 0), (.string ⟨#[]⟩)]) 32 rfl Try.underlying22 info40 rfl (by decide) (by omega) v5 ([] : List S40) l0 _ _ _ (fun _ => True) (fun _ => False) rfl rfl ?aO ?aR (fun _ _ h => h) (fun _ h => h.elim) ?aF ?aB ?aS ?aL ?_; (case aR => exact cX_ (Kd.ve_ HR.out HB.out)); (case aB => exact (hB_ HB)); (case aF => exact (fun _ _ => trivial)); (case aO => exact (vX_ HO)); (case aS => exact (qe_ (hB_ HB))); (case aL => have := LM.out; simp only [List.length_nil]; omega); intro v7 w9 ho hb hg hat; rw [List.nil_append] at ho; replace HB := Zq_.mk hb; replace HO := Zq_.mk ho; clear ho hb hg hat))
  go_ret
  exact ⟨_, rfl, by (with_reducible repeat (first | apply Kd.qm_ | apply Kd.ql_ | apply Kd.R_drew)); exact HO.out, (hB_ HB)⟩
/-- The halving: the place where `less` ends. -/
def halveE (less : Nat → Bool) : Nat → Nat → Nat → Nat
 | 0, lo, _ => lo
 | f + 1, lo, hi => if lo < hi then (if less ((lo + hi) / 2) then halveE less f ((lo + hi) / 2 + 1) hi else halveE less f lo ((lo + hi) / 2)) else lo
theorem halveE_end (less : Nat → Bool) (f lo : Nat) : halveE less f lo lo = lo := by cases f <;> simp [halveE]
theorem halveE_up (less : Nat → Bool) {f lo hi : Nat} (h : lo < hi) (hl : less ((lo + hi) / 2) = true) : halveE less (f + 1) lo hi = halveE less f ((lo + hi) / 2 + 1) hi := by simp [halveE, h, hl]
theorem halveE_down (less : Nat → Bool) {f lo hi : Nat} (h : lo < hi) (hl : less ((lo + hi) / 2) = false) : halveE less (f + 1) lo hi = halveE less f lo ((lo + hi) / 2) := by simp [halveE, h, hl]
open Go.Proofs.YtfoeahjbkmdgfaaW.Hw in
theorem SearchE.calls (c : S40 → Int) (t : S40) (g : Nat) (lb : Array Value) (eg : ∀ args w, (callFunc g args).run Try.prog w = .ok (.enter g args) w) (A0 : Option Addr) (c0 : Nat) (l0 : List S40) (w : World)
  (hp : ∀ (W : World) (x : S40), Below w.heap.size w W → Calls Try.prog g (#[.agg #[.int .i64 x.f0, .int .i64 x.f1, .string x.f2], .agg #[.int .i64 t.f0, .int .i64 t.f1, .string t.f2]] ++ lb) W fun e w' => e = .returned (.int .i64 (c x)) ∧ Below W.heap.size W w') (hr0 : Kd.C k40 w A0 l0.length l0) (hlen : l0.length < 1099511627776) :
  Calls Try.prog 48 #[.slice A0 l0.length c0, .agg #[.int .i64 t.f0, .int .i64 t.f1, .string t.f2], .func (.func g) #[] lb] w fun e w' =>
   e = .returned (.tuple #[.int .i64 (halveE (fun j => decide (c (l0.getD j z40) < 0)) l0.length 0 l0.length : Nat), .bool (decide (halveE (fun j => decide (c (l0.getD j z40) < 0)) l0.length 0 l0.length < l0.length) && decide (c (l0.getD (halveE (fun j => decide (c (l0.getD j z40) < 0)) l0.length 0 l0.length) z40) = 0))]) ∧ Below w.heap.size w w' := by
 have hu_ := Try.underlying40; have HR := Zq_.mk hr0; have HP := Zq_.mk hp; have HM := Zq_.mk hlen; clear hr0 hp hlen; generalize hres : halveE (fun j => decide (c (l0.getD j z40) < 0)) l0.length 0 l0.length = res; have HE := Zq_.mk hres; clear hres
 go_enter Try.func48, Try.ntmps48
 go_wp2
 go_loopg [9, 10] l0.length (fun kx s9 s10 wr => ∃ lo hi : Nat, s9 = .int .i64 lo ∧ s10 = .int .i64 hi ∧ Zq_ (lo ≤ hi ∧ hi ≤ l0.length ∧ hi - lo ≤ kx) ∧ Zq_ (Below w.heap.size w wr) ∧ Zq_ (wr.heap[w.heap.size]? = some (.cells #[.int .i64 t.f0, .int .i64 t.f1, .string t.f2] 40 (0, 0))) ∧ Zq_ (∃ f, hi - lo ≤ f ∧ halveE (fun j => decide (c (l0.getD j z40) < 0)) f lo hi = res))
 case atStart => exact ⟨0, l0.length, rfl, rfl, ⟨by omega⟩, ⟨below_alloc (Below.refl _ w) _⟩, ⟨heap_alloc_new w _⟩, ⟨l0.length, by omega, HE.out⟩⟩
 case round =>
  obtain ⟨lo, hi, rfl, rfl, HI, BW, BX, HF⟩ := hrel
  by_cases hlt : lo < hi
  ·have hhi := HI.out.2.1; have hM := HM.out
   have v1 : wrap64 ((lo : Int) + (hi : Int)) = (lo : Int) + (hi : Int) := by unfold wrap64; omega
   have v2 : IntKind.u64.wrap ((lo : Int) + (hi : Int)) = (lo : Int) + (hi : Int) := by first | (rw [IntKind.wrap_u64]; omega) | (simp [IntKind.wrap]; omega)
   have v3 : wrap64 (((lo : Int) + (hi : Int)) / 2) = ((lo : Int) + (hi : Int)) / 2 := by unfold wrap64; omega
   have p1 : (0 : Int) ≤ ((lo : Int) + (hi : Int)) / 2 := by omega
   have p2 : ((lo : Int) + (hi : Int)) / 2 < (l0.length : Int) := by omega
   obtain ⟨ad, e_, hx_0, hx_1, hx_2⟩ := at_T40 HR.out (((lo : Int) + (hi : Int)) / 2) p1 p2; cases e_; replace hx_0 := (BW.out.cell (wb_ w _ hx_0)).trans hx_0; replace hx_1 := (BW.out.cell (wb_ w _ hx_1)).trans hx_1; replace hx_2 := (BW.out.cell (wb_ w _ hx_2)).trans hx_2
   have hy_0 : wr.cell? ⟨w.heap.size, 0, none⟩ = some (.int .i64 t.f0) := by rw [qj_ BX.out]; rfl
   have hy_1 : wr.cell? ⟨w.heap.size, 1, none⟩ = some (.int .i64 t.f1) := by rw [qj_ BX.out]; rfl
   have hy_2 : wr.cell? ⟨w.heap.size, 2, none⟩ = some (.string t.f2) := by rw [qj_ BX.out]; rfl
   have hcall := HP.out wr.drew (rd_T40 l0 (((lo : Int) + (hi : Int)) / 2)) BW.out.drew; have HC := Zq_.mk hcall
   have hcv : (rd_T40 l0 (((lo : Int) + (hi : Int)) / 2)) = l0.getD ((lo + hi) / 2) z40 := by unfold rd_T40; congr 1
   have HD0 := Zq_.mk hcv; clear hcv hcall hu_ hM; generalize (rd_T40 l0 (((lo : Int) + (hi : Int)) / 2)) = y at hx_0 hx_1 hx_2 HC HD0; obtain ⟨y0, y1, y2⟩ := y
   dsimp only at hx_0 hx_1 hx_2 HC
   generalize hr : c ⟨y0, y1, y2⟩ = r at HC; have HRR := Zq_.mk hr; clear hr
   by_cases hyx : r < 0
   ·have hd := decide_eq_true hyx; have HD := Zq_.mk hd; clear hd; have p3 := decide_eq_true p2; have p4 := decide_eq_true p1; replace p1 := eq_true p1; replace p2 := eq_true p2
    go_wp2_with fail
    go_region_with ((with_reducible refine HC.out.mono ?_); rintro e w6 ⟨rfl, hb6⟩)
    all_goals go_wp2
    all_goals (go_roundg (hi - ((lo + hi) / 2 + 1)))
    all_goals (try (have := HI.out; omega))
    all_goals
     have hlo := HI.out; have hM := HM.out; have hw6 : w6.heap[w.heap.size]? = some (.cells #[.int .i64 t.f0, .int .i64 t.f1, .string t.f2] 40 (0, 0)) := (hb6.block _ (blk_lt (qf_ BX.out))).trans (qf_ BX.out); obtain ⟨f, hf, hres⟩ := HF.out; obtain ⟨f', rfl⟩ : ∃ f', f = f' + 1 := ⟨f - 1, by omega⟩; refine ⟨(lo + hi) / 2 + 1, hi, ?_, rfl, ⟨by omega⟩, ⟨qb_ BW.out.drew hb6⟩, ⟨hw6⟩, ⟨f', by omega, ?_⟩⟩
     ·rw [show wrap64 (((lo : Int) + (hi : Int)) / 2 + 1) = (((lo + hi) / 2 + 1 : Nat) : Int) by unfold wrap64; omega]
     ·rw [← hres, halveE_up _ hlt (by show decide (c (l0.getD ((lo + hi) / 2) z40) < 0) = true; rw [← HD0.out, HRR.out]; exact HD.out)]
   ·have hd := decide_eq_false hyx; have HD := Zq_.mk hd; clear hd; have p3 := decide_eq_true p2; have p4 := decide_eq_true p1; replace p1 := eq_true p1; replace p2 := eq_true p2
    go_wp2_with fail
    go_region_with ((with_reducible refine HC.out.mono ?_); rintro e w6 ⟨rfl, hb6⟩)
    all_goals go_wp2
    all_goals (go_roundg ((lo + hi) / 2 - lo))
    all_goals (try (have := HI.out; omega))
    all_goals
     have hlo := HI.out; have hM := HM.out; have hw6 : w6.heap[w.heap.size]? = some (.cells #[.int .i64 t.f0, .int .i64 t.f1, .string t.f2] 40 (0, 0)) := (hb6.block _ (blk_lt (qf_ BX.out))).trans (qf_ BX.out); obtain ⟨f, hf, hres⟩ := HF.out; obtain ⟨f', rfl⟩ : ∃ f', f = f' + 1 := ⟨f - 1, by omega⟩; refine ⟨lo, (lo + hi) / 2, rfl, ?_, ⟨by omega⟩, ⟨qb_ BW.out.drew hb6⟩, ⟨hw6⟩, ⟨f', by omega, ?_⟩⟩
     ·rw [show ((lo : Int) + (hi : Int)) / 2 = (((lo + hi) / 2 : Nat) : Int) by omega]
     ·rw [← hres, halveE_down _ hlt (by show decide (c (l0.getD ((lo + hi) / 2) z40) < 0) = false; rw [← HD0.out, HRR.out]; exact HD.out)]
  ·obtain ⟨f, hf, hres⟩ := HF.out
   obtain rfl : lo = hi := by have := HI.out; omega
   rw [halveE_end] at hres; subst hres; clear hlt; have hhi := HI.out.2.1; have hM := HM.out
   by_cases hn : lo < l0.length
   ·have p1 : (0 : Int) ≤ (lo : Int) := by omega
    have p2 : (lo : Int) < (l0.length : Int) := by omega
    obtain ⟨ad, e_, hx_0, hx_1, hx_2⟩ := at_T40 HR.out (lo : Int) p1 p2; cases e_; replace hx_0 := (BW.out.cell (wb_ w _ hx_0)).trans hx_0; replace hx_1 := (BW.out.cell (wb_ w _ hx_1)).trans hx_1; replace hx_2 := (BW.out.cell (wb_ w _ hx_2)).trans hx_2
    have hy_0 : wr.cell? ⟨w.heap.size, 0, none⟩ = some (.int .i64 t.f0) := by rw [qj_ BX.out]; rfl
    have hy_1 : wr.cell? ⟨w.heap.size, 1, none⟩ = some (.int .i64 t.f1) := by rw [qj_ BX.out]; rfl
    have hy_2 : wr.cell? ⟨w.heap.size, 2, none⟩ = some (.string t.f2) := by rw [qj_ BX.out]; rfl
    have HC := Zq_.mk (HP.out wr.drew (rd_T40 l0 (lo : Int)) BW.out.drew); have HD0 := Zq_.mk (show rd_T40 l0 (lo : Int) = l0.getD lo z40 by unfold rd_T40; congr 1); have HN := Zq_.mk (show decide (lo < l0.length) = true from decide_eq_true hn); have p3 := decide_eq_true p2; have p4 := decide_eq_true p1; have p5 := decide_eq_true hn; have p6 := eq_true hn; replace p1 := eq_true p1; replace p2 := eq_true p2; clear hn hhi hM hu_; simp only [Int.toNat_natCast] at hx_0 hx_1 hx_2; generalize rd_T40 l0 (lo : Int) = y at hx_0 hx_1 hx_2 HC HD0; obtain ⟨y0, y1, y2⟩ := y
    dsimp only at hx_0 hx_1 hx_2 HC
    generalize hr : c ⟨y0, y1, y2⟩ = r at HC; have HRR := Zq_.mk hr; clear hr
    go_wp2_with fail
    go_region_held3 (fun W => W.cell? (ad.add (lo * 3)) = some (.int .i64 y0) ∧ W.cell? ⟨(ad.add (lo * 3)).block, (ad.add (lo * 3)).off + 1, none⟩ = some (.int .i64 y1) ∧ W.cell? ⟨(ad.add (lo * 3)).block, (ad.add (lo * 3)).off + 2, none⟩ = some (.string y2) ∧ W.cell? ⟨w.heap.size, 0, none⟩ = some (.int .i64 t.f0) ∧ W.cell? ⟨w.heap.size, 1, none⟩ = some (.int .i64 t.f1) ∧ W.cell? ⟨w.heap.size, 2, none⟩ = some (.string t.f2)) (first | exact ⟨hx_0, hx_1, hx_2, hy_0, hy_1, hy_2⟩ | exact ⟨(hb6.cell (wb_ _ _ hx_0)).trans hx_0, (hb6.cell (wb_ _ _ hx_1)).trans hx_1, (hb6.cell (wb_ _ _ hx_2)).trans hx_2, (hb6.cell (wb_ _ _ hy_0)).trans hy_0, (hb6.cell (wb_ _ _ hy_1)).trans hy_1, (hb6.cell (wb_ _ _ hy_2)).trans hy_2⟩) (((with_reducible refine HC.out.mono ?_); rintro e w6 ⟨rfl, hb6⟩))
    all_goals go_wp2
    all_goals go_ret2
    all_goals exact ⟨by rw [HN.out, ← HD0.out, HRR.out, Bool.true_and]; exact congrArg (fun b => Ending.returned (.tuple #[.int .i64 lo, .bool b])) (by by_cases h0 : r = 0 <;> simp [h0]), qb_ BW.out.drew hb6⟩
   ·have hnb : decide ((lo : Int) < (l0.length : Int)) = false := decide_eq_false (by omega); have HN := Zq_.mk (show decide (lo < l0.length) = false from decide_eq_false hn); have hnc := decide_eq_false hn; have hnd := eq_false hn; clear hn hhi hM
    go_wp2_with fail
    go_region
    all_goals go_wp2
    all_goals go_ret2
    all_goals exact ⟨by rw [HN.out]; simp, BW.out.drew⟩
open Go.Proofs.YtfoeahjbkmdgfaaW.Hw in
theorem IndexFuncE.calls (p : S40 → Bool) (g : Nat) (lb : Array Value) (eg : ∀ args w, (callFunc g args).run Try.prog w = .ok (.enter g args) w) (A0 : Option Addr) (c0 : Nat) (l0 : List S40) (w : World)
  (hp : PredK Try.prog k40 g lb aggOf p w) (hr0 : Kd.C k40 w A0 l0.length l0) :
  Calls Try.prog 62 #[.slice A0 l0.length c0, .func (.func g) #[] lb] w fun e w' => e = .returned (.int .i64 (idxI p l0)) ∧ Below w.heap.size w w' := by
 have hu_ := Try.underlying40; have HR := Zq_.mk hr0; have HP := Zq_.mk hp; have HM := Zq_.mk (Kd.C_max hr0); clear hr0 hp; have HB := Zq_.mk (Below.refl w.heap.size w)
 go_enter Try.func62, Try.ntmps62
 go_wp2
 go_loopg [5, 8] l0.length (fun gg _ s8 wr => ∃ i : Int, s8 = .int .i64 i ∧ Zq_ (0 ≤ i ∧ i ≤ (l0.length : Int) ∧ l0.length - i.toNat ≤ gg) ∧ Zq_ (Below w.heap.size w wr) ∧ Zq_ (∀ j, j < i.toNat → p (l0.getD j z40) = false))
 case atStart => exact ⟨0, rfl, ⟨by omega⟩, HB, ⟨fun j hj => absurd hj (Nat.not_lt_zero _)⟩⟩
 case round =>
  obtain ⟨i, rfl, HI, BW, A⟩ := hrel
  by_cases hlt : i < (l0.length : Int)
  ·have hltb : decide (i < (l0.length : Int)) = true := decide_eq_true hlt; have p1 := HI.out.1; obtain ⟨ad, e_, hx_0, hx_1, hx_2⟩ := at_T40 HR.out i p1 hlt; cases e_; replace hx_0 := (BW.out.cell (wb_ w _ hx_0)).trans hx_0; replace hx_1 := (BW.out.cell (wb_ w _ hx_1)).trans hx_1; replace hx_2 := (BW.out.cell (wb_ w _ hx_2)).trans hx_2; have hcall : Calls Try.prog g (#[.agg #[.int .i64 (rd_T40 l0 i).f0, .int .i64 (rd_T40 l0 i).f1, .string (rd_T40 l0 i).f2]] ++ lb) wr (fun e w1 => e = .returned (.bool (p (rd_T40 l0 i))) ∧ Below wr.heap.size wr w1) := HP.out wr (rd_T40 l0 i) [.int .i64 (rd_T40 l0 i).f0, .int .i64 (rd_T40 l0 i).f1, .string (rd_T40 l0 i).f2] BW.out (k40_mk wr (rd_T40 l0 i)); have HL := Zq_.mk hlt; replace p1 := eq_true p1; replace hlt := eq_true hlt; have hwr := Zq_.mk (show wrap64 (i + 1) = i + 1 by have := HI.out; have := HM.out; have := HL.out; unfold wrap64; omega)
   cases hq : p (rd_T40 l0 i) with
   | true =>
    rw [hq] at hcall; have HQ := Zq_.mk hq; clear hq
    go_wp2_with fail
    refine hcall.mono ?_; rintro e w1 ⟨rfl, hb1⟩
    go_wp2_with fail
    go_ret
    refine ⟨?_, (by have hb2 := qb_ BW.out hb1; exact hb2)⟩; have h1 := HI.out; have h2 := HL.out; rw [idxI_hit p l0 z40 i.toNat (by omega) HQ.out A.out, Int.toNat_of_nonneg h1.1]; rfl
   | false =>
    rw [hq] at hcall; have HQ := Zq_.mk hq; clear hq
    go_wp2_with fail
    refine hcall.mono ?_; rintro e w1 ⟨rfl, hb1⟩
    go_wp2_with fail
    go_roundg (l0.length - (i.toNat + 1))
    case measure => have h1 := HI.out; have h2 := HL.out; omega
    case rel => exact ⟨wrap64 (i + 1), eS_, ⟨by rw [hwr.out]; have h1 := HI.out; have h2 := HL.out; omega⟩, ⟨qb_ BW.out hb1⟩, ⟨fun j hj => by
     rw [hwr.out] at hj; have h1 := HI.out
     by_cases e : j = i.toNat
     ·subst e; exact HQ.out
     ·exact A.out j (by omega)⟩⟩
  ·have hltb : decide (i < (l0.length : Int)) = false := decide_eq_false hlt; have HL := Zq_.mk hlt; clear hlt
   go_wp2
   go_ret
   refine ⟨?_, BW.out⟩; have h1 := HI.out; have h2 := HL.out; rw [idxI_miss p l0 z40 (fun j hj => A.out j (by omega))]; rfl
def entry_May.f (aC : Int) (aB : Int) (aD : ByteArray) : Option (Bool) := if aC ≥ 0 then (if aC < 12 then (if aB ≥ 1 then (if aB ≤ 1099511627776 then (some (decide ((aD.size : Int) ≤ 200))) else (some false)) else (some false)) else (some false)) else (some false)
theorem entry_May.calls (aC : Int) (aB : Int) (aD : ByteArray) (r : Bool) (w : World) (h : entry_May.f aC aB aD = some r) :
  Calls Try.prog 30 #[.agg #[.int .i64 aC, .int .i64 aB, .string aD]] w fun e w' => e = .returned (.bool r) ∧ Below w.heap.size w w' := by
 have hu40 := Try.underlying40; have HB := Zq_.mk (Below.refl w.heap.size w); have H : (if aC ≥ 0 then (if aC < 12 then (if aB ≥ 1 then (if aB ≤ 1099511627776 then (some (decide ((aD.size : Int) ≤ 200))) else (some false)) else (some false)) else (some false)) else (some false)) = some r := h; clear h
 by_cases c2 : aC ≥ 0
 ·rw [if_pos c2] at H; have c2b0 : decide (0 ≤ aC) = true := decide_eq_true c2; clear c2
  by_cases c3 : aC < 12
  ·rw [if_pos c3] at H; have c3b0 : decide (aC < 12) = true := decide_eq_true c3; clear c3
   by_cases c4 : aB ≥ 1
   ·rw [if_pos c4] at H; have c4b0 : decide (1 ≤ aB) = true := decide_eq_true c4; clear c4
    by_cases c5 : aB ≤ 1099511627776
    ·rw [if_pos c5] at H; have c5b0 : decide (aB ≤ 1099511627776) = true := decide_eq_true c5; clear c5; obtain rfl := Option.some.inj H
     go_enter Try.func30, Try.ntmps30
     go_wp2_with (first | ((with_reducible refine qi_ (N := 1) rfl ?_); (try (refine vc_ (by rfl) ?_; dsimp only)); refine bE_ 1 #[.int .i64 aC, .int .i64 aB, .string aD] 40 ?_; intro aE hg w6 hbox hb; have aA := Zq_.mk (hbox); have aF := gW_ (w := w) hg (hB_ HB); have aG := gW_ (w := w) hg (hB_ HB); replace HB := Zq_.mk (qb_ (hB_ HB) hb); clear hb hbox hg; obtain ⟨hcz7_0, hcz7_1, hcz7_2⟩ := c3_ aA; obtain ⟨hfz7_0, hfz7_1, hfz7_2⟩ := f3_ aA))
     go_ret
     exact ⟨by exact eW_, by exact hSet_ HB⟩
    ·rw [if_neg c5] at H; have c5b0 : decide (aB ≤ 1099511627776) = false := decide_eq_false c5; clear c5; obtain rfl := Option.some.inj H
     go_enter Try.func30, Try.ntmps30
     go_wp2_with (first | ((with_reducible refine qi_ (N := 1) rfl ?_); (try (refine vc_ (by rfl) ?_; dsimp only)); refine bE_ 1 #[.int .i64 aC, .int .i64 aB, .string aD] 40 ?_; intro aE hg w8 hbox hb; have aA := Zq_.mk (hbox); have aF := gW_ (w := w) hg (hB_ HB); have aG := gW_ (w := w) hg (hB_ HB); replace HB := Zq_.mk (qb_ (hB_ HB) hb); clear hb hbox hg; obtain ⟨hcz9_0, hcz9_1, hcz9_2⟩ := c3_ aA; obtain ⟨hfz9_0, hfz9_1, hfz9_2⟩ := f3_ aA))
     go_ret
     exact ⟨by exact eW_, by exact hSet_ HB⟩
   ·rw [if_neg c4] at H; have c4b0 : decide (1 ≤ aB) = false := decide_eq_false c4; clear c4; obtain rfl := Option.some.inj H
    go_enter Try.func30, Try.ntmps30
    go_wp2_with (first | ((with_reducible refine qi_ (N := 1) rfl ?_); (try (refine vc_ (by rfl) ?_; dsimp only)); refine bE_ 1 #[.int .i64 aC, .int .i64 aB, .string aD] 40 ?_; intro aE hg w10 hbox hb; have aA := Zq_.mk (hbox); have aF := gW_ (w := w) hg (hB_ HB); have aG := gW_ (w := w) hg (hB_ HB); replace HB := Zq_.mk (qb_ (hB_ HB) hb); clear hb hbox hg; obtain ⟨hcz11_0, hcz11_1, hcz11_2⟩ := c3_ aA; obtain ⟨hfz11_0, hfz11_1, hfz11_2⟩ := f3_ aA))
    go_ret
    exact ⟨by exact eW_, by exact hSet_ HB⟩
  ·rw [if_neg c3] at H; have c3b0 : decide (aC < 12) = false := decide_eq_false c3; clear c3; obtain rfl := Option.some.inj H
   go_enter Try.func30, Try.ntmps30
   go_wp2_with (first | ((with_reducible refine qi_ (N := 1) rfl ?_); (try (refine vc_ (by rfl) ?_; dsimp only)); refine bE_ 1 #[.int .i64 aC, .int .i64 aB, .string aD] 40 ?_; intro aE hg w12 hbox hb; have aA := Zq_.mk (hbox); have aF := gW_ (w := w) hg (hB_ HB); have aG := gW_ (w := w) hg (hB_ HB); replace HB := Zq_.mk (qb_ (hB_ HB) hb); clear hb hbox hg; obtain ⟨hcz13_0, hcz13_1, hcz13_2⟩ := c3_ aA; obtain ⟨hfz13_0, hfz13_1, hfz13_2⟩ := f3_ aA))
   go_ret
   exact ⟨by exact eW_, by exact hSet_ HB⟩
 ·rw [if_neg c2] at H; have c2b0 : decide (0 ≤ aC) = false := decide_eq_false c2; clear c2; obtain rfl := Option.some.inj H
  go_enter Try.func30, Try.ntmps30
  go_wp2_with (first | ((with_reducible refine qi_ (N := 1) rfl ?_); (try (refine vc_ (by rfl) ?_; dsimp only)); refine bE_ 1 #[.int .i64 aC, .int .i64 aB, .string aD] 40 ?_; intro aE hg w14 hbox hb; have aA := Zq_.mk (hbox); have aF := gW_ (w := w) hg (hB_ HB); have aG := gW_ (w := w) hg (hB_ HB); replace HB := Zq_.mk (qb_ (hB_ HB) hb); clear hb hbox hg; obtain ⟨hcz15_0, hcz15_1, hcz15_2⟩ := c3_ aA; obtain ⟨hfz15_0, hfz15_1, hfz15_2⟩ := f3_ aA))
  go_ret
  exact ⟨by exact eW_, by exact hSet_ HB⟩
def entry_Top.l0 : Nat → Int → List (S40) → Int → Int → Option (Int)
 | 0, _, _, _, _ => none
 | k + 1, x3, x6, x7, x8 => if x8 < x7 then (if 0 ≤ x8 then (if x8 < (x6.length : Int) then (entry_Top.l0 k (mx x3 ((rd_T40 x6 x8).f1)) x6 x7 (wrap64 (x8 + 1))) else (none)) else (none)) else (some x3)
def entry_Top.f (k : Nat) (l0 : List (S40)) : Option (Int) := entry_Top.l0 k 0 l0 (l0.length : Int) 0
theorem entry_Top.mono_l : ∀ k, (∀ y0 y1 y2 y3, LeO (entry_Top.l0 k y0 y1 y2 y3) (entry_Top.l0 (k + 1) y0 y1 y2 y3))
 | 0 => fun _ _ _ _ r h => by simp [entry_Top.l0] at h
 | k + 1 => by
  have ih0 := entry_Top.mono_l k
  ·intro y0 y1 y2 y3
   unfold entry_Top.l0
   repeat' first
   | (with_reducible exact ih0 _ _ _ _)
   | (with_reducible exact LeO.refl _)
   | (with_reducible exact LeO.none _)
   | (with_reducible refine LeO.ite ?_ ?_)
   | (with_reducible refine LeO.bind ?_ (fun _ => ?_))
   | exact ih0 _ _ _ _
   | exact LeO.none _
   | refine LeO.ite ?_ ?_
   | refine LeO.bind ?_ (fun _ => ?_)
theorem entry_Top.mono : ∀ a0 k, LeO (entry_Top.f k a0) (entry_Top.f (k + 1) a0) := by
 intro a0 k; have ih0 := entry_Top.mono_l k
 unfold entry_Top.f
 repeat' first
   | (with_reducible exact ih0 _ _ _ _)
   | (with_reducible exact LeO.refl _)
   | (with_reducible exact LeO.none _)
   | (with_reducible refine LeO.ite ?_ ?_)
   | (with_reducible refine LeO.bind ?_ (fun _ => ?_))
   | exact ih0 _ _ _ _
   | exact LeO.none _
   | refine LeO.ite ?_ ?_
   | refine LeO.bind ?_ (fun _ => ?_)
theorem entry_Top.calls (k : Nat) (A0 : Option Addr) (c0 : Nat) (l0 : List (S40)) (r : Int) (w : World) (hr0 : Kd.C k40 w A0 l0.length l0) (hc0 : l0.length ≤ c0) (h : entry_Top.f k l0 = some r) :
  Calls Try.prog 42 #[.slice A0 l0.length c0] w fun e w' => e = .returned (.int .i64 r) ∧ Below w.heap.size w w' := by
 have hu40 := Try.underlying40; have HR0 := Zq_.mk hr0; have HC0 := Zq_.mk hc0; clear hr0 hc0; have HB := Zq_.mk (Below.refl w.heap.size w); have H : (entry_Top.l0 k 0 l0 (l0.length : Int) 0) = some r := h; clear h; have H' := Zq_.mk H; clear H
 go_enter Try.func42, Try.ntmps42
 go_wp2
 go_loopg [3, 8] k (fun kq v3 v8 w' => ∃ (aE : Int) (aA : Int), v3 = .int .i64 aE ∧ v8 = .int .i64 aA ∧ Zq_ (entry_Top.l0 kq aE l0 (l0.length : Int) aA = some r) ∧ Zq_ (kq ≤ k) ∧ Zq_ (Below w.heap.size w w'))
 case atStart => exact ⟨(0), (0), eS_, eS_, H', ⟨Nat.le_refl _⟩, ⟨hB_ HB⟩⟩
 case round =>
  clear H'; obtain ⟨aE, aA, rfl, rfl, HA, HK1, HB⟩ := hrel
  cases gk with
  | zero => exact absurd HA.out (by simp [entry_Top.l0])
  | succ k1 =>
   have H := HA.out; clear HA; simp only [entry_Top.l0] at H
   by_cases c2 : aA < (l0.length : Int)
   ·rw [if_pos c2] at H; have c2b0 : decide (aA < (l0.length : Int)) = true := decide_eq_true c2; clear c2
    by_cases c3 : 0 ≤ aA
    ·rw [if_pos c3] at H; have c3b0 : decide (0 ≤ aA) = true := decide_eq_true c3; clear c3
     by_cases c4 : aA < (l0.length : Int)
     ·rw [if_pos c4] at H; have c4b0 : decide (aA < (l0.length : Int)) = true := decide_eq_true c4; clear c4; obtain ⟨ji5, aF⟩ : ∃ j_ : Int, (mx aE ((rd_T40 l0 aA).f1)) = j_ := ⟨_, rfl⟩
      replace H : (entry_Top.l0 k1 ji5 l0 (l0.length : Int) (wrap64 (aA + 1))) = some r := by first | (rw [aF] at H; exact H) | (simp only [aF] at H ⊢; exact H)
      have hji5_ : (if aE < ((rd_T40 l0 aA).f1) then ((rd_T40 l0 aA).f1) else aE) = ji5 := aF; have H' := Zq_.mk H; clear H; have aI : 0 ≤ (aA : Int) := dA_; have aH : aA < (l0.length : Int) := dA_; obtain ⟨ad101, e101, aD, aC, aB⟩ := at_T40 HR0.out aA aI aH; cases e101; replace aD := hC_ HB aD; replace aC := hC_ HB aC; replace aB := hC_ HB aB; replace aI := eq_true aI; replace aH := eq_true aH
      go_wp2_with (first | ((with_reducible refine qi_ (N := 5) rfl ?_); refine bE_ 5 #[.int .i64 0, .int .i64 0, .string (⟨#[]⟩ : ByteArray)] 40 ?_; intro gb102 hg w6 hbox hb; have aG := Zq_.mk (hbox); have GW102 := gW_ (w := w) hg (hB_ HB); have GE102 := gW_ (w := w) hg (hB_ HB); replace HB := Zq_.mk (qb_ (hB_ HB) hb); clear hb hbox hg; obtain ⟨hcz7_0, hcz7_1, hcz7_2⟩ := c3_ aG; obtain ⟨hfz7_0, hfz7_1, hfz7_2⟩ := f3_ aG))
      go_roundg k1
      case measure => have := HK1.out; omega
      case rel => exact ⟨(ji5), (wrap64 (aA + 1)), (by first | rfl | (simp; done) | (simp only [← aF] <;> (first | rfl | simp)) | (simp [*]; done)), eS_, H', ⟨by have := HK1.out; omega⟩, ⟨by exact hSet_ HB⟩⟩
     ·rw [if_neg c4] at H; exact absurd H (by simp)
    ·rw [if_neg c3] at H; exact absurd H (by simp)
   ·rw [if_neg c2] at H; have c2b0 : decide (aA < (l0.length : Int)) = false := decide_eq_false c2; clear c2; obtain rfl := Option.some.inj H
    go_wp2
    go_ret
    exact ⟨by exact eW_, hB_ HB⟩
theorem eqA40 (d : Nat) (w : World) (x0 y0 : Int) (x1 y1 : Int) (x2 y2 : ByteArray) :
  (Op.equalIn (d + 2) 40 (.agg #[.int .i64 x0, .int .i64 x1, .string x2]) (.agg #[.int .i64 y0, .int .i64 y1, .string y2])).run Try.prog w = .ok (x0 == y0 && (x1 == y1 && (x2.toList == y2.toList))) w := by
 refine eqA_of Try.underlying40 (by kernel_rfl) ?_; refine eqf_cons (by rfl) (by go_simp; rfl) (by go_simp; rfl) (by go_simp) ?_; refine eqf_cons (by rfl) (by go_simp; rfl) (by go_simp; rfl) (by go_simp) ?_; exact eqf_last (by rfl) (by go_simp; rfl) (by go_simp; rfl) (by go_simp)
def ref04_above.f (aK : Int) (aD : Int) (aJ : ByteArray) (bC : Int) (aI : Int) (aV : ByteArray) : Option (Bool) := if aD > aI then (some true) else (if aD = aI then (some (Op.bytesLess aV.toList aJ.toList)) else (some false))
theorem ref04_above.calls (aK : Int) (aD : Int) (aJ : ByteArray) (bC : Int) (aI : Int) (aV : ByteArray) (r : Bool) (w : World) (h : ref04_above.f aK aD aJ bC aI aV = some r) :
  Calls Try.prog 53 #[.agg #[.int .i64 aK, .int .i64 aD, .string aJ], .agg #[.int .i64 bC, .int .i64 aI, .string aV]] w fun e w' => e = .returned (.bool r) ∧ Below w.heap.size w w' := by
 have hu40 := Try.underlying40; have HB := Zq_.mk (Below.refl w.heap.size w); have H : (if aD > aI then (some true) else (if aD = aI then (some (Op.bytesLess aV.toList aJ.toList)) else (some false))) = some r := h; clear h
 by_cases c3 : aD > aI
 ·rw [if_pos c3] at H; have bM : decide (aI < aD) = true := decide_eq_true c3; clear c3; obtain rfl := Option.some.inj H
  go_enter Try.func53, Try.ntmps53
  go_wp2_with (first | ((with_reducible refine qi_ (N := 2) rfl ?_); refine bE_ 2 #[.int .i64 aK, .int .i64 aD, .string aJ] 40 ?_; intro aE hg w4 hbox hb; have aC := Zq_.mk (hbox); have bG := gW_ (w := w) hg (hB_ HB); have bI := gW_ (w := w) hg (hB_ HB); replace HB := Zq_.mk (qb_ (hB_ HB) hb); clear hb hbox hg) | ((with_reducible refine qi_ (N := 3) rfl ?_); refine bE_ 3 #[.int .i64 bC, .int .i64 aI, .string aV] 40 ?_; intro aR hg w5 hbox hb; have aT := Zq_.mk (hbox); have bF := gW_ (w := w) hg (by exact hSet_ HB); have bH := gW_ (w := w) hg (by exact hSet_ HB); replace HB := Zq_.mk (qb_ (by exact hSet_ HB) hb); have aH := Zq_.mk ((by rw [hg]; exact Nat.ne_of_lt (blk_lt (g := aE) (o := .cells #[.int .i64 aK, .int .i64 aD, .string aJ] 40 (0, 0)) (by exact bK_ aC)) : aE ≠ aR)); have aG := Zq_.mk ((by rw [hg]; exact Nat.ne_of_gt (blk_lt (g := aE) (o := .cells #[.int .i64 aK, .int .i64 aD, .string aJ] 40 (0, 0)) (by exact bK_ aC)) : aR ≠ aE)); replace aC := Zq_.mk (qa_ (g := aE) (o := .cells #[.int .i64 aK, .int .i64 aD, .string aJ] 40 (0, 0)) (by exact bK_ aC) hb); clear hb hbox hg; have hnb6 := aH.out; have hnc6 := aG.out; obtain ⟨hcz7_0, hcz7_1, hcz7_2⟩ := c3_ aC; obtain ⟨hfz7_0, hfz7_1, hfz7_2⟩ := f3_ aC; obtain ⟨hcz8_0, hcz8_1, hcz8_2⟩ := c3_ aT; obtain ⟨hfz8_0, hfz8_1, hfz8_2⟩ := f3_ aT))
  go_ret
  exact ⟨by exact eW_, by exact hSet_ HB⟩
 ·rw [if_neg c3] at H; have bM : decide (aI < aD) = false := decide_eq_false c3; clear c3
  by_cases c9 : aD = aI
  ·rw [if_pos c9] at H; have c9b0 : (aD == aI) = true := beq_iff_eq.mpr c9; have c9b1 : (aD != aI) = false := bne_eq_false_iff_eq.mpr c9; clear c9; obtain rfl := Option.some.inj H
   go_enter Try.func53, Try.ntmps53
   go_wp2_with (first | ((with_reducible refine qi_ (N := 2) rfl ?_); refine bE_ 2 #[.int .i64 aK, .int .i64 aD, .string aJ] 40 ?_; intro aE hg w10 hbox hb; have aC := Zq_.mk (hbox); have bG := gW_ (w := w) hg (hB_ HB); have bI := gW_ (w := w) hg (hB_ HB); replace HB := Zq_.mk (qb_ (hB_ HB) hb); clear hb hbox hg) | ((with_reducible refine qi_ (N := 3) rfl ?_); refine bE_ 3 #[.int .i64 bC, .int .i64 aI, .string aV] 40 ?_; intro aR hg w11 hbox hb; have aT := Zq_.mk (hbox); have bF := gW_ (w := w) hg (by exact hSet_ HB); have bH := gW_ (w := w) hg (by exact hSet_ HB); replace HB := Zq_.mk (qb_ (by exact hSet_ HB) hb); have aH := Zq_.mk ((by rw [hg]; exact Nat.ne_of_lt (blk_lt (g := aE) (o := .cells #[.int .i64 aK, .int .i64 aD, .string aJ] 40 (0, 0)) (by exact bK_ aC)) : aE ≠ aR)); have aG := Zq_.mk ((by rw [hg]; exact Nat.ne_of_gt (blk_lt (g := aE) (o := .cells #[.int .i64 aK, .int .i64 aD, .string aJ] 40 (0, 0)) (by exact bK_ aC)) : aR ≠ aE)); replace aC := Zq_.mk (qa_ (g := aE) (o := .cells #[.int .i64 aK, .int .i64 aD, .string aJ] 40 (0, 0)) (by exact bK_ aC) hb); clear hb hbox hg; have hnb12 := aH.out; have hnc12 := aG.out; obtain ⟨hcz13_0, hcz13_1, hcz13_2⟩ := c3_ aC; obtain ⟨hfz13_0, hfz13_1, hfz13_2⟩ := f3_ aC; obtain ⟨hcz14_0, hcz14_1, hcz14_2⟩ := c3_ aT; obtain ⟨hfz14_0, hfz14_1, hfz14_2⟩ := f3_ aT))
   go_ret
   exact ⟨by exact eW_, by exact hSet_ HB⟩
  ·rw [if_neg c9] at H; have c9b0 : (aD == aI) = false := beq_eq_false_iff_ne.mpr c9; have c9b1 : (aD != aI) = true := bne_iff_ne.mpr c9; obtain rfl := Option.some.inj H
   go_enter Try.func53, Try.ntmps53
   go_wp2_with (first | ((with_reducible refine qi_ (N := 2) rfl ?_); refine bE_ 2 #[.int .i64 aK, .int .i64 aD, .string aJ] 40 ?_; intro aE hg w15 hbox hb; have aC := Zq_.mk (hbox); have bG := gW_ (w := w) hg (hB_ HB); have bI := gW_ (w := w) hg (hB_ HB); replace HB := Zq_.mk (qb_ (hB_ HB) hb); clear hb hbox hg) | ((with_reducible refine qi_ (N := 3) rfl ?_); refine bE_ 3 #[.int .i64 bC, .int .i64 aI, .string aV] 40 ?_; intro aR hg w16 hbox hb; have aT := Zq_.mk (hbox); have bF := gW_ (w := w) hg (by exact hSet_ HB); have bH := gW_ (w := w) hg (by exact hSet_ HB); replace HB := Zq_.mk (qb_ (by exact hSet_ HB) hb); have aH := Zq_.mk ((by rw [hg]; exact Nat.ne_of_lt (blk_lt (g := aE) (o := .cells #[.int .i64 aK, .int .i64 aD, .string aJ] 40 (0, 0)) (by exact bK_ aC)) : aE ≠ aR)); have aG := Zq_.mk ((by rw [hg]; exact Nat.ne_of_gt (blk_lt (g := aE) (o := .cells #[.int .i64 aK, .int .i64 aD, .string aJ] 40 (0, 0)) (by exact bK_ aC)) : aR ≠ aE)); replace aC := Zq_.mk (qa_ (g := aE) (o := .cells #[.int .i64 aK, .int .i64 aD, .string aJ] 40 (0, 0)) (by exact bK_ aC) hb); clear hb hbox hg; have hnb17 := aH.out; have hnc17 := aG.out; obtain ⟨hcz18_0, hcz18_1, hcz18_2⟩ := c3_ aC; obtain ⟨hfz18_0, hfz18_1, hfz18_2⟩ := f3_ aC; obtain ⟨hcz19_0, hcz19_1, hcz19_2⟩ := c3_ aT; obtain ⟨hfz19_0, hfz19_1, hfz19_2⟩ := f3_ aT))
   go_ret
   exact ⟨by exact eW_, by exact hSet_ HB⟩
def ref04_Above.l0 : Nat → List (S40) → Int → List (S40) → Int → Option ((List (S40)))
 | 0, _, _, _, _ => none
 | k + 1, x0, x1, x5, x6 => if x6 < (x0.length : Int) then (if 0 ≤ x6 then (if ((rd_T40 x0 x6).f1) > x1 then (if x5.length < 4398046511104 then (ref04_Above.l0 k x0 x1 (x5 ++ [(⟨(rd_T40 x0 x6).f0, (rd_T40 x0 x6).f1, (rd_T40 x0 x6).f2⟩ : S40)]) (wrap64 (x6 + 1))) else (none)) else (ref04_Above.l0 k x0 x1 x5 (wrap64 (x6 + 1)))) else (none)) else (some x5)
def ref04_Above.f (k : Nat) (l0 : List (S40)) (a1 : Int) : Option ((List (S40))) := ref04_Above.l0 k l0 a1 ([] : List (S40)) 0
theorem ref04_Above.mono_l : ∀ k, (∀ y0 y1 y2 y3, LeO (ref04_Above.l0 k y0 y1 y2 y3) (ref04_Above.l0 (k + 1) y0 y1 y2 y3))
 | 0 => fun _ _ _ _ r h => by simp [ref04_Above.l0] at h
 | k + 1 => by
  have ih0 := ref04_Above.mono_l k
  ·intro y0 y1 y2 y3
   unfold ref04_Above.l0
   repeat' first
   | (with_reducible exact ih0 _ _ _ _)
   | (with_reducible exact LeO.refl _)
   | (with_reducible exact LeO.none _)
   | (with_reducible refine LeO.ite ?_ ?_)
   | (with_reducible refine LeO.bind ?_ (fun _ => ?_))
   | exact ih0 _ _ _ _
   | exact LeO.none _
   | refine LeO.ite ?_ ?_
   | refine LeO.bind ?_ (fun _ => ?_)
theorem ref04_Above.mono : ∀ a0 a1 k, LeO (ref04_Above.f k a0 a1) (ref04_Above.f (k + 1) a0 a1) := by
 intro a0 a1 k; have ih0 := ref04_Above.mono_l k
 unfold ref04_Above.f
 repeat' first
   | (with_reducible exact ih0 _ _ _ _)
   | (with_reducible exact LeO.refl _)
   | (with_reducible exact LeO.none _)
   | (with_reducible refine LeO.ite ?_ ?_)
   | (with_reducible refine LeO.bind ?_ (fun _ => ?_))
   | exact ih0 _ _ _ _
   | exact LeO.none _
   | refine LeO.ite ?_ ?_
   | refine LeO.bind ?_ (fun _ => ?_)
theorem ref04_Above.calls (k : Nat) (A0 : Option Addr) (c0 : Nat) (l0 : List (S40)) (a1 : Int) (r : List (S40)) (w : World) (hr0 : Kd.C k40 w A0 l0.length l0) (hc0 : l0.length ≤ c0) (h : ref04_Above.f k l0 a1 = some r) :
  Calls Try.prog 46 #[.slice A0 l0.length c0, .int .i64 a1] w fun e w' => ∃ v0_ : Value, e = .returned (v0_) ∧ Kd.R k40 40 w' w.heap.size (fun _ => True) v0_ r ∧ Below w.heap.size w w' := by
 have hu40 := Try.underlying40; have HR0 := Zq_.mk hr0; have HC0 := Zq_.mk hc0; clear hr0 hc0; have HB := Zq_.mk (Below.refl w.heap.size w); have H : (ref04_Above.l0 k l0 a1 ([] : List (S40)) 0) = some r := h; clear h; have H' := Zq_.mk H; clear H
 go_enter Try.func46, Try.ntmps46
 go_wp2
 go_loopg [5, 6] k (fun kq v5 v6 w' => ∃ (aW : List (S40)) (aA : Int), v6 = .int .i64 aA ∧ Zq_ (ref04_Above.l0 kq l0 a1 aW aA = some r) ∧ Zq_ (kq ≤ k) ∧ Zq_ (Kd.R k40 40 w' w.heap.size (fun _ => True) v5 aW) ∧ Zq_ (Below w.heap.size w w'))
 case atStart => exact ⟨(([] : List (S40))), (0), eS_, H', ⟨Nat.le_refl _⟩, ⟨by first | exact Kd.R_nil _ _ _ _ _ | exact Kd.N_nil _ _ _ _ _ | exact Kd.V_nil _ _ _ _ _ | exact Kd.Q_nil _ _ _ _ _ | exact Kd.S_nil _ _ _ _ _⟩, ⟨hB_ HB⟩⟩
 case round =>
  clear H'
  try clear p2
  obtain ⟨aW, aA, rfl, HA, HK1, bD, HB⟩ := hrel
  cases gk with
  | zero => exact absurd HA.out (by simp [ref04_Above.l0])
  | succ k1 =>
   have H := HA.out; clear HA; simp only [ref04_Above.l0] at H
   by_cases c3 : aA < (l0.length : Int)
   ·rw [if_pos c3] at H; have bM : decide (aA < (l0.length : Int)) = true := decide_eq_true c3; clear c3
    by_cases c4 : 0 ≤ aA
    ·rw [if_pos c4] at H; have c4b0 : decide (0 ≤ aA) = true := decide_eq_true c4; clear c4
     by_cases c5 : ((rd_T40 l0 aA).f1) > a1
     ·rw [if_pos c5] at H; have c5b0 : decide (a1 < ((rd_T40 l0 aA).f1)) = true := decide_eq_true c5; clear c5
      by_cases c6 : aW.length < 4398046511104
      ·rw [if_pos c6] at H; have LMc6 := Zq_.mk c6; clear c6; obtain ⟨bN, aU⟩ : ∃ y_ : List (S40), y_ = (aW ++ [(⟨(rd_T40 l0 aA).f0, (rd_T40 l0 aA).f1, (rd_T40 l0 aA).f2⟩ : S40)]) := ⟨_, rfl⟩
       replace H : (ref04_Above.l0 k1 l0 a1 bN (wrap64 (aA + 1))) = some r := by first | (rw [aU]; with_reducible exact H) | (have H2_ := (Option.bind_some _ _).symm.trans H; rw [aU]; with_reducible exact H2_) | (have H2_ := (Option.bind_some _ _).symm.trans H; with_reducible exact H2_) | with_reducible exact H | (rw [aU]; exact H) | exact H
       have bP := Zq_.mk aU; clear aU; have H' := Zq_.mk H; clear H; have aY : 0 ≤ (aA : Int) := dA_; have aX : aA < (l0.length : Int) := dA_; obtain ⟨bE, bL, aQ, aN, aM⟩ := at_T40 HR0.out aA aY aX; cases bL; replace aQ := hC_ HB aQ; replace aN := hC_ HB aN; replace aM := hC_ HB aM; replace aY := eq_true aY; replace aX := eq_true aX; have bK : 0 ≤ (aA : Int) := dA_; have bJ : aA < (l0.length : Int) := dA_; obtain ⟨bO, e102, bB, bA, aZ⟩ := at_T40 HR0.out aA bK bJ; obtain rfl : bE = bO := (by injection e102); replace bB := hC_ HB bB; replace bA := hC_ HB bA; replace aZ := hC_ HB aZ; replace bK := eq_true bK; replace bJ := eq_true bJ
       go_wp2_with (first | ((with_reducible refine qy_ (b := .append) (xs := #[.tmp 20, .tmp 25]) rfl ?_); at_builtin; refine Kd.R_append k40 (w0 := w) w.heap.size rfl (.tmp 20) (.tmp 25) 22 40 (.agg #[(.int .i64 0), (.int .i64 0), (.string ⟨#[]⟩)]) 32 rfl Try.underlying22 info40 rfl (by decide) (by omega) u5 aW (⟨(rd_T40 l0 aA).f0, (rd_T40 l0 aA).f1, (rd_T40 l0 aA).f2⟩ : S40) [.int .i64 ((rd_T40 l0 aA).f0), .int .i64 ((rd_T40 l0 aA).f1), .string ((rd_T40 l0 aA).f2)] (fun _ => True) (fun _ => False) rfl rfl ?aP (fun _ hk => hk.elim) ?aF ?aO ?aB ?aS ?aL ?_; (case aP => exact k40_mkM _ _ _ (⟨(rd_T40 l0 aA).f0, (rd_T40 l0 aA).f1, (rd_T40 l0 aA).f2⟩ : S40)); (case aB => exact (hB_ HB)); (case aF => exact (fun _ _ => trivial)); (case aO => exact (vX_ bD)); (case aS => exact (qe_ (hB_ HB))); (case aL => have := LMc6.out; omega); intro v104 w7 ho hb hg hat; rw [← bP.out] at ho; replace HB := Zq_.mk (hb); have bQ := Zq_.mk (ho); clear bD; clear ho hb hg hat))
       go_roundg k1
       case measure => have := HK1.out; omega
       case rel => exact ⟨(bN), (wrap64 (aA + 1)), eS_, H', ⟨by have := HK1.out; omega⟩, ⟨by (with_reducible repeat (first | apply Kd.qm_ | apply Kd.ql_ | apply Kd.R_drew)); exact bQ.out⟩, ⟨hB_ HB⟩⟩
      ·rw [if_neg c6] at H; exact absurd H (by simp)
     ·rw [if_neg c5] at H; have c5b0 : decide (a1 < ((rd_T40 l0 aA).f1)) = false := decide_eq_false c5; clear c5; have H' := Zq_.mk H; clear H; have aY : 0 ≤ (aA : Int) := dA_; have aX : aA < (l0.length : Int) := dA_; obtain ⟨bE, bL, aQ, aN, aM⟩ := at_T40 HR0.out aA aY aX; cases bL; replace aQ := hC_ HB aQ; replace aN := hC_ HB aN; replace aM := hC_ HB aM; replace aY := eq_true aY; replace aX := eq_true aX
      go_wp2
      go_roundg k1
      case measure => have := HK1.out; omega
      case rel => exact ⟨(aW), (wrap64 (aA + 1)), eS_, H', ⟨by have := HK1.out; omega⟩, ⟨by (with_reducible repeat (first | apply Kd.qm_ | apply Kd.ql_ | apply Kd.R_drew)); exact bD.out⟩, ⟨hB_ HB⟩⟩
    ·rw [if_neg c4] at H; exact absurd H (by simp)
   ·rw [if_neg c3] at H; have bM : decide (aA < (l0.length : Int)) = false := decide_eq_false c3; clear c3; obtain rfl := Option.some.inj H
    go_wp2
    go_ret
    exact ⟨_, by exact eW_, by (with_reducible repeat (first | apply Kd.qm_ | apply Kd.ql_ | apply Kd.R_drew)); exact bD.out, hB_ HB⟩
def ref04_Great.l0 : Nat → List (S40) → Int → Int → Option (Bool)
 | 0, _, _, _ => none
 | k + 1, x0, x3, x4 => if x4 < (x0.length : Int) then (if x3 ≤ 4000 then (if 0 ≤ x4 then (ref04_Great.l0 k x0 (wrap64 (x3 + (((rd_T40 x0 x4).f2).size : Int))) (wrap64 (x4 + 1))) else (none)) else (some (decide (x3 > 4000)))) else (some (decide (x3 > 4000)))
def ref04_Great.f (k : Nat) (l0 : List (S40)) : Option (Bool) := ref04_Great.l0 k l0 (l0.length : Int) 0
theorem ref04_Great.mono_l : ∀ k, (∀ y0 y1 y2, LeO (ref04_Great.l0 k y0 y1 y2) (ref04_Great.l0 (k + 1) y0 y1 y2))
 | 0 => fun _ _ _ r h => by simp [ref04_Great.l0] at h
 | k + 1 => by
  have ih0 := ref04_Great.mono_l k
  ·intro y0 y1 y2
   unfold ref04_Great.l0
   repeat' first
   | (with_reducible exact ih0 _ _ _)
   | (with_reducible exact LeO.refl _)
   | (with_reducible exact LeO.none _)
   | (with_reducible refine LeO.ite ?_ ?_)
   | (with_reducible refine LeO.bind ?_ (fun _ => ?_))
   | exact ih0 _ _ _
   | exact LeO.none _
   | refine LeO.ite ?_ ?_
   | refine LeO.bind ?_ (fun _ => ?_)
theorem ref04_Great.mono : ∀ a0 k, LeO (ref04_Great.f k a0) (ref04_Great.f (k + 1) a0) := by
 intro a0 k; have ih0 := ref04_Great.mono_l k
 unfold ref04_Great.f
 repeat' first
   | (with_reducible exact ih0 _ _ _)
   | (with_reducible exact LeO.refl _)
   | (with_reducible exact LeO.none _)
   | (with_reducible refine LeO.ite ?_ ?_)
   | (with_reducible refine LeO.bind ?_ (fun _ => ?_))
   | exact ih0 _ _ _
   | exact LeO.none _
   | refine LeO.ite ?_ ?_
   | refine LeO.bind ?_ (fun _ => ?_)
theorem ref04_Great.calls (k : Nat) (A0 : Option Addr) (c0 : Nat) (l0 : List (S40)) (r : Bool) (w : World) (hr0 : Kd.C k40 w A0 l0.length l0) (hc0 : l0.length ≤ c0) (h : ref04_Great.f k l0 = some r) :
  Calls Try.prog 47 #[.slice A0 l0.length c0] w fun e w' => e = .returned (.bool r) ∧ Drawn0 w w' := by
 have HR0 := Zq_.mk hr0; have HC0 := Zq_.mk hc0; clear hr0 hc0; have H : (ref04_Great.l0 k l0 (l0.length : Int) 0) = some r := h; clear h; have H' := Zq_.mk H; clear H
 go_enter Try.func47, Try.ntmps47
 go_wp2
 go_loopg [3, 4] k (fun kq v3 v4 w' => ∃ (aB : Int) (aA : Int), v3 = .int .i64 aB ∧ v4 = .int .i64 aA ∧ Zq_ (ref04_Great.l0 kq l0 aB aA = some r) ∧ Zq_ (kq ≤ k) ∧ Drawn0 w w')
 case atStart => exact ⟨((l0.length : Int)), (0), eS_, eS_, H', ⟨Nat.le_refl _⟩, by repeat (first | exact Drawn0.refl _ | apply Drawn0.step)⟩
 case round =>
  clear H'; obtain ⟨aB, aA, rfl, rfl, HA, HK1, ⟨m1, rfl⟩⟩ := hrel
  cases gk with
  | zero => exact absurd HA.out (by simp [ref04_Great.l0])
  | succ k1 =>
   have H := HA.out; clear HA; simp only [ref04_Great.l0] at H
   by_cases c2 : aA < (l0.length : Int)
   ·rw [if_pos c2] at H; have c2b0 : decide (aA < (l0.length : Int)) = true := decide_eq_true c2; clear c2
    by_cases c3 : aB ≤ 4000
    ·rw [if_pos c3] at H; have c3b0 : decide (aB ≤ 4000) = true := decide_eq_true c3; clear c3
     by_cases c4 : 0 ≤ aA
     ·rw [if_pos c4] at H; have c4b0 : decide (0 ≤ aA) = true := decide_eq_true c4; clear c4; have H' := Zq_.mk H; clear H; have aD : 0 ≤ (aA : Int) := dA_; have aC : aA < (l0.length : Int) := dA_; obtain ⟨ad101, e101, hx101_0, hx101_1, hx101_2⟩ := at_T40 HR0.out aA aD aC; cases e101; replace aD := eq_true aD; replace aC := eq_true aC
      go_wp2
      go_roundg k1
      case measure => have := HK1.out; omega
      case rel => exact ⟨(wrap64 (aB + (((rd_T40 l0 aA).f2).size : Int))), (wrap64 (aA + 1)), eS_, eS_, H', ⟨by have := HK1.out; omega⟩, by repeat (first | exact Drawn0.refl _ | apply Drawn0.step)⟩
     ·rw [if_neg c4] at H; exact absurd H (by simp)
    ·rw [if_neg c3] at H; have c3b0 : decide (aB ≤ 4000) = false := decide_eq_false c3; clear c3; obtain rfl := Option.some.inj H
     go_wp2
     go_ret
     exact ⟨by first | rfl | (simp; done) | (simp [*]; done), by repeat (first | exact Drawn0.refl _ | apply Drawn0.step)⟩
   ·rw [if_neg c2] at H; have c2b0 : decide (aA < (l0.length : Int)) = false := decide_eq_false c2; clear c2; obtain rfl := Option.some.inj H
    go_wp2
    go_ret
    exact ⟨by first | rfl | (simp; done) | (simp [*]; done), by repeat (first | exact Drawn0.refl _ | apply Drawn0.step)⟩
end Go.Proofs.Ytfoeahjbkmdgfaa.P

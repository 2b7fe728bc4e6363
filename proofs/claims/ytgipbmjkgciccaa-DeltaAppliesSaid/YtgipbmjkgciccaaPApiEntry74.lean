/- What printed functions come to, and that the machine's calls do it. No condition. -/
import Derived.Test.YtgipbmjkgciccaaPApiDelta
import Derived.Test.YtgipbmjkgciccaaPRef05Right
namespace Go.Proofs.Ytgipbmjkgciccaa.P
set_option maxHeartbeats 16000000
set_option maxRecDepth 100000
open Go.RowKit Go.Proofs.YtgipbmjkgciccaaW.PrintWords Go.Proofs.YtgipbmjkgciccaaW.PrintLast Go.Proofs.YtgipbmjkgciccaaW.PrintMore
attribute [local go_sem] qv_ qt_ vb_ va_ qm_ ql_ qu_ qs_ Go.Proofs.YtgipbmjkgciccaaW.Hw.string_gtr
set_option linter.unusedVariables false
set_option linter.unusedSimpArgs false
open Go.Proofs.YtgipbmjkgciccaaW.Hw in
theorem DeleteFuncE.calls (p : S58 → Bool) (g : Nat) (lb : Array Value) (eg : ∀ args w, (callFunc g args).run Try.prog w = .ok (.enter g args) w) (v : Value) (l0 : List S58) (base : Nat) (ok : Nat → Prop) (w : World)
  (hp : PredR Try.prog k58 g lb aggOf p w v.ownBlock) (hR : Kd.R k58 58 w base ok v l0) (hbase : base ≤ w.heap.size) :
  Calls Try.prog 74 #[v, .func (.func g) #[] lb] w fun e w' => ∃ v', e = .returned v' ∧ Kd.R k58 58 w' base ok v' (l0.filter (fun x => !p x)) ∧ w.grownBy w' v.ownBlock ∧ v'.ownBlock = v.ownBlock := by
 obtain ⟨A0, c0, rfl, hlc, hC⟩ := Kd.R_reads hR; have hcall := IndexFuncE.calls p g lb eg A0 c0 l0 w hp.k hC; have hrange := idxI_range p l0; generalize hix : idxI p l0 = ix at hcall hrange
 by_cases hm : ix = -1
 ·subst hm; have hfin := filter_miss hix; have HR := Zq_.mk hR; have HF := Zq_.mk hfin; clear hR hp hC hix hfin hlc hrange hbase
  go_enter Try.func74, Try.ntmps74
  go_wp2_with fail
  refine hcall.mono ?_; rintro e w1 ⟨rfl, hb1⟩
  go_wp2_with fail
  go_ret
  refine ⟨_, rfl, ?_, grown_of_below hb1 _, rfl⟩; rw [HF.out]; exact Kd.qn_ HR.out hb1
 ·obtain ⟨i0, rfl⟩ := Int.eq_ofNat_of_zero_le (show 0 ≤ ix by omega); have hmb : decide ((i0 : Int) = -1) = false := decide_eq_false hm; have hme : ((i0 : Int) == -1) = false := beq_false_of_ne hm
  have hlen : 0 < l0.length := by omega
  obtain ⟨gr, cap, hv, hgb, hglt, _, _⟩ := Kd.R_form hR hlen
  injection hv with hA _ hc
  subst hA; subst hc; have HR0 := Zq_.mk hR; have HP := Zq_.mk hp; have HS := Zq_.mk (Filt.start hix); have HM := Zq_.mk (Kd.C_max hC); have HLC := Zq_.mk hlc; have HG := Zq_.mk hglt; have HGB := Zq_.mk hgb; have HBS := Zq_.mk hbase; have HI0 := Zq_.mk hrange; have hw0 := Zq_.mk (show wrap64 ((i0 : Int) + 1) = ((i0 + 1 : Nat) : Int) by have := HM.out; have := HI0.out; unfold wrap64; omega); clear hR hp hC hix hlc hrange hbase hglt hgb hlen hm
  go_enter Try.func74, Try.ntmps74
  go_wp2_with fail
  refine hcall.mono ?_; rintro e w1 ⟨rfl, hb1⟩; have HB1 := Zq_.mk hb1; clear hb1 hcall
  go_wp2_with fail
  go_loopg [5, 6, 7] l0.length (fun gg s5 s6 _ wr => ∃ (i j : Int) (cur : List S58), s5 = .int .i64 i ∧ s6 = .int .i64 j ∧ Zq_ (0 ≤ i ∧ 0 ≤ j ∧ l0.length - j.toNat ≤ gg) ∧ Zq_ (Filt (fun x => !p x) l0 cur i.toNat j.toNat) ∧ Zq_ (w.grownBy wr (some gr)) ∧ Zq_ (Kd.R k58 58 wr base ok (.slice (some ⟨gr, 0, none⟩) l0.length c0) cur))
  case atStart => exact ⟨(i0 : Int), wrap64 ((i0 : Int) + 1), l0, rfl, rfl, ⟨by rw [hw0.out]; omega⟩, ⟨by rw [hw0.out]; simpa using HS.out⟩, ⟨grown_of_below HB1.out _⟩, ⟨Kd.qn_ HR0.out HB1.out⟩⟩
  case round =>
   obtain ⟨i, j, cur, rfl, rfl, HI, HF, HW, HR⟩ := hrel; have hlen := HF.out.len
   by_cases hlt : j < (l0.length : Int)
   ·have hltb : decide (j < (l0.length : Int)) = true := decide_eq_true hlt; have p1 := HI.out.2.1; have q1 := HI.out.1
    have hil : i < (l0.length : Int) := by have := HF.out.ij; have := HF.out.jn; omega
    obtain ⟨c, hcl, hM, hcc, hfr⟩ := Kd.R_elem HR.out z58 j p1 hlt; obtain ⟨x, hx⟩ : ∃ x, x = cur.getD j.toNat z58 := ⟨_, rfl⟩; rw [← hx] at hM; obtain rfl := k58_openM hM; obtain ⟨co, hclo, hMo, hcco, hfro⟩ := Kd.R_elem HR.out z58 i q1 hil; obtain rfl := k58_openM hMo; have hx_0 := hcc 0 _ rfl; have hx_1 := hcc 1 _ rfl; have hx_2 := hcc 2 _ rfl; simp only [show (k58).sz = 3 from rfl, Nat.add_zero] at hx_0 hx_1 hx_2
    have hcl2 : ∀ W, w.grownBy W (some gr) → Calls Try.prog g (#[.agg #[.int .i64 x.f0, .int .i64 x.f1, .string x.f2]] ++ lb) W (fun e w1 => e = .returned (.bool (p x)) ∧ Below W.heap.size W w1) := fun W hW => HP.out W x [.int .i64 x.f0, .int .i64 x.f1, .string x.f2] hW (k58_mk W x)
    have HL := Zq_.mk hlt; have HIL := Zq_.mk hil; have HX := Zq_.mk hx; have HN := Zq_.mk hlen; have HCC := Zq_.mk hcco; replace p1 := eq_true p1; replace q1 := eq_true q1; replace hlt := eq_true hlt; replace hil := eq_true hil; have hwj := Zq_.mk (show wrap64 (j + 1) = j + 1 by have := HI.out; have := HM.out; have := HL.out; unfold wrap64; omega); have hwi := Zq_.mk (show wrap64 (i + 1) = i + 1 by have := HI.out; have := HM.out; have := HIL.out; unfold wrap64; omega); clear hcl hM hcc hfr hclo hMo hcco hfro hx hlen
    go_wp2_with (first | ((with_reducible refine qd_ (N := 7) rfl ?_); refine bE_ 7 #[.int .i64 0, .int .i64 0, .string (⟨#[]⟩ : ByteArray)] 58 ?_; intro gb hgb w2 hbox hb2; have HBX := Zq_.mk hbox; have HB2 := Zq_.mk hb2; have HGE := Zq_.mk hgb; have hcz_0 : w2.cell? ⟨gb, 0, none⟩ = some (.int .i64 0) := (qb_ hbox 0).trans rfl; have hcz_1 : w2.cell? ⟨gb, 1, none⟩ = some (.int .i64 0) := (qb_ hbox 1).trans rfl; have hcz_2 : w2.cell? ⟨gb, 2, none⟩ = some (.string (⟨#[]⟩ : ByteArray)) := (qb_ hbox 2).trans rfl; have hfz_0 := qr_ hbox 0; have hfz_1 := qr_ hbox 1; have hfz_2 := qr_ hbox 2; clear hgb hbox hb2))
    have hge : wr.heap.size ≤ gb := by rw [HGE.out]; exact Nat.le_refl _
    have HBT := below_set (below_set (below_set HB2.out hge (j := 0) (v := .int .i64 x.f0)) hge (j := 1) (v := .int .i64 x.f1)) hge (j := 2) (v := .string x.f2); have hcl3 := hcl2 _ (grown_bel HW.out HBT); have HB0 := Zq_.mk HBT; have BK0 := Zq_.mk (blk_set (blk_set (blk_set HBX.out 0 (.int .i64 x.f0)) 1 (.int .i64 x.f1)) 2 (.string x.f2)); clear hcl2 HBT
    cases hq : p x with
    | true =>
     rw [hq] at hcl3; have HQ := Zq_.mk hq; clear hq; refine hcl3.mono ?_; rintro e w3 ⟨rfl, hb3⟩; have HB3 := Zq_.mk (qo_ HB0.out hb3); clear hb3 hcl3
     go_wp2_with fail
     go_roundg (l0.length - (j.toNat + 1))
     case measure => have h1 := HI.out; have h2 := HL.out; omega
     case rel => exact ⟨i, wrap64 (j + 1), cur, eS_, eS_, ⟨by rw [hwj.out]; have h1 := HI.out; have h2 := HL.out; omega⟩, ⟨by rw [hwj.out, show (j + 1).toNat = j.toNat + 1 by have h1 := HI.out; omega]; exact HF.out.skip z58 (by have h1 := HI.out; have h2 := HL.out; omega) (by simp only [← HX.out, HQ.out, Bool.not_true])⟩, ⟨grown_bel HW.out HB3.out⟩, ⟨Kd.qn_ HR.out HB3.out⟩⟩
    | false =>
     rw [hq] at hcl3; have HQ := Zq_.mk hq; clear hq; refine hcl3.mono ?_; rintro e w3 ⟨rfl, hb3⟩; have HB3 := Zq_.mk (qo_ HB0.out hb3); have BK3 := Zq_.mk (blk_bel BK0.out hb3); have hy_0 : w3.cell? ⟨gb, 0, none⟩ = some (.int .i64 x.f0) := (qb_ BK3.out 0).trans rfl; have hy_1 : w3.cell? ⟨gb, 1, none⟩ = some (.int .i64 x.f1) := (qb_ BK3.out 1).trans rfl; have hy_2 : w3.cell? ⟨gb, 2, none⟩ = some (.string x.f2) := (qb_ BK3.out 2).trans rfl; have HR3 := Zq_.mk (Kd.qn_ HR.out HB3.out); have HW3 := Zq_.mk (grown_bel HW.out HB3.out); have HBb := Zq_.mk (show Below base w w3 from (Below.refl base w).grown HW3.out HBS.out (fun k hk => by cases hk; exact HGB.out)); clear hb3 hcl3
     go_wp2_with (first | ((with_reducible refine gate_store (t := 58) (p := 33) rfl ?_); refine Kd.R_store k58 (w0 := w) (W := w3) base rfl rfl 58 (.tmp 33) (.tmp 32) rfl 58 (g := gr) (n := l0.length) (cap := c0) (o' := i.toNat * 3) i 0 cur x (.agg #[.int .i64 x.f0, .int .i64 x.f1, .string x.f2]) [.int .i64 x.f0, .int .i64 x.f1, .string x.f2] [.int .i64 (cur.getD i.toNat z58).f0, .int .i64 (cur.getD i.toNat z58).f1, .string (cur.getD i.toNat z58).f2] ok (fun k => ok k ∧ k ≠ gr) ?ha ?ho ?hx rfl (by kernel_rfl) ?h1 HR3.out (of_eq_true q1) (of_eq_true hil) rfl ?hcc (show (3 : Nat) ≤ 3 from Nat.le_refl 3) (k58_mkM w3 base _ x) (fun _ hk => hk) HBb.out ?_; (case ha => first | rfl | (go_simp; done) | (go_simp; rfl)); (case ho => first | rfl | (simp; done)); (case hx => first | rfl | (go_simp; done) | (go_simp; rfl)); (case h1 => intro q hq_; simp only [List.mem_cons, List.not_mem_nil, or_false] at hq_; rcases hq_ with rfl | rfl | rfl <;> rfl); (case hcc => intro jj u hu; rw [show w3.cell? ⟨gr, i.toNat * (k58).sz + jj, none⟩ = wr.cell? ⟨gr, i.toNat * (k58).sz + jj, none⟩ from HB3.out.cell (p := ⟨gr, i.toNat * (k58).sz + jj, none⟩) (wb_ wr _ (HCC.out jj u hu))]; exact HCC.out jj u hu); intro w4 hR4 hB4 hg4; have HR4 := Zq_.mk hR4; have HW4 := Zq_.mk (World.grownBy.trans HW3.out hg4); clear hR4 hB4 hg4))
     go_roundg (l0.length - (j.toNat + 1))
     case measure => have h1 := HI.out; have h2 := HL.out; omega
     case rel => exact ⟨wrap64 (i + 1), wrap64 (j + 1), cur.set i.toNat x, eS_, eS_, ⟨by rw [hwj.out, hwi.out]; have h1 := HI.out; have h2 := HL.out; omega⟩, ⟨by rw [hwj.out, hwi.out, show (j + 1).toNat = j.toNat + 1 by have h1 := HI.out; omega, show (i + 1).toNat = i.toNat + 1 by have h1 := HI.out; omega, HX.out]; exact HF.out.keep z58 (by have h1 := HI.out; have h2 := HL.out; omega) (by simp only [← HX.out, HQ.out, Bool.not_false])⟩, HW4, HR4⟩
   ·have hltb : decide (j < (l0.length : Int)) = false := decide_eq_false hlt; have HL := Zq_.mk hlt; have q1 := HI.out.1
    have hil : i < (l0.length : Int) := by have := HF.out.ij; have := HF.out.jn; have := HI.out; omega
    have hcap : (l0.length : Int) ≤ (c0 : Int) := by have := HLC.out; omega
    have HIL := Zq_.mk hil; have hlen := HF.out.len
    have hcells : ∀ q, q < (l0.length - i.toNat) * 3 → (wr.cell? ⟨gr, i.toNat * 3 + q, none⟩).isSome = true ∧ wr.frozen? ⟨gr, i.toNat * 3 + q, none⟩ = false := by
     intro q hq; obtain ⟨c, hcl, hM, hcc, hfr⟩ := Kd.R_elem HR.out z58 ((i.toNat + q / 3 : Nat) : Int) (by omega) (by omega); obtain rfl := k58_openM hM
     have e : i.toNat * 3 + q = ((i.toNat + q / 3 : Nat) : Int).toNat * (k58).sz + q % 3 := by rw [Int.toNat_natCast, show (k58).sz = 3 from rfl]; omega
     rw [e]; refine ⟨?_, hfr _⟩
     have h3 : q % 3 = 0 ∨ q % 3 = 1 ∨ q % 3 = 2 := by omega
     rcases h3 with h3 | h3 | h3 <;> rw [h3, hcc _ _ rfl] <;> rfl
    have hcl : ∀ ty, (Builtin.clear_ #[33] ty #[.slice (some ⟨gr, i.toNat * 3, none⟩) (l0.length - i.toNat) (c0 - i.toNat)]).run Try.prog wr = .ok (.tuple #[]) (wr.setCells gr (i.toNat * 3) (Builtin.zeroCells #[.int .i64 0, .int .i64 0, .string ⟨#[]⟩] (l0.length - i.toNat)).toList) := fun ty =>
     run_clear_rows wr 33 58 ty (.agg #[.int .i64 0, .int .i64 0, .string ⟨#[]⟩]) Try.underlying33 (fun _ => by kernel_rfl) (by intro u hu; simp only [Value.cells, List.mem_cons, List.not_mem_nil, or_false] at hu; rcases hu with rfl | rfl | rfl <;> rfl) gr (i.toNat * 3) _ _ (by omega) (fun q hq => (hcells q hq).1) (fun q hq => (hcells q hq).2)
    have HFIN := Zq_.mk (Kd.R_rest HR.out i.toNat (by omega) (Builtin.zeroCells #[.int .i64 0, .int .i64 0, .string ⟨#[]⟩] (l0.length - i.toNat)).toList (by rw [zero_len]; show _ * 3 = _ * 3; rw [hlen])); have HN := Zq_.mk hlen
    have hi2 : i ≤ (l0.length : Int) := by omega
    have hi3 : i ≤ (c0 : Int) := by omega
    have hne : (c0 = i.toNat) = False := eq_false (by omega); clear hcells hlt hlen; replace q1 := eq_true q1; replace hil := eq_true hil; replace hi2 := eq_true hi2; replace hi3 := eq_true hi3; replace hcap := eq_true hcap
    go_wp2_with fail
    go_ret
    refine ⟨_, rfl, ?_, World.grownBy.trans HW.out HFIN.out.2, rfl⟩; have h1 := HFIN.out.1; rw [HF.out.done (by have := HL.out; have := HI.out; omega)] at h1; exact h1
/-- How long rows are, all together. -/
def api_Named_79.tot (l0 : List (List S39)) : Nat := (l0.map List.length).sum
def api_Named_79.f (l0 : List (List S39)) : Option (List S39) := if api_Named_79.tot l0 < 1099511627776 then some l0.flatten else none
theorem api_Named_79.tot_take (l0 : List (List S39)) (i : Nat) (h : i < l0.length) : api_Named_79.tot (l0.take (i + 1)) = api_Named_79.tot (l0.take i) + (l0.getD i []).length := by
 unfold api_Named_79.tot
 rw [List.take_succ_eq_append_getElem h, List.map_append, List.sum_append, List.getD_eq_getElem?_getD, List.getElem?_eq_getElem h]
 simp
theorem api_Named_79.tot_le (l0 : List (List S39)) (i : Nat) : api_Named_79.tot (l0.take i) ≤ api_Named_79.tot l0 := by
 have h : api_Named_79.tot l0 = api_Named_79.tot (l0.take i) + api_Named_79.tot (l0.drop i) := by
  unfold api_Named_79.tot
  rw [← List.sum_append, ← List.map_append, List.take_append_drop]
 omega
theorem api_Named_79.flat_take (l0 : List (List S39)) (i : Nat) (h : i < l0.length) : (l0.take (i + 1)).flatten = (l0.take i).flatten ++ l0.getD i [] := by
 rw [List.take_succ_eq_append_getElem h, List.flatten_append, List.getD_eq_getElem?_getD, List.getElem?_eq_getElem h]
 simp
theorem api_Named_79.flat_len (l0 : List (List S39)) : l0.flatten.length = api_Named_79.tot l0 := by
 unfold api_Named_79.tot
 rw [List.length_flatten]
open Go.Proofs.YtgipbmjkgciccaaW.Hw in
theorem api_Named_79.calls (P0_ : Nat → Prop) (A0 : Option Addr) (c0 : Nat) (l0 : List (List S39)) (r : List S39) (w : World) (hs0 : Kd.V (Kd.slice 39 k39) 22 w w.heap.size (fun k_ => P0_ k_) (.slice A0 l0.length c0) l0) (h : api_Named_79.f l0 = some r) :
  Calls Try.prog 79 #[.slice A0 l0.length c0] w fun e w' => ∃ v0_ : Value, e = .returned v0_ ∧ Kd.V k39 39 w' w.heap.size (fun k_ => (P0_ k_ ∨ w.heap.size ≤ k_)) v0_ r ∧ Below w.heap.size w w' := by
 unfold api_Named_79.f at h
 by_cases hl : api_Named_79.tot l0 < 1099511627776
 case neg => rw [if_neg hl] at h; cases h
 rw [if_pos hl] at h; obtain rfl := Option.some.inj h; have hF0 := Kd.F_bound (Kd.V_F hs0); have HT := Zq_.mk hl; have HR := Zq_.mk hF0; have HL := Zq_.mk (Kd.F_max hF0); clear h hl hs0 hF0; have HB0 := Zq_.mk (Below.refl w.heap.size w)
 go_enter Try.func79, Try.ntmps79
 go_wp2
 go_loopg [3, 11] l0.length (fun kx s3 s11 wr => ∃ i : Nat, s3 = .int .i64 ((api_Named_79.tot (l0.take i) : Nat) : Int) ∧ s11 = .int .i64 (i : Int) ∧ Zq_ (i ≤ l0.length ∧ l0.length - i ≤ kx) ∧ Zq_ (Below w.heap.size w wr))
 case atStart => exact ⟨0, rfl, rfl, ⟨by omega⟩, HB0⟩
 case round =>
  obtain ⟨i, rfl, rfl, HI, BW⟩ := hrel
  by_cases hlt : i < l0.length
  ·have p1 : (0 : Int) ≤ (i : Int) := by omega
   have p2 : (i : Int) < (l0.length : Int) := by omega
   obtain ⟨ad, c, e_, hcl, hK, hcell, _⟩ := Kd.F_get HR.out ([] : List S39) (i : Int) p1 p2; cases e_; obtain ⟨Ai, ci, rfl, hli, hCi⟩ := Kd.FK_slice_open hK
   have hx_0 : wr.cell? (ad.add i) = some (.slice Ai (l0.getD i []).length ci) := by
    have h0 := hcell 0 _ rfl
    have e9 : ((i : Int).toNat * (Kd.slice 39 k39).sz + 0) = i := by show i * 1 + 0 = i; omega
    rw [e9] at h0; exact (BW.out.cell (wb_ w _ h0)).trans h0
   have hT := api_Named_79.tot_take l0 i hlt; have hT2 := api_Named_79.tot_le l0 (i + 1); have hT3 := HT.out
   have hw1 : wrap64 (((api_Named_79.tot (l0.take i) : Nat) : Int) + ((l0.getD i []).length : Int)) = ((api_Named_79.tot (l0.take (i + 1)) : Nat) : Int) := by unfold wrap64; omega
   have hlw := HL.out
   have hw2 : wrap64 ((i : Int) + 1) = ((i + 1 : Nat) : Int) := by unfold wrap64; omega
   have hneg : decide (((api_Named_79.tot (l0.take (i + 1)) : Nat) : Int) < 0) = false := decide_eq_false (Int.not_lt.2 (Int.natCast_nonneg _)); have p3 := decide_eq_true p2; have p5 := decide_eq_true hlt; have p6 := eq_true hlt; replace p1 := eq_true p1; replace p2 := eq_true p2; have HLT := Zq_.mk hlt; clear hcl hcell hK hli hCi hT hT2 hT3 hlw hlt; generalize (l0.getD i []).length = len at hx_0 hw1
   go_wp2
   go_roundg (l0.length - (i + 1))
   case measure => have h1 := HI.out; have h2 := HLT.out; omega
   case rel => exact ⟨i + 1, eS_, eS_, ⟨by have h1 := HI.out; have h2 := HLT.out; omega⟩, BW⟩
  ·obtain rfl : i = l0.length := by have := HI.out; omega
   have hT3 := HT.out
   have hG := fun W => GrowN.calls (api_Named_79.tot l0) (by omega) W
   rw [List.take_length]; have HG := Zq_.mk hG; clear hG hT3 hlt
   go_wp2_with (go_at_call 84; refine (HG.out _).mono ?_; rintro e w3 ⟨v3, rfl, ho3, hb3⟩; have HO3 := Zq_.mk (Kd.N_mono (Kd.R_N (Kd.vd_ (Kd.R_bound ho3) (qa_ BW.out))) (ok' := fun k_ => ((P0_ k_ ∧ k_ < w.heap.size) ∨ w.heap.size ≤ k_)) (fun k hk => Or.inr (Nat.le_trans (qa_ BW.out) hk.2.1))); have HB3 := Zq_.mk (qo_ BW.out hb3); clear ho3 hb3)
   go_loopg [6, 27] l0.length (fun kx s6 s27 wr => ∃ (i : Nat) (v : Value), s27 = .int .i64 (i : Int) ∧ v = s6 ∧ Zq_ (i ≤ l0.length ∧ l0.length - i ≤ kx) ∧ Zq_ (Below w.heap.size w wr) ∧ Zq_ (Kd.N k39 39 wr w.heap.size (fun k_ => ((P0_ k_ ∧ k_ < w.heap.size) ∨ w.heap.size ≤ k_)) v (l0.take i).flatten))
   case atStart => exact ⟨0, v3, rfl, rfl, ⟨by omega⟩, HB3, HO3⟩
   case round =>
    obtain ⟨i, v6, rfl, hv6, HI2, BW2, HO⟩ := hrel; subst hv6
    by_cases hlt : i < l0.length
    ·have p1 : (0 : Int) ≤ (i : Int) := by omega
     have p2 : (i : Int) < (l0.length : Int) := by omega
     obtain ⟨ad, c, e_, hcl, hK, hcell, _⟩ := Kd.F_get HR.out ([] : List S39) (i : Int) p1 p2; cases e_; obtain ⟨Ai, ci, rfl, hli, hCi⟩ := Kd.FK_slice_open hK
     have hx_0 : wr.cell? (ad.add i) = some (.slice Ai (l0.getD i []).length ci) := by
      have h0 := hcell 0 _ rfl
      have e9 : ((i : Int).toNat * (Kd.slice 39 k39).sz + 0) = i := by show i * 1 + 0 = i; omega
      rw [e9] at h0; exact (BW2.out.cell (wb_ w _ h0)).trans h0
     have HCI := Zq_.mk (show Kd.F k39 w (fun k_ => P0_ k_ ∧ k_ < w.heap.size) Ai (l0.getD i []).length (l0.getD i []) from hCi); have hlw := HL.out
     have hw2 : wrap64 ((i : Int) + 1) = ((i + 1 : Nat) : Int) := by unfold wrap64; omega
     have HTL := Zq_.mk (show ((l0.take i).flatten.length + (l0.getD i []).length) * 48 ≤ 140737488355328 by
      have h1 := api_Named_79.tot_take l0 i hlt; have h2 := api_Named_79.tot_le l0 (i + 1); have h3 := HT.out
      rw [api_Named_79.flat_len]; omega)
     have HF := Zq_.mk (api_Named_79.flat_take l0 i hlt); generalize l0.getD i [] = row at hx_0 HCI HTL HF; have p3 := decide_eq_true p2; have p5 := decide_eq_true hlt; have p6 := eq_true hlt; replace p1 := eq_true p1; replace p2 := eq_true p2; have HLT := Zq_.mk hlt; have NB6 := Zq_.mk (Kd.N_base HO.out); clear hcl hK hcell hli hCi hlw hlt
     go_wp2_with (first | ((with_reducible refine qw_ (b := .append) (xs := #[.tmp 31, .tmp 32]) rfl ?_); at_builtin; refine Kd.N_append_rows k39 (w0 := w) w.heap.size rfl (.tmp 31) (.tmp 32) 22 39 (.agg #[.int .i64 0, .int .i64 0, .int .i64 0, .slice none 0 0]) 48 rfl Try.underlying22 info39 rfl (by decide) (by omega) v6 (l0.take i).flatten row _ _ _ (fun k_ => ((P0_ k_ ∧ k_ < w.heap.size) ∨ w.heap.size ≤ k_)) (fun k_ => P0_ k_ ∧ k_ < w.heap.size) rfl rfl ?aO ?aR ?aK ?aF ?aB ?aS ?aL ?_; (case aR => exact (Kd.F_below HCI.out BW2.out)); (case aK => exact (fun k hk => ⟨Or.inl hk, fun e_ => by have h1 := NB6.out k e_.symm; have h2 := hk.2; omega⟩)); (case aB => exact BW2.out); (case aF => exact (fun k hk => Or.inr (Nat.le_trans (qa_ BW2.out) hk))); (case aO => exact HO.out); (case aS => exact (qa_ BW2.out)); (case aL => exact HTL.out); intro v7 w9 ho hb hg hat; rw [← HF.out] at ho; have HO2 := Zq_.mk ho; have HB2 := Zq_.mk hb; clear ho hb hg hat))
     go_roundg (l0.length - (i + 1))
     case measure => have h1 := HI2.out; have h2 := HLT.out; omega
     case rel => exact ⟨i + 1, v7, eS_, rfl, ⟨by have h1 := HI2.out; have h2 := HLT.out; omega⟩, HB2, HO2⟩
    ·obtain rfl : i = l0.length := by have := HI2.out; omega
     have HO2 := Zq_.mk (show Kd.V k39 39 wr w.heap.size (fun k_ => (P0_ k_ ∨ w.heap.size ≤ k_)) v6 l0.flatten by have h1 := HO.out; rw [List.take_length] at h1; exact Kd.V_mono (Kd.N_V h1) (fun k hk => hk.imp (fun h => h.1) id)); clear hlt
     go_wp2
     go_ret
     exact ⟨_, rfl, HO2.out, BW2.out⟩
section
attribute [local go_sem high] eqA58
def ref04_Same.l0 : Nat → List (S58) → List (S58) → Int → Option (Bool)
 | 0, _, _, _ => none
 | k + 1, x0, x1, x5 => if x5 < (x0.length : Int) then (if 0 ≤ x5 then (if x5 < (x1.length : Int) then (if (!(((rd_T58 x0 x5).f0) == ((rd_T58 x1 x5).f0)) || (!(((rd_T58 x0 x5).f1) == ((rd_T58 x1 x5).f1)) || (!((((rd_T58 x0 x5).f2).toList) == (((rd_T58 x1 x5).f2).toList))))) = true then (some false) else (ref04_Same.l0 k x0 x1 (wrap64 (x5 + 1)))) else (none)) else (none)) else (some true)
def ref04_Same.f (k : Nat) (l0 : List (S58)) (l1 : List (S58)) : Option (Bool) := if (l0.length : Int) = (l1.length : Int) then (ref04_Same.l0 k l0 l1 0) else (some false)
theorem ref04_Same.mono_l : ∀ k, (∀ y0 y1 y2, LeO (ref04_Same.l0 k y0 y1 y2) (ref04_Same.l0 (k + 1) y0 y1 y2))
 | 0 => fun _ _ _ r h => by simp [ref04_Same.l0] at h
 | k + 1 => by
  have ih0 := ref04_Same.mono_l k
  ·intro y0 y1 y2
   unfold ref04_Same.l0
   with_reducible repeat' first | exact ih0 _ _ _ | exact LeO.refl _ | exact LeO.none _ | refine LeO.ite ?_ ?_ | refine LeO.bind ?_ (fun _ => ?_)
theorem ref04_Same.mono : ∀ a0 a1 k, LeO (ref04_Same.f k a0 a1) (ref04_Same.f (k + 1) a0 a1) := by
 intro a0 a1 k; have ih0 := ref04_Same.mono_l k
 unfold ref04_Same.f
 with_reducible repeat' first | exact ih0 _ _ _ | exact LeO.refl _ | exact LeO.none _ | refine LeO.ite ?_ ?_ | refine LeO.bind ?_ (fun _ => ?_)
theorem ref04_Same.calls (k : Nat) (A0 : Option Addr) (c0 : Nat) (l0 : List (S58)) (A1 : Option Addr) (c1 : Nat) (l1 : List (S58)) (r : Bool) (w : World) (hr0 : Kd.C k58 w A0 l0.length l0) (hc0 : l0.length ≤ c0) (hr1 : Kd.C k58 w A1 l1.length l1) (hc1 : l1.length ≤ c1) (h : ref04_Same.f k l0 l1 = some r) :
  Calls Try.prog 59 #[.slice A0 l0.length c0, .slice A1 l1.length c1] w fun e w' => e = .returned (.bool r) ∧ Drawn0 w w' := by
 have hu58 := Try.underlying58; have HR0 := Zq_.mk hr0; have HC0 := Zq_.mk hc0; clear hr0 hc0; have HR1 := Zq_.mk hr1; have HC1 := Zq_.mk hc1; clear hr1 hc1; have H : (if (l0.length : Int) = (l1.length : Int) then (ref04_Same.l0 k l0 l1 0) else (some false)) = some r := h; clear h
 by_cases c3 : (l0.length : Int) = (l1.length : Int)
 ·rw [if_pos c3] at H; have bD : ((l0.length : Int) == (l1.length : Int)) = true := beq_iff_eq.mpr c3; have bC : ((l0.length : Int) != (l1.length : Int)) = false := bne_eq_false_iff_eq.mpr c3
  have bP : (l0.length == l1.length) = true := by first | simpa using c3 | (simp at c3 ⊢; omega)
  clear c3; have H' := Zq_.mk H; clear H
  go_enter Try.func59, Try.ntmps59
  go_wp2
  repeat (go_quiet (fail); try go_wp2)
  go_loopg [5] k (fun kq v5 w' => ∃ (aA : Int), v5 = .int .i64 aA ∧ Zq_ (ref04_Same.l0 kq l0 l1 aA = some r) ∧ Zq_ (kq ≤ k) ∧ Drawn0 w w')
  case atStart => exact ⟨(0), eS_, H', ⟨Nat.le_refl _⟩, by repeat (first | exact Drawn0.refl _ | apply Drawn0.step)⟩
  case round =>
   clear H'
   try clear c1
   try clear p2
   try clear c3
   try clear bD
   try clear bC
   try clear bP
   obtain ⟨aA, rfl, HA, HK1, ⟨m1, rfl⟩⟩ := hrel
   cases gk with
   | zero => exact absurd HA.out (by simp [ref04_Same.l0])
   | succ k1 =>
    have H := HA.out; clear HA; simp only [ref04_Same.l0] at H
    by_cases c4 : aA < (l0.length : Int)
    ·rw [if_pos c4] at H; have bO : decide (aA < (l0.length : Int)) = true := decide_eq_true c4; clear c4
     by_cases c5 : 0 ≤ aA
     ·rw [if_pos c5] at H; have c5b0 : decide (0 ≤ aA) = true := decide_eq_true c5; clear c5
      by_cases c6 : aA < (l1.length : Int)
      ·rw [if_pos c6] at H; have c6b0 : decide (aA < (l1.length : Int)) = true := decide_eq_true c6; clear c6
       by_cases c7 : (!(((rd_T58 l0 aA).f0) == ((rd_T58 l1 aA).f0)) || (!(((rd_T58 l0 aA).f1) == ((rd_T58 l1 aA).f1)) || (!((((rd_T58 l0 aA).f2).toList) == (((rd_T58 l1 aA).f2).toList))))) = true
       ·rw [if_pos c7] at H; have c7b0 : (!(((rd_T58 l0 aA).f0) == ((rd_T58 l1 aA).f0)) || (!(((rd_T58 l0 aA).f1) == ((rd_T58 l1 aA).f1)) || (!((((rd_T58 l0 aA).f2).toList) == (((rd_T58 l1 aA).f2).toList))))) = true := c7; clear c7; obtain rfl := Option.some.inj H; have aS : 0 ≤ (aA : Int) := dA_; have aQ : aA < (l0.length : Int) := dA_; obtain ⟨bR, bN, bB, bA, aZ⟩ := at_T58 HR0.out aA aS aQ; cases bN; replace aS := eq_true aS; replace aQ := eq_true aQ; have aR : 0 ≤ (aA : Int) := dA_; have aP : aA < (l1.length : Int) := dA_; obtain ⟨bQ, bM, aY, aX, aW⟩ := at_T58 HR1.out aA aR aP; cases bM; replace aR := eq_true aR; replace aP := eq_true aP
        go_wp2
        repeat (go_quiet (fail); try go_wp2)
        go_ret
        exact ⟨by first | rfl | (simp; done) | (simp [*]; done), by repeat (first | exact Drawn0.refl _ | apply Drawn0.step)⟩
       ·rw [if_neg c7] at H
        have c7b0 : (!(((rd_T58 l0 aA).f0) == ((rd_T58 l1 aA).f0)) || (!(((rd_T58 l0 aA).f1) == ((rd_T58 l1 aA).f1)) || (!((((rd_T58 l0 aA).f2).toList) == (((rd_T58 l1 aA).f2).toList))))) = false := by simpa using c7
        clear c7; have H' := Zq_.mk H; clear H; have aS : 0 ≤ (aA : Int) := dA_; have aQ : aA < (l0.length : Int) := dA_; obtain ⟨bR, bN, bB, bA, aZ⟩ := at_T58 HR0.out aA aS aQ; cases bN; replace aS := eq_true aS; replace aQ := eq_true aQ; have aR : 0 ≤ (aA : Int) := dA_; have aP : aA < (l1.length : Int) := dA_; obtain ⟨bQ, bM, aY, aX, aW⟩ := at_T58 HR1.out aA aR aP; cases bM; replace aR := eq_true aR; replace aP := eq_true aP
        go_wp2
        repeat (go_quiet (fail); try go_wp2)
        go_roundg k1
        case measure => have := HK1.out; omega
        case rel => exact ⟨(wrap64 (aA + 1)), eS_, H', ⟨by have := HK1.out; omega⟩, by repeat (first | exact Drawn0.refl _ | apply Drawn0.step)⟩
      ·rw [if_neg c6] at H; exact absurd H (by simp)
     ·rw [if_neg c5] at H; exact absurd H (by simp)
    ·rw [if_neg c4] at H; have bO : decide (aA < (l0.length : Int)) = false := decide_eq_false c4; clear c4; obtain rfl := Option.some.inj H
     go_wp2
     repeat (go_quiet (fail); try go_wp2)
     go_ret
     exact ⟨by first | rfl | (simp; done) | (simp [*]; done), by repeat (first | exact Drawn0.refl _ | apply Drawn0.step)⟩
 ·rw [if_neg c3] at H; have bD : ((l0.length : Int) == (l1.length : Int)) = false := beq_eq_false_iff_ne.mpr c3; have bC : ((l0.length : Int) != (l1.length : Int)) = true := bne_iff_ne.mpr c3
  have bP : (l0.length == l1.length) = false := by first | simpa using c3 | (simp at c3 ⊢; omega)
  obtain rfl := Option.some.inj H
  go_enter Try.func59, Try.ntmps59
  go_wp2
  repeat (go_quiet (fail); try go_wp2)
  go_ret
  exact ⟨by first | rfl | (simp; done) | (simp [*]; done), by repeat (first | exact Drawn0.refl _ | apply Drawn0.step)⟩
def ref05_Same.f (k : Nat) (aE : Int) (aD : Int) (aF : List (S58)) (aL : Int) (aK : Int) (aO : List (S58)) : Option (Bool) := if aE = aL then (if aD = aK then ((ref04_Same.f k aF aO).bind fun aT => (some aT)) else (some false)) else (some false)
theorem ref05_Same.mono : ∀ a0 a1 a2 a3 a4 a5 k, LeO (ref05_Same.f k a0 a1 a2 a3 a4 a5) (ref05_Same.f (k + 1) a0 a1 a2 a3 a4 a5) := by
 intro a0 a1 a2 a3 a4 a5 k
 unfold ref05_Same.f
 with_reducible repeat' first | exact ref04_Same.mono _ _ _ | exact LeO.refl _ | exact LeO.none _ | refine LeO.ite ?_ ?_ | refine LeO.bind ?_ (fun _ => ?_)
theorem ref05_Same.calls (k : Nat) (aE : Int) (aD : Int) (aJ : Option Addr) (aI : Nat) (aF : List (S58)) (aL : Int) (aK : Int) (aV : Option Addr) (aU : Nat) (aO : List (S58)) (r : Bool) (w : World) (bF : Kd.C k58 w aJ aF.length aF) (bH : aF.length ≤ aI) (bE : Kd.C k58 w aV aO.length aO) (bG : aO.length ≤ aU) (h : ref05_Same.f k aE aD aF aL aK aO = some r) :
  Calls Try.prog 38 #[.agg #[.int .i64 aE, .int .i64 aD, .slice aJ aF.length aI], .agg #[.int .i64 aL, .int .i64 aK, .slice aV aO.length aU]] w fun e w' => e = .returned (.bool r) ∧ Below w.heap.size w w' := by
 have hu35 := Try.underlying35; have bT := Zq_.mk bF; have bV := Zq_.mk bH; clear bF bH; have bS := Zq_.mk bE; have bU := Zq_.mk bG; clear bE bG; have HB := Zq_.mk (Below.refl w.heap.size w); have H : (if aE = aL then (if aD = aK then ((ref04_Same.f k aF aO).bind fun aT => (some aT)) else (some false)) else (some false)) = some r := h; clear h
 by_cases c3 : aE = aL
 ·rw [if_pos c3] at H; have bD : (aE == aL) = true := beq_iff_eq.mpr c3; have bC : (aE != aL) = false := bne_eq_false_iff_eq.mpr c3; clear c3
  by_cases c4 : aD = aK
  ·rw [if_pos c4] at H; have bO : (aD == aK) = true := beq_iff_eq.mpr c4; have c4b1 : (aD != aK) = false := bne_eq_false_iff_eq.mpr c4; clear c4; replace H := ob_ H; obtain ⟨aT, A50, H⟩ := H; replace H : (some aT) = some r := H; have A5 := Zq_.mk A50; clear A50; obtain rfl := Option.some.inj H
   go_enter Try.func38, Try.ntmps38
   go_wp2_with (first | ((with_reducible refine qd_ (N := 2) rfl ?_); refine bE_ 2 #[.int .i64 aE, .int .i64 aD, .slice aJ aF.length aI] 35 ?_; intro aC hg w6 hbox hb; have aB := Zq_.mk (hbox); have bJ := gW_ (w := w) hg (hB_ HB); have bL := gW_ (w := w) hg (hB_ HB); replace HB := sB_ HB hb; clear hb hbox hg) | ((with_reducible refine qd_ (N := 3) rfl ?_); refine bE_ 3 #[.int .i64 aL, .int .i64 aK, .slice aV aO.length aU] 35 ?_; intro aM hg w7 hbox hb; have aN := Zq_.mk (hbox); have bI := gW_ (w := w) hg (by exact hSet_ HB); have bK := gW_ (w := w) hg (by exact hSet_ HB); replace HB := sB_ HB hb; have aH := Zq_.mk ((by rw [hg]; exact Nat.ne_of_lt (blk_lt (g := aC) (o := .cells #[.int .i64 aE, .int .i64 aD, .slice aJ aF.length aI] 35 (0, 0)) (by exact bK_ aB)) : aC ≠ aM)); have aG := Zq_.mk ((by rw [hg]; exact Nat.ne_of_gt (blk_lt (g := aC) (o := .cells #[.int .i64 aE, .int .i64 aD, .slice aJ aF.length aI] 35 (0, 0)) (by exact bK_ aB)) : aM ≠ aC)); replace aB := Zq_.mk (qc_ (g := aC) (o := .cells #[.int .i64 aE, .int .i64 aD, .slice aJ aF.length aI] 35 (0, 0)) (by exact bK_ aB) hb); clear hb hbox hg; have hnb8 := aH.out; have hnc8 := aG.out; obtain ⟨hcz9_0, hcz9_1, hcz9_2⟩ := c3_ aB; obtain ⟨hfz9_0, hfz9_1, hfz9_2⟩ := f3_ aB; obtain ⟨hcz10_0, hcz10_1, hcz10_2⟩ := c3_ aN; obtain ⟨hfz10_0, hfz10_1, hfz10_2⟩ := f3_ aN) | (go_at_call 59; (with_reducible refine (ref04_Same.calls k _ _ aF _ _ aO aT _ ?side1 ?side2 ?side3 ?side4 A5.out).mono ?_); (case side1 => exact cX_ (Kd.qg_ bT.out HB.out)); (case side2 => exact bV.out); (case side3 => exact cX_ (Kd.qg_ bS.out HB.out)); (case side4 => exact bU.out); rintro e w' ⟨rfl, ⟨nd, rfl⟩⟩))
   go_ret
   exact ⟨by exact eW_, by exact hSet_ HB⟩
  ·rw [if_neg c4] at H; have bO : (aD == aK) = false := beq_eq_false_iff_ne.mpr c4; have c4b1 : (aD != aK) = true := bne_iff_ne.mpr c4; obtain rfl := Option.some.inj H
   go_enter Try.func38, Try.ntmps38
   go_wp2_with (first | ((with_reducible refine qd_ (N := 2) rfl ?_); refine bE_ 2 #[.int .i64 aE, .int .i64 aD, .slice aJ aF.length aI] 35 ?_; intro aC hg w11 hbox hb; have aB := Zq_.mk (hbox); have bJ := gW_ (w := w) hg (hB_ HB); have bL := gW_ (w := w) hg (hB_ HB); replace HB := sB_ HB hb; clear hb hbox hg) | ((with_reducible refine qd_ (N := 3) rfl ?_); refine bE_ 3 #[.int .i64 aL, .int .i64 aK, .slice aV aO.length aU] 35 ?_; intro aM hg w12 hbox hb; have aN := Zq_.mk (hbox); have bI := gW_ (w := w) hg (by exact hSet_ HB); have bK := gW_ (w := w) hg (by exact hSet_ HB); replace HB := sB_ HB hb; have aH := Zq_.mk ((by rw [hg]; exact Nat.ne_of_lt (blk_lt (g := aC) (o := .cells #[.int .i64 aE, .int .i64 aD, .slice aJ aF.length aI] 35 (0, 0)) (by exact bK_ aB)) : aC ≠ aM)); have aG := Zq_.mk ((by rw [hg]; exact Nat.ne_of_gt (blk_lt (g := aC) (o := .cells #[.int .i64 aE, .int .i64 aD, .slice aJ aF.length aI] 35 (0, 0)) (by exact bK_ aB)) : aM ≠ aC)); replace aB := Zq_.mk (qc_ (g := aC) (o := .cells #[.int .i64 aE, .int .i64 aD, .slice aJ aF.length aI] 35 (0, 0)) (by exact bK_ aB) hb); clear hb hbox hg; have hnb13 := aH.out; have hnc13 := aG.out; obtain ⟨hcz14_0, hcz14_1, hcz14_2⟩ := c3_ aB; obtain ⟨hfz14_0, hfz14_1, hfz14_2⟩ := f3_ aB; obtain ⟨hcz15_0, hcz15_1, hcz15_2⟩ := c3_ aN; obtain ⟨hfz15_0, hfz15_1, hfz15_2⟩ := f3_ aN))
   go_ret
   exact ⟨by exact eW_, by exact hSet_ HB⟩
 ·rw [if_neg c3] at H; have bD : (aE == aL) = false := beq_eq_false_iff_ne.mpr c3; have bC : (aE != aL) = true := bne_iff_ne.mpr c3; obtain rfl := Option.some.inj H
  go_enter Try.func38, Try.ntmps38
  go_wp2_with (first | ((with_reducible refine qd_ (N := 2) rfl ?_); refine bE_ 2 #[.int .i64 aE, .int .i64 aD, .slice aJ aF.length aI] 35 ?_; intro aC hg w16 hbox hb; have aB := Zq_.mk (hbox); have bJ := gW_ (w := w) hg (hB_ HB); have bL := gW_ (w := w) hg (hB_ HB); replace HB := sB_ HB hb; clear hb hbox hg) | ((with_reducible refine qd_ (N := 3) rfl ?_); refine bE_ 3 #[.int .i64 aL, .int .i64 aK, .slice aV aO.length aU] 35 ?_; intro aM hg w17 hbox hb; have aN := Zq_.mk (hbox); have bI := gW_ (w := w) hg (by exact hSet_ HB); have bK := gW_ (w := w) hg (by exact hSet_ HB); replace HB := sB_ HB hb; have aH := Zq_.mk ((by rw [hg]; exact Nat.ne_of_lt (blk_lt (g := aC) (o := .cells #[.int .i64 aE, .int .i64 aD, .slice aJ aF.length aI] 35 (0, 0)) (by exact bK_ aB)) : aC ≠ aM)); have aG := Zq_.mk ((by rw [hg]; exact Nat.ne_of_gt (blk_lt (g := aC) (o := .cells #[.int .i64 aE, .int .i64 aD, .slice aJ aF.length aI] 35 (0, 0)) (by exact bK_ aB)) : aM ≠ aC)); replace aB := Zq_.mk (qc_ (g := aC) (o := .cells #[.int .i64 aE, .int .i64 aD, .slice aJ aF.length aI] 35 (0, 0)) (by exact bK_ aB) hb); clear hb hbox hg; have hnb18 := aH.out; have hnc18 := aG.out; obtain ⟨hcz19_0, hcz19_1, hcz19_2⟩ := c3_ aB; obtain ⟨hfz19_0, hfz19_1, hfz19_2⟩ := f3_ aB; obtain ⟨hcz20_0, hcz20_1, hcz20_2⟩ := c3_ aN; obtain ⟨hfz20_0, hfz20_1, hfz20_2⟩ := f3_ aN))
  go_ret
  exact ⟨by exact eW_, by exact hSet_ HB⟩
end
def ref05_Top.f (k : Nat) (aG : Int) (aC : Int) (aB : List (S58)) : Option (Int) := (ref04_Top.f k aB).bind fun aD => (some (mx aC aD))
theorem ref05_Top.mono : ∀ a0 a1 a2 k, LeO (ref05_Top.f k a0 a1 a2) (ref05_Top.f (k + 1) a0 a1 a2) := by
 intro a0 a1 a2 k
 unfold ref05_Top.f
 with_reducible repeat' first | exact ref04_Top.mono _ _ | exact LeO.refl _ | exact LeO.none _ | refine LeO.ite ?_ ?_ | refine LeO.bind ?_ (fun _ => ?_)
theorem ref05_Top.calls (k : Nat) (aG : Int) (aC : Int) (aH : Option Addr) (aF : Nat) (aB : List (S58)) (r : Int) (w : World) (aI : Kd.C k58 w aH aB.length aB) (aJ : aB.length ≤ aF) (h : ref05_Top.f k aG aC aB = some r) :
  Calls Try.prog 43 #[.agg #[.int .i64 aG, .int .i64 aC, .slice aH aB.length aF]] w fun e w' => e = .returned (.int .i64 r) ∧ Below w.heap.size w w' := by
 have hu35 := Try.underlying35; have aL := Zq_.mk aI; have aM := Zq_.mk aJ; clear aI aJ; have HB := Zq_.mk (Below.refl w.heap.size w); have H : ((ref04_Top.f k aB).bind fun aD => (some (mx aC aD))) = some r := h; clear h; replace H := ob_ H; obtain ⟨aD, A20, H⟩ := H; replace H : (some (mx aC aD)) = some r := H; have A2 := Zq_.mk A20; clear A20; obtain ⟨ji3, aE⟩ : ∃ j_ : Int, (mx aC aD) = j_ := ⟨_, rfl⟩
 replace H : (some ji3) = some r := by first | (rw [aE] at H; exact H) | (simp only [aE] at H ⊢; exact H)
 (try rw [aE] at A2); have hji3_ : (if aC < aD then aD else aC) = ji3 := aE; obtain rfl := Option.some.inj H
 go_enter Try.func43, Try.ntmps43
 try go_wp2_with (first | ((with_reducible refine qd_ (N := 1) rfl ?_); refine bE_ 1 #[.int .i64 aG, .int .i64 aC, .slice aH aB.length aF] 35 ?_; intro aK hg w4 hbox hb; have aA := Zq_.mk (hbox); have GW101 := gW_ (w := w) hg (hB_ HB); have GE101 := gW_ (w := w) hg (hB_ HB); replace HB := sB_ HB hb; clear hb hbox hg))
 replace aA := Zq_.mk (qi_ aA.out); replace HB := Zq_.mk (qe_ HB.out); refine gS_ 7 (hA_ (b0_ aA) (hA_ (b1_ aA) (hZ_ (b2_ aA)))) (fun hHeld => ?_); generalize w4.drew = w5 at aA HB hHeld ⊢; refine pure_ (i := 0) (N := some 3) (v := ?_) (a' := ?_) (bz_ 7 1) rfl rfl (by kernel_rfl) (fun _ _ _ h => h) (Or.inl ⟨by rfl, ?_⟩) ?_ ?_; rotate_left; (focus intro w'; go_simp; (with_reducible rfl)); rotate_left; (focus simp only [Act.put, sa_, sb_, sc_, i64_w, i32_w]; rfl); refine pure_ (i := 2) (N := some 5) (v := ?_) (a' := ?_) (bz_ 7 5) rfl rfl (by kernel_rfl) (fun _ _ _ h => h) (Or.inl ⟨by rfl, ?_⟩) ?_ ?_; rotate_left; (focus intro w'; go_simp; (with_reducible rfl)); rotate_left; (focus simp only [Act.put, sa_, sb_, sc_, i64_w, i32_w]; rfl); refine take_ (i := 1) (N := some 4) (v := ?_) (a' := ?_) (bz_ 7 7) rfl rfl (by kernel_rfl) (fun _ _ _ h => h) (Or.inl ⟨by rfl, ?_⟩) hHeld ?_ ?_; rotate_left; (focus rintro w' ⟨s0, s1, s2⟩; go_simp; (with_reducible rfl)); rotate_left; (focus simp only [Act.put, sa_, sb_, sc_, i64_w, i32_w]; rfl); refine take_ (i := 3) (N := some 6) (v := ?_) (a' := ?_) (bz_ 7 15) rfl rfl (by kernel_rfl) (fun _ _ _ h => h) (Or.inl ⟨by rfl, ?_⟩) hHeld ?_ ?_; rotate_left; (focus rintro w' ⟨s0, s1, s2⟩; go_simp; (with_reducible rfl)); rotate_left; (focus simp only [Act.put, sa_, sb_, sc_, i64_w, i32_w]; rfl); refine one_ (i := 4) (N := some 7) (bz_ 7 31) rfl rfl (by kernel_rfl) (by decide) (fun K hK => ?_); refine goes_ Try.func65 (by kernel_rfl) rfl #[.slice aH aB.length aF] (by rfl) rfl rfl aR_ ?_
 with_reducible refine (ref04_Top.calls k _ _ aB aD _ ?side1 ?side2 A2.out).mono ?_
 (case side1 => exact cX_ (Kd.qg_ aL.out HB.out)); (case side2 => exact aM.out); rintro e w6 ⟨rfl, hb⟩; refine ⟨_, rfl, ?_⟩; replace aA := Zq_.mk (qc_ (g := aK) (o := .cells #[.int .i64 aG, .int .i64 aC, .slice aH aB.length aF] 35 (0, 0)) (by exact bK_ aA) hb); replace HB := sB_ HB hb; (try clear hb); refine hK.out _ _ (c3_ aA) (fun hHeld => ?_); clear hK K; refine norm_ (a' := ?_) ?_ ?_; rotate_left
 ·show Act.put _ (some 7) _ = _
  simp only [Act.put, sa_, sb_, sc_, i64_w, i32_w]; rfl
 refine pure_ (i := 5) (N := some 8) (v := ?_) (a' := ?_) (bz_ 7 63) rfl rfl (by kernel_rfl) (fun _ _ _ h => h) (Or.inl ⟨by rfl, ?_⟩) ?_ ?_; rotate_left; (focus intro w'; go_simp; (with_reducible rfl)); rotate_left; (focus simp only [Act.put, sa_, sb_, sc_, i64_w, i32_w]; rfl); refine pure_ (i := 6) (N := some 2) (v := ?_) (a' := ?_) (bz_ 7 127) rfl rfl (by kernel_rfl) (fun _ _ _ h => h) (Or.inl ⟨by rfl, ?_⟩) ?_ ?_; rotate_left; (focus intro w'; go_simp; (with_reducible rfl)); rotate_left; (focus simp only [Act.put, sa_, sb_, sc_, i64_w, i32_w]; rfl); refine done_ (by kernel_rfl) ?_; (try go_wp2)
 go_ret
 exact ⟨by first | rfl | (simp [errW_none, errW_some] <;> rfl) | (simp only [← aE]; first | rfl | (simp [errW_none, errW_some] <;> rfl)) | (simp [*, errW_none, errW_some] <;> rfl), by exact hSet_ HB⟩
def ref06_Get.l0 : Nat → List (S39) → Int → Int → Option (Int × Int × (List (S58)) × Bool)
 | 0, _, _, _ => none
 | k + 1, x0, x1, x6 => if x6 < (x0.length : Int) then (if 0 ≤ x6 then (if ((rd_T39 x0 x6).f0) = x1 then ((ref05_Copy.f ((rd_T39 x0 x6).f1.f0) ((rd_T39 x0 x6).f1.f1) ((rd_T39 x0 x6).f1.f2)).bind fun aU => (some (aU.1, aU.2.1, aU.2.2, true))) else (ref06_Get.l0 k x0 x1 (wrap64 (x6 + 1)))) else (none)) else (some (0, 0, ([] : List (S58)), false))
def ref06_Get.f (k : Nat) (l0 : List (S39)) (a1 : Int) : Option (Int × Int × (List (S58)) × Bool) := ref06_Get.l0 k l0 a1 0
theorem ref06_Get.mono_l : ∀ k, (∀ y0 y1 y2, LeO (ref06_Get.l0 k y0 y1 y2) (ref06_Get.l0 (k + 1) y0 y1 y2))
 | 0 => fun _ _ _ r h => by simp [ref06_Get.l0] at h
 | k + 1 => by
  have ih0 := ref06_Get.mono_l k
  ·intro y0 y1 y2
   unfold ref06_Get.l0
   with_reducible repeat' first | exact ih0 _ _ _ | exact LeO.refl _ | exact LeO.none _ | refine LeO.ite ?_ ?_ | refine LeO.bind ?_ (fun _ => ?_)
theorem ref06_Get.mono : ∀ a0 a1 k, LeO (ref06_Get.f k a0 a1) (ref06_Get.f (k + 1) a0 a1) := by
 intro a0 a1 k; have ih0 := ref06_Get.mono_l k
 unfold ref06_Get.f
 with_reducible repeat' first | exact ih0 _ _ _ | exact LeO.refl _ | exact LeO.none _ | refine LeO.ite ?_ ?_ | refine LeO.bind ?_ (fun _ => ?_)
theorem ref06_Get.calls (k : Nat) (A0 : Option Addr) (c0 : Nat) (l0 : List (S39)) (a1 : Int) (r1 : Int) (r2 : Int) (r3 : List (S58)) (r4 : Bool) (w : World) (hr0 : Kd.C k39 w A0 l0.length l0) (hc0 : l0.length ≤ c0) (h : ref06_Get.f k l0 a1 = some (r1, r2, r3, r4)) :
  Calls Try.prog 17 #[.slice A0 l0.length c0, .int .i64 a1] w fun e w' => ∃ v2_ : Value, e = .returned (.tuple #[.agg #[.int .i64 r1, .int .i64 r2, v2_], .bool r4]) ∧ Kd.R k58 58 w' w.heap.size (fun _ => True) v2_ r3 ∧ Below w.heap.size w w' := by
 have hu35 := Try.underlying35; have HR0 := Zq_.mk hr0; have HC0 := Zq_.mk hc0; clear hr0 hc0; have HB := Zq_.mk (Below.refl w.heap.size w); have H : (ref06_Get.l0 k l0 a1 0) = some (r1, r2, r3, r4) := h; clear h; have H' := Zq_.mk H; clear H
 go_enter Try.func17, Try.ntmps17
 go_wp2_with (first | ((with_reducible refine qd_ (N := 4) rfl ?_); refine bE_ 4 #[.int .i64 0, .int .i64 0, .slice none 0 0] 35 ?_; intro aK hg w3 hbox hb; have aB := Zq_.mk (hbox); have GW101 := gW_ (w := w) hg (hB_ HB); have GE101 := gW_ (w := w) hg (hB_ HB); replace HB := sB_ HB hb; clear hb hbox hg))
 go_loopg [6] k (fun kq v6 w' => ∃ (aA : Int) (aD : Int) (aC : Int), v6 = .int .i64 aA ∧ Zq_ (ref06_Get.l0 kq l0 a1 aA = some (r1, r2, r3, r4)) ∧ Zq_ (kq ≤ k) ∧ Zq_ (w'.heap[aK]? = some (.cells #[.int .i64 aD, .int .i64 aC, (.slice none 0 0)] 35 (0, 0))) ∧ Zq_ (Below w.heap.size w w'))
 case atStart => exact ⟨(0), (0), (0), eS_, H', ⟨Nat.le_refl _⟩, ⟨by (with_reducible repeat (first | refine blk_drewN ?_ _ | refine qi_ ?_ | refine qy_ ?_ _)); exact aB.out⟩, ⟨by exact hSet_ HB⟩⟩
 case round =>
  clear H'
  try clear c1
  try clear p2
  obtain ⟨aA, aD, aC, rfl, HA, HK1, aB, HB⟩ := hrel
  cases gk with
  | zero => exact absurd HA.out (by simp [ref06_Get.l0])
  | succ k1 =>
   have H := HA.out; clear HA; simp only [ref06_Get.l0] at H
   by_cases c4 : aA < (l0.length : Int)
   ·rw [if_pos c4] at H; have c4b0 : decide (aA < (l0.length : Int)) = true := decide_eq_true c4; clear c4
    by_cases c5 : 0 ≤ aA
    ·rw [if_pos c5] at H; have c5b0 : decide (0 ≤ aA) = true := decide_eq_true c5; clear c5
     by_cases c6 : ((rd_T39 l0 aA).f0) = a1
     ·rw [if_pos c6] at H; have c6b0 : (((rd_T39 l0 aA).f0) == a1) = true := beq_iff_eq.mpr c6; have c6b1 : (((rd_T39 l0 aA).f0) != a1) = false := bne_eq_false_iff_eq.mpr c6; clear c6; replace H := ob_ H; obtain ⟨⟨bE, bD, bC⟩, A70, H⟩ := H; replace H : (some (bE, bD, bC, true)) = some (r1, r2, r3, r4) := H; have A7 := Zq_.mk A70; clear A70; simp only [Option.some.injEq, Prod.mk.injEq] at H; obtain ⟨rfl, rfl, rfl, rfl⟩ := H; have aN : 0 ≤ (aA : Int) := dA_; have aM : aA < (l0.length : Int) := dA_; obtain ⟨bA, aV, aT, bH, aH, aG, aF, aE, aI, aJ⟩ := at_T39 HR0.out aA aN aM; cases bH; replace aH := hC_ HB aH; replace aG := hC_ HB aG; replace aF := hC_ HB aF; replace aE := hC_ HB aE; have aX := Zq_.mk aJ; have aZ := Zq_.mk aI; clear aJ aI; replace aN := eq_true aN; replace aM := eq_true aM; have bG : 0 ≤ (aA : Int) := dA_; have bF : aA < (l0.length : Int) := dA_; obtain ⟨bI, A103_3, c103_3, e103, aQ, aP, aO, aL, aR, aS⟩ := at_T39 HR0.out aA bG bF; obtain rfl : bA = bI := (by injection e103); replace aQ := hC_ HB aQ; replace aP := hC_ HB aP; replace aO := hC_ HB aO; replace aL := hC_ HB aL; have aW := Zq_.mk aS; have aY := Zq_.mk aR; clear aS aR; replace bG := eq_true bG; replace bF := eq_true bF; have ea_ := Option.some.inj (aE.symm.trans aL)
      injection ea_ with ea_ en_ ec_
      subst ea_; subst ec_; clear en_
      go_wp2_with (first | ((with_reducible refine qf_ (f := 41) rfl ?_); refine goesL_ (some 25) rfl rfl Try.func41 (by kernel_rfl) rfl #[.agg #[.int .i64 ((rd_T39 l0 aA).f1.f0), .int .i64 ((rd_T39 l0 aA).f1.f1), .slice aV ((rd_T39 l0 aA).f1.f2).length aT]] rfl aR_ ?_; (with_reducible refine (ref05_Copy.calls ((rd_T39 l0 aA).f1.f0) ((rd_T39 l0 aA).f1.f1) _ _ ((rd_T39 l0 aA).f1.f2) bE bD bC _ ?side1 ?side2 A7.out).mono ?_); (case side1 => exact cX_ (Kd.qg_ aW.out HB.out)); (case side2 => exact aY.out); rintro e w8 ⟨v107, rfl, ho0, hb⟩; refine ⟨_, rfl, ?_⟩; have bB := Zq_.mk (Kd.vd_ ho0 (qa_ (by exact hSet_ HB))); replace aB := Zq_.mk (qc_ (g := aK) (o := .cells #[.int .i64 aD, .int .i64 aC, .slice none 0 0] 35 (0, 0)) (by exact bK_ aB) hb); replace HB := sB_ HB hb; (try clear hb); (try clear ho0); obtain ⟨hcz9_0, hcz9_1, hcz9_2⟩ := c3_ aB; obtain ⟨hfz9_0, hfz9_1, hfz9_2⟩ := f3_ aB; obtain ⟨Ao10, co10, eo10⟩ := Kd.vh_ bB.out; subst eo10))
      refine bodyPost_ret (results_ct rfl _ _ aK 35 #[.int .i64 bE, .int .i64 bD, .slice Ao10 bC.length co10] (0, 0) _ rfl (by exact bW3_ (bK_ aB)) Try.underlying35 rfl (by kernel_rfl)) rfl ?_; exact ⟨_, by exact eW_, by (with_reducible repeat (first | apply Kd.qq_ | apply Kd.qp_ | apply Kd.R_drew)); exact Kd.R_mono (Kd.R_far (Kd.R_far (Kd.R_far (Kd.ve_ bB.out aB.out (by decide)) (fun _ hk => hk.2) _) (fun _ hk => hk.2) _) (fun _ hk => hk.2) _) (fun _ hk => trivial), by exact hSet_ HB⟩
     ·rw [if_neg c6] at H; have c6b0 : (((rd_T39 l0 aA).f0) == a1) = false := beq_eq_false_iff_ne.mpr c6; have c6b1 : (((rd_T39 l0 aA).f0) != a1) = true := bne_iff_ne.mpr c6; have H' := Zq_.mk H; clear H; have aN : 0 ≤ (aA : Int) := dA_; have aM : aA < (l0.length : Int) := dA_; obtain ⟨bA, aV, aT, bH, aH, aG, aF, aE, aI, aJ⟩ := at_T39 HR0.out aA aN aM; cases bH; replace aH := hC_ HB aH; replace aG := hC_ HB aG; replace aF := hC_ HB aF; replace aE := hC_ HB aE; have aX := Zq_.mk aJ; have aZ := Zq_.mk aI; clear aJ aI; replace aN := eq_true aN; replace aM := eq_true aM
      go_wp2
      go_roundg k1
      case measure => have := HK1.out; omega
      case rel => exact ⟨(wrap64 (aA + 1)), (aD), (aC), eS_, H', ⟨by have := HK1.out; omega⟩, ⟨by (with_reducible repeat (first | refine blk_drewN ?_ _ | refine qi_ ?_ | refine qy_ ?_ _)); exact aB.out⟩, ⟨by exact hSet_ HB⟩⟩
    ·rw [if_neg c5] at H; exact absurd H (by simp)
   ·rw [if_neg c4] at H; have c4b0 : decide (aA < (l0.length : Int)) = false := decide_eq_false c4; clear c4; simp only [Option.some.injEq, Prod.mk.injEq] at H; obtain ⟨rfl, rfl, rfl, rfl⟩ := H; have hcz11_0 : wr.cell? ⟨aK, 0, none⟩ = some (.int .i64 aD) := (qb_ aB.out 0).trans rfl; have hcz11_1 : wr.cell? ⟨aK, 1, none⟩ = some (.int .i64 aC) := (qb_ aB.out 1).trans rfl; have hcz11_2 : wr.cell? ⟨aK, 2, none⟩ = some (.slice none 0 0) := (qb_ aB.out 2).trans rfl; obtain ⟨hfz11_0, hfz11_1, hfz11_2⟩ := f3_ aB
    go_wp2
    refine bodyPost_ret (results_ct rfl _ _ aK 35 #[.int .i64 0, .int .i64 0, .slice none 0 0] (0, 0) _ rfl (by exact bW3_ (bK_ aB)) Try.underlying35 rfl (by kernel_rfl)) rfl ?_; exact ⟨_, by exact eW_, by first | exact Kd.R_nil _ _ _ _ _ | exact Kd.N_nil _ _ _ _ _ | exact Kd.V_nil _ _ _ _ _ | exact Kd.Q_nil _ _ _ _ _ | exact Kd.S_nil _ _ _ _ _, by exact hSet_ HB⟩
def ref06_Without.l0 : Nat → List (S39) → Int → List (S39) → Int → Option ((List (S39)))
 | 0, _, _, _, _ => none
 | k + 1, x0, x1, x5, x6 => if x6 < (x0.length : Int) then (if 0 ≤ x6 then (if ((rd_T39 x0 x6).f0) = x1 then (ref06_Without.l0 k x0 x1 x5 (wrap64 (x6 + 1))) else (if x5.length < 2932031007402 then (ref06_Without.l0 k x0 x1 (x5 ++ [(⟨(rd_T39 x0 x6).f0, (⟨(rd_T39 x0 x6).f1.f0, (rd_T39 x0 x6).f1.f1, (rd_T39 x0 x6).f1.f2⟩ : S35)⟩ : S39)]) (wrap64 (x6 + 1))) else (none))) else (none)) else ((ref06_Copy.f k x5).bind fun bG => (some bG))
def ref06_Without.f (k : Nat) (l0 : List (S39)) (a1 : Int) : Option ((List (S39))) := ref06_Without.l0 k l0 a1 ([] : List (S39)) 0
theorem ref06_Without.mono_l : ∀ k, (∀ y0 y1 y2 y3, LeO (ref06_Without.l0 k y0 y1 y2 y3) (ref06_Without.l0 (k + 1) y0 y1 y2 y3))
 | 0 => fun _ _ _ _ r h => by simp [ref06_Without.l0] at h
 | k + 1 => by
  have ih0 := ref06_Without.mono_l k
  ·intro y0 y1 y2 y3
   unfold ref06_Without.l0
   with_reducible repeat' first | exact ih0 _ _ _ _ | exact ref06_Copy.mono _ _ | exact LeO.refl _ | exact LeO.none _ | refine LeO.ite ?_ ?_ | refine LeO.bind ?_ (fun _ => ?_)
theorem ref06_Without.mono : ∀ a0 a1 k, LeO (ref06_Without.f k a0 a1) (ref06_Without.f (k + 1) a0 a1) := by
 intro a0 a1 k; have ih0 := ref06_Without.mono_l k
 unfold ref06_Without.f
 with_reducible repeat' first | exact ih0 _ _ _ _ | exact ref06_Copy.mono _ _ | exact LeO.refl _ | exact LeO.none _ | refine LeO.ite ?_ ?_ | refine LeO.bind ?_ (fun _ => ?_)
theorem ref06_Without.calls (k : Nat) (P0_ : Nat → Prop) (A0 : Option Addr) (c0 : Nat) (l0 : List (S39)) (a1 : Int) (r : List (S39)) (w : World) (hs0 : Kd.V k39 39 w w.heap.size (fun k_ => P0_ k_) (.slice A0 l0.length c0) l0) (h : ref06_Without.f k l0 a1 = some r) :
  Calls Try.prog 54 #[.slice A0 l0.length c0, .int .i64 a1] w fun e w' => ∃ v0_ : Value, e = .returned (v0_) ∧ Kd.N k39 39 w' w.heap.size (fun k_ => (P0_ k_ ∨ w.heap.size ≤ k_)) v0_ r ∧ Below w.heap.size w w' := by
 have hu39 := Try.underlying39; have HO0 := Zq_.mk (show Kd.V k39 39 w w.heap.size (fun k_ => (P0_ k_ ∨ w.heap.size ≤ k_)) (.slice A0 l0.length c0) l0 from Kd.V_mono hs0 (fun k_ hk => .inl hk)); have HB := Zq_.mk (Below.refl w.heap.size w); have H : (ref06_Without.l0 k l0 a1 ([] : List (S39)) 0) = some r := h; clear h; have H' := Zq_.mk H; clear H
 go_enter Try.func54, Try.ntmps54
 go_wp2
 go_loopg [5, 6] k (fun kq v5 v6 w' => ∃ (aQ : List (S39)) (aA : Int), v6 = .int .i64 aA ∧ Zq_ (ref06_Without.l0 kq l0 a1 aQ aA = some r) ∧ Zq_ (kq ≤ k) ∧ Zq_ (Kd.V k39 39 w' w.heap.size (fun k_ => (P0_ k_ ∨ w.heap.size ≤ k_) ∧ some k_ ≠ (v5 : Value).ownBlock) (.slice A0 l0.length c0) l0) ∧ Zq_ (Kd.N k39 39 w' w.heap.size (fun k_ => (P0_ k_ ∨ w.heap.size ≤ k_)) v5 aQ) ∧ Zq_ (Below w.heap.size w w'))
 case atStart => exact ⟨(([] : List (S39))), (0), eS_, H', ⟨Nat.le_refl _⟩, ⟨by refine vM_ ?_; exact Kd.V_mono HO0.out (fun _ hk => ⟨hk, (by simp [Value.ownBlock])⟩)⟩, ⟨by first | exact Kd.S_nil _ _ _ _ _ | exact Kd.N_nil _ _ _ _ _ | exact Kd.V_nil _ _ _ _ _ | exact Kd.Q_nil _ _ _ _ _ | exact Kd.R_nil _ _ _ _ _⟩, ⟨hB_ HB⟩⟩
 case round =>
  clear H'
  try clear p2
  obtain ⟨aQ, aA, rfl, HA, HK1, aG, aW, HB⟩ := hrel
  cases gk with
  | zero => exact absurd HA.out (by simp [ref06_Without.l0])
  | succ k1 =>
   have H := HA.out; clear HA; simp only [ref06_Without.l0] at H
   by_cases c3 : aA < (l0.length : Int)
   ·rw [if_pos c3] at H; have c3b0 : decide (aA < (l0.length : Int)) = true := decide_eq_true c3; clear c3
    by_cases c4 : 0 ≤ aA
    ·rw [if_pos c4] at H; have c4b0 : decide (0 ≤ aA) = true := decide_eq_true c4; clear c4
     by_cases c5 : ((rd_T39 l0 aA).f0) = a1
     ·rw [if_pos c5] at H; have c5b0 : (((rd_T39 l0 aA).f0) == a1) = true := beq_iff_eq.mpr c5; have c5b1 : (((rd_T39 l0 aA).f0) != a1) = false := bne_eq_false_iff_eq.mpr c5; clear c5; have H' := Zq_.mk H; clear H; have aU : 0 ≤ (aA : Int) := dA_; have aT : aA < (l0.length : Int) := dA_; obtain ⟨bO, bF, bE, bQ, bL, bK, bJ, aJ, aH, aI⟩ := at_T39 (Kd.V_reads' aG.out).2.2 aA aU aT; cases bQ; obtain ⟨ce101, aZ, hMe101, aN⟩ := Kd.V_get aG.out z39 aA aU (by first | exact aT | exact dA_ | (have e_ := (Kd.V_reads' aG.out).1; omega)); obtain ⟨ua101_3, uc101_3, rfl, aD, aE⟩ := k39_openF hMe101; have aC := aN 3 _ rfl; rw [vi_ _ _ 3 (by omega)] at aC; replace aC := Option.some.inj (aC.symm.trans aJ)
      injection aC with hva_ hvn_ hvc_
      rw [hva_] at aE; rw [hvc_] at aD; have aX := Zq_.mk (show Kd.V k58 58 _ w.heap.size _ _ ((rd_T39 l0 aA).f1.f2) from Kd.V_mk aD aE); clear hva_ hvn_ hvc_ aE aD; clear aN aZ; have bM := Zq_.mk aI; have bN := Zq_.mk aH; clear aI aH; replace aU := eq_true aU; replace aT := eq_true aT
      go_wp2
      go_roundg k1
      case measure => have := HK1.out; omega
      case rel => exact ⟨(aQ), (wrap64 (aA + 1)), eS_, H', ⟨by have := HK1.out; omega⟩, ⟨by refine vM_ ?_; exact aG.out⟩, ⟨by (with_reducible repeat (first | apply Kd.vg_ | apply Kd.vf_ | apply Kd.N_drew)); exact aW.out⟩, ⟨hB_ HB⟩⟩
     ·rw [if_neg c5] at H; have c5b0 : (((rd_T39 l0 aA).f0) == a1) = false := beq_eq_false_iff_ne.mpr c5; have c5b1 : (((rd_T39 l0 aA).f0) != a1) = true := bne_iff_ne.mpr c5
      by_cases c6 : aQ.length < 2932031007402
      ·rw [if_pos c6] at H; have LMc6 := Zq_.mk c6; clear c6; obtain ⟨bR, aY⟩ : ∃ y_ : List (S39), y_ = (aQ ++ [(⟨(rd_T39 l0 aA).f0, (⟨(rd_T39 l0 aA).f1.f0, (rd_T39 l0 aA).f1.f1, (rd_T39 l0 aA).f1.f2⟩ : S35)⟩ : S39)]) := ⟨_, rfl⟩
       replace H : (ref06_Without.l0 k1 l0 a1 bR (wrap64 (aA + 1))) = some r := by first | (rw [aY]; with_reducible exact H) | (have H2_ := (Option.bind_some _ _).symm.trans H; rw [aY]; with_reducible exact H2_) | (have H2_ := (Option.bind_some _ _).symm.trans H; with_reducible exact H2_) | with_reducible exact H | (rw [aY]; exact H) | exact H
       have bT := Zq_.mk aY; clear aY; have H' := Zq_.mk H; clear H; have aU : 0 ≤ (aA : Int) := dA_; have aT : aA < (l0.length : Int) := dA_; obtain ⟨bO, bF, bE, bQ, bL, bK, bJ, aJ, aH, aI⟩ := at_T39 (Kd.V_reads' aG.out).2.2 aA aU aT; cases bQ; obtain ⟨ce101, aZ, hMe101, aN⟩ := Kd.V_get aG.out z39 aA aU (by first | exact aT | exact dA_ | (have e_ := (Kd.V_reads' aG.out).1; omega)); obtain ⟨ua101_3, uc101_3, rfl, aD, aE⟩ := k39_openF hMe101; have aC := aN 3 _ rfl; rw [vi_ _ _ 3 (by omega)] at aC; replace aC := Option.some.inj (aC.symm.trans aJ)
       injection aC with hva_ hvn_ hvc_
       rw [hva_] at aE; rw [hvc_] at aD; have aX := Zq_.mk (show Kd.V k58 58 _ w.heap.size _ _ ((rd_T39 l0 aA).f1.f2) from Kd.V_mk aD aE); clear hva_ hvn_ hvc_ aE aD; clear aN aZ; have bM := Zq_.mk aI; have bN := Zq_.mk aH; clear aI aH; replace aU := eq_true aU; replace aT := eq_true aT; have bI : 0 ≤ (aA : Int) := dA_; have bH : aA < (l0.length : Int) := dA_; obtain ⟨bS, A102_3, c102_3, e102, hx102_0, hx102_1, hx102_2, bA, bB, bC⟩ := at_T39 (Kd.V_reads' aG.out).2.2 aA bI bH; obtain rfl : bO = bS := (by injection e102); obtain ⟨ce102, bP, hMe102, bD⟩ := Kd.V_get aG.out z39 aA bI (by first | exact bH | exact dA_ | (have e_ := (Kd.V_reads' aG.out).1; omega)); obtain ⟨ua102_3, uc102_3, rfl, aR, aV⟩ := k39_openF hMe102; have aK := bD 3 _ rfl; rw [vi_ _ _ 3 (by omega)] at aK; replace aK := Option.some.inj (aK.symm.trans bA)
       injection aK with hva_ hvn_ hvc_
       rw [hva_] at aV; rw [hvc_] at aR; have aM := Zq_.mk (show Kd.V k58 58 _ w.heap.size _ _ ((rd_T39 l0 aA).f1.f2) from Kd.V_mk aR aV); clear hva_ hvn_ hvc_ aV aR; clear bD bP; have HR102_3 := Zq_.mk bC; have HC102_3 := Zq_.mk bB; clear bC bB; replace bI := eq_true bI; replace bH := eq_true bH; have ea_ := Option.some.inj (aJ.symm.trans bA)
       injection ea_ with ea_ en_ ec_
       subst ea_; subst ec_; clear en_
       go_wp2_with (first | ((with_reducible refine qw_ (b := .append) (xs := #[.tmp 20, .tmp 25]) rfl ?_); at_builtin; refine Kd.N_append k39 (w0 := w) w.heap.size rfl (.tmp 20) (.tmp 25) 22 39 (.agg #[(.int .i64 0), (.int .i64 0), (.int .i64 0), (.slice none 0 0)]) 48 rfl Try.underlying22 info39 rfl (by decide) (by omega) u5 aQ (⟨(rd_T39 l0 aA).f0, (⟨(rd_T39 l0 aA).f1.f0, (rd_T39 l0 aA).f1.f1, (rd_T39 l0 aA).f1.f2⟩ : S35)⟩ : S39) [.int .i64 ((rd_T39 l0 aA).f0), .int .i64 ((rd_T39 l0 aA).f1.f0), .int .i64 ((rd_T39 l0 aA).f1.f1), .slice bF ((rd_T39 l0 aA).f1.f2).length bE] (fun k_ => (P0_ k_ ∨ w.heap.size ≤ k_)) (fun k_ => ((fun k_ => (P0_ k_ ∨ w.heap.size ≤ k_))) k_ ∧ some k_ ≠ (u5 : Value).ownBlock) rfl rfl ?aP (fun _ hk => hk) ?aF ?aO ?aB ?aS ?aL ?_; (case aP => exact (k39_mkF _ _ (⟨(rd_T39 l0 aA).f0, (⟨(rd_T39 l0 aA).f1.f0, (rd_T39 l0 aA).f1.f1, (rd_T39 l0 aA).f1.f2⟩ : S35)⟩ : S39) (Kd.V_reads' (Kd.V_mono (ok' := (fun k_ => ((fun k_ => (P0_ k_ ∨ w.heap.size ≤ k_))) k_ ∧ some k_ ≠ (u5 : Value).ownBlock)) (aM.out) (fun k_ hk => ⟨hk.1, hk.2⟩))).2.1 (Kd.V_F (Kd.V_mono (ok' := (fun k_ => ((fun k_ => (P0_ k_ ∨ w.heap.size ≤ k_))) k_ ∧ some k_ ≠ (u5 : Value).ownBlock)) (aM.out) (fun k_ hk => ⟨hk.1, hk.2⟩))))); (case aB => exact (hB_ HB)); (case aF => exact (fun k_ hk => (.inr (Nat.le_trans (qa_ (hB_ HB)) hk)))); (case aO => exact (vX_ aW)); (case aS => exact (qa_ (hB_ HB))); (case aL => have := LMc6.out; omega); intro v104 w7 ho hb hg hat; rw [← bT.out] at ho; replace aG := Zq_.mk (Kd.qx_ (ok := (fun k_ => (P0_ k_ ∨ w.heap.size ≤ k_))) (by (with_reducible repeat (first | apply Kd.V_alloc | apply Kd.V_drewN | apply Kd.V_drew)); first | exact aG.out | exact Kd.V_mono aG.out (fun _ hk => ⟨⟨hk.1, hk.2.2⟩, hk.2.1⟩)) hg hat); replace aX := Zq_.mk (Kd.qx_ (ok := (fun k_ => (P0_ k_ ∨ w.heap.size ≤ k_))) (vX_ aX) hg hat); replace aM := Zq_.mk (Kd.qx_ (ok := (fun k_ => (P0_ k_ ∨ w.heap.size ≤ k_))) (vX_ aM) hg hat); replace HB := Zq_.mk (hb); have bV := Zq_.mk (ho); clear aW; clear ho hb hg hat))
       go_roundg k1
       case measure => have := HK1.out; omega
       case rel => exact ⟨(bR), (wrap64 (aA + 1)), eS_, H', ⟨by have := HK1.out; omega⟩, ⟨by refine vM_ ?_; exact aG.out⟩, ⟨by (with_reducible repeat (first | apply Kd.vg_ | apply Kd.vf_ | apply Kd.N_drew)); exact bV.out⟩, ⟨hB_ HB⟩⟩
      ·rw [if_neg c6] at H; exact absurd H (by simp)
    ·rw [if_neg c4] at H; exact absurd H (by simp)
   ·rw [if_neg c3] at H; have c3b0 : decide (aA < (l0.length : Int)) = false := decide_eq_false c3; clear c3; replace H := ob_ H; obtain ⟨bG, A80, H⟩ := H; replace H : (some bG) = some r := H; have A8 := Zq_.mk A80; clear A80; obtain rfl := Option.some.inj H; obtain ⟨Ao9, co9, eo9⟩ := Kd.N_slice aW.out; subst eo9
    go_wp2_with (first | ((with_reducible refine qf_ (f := 27) rfl ?_); refine goesL_ (some 28) rfl rfl Try.func27 (by kernel_rfl) rfl #[.slice Ao9 aQ.length co9] rfl aR_ ?_; (with_reducible refine (ref06_Copy.calls k1 _ _ aQ bG _ ?side1 ?side2 A8.out).mono ?_); (case side1 => exact cX_ ((Kd.N_reads' aW.out).2.2)); (case side2 => exact (Kd.N_reads' aW.out).2.1); rintro e w10 ⟨v107, rfl, ho0, hb⟩; refine ⟨_, rfl, ?_⟩; replace aG := Zq_.mk (Kd.V_elder' (vX_ aG) (by first | exact Kd.N_base ho0 | exact Kd.S_base ho0) hb); have bU := Zq_.mk (Kd.N_lower (Kd.N_mono (ok' := fun k_ => (P0_ k_ ∨ w.heap.size ≤ k_) ∧ some k_ ≠ (.slice Ao9 aQ.length co9 : Value).ownBlock) (Kd.S_N (Kd.S_bound ho0)) (fun k_ hk_ => ⟨(.inr (Nat.le_trans (qa_ (hB_ HB)) hk_.2.1)), (Kd.fresh' (Kd.N_lt (vX_ aW)) k_ hk_.2.1)⟩)) (qa_ (hB_ HB))); replace aW := Zq_.mk (Kd.N_elder' (vX_ aW) (by first | exact Kd.N_base ho0 | exact Kd.S_base ho0) hb); replace HB := sB_ HB hb; (try clear hb); (try clear ho0)))
    go_ret
    exact ⟨_, by exact eW_, by (with_reducible repeat (first | apply Kd.vg_ | apply Kd.vf_ | apply Kd.N_drew)); exact Kd.N_mono bU.out (fun _ hk => hk.1), hB_ HB⟩
mutual
def ref08_Great.l0 : Nat → List (S53) → Int → Option (Bool)
 | 0, _, _ => none
 | k + 1, x0, x3 => if x3 < (x0.length : Int) then (ref08_Great.j1 k x0 x3 (decide (x3 < 41))) else (ref08_Great.j1 k x0 x3 false)
def ref08_Great.j1 : Nat → List (S53) → Int → Bool → Option (Bool)
 | 0, _, _, _ => none
 | k + 1, x0, x3, x11 => if x11 = true then (if 0 ≤ x3 then (if x3 < (x0.length : Int) then ((ref05_Great.f k ((rd_T53 x0 x3).f2.f0) ((rd_T53 x0 x3).f2.f1) ((rd_T53 x0 x3).f2.f2)).bind fun aP => (if aP = true then (some true) else (ref08_Great.l0 k x0 (wrap64 (x3 + 1))))) else (none)) else (none)) else (some (decide ((x0.length : Int) > 40)))
end
def ref08_Great.f (k : Nat) (l0 : List (S53)) : Option (Bool) := ref08_Great.l0 k l0 0
theorem ref08_Great.mono_l : ∀ k, (∀ y0 y1, LeO (ref08_Great.l0 k y0 y1) (ref08_Great.l0 (k + 1) y0 y1)) ∧ (∀ y0 y1 y2, LeO (ref08_Great.j1 k y0 y1 y2) (ref08_Great.j1 (k + 1) y0 y1 y2))
 | 0 => ⟨fun _ _ r h => by simp [ref08_Great.l0] at h, fun _ _ _ r h => by simp [ref08_Great.j1] at h⟩
 | k + 1 => by
  obtain ⟨ih0, ih1⟩ := ref08_Great.mono_l k; refine ⟨?_, ?_⟩
  ·intro y0 y1
   unfold ref08_Great.l0
   with_reducible repeat' first | exact ih0 _ _ | exact ih1 _ _ _ | exact ref05_Great.mono _ _ _ _ | exact LeO.refl _ | exact LeO.none _ | refine LeO.ite ?_ ?_ | refine LeO.bind ?_ (fun _ => ?_)
  ·intro y0 y1 y2
   unfold ref08_Great.j1
   with_reducible repeat' first | exact ih0 _ _ | exact ih1 _ _ _ | exact ref05_Great.mono _ _ _ _ | exact LeO.refl _ | exact LeO.none _ | refine LeO.ite ?_ ?_ | refine LeO.bind ?_ (fun _ => ?_)
theorem ref08_Great.mono : ∀ a0 k, LeO (ref08_Great.f k a0) (ref08_Great.f (k + 1) a0) := by
 intro a0 k; obtain ⟨ih0, ih1⟩ := ref08_Great.mono_l k
 unfold ref08_Great.f
 with_reducible repeat' first | exact ih0 _ _ | exact ih1 _ _ _ | exact ref05_Great.mono _ _ _ _ | exact LeO.refl _ | exact LeO.none _ | refine LeO.ite ?_ ?_ | refine LeO.bind ?_ (fun _ => ?_)
theorem ref08_Great.calls (k : Nat) (A0 : Option Addr) (c0 : Nat) (l0 : List (S53)) (r : Bool) (w : World) (hr0 : Kd.C k53 w A0 l0.length l0) (hc0 : l0.length ≤ c0) (h : ref08_Great.f k l0 = some r) :
  Calls Try.prog 24 #[.slice A0 l0.length c0] w fun e w' => e = .returned (.bool r) ∧ Below w.heap.size w w' := by
 have hu35 := Try.underlying35; have HR0 := Zq_.mk hr0; have HC0 := Zq_.mk hc0; clear hr0 hc0; have HB := Zq_.mk (Below.refl w.heap.size w); have H : (ref08_Great.l0 k l0 0) = some r := h; clear h; have H' := Zq_.mk H; clear H
 go_enter Try.func24, Try.ntmps24
 go_wp2
 go_loopg [3] k (fun kq v3 w' => ∃ (aA : Int), v3 = .int .i64 aA ∧ Zq_ (ref08_Great.l0 kq l0 aA = some r) ∧ Zq_ (kq ≤ k) ∧ Zq_ (Below w.heap.size w w'))
 case atStart => exact ⟨(0), eS_, H', ⟨Nat.le_refl _⟩, ⟨hB_ HB⟩⟩
 case round =>
  clear H'; obtain ⟨aA, rfl, HA, HK1, HB⟩ := hrel
  cases gk with
  | zero => exact absurd HA.out (by simp [ref08_Great.l0])
  | succ k1 =>
   have H := HA.out; clear HA; simp only [ref08_Great.l0] at H; have HC2 := Zq_.mk H; clear H
   go_upto_region 2 with (fail)
   go_cut [11] (fun v11 wc => ∃ (kq : Nat) (aO : Bool), v11 = .bool aO ∧ Zq_ (ref08_Great.j1 kq l0 aA aO = some r) ∧ Zq_ (kq ≤ k1) ∧ Zq_ (Below w.heap.size w wc))
   case first =>
    have H := HC2.out; clear HC2
    by_cases c3 : aA < (l0.length : Int)
    ·rw [if_pos c3] at H; have aQ : decide (aA < (l0.length : Int)) = true := decide_eq_true c3; clear c3; (first | rw [aQ] | (simp only [i64_w, i32_w]; rw [aQ]) | skip); have H' := Zq_.mk H; clear H
     go_wp2
     go_meet
     case rel => exact ⟨_, (decide (aA < 41)), eS_, H', ⟨by have := HK1.out; first | omega | exact Nat.le_refl _⟩, ⟨hB_ HB⟩⟩
    ·rw [if_neg c3] at H; have aQ : decide (aA < (l0.length : Int)) = false := decide_eq_false c3; clear c3; (first | rw [aQ] | (simp only [i64_w, i32_w]; rw [aQ]) | skip); have H' := Zq_.mk H; clear H
     go_wp2
     go_meet
     case rel => exact ⟨_, (false), eS_, H', ⟨by have := HK1.out; first | omega | exact Nat.le_refl _⟩, ⟨hB_ HB⟩⟩
   case rest =>
    clear HC2
    try clear c2
    try clear p2
    try clear c3
    try clear aQ
    obtain ⟨kq, aO, rfl, HA, HJ1, HB⟩ := hcut
    cases kq with
    | zero => exact absurd HA.out (by simp [ref08_Great.j1])
    | succ kj1 =>
     have H := HA.out; clear HA; simp only [ref08_Great.j1] at H
     by_cases c4 : aO = true
     ·subst c4
      have H1 : (if 0 ≤ aA then (if aA < (l0.length : Int) then ((ref05_Great.f kj1 ((rd_T53 l0 aA).f2.f0) ((rd_T53 l0 aA).f2.f1) ((rd_T53 l0 aA).f2.f2)).bind fun aP => (if aP = true then (some true) else (ref08_Great.l0 kj1 l0 (wrap64 (aA + 1))))) else (none)) else (none)) = some r := by rw [if_pos rfl] at H; exact H
      clear H; have H := H1; clear H1
      by_cases c5 : 0 ≤ aA
      ·rw [if_pos c5] at H; have c5b0 : decide (0 ≤ aA) = true := decide_eq_true c5; clear c5
       by_cases c6 : aA < (l0.length : Int)
       ·rw [if_pos c6] at H; have c6b0 : decide (aA < (l0.length : Int)) = true := decide_eq_true c6; clear c6; replace H := ob_ H; obtain ⟨aP, A70, H⟩ := H; replace H : (if aP = true then (some true) else (ref08_Great.l0 kj1 l0 (wrap64 (aA + 1)))) = some r := H; have A7 := Zq_.mk A70; clear A70
        by_cases c8 : aP = true
        ·subst c8
         have H1 : (some true) = some r := by rw [if_pos rfl] at H; exact H
         clear H; have H := H1; clear H1; obtain rfl := Option.some.inj H; have aL : 0 ≤ (aA : Int) := dA_; have aK : aA < (l0.length : Int) := dA_; obtain ⟨aS, aN, aM, aR, aF, aE, aD, aC, aB, aG, aH⟩ := at_T53 HR0.out aA aL aK; cases aR; replace aF := hC_ HB aF; replace aE := hC_ HB aE; replace aD := hC_ HB aD; replace aC := hC_ HB aC; replace aB := hC_ HB aB; have aI := Zq_.mk aH; have aJ := Zq_.mk aG; clear aH aG; replace aL := eq_true aL; replace aK := eq_true aK
         go_wp2_with (first | ((with_reducible refine qf_ (f := 34) rfl ?_); refine goesL_ (some 19) rfl rfl Try.func34 (by kernel_rfl) rfl #[.agg #[.int .i64 ((rd_T53 l0 aA).f2.f0), .int .i64 ((rd_T53 l0 aA).f2.f1), .slice aN ((rd_T53 l0 aA).f2.f2).length aM]] rfl aR_ ?_; (with_reducible refine (ref05_Great.calls kj1 ((rd_T53 l0 aA).f2.f0) ((rd_T53 l0 aA).f2.f1) _ _ ((rd_T53 l0 aA).f2.f2) true _ ?side1 ?side2 A7.out).mono ?_); (case side1 => exact cX_ (Kd.qg_ aI.out HB.out)); (case side2 => exact aJ.out); rintro e w9 ⟨rfl, hb⟩; refine ⟨_, rfl, ?_⟩; replace HB := sB_ HB hb; (try clear hb)))
         go_ret
         exact ⟨by exact eW_, hB_ HB⟩
        ·replace c8 := Bool.eq_false_iff.mpr c8; subst c8
         have H1 : (ref08_Great.l0 kj1 l0 (wrap64 (aA + 1))) = some r := by rw [if_neg (show ¬ (false = true) by decide)] at H; exact H
         clear H; have H := H1; clear H1; have H' := Zq_.mk H; clear H; have aL : 0 ≤ (aA : Int) := dA_; have aK : aA < (l0.length : Int) := dA_; obtain ⟨aS, aN, aM, aR, aF, aE, aD, aC, aB, aG, aH⟩ := at_T53 HR0.out aA aL aK; cases aR; replace aF := hC_ HB aF; replace aE := hC_ HB aE; replace aD := hC_ HB aD; replace aC := hC_ HB aC; replace aB := hC_ HB aB; have aI := Zq_.mk aH; have aJ := Zq_.mk aG; clear aH aG; replace aL := eq_true aL; replace aK := eq_true aK
         go_wp2_with (first | ((with_reducible refine qf_ (f := 34) rfl ?_); refine goesL_ (some 19) rfl rfl Try.func34 (by kernel_rfl) rfl #[.agg #[.int .i64 ((rd_T53 l0 aA).f2.f0), .int .i64 ((rd_T53 l0 aA).f2.f1), .slice aN ((rd_T53 l0 aA).f2.f2).length aM]] rfl aR_ ?_; (with_reducible refine (ref05_Great.calls kj1 ((rd_T53 l0 aA).f2.f0) ((rd_T53 l0 aA).f2.f1) _ _ ((rd_T53 l0 aA).f2.f2) false _ ?side1 ?side2 A7.out).mono ?_); (case side1 => exact cX_ (Kd.qg_ aI.out HB.out)); (case side2 => exact aJ.out); rintro e w10 ⟨rfl, hb⟩; refine ⟨_, rfl, ?_⟩; replace HB := sB_ HB hb; (try clear hb)))
         go_roundg kj1
         case measure => have := HK1.out; have := HJ1.out; omega
         case rel => exact ⟨(wrap64 (aA + 1)), eS_, H', ⟨by have := HK1.out; have := HJ1.out; omega⟩, ⟨hB_ HB⟩⟩
       ·rw [if_neg c6] at H; exact absurd H (by simp)
      ·rw [if_neg c5] at H; exact absurd H (by simp)
     ·replace c4 := Bool.eq_false_iff.mpr c4; subst c4
      have H1 : (some (decide ((l0.length : Int) > 40))) = some r := by rw [if_neg (show ¬ (false = true) by decide)] at H; exact H
      clear H; have H := H1; clear H1; obtain rfl := Option.some.inj H
      go_wp2
      go_ret
      exact ⟨by exact eW_, hB_ HB⟩
def state_Copy.f (aH : Int) (aI : Int) (aF : List (S58)) : Option (Int × Int × (List (S58))) := (api_Entry_61.f aF).bind fun aM => (some (aH, aI, aM))
theorem state_Copy.calls (aH : Int) (aI : Int) (aR : Option Addr) (aP : Nat) (aF : List (S58)) (r1 : Int) (r2 : Int) (r3 : List (S58)) (w : World) (aZ : Kd.C k58 w aR aF.length aF) (bB : aF.length ≤ aP) (h : state_Copy.f aH aI aF = some (r1, r2, r3)) :
  Calls Try.prog 40 #[.agg #[.int .i64 aH, .int .i64 aI, .slice aR aF.length aP]] w fun e w' => ∃ v2_ : Value, e = .returned (.agg #[.int .i64 r1, .int .i64 r2, v2_]) ∧ Kd.R k58 58 w' w.heap.size (fun _ => True) v2_ r3 ∧ Below w.heap.size w w' := by
 have hu35 := Try.underlying35; have bH := Zq_.mk aZ; have bJ := Zq_.mk bB; clear aZ bB; have HB := Zq_.mk (Below.refl w.heap.size w); have H : ((api_Entry_61.f aF).bind fun aM => (some (aH, aI, aM))) = some (r1, r2, r3) := h; clear h; replace H := ob_ H; obtain ⟨aM, A20, H⟩ := H; replace H : (some (aH, aI, aM)) = some (r1, r2, r3) := H; have A2 := Zq_.mk A20; clear A20; simp only [Option.some.injEq, Prod.mk.injEq] at H; obtain ⟨rfl, rfl, rfl⟩ := H
 go_enter Try.func40, Try.ntmps40
 go_wp2_with (first | ((with_reducible refine qd_ (N := 1) rfl ?_); refine bE_ 1 #[.int .i64 aH, .int .i64 aI, .slice aR aF.length aP] 35 ?_; intro aB hg w3 hbox hb; have aA := Zq_.mk (hbox); have bL := gW_ (w := w) hg (hB_ HB); have bN := gW_ (w := w) hg (hB_ HB); replace HB := sB_ HB hb; clear hb hbox hg) | ((with_reducible refine qd_ (N := 2) rfl ?_); refine bE_ 2 #[.int .i64 0, .int .i64 0, .slice none 0 0] 35 ?_; intro aG hg w4 hbox hb; have aC := Zq_.mk (hbox); have bK := gW_ (w := w) hg (by exact hSet_ HB); have bM := gW_ (w := w) hg (by exact hSet_ HB); replace HB := sB_ HB hb; have aJ := Zq_.mk ((by rw [hg]; exact Nat.ne_of_lt (blk_lt (g := aB) (o := .cells #[.int .i64 aH, .int .i64 aI, .slice aR aF.length aP] 35 (0, 0)) (by exact bK_ aA)) : aB ≠ aG)); have aD := Zq_.mk ((by rw [hg]; exact Nat.ne_of_gt (blk_lt (g := aB) (o := .cells #[.int .i64 aH, .int .i64 aI, .slice aR aF.length aP] 35 (0, 0)) (by exact bK_ aA)) : aG ≠ aB)); replace aA := Zq_.mk (qc_ (g := aB) (o := .cells #[.int .i64 aH, .int .i64 aI, .slice aR aF.length aP] 35 (0, 0)) (by exact bK_ aA) hb); clear hb hbox hg; have hnb5 := aJ.out; have hnc5 := aD.out; obtain ⟨hcz6_0, hcz6_1, hcz6_2⟩ := c3_ aA; obtain ⟨hfz6_0, hfz6_1, hfz6_2⟩ := f3_ aA) | ((with_reducible refine qf_ (f := 61) rfl ?_); refine goesL_ (some 5) rfl rfl Try.func61 (by kernel_rfl) rfl #[.slice aR aF.length aP] rfl aR_ ?_; (with_reducible refine (api_Entry_61.calls _ _ aF aM _ ?side1 ?side2 A2.out).mono ?_); (case side1 => exact cX_ (Kd.qg_ bH.out HB.out)); (case side2 => exact bJ.out); rintro e w7 ⟨v104, rfl, ho0, hb⟩; refine ⟨_, rfl, ?_⟩; have bD := Zq_.mk (Kd.vd_ ho0 (qa_ (by exact hSet_ HB))); replace aA := Zq_.mk (qc_ (g := aB) (o := .cells #[.int .i64 aH, .int .i64 aI, .slice aR aF.length aP] 35 (0, 0)) (by exact bK_ aA) hb); replace aC := Zq_.mk (qc_ (g := aG) (o := .cells #[.int .i64 0, .int .i64 0, .slice none 0 0] 35 (0, 0)) (by exact bK_ aC) hb); replace HB := sB_ HB hb; (try clear hb); (try clear ho0); obtain ⟨Ao8, co8, eo8⟩ := Kd.vh_ bD.out; subst eo8; obtain ⟨hcz9_0, hcz9_1, hcz9_2⟩ := c3_ aA; obtain ⟨hfz9_0, hfz9_1, hfz9_2⟩ := f3_ aA; obtain ⟨aX, aW, aV⟩ := c3_ aC; obtain ⟨aU, aT, aS⟩ := f3_ aC))
 refine bodyPost_ret (results_cell_row rfl _ _ aG 35 #[.int .i64 aH, .int .i64 aI, .slice Ao8 aM.length co8] (0, 0) _ rfl (by refine bP_ (cs := #[.int .i64 aH, .int .i64 aI, .slice none 0 0]) 2 ?_; refine bP_ (cs := #[.int .i64 aH, .int .i64 0, .slice none 0 0]) 1 ?_; refine bP_ (cs := #[.int .i64 0, .int .i64 0, .slice none 0 0]) 0 ?_; refine bF_ aD ?_; exact bK_ aC) Try.underlying35 rfl (by kernel_rfl)) rfl ?_; exact ⟨_, by exact eW_, by (with_reducible repeat (first | apply Kd.qq_ | apply Kd.qp_ | apply Kd.R_drew)); exact Kd.R_mono (Kd.R_far (Kd.R_far (Kd.R_far (Kd.R_far (Kd.ve_ (Kd.ve_ bD.out aA.out (by decide)) aC.out (by decide)) (fun _ hk => hk.1.2) _) (fun _ hk => hk.2) _) (fun _ hk => hk.2) _) (fun _ hk => hk.2) _) (fun _ hk => trivial), by exact hSet_ HB⟩
def view_own.f (a0 : Int) (aL : Int) (aK : Int) (aE : List (S58)) : Option (Int × Int × Int × (List (S58))) := (state_Copy.f aL aK aE).bind fun aN => (some (a0, aN.1, aN.2.1, aN.2.2))
theorem view_own.calls (a0 : Int) (aL : Int) (aK : Int) (aQ : Option Addr) (aO : Nat) (aE : List (S58)) (r1 : Int) (r2 : Int) (r3 : Int) (r4 : List (S58)) (w : World) (aY : Kd.C k58 w aQ aE.length aE) (bA : aE.length ≤ aO) (h : view_own.f a0 aL aK aE = some (r1, r2, r3, r4)) :
  Calls Try.prog 66 #[.int .i64 a0, .agg #[.int .i64 aL, .int .i64 aK, .slice aQ aE.length aO]] w fun e w' => ∃ v3_ : Value, e = .returned (.agg #[.int .i64 r1, .int .i64 r2, .int .i64 r3, v3_]) ∧ Kd.R k58 58 w' w.heap.size (fun _ => True) v3_ r4 ∧ Below w.heap.size w w' := by
 have hu35 := Try.underlying35; have hu39 := Try.underlying39; have bG := Zq_.mk aY; have bI := Zq_.mk bA; clear aY bA; have HB := Zq_.mk (Below.refl w.heap.size w); have H : ((state_Copy.f aL aK aE).bind fun aN => (some (a0, aN.1, aN.2.1, aN.2.2))) = some (r1, r2, r3, r4) := h; clear h; replace H := ob_ H; obtain ⟨⟨aM, bF, bE⟩, A30, H⟩ := H; replace H : (some (a0, aM, bF, bE)) = some (r1, r2, r3, r4) := H; have A3 := Zq_.mk A30; clear A30; simp only [Option.some.injEq, Prod.mk.injEq] at H; obtain ⟨rfl, rfl, rfl, rfl⟩ := H
 go_enter Try.func66, Try.ntmps66
 go_wp2_with (first | ((with_reducible refine qd_ (N := 3) rfl ?_); refine bE_ 3 #[.int .i64 aL, .int .i64 aK, .slice aQ aE.length aO] 35 ?_; intro aB hg w4 hbox hb; have aA := Zq_.mk (hbox); have bL := gW_ (w := w) hg (hB_ HB); have bN := gW_ (w := w) hg (hB_ HB); replace HB := sB_ HB hb; clear hb hbox hg) | ((with_reducible refine qd_ (N := 4) rfl ?_); refine bE_ 4 #[.int .i64 0, .int .i64 0, .int .i64 0, .slice none 0 0] 39 ?_; intro aG hg w5 hbox hb; have aC := Zq_.mk (hbox); have bK := gW_ (w := w) hg (by exact hSet_ HB); have bM := gW_ (w := w) hg (by exact hSet_ HB); replace HB := sB_ HB hb; have aJ := Zq_.mk ((by rw [hg]; exact Nat.ne_of_lt (blk_lt (g := aB) (o := .cells #[.int .i64 aL, .int .i64 aK, .slice aQ aE.length aO] 35 (0, 0)) (by exact bK_ aA)) : aB ≠ aG)); have aD := Zq_.mk ((by rw [hg]; exact Nat.ne_of_gt (blk_lt (g := aB) (o := .cells #[.int .i64 aL, .int .i64 aK, .slice aQ aE.length aO] 35 (0, 0)) (by exact bK_ aA)) : aG ≠ aB)); replace aA := Zq_.mk (qc_ (g := aB) (o := .cells #[.int .i64 aL, .int .i64 aK, .slice aQ aE.length aO] 35 (0, 0)) (by exact bK_ aA) hb); clear hb hbox hg; have hnb6 := aJ.out; have hnc6 := aD.out; obtain ⟨hcz7_0, hcz7_1, hcz7_2⟩ := c3_ aA; obtain ⟨hfz7_0, hfz7_1, hfz7_2⟩ := f3_ aA) | ((with_reducible refine qf_ (f := 40) rfl ?_); refine goesL_ (some 7) rfl rfl Try.func40 (by kernel_rfl) rfl #[.agg #[.int .i64 aL, .int .i64 aK, .slice aQ aE.length aO]] rfl aR_ ?_; (with_reducible refine (state_Copy.calls aL aK _ _ aE aM bF bE _ ?side1 ?side2 A3.out).mono ?_); (case side1 => exact cX_ (Kd.qg_ bG.out HB.out)); (case side2 => exact bI.out); rintro e w8 ⟨v106, rfl, ho0, hb⟩; refine ⟨_, rfl, ?_⟩; have bC := Zq_.mk (Kd.vd_ ho0 (qa_ (by exact hSet_ HB))); replace aA := Zq_.mk (qc_ (g := aB) (o := .cells #[.int .i64 aL, .int .i64 aK, .slice aQ aE.length aO] 35 (0, 0)) (by exact bK_ aA) hb); replace aC := Zq_.mk (qc_ (g := aG) (o := .cells #[.int .i64 0, .int .i64 0, .int .i64 0, .slice none 0 0] 39 (0, 0)) (by exact bK_ aC) hb); replace HB := sB_ HB hb; (try clear hb); (try clear ho0); obtain ⟨Ao9, co9, eo9⟩ := Kd.vh_ bC.out; subst eo9; obtain ⟨aX, aW, aV, hcz10_3⟩ := c4_ aC; obtain ⟨aU, aT, aS, hfz10_3⟩ := f4_ aC))
 refine bodyPost_ret (results_cell_row rfl _ _ aG 39 #[.int .i64 a0, .int .i64 aM, .int .i64 bF, .slice Ao9 bE.length co9] (0, 0) _ rfl (by exact bW4_ (bK_ aC)) Try.underlying39 rfl (by kernel_rfl)) rfl ?_; exact ⟨_, by exact eW_, by (with_reducible repeat (first | apply Kd.qq_ | apply Kd.qp_ | apply Kd.R_drew)); exact Kd.R_mono (Kd.R_far (Kd.R_far (Kd.R_far (Kd.R_far (Kd.ve_ bC.out aC.out (by decide)) (fun _ hk => hk.2) _) (fun _ hk => hk.2) _) (fun _ hk => hk.2) _) (fun _ hk => hk.2) _) (fun _ hk => trivial), by exact hSet_ HB⟩
def entry_Same.f (k : Nat) (l0 : List (S58)) (l1 : List (S58)) : Option (Bool) := (api_Entry_69.f k l0 l1).bind fun aA => (some aA)
theorem entry_Same.mono : ∀ a0 a1 k, LeO (entry_Same.f k a0 a1) (entry_Same.f (k + 1) a0 a1) := by
 intro a0 a1 k
 unfold entry_Same.f
 with_reducible repeat' first | exact api_Entry_69.mono _ _ _ | exact LeO.refl _ | exact LeO.none _ | refine LeO.ite ?_ ?_ | refine LeO.bind ?_ (fun _ => ?_)
theorem entry_Same.calls (k : Nat) (A0 : Option Addr) (c0 : Nat) (l0 : List (S58)) (A1 : Option Addr) (c1 : Nat) (l1 : List (S58)) (r : Bool) (w : World) (hr0 : Kd.C k58 w A0 l0.length l0) (hc0 : l0.length ≤ c0) (hr1 : Kd.C k58 w A1 l1.length l1) (hc1 : l1.length ≤ c1) (h : entry_Same.f k l0 l1 = some r) :
  Calls Try.prog 52 #[.slice A0 l0.length c0, .slice A1 l1.length c1] w fun e w' => e = .returned (.bool r) ∧ Drawn0 w w' := by
 have HR0 := Zq_.mk hr0; have HC0 := Zq_.mk hc0; clear hr0 hc0; have HR1 := Zq_.mk hr1; have HC1 := Zq_.mk hc1; clear hr1 hc1; have H : ((api_Entry_69.f k l0 l1).bind fun aA => (some aA)) = some r := h; clear h; replace H := ob_ H; obtain ⟨aA, A30, H⟩ := H; replace H : (some aA) = some r := H; have A3 := Zq_.mk A30; clear A30; obtain rfl := Option.some.inj H
 go_enter Try.func52, Try.ntmps52
 go_wp2_with (first | ((with_reducible refine qf_ (f := 69) rfl ?_); refine goesL_ (some 7) rfl rfl Try.func69 (by kernel_rfl) rfl #[.slice A0 l0.length c0, .slice A1 l1.length c1] rfl aR_ ?_; (with_reducible refine (api_Entry_69.calls k _ _ l0 _ _ l1 aA _ ?side1 ?side2 ?side3 ?side4 A3.out).mono ?_); (case side1 => exact cX_ HR0.out); (case side2 => exact HC0.out); (case side3 => exact cX_ HR1.out); (case side4 => exact HC1.out); rintro e w' ⟨rfl, ⟨nd, rfl⟩⟩; refine ⟨_, rfl, ?_⟩))
 go_ret
 exact ⟨by first | rfl | (simp; done) | (simp [*]; done), by repeat (first | exact Drawn0.refl _ | apply Drawn0.step)⟩
def entry_Above.f (l0 : List S58) (a1 : Int) : Option (List S58) := if l0.length < 4398046511104 then some (l0.filter (fun x => !decide (x.f1 ≤ a1))) else none
open Go.Proofs.YtgipbmjkgciccaaW.Hw in
theorem entry_Above.pred (a1 : Int) (g : Nat) (w : World) (row : Option Nat) (hc : w.cell? ⟨g, 0, none⟩ = some (.int .i64 a1)) (hne : some g ≠ row) : PredR Try.prog k58 75 #[.pointer (some ⟨g, 0, none⟩)] aggOf (fun x => decide (x.f1 ≤ a1)) w row := by
 intro W x cs hb hx; have hcW := grown_cell hb hc hne; obtain rfl := k58_open hx; clear hx hb hc hne; have HB := Zq_.mk (Below.refl W.heap.size W)
 go_enter Try.func75, Try.ntmps75
 go_wp2_with (first | ((with_reducible refine qd_ (N := 2) rfl ?_); (try (refine qj_ (by rfl) ?_; dsimp only)); refine bE_ 2 #[.int .i64 x.f0, .int .i64 x.f1, .string x.f2] 58 ?_; intro aG hg_ w102 hbox_ hb_; have n0_ := Zq_.mk (qo_ (hB_ HB) hb_); have aZ := Zq_.mk ((by rw [hg_]; exact (qa_ (hB_ HB)) : W.heap.size ≤ aG)); have n1_ := Zq_.mk (hbox_); clear HB; have HB := n0_; have aE := n1_; clear n0_ n1_; clear hb_ hbox_ hg_; obtain ⟨aV, aU, aT⟩ := c3_ aE; obtain ⟨aR, aQ, aP⟩ := f3_ aE; have hcw_ := pw_cell_below HB.out hcW))
 go_ret
 exact ⟨by first | rfl | (simp; done) | (simp [*]; done), (hB_ HB)⟩
open Go.Proofs.YtgipbmjkgciccaaW.Hw in
theorem entry_Above.calls (A0 : Option Addr) (c0 : Nat) (l0 : List S58) (a1 : Int) (r : List S58) (w : World) (hr0 : Kd.C k58 w A0 l0.length l0) (hc0 : l0.length ≤ c0) (h : entry_Above.f l0 a1 = some r) :
  Calls Try.prog 58 #[.slice A0 l0.length c0, .int .i64 a1] w fun e w' => ∃ v0_ : Value, e = .returned v0_ ∧ Kd.R k58 58 w' w.heap.size (fun _ => True) v0_ r ∧ Below w.heap.size w w' := by
 unfold entry_Above.f at h
 by_cases hl : l0.length < 4398046511104
 case neg => rw [if_neg hl] at h; cases h
 rw [if_pos hl] at h; obtain rfl := Option.some.inj h; clear h; have HL := Zq_.mk (show api_Entry_61.f l0 = some l0 by unfold api_Entry_61.f; rw [if_pos hl]); have HR := Zq_.mk hr0; have HC := Zq_.mk hc0; clear hr0 hc0 hl; have HB := Zq_.mk (Below.refl w.heap.size w); have EG := Zq_.mk (fun args w => enters Try.prog Try.func75 (by kernel_rfl) (by kernel_rfl) args w)
 go_enter Try.func58, Try.ntmps58
 go_wp2_with (first | ((with_reducible refine qd_ (N := 3) rfl ?_); (try (refine qj_ (by rfl) ?_; dsimp only)); refine bE_ 3 #[.int .i64 a1] 3 ?_; intro aB hg_ w101 hbox_ hb_; have n0_ := Zq_.mk (qo_ (hB_ HB) hb_); have bA := Zq_.mk ((by rw [hg_]; exact (qa_ (hB_ HB)) : w.heap.size ≤ aB)); have n1_ := Zq_.mk (hbox_); clear HB; have HB := n0_; have aA := n1_; clear n0_ n1_; clear hb_ hbox_ hg_; have aW := cz_ aA 0 (.int .i64 a1); have aS := qr_ aA.out 0; have LT101 := Zq_.mk (blk_lt aA.out)) | (go_at_call 61; refine (api_Entry_61.calls A0 c0 l0 l0 _ (Kd.qg_ HR.out (hB_ HB)) HC.out HL.out).mono ?_; rintro e w3 ⟨v5, rfl, ho5, hb3⟩; have NE5 := Zq_.mk (show some aB ≠ v5.ownBlock from fun e_ => by have h1 := Kd.R_base ho5 aB e_.symm; have h2 := LT101.out; omega); have HO5 := Zq_.mk (Kd.vd_ ho5 (qa_ (hB_ HB))); have n0_ := Zq_.mk (qo_ (hB_ HB) hb3); have m101_ := Zq_.mk (blk_bel (by exact bK_ aA) hb3); clear HB; have HB := n0_; clear n0_; clear aA; have aA := m101_; clear m101_; clear hb3; clear ho5) | (go_at_call 74; refine (DeleteFuncE.calls (fun x => decide (x.f1 ≤ a1)) 75 #[.pointer (some ⟨aB, 0, none⟩)] EG.out v5 l0 w.heap.size (fun _ => True) _ (entry_Above.pred a1 aB _ v5.ownBlock ((qb_ (by exact bK_ aA) 0).trans rfl) NE5.out) (vX_ HO5) (qa_ (hB_ HB))).mono ?_; rintro e w4 ⟨v6, rfl, ho6, hg6, _⟩; have n0_ := Zq_.mk (((hB_ HB) : Below w.heap.size w w3).grown hg6 (qa_ (hB_ HB)) (Kd.R_base HO5.out)); clear HB; have HB := n0_; have HO6 := Zq_.mk ho6; clear n0_ ho6 hg6))
 go_ret
 exact ⟨_, rfl, HO6.out, HB.out⟩
def state_Above.f (aD : Int) (aF : Int) (aC : List (S58)) (a1 : Int) : Option (Int × Int × (List (S58))) := (entry_Above.f aC a1).bind fun aK => (some (aD, aF, aK))
theorem state_Above.calls (aD : Int) (aF : Int) (aJ : Option Addr) (aI : Nat) (aC : List (S58)) (a1 : Int) (r1 : Int) (r2 : Int) (r3 : List (S58)) (w : World) (aM : Kd.C k58 w aJ aC.length aC) (aN : aC.length ≤ aI) (h : state_Above.f aD aF aC a1 = some (r1, r2, r3)) :
  Calls Try.prog 37 #[.agg #[.int .i64 aD, .int .i64 aF, .slice aJ aC.length aI], .int .i64 a1] w fun e w' => ∃ v2_ : Value, e = .returned (.agg #[.int .i64 r1, .int .i64 r2, v2_]) ∧ Kd.R k58 58 w' w.heap.size (fun _ => True) v2_ r3 ∧ Below w.heap.size w w' := by
 have hu35 := Try.underlying35; have aX := Zq_.mk aM; have aY := Zq_.mk aN; clear aM aN; have HB := Zq_.mk (Below.refl w.heap.size w); have H : ((entry_Above.f aC a1).bind fun aK => (some (aD, aF, aK))) = some (r1, r2, r3) := h; clear h; replace H := ob_ H; obtain ⟨aK, A30, H⟩ := H; replace H : (some (aD, aF, aK)) = some (r1, r2, r3) := H; have A3 := Zq_.mk A30; clear A30; simp only [Option.some.injEq, Prod.mk.injEq] at H; obtain ⟨rfl, rfl, rfl⟩ := H
 go_enter Try.func37, Try.ntmps37
 go_wp2_with (first | ((with_reducible refine qd_ (N := 2) rfl ?_); refine bE_ 2 #[.int .i64 aD, .int .i64 aF, .slice aJ aC.length aI] 35 ?_; intro aB hg w4 hbox hb; have aA := Zq_.mk (hbox); have GW101 := gW_ (w := w) hg (hB_ HB); have bA := gW_ (w := w) hg (hB_ HB); replace HB := sB_ HB hb; clear hb hbox hg) | ((with_reducible refine qd_ (N := 4) rfl ?_); refine bE_ 4 #[.int .i64 0, .int .i64 0, .slice none 0 0] 35 ?_; intro aG hg w5 hbox hb; have aE := Zq_.mk (hbox); have GW102 := gW_ (w := w) hg (by exact hSet_ HB); have aZ := gW_ (w := w) hg (by exact hSet_ HB); replace HB := sB_ HB hb; have aL := Zq_.mk ((by rw [hg]; exact Nat.ne_of_lt (blk_lt (g := aB) (o := .cells #[.int .i64 aD, .int .i64 aF, .slice aJ aC.length aI] 35 (0, 0)) (by exact bK_ aA)) : aB ≠ aG)); have aH := Zq_.mk ((by rw [hg]; exact Nat.ne_of_gt (blk_lt (g := aB) (o := .cells #[.int .i64 aD, .int .i64 aF, .slice aJ aC.length aI] 35 (0, 0)) (by exact bK_ aA)) : aG ≠ aB)); replace aA := Zq_.mk (qc_ (g := aB) (o := .cells #[.int .i64 aD, .int .i64 aF, .slice aJ aC.length aI] 35 (0, 0)) (by exact bK_ aA) hb); clear hb hbox hg; have hnb6 := aL.out; have hnc6 := aH.out; obtain ⟨hcz7_0, hcz7_1, hcz7_2⟩ := c3_ aA; obtain ⟨hfz7_0, hfz7_1, hfz7_2⟩ := f3_ aA) | ((with_reducible refine qf_ (f := 58) rfl ?_); refine goesL_ (some 8) rfl rfl Try.func58 (by kernel_rfl) rfl #[.slice aJ aC.length aI, .int .i64 a1] rfl aR_ ?_; (with_reducible refine (entry_Above.calls _ _ aC a1 aK _ ?side1 ?side2 A3.out).mono ?_); (case side1 => exact cX_ (Kd.qg_ aX.out HB.out)); (case side2 => exact aY.out); rintro e w8 ⟨v104, rfl, ho0, hb⟩; refine ⟨_, rfl, ?_⟩; have aO := Zq_.mk (Kd.vd_ ho0 (qa_ (by exact hSet_ HB))); replace aA := Zq_.mk (qc_ (g := aB) (o := .cells #[.int .i64 aD, .int .i64 aF, .slice aJ aC.length aI] 35 (0, 0)) (by exact bK_ aA) hb); replace aE := Zq_.mk (qc_ (g := aG) (o := .cells #[.int .i64 0, .int .i64 0, .slice none 0 0] 35 (0, 0)) (by exact bK_ aE) hb); replace HB := sB_ HB hb; (try clear hb); (try clear ho0); obtain ⟨Ao9, co9, eo9⟩ := Kd.vh_ aO.out; subst eo9; obtain ⟨hcz10_0, hcz10_1, hcz10_2⟩ := c3_ aA; obtain ⟨hfz10_0, hfz10_1, hfz10_2⟩ := f3_ aA; obtain ⟨hcz11_0, hcz11_1, hcz11_2⟩ := c3_ aE; obtain ⟨hfz11_0, hfz11_1, hfz11_2⟩ := f3_ aE))
 refine bodyPost_ret (results_cell_row rfl _ _ aG 35 #[.int .i64 aD, .int .i64 aF, .slice Ao9 aK.length co9] (0, 0) _ rfl (by refine bP_ (cs := #[.int .i64 aD, .int .i64 aF, .slice none 0 0]) 2 ?_; refine bP_ (cs := #[.int .i64 aD, .int .i64 0, .slice none 0 0]) 1 ?_; refine bP_ (cs := #[.int .i64 0, .int .i64 0, .slice none 0 0]) 0 ?_; refine bF_ aH ?_; exact bK_ aE) Try.underlying35 rfl (by kernel_rfl)) rfl ?_; exact ⟨_, by exact eW_, by (with_reducible repeat (first | apply Kd.qq_ | apply Kd.qp_ | apply Kd.R_drew)); exact Kd.R_mono (Kd.R_far (Kd.R_far (Kd.R_far (Kd.R_far (Kd.ve_ (Kd.ve_ aO.out aA.out (by decide)) aE.out (by decide)) (fun _ hk => hk.1.2) _) (fun _ hk => hk.2) _) (fun _ hk => hk.2) _) (fun _ hk => hk.2) _) (fun _ hk => trivial), by exact hSet_ HB⟩
end Go.Proofs.Ytgipbmjkgciccaa.P

/- What this function of the program comes to, and that the machine's call does it. No condition. -/
import Derived.Test.YtgipbmjkgciccaaPApiEntry77
namespace Go.Proofs.Ytgipbmjkgciccaa.P
set_option maxHeartbeats 16000000
set_option maxRecDepth 100000
open Go.RowKit Go.Proofs.YtgipbmjkgciccaaW.PrintWords Go.Proofs.YtgipbmjkgciccaaW.PrintLast Go.Proofs.YtgipbmjkgciccaaW.PrintMore
attribute [local go_sem] max2_int min2_int max_two min_two max_three min_three max_four min_four Go.Proofs.YtgipbmjkgciccaaW.Hw.string_gtr
set_option linter.unusedVariables false
set_option linter.unusedSimpArgs false
open Go.Proofs.YtgipbmjkgciccaaW.Hw in
theorem DeleteFuncE.calls (p : S58 → Bool) (g : Nat) (lb : Array Value) (eg : ∀ args w, (callFunc g args).run Try.prog w = .ok (.enter g args) w) (v : Value) (l0 : List S58) (base : Nat) (ok : Nat → Prop) (w : World)
  (hp : PredR Try.prog k58 g lb aggOf p w v.ownBlock) (hR : Kd.R k58 58 w base ok v l0) (hbase : base ≤ w.heap.size) :
  Calls Try.prog 74 #[v, .func (.func g) #[] lb] w fun e w' => ∃ v', e = .returned v' ∧ Kd.R k58 58 w' base ok v' (l0.filter (fun x => !p x)) ∧ w.grownBy w' v.ownBlock ∧ v'.ownBlock = v.ownBlock := by
 obtain ⟨A0, c0, rfl, hlc, hC⟩ := Kd.R_reads hR; have hcall := IndexFuncE.calls p g lb eg A0 c0 l0 w hp.k hC; have hrange := idxI_range p l0; generalize hix : idxI p l0 = ix at hcall hrange
 by_cases hm : ix = -1
 ·subst hm; have hfin := filter_miss hix; have HR := Zq_.mk hR; have HF := Zq_.mk hfin; clear hR hp hC hix hfin hlc hrange hbase
  go_enter Try.func74, Try.ntmps74
  go_wp2_with fail
  refine hcall.mono ?_; rintro e w1 ⟨rfl, hb1⟩
  go_wp2_with fail
  go_ret
  refine ⟨_, rfl, ?_, grown_of_below hb1 _, rfl⟩; rw [HF.out]; exact Kd.R_below HR.out hb1
 ·obtain ⟨i0, rfl⟩ := Int.eq_ofNat_of_zero_le (show 0 ≤ ix by omega); have hmb : decide ((i0 : Int) = -1) = false := decide_eq_false hm; have hme : ((i0 : Int) == -1) = false := beq_false_of_ne hm
  have hlen : 0 < l0.length := by omega
  obtain ⟨gr, cap, hv, hgb, hglt, _, _⟩ := Kd.R_form hR hlen
  injection hv with hA _ hc
  subst hA; subst hc; have HR0 := Zq_.mk hR; have HP := Zq_.mk hp; have HS := Zq_.mk (Filt.start hix); have HM := Zq_.mk (Kd.C_max hC); have HLC := Zq_.mk hlc; have HG := Zq_.mk hglt; have HGB := Zq_.mk hgb; have HBS := Zq_.mk hbase; have HI0 := Zq_.mk hrange; have hw0 := Zq_.mk (show wrap64 ((i0 : Int) + 1) = ((i0 + 1 : Nat) : Int) by have := HM.out; have := HI0.out; unfold wrap64; omega); clear hR hp hC hix hlc hrange hbase hglt hgb hlen hm
  go_enter Try.func74, Try.ntmps74
  go_wp2_with fail
  refine hcall.mono ?_; rintro e w1 ⟨rfl, hb1⟩; have HB1 := Zq_.mk hb1; clear hb1 hcall
  go_wp2_with fail
  go_loopg [5, 6, 7] l0.length (fun gg s5 s6 _ wr => ∃ (i j : Int) (cur : List S58), s5 = .int .i64 i ∧ s6 = .int .i64 j ∧ Zq_ (0 ≤ i ∧ 0 ≤ j ∧ l0.length - j.toNat ≤ gg) ∧ Zq_ (Filt (fun x => !p x) l0 cur i.toNat j.toNat) ∧ Zq_ (w.grownBy wr (some gr)) ∧ Zq_ (Kd.R k58 58 wr base ok (.slice (some ⟨gr, 0, none⟩) l0.length c0) cur))
  case atStart => exact ⟨(i0 : Int), wrap64 ((i0 : Int) + 1), l0, rfl, rfl, ⟨by rw [hw0.out]; omega⟩, ⟨by rw [hw0.out]; simpa using HS.out⟩, ⟨grown_of_below HB1.out _⟩, ⟨Kd.R_below HR0.out HB1.out⟩⟩
  case round =>
   obtain ⟨i, j, cur, rfl, rfl, HI, HF, HW, HR⟩ := hrel; have hlen := HF.out.len
   by_cases hlt : j < (l0.length : Int)
   ·have hltb : decide (j < (l0.length : Int)) = true := decide_eq_true hlt; have p1 := HI.out.2.1; have q1 := HI.out.1
    have hil : i < (l0.length : Int) := by have := HF.out.ij; have := HF.out.jn; omega
    obtain ⟨c, hcl, hM, hcc, hfr⟩ := Kd.R_elem HR.out z58 j p1 hlt; obtain ⟨x, hx⟩ : ∃ x, x = cur.getD j.toNat z58 := ⟨_, rfl⟩; rw [← hx] at hM; obtain rfl := k58_openM hM; obtain ⟨co, hclo, hMo, hcco, hfro⟩ := Kd.R_elem HR.out z58 i q1 hil; obtain rfl := k58_openM hMo; have hx_0 := hcc 0 _ rfl; have hx_1 := hcc 1 _ rfl; have hx_2 := hcc 2 _ rfl; simp only [show (k58).sz = 3 from rfl, Nat.add_zero] at hx_0 hx_1 hx_2
    have hcl2 : ∀ W, w.grownBy W (some gr) → Calls Try.prog g (#[.agg #[.int .i64 x.f0, .int .i64 x.f1, .string x.f2]] ++ lb) W (fun e w1 => e = .returned (.bool (p x)) ∧ Below W.heap.size W w1) := fun W hW => HP.out W x [.int .i64 x.f0, .int .i64 x.f1, .string x.f2] hW (k58_mk W x)
    have HL := Zq_.mk hlt; have HIL := Zq_.mk hil; have HX := Zq_.mk hx; have HN := Zq_.mk hlen; have HCC := Zq_.mk hcco; replace p1 := eq_true p1; replace q1 := eq_true q1; replace hlt := eq_true hlt; replace hil := eq_true hil; have hwj := Zq_.mk (show wrap64 (j + 1) = j + 1 by have := HI.out; have := HM.out; have := HL.out; unfold wrap64; omega); have hwi := Zq_.mk (show wrap64 (i + 1) = i + 1 by have := HI.out; have := HM.out; have := HIL.out; unfold wrap64; omega); clear hcl hM hcc hfr hclo hMo hcco hfro hx hlen
    go_wp2_with (first | ((with_reducible refine qq_ (N := 7) rfl ?_); refine qo_ ?hg (N := 7) ?hd (cs := #[.int .i64 0, .int .i64 0, .string (⟨#[]⟩ : ByteArray)]) (t := 58) ?hr ?_; (case hd => rfl); (case hg => rfl); (case hr => first | (go_simp; done) | (go_simp; rfl)); intro gb hgb w2 hbox hb2; have HBX := Zq_.mk hbox; have HB2 := Zq_.mk hb2; have HGE := Zq_.mk hgb; have hcz_0 : w2.cell? ⟨gb, 0, none⟩ = some (.int .i64 0) := (qd_ hbox 0).trans rfl; have hcz_1 : w2.cell? ⟨gb, 1, none⟩ = some (.int .i64 0) := (qd_ hbox 1).trans rfl; have hcz_2 : w2.cell? ⟨gb, 2, none⟩ = some (.string (⟨#[]⟩ : ByteArray)) := (qd_ hbox 2).trans rfl; have hfz_0 := qe_ hbox 0; have hfz_1 := qe_ hbox 1; have hfz_2 := qe_ hbox 2; clear hgb hbox hb2))
    have hge : wr.heap.size ≤ gb := by rw [HGE.out]; exact Nat.le_refl _
    have HBT := qh_ (qh_ (qh_ HB2.out hge (j := 0) (v := .int .i64 x.f0)) hge (j := 1) (v := .int .i64 x.f1)) hge (j := 2) (v := .string x.f2); have hcl3 := hcl2 _ (grown_bel HW.out HBT); have HB0 := Zq_.mk HBT; have BK0 := Zq_.mk (blk_set (blk_set (blk_set HBX.out 0 (.int .i64 x.f0)) 1 (.int .i64 x.f1)) 2 (.string x.f2)); clear hcl2 HBT
    cases hq : p x with
    | true =>
     rw [hq] at hcl3; have HQ := Zq_.mk hq; clear hq; refine hcl3.mono ?_; rintro e w3 ⟨rfl, hb3⟩; have HB3 := Zq_.mk (ql_ HB0.out hb3); clear hb3 hcl3
     go_wp2_with fail
     go_roundg (l0.length - (j.toNat + 1))
     case measure => have h1 := HI.out; have h2 := HL.out; omega
     case rel => exact ⟨i, wrap64 (j + 1), cur, (by first | rfl | (simp; done) | (simp [*]; done)), (by first | rfl | (simp; done) | (simp [*]; done)), ⟨by rw [hwj.out]; have h1 := HI.out; have h2 := HL.out; omega⟩, ⟨by rw [hwj.out, show (j + 1).toNat = j.toNat + 1 by have h1 := HI.out; omega]; exact HF.out.skip z58 (by have h1 := HI.out; have h2 := HL.out; omega) (by simp only [← HX.out, HQ.out, Bool.not_true])⟩, ⟨grown_bel HW.out HB3.out⟩, ⟨Kd.R_below HR.out HB3.out⟩⟩
    | false =>
     rw [hq] at hcl3; have HQ := Zq_.mk hq; clear hq; refine hcl3.mono ?_; rintro e w3 ⟨rfl, hb3⟩; have HB3 := Zq_.mk (ql_ HB0.out hb3); have BK3 := Zq_.mk (blk_bel BK0.out hb3); have hy_0 : w3.cell? ⟨gb, 0, none⟩ = some (.int .i64 x.f0) := (qd_ BK3.out 0).trans rfl; have hy_1 : w3.cell? ⟨gb, 1, none⟩ = some (.int .i64 x.f1) := (qd_ BK3.out 1).trans rfl; have hy_2 : w3.cell? ⟨gb, 2, none⟩ = some (.string x.f2) := (qd_ BK3.out 2).trans rfl; have HR3 := Zq_.mk (Kd.R_below HR.out HB3.out); have HW3 := Zq_.mk (grown_bel HW.out HB3.out); have HBb := Zq_.mk (show Below base w w3 from (Below.refl base w).grown HW3.out HBS.out (fun k hk => by cases hk; exact HGB.out)); clear hb3 hcl3
     go_wp2_with (first | ((with_reducible refine gate_store (t := 58) (p := 33) rfl ?_); refine Kd.R_store k58 (w0 := w) (W := w3) base rfl rfl 58 (.tmp 33) (.tmp 32) rfl 58 (g := gr) (n := l0.length) (cap := c0) (o' := i.toNat * 3) i 0 cur x (.agg #[.int .i64 x.f0, .int .i64 x.f1, .string x.f2]) [.int .i64 x.f0, .int .i64 x.f1, .string x.f2] [.int .i64 (cur.getD i.toNat z58).f0, .int .i64 (cur.getD i.toNat z58).f1, .string (cur.getD i.toNat z58).f2] ok (fun k => ok k ∧ k ≠ gr) ?ha ?ho ?hx rfl (by kernel_rfl) ?h1 HR3.out (of_eq_true q1) (of_eq_true hil) rfl ?hcc (show (3 : Nat) ≤ 3 from Nat.le_refl 3) (k58_mkM w3 base _ x) (fun _ hk => hk) HBb.out ?_; (case ha => first | rfl | (go_simp; done) | (go_simp; rfl)); (case ho => first | rfl | (simp; done)); (case hx => first | rfl | (go_simp; done) | (go_simp; rfl)); (case h1 => intro q hq_; simp only [List.mem_cons, List.not_mem_nil, or_false] at hq_; rcases hq_ with rfl | rfl | rfl <;> rfl); (case hcc => intro jj u hu; rw [show w3.cell? ⟨gr, i.toNat * (k58).sz + jj, none⟩ = wr.cell? ⟨gr, i.toNat * (k58).sz + jj, none⟩ from HB3.out.cell (p := ⟨gr, i.toNat * (k58).sz + jj, none⟩) (wb_ wr _ (HCC.out jj u hu))]; exact HCC.out jj u hu); intro w4 hR4 hB4 hg4; have HR4 := Zq_.mk hR4; have HW4 := Zq_.mk (World.grownBy.trans HW3.out hg4); clear hR4 hB4 hg4))
     go_roundg (l0.length - (j.toNat + 1))
     case measure => have h1 := HI.out; have h2 := HL.out; omega
     case rel => exact ⟨wrap64 (i + 1), wrap64 (j + 1), cur.set i.toNat x, (by first | rfl | (simp; done) | (simp [*]; done)), (by first | rfl | (simp; done) | (simp [*]; done)), ⟨by rw [hwj.out, hwi.out]; have h1 := HI.out; have h2 := HL.out; omega⟩, ⟨by rw [hwj.out, hwi.out, show (j + 1).toNat = j.toNat + 1 by have h1 := HI.out; omega, show (i + 1).toNat = i.toNat + 1 by have h1 := HI.out; omega, HX.out]; exact HF.out.keep z58 (by have h1 := HI.out; have h2 := HL.out; omega) (by simp only [← HX.out, HQ.out, Bool.not_false])⟩, HW4, HR4⟩
   ·have hltb : decide (j < (l0.length : Int)) = false := decide_eq_false hlt; have HL := Zq_.mk hlt; have q1 := HI.out.1
    have hil : i < (l0.length : Int) := by have := HF.out.ij; have := HF.out.jn; have := HI.out; omega
    have hcap : (l0.length : Int) ≤ (c0 : Int) := by have := HLC.out; omega
    have HIL := Zq_.mk hil; have hlen := HF.out.len
    have hcells : ∀ q, q < (l0.length - i.toNat) * 3 → (wr.cell? ⟨gr, i.toNat * 3 + q, none⟩).isSome = true ∧ wr.frozen? ⟨gr, i.toNat * 3 + q, none⟩ = false := by
     intro q hq; obtain ⟨c, hcl, hM, hcc, hfr⟩ := Kd.R_elem HR.out z58 ((i.toNat + q / 3 : Nat) : Int) (by omega) (by omega); obtain rfl := k58_openM hM
     have e : i.toNat * 3 + q = ((i.toNat + q / 3 : Nat) : Int).toNat * (k58).sz + q % 3 := by rw [Int.toNat_natCast, show (k58).sz = 3 from rfl]; omega
     rw [e]; refine ⟨?_, hfr _⟩
     have h3 : q % 3 = 0 ∨ q % 3 = 1 ∨ q % 3 = 2 := by omega
     rcases h3 with h3 | h3 | h3 <;> rw [h3, hcc _ _ rfl] <;> rfl
    have hcl : ∀ ty, (Builtin.clear_ #[33] ty #[.slice (some ⟨gr, i.toNat * 3, none⟩) (l0.length - i.toNat) (c0 - i.toNat)]).run Try.prog wr = .ok (.tuple #[]) (wr.setCells gr (i.toNat * 3) (Builtin.zeroCells #[.int .i64 0, .int .i64 0, .string ⟨#[]⟩] (l0.length - i.toNat)).toList) := fun ty =>
     run_clear_rows wr 33 58 ty (.agg #[.int .i64 0, .int .i64 0, .string ⟨#[]⟩]) Try.underlying33 (fun _ => by kernel_rfl) (by intro u hu; simp only [Value.cells, List.mem_cons, List.not_mem_nil, or_false] at hu; rcases hu with rfl | rfl | rfl <;> rfl) gr (i.toNat * 3) _ _ (by omega) (fun q hq => (hcells q hq).1) (fun q hq => (hcells q hq).2)
    have HFIN := Zq_.mk (Kd.R_rest HR.out i.toNat (by omega) (Builtin.zeroCells #[.int .i64 0, .int .i64 0, .string ⟨#[]⟩] (l0.length - i.toNat)).toList (by rw [zero_len]; show _ * 3 = _ * 3; rw [hlen])); have HN := Zq_.mk hlen
    have hi2 : i ≤ (l0.length : Int) := by omega
    have hi3 : i ≤ (c0 : Int) := by omega
    have hne : (c0 = i.toNat) = False := eq_false (by omega); clear hcells hlt hlen; replace q1 := eq_true q1; replace hil := eq_true hil; replace hi2 := eq_true hi2; replace hi3 := eq_true hi3; replace hcap := eq_true hcap
    go_wp2_with fail
    go_ret
    refine ⟨_, rfl, ?_, World.grownBy.trans HW.out HFIN.out.2, rfl⟩; have h1 := HFIN.out.1; rw [HF.out.done (by have := HL.out; have := HI.out; omega)] at h1; exact h1
end Go.Proofs.Ytgipbmjkgciccaa.P

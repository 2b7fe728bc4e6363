/- What this function of the program comes to, and that the machine's call does it: written by a program (wip/tool). No condition. -/
import Derived.Test.YtonggencfnaheaaP0
import Derived.Test.YtonggencfnaheaaPApiWard31
import Derived.Test.YtonggencfnaheaaHw
namespace Go.Proofs.Ytonggencfnaheaa.P
open Go.RowKit Go.Proofs.YtonggencfnaheaaW.PrintWords Go.Proofs.YtonggencfnaheaaW.PrintLast Go.Proofs.YtonggencfnaheaaW.PrintMore
attribute [local go_sem] max2_int min2_int max_two min_two max_three min_three max_four min_four Go.Proofs.YtonggencfnaheaaW.Hw.string_gtr   -- for this text's walks alone
set_option linter.unusedVariables false
set_option linter.unusedSimpArgs false
/-! ### api_Ward_21: function 21 -/
open Go.Proofs.YtonggencfnaheaaW.Hw in
set_option maxHeartbeats 16000000 in
set_option maxRecDepth 100000 in
theorem DeleteFuncW.calls (p : S44 → Bool) (g : Nat) (lb : Array Value) (eg : ∀ args w, (callFunc g args).run Try.prog w = .ok (.enter g args) w) (v : Value) (l0 : List S44) (base : Nat) (ok : Nat → Prop) (w : World)
  (hp : PredR Try.prog k44 g lb aggOf p w v.ownBlock) (hR : Kd.R k44 44 w base ok v l0) (hbase : base ≤ w.heap.size) :
  Calls Try.prog 21 #[v, .func (.func g) #[] lb] w fun e w' => ∃ v', e = .returned v' ∧ Kd.R k44 44 w' base ok v' (l0.filter (fun x => !p x)) ∧ w.grownBy w' v.ownBlock ∧ v'.ownBlock = v.ownBlock := by
 obtain ⟨A0, c0, rfl, hlc, hC⟩ := Kd.R_reads hR
 have hcall := IndexFuncW.calls p g lb eg A0 c0 l0 w hp.k hC
 have hrange := idxI_range p l0
 generalize hix : idxI p l0 = ix at hcall hrange
 by_cases hm : ix = -1
 ·subst hm
  have hfin := filter_miss hix
  have HR := Aside0.mk hR
  have HF := Aside0.mk hfin
  clear hR hp hC hix hfin hlc hrange hbase
  go_enter Try.func21, Try.ntmps21
  go_wp2_with fail
  refine hcall.mono ?_
  rintro e w1 ⟨rfl, hb1⟩
  go_wp2_with fail
  go_ret
  refine ⟨_, rfl, ?_, grown_of_below hb1 _, rfl⟩
  rw [HF.out]
  exact Kd.R_below HR.out hb1
 ·obtain ⟨i0, rfl⟩ := Int.eq_ofNat_of_zero_le (show 0 ≤ ix by omega)
  have hmb : decide ((i0 : Int) = -1) = false := decide_eq_false hm
  have hme : ((i0 : Int) == -1) = false := beq_false_of_ne hm
  have hlen : 0 < l0.length := by omega
  obtain ⟨gr, cap, hv, hgb, hglt, _, _⟩ := Kd.R_form hR hlen
  injection hv with hA _ hc
  subst hA; subst hc
  have HR0 := Aside0.mk hR
  have HP := Aside0.mk hp
  have HS := Aside0.mk (Filt.start hix)
  have HM := Aside0.mk (Kd.C_max hC)
  have HLC := Aside0.mk hlc
  have HG := Aside0.mk hglt
  have HGB := Aside0.mk hgb
  have HBS := Aside0.mk hbase
  have HI0 := Aside0.mk hrange
  have hw0 := Aside0.mk (show wrap64 ((i0 : Int) + 1) = ((i0 + 1 : Nat) : Int) by have := HM.out; have := HI0.out; unfold wrap64; omega)
  clear hR hp hC hix hlc hrange hbase hglt hgb hlen hm
  go_enter Try.func21, Try.ntmps21
  go_wp2_with fail
  refine hcall.mono ?_
  rintro e w1 ⟨rfl, hb1⟩
  have HB1 := Aside0.mk hb1
  clear hb1 hcall
  go_wp2_with fail
  go_loopg [5, 6, 7] l0.length (fun gg s5 s6 _ wr => ∃ (i j : Int) (cur : List S44), s5 = .int .i64 i ∧ s6 = .int .i64 j ∧ Aside0 (0 ≤ i ∧ 0 ≤ j ∧ l0.length - j.toNat ≤ gg) ∧ Aside0 (Filt (fun x => !p x) l0 cur i.toNat j.toNat) ∧ Aside0 (w.grownBy wr (some gr)) ∧ Aside0 (Kd.R k44 44 wr base ok (.slice (some ⟨gr, 0, none⟩) l0.length c0) cur))
  case atStart => exact ⟨(i0 : Int), wrap64 ((i0 : Int) + 1), l0, rfl, rfl, ⟨by rw [hw0.out]; omega⟩, ⟨by rw [hw0.out]; simpa using HS.out⟩, ⟨grown_of_below HB1.out _⟩, ⟨Kd.R_below HR0.out HB1.out⟩⟩
  case round =>
   obtain ⟨i, j, cur, rfl, rfl, HI, HF, HW, HR⟩ := hrel
   have hlen := HF.out.len
   by_cases hlt : j < (l0.length : Int)
   ·have hltb : decide (j < (l0.length : Int)) = true := decide_eq_true hlt
    have p1 := HI.out.2.1
    have q1 := HI.out.1
    have hil : i < (l0.length : Int) := by have := HF.out.ij; have := HF.out.jn; omega
    obtain ⟨c, hcl, hM, hcc, hfr⟩ := Kd.R_elem HR.out z44 j p1 hlt
    obtain ⟨x, hx⟩ : ∃ x, x = cur.getD j.toNat z44 := ⟨_, rfl⟩
    rw [← hx] at hM
    obtain rfl := k44_openM hM
    obtain ⟨co, hclo, hMo, hcco, hfro⟩ := Kd.R_elem HR.out z44 i q1 hil
    obtain rfl := k44_openM hMo
    have hx_0 := hcc 0 _ rfl
    have hx_1 := hcc 1 _ rfl
    simp only [show (k44).sz = 2 from rfl, Nat.add_zero] at hx_0 hx_1
    have hcl2 : ∀ W, w.grownBy W (some gr) → Calls Try.prog g (#[.agg #[.int .i64 x.f0, .int .i64 x.f1]] ++ lb) W (fun e w1 => e = .returned (.bool (p x)) ∧ Below W.heap.size W w1) := fun W hW => HP.out W x [.int .i64 x.f0, .int .i64 x.f1] hW (k44_mk W x)
    have HL := Aside0.mk hlt
    have HIL := Aside0.mk hil
    have HX := Aside0.mk hx
    have HN := Aside0.mk hlen
    have HCC := Aside0.mk hcco
    replace p1 := eq_true p1
    replace q1 := eq_true q1
    replace hlt := eq_true hlt
    replace hil := eq_true hil
    have hwj := Aside0.mk (show wrap64 (j + 1) = j + 1 by have := HI.out; have := HM.out; have := HL.out; unfold wrap64; omega)
    have hwi := Aside0.mk (show wrap64 (i + 1) = i + 1 by have := HI.out; have := HM.out; have := HIL.out; unfold wrap64; omega)
    clear hcl hM hcc hfr hclo hMo hcco hfro hx hlen
    go_wp2_with (first | ((with_reducible refine gate_dst (N := 7) rfl ?_); refine box_event ?hg (N := 7) ?hd (cs := #[.int .i64 0, .int .i64 0]) (t := 44) ?hr ?_; (case hd => rfl); (case hg => rfl); (case hr => first | (go_simp; done) | (go_simp; rfl)); intro gb hgb w2 hbox hb2; have HBX := Aside0.mk hbox; have HB2 := Aside0.mk hb2; have HGE := Aside0.mk hgb; have hcz_0 : w2.cell? ⟨gb, 0, none⟩ = some (.int .i64 0) := (qe_ hbox 0).trans rfl; have hcz_1 : w2.cell? ⟨gb, 1, none⟩ = some (.int .i64 0) := (qe_ hbox 1).trans rfl; have hfz_0 := qm_ hbox 0; have hfz_1 := qm_ hbox 1; clear hgb hbox hb2))
    have hge : wr.heap.size ≤ gb := by rw [HGE.out]; exact Nat.le_refl _
    have HBT := qf_ (qf_ HB2.out hge (j := 0) (v := .int .i64 x.f0)) hge (j := 1) (v := .int .i64 x.f1)
    have hcl3 := hcl2 _ (grown_bel HW.out HBT)
    have HB0 := Aside0.mk HBT
    have BK0 := Aside0.mk (blk_set (blk_set HBX.out 0 (.int .i64 x.f0)) 1 (.int .i64 x.f1))
    clear hcl2 HBT
    cases hq : p x with
    | true =>
     rw [hq] at hcl3
     have HQ := Aside0.mk hq
     clear hq
     refine hcl3.mono ?_
     rintro e w3 ⟨rfl, hb3⟩
     have HB3 := Aside0.mk (qd_ HB0.out hb3)
     clear hb3 hcl3
     go_wp2_with fail
     go_roundg (l0.length - (j.toNat + 1))
     case measure => have h1 := HI.out; have h2 := HL.out; omega
     case rel => exact ⟨i, wrap64 (j + 1), cur, (by first | rfl | (simp; done) | (simp [*]; done)), (by first | rfl | (simp; done) | (simp [*]; done)), ⟨by rw [hwj.out]; have h1 := HI.out; have h2 := HL.out; omega⟩, ⟨by rw [hwj.out, show (j + 1).toNat = j.toNat + 1 by have h1 := HI.out; omega]; exact HF.out.skip z44 (by have h1 := HI.out; have h2 := HL.out; omega) (by simp only [← HX.out, HQ.out, Bool.not_true])⟩, ⟨grown_bel HW.out HB3.out⟩, ⟨Kd.R_below HR.out HB3.out⟩⟩
    | false =>
     rw [hq] at hcl3
     have HQ := Aside0.mk hq
     clear hq
     refine hcl3.mono ?_
     rintro e w3 ⟨rfl, hb3⟩
     have HB3 := Aside0.mk (qd_ HB0.out hb3)
     have BK3 := Aside0.mk (blk_bel BK0.out hb3)
     have hy_0 : w3.cell? ⟨gb, 0, none⟩ = some (.int .i64 x.f0) := (qe_ BK3.out 0).trans rfl
     have hy_1 : w3.cell? ⟨gb, 1, none⟩ = some (.int .i64 x.f1) := (qe_ BK3.out 1).trans rfl
     have HR3 := Aside0.mk (Kd.R_below HR.out HB3.out)
     have HW3 := Aside0.mk (grown_bel HW.out HB3.out)
     have HBb := Aside0.mk (show Below base w w3 from (Below.refl base w).grown HW3.out HBS.out (fun k hk => by cases hk; exact HGB.out))
     clear hb3 hcl3
     go_wp2_with (first | ((with_reducible refine gate_store (t := 44) (p := 33) rfl ?_); refine Kd.R_store k44 (w0 := w) (W := w3) base rfl rfl 44 (.tmp 33) (.tmp 32) rfl 44 (g := gr) (n := l0.length) (cap := c0) (o' := i.toNat * 2) i 0 cur x (.agg #[.int .i64 x.f0, .int .i64 x.f1]) [.int .i64 x.f0, .int .i64 x.f1] [.int .i64 (cur.getD i.toNat z44).f0, .int .i64 (cur.getD i.toNat z44).f1] ok (fun k => ok k ∧ k ≠ gr) ?ha ?ho ?hx rfl (by kernel_rfl) ?h1 HR3.out (of_eq_true q1) (of_eq_true hil) rfl ?hcc (show (2 : Nat) ≤ 2 from Nat.le_refl 2) (k44_mkM w3 base _ x) (fun _ hk => hk) HBb.out ?_; (case ha => first | rfl | (go_simp; done) | (go_simp; rfl)); (case ho => first | rfl | (simp; done)); (case hx => first | rfl | (go_simp; done) | (go_simp; rfl)); (case h1 => intro q hq_; simp only [List.mem_cons, List.not_mem_nil, or_false] at hq_; rcases hq_ with rfl | rfl <;> rfl); (case hcc => intro jj u hu; rw [show w3.cell? ⟨gr, i.toNat * (k44).sz + jj, none⟩ = wr.cell? ⟨gr, i.toNat * (k44).sz + jj, none⟩ from HB3.out.cell (p := ⟨gr, i.toNat * (k44).sz + jj, none⟩) (wb_ wr _ (HCC.out jj u hu))]; exact HCC.out jj u hu); intro w4 hR4 hB4 hg4; have HR4 := Aside0.mk hR4; have HW4 := Aside0.mk (World.grownBy.trans HW3.out hg4); clear hR4 hB4 hg4))
     go_roundg (l0.length - (j.toNat + 1))
     case measure => have h1 := HI.out; have h2 := HL.out; omega
     case rel => exact ⟨wrap64 (i + 1), wrap64 (j + 1), cur.set i.toNat x, (by first | rfl | (simp; done) | (simp [*]; done)), (by first | rfl | (simp; done) | (simp [*]; done)), ⟨by rw [hwj.out, hwi.out]; have h1 := HI.out; have h2 := HL.out; omega⟩, ⟨by rw [hwj.out, hwi.out, show (j + 1).toNat = j.toNat + 1 by have h1 := HI.out; omega, show (i + 1).toNat = i.toNat + 1 by have h1 := HI.out; omega, HX.out]; exact HF.out.keep z44 (by have h1 := HI.out; have h2 := HL.out; omega) (by simp only [← HX.out, HQ.out, Bool.not_false])⟩, HW4, HR4⟩
   ·have hltb : decide (j < (l0.length : Int)) = false := decide_eq_false hlt
    have HL := Aside0.mk hlt
    have q1 := HI.out.1
    have hil : i < (l0.length : Int) := by have := HF.out.ij; have := HF.out.jn; have := HI.out; omega
    have hcap : (l0.length : Int) ≤ (c0 : Int) := by have := HLC.out; omega
    have HIL := Aside0.mk hil
    have hlen := HF.out.len
    have hcells : ∀ q, q < (l0.length - i.toNat) * 2 → (wr.cell? ⟨gr, i.toNat * 2 + q, none⟩).isSome = true ∧ wr.frozen? ⟨gr, i.toNat * 2 + q, none⟩ = false := by
     intro q hq
     obtain ⟨c, hcl, hM, hcc, hfr⟩ := Kd.R_elem HR.out z44 ((i.toNat + q / 2 : Nat) : Int) (by omega) (by omega)
     obtain rfl := k44_openM hM
     have e : i.toNat * 2 + q = ((i.toNat + q / 2 : Nat) : Int).toNat * (k44).sz + q % 2 := by rw [Int.toNat_natCast, show (k44).sz = 2 from rfl]; omega
     rw [e]
     refine ⟨?_, hfr _⟩
     have h3 : q % 2 = 0 ∨ q % 2 = 1 := by omega
     rcases h3 with h3 | h3 <;> rw [h3, hcc _ _ rfl] <;> rfl
    have hcl : ∀ ty, (Builtin.clear_ #[22] ty #[.slice (some ⟨gr, i.toNat * 2, none⟩) (l0.length - i.toNat) (c0 - i.toNat)]).run Try.prog wr = .ok (.tuple #[]) (wr.setCells gr (i.toNat * 2) (Builtin.zeroCells #[.int .i64 0, .int .i64 0] (l0.length - i.toNat)).toList) := fun ty =>
     run_clear_rows wr 22 44 ty (.agg #[.int .i64 0, .int .i64 0]) Try.underlying22 (fun _ => by kernel_rfl) (by intro u hu; simp only [Value.cells, List.mem_cons, List.not_mem_nil, or_false] at hu; rcases hu with rfl | rfl <;> rfl) gr (i.toNat * 2) _ _ (by omega) (fun q hq => (hcells q hq).1) (fun q hq => (hcells q hq).2)
    have HFIN := Aside0.mk (Kd.R_rest HR.out i.toNat (by omega) (Builtin.zeroCells #[.int .i64 0, .int .i64 0] (l0.length - i.toNat)).toList (by rw [zero_len]; show _ * 2 = _ * 2; rw [hlen]))
    have HN := Aside0.mk hlen
    have hi2 : i ≤ (l0.length : Int) := by omega
    have hi3 : i ≤ (c0 : Int) := by omega
    have hne : (c0 = i.toNat) = False := eq_false (by omega)
    clear hcells hlt hlen
    replace q1 := eq_true q1
    replace hil := eq_true hil
    replace hi2 := eq_true hi2
    replace hi3 := eq_true hi3
    replace hcap := eq_true hcap
    go_wp2_with fail
    go_ret
    refine ⟨_, rfl, ?_, World.grownBy.trans HW.out HFIN.out.2, rfl⟩
    have h1 := HFIN.out.1
    rw [HF.out.done (by have := HL.out; have := HI.out; omega)] at h1
    exact h1
end Go.Proofs.Ytonggencfnaheaa.P

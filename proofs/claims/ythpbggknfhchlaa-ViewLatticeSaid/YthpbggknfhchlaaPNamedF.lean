/- What this function of the program comes to, and that the machine's call does it. No condition. -/
import Derived.Test.YthpbggknfhchlaaP0
import Derived.Test.YthpbggknfhchlaaHw
namespace Go.Proofs.Ythpbggknfhchlaa.P
set_option maxHeartbeats 16000000
set_option maxRecDepth 100000
open Go.RowKit Go.Proofs.YthpbggknfhchlaaW.PrintWords Go.Proofs.YthpbggknfhchlaaW.PrintLast Go.Proofs.YthpbggknfhchlaaW.PrintMore
attribute [local go_sem] max2_int min2_int max_two min_two ve_ vd_ max_four min_four Go.Proofs.YthpbggknfhchlaaW.Hw.string_gtr
set_option linter.unusedVariables false
set_option linter.unusedSimpArgs false
open Go.Proofs.YthpbggknfhchlaaW.Hw in
theorem IndexFuncN.calls (p : S41 → Bool) (g : Nat) (lb : Array Value) (eg : ∀ args w, (callFunc g args).run Try.prog w = .ok (.enter g args) w) (A0 : Option Addr) (c0 : Nat) (l0 : List S41) (w : World)
  (hp : PredK Try.prog k41 g lb aggOf p w) (hr0 : Kd.C k41 w A0 l0.length l0) :
  Calls Try.prog 54 #[.slice A0 l0.length c0, .func (.func g) #[] lb] w fun e w' => e = .returned (.int .i64 (idxI p l0)) ∧ Below w.heap.size w w' := by
 have hu_ := Try.underlying41; have HR := Zq_.mk hr0; have HP := Zq_.mk hp; have HM := Zq_.mk (Kd.C_max hr0); clear hr0 hp; have HB := Zq_.mk (Below.refl w.heap.size w)
 go_enter Try.func54, Try.ntmps54
 go_wp2
 go_loopg [5, 8] l0.length (fun gg _ s8 wr => ∃ i : Int, s8 = .int .i64 i ∧ Zq_ (0 ≤ i ∧ i ≤ (l0.length : Int) ∧ l0.length - i.toNat ≤ gg) ∧ Zq_ (Below w.heap.size w wr) ∧ Zq_ (∀ j, j < i.toNat → p (l0.getD j z41) = false))
 case atStart => exact ⟨0, rfl, ⟨by omega⟩, HB, ⟨fun j hj => absurd hj (Nat.not_lt_zero _)⟩⟩
 case round =>
  obtain ⟨i, rfl, HI, BW, A⟩ := hrel
  by_cases hlt : i < (l0.length : Int)
  ·have hltb : decide (i < (l0.length : Int)) = true := decide_eq_true hlt; have p1 := HI.out.1; obtain ⟨ad, A3_, c3_, e_, hx_0, hx_1, hx_2, hx_3, l3_, g3_⟩ := at_T41 HR.out i p1 hlt; cases e_; replace hx_0 := (BW.out.cell (wb_ w _ hx_0)).trans hx_0; replace hx_1 := (BW.out.cell (wb_ w _ hx_1)).trans hx_1; replace hx_2 := (BW.out.cell (wb_ w _ hx_2)).trans hx_2; replace hx_3 := (BW.out.cell (wb_ w _ hx_3)).trans hx_3; have hcall : Calls Try.prog g (#[.agg #[.int .i64 (rd_T41 l0 i).f0, .int .i64 (rd_T41 l0 i).f1.f0, .int .i64 (rd_T41 l0 i).f1.f1, .slice A3_ (rd_T41 l0 i).f1.f2.length c3_]] ++ lb) wr (fun e w1 => e = .returned (.bool (p (rd_T41 l0 i))) ∧ Below wr.heap.size wr w1) := HP.out wr (rd_T41 l0 i) [.int .i64 (rd_T41 l0 i).f0, .int .i64 (rd_T41 l0 i).f1.f0, .int .i64 (rd_T41 l0 i).f1.f1, .slice A3_ (rd_T41 l0 i).f1.f2.length c3_] BW.out (k41_mk wr (rd_T41 l0 i) l3_ (Kd.vb_ g3_ BW.out)); have HL := Zq_.mk hlt; replace p1 := eq_true p1; replace hlt := eq_true hlt; have hwr := Zq_.mk (show wrap64 (i + 1) = i + 1 by have := HI.out; have := HM.out; have := HL.out; unfold wrap64; omega)
   cases hq : p (rd_T41 l0 i) with
   | true =>
    rw [hq] at hcall; have HQ := Zq_.mk hq; clear hq
    go_wp2_with fail
    refine hcall.mono ?_; rintro e w1 ⟨rfl, hb1⟩
    go_wp2_with fail
    go_ret
    refine ⟨?_, (by have hb2 := qm_ BW.out hb1; exact hb2)⟩; have h1 := HI.out; have h2 := HL.out; rw [idxI_hit p l0 z41 i.toNat (by omega) HQ.out A.out, Int.toNat_of_nonneg h1.1]; rfl
   | false =>
    rw [hq] at hcall; have HQ := Zq_.mk hq; clear hq
    go_wp2_with fail
    refine hcall.mono ?_; rintro e w1 ⟨rfl, hb1⟩
    go_wp2_with fail
    go_roundg (l0.length - (i.toNat + 1))
    case measure => have h1 := HI.out; have h2 := HL.out; omega
    case rel => exact ⟨wrap64 (i + 1), (by first | rfl | (simp; done) | (simp [*]; done)), ⟨by rw [hwr.out]; have h1 := HI.out; have h2 := HL.out; omega⟩, ⟨qm_ BW.out hb1⟩, ⟨fun j hj => by
     rw [hwr.out] at hj; have h1 := HI.out
     by_cases e : j = i.toNat
     ·subst e; exact HQ.out
     ·exact A.out j (by omega)⟩⟩
  ·have hltb : decide (i < (l0.length : Int)) = false := decide_eq_false hlt; have HL := Zq_.mk hlt; clear hlt
   go_wp2
   go_ret
   refine ⟨?_, BW.out⟩; have h1 := HI.out; have h2 := HL.out; rw [idxI_miss p l0 z41 (fun j hj => A.out j (by omega))]; rfl
open Go.Proofs.YthpbggknfhchlaaW.Hw in
theorem DeleteFuncN.calls (p : S41 → Bool) (g : Nat) (lb : Array Value) (eg : ∀ args w, (callFunc g args).run Try.prog w = .ok (.enter g args) w) (v : Value) (l0 : List S41) (base : Nat) (ok : Nat → Prop) (w : World)
  (hp : PredR Try.prog k41 g lb aggOf p w v.ownBlock) (hR : Kd.R k41 41 w base ok v l0) (hbase : base ≤ w.heap.size) :
  Calls Try.prog 46 #[v, .func (.func g) #[] lb] w fun e w' => ∃ v', e = .returned v' ∧ Kd.R k41 41 w' base ok v' (l0.filter (fun x => !p x)) ∧ w.grownBy w' v.ownBlock ∧ v'.ownBlock = v.ownBlock := by
 obtain ⟨A0, c0, rfl, hlc, hC⟩ := Kd.R_reads hR; have hcall := IndexFuncN.calls p g lb eg A0 c0 l0 w hp.k hC; have hrange := idxI_range p l0; generalize hix : idxI p l0 = ix at hcall hrange
 by_cases hm : ix = -1
 ·subst hm; have hfin := filter_miss hix; have HR := Zq_.mk hR; have HF := Zq_.mk hfin; clear hR hp hC hix hfin hlc hrange hbase
  go_enter Try.func46, Try.ntmps46
  go_wp2_with fail
  refine hcall.mono ?_; rintro e w1 ⟨rfl, hb1⟩
  go_wp2_with fail
  go_ret
  refine ⟨_, rfl, ?_, grown_of_below hb1 _, rfl⟩; rw [HF.out]; exact Kd.R_below HR.out hb1
 ·obtain ⟨i0, rfl⟩ := Int.eq_ofNat_of_zero_le (show 0 ≤ ix by omega); have hmb : decide ((i0 : Int) = -1) = false := decide_eq_false hm; have hme : ((i0 : Int) == -1) = false := beq_false_of_ne hm
  have hlen : 0 < l0.length := by omega
  obtain ⟨gr, cap, hv, hgb, hglt, _, _⟩ := Kd.R_form hR hlen
  injection hv with hA _ hc
  subst hA; subst hc; have HR0 := Zq_.mk hR; have HP := Zq_.mk hp; have HS := Zq_.mk (Filt.start hix); have HM := Zq_.mk (Kd.C_max hC); have HLC := Zq_.mk hlc; have HG := Zq_.mk hglt; have HGB := Zq_.mk hgb; have HBS := Zq_.mk hbase; have HI0 := Zq_.mk hrange; have hw0 := Zq_.mk (show wrap64 ((i0 : Int) + 1) = ((i0 + 1 : Nat) : Int) by have := HM.out; have := HI0.out; unfold wrap64; omega); clear hR hp hC hix hlc hrange hbase hglt hgb hlen hm
  go_enter Try.func46, Try.ntmps46
  go_wp2_with fail
  refine hcall.mono ?_; rintro e w1 ⟨rfl, hb1⟩; have HB1 := Zq_.mk hb1; clear hb1 hcall
  go_wp2_with fail
  go_loopg [5, 6, 7] l0.length (fun gg s5 s6 _ wr => ∃ (i j : Int) (cur : List S41), s5 = .int .i64 i ∧ s6 = .int .i64 j ∧ Zq_ (0 ≤ i ∧ 0 ≤ j ∧ l0.length - j.toNat ≤ gg) ∧ Zq_ (Filt (fun x => !p x) l0 cur i.toNat j.toNat) ∧ Zq_ (w.grownBy wr (some gr)) ∧ Zq_ (Kd.R k41 41 wr base ok (.slice (some ⟨gr, 0, none⟩) l0.length c0) cur))
  case atStart => exact ⟨(i0 : Int), wrap64 ((i0 : Int) + 1), l0, rfl, rfl, ⟨by rw [hw0.out]; omega⟩, ⟨by rw [hw0.out]; simpa using HS.out⟩, ⟨grown_of_below HB1.out _⟩, ⟨Kd.R_below HR0.out HB1.out⟩⟩
  case round =>
   obtain ⟨i, j, cur, rfl, rfl, HI, HF, HW, HR⟩ := hrel; have hlen := HF.out.len
   by_cases hlt : j < (l0.length : Int)
   ·have hltb : decide (j < (l0.length : Int)) = true := decide_eq_true hlt; have p1 := HI.out.2.1; have q1 := HI.out.1
    have hil : i < (l0.length : Int) := by have := HF.out.ij; have := HF.out.jn; omega
    obtain ⟨c, hcl, hM, hcc, hfr⟩ := Kd.R_elem HR.out z41 j p1 hlt; obtain ⟨x, hx⟩ : ∃ x, x = cur.getD j.toNat z41 := ⟨_, rfl⟩; rw [← hx] at hM; obtain ⟨vx, e_x, hRx⟩ := k41_openM hM; obtain ⟨Ax, cx, rfl⟩ := Kd.R_slice hRx; subst e_x; obtain ⟨co, hclo, hMo, hcco, hfro⟩ := Kd.R_elem HR.out z41 i q1 hil; obtain ⟨yo, hyo⟩ : ∃ y, y = cur.getD i.toNat z41 := ⟨_, rfl⟩; rw [← hyo] at hMo; obtain ⟨vy, e_y, hRy⟩ := k41_openM hMo; obtain ⟨Ay, cy, rfl⟩ := Kd.R_slice hRy; subst e_y; have HMX := Zq_.mk hM; have hx_0 := hcc 0 _ rfl; have hx_1 := hcc 1 _ rfl; have hx_2 := hcc 2 _ rfl; have hx_3 := hcc 3 _ rfl; simp only [show (k41).sz = 4 from rfl, Nat.add_zero] at hx_0 hx_1 hx_2 hx_3
    have hcl2 : ∀ W, Below wr.heap.size wr W → Calls Try.prog g (#[.agg #[.int .i64 x.f0, .int .i64 x.f1.f0, .int .i64 x.f1.f1, .slice Ax x.f1.f2.length cx]] ++ lb) W (fun e w1 => e = .returned (.bool (p x)) ∧ Below W.heap.size W w1) := fun W hW => HP.out W x [.int .i64 x.f0, .int .i64 x.f1.f0, .int .i64 x.f1.f1, .slice Ax x.f1.f2.length cx] (grown_bel HW.out hW) ((k41).K_below hW ((k41).K_of_M HMX.out))
    have HL := Zq_.mk hlt; have HIL := Zq_.mk hil; have HX := Zq_.mk hx; have HN := Zq_.mk hlen; have HCC := Zq_.mk hcco; replace p1 := eq_true p1; replace q1 := eq_true q1; replace hlt := eq_true hlt; replace hil := eq_true hil; have hwj := Zq_.mk (show wrap64 (j + 1) = j + 1 by have := HI.out; have := HM.out; have := HL.out; unfold wrap64; omega); have hwi := Zq_.mk (show wrap64 (i + 1) = i + 1 by have := HI.out; have := HM.out; have := HIL.out; unfold wrap64; omega); clear hcl hM hcc hfr hclo hMo hcco hfro hx hlen hRx hRy hyo
    go_wp2_with (first | ((with_reducible refine qt_ (N := 7) rfl ?_); refine qr_ ?hg (N := 7) ?hd (cs := #[.int .i64 0, .int .i64 0, .int .i64 0, .slice none 0 0]) (t := 41) ?hr ?_; (case hd => rfl); (case hg => rfl); (case hr => first | (go_simp; done) | (go_simp; rfl)); intro gb hgb w2 hbox hb2; have HBX := Zq_.mk hbox; have HB2 := Zq_.mk hb2; have HGE := Zq_.mk hgb; have hcz_0 : w2.cell? ⟨gb, 0, none⟩ = some (.int .i64 0) := (qh_ hbox 0).trans rfl; have hcz_1 : w2.cell? ⟨gb, 1, none⟩ = some (.int .i64 0) := (qh_ hbox 1).trans rfl; have hcz_2 : w2.cell? ⟨gb, 2, none⟩ = some (.int .i64 0) := (qh_ hbox 2).trans rfl; have hcz_3 : w2.cell? ⟨gb, 3, none⟩ = some (.slice none 0 0) := (qh_ hbox 3).trans rfl; have hfz_0 := qe_ hbox 0; have hfz_1 := qe_ hbox 1; have hfz_2 := qe_ hbox 2; have hfz_3 := qe_ hbox 3; clear hgb hbox hb2))
    have hge : wr.heap.size ≤ gb := by rw [HGE.out]; exact Nat.le_refl _
    have HBT := qf_ (qf_ (qf_ (qf_ HB2.out hge (j := 0) (v := .int .i64 x.f0)) hge (j := 1) (v := .int .i64 x.f1.f0)) hge (j := 2) (v := .int .i64 x.f1.f1)) hge (j := 3) (v := .slice Ax x.f1.f2.length cx); have hcl3 := hcl2 _ HBT; have HB0 := Zq_.mk HBT; have BK0 := Zq_.mk (blk_set (blk_set (blk_set (blk_set HBX.out 0 (.int .i64 x.f0)) 1 (.int .i64 x.f1.f0)) 2 (.int .i64 x.f1.f1)) 3 (.slice Ax x.f1.f2.length cx)); clear hcl2 HBT
    cases hq : p x with
    | true =>
     rw [hq] at hcl3; have HQ := Zq_.mk hq; clear hq; refine hcl3.mono ?_; rintro e w3 ⟨rfl, hb3⟩; have HB3 := Zq_.mk (qm_ HB0.out hb3); clear hb3 hcl3
     go_wp2_with fail
     go_roundg (l0.length - (j.toNat + 1))
     case measure => have h1 := HI.out; have h2 := HL.out; omega
     case rel => exact ⟨i, wrap64 (j + 1), cur, (by first | rfl | (simp; done) | (simp [*]; done)), (by first | rfl | (simp; done) | (simp [*]; done)), ⟨by rw [hwj.out]; have h1 := HI.out; have h2 := HL.out; omega⟩, ⟨by rw [hwj.out, show (j + 1).toNat = j.toNat + 1 by have h1 := HI.out; omega]; exact HF.out.skip z41 (by have h1 := HI.out; have h2 := HL.out; omega) (by simp only [← HX.out, HQ.out, Bool.not_true])⟩, ⟨grown_bel HW.out HB3.out⟩, ⟨Kd.R_below HR.out HB3.out⟩⟩
    | false =>
     rw [hq] at hcl3; have HQ := Zq_.mk hq; clear hq; refine hcl3.mono ?_; rintro e w3 ⟨rfl, hb3⟩; have HB3 := Zq_.mk (qm_ HB0.out hb3); have BK3 := Zq_.mk (blk_bel BK0.out hb3); have hy_0 : w3.cell? ⟨gb, 0, none⟩ = some (.int .i64 x.f0) := (qh_ BK3.out 0).trans rfl; have hy_1 : w3.cell? ⟨gb, 1, none⟩ = some (.int .i64 x.f1.f0) := (qh_ BK3.out 1).trans rfl; have hy_2 : w3.cell? ⟨gb, 2, none⟩ = some (.int .i64 x.f1.f1) := (qh_ BK3.out 2).trans rfl; have hy_3 : w3.cell? ⟨gb, 3, none⟩ = some (.slice Ax x.f1.f2.length cx) := (qh_ BK3.out 3).trans rfl; have HMX3 := Zq_.mk (Kd.M_below HMX.out HB3.out); have HR3 := Zq_.mk (Kd.R_below HR.out HB3.out); have HW3 := Zq_.mk (grown_bel HW.out HB3.out); have HBb := Zq_.mk (show Below base w w3 from (Below.refl base w).grown HW3.out HBS.out (fun k hk => by cases hk; exact HGB.out)); clear hb3 hcl3
     go_wp2_with (first | ((with_reducible refine gate_store (t := 41) (p := 33) rfl ?_); refine Kd.R_store k41 (w0 := w) (W := w3) base rfl rfl 41 (.tmp 33) (.tmp 32) rfl 41 (g := gr) (n := l0.length) (cap := c0) (o' := i.toNat * 4) i 0 cur x (.agg #[.int .i64 x.f0, .int .i64 x.f1.f0, .int .i64 x.f1.f1, .slice Ax x.f1.f2.length cx]) [.int .i64 x.f0, .int .i64 x.f1.f0, .int .i64 x.f1.f1, .slice Ax x.f1.f2.length cx] [.int .i64 yo.f0, .int .i64 yo.f1.f0, .int .i64 yo.f1.f1, .slice Ay yo.f1.f2.length cy] ok (fun k => ok k ∧ k ≠ gr) ?ha ?ho ?hx rfl (by kernel_rfl) ?h1 HR3.out (of_eq_true q1) (of_eq_true hil) rfl ?hcc (show (4 : Nat) ≤ 4 from Nat.le_refl 4) HMX3.out (fun _ hk => hk) HBb.out ?_; (case ha => first | rfl | (go_simp; done) | (go_simp; rfl)); (case ho => first | rfl | (simp; done)); (case hx => first | rfl | (go_simp; done) | (go_simp; rfl)); (case h1 => intro q hq_; simp only [List.mem_cons, List.not_mem_nil, or_false] at hq_; rcases hq_ with rfl | rfl | rfl | rfl <;> rfl); (case hcc => intro jj u hu; rw [show w3.cell? ⟨gr, i.toNat * (k41).sz + jj, none⟩ = wr.cell? ⟨gr, i.toNat * (k41).sz + jj, none⟩ from HB3.out.cell (p := ⟨gr, i.toNat * (k41).sz + jj, none⟩) (wb_ wr _ (HCC.out jj u hu))]; exact HCC.out jj u hu); intro w4 hR4 hB4 hg4; have HR4 := Zq_.mk hR4; have HW4 := Zq_.mk (World.grownBy.trans HW3.out hg4); clear hR4 hB4 hg4))
     go_roundg (l0.length - (j.toNat + 1))
     case measure => have h1 := HI.out; have h2 := HL.out; omega
     case rel => exact ⟨wrap64 (i + 1), wrap64 (j + 1), cur.set i.toNat x, (by first | rfl | (simp; done) | (simp [*]; done)), (by first | rfl | (simp; done) | (simp [*]; done)), ⟨by rw [hwj.out, hwi.out]; have h1 := HI.out; have h2 := HL.out; omega⟩, ⟨by rw [hwj.out, hwi.out, show (j + 1).toNat = j.toNat + 1 by have h1 := HI.out; omega, show (i + 1).toNat = i.toNat + 1 by have h1 := HI.out; omega, HX.out]; exact HF.out.keep z41 (by have h1 := HI.out; have h2 := HL.out; omega) (by simp only [← HX.out, HQ.out, Bool.not_false])⟩, HW4, HR4⟩
   ·have hltb : decide (j < (l0.length : Int)) = false := decide_eq_false hlt; have HL := Zq_.mk hlt; have q1 := HI.out.1
    have hil : i < (l0.length : Int) := by have := HF.out.ij; have := HF.out.jn; have := HI.out; omega
    have hcap : (l0.length : Int) ≤ (c0 : Int) := by have := HLC.out; omega
    have HIL := Zq_.mk hil; have hlen := HF.out.len
    have hcells : ∀ q, q < (l0.length - i.toNat) * 4 → (wr.cell? ⟨gr, i.toNat * 4 + q, none⟩).isSome = true ∧ wr.frozen? ⟨gr, i.toNat * 4 + q, none⟩ = false := by
     intro q hq; obtain ⟨c, hcl, hM, hcc, hfr⟩ := Kd.R_elem HR.out z41 ((i.toNat + q / 4 : Nat) : Int) (by omega) (by omega); obtain ⟨vq, e_q, hRq⟩ := k41_openM hM; obtain ⟨Aq, cq, rfl⟩ := Kd.R_slice hRq; subst e_q
     have e : i.toNat * 4 + q = ((i.toNat + q / 4 : Nat) : Int).toNat * (k41).sz + q % 4 := by rw [Int.toNat_natCast, show (k41).sz = 4 from rfl]; omega
     rw [e]; refine ⟨?_, hfr _⟩
     have h3 : q % 4 = 0 ∨ q % 4 = 1 ∨ q % 4 = 2 ∨ q % 4 = 3 := by omega
     rcases h3 with h3 | h3 | h3 | h3 <;> rw [h3, hcc _ _ rfl] <;> rfl
    have hcl : ∀ ty, (Builtin.clear_ #[22] ty #[.slice (some ⟨gr, i.toNat * 4, none⟩) (l0.length - i.toNat) (c0 - i.toNat)]).run Try.prog wr = .ok (.tuple #[]) (wr.setCells gr (i.toNat * 4) (Builtin.zeroCells #[.int .i64 0, .int .i64 0, .int .i64 0, .slice none 0 0] (l0.length - i.toNat)).toList) := fun ty =>
     run_clear_rows wr 22 41 ty (.agg #[.int .i64 0, .int .i64 0, .int .i64 0, .slice none 0 0]) Try.underlying22 (fun _ => by kernel_rfl) (by intro u hu; simp only [Value.cells, List.mem_cons, List.not_mem_nil, or_false] at hu; rcases hu with rfl | rfl | rfl | rfl <;> rfl) gr (i.toNat * 4) _ _ (by omega) (fun q hq => (hcells q hq).1) (fun q hq => (hcells q hq).2)
    have HFIN := Zq_.mk (Kd.R_rest HR.out i.toNat (by omega) (Builtin.zeroCells #[.int .i64 0, .int .i64 0, .int .i64 0, .slice none 0 0] (l0.length - i.toNat)).toList (by rw [zero_len]; show _ * 4 = _ * 4; rw [hlen])); have HN := Zq_.mk hlen
    have hi2 : i ≤ (l0.length : Int) := by omega
    have hi3 : i ≤ (c0 : Int) := by omega
    have hne : (c0 = i.toNat) = False := eq_false (by omega); clear hcells hlt hlen; replace q1 := eq_true q1; replace hil := eq_true hil; replace hi2 := eq_true hi2; replace hi3 := eq_true hi3; replace hcap := eq_true hcap
    go_wp2_with fail
    go_ret
    refine ⟨_, rfl, ?_, World.grownBy.trans HW.out HFIN.out.2, rfl⟩; have h1 := HFIN.out.1; rw [HF.out.done (by have := HL.out; have := HI.out; omega)] at h1; exact h1
open Go.Proofs.YthpbggknfhchlaaW.Hw in
theorem ContainsFuncN.calls (p : S41 → Bool) (g : Nat) (lb : Array Value) (eg : ∀ args w, (callFunc g args).run Try.prog w = .ok (.enter g args) w) (A0 : Option Addr) (c0 : Nat) (l0 : List S41) (w : World)
  (hp : PredK Try.prog k41 g lb aggOf p w) (hr0 : Kd.C k41 w A0 l0.length l0) :
  Calls Try.prog 43 #[.slice A0 l0.length c0, .func (.func g) #[] lb] w fun e w' => e = .returned (.bool (l0.any p)) ∧ Below w.heap.size w w' := by
 have hcall := IndexFuncN.calls p g lb eg A0 c0 l0 w hp hr0; rw [← idxI_any]; generalize idxI p l0 = r at hcall ⊢; clear hp hr0
 go_enter Try.func43, Try.ntmps43
 go_wp2_with fail
 refine hcall.mono ?_; rintro e w1 ⟨rfl, hb1⟩
 go_wp2_with fail
 go_ret
 exact ⟨rfl, hb1⟩
end Go.Proofs.Ythpbggknfhchlaa.P

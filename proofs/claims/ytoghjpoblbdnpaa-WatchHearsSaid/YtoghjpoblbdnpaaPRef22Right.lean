/- What printed functions come to, and that the machine's calls do it. No condition. -/
import Derived.Test.YtoghjpoblbdnpaaPApiWatch44
namespace Go.Proofs.Ytoghjpoblbdnpaa.P
set_option maxHeartbeats 32000000
set_option maxRecDepth 100000
open Go.RowKit Go.Proofs.YtoghjpoblbdnpaaW.PrintWords Go.Proofs.YtoghjpoblbdnpaaW.PrintLast Go.Proofs.YtoghjpoblbdnpaaW.PrintMore
attribute [local go_sem] qt_ qr_ qx_ qw_ qn_ qm_ qs_ qq_ Go.Proofs.YtoghjpoblbdnpaaW.Hw.string_gtr
set_option linter.unusedVariables false
set_option linter.unusedSimpArgs false
/-- May a watch not be, where its place in the list is known to be wrong or not. -/
def ref22_Right.bad (k : Nat) (x : S36) (pb : Bool) : Option Bool :=
 if x.f0 < 0 then some true else if 8 ≤ x.f0 then some true else if pb = true then some true else if x.f1 < 1 then some true else if 1099511627776 < x.f1 then some true else if x.f2 < 0 then some true else if 1099511627776 < x.f2 then some true else
  (ref10_Right.f k x.f3.f0 x.f3.f1).bind fun t => if t = true then (if x.f3.f0 < 0 then some true else if x.f5 < 0 then some true else if 1099511627776 < x.f5 then some true else if x.f4 = true then (if x.f5 = 0 then some false else some true) else some false) else some true
def ref22_Right.go (k : Nat) (l : List S36) : Nat → Nat → Option Bool
 | 0, _ => some true
 | n + 1, i => (ref22_Right.bad k (l.getD i z36) (decide (0 < i) && decide ((l.getD i z36).f0 ≤ (l.getD (i - 1) z36).f0))).bind fun b => if b = true then some false else ref22_Right.go k l n (i + 1)
def ref22_Right.f (k : Nat) (l0 : List S36) : Option Bool := ref22_Right.go k l0 l0.length 0
theorem ref22_Right.bad_mono (x : S36) (pb : Bool) (k : Nat) : LeO (ref22_Right.bad k x pb) (ref22_Right.bad (k + 1) x pb) := by
 unfold ref22_Right.bad
 exact LeO.ite (LeO.refl _) (LeO.ite (LeO.refl _) (LeO.ite (LeO.refl _) (LeO.ite (LeO.refl _) (LeO.ite (LeO.refl _) (LeO.ite (LeO.refl _) (LeO.ite (LeO.refl _) (LeO.bind (ref10_Right.mono _ _ _) (fun _ => LeO.refl _))))))))
theorem ref22_Right.go_mono (k : Nat) (l : List S36) : ∀ (n i : Nat), LeO (ref22_Right.go k l n i) (ref22_Right.go (k + 1) l n i)
 | 0, _ => LeO.refl _
 | n + 1, i => by
  unfold ref22_Right.go
  exact LeO.bind (ref22_Right.bad_mono _ _ _) (fun _ => LeO.ite (LeO.refl _) (ref22_Right.go_mono k l n (i + 1)))
theorem ref22_Right.mono : ∀ a0 k, LeO (ref22_Right.f k a0) (ref22_Right.f (k + 1) a0) := fun a0 k => ref22_Right.go_mono k a0 _ _
/-- The same, with truth values. -/
theorem ref22_Right.bad_bool (k : Nat) (x : S36) (pb : Bool) : ref22_Right.bad k x pb = if ((((((decide (x.f0 < 0) || decide (8 ≤ x.f0)) || pb) || decide (x.f1 < 1)) || decide (1099511627776 < x.f1)) || decide (x.f2 < 0)) || decide (1099511627776 < x.f2)) = true then some true else
  (ref10_Right.f k x.f3.f0 x.f3.f1).bind fun t => some ((((!t || decide (x.f3.f0 < 0)) || decide (x.f5 < 0)) || decide (1099511627776 < x.f5)) || (x.f4 && (x.f5 != 0))) := by
 unfold ref22_Right.bad
 by_cases c0 : x.f0 < 0
 ·simp [c0]
 by_cases c1 : 8 ≤ x.f0
 ·simp [c1]
 cases pb with
 | true => simp
 | false =>
  by_cases c3 : x.f1 < 1
  ·simp [c3]
  by_cases c4 : 1099511627776 < x.f1
  ·simp [c4]
  by_cases c5 : x.f2 < 0
  ·simp [c5]
  by_cases c6 : 1099511627776 < x.f2
  ·simp [c6]
  simp only [c0, c1, c3, c4, c5, c6, decide_false, Bool.or_false, Bool.false_eq_true, ↓reduceIte]
  congr 1
  funext t
  cases t with
  | false => simp
  | true =>
   by_cases d0 : x.f3.f0 < 0
   ·simp [d0]
   by_cases d1 : x.f5 < 0
   ·simp [d1]
   by_cases d2 : 1099511627776 < x.f5
   ·simp [d2]
   cases hal : x.f4 with
   | false => simp [d0, d1, d2]
   | true => by_cases d3 : x.f5 = 0 <;> simp [d0, d1, d2, d3]
/-- Nothing where g is true. -/
def gv (g : Bool) (v : Value) : Value := match g with | true => undef | false => v
theorem gv_t (v : Value) : gv true v = undef := rfl
theorem gv_f (v : Value) : gv false v = v := rfl
/-- Nothing where g is false. -/
def gp (g : Bool) (v : Value) : Value := match g with | true => v | false => undef
theorem gp_t (v : Value) : gp true v = v := rfl
theorem gp_f (v : Value) : gp false v = undef := rfl
def ref22_Right.T5 : Bool × List (List Nat × List Nat) := (true, [([], []), ([0], [0]), ([1], [1]), ([2], [2]), ([3], [3]), ([4, 3], [3, 4]), ([5, 3], [3, 5]), ([3, 6], [3, 6]), ([7, 3], [7]), ([8], [8]), ([9, 8], [8, 9]), ([10, 8, 8], [8, 10]), ([11], [11]), ([11], [11]), ([13, 11], [11, 13]), ([12, 14, 11], [11, 12, 14]), ([15, 11], [11, 15]), ([16, 11], [11, 16]), ([11], [11]), ([18, 11], [11, 18]), ([17, 19, 11], [11, 17, 19]), ([11, 20, 8], [8, 11, 20]), ([8, 21], [8, 21]), ([22, 11], [22]), ([23], [23]), ([24, 23], [23, 24]), ([25, 23], [23, 25]), ([23, 26], [23, 26]), ([27, 23], [27]), ([28], [28]), ([29, 28], [28, 29]), ([30, 28], [28, 30]), ([28, 31], [28, 31]), ([32, 28], [32]), ([33], [33]), ([34, 33], [33, 34]), ([35, 33], [33, 35]), ([33, 36], [33, 36]), ([37, 33], [37]), ([38], [38]), ([39, 38], [38, 39]), ([40, 38], [38, 40]), ([38, 41], [38, 41]), ([42, 38], [42]), ([43], [43]), ([44, 43], [43, 44]), ([45, 43, 43], [43, 45]), ([46, 43], [43, 46]), ([43, 47], [43, 47]), ([48, 46], [48]), ([49], [49]), ([50, 49], [49, 50]), ([51, 49], [49, 51]), ([52, 49], [49, 52]), ([49, 53], [49, 53]), ([54, 49], [54]), ([55], [55]), ([56, 55], [55, 56]), ([57, 55], [55, 57]), ([55, 58], [55, 58]), ([59, 55], [59]), ([60], [60]), ([61, 60], [60, 61]), ([62, 60], [60, 62]), ([60, 63], [60, 63]), ([64, 60], [64]), ([65], [65]), ([66, 65], [65, 66]), ([67, 65, 65], [65, 67]), ([68], [68]), ([69, 68], [68, 69]), ([70, 68], [68, 70]), ([68, 71, 65], [65, 68, 71]), ([65, 72], [65, 72])])
def ref22_Right.B5 : List Nat := [0, 1, 3, 7, 15, 31, 63, 127, 255, 511, 1023, 2047, 4095, 4095, 12287, 32767, 65535, 131071, 4095, 266239, 1048575, 2097151, 4194303, 8388607, 16777215, 33554431, 67108863, 134217727, 268435455, 536870911, 1073741823, 2147483647, 4294967295, 8589934591, 17179869183, 34359738367, 68719476735, 137438953471, 274877906943, 549755813887, 1099511627775, 2199023255551, 4398046511103, 8796093022207, 17592186044415, 35184372088831, 70368744177663, 140737488355327, 281474976710655, 562949953421311, 1125899906842623, 2251799813685247, 4503599627370495, 9007199254740991, 18014398509481983, 36028797018963967, 72057594037927935, 144115188075855871, 288230376151711743, 576460752303423487, 1152921504606846975, 2305843009213693951, 4611686018427387903, 9223372036854775807, 18446744073709551615, 36893488147419103231, 73786976294838206463, 147573952589676412927, 295147905179352825855, 590295810358705651711, 1180591620717411303423, 2361183241434822606847, 4722366482869645213695, 9444732965739290427391]
theorem ref22_Right.tab5 : rtab .any (opsOf Try.f21 5) = ref22_Right.T5 := by kernel_rfl
theorem ref22_Right.bits5 : waitsOk ref22_Right.T5.2 ref22_Right.B5 = true := by kernel_rfl
open Go.Proofs.YtoghjpoblbdnpaaW.Hw in
theorem ref22_Right.calls (k : Nat) (A0 : Option Addr) (c0 : Nat) (l0 : List S36) (r : Bool) (w : World) (hr0 : Kd.C k36 w A0 l0.length l0) (hc0 : l0.length ≤ c0) (h : ref22_Right.f k l0 = some r) :
  Calls Try.prog 21 #[.slice A0 l0.length c0] w fun e w' => e = .returned (.bool r) ∧ Below w.heap.size w w' := by
 have hu36 := Try.underlying36; have hu34 := Try.underlying34; obtain ⟨cc, hcc⟩ : ∃ cc_, cc_ = c0 := ⟨_, rfl⟩; rw [← hcc] at hc0 ⊢; have HR := Zq_.mk hr0; have HC := Zq_.mk hc0; have HLM := Zq_.mk hr0.2.1; have H := Zq_.mk (show ref22_Right.go k l0 (l0.length - 0) 0 = some r from h); clear hr0 hc0 h hcc c0; have HB := Zq_.mk (Below.refl w.heap.size w)
 go_enter Try.func21, Try.ntmps21
 go_wp2
 go_loopg [3] (l0.length + 1) (fun kq v3 w' => ∃ (i : Nat), v3 = .int .i64 (i : Int) ∧ Zq_ (i ≤ l0.length ∧ kq + i = l0.length + 1) ∧ Zq_ (ref22_Right.go k l0 (l0.length - i) i = some r) ∧ Zq_ (Below w.heap.size w w'))
 case atStart => exact ⟨0, by first | rfl | (simp; done), ⟨by omega, by omega⟩, H, HB⟩
 case round =>
  clear HB H; obtain ⟨i, rfl, HI, HL, HB⟩ := hrel
  by_cases hi : i < l0.length
  ·obtain ⟨ad, A4, c4, e4, hx0, hx1, hx2, hx3, hx4, hx5, hx6, hl4, hi4⟩ := at_T36 (Kd.qi_ HR.out HB.out) (i : Int) (by omega) (by omega); cases e4; have h := HL.out; obtain ⟨n, hn⟩ : ∃ n_, l0.length - i = n_ + 1 := ⟨l0.length - i - 1, by omega⟩; rw [hn, ref22_Right.go] at h; obtain ⟨b, hbad, h2⟩ := Option.bind_eq_some_iff.1 h; obtain ⟨x, hx⟩ : ∃ x_, x_ = rd_T36 l0 (i : Int) := ⟨_, rfl⟩; rw [show l0.getD i z36 = x from by rw [hx]; rfl] at hbad; rw [← hx] at hx0 hx1 hx2 hx3 hx4 hx5 hx6 hl4 hi4; obtain ⟨y, hy⟩ : ∃ y_, y_ = l0.getD (i - 1) z36 := ⟨_, rfl⟩; rw [← hy, ref22_Right.bad_bool] at hbad; have HBAD := Zq_.mk hbad; have HGO := Zq_.mk (show (if b = true then some false else ref22_Right.go k l0 (l0.length - (i + 1)) (i + 1)) = some r from by rw [show l0.length - (i + 1) = n from by omega]; exact h2); have HL4 := Zq_.mk hl4; have HI4 := Zq_.mk hi4; have HII := Zq_.mk hi; have HY := Zq_.mk hy; have HWR := Zq_.mk (show wrap64 ((i : Int) + 1) = ((i + 1 : Nat) : Int) by have := HLM.out; unfold wrap64; omega); have j1 : decide ((i : Int) < (l0.length : Int)) = true := decide_eq_true (by omega); have j2 : ((i : Int) < (l0.length : Int)) = True := eq_true (by omega); have j3 : (i < l0.length) = True := eq_true hi; have j4 : decide (i < l0.length) = true := decide_eq_true hi; simp only [Int.toNat_natCast] at hx0 hx1 hx2 hx3 hx4 hx5 hx6; clear hx h hn hbad h2 hl4 hi4 hi hy HL; have HBr := HB
   go_upto_region 5 with (first | ((with_reducible refine qc_ (N := 4) rfl ?_); (try (refine qo_ (by rfl) ?_; dsimp only)); refine bE_ 4 #[.int .i64 0, .int .i64 0, .int .i64 0, .int .i64 0, .slice none 0 0, .bool false, .int .i64 0] 36 ?_; intro aA hg_ w103 hbox_ hb_; have n0_ := Zq_.mk (qe_ (hB_ HB) hb_); have aQ := Zq_.mk ((by rw [hg_]; exact (qb_ (hB_ HB)) : w.heap.size ≤ aA)); have n1_ := Zq_.mk (hbox_); have GX103 := Zq_.mk (Nat.le_of_eq hg_.symm); have BX103 := Zq_.mk hb_; clear HB; have HB := n0_; have aB := n1_; clear n0_ n1_; clear hb_ hbox_ hg_; obtain ⟨aP, aO, aN, aM, aL, aK, aJ⟩ := c7_ aB; obtain ⟨aI, aH, aG, aF, aE, aD, aC⟩ := f7_ aB))
   have HX := Zq_.mk (qj_ (qj_ (qj_ (qj_ (qj_ (qj_ (qj_ BX103.out GX103.out (j := 0) (v := .int .i64 x.f0)) GX103.out (j := 1) (v := .int .i64 x.f1)) GX103.out (j := 2) (v := .int .i64 x.f2)) GX103.out (j := 3) (v := .int .i64 x.f3.f0)) GX103.out (j := 4) (v := .slice A4 x.f3.f1.length c4)) GX103.out (j := 5) (v := .bool x.f4)) GX103.out (j := 6) (v := .int .i64 x.f5)); have HBX := Zq_.mk (qe_ HBr.out HX.out); have BK1 := Zq_.mk (show _ = some (Obj.cells #[.int .i64 x.f0, .int .i64 x.f1, .int .i64 x.f2, .int .i64 x.f3.f0, .slice A4 x.f3.f1.length c4, .bool x.f4, .int .i64 x.f5] 36 (0, 0)) from (qv_ (qv_ (qv_ (qv_ (qv_ (qv_ (qv_ aB.out 0 (.int .i64 x.f0)) 1 (.int .i64 x.f1)) 2 (.int .i64 x.f2)) 3 (.int .i64 x.f3.f0)) 4 (.slice A4 x.f3.f1.length c4)) 5 (.bool x.f4)) 6 (.int .i64 x.f5))); generalize hw7 : (((((((w103.setCell ⟨aA, 0, none⟩ (.int .i64 x.f0)).setCell ⟨aA, 1, none⟩ (.int .i64 x.f1)).setCell ⟨aA, 2, none⟩ (.int .i64 x.f2)).setCell ⟨aA, 3, none⟩ (.int .i64 x.f3.f0)).setCell ⟨aA, 4, none⟩ (.slice A4 x.f3.f1.length c4)).setCell ⟨aA, 5, none⟩ (.bool x.f4)).setCell ⟨aA, 6, none⟩ (.int .i64 x.f5)) = w7 at HX HBX BK1 ⊢; have HI7 := Zq_.mk (Kd.qi_ HI4.out HX.out); clear hw7 HB HBr aB BX103 GX103 aQ HX HI4 hx0 hx1 hx2 hx3 hx4 hx5 hx6; clear aP aO aN aM aL aK aJ aI aH aG aF aE aD aC; have HB := HBX; clear HBX
   go_cut [88] (fun v88 wc => v88 = .bool b ∧ Zq_ (Below w.heap.size w wc))
   case first =>
    clear j1 j2 j3 j4 HGO
    -- the questions
    obtain ⟨c0, h0⟩ : ∃ c_, decide (x.f0 < 0) = c_ := ⟨_, rfl⟩; obtain ⟨c1, h1⟩ : ∃ c_, decide (8 ≤ x.f0) = c_ := ⟨_, rfl⟩; obtain ⟨pos, hp⟩ : ∃ c_, decide (0 < i) = c_ := ⟨_, rfl⟩; obtain ⟨c2, h2⟩ : ∃ c_, decide (x.f0 ≤ y.f0) = c_ := ⟨_, rfl⟩; obtain ⟨c3, h3⟩ : ∃ c_, decide (x.f1 < 1) = c_ := ⟨_, rfl⟩; obtain ⟨c4b, h4⟩ : ∃ c_, decide (1099511627776 < x.f1) = c_ := ⟨_, rfl⟩; obtain ⟨c5, h5⟩ : ∃ c_, decide (x.f2 < 0) = c_ := ⟨_, rfl⟩; obtain ⟨c6, h6⟩ : ∃ c_, decide (1099511627776 < x.f2) = c_ := ⟨_, rfl⟩; obtain ⟨c8, h8⟩ : ∃ c_, decide (x.f3.f0 < 0) = c_ := ⟨_, rfl⟩; obtain ⟨c9, h9⟩ : ∃ c_, decide (x.f5 < 0) = c_ := ⟨_, rfl⟩; obtain ⟨c10, h10⟩ : ∃ c_, decide (1099511627776 < x.f5) = c_ := ⟨_, rfl⟩; obtain ⟨al, hal⟩ : ∃ c_, x.f4 = c_ := ⟨_, rfl⟩; obtain ⟨c11, h11⟩ : ∃ c_, (x.f5 != 0) = c_ := ⟨_, rfl⟩; have hb := HBAD.out; rw [h0, h1, hp, h2, h3, h4, h5, h6, h8, h9, h10, hal, h11] at hb; obtain ⟨d1, e1⟩ : ∃ d_, (c0 || c1) = d_ := ⟨_, rfl⟩; obtain ⟨g2, eg2⟩ : ∃ d_, (pos && c2) = d_ := ⟨_, rfl⟩; rw [e1, eg2] at hb; obtain ⟨d2, e2⟩ : ∃ d_, (d1 || g2) = d_ := ⟨_, rfl⟩; rw [e2] at hb; obtain ⟨d3, e3⟩ : ∃ d_, (d2 || c3) = d_ := ⟨_, rfl⟩; rw [e3] at hb; obtain ⟨d4, e4⟩ : ∃ d_, (d3 || c4b) = d_ := ⟨_, rfl⟩; rw [e4] at hb; obtain ⟨d5, e5⟩ : ∃ d_, (d4 || c5) = d_ := ⟨_, rfl⟩; rw [e5] at hb; obtain ⟨d6, e6⟩ : ∃ d_, (d5 || c6) = d_ := ⟨_, rfl⟩; rw [e6] at hb
    -- the element before
    obtain ⟨q, hq⟩ : ∃ q_ : Nat, pos = true → q_ + 1 = i := ⟨i - 1, fun hp1 => by rw [hp1] at hp; have := of_decide_eq_true hp; omega⟩
    have hprev : pos = true → w7.cell? (ad.add (q * 7)) = some (.int .i64 y.f0) := fun hp1 => by
     have hq1 := hq hp1; obtain ⟨ad2, A5, c5_, e5_, hp0, _, _, _, _, _, _, _, _⟩ := at_T36 (Kd.qi_ HR.out HB.out) (q : Int) (by omega) (by have := HII.out; omega)
     injection e5_ with e5_
     rw [← e5_, show rd_T36 l0 (q : Int) = y from by rw [HY.out, ← hq1]; rfl, Int.toNat_natCast] at hp0; exact hp0
    have HPX := Zq_.mk (show pos = true → wrap64 ((i : Int) - 1) = (q : Int) from fun hp1 => by have := hq hp1; have := HLM.out; have := HII.out; unfold wrap64; omega); have HQL := Zq_.mk (show pos = true → q < l0.length from fun hp1 => by have := hq hp1; have := HII.out; omega); have HPOS := Zq_.mk (show decide (0 < (i : Int)) = pos from by rw [← hp]; exact decide_eq_decide.2 (by omega)); have HB1 := Zq_.mk hb; have H0 := Zq_.mk h0; have H1 := Zq_.mk h1; have H2 := Zq_.mk h2; have H3 := Zq_.mk h3; have H4 := Zq_.mk h4; have H5 := Zq_.mk h5; have H6 := Zq_.mk h6; have H8 := Zq_.mk h8; have H9 := Zq_.mk h9; have H10 := Zq_.mk h10; have H11 := Zq_.mk h11; have E1 := Zq_.mk e1; have EG2 := Zq_.mk eg2; have E2 := Zq_.mk e2; have E3 := Zq_.mk e3; have E4 := Zq_.mk e4; have E5 := Zq_.mk e5; have E6 := Zq_.mk e6; have HPREV := Zq_.mk hprev; have BK2 := Zq_.mk (show w7.heap[aA]? = some (Obj.cells #[.int .i64 x.f0, .int .i64 x.f1, .int .i64 x.f2, .int .i64 x.f3.f0, .slice A4 x.f3.f1.length c4, .bool al, .int .i64 x.f5] 36 (0, 0)) from by rw [← hal]; exact BK1.out); clear HBAD hb h0 h1 hp h2 h3 h4 h5 h6 h8 h9 h10 h11 e1 eg2 e2 e3 e4 e5 e6 hq hprev hal BK1; simp only [List.append_eq, List.cons_append, List.nil_append]; replace BK2 := Zq_.mk (qh_ BK2.out); replace HB := Zq_.mk (qu_ HB.out); replace HPREV := Zq_.mk (show pos = true → w7.drew.cell? (ad.add (q * 7)) = some (.int .i64 y.f0) from fun h_ => vb_ (qu_ (Below.refl _ _)) (HPREV.out h_)); replace HI7 := Zq_.mk (Kd.C_drew HI7.out); refine start_ (n := 74) (S := fun W => W.cell? ⟨aA, 0, none⟩ = some (.int .i64 x.f0) ∧ W.cell? ⟨aA, 1, none⟩ = some (.int .i64 x.f1) ∧ W.cell? ⟨aA, 2, none⟩ = some (.int .i64 x.f2) ∧ W.cell? ⟨aA, 3, none⟩ = some (.int .i64 x.f3.f0) ∧ W.cell? ⟨aA, 4, none⟩ = some (.slice A4 x.f3.f1.length c4) ∧ W.cell? ⟨aA, 5, none⟩ = some (.bool al) ∧ W.cell? ⟨aA, 6, none⟩ = some (.int .i64 x.f5) ∧ (pos = true → W.cell? (ad.add (q * 7)) = some (.int .i64 y.f0))) (ds := []) (bz_ 74 0) (by kernel_rfl) rfl rfl ⟨(qa_ BK2.out 0).trans rfl, (qa_ BK2.out 1).trans rfl, (qa_ BK2.out 2).trans rfl, (qa_ BK2.out 3).trans rfl, (qa_ BK2.out 4).trans rfl, (qa_ BK2.out 5).trans rfl, (qa_ BK2.out 6).trans rfl, HPREV.out⟩ (fun hHeld => ?_); refine vn_ ref22_Right.tab5 ref22_Right.bits5 (fun HT_ HW_ => ?_); generalize w7.drew = w8 at BK2 HB HPREV HI7 hHeld ⊢; refine pure_ (i := 0) (N := some 15) (v := (.pointer (some ⟨aA, 0, none⟩))) (a' := ?_) (bz_ 74 1) rfl rfl (any_of HT_.out (by kernel_rfl)) (fun _ _ _ h => h) ?_ ?_ ?_
    ·refine Or.inl ⟨by rfl, ?_⟩; intro w'
     try simp only [gv_t, gv_f, gp_t, gp_f]
     first | (go_simp; done) | (go_simp; with_reducible rfl) | (go_simp; rfl)
    rotate_left; (focus simp only [Act.put, sa_, sb_, sc_, i64_w, i32_w]; rfl); refine take_ (i := 1) (N := some 16) (v := (.int .i64 x.f0)) (a' := ?_) (bz_ 74 3) rfl rfl (take_ofW HT_.out HW_.out (by kernel_rfl)) (fun _ _ _ h => h) ?_ hHeld ?_ ?_
    ·refine Or.inl ⟨by rfl, ?_⟩; rintro w' ⟨s0, s1, s2, s3, s4, s5, s6, s7⟩
     try simp only [gv_t, gv_f, gp_t, gp_f]
     first | (go_simp; done) | (go_simp; with_reducible rfl) | (go_simp; rfl)
    rotate_left; (focus simp only [Act.put, sa_, sb_, sc_, i64_w, i32_w]; rfl); refine pure_ (i := 2) (N := some 17) (v := (.bool c0)) (a' := ?_) (bz_ 74 7) rfl rfl (any_of HT_.out (by kernel_rfl)) (fun _ _ _ h => h) ?_ ?_ ?_
    ·refine Or.inl ⟨by rfl, ?_⟩; intro w'; have h_ := H0.out
     try simp only [gv_t, gv_f, gp_t, gp_f]
     first | (go_simp; done) | (go_simp; with_reducible rfl) | (go_simp; rfl)
    rotate_left; (focus simp only [Act.put, sa_, sb_, sc_, i64_w, i32_w]; rfl); refine pure_ (i := 3) (N := some 18) (v := (.bool c0)) (a' := ?_) (bz_ 74 15) rfl rfl (any_of HT_.out (by kernel_rfl)) (fun _ _ _ h => h) ?_ ?_ ?_
    ·refine Or.inl ⟨by rfl, ?_⟩; intro w'
     try simp only [gv_t, gv_f, gp_t, gp_f]
     first | (go_simp; done) | (go_simp; with_reducible rfl) | (go_simp; rfl)
    rotate_left; (focus simp only [Act.put, sa_, sb_, sc_, i64_w, i32_w]; rfl); refine pure_ (i := 4) (N := some 19) (v := (gv c0 (.pointer (some ⟨aA, 0, none⟩)))) (a' := ?_) (bz_ 74 31) rfl rfl (any_of HT_.out (by kernel_rfl)) (fun _ _ _ h => h) ?_ ?_ ?_
    ·cases c0 with
     | true => exact Or.inr ⟨by rfl, rfl⟩
     | false =>
      refine Or.inl ⟨by rfl, ?_⟩; intro w'
      try simp only [gv_t, gv_f, gp_t, gp_f]
      first | (go_simp; done) | (go_simp; with_reducible rfl) | (go_simp; rfl)
    rotate_left; (focus simp only [Act.put, sa_, sb_, sc_, i64_w, i32_w]; rfl); refine take_ (i := 5) (N := some 20) (v := (gv c0 (.int .i64 x.f0))) (a' := ?_) (bz_ 74 63) rfl rfl (take_ofW HT_.out HW_.out (by kernel_rfl)) (fun _ _ _ h => h) ?_ hHeld ?_ ?_
    ·cases c0 with
     | true => exact Or.inr ⟨by rfl, rfl⟩
     | false =>
      refine Or.inl ⟨by rfl, ?_⟩; rintro w' ⟨s0, s1, s2, s3, s4, s5, s6, s7⟩
      try simp only [gv_t, gv_f, gp_t, gp_f]
      first | (go_simp; done) | (go_simp; with_reducible rfl) | (go_simp; rfl)
    rotate_left; (focus simp only [Act.put, sa_, sb_, sc_, i64_w, i32_w]; rfl); refine pure_ (i := 6) (N := some 21) (v := (gv c0 (.bool c1))) (a' := ?_) (bz_ 74 127) rfl rfl (any_of HT_.out (by kernel_rfl)) (fun _ _ _ h => h) ?_ ?_ ?_
    ·cases c0 with
     | true => exact Or.inr ⟨by rfl, rfl⟩
     | false =>
      refine Or.inl ⟨by rfl, ?_⟩; intro w'; have h_ := H1.out
      try simp only [gv_t, gv_f, gp_t, gp_f]
      first | (go_simp; done) | (go_simp; with_reducible rfl) | (go_simp; rfl)
    rotate_left; (focus simp only [Act.put, sa_, sb_, sc_, i64_w, i32_w]; rfl); refine pure_ (i := 7) (N := some 22) (v := .bool d1) (a' := ?_) (bz_ 74 255) rfl rfl (any_of HT_.out (by kernel_rfl)) (fun _ _ _ h => h) ?_ ?_ ?_
    ·have e_ := E1.out
     cases c0 with
     | true =>
      have e_ : true = d1 := e_; subst e_; refine Or.inl ⟨by rfl, ?_⟩; intro w'
      try simp only [gv_t, gv_f, gp_t, gp_f]
      first | (go_simp; done) | (go_simp; with_reducible rfl) | (go_simp; rfl)
     | false =>
      have e_ : c1 = d1 := e_; subst e_; refine Or.inl ⟨by rfl, ?_⟩; intro w'
      try simp only [gv_t, gv_f, gp_t, gp_f]
      first | (go_simp; done) | (go_simp; with_reducible rfl) | (go_simp; rfl)
    rotate_left; (focus simp only [Act.put, sa_, sb_, sc_, i64_w, i32_w]; rfl); refine pure_ (i := 8) (N := some 23) (v := (.bool d1)) (a' := ?_) (bz_ 74 511) rfl rfl (any_of HT_.out (by kernel_rfl)) (fun _ _ _ h => h) ?_ ?_ ?_
    ·refine Or.inl ⟨by rfl, ?_⟩; intro w'
     try simp only [gv_t, gv_f, gp_t, gp_f]
     first | (go_simp; done) | (go_simp; with_reducible rfl) | (go_simp; rfl)
    rotate_left; (focus simp only [Act.put, sa_, sb_, sc_, i64_w, i32_w]; rfl); refine pure_ (i := 9) (N := some 24) (v := (gv d1 (.int .i64 (i : Int)))) (a' := ?_) (bz_ 74 1023) rfl rfl (any_of HT_.out (by kernel_rfl)) (fun _ _ _ h => h) ?_ ?_ ?_
    ·cases d1 with
     | true => exact Or.inr ⟨by rfl, rfl⟩
     | false =>
      refine Or.inl ⟨by rfl, ?_⟩; intro w'
      try simp only [gv_t, gv_f, gp_t, gp_f]
      first | (go_simp; done) | (go_simp; with_reducible rfl) | (go_simp; rfl)
    rotate_left; (focus simp only [Act.put, sa_, sb_, sc_, i64_w, i32_w]; rfl); refine pure_ (i := 10) (N := some 25) (v := (gv d1 (.bool pos))) (a' := ?_) (bz_ 74 2047) rfl rfl (any_of HT_.out (by kernel_rfl)) (fun _ _ _ h => h) ?_ ?_ ?_
    ·cases d1 with
     | true => exact Or.inr ⟨by rfl, rfl⟩
     | false =>
      refine Or.inl ⟨by rfl, ?_⟩; intro w'; have h_ := HPOS.out
      have h2_ : decide (0 < i) = pos := by rw [← h_]; exact decide_eq_decide.2 (by omega)
      try simp only [gv_t, gv_f, gp_t, gp_f]
      first | (go_simp; done) | (go_simp; with_reducible rfl) | (go_simp; rfl)
    rotate_left; (focus simp only [Act.put, sa_, sb_, sc_, i64_w, i32_w]; rfl); refine pure_ (i := 11) (N := some 26) (v := (gv d1 (.bool pos))) (a' := ?_) (bz_ 74 4095) rfl rfl (any_of HT_.out (by kernel_rfl)) (fun _ _ _ h => h) ?_ ?_ ?_
    ·cases d1 with
     | true => exact Or.inr ⟨by rfl, rfl⟩
     | false =>
      refine Or.inl ⟨by rfl, ?_⟩; intro w'
      try simp only [gv_t, gv_f, gp_t, gp_f]
      first | (go_simp; done) | (go_simp; with_reducible rfl) | (go_simp; rfl)
    rotate_left; (focus simp only [Act.put, sa_, sb_, sc_, i64_w, i32_w]; rfl); refine pure_ (i := 12) (N := some 27) (v := (gv d1 (gp pos (.slice (some ad) l0.length cc)))) (a' := ?_) (bz_ 74 8191) rfl rfl (any_of HT_.out (by kernel_rfl)) (fun _ _ _ h => h) ?_ ?_ ?_
    ·cases d1 with
     | true => exact Or.inr ⟨by rfl, rfl⟩
     | false =>
      cases pos with
      | false => exact Or.inr ⟨by rfl, rfl⟩
      | true =>
       refine Or.inl ⟨by rfl, ?_⟩; intro w'
       try simp only [gv_t, gv_f, gp_t, gp_f]
       first | (go_simp; done) | (go_simp; with_reducible rfl) | (go_simp; rfl)
    rotate_left; (focus simp only [Act.put, sa_, sb_, sc_, i64_w, i32_w]; rfl); refine pure_ (i := 13) (N := some 28) (v := (gv d1 (gp pos (.int .i64 (i : Int))))) (a' := ?_) (bz_ 74 16383) rfl rfl (any_of HT_.out (by kernel_rfl)) (fun _ _ _ h => h) ?_ ?_ ?_
    ·cases d1 with
     | true => exact Or.inr ⟨by rfl, rfl⟩
     | false =>
      cases pos with
      | false => exact Or.inr ⟨by rfl, rfl⟩
      | true =>
       refine Or.inl ⟨by rfl, ?_⟩; intro w'
       try simp only [gv_t, gv_f, gp_t, gp_f]
       first | (go_simp; done) | (go_simp; with_reducible rfl) | (go_simp; rfl)
    rotate_left; (focus simp only [Act.put, sa_, sb_, sc_, i64_w, i32_w]; rfl); refine pure_ (i := 14) (N := some 29) (v := (gv d1 (gp pos (.int .i64 (q : Int))))) (a' := ?_) (bz_ 74 32767) rfl rfl (any_of HT_.out (by kernel_rfl)) (fun _ _ _ h => h) ?_ ?_ ?_
    ·cases d1 with
     | true => exact Or.inr ⟨by rfl, rfl⟩
     | false =>
      cases pos with
      | false => exact Or.inr ⟨by rfl, rfl⟩
      | true =>
       refine Or.inl ⟨by rfl, ?_⟩; intro w'; have h_ := HPX.out rfl
       have h2_ : IntKind.i64.wrap ((i : Int) - 1) = (q : Int) := by first | exact h_ | (rw [IntKind.wrap_i64]; unfold wrap64 at h_; omega)
       try simp only [gv_t, gv_f, gp_t, gp_f]
       first | (go_simp; done) | (go_simp; with_reducible rfl) | (go_simp; rfl)
    rotate_left; (focus simp only [Act.put, sa_, sb_, sc_, i64_w, i32_w]; rfl); refine pure_ (i := 15) (N := some 30) (v := (gv d1 (gp pos (.pointer (some (ad.add (q * 7))))))) (a' := ?_) (bz_ 74 65535) rfl rfl (any_of HT_.out (by kernel_rfl)) (fun _ _ _ h => h) ?_ ?_ ?_
    ·cases d1 with
     | true => exact Or.inr ⟨by rfl, rfl⟩
     | false =>
      cases pos with
      | false => exact Or.inr ⟨by rfl, rfl⟩
      | true =>
       refine Or.inl ⟨by rfl, ?_⟩; intro w'; have hq_ := HQL.out rfl; have j1 : decide ((q : Int) < (l0.length : Int)) = true := decide_eq_true (by omega); have j2 : ((q : Int) < (l0.length : Int)) = True := eq_true (by omega); have j3 : (q < l0.length) = True := eq_true hq_; have j4 : decide (q < l0.length) = true := decide_eq_true hq_
       try simp only [gv_t, gv_f, gp_t, gp_f]
       first | (go_simp; done) | (go_simp; with_reducible rfl) | (go_simp; rfl)
    rotate_left; (focus simp only [Act.put, sa_, sb_, sc_, i64_w, i32_w]; rfl); refine pure_ (i := 16) (N := some 31) (v := (gv d1 (gp pos (.pointer (some (ad.add (q * 7))))))) (a' := ?_) (bz_ 74 131071) rfl rfl (any_of HT_.out (by kernel_rfl)) (fun _ _ _ h => h) ?_ ?_ ?_
    ·cases d1 with
     | true => exact Or.inr ⟨by rfl, rfl⟩
     | false =>
      cases pos with
      | false => exact Or.inr ⟨by rfl, rfl⟩
      | true =>
       refine Or.inl ⟨by rfl, ?_⟩; intro w'
       try simp only [gv_t, gv_f, gp_t, gp_f]
       first | (go_simp; done) | (go_simp; with_reducible rfl) | (go_simp; rfl)
    rotate_left; (focus simp only [Act.put, sa_, sb_, sc_, i64_w, i32_w]; rfl); refine take_ (i := 17) (N := some 32) (v := (gv d1 (gp pos (.int .i64 y.f0)))) (a' := ?_) (bz_ 74 262143) rfl rfl (take_ofW HT_.out HW_.out (by kernel_rfl)) (fun _ _ _ h => h) ?_ hHeld ?_ ?_
    ·cases d1 with
     | true => exact Or.inr ⟨by rfl, rfl⟩
     | false =>
      cases pos with
      | false => exact Or.inr ⟨by rfl, rfl⟩
      | true =>
       refine Or.inl ⟨by rfl, ?_⟩; rintro w' ⟨s0, s1, s2, s3, s4, s5, s6, s7⟩; have s8 := s7 rfl
       try simp only [gv_t, gv_f, gp_t, gp_f]
       first | (go_simp; done) | (go_simp; with_reducible rfl) | (go_simp; rfl)
    rotate_left; (focus simp only [Act.put, sa_, sb_, sc_, i64_w, i32_w]; rfl); refine pure_ (i := 18) (N := some 33) (v := (gv d1 (gp pos (.pointer (some ⟨aA, 0, none⟩))))) (a' := ?_) (bz_ 74 524287) rfl rfl (any_of HT_.out (by kernel_rfl)) (fun _ _ _ h => h) ?_ ?_ ?_
    ·cases d1 with
     | true => exact Or.inr ⟨by rfl, rfl⟩
     | false =>
      cases pos with
      | false => exact Or.inr ⟨by rfl, rfl⟩
      | true =>
       refine Or.inl ⟨by rfl, ?_⟩; intro w'
       try simp only [gv_t, gv_f, gp_t, gp_f]
       first | (go_simp; done) | (go_simp; with_reducible rfl) | (go_simp; rfl)
    rotate_left; (focus simp only [Act.put, sa_, sb_, sc_, i64_w, i32_w]; rfl); refine take_ (i := 19) (N := some 34) (v := (gv d1 (gp pos (.int .i64 x.f0)))) (a' := ?_) (bz_ 74 1048575) rfl rfl (take_ofW HT_.out HW_.out (by kernel_rfl)) (fun _ _ _ h => h) ?_ hHeld ?_ ?_
    ·cases d1 with
     | true => exact Or.inr ⟨by rfl, rfl⟩
     | false =>
      cases pos with
      | false => exact Or.inr ⟨by rfl, rfl⟩
      | true =>
       refine Or.inl ⟨by rfl, ?_⟩; rintro w' ⟨s0, s1, s2, s3, s4, s5, s6, s7⟩
       try simp only [gv_t, gv_f, gp_t, gp_f]
       first | (go_simp; done) | (go_simp; with_reducible rfl) | (go_simp; rfl)
    rotate_left; (focus simp only [Act.put, sa_, sb_, sc_, i64_w, i32_w]; rfl); refine pure_ (i := 20) (N := some 35) (v := (gv d1 (gp pos (.bool c2)))) (a' := ?_) (bz_ 74 2097151) rfl rfl (any_of HT_.out (by kernel_rfl)) (fun _ _ _ h => h) ?_ ?_ ?_
    ·cases d1 with
     | true => exact Or.inr ⟨by rfl, rfl⟩
     | false =>
      cases pos with
      | false => exact Or.inr ⟨by rfl, rfl⟩
      | true =>
       refine Or.inl ⟨by rfl, ?_⟩; intro w'; have h_ := H2.out
       try simp only [gv_t, gv_f, gp_t, gp_f]
       first | (go_simp; done) | (go_simp; with_reducible rfl) | (go_simp; rfl)
    rotate_left; (focus simp only [Act.put, sa_, sb_, sc_, i64_w, i32_w]; rfl); refine pure_ (i := 21) (N := some 36) (v := gv d1 (.bool g2)) (a' := ?_) (bz_ 74 4194303) rfl rfl (any_of HT_.out (by kernel_rfl)) (fun _ _ _ h => h) ?_ ?_ ?_
    ·have e_ := EG2.out
     cases d1 with
     | true => exact Or.inr ⟨by rfl, rfl⟩
     | false =>
      cases pos with
      | true =>
       have e_ : c2 = g2 := e_; subst e_; refine Or.inl ⟨by rfl, ?_⟩; intro w'
       try simp only [gv_t, gv_f, gp_t, gp_f]
       first | (go_simp; done) | (go_simp; with_reducible rfl) | (go_simp; rfl)
      | false =>
       have e_ : false = g2 := e_; subst e_; refine Or.inl ⟨by rfl, ?_⟩; intro w'
       try simp only [gv_t, gv_f, gp_t, gp_f]
       first | (go_simp; done) | (go_simp; with_reducible rfl) | (go_simp; rfl)
    rotate_left; (focus simp only [Act.put, sa_, sb_, sc_, i64_w, i32_w]; rfl); refine pure_ (i := 22) (N := some 37) (v := .bool d2) (a' := ?_) (bz_ 74 8388607) rfl rfl (any_of HT_.out (by kernel_rfl)) (fun _ _ _ h => h) ?_ ?_ ?_
    ·have e_ := E2.out
     cases d1 with
     | true =>
      have e_ : true = d2 := e_; subst e_; refine Or.inl ⟨by rfl, ?_⟩; intro w'
      try simp only [gv_t, gv_f, gp_t, gp_f]
      first | (go_simp; done) | (go_simp; with_reducible rfl) | (go_simp; rfl)
     | false =>
      have e_ : g2 = d2 := e_; subst e_; refine Or.inl ⟨by rfl, ?_⟩; intro w'
      try simp only [gv_t, gv_f, gp_t, gp_f]
      first | (go_simp; done) | (go_simp; with_reducible rfl) | (go_simp; rfl)
    rotate_left; (focus simp only [Act.put, sa_, sb_, sc_, i64_w, i32_w]; rfl); refine pure_ (i := 23) (N := some 38) (v := (.bool d2)) (a' := ?_) (bz_ 74 16777215) rfl rfl (any_of HT_.out (by kernel_rfl)) (fun _ _ _ h => h) ?_ ?_ ?_
    ·refine Or.inl ⟨by rfl, ?_⟩; intro w'
     try simp only [gv_t, gv_f, gp_t, gp_f]
     first | (go_simp; done) | (go_simp; with_reducible rfl) | (go_simp; rfl)
    rotate_left; (focus simp only [Act.put, sa_, sb_, sc_, i64_w, i32_w]; rfl); refine pure_ (i := 24) (N := some 39) (v := (gv d2 (.pointer (some ⟨aA, 1, none⟩)))) (a' := ?_) (bz_ 74 33554431) rfl rfl (any_of HT_.out (by kernel_rfl)) (fun _ _ _ h => h) ?_ ?_ ?_
    ·cases d2 with
     | true => exact Or.inr ⟨by rfl, rfl⟩
     | false =>
      refine Or.inl ⟨by rfl, ?_⟩; intro w'
      try simp only [gv_t, gv_f, gp_t, gp_f]
      first | (go_simp; done) | (go_simp; with_reducible rfl) | (go_simp; rfl)
    rotate_left; (focus simp only [Act.put, sa_, sb_, sc_, i64_w, i32_w]; rfl); refine take_ (i := 25) (N := some 40) (v := (gv d2 (.int .i64 x.f1))) (a' := ?_) (bz_ 74 67108863) rfl rfl (take_ofW HT_.out HW_.out (by kernel_rfl)) (fun _ _ _ h => h) ?_ hHeld ?_ ?_
    ·cases d2 with
     | true => exact Or.inr ⟨by rfl, rfl⟩
     | false =>
      refine Or.inl ⟨by rfl, ?_⟩; rintro w' ⟨s0, s1, s2, s3, s4, s5, s6, s7⟩
      try simp only [gv_t, gv_f, gp_t, gp_f]
      first | (go_simp; done) | (go_simp; with_reducible rfl) | (go_simp; rfl)
    rotate_left; (focus simp only [Act.put, sa_, sb_, sc_, i64_w, i32_w]; rfl); refine pure_ (i := 26) (N := some 41) (v := (gv d2 (.bool c3))) (a' := ?_) (bz_ 74 134217727) rfl rfl (any_of HT_.out (by kernel_rfl)) (fun _ _ _ h => h) ?_ ?_ ?_
    ·cases d2 with
     | true => exact Or.inr ⟨by rfl, rfl⟩
     | false =>
      refine Or.inl ⟨by rfl, ?_⟩; intro w'; have h_ := H3.out
      try simp only [gv_t, gv_f, gp_t, gp_f]
      first | (go_simp; done) | (go_simp; with_reducible rfl) | (go_simp; rfl)
    rotate_left; (focus simp only [Act.put, sa_, sb_, sc_, i64_w, i32_w]; rfl); refine pure_ (i := 27) (N := some 42) (v := .bool d3) (a' := ?_) (bz_ 74 268435455) rfl rfl (any_of HT_.out (by kernel_rfl)) (fun _ _ _ h => h) ?_ ?_ ?_
    ·have e_ := E3.out
     cases d2 with
     | true =>
      have e_ : true = d3 := e_; subst e_; refine Or.inl ⟨by rfl, ?_⟩; intro w'
      try simp only [gv_t, gv_f, gp_t, gp_f]
      first | (go_simp; done) | (go_simp; with_reducible rfl) | (go_simp; rfl)
     | false =>
      have e_ : c3 = d3 := e_; subst e_; refine Or.inl ⟨by rfl, ?_⟩; intro w'
      try simp only [gv_t, gv_f, gp_t, gp_f]
      first | (go_simp; done) | (go_simp; with_reducible rfl) | (go_simp; rfl)
    rotate_left; (focus simp only [Act.put, sa_, sb_, sc_, i64_w, i32_w]; rfl); refine pure_ (i := 28) (N := some 43) (v := (.bool d3)) (a' := ?_) (bz_ 74 536870911) rfl rfl (any_of HT_.out (by kernel_rfl)) (fun _ _ _ h => h) ?_ ?_ ?_
    ·refine Or.inl ⟨by rfl, ?_⟩; intro w'
     try simp only [gv_t, gv_f, gp_t, gp_f]
     first | (go_simp; done) | (go_simp; with_reducible rfl) | (go_simp; rfl)
    rotate_left; (focus simp only [Act.put, sa_, sb_, sc_, i64_w, i32_w]; rfl); refine pure_ (i := 29) (N := some 44) (v := (gv d3 (.pointer (some ⟨aA, 1, none⟩)))) (a' := ?_) (bz_ 74 1073741823) rfl rfl (any_of HT_.out (by kernel_rfl)) (fun _ _ _ h => h) ?_ ?_ ?_
    ·cases d3 with
     | true => exact Or.inr ⟨by rfl, rfl⟩
     | false =>
      refine Or.inl ⟨by rfl, ?_⟩; intro w'
      try simp only [gv_t, gv_f, gp_t, gp_f]
      first | (go_simp; done) | (go_simp; with_reducible rfl) | (go_simp; rfl)
    rotate_left; (focus simp only [Act.put, sa_, sb_, sc_, i64_w, i32_w]; rfl); refine take_ (i := 30) (N := some 45) (v := (gv d3 (.int .i64 x.f1))) (a' := ?_) (bz_ 74 2147483647) rfl rfl (take_ofW HT_.out HW_.out (by kernel_rfl)) (fun _ _ _ h => h) ?_ hHeld ?_ ?_
    ·cases d3 with
     | true => exact Or.inr ⟨by rfl, rfl⟩
     | false =>
      refine Or.inl ⟨by rfl, ?_⟩; rintro w' ⟨s0, s1, s2, s3, s4, s5, s6, s7⟩
      try simp only [gv_t, gv_f, gp_t, gp_f]
      first | (go_simp; done) | (go_simp; with_reducible rfl) | (go_simp; rfl)
    rotate_left; (focus simp only [Act.put, sa_, sb_, sc_, i64_w, i32_w]; rfl); refine pure_ (i := 31) (N := some 46) (v := (gv d3 (.bool c4b))) (a' := ?_) (bz_ 74 4294967295) rfl rfl (any_of HT_.out (by kernel_rfl)) (fun _ _ _ h => h) ?_ ?_ ?_
    ·cases d3 with
     | true => exact Or.inr ⟨by rfl, rfl⟩
     | false =>
      refine Or.inl ⟨by rfl, ?_⟩; intro w'; have h_ := H4.out
      try simp only [gv_t, gv_f, gp_t, gp_f]
      first | (go_simp; done) | (go_simp; with_reducible rfl) | (go_simp; rfl)
    rotate_left; (focus simp only [Act.put, sa_, sb_, sc_, i64_w, i32_w]; rfl); refine pure_ (i := 32) (N := some 47) (v := .bool d4) (a' := ?_) (bz_ 74 8589934591) rfl rfl (any_of HT_.out (by kernel_rfl)) (fun _ _ _ h => h) ?_ ?_ ?_
    ·have e_ := E4.out
     cases d3 with
     | true =>
      have e_ : true = d4 := e_; subst e_; refine Or.inl ⟨by rfl, ?_⟩; intro w'
      try simp only [gv_t, gv_f, gp_t, gp_f]
      first | (go_simp; done) | (go_simp; with_reducible rfl) | (go_simp; rfl)
     | false =>
      have e_ : c4b = d4 := e_; subst e_; refine Or.inl ⟨by rfl, ?_⟩; intro w'
      try simp only [gv_t, gv_f, gp_t, gp_f]
      first | (go_simp; done) | (go_simp; with_reducible rfl) | (go_simp; rfl)
    rotate_left; (focus simp only [Act.put, sa_, sb_, sc_, i64_w, i32_w]; rfl); refine pure_ (i := 33) (N := some 48) (v := (.bool d4)) (a' := ?_) (bz_ 74 17179869183) rfl rfl (any_of HT_.out (by kernel_rfl)) (fun _ _ _ h => h) ?_ ?_ ?_
    ·refine Or.inl ⟨by rfl, ?_⟩; intro w'
     try simp only [gv_t, gv_f, gp_t, gp_f]
     first | (go_simp; done) | (go_simp; with_reducible rfl) | (go_simp; rfl)
    rotate_left; (focus simp only [Act.put, sa_, sb_, sc_, i64_w, i32_w]; rfl); refine pure_ (i := 34) (N := some 49) (v := (gv d4 (.pointer (some ⟨aA, 2, none⟩)))) (a' := ?_) (bz_ 74 34359738367) rfl rfl (any_of HT_.out (by kernel_rfl)) (fun _ _ _ h => h) ?_ ?_ ?_
    ·cases d4 with
     | true => exact Or.inr ⟨by rfl, rfl⟩
     | false =>
      refine Or.inl ⟨by rfl, ?_⟩; intro w'
      try simp only [gv_t, gv_f, gp_t, gp_f]
      first | (go_simp; done) | (go_simp; with_reducible rfl) | (go_simp; rfl)
    rotate_left; (focus simp only [Act.put, sa_, sb_, sc_, i64_w, i32_w]; rfl); refine take_ (i := 35) (N := some 50) (v := (gv d4 (.int .i64 x.f2))) (a' := ?_) (bz_ 74 68719476735) rfl rfl (take_ofW HT_.out HW_.out (by kernel_rfl)) (fun _ _ _ h => h) ?_ hHeld ?_ ?_
    ·cases d4 with
     | true => exact Or.inr ⟨by rfl, rfl⟩
     | false =>
      refine Or.inl ⟨by rfl, ?_⟩; rintro w' ⟨s0, s1, s2, s3, s4, s5, s6, s7⟩
      try simp only [gv_t, gv_f, gp_t, gp_f]
      first | (go_simp; done) | (go_simp; with_reducible rfl) | (go_simp; rfl)
    rotate_left; (focus simp only [Act.put, sa_, sb_, sc_, i64_w, i32_w]; rfl); refine pure_ (i := 36) (N := some 51) (v := (gv d4 (.bool c5))) (a' := ?_) (bz_ 74 137438953471) rfl rfl (any_of HT_.out (by kernel_rfl)) (fun _ _ _ h => h) ?_ ?_ ?_
    ·cases d4 with
     | true => exact Or.inr ⟨by rfl, rfl⟩
     | false =>
      refine Or.inl ⟨by rfl, ?_⟩; intro w'; have h_ := H5.out
      try simp only [gv_t, gv_f, gp_t, gp_f]
      first | (go_simp; done) | (go_simp; with_reducible rfl) | (go_simp; rfl)
    rotate_left; (focus simp only [Act.put, sa_, sb_, sc_, i64_w, i32_w]; rfl); refine pure_ (i := 37) (N := some 52) (v := .bool d5) (a' := ?_) (bz_ 74 274877906943) rfl rfl (any_of HT_.out (by kernel_rfl)) (fun _ _ _ h => h) ?_ ?_ ?_
    ·have e_ := E5.out
     cases d4 with
     | true =>
      have e_ : true = d5 := e_; subst e_; refine Or.inl ⟨by rfl, ?_⟩; intro w'
      try simp only [gv_t, gv_f, gp_t, gp_f]
      first | (go_simp; done) | (go_simp; with_reducible rfl) | (go_simp; rfl)
     | false =>
      have e_ : c5 = d5 := e_; subst e_; refine Or.inl ⟨by rfl, ?_⟩; intro w'
      try simp only [gv_t, gv_f, gp_t, gp_f]
      first | (go_simp; done) | (go_simp; with_reducible rfl) | (go_simp; rfl)
    rotate_left; (focus simp only [Act.put, sa_, sb_, sc_, i64_w, i32_w]; rfl); refine pure_ (i := 38) (N := some 53) (v := (.bool d5)) (a' := ?_) (bz_ 74 549755813887) rfl rfl (any_of HT_.out (by kernel_rfl)) (fun _ _ _ h => h) ?_ ?_ ?_
    ·refine Or.inl ⟨by rfl, ?_⟩; intro w'
     try simp only [gv_t, gv_f, gp_t, gp_f]
     first | (go_simp; done) | (go_simp; with_reducible rfl) | (go_simp; rfl)
    rotate_left; (focus simp only [Act.put, sa_, sb_, sc_, i64_w, i32_w]; rfl); refine pure_ (i := 39) (N := some 54) (v := (gv d5 (.pointer (some ⟨aA, 2, none⟩)))) (a' := ?_) (bz_ 74 1099511627775) rfl rfl (any_of HT_.out (by kernel_rfl)) (fun _ _ _ h => h) ?_ ?_ ?_
    ·cases d5 with
     | true => exact Or.inr ⟨by rfl, rfl⟩
     | false =>
      refine Or.inl ⟨by rfl, ?_⟩; intro w'
      try simp only [gv_t, gv_f, gp_t, gp_f]
      first | (go_simp; done) | (go_simp; with_reducible rfl) | (go_simp; rfl)
    rotate_left; (focus simp only [Act.put, sa_, sb_, sc_, i64_w, i32_w]; rfl); refine take_ (i := 40) (N := some 55) (v := (gv d5 (.int .i64 x.f2))) (a' := ?_) (bz_ 74 2199023255551) rfl rfl (take_ofW HT_.out HW_.out (by kernel_rfl)) (fun _ _ _ h => h) ?_ hHeld ?_ ?_
    ·cases d5 with
     | true => exact Or.inr ⟨by rfl, rfl⟩
     | false =>
      refine Or.inl ⟨by rfl, ?_⟩; rintro w' ⟨s0, s1, s2, s3, s4, s5, s6, s7⟩
      try simp only [gv_t, gv_f, gp_t, gp_f]
      first | (go_simp; done) | (go_simp; with_reducible rfl) | (go_simp; rfl)
    rotate_left; (focus simp only [Act.put, sa_, sb_, sc_, i64_w, i32_w]; rfl); refine pure_ (i := 41) (N := some 56) (v := (gv d5 (.bool c6))) (a' := ?_) (bz_ 74 4398046511103) rfl rfl (any_of HT_.out (by kernel_rfl)) (fun _ _ _ h => h) ?_ ?_ ?_
    ·cases d5 with
     | true => exact Or.inr ⟨by rfl, rfl⟩
     | false =>
      refine Or.inl ⟨by rfl, ?_⟩; intro w'; have h_ := H6.out
      try simp only [gv_t, gv_f, gp_t, gp_f]
      first | (go_simp; done) | (go_simp; with_reducible rfl) | (go_simp; rfl)
    rotate_left; (focus simp only [Act.put, sa_, sb_, sc_, i64_w, i32_w]; rfl); refine pure_ (i := 42) (N := some 57) (v := .bool d6) (a' := ?_) (bz_ 74 8796093022207) rfl rfl (any_of HT_.out (by kernel_rfl)) (fun _ _ _ h => h) ?_ ?_ ?_
    ·have e_ := E6.out
     cases d5 with
     | true =>
      have e_ : true = d6 := e_; subst e_; refine Or.inl ⟨by rfl, ?_⟩; intro w'
      try simp only [gv_t, gv_f, gp_t, gp_f]
      first | (go_simp; done) | (go_simp; with_reducible rfl) | (go_simp; rfl)
     | false =>
      have e_ : c6 = d6 := e_; subst e_; refine Or.inl ⟨by rfl, ?_⟩; intro w'
      try simp only [gv_t, gv_f, gp_t, gp_f]
      first | (go_simp; done) | (go_simp; with_reducible rfl) | (go_simp; rfl)
    rotate_left; (focus simp only [Act.put, sa_, sb_, sc_, i64_w, i32_w]; rfl); refine pure_ (i := 43) (N := some 58) (v := (.bool d6)) (a' := ?_) (bz_ 74 17592186044415) rfl rfl (any_of HT_.out (by kernel_rfl)) (fun _ _ _ h => h) ?_ ?_ ?_
    ·refine Or.inl ⟨by rfl, ?_⟩; intro w'
     try simp only [gv_t, gv_f, gp_t, gp_f]
     first | (go_simp; done) | (go_simp; with_reducible rfl) | (go_simp; rfl)
    rotate_left; (focus simp only [Act.put, sa_, sb_, sc_, i64_w, i32_w]; rfl); refine pure_ (i := 44) (N := some 59) (v := (gv d6 (.pointer (some ⟨aA, 3, none⟩)))) (a' := ?_) (bz_ 74 35184372088831) rfl rfl (any_of HT_.out (by kernel_rfl)) (fun _ _ _ h => h) ?_ ?_ ?_
    ·cases d6 with
     | true => exact Or.inr ⟨by rfl, rfl⟩
     | false =>
      refine Or.inl ⟨by rfl, ?_⟩; intro w'
      try simp only [gv_t, gv_f, gp_t, gp_f]
      first | (go_simp; done) | (go_simp; with_reducible rfl) | (go_simp; rfl)
    rotate_left; (focus simp only [Act.put, sa_, sb_, sc_, i64_w, i32_w]; rfl); refine take_ (i := 45) (N := some 60) (v := (gv d6 (.agg #[.int .i64 x.f3.f0, .slice A4 x.f3.f1.length c4]))) (a' := ?_) (bz_ 74 70368744177663) rfl rfl (take_ofW HT_.out HW_.out (by kernel_rfl)) (fun _ _ _ h => h) ?_ hHeld ?_ ?_
    ·cases d6 with
     | true => exact Or.inr ⟨by rfl, rfl⟩
     | false =>
      refine Or.inl ⟨by rfl, ?_⟩; rintro w' ⟨s0, s1, s2, s3, s4, s5, s6, s7⟩
      try simp only [gv_t, gv_f, gp_t, gp_f]
      first | (go_simp; done) | (go_simp; with_reducible rfl) | (go_simp; rfl)
    rotate_left; (focus simp only [Act.put, sa_, sb_, sc_, i64_w, i32_w]; rfl); have hb := HB1.out; clear HB1 H0 H1 H2 H3 H4 H5 H6 E1 EG2 E2 E3 E4 E5 E6 HPX HQL HPOS
    cases d6 with
    | true =>
     rw [if_pos rfl] at hb; obtain rfl := Option.some.inj hb; clear hb; simp only [gv_t]; refine oN_ 46 61 74 140737488355327 HT_ (fun K hK => ?_); refine off_ (by rfl) ?_; refine hK.out _ _ hHeld (fun hHeld => ?_); clear hK K; refine norm_ (a' := ?_) ?_ ?_; rotate_left
     ·show Act.put _ (some 61) _ = _
      simp only [Act.put, sa_, sb_, sc_, i64_w, i32_w]; rfl
     refine pV_ 47 HT_ ?_; refine pure_ (i := 48) (N := some 63) (v := (.bool true)) (a' := ?_) (bz_ 74 562949953421311) rfl rfl (any_of HT_.out (by kernel_rfl)) (fun _ _ _ h => h) ?_ ?_ ?_
     ·refine Or.inl ⟨by rfl, ?_⟩; intro w'
      try simp only [gv_t, gv_f, gp_t, gp_f]
      first | (go_simp; done) | (go_simp; with_reducible rfl) | (go_simp; rfl)
     rotate_left; (focus simp only [Act.put, sa_, sb_, sc_, i64_w, i32_w]; rfl); refine pure_ (i := 49) (N := some 64) (v := (.bool true)) (a' := ?_) (bz_ 74 1125899906842623) rfl rfl (any_of HT_.out (by kernel_rfl)) (fun _ _ _ h => h) ?_ ?_ ?_
     ·refine Or.inl ⟨by rfl, ?_⟩; intro w'
      try simp only [gv_t, gv_f, gp_t, gp_f]
      first | (go_simp; done) | (go_simp; with_reducible rfl) | (go_simp; rfl)
     rotate_left; (focus simp only [Act.put, sa_, sb_, sc_, i64_w, i32_w]; rfl); refine up0_ 50 ?_; (iterate 4 refine vN_ ?_); refine pure_ (i := 54) (N := some 69) (v := (.bool true)) (a' := ?_) (bz_ 74 36028797018963967) rfl rfl (any_of HT_.out (by kernel_rfl)) (fun _ _ _ h => h) ?_ ?_ ?_
     ·refine Or.inl ⟨by rfl, ?_⟩; intro w'
      try simp only [gv_t, gv_f, gp_t, gp_f]
      first | (go_simp; done) | (go_simp; with_reducible rfl) | (go_simp; rfl)
     rotate_left; (focus simp only [Act.put, sa_, sb_, sc_, i64_w, i32_w]; rfl); refine pure_ (i := 55) (N := some 70) (v := (.bool true)) (a' := ?_) (bz_ 74 72057594037927935) rfl rfl (any_of HT_.out (by kernel_rfl)) (fun _ _ _ h => h) ?_ ?_ ?_
     ·refine Or.inl ⟨by rfl, ?_⟩; intro w'
      try simp only [gv_t, gv_f, gp_t, gp_f]
      first | (go_simp; done) | (go_simp; with_reducible rfl) | (go_simp; rfl)
     rotate_left; (focus simp only [Act.put, sa_, sb_, sc_, i64_w, i32_w]; rfl); refine pV_ 56 HT_ ?_; refine pV_ 57 HT_ ?_; refine pV_ 58 HT_ ?_; refine pure_ (i := 59) (N := some 74) (v := (.bool true)) (a' := ?_) (bz_ 74 1152921504606846975) rfl rfl (any_of HT_.out (by kernel_rfl)) (fun _ _ _ h => h) ?_ ?_ ?_
     ·refine Or.inl ⟨by rfl, ?_⟩; intro w'
      try simp only [gv_t, gv_f, gp_t, gp_f]
      first | (go_simp; done) | (go_simp; with_reducible rfl) | (go_simp; rfl)
     rotate_left; (focus simp only [Act.put, sa_, sb_, sc_, i64_w, i32_w]; rfl); refine pure_ (i := 60) (N := some 75) (v := (.bool true)) (a' := ?_) (bz_ 74 2305843009213693951) rfl rfl (any_of HT_.out (by kernel_rfl)) (fun _ _ _ h => h) ?_ ?_ ?_
     ·refine Or.inl ⟨by rfl, ?_⟩; intro w'
      try simp only [gv_t, gv_f, gp_t, gp_f]
      first | (go_simp; done) | (go_simp; with_reducible rfl) | (go_simp; rfl)
     rotate_left; (focus simp only [Act.put, sa_, sb_, sc_, i64_w, i32_w]; rfl); refine pV_ 61 HT_ ?_; refine pV_ 62 HT_ ?_; refine pV_ 63 HT_ ?_; refine pure_ (i := 64) (N := some 79) (v := (.bool true)) (a' := ?_) (bz_ 74 36893488147419103231) rfl rfl (any_of HT_.out (by kernel_rfl)) (fun _ _ _ h => h) ?_ ?_ ?_
     ·refine Or.inl ⟨by rfl, ?_⟩; intro w'
      try simp only [gv_t, gv_f, gp_t, gp_f]
      first | (go_simp; done) | (go_simp; with_reducible rfl) | (go_simp; rfl)
     rotate_left; (focus simp only [Act.put, sa_, sb_, sc_, i64_w, i32_w]; rfl); refine pure_ (i := 65) (N := some 80) (v := (.bool true)) (a' := ?_) (bz_ 74 73786976294838206463) rfl rfl (any_of HT_.out (by kernel_rfl)) (fun _ _ _ h => h) ?_ ?_ ?_
     ·refine Or.inl ⟨by rfl, ?_⟩; intro w'
      try simp only [gv_t, gv_f, gp_t, gp_f]
      first | (go_simp; done) | (go_simp; with_reducible rfl) | (go_simp; rfl)
     rotate_left; (focus simp only [Act.put, sa_, sb_, sc_, i64_w, i32_w]; rfl); refine up0_ 66 ?_; (iterate 7 refine vN_ ?_); refine pure_ (i := 73) (N := some 88) (v := (.bool true)) (a' := ?_) (bz_ 74 18889465931478580854783) rfl rfl (any_of HT_.out (by kernel_rfl)) (fun _ _ _ h => h) ?_ ?_ ?_
     ·refine Or.inl ⟨by rfl, ?_⟩; intro w'
      try simp only [gv_t, gv_f, gp_t, gp_f]
      first | (go_simp; done) | (go_simp; with_reducible rfl) | (go_simp; rfl)
     rotate_left; (focus simp only [Act.put, sa_, sb_, sc_, i64_w, i32_w]; rfl); refine dN_ HT_ ?_; (try go_wp2)
     go_meet
     case rel => exact ⟨by first | rfl | (simp; done), ⟨(hB_ HB)⟩⟩
    | false =>
     rw [if_neg (by decide)] at hb; obtain ⟨t, ht, hb2⟩ := Option.bind_eq_some_iff.1 hb; obtain ⟨d7, e7⟩ : ∃ d_, (!t) = d_ := ⟨_, rfl⟩; rw [e7] at hb2; obtain ⟨d8, e8⟩ : ∃ d_, (d7 || c8) = d_ := ⟨_, rfl⟩; rw [e8] at hb2; obtain ⟨d9, e9⟩ : ∃ d_, (d8 || c9) = d_ := ⟨_, rfl⟩; rw [e9] at hb2; obtain ⟨d10, e10⟩ : ∃ d_, (d9 || c10) = d_ := ⟨_, rfl⟩; obtain ⟨g11, eg11⟩ : ∃ d_, (al && c11) = d_ := ⟨_, rfl⟩; rw [e10, eg11] at hb2; have E11 := Zq_.mk (show (d10 || g11) = b from Option.some.inj hb2); have HT := Zq_.mk ht; have E7 := Zq_.mk e7; have E8 := Zq_.mk e8; have E9 := Zq_.mk e9; have E10 := Zq_.mk e10; have EG11 := Zq_.mk eg11; clear hb ht hb2 e7 e8 e9 e10 eg11; simp only [gv_f]; refine oN_ 46 61 74 140737488355327 HT_ (fun K hK => ?_); refine goes_ Try.func28 (by kernel_rfl) rfl #[.agg #[.int .i64 x.f3.f0, .slice A4 x.f3.f1.length c4]] (by rfl) rfl rfl (by (try simp only [List.map_toArray, List.map_cons, List.map_nil]); first | done | rfl) ?_; refine (ref10_Right.calls k x.f3.f0 A4 c4 x.f3.f1 t _ ?side1 HL4.out HT.out).mono ?_; (case side1 => exact HI7.out); rintro e w9 ⟨rfl, hb⟩; refine ⟨_, rfl, ?_⟩; have n0_ := Zq_.mk (blk_bel BK2.out hb); have n1_ := Zq_.mk (qe_ HB.out hb); have n2_ := Zq_.mk (show pos = true → w9.cell? (ad.add (q * 7)) = some (.int .i64 y.f0) from fun h_ => vb_ hb (HPREV.out h_)); clear BK2 HB HPREV; have BK2 := n0_; have HB := n1_; have HPREV := n2_; clear n0_ n1_ n2_ hb; refine hK.out _ _ ⟨b0_ BK2, b1_ BK2, b2_ BK2, b3_ BK2, b4_ BK2, b5_ BK2, b6_ BK2, HPREV.out⟩ (fun hHeld => ?_); clear hK K; refine norm_ (a' := ?_) ?_ ?_; rotate_left
     ·show Act.put _ (some 61) _ = _
      simp only [Act.put, sa_, sb_, sc_, i64_w, i32_w]; rfl
     refine pure_ (i := 47) (N := some 62) (v := (.bool d7)) (a' := ?_) (bz_ 74 281474976710655) rfl rfl (any_of HT_.out (by kernel_rfl)) (fun _ _ _ h => h) ?_ ?_ ?_
     ·refine Or.inl ⟨by rfl, ?_⟩; intro w'; have h_ := E7.out
      try simp only [gv_t, gv_f, gp_t, gp_f]
      first | (go_simp; done) | (go_simp; with_reducible rfl) | (go_simp; rfl)
     rotate_left; (focus simp only [Act.put, sa_, sb_, sc_, i64_w, i32_w]; rfl); refine pure_ (i := 48) (N := some 63) (v := (.bool d7)) (a' := ?_) (bz_ 74 562949953421311) rfl rfl (any_of HT_.out (by kernel_rfl)) (fun _ _ _ h => h) ?_ ?_ ?_
     ·refine Or.inl ⟨by rfl, ?_⟩; intro w'
      try simp only [gv_t, gv_f, gp_t, gp_f]
      first | (go_simp; done) | (go_simp; with_reducible rfl) | (go_simp; rfl)
     rotate_left; (focus simp only [Act.put, sa_, sb_, sc_, i64_w, i32_w]; rfl); refine pure_ (i := 49) (N := some 64) (v := (.bool d7)) (a' := ?_) (bz_ 74 1125899906842623) rfl rfl (any_of HT_.out (by kernel_rfl)) (fun _ _ _ h => h) ?_ ?_ ?_
     ·refine Or.inl ⟨by rfl, ?_⟩; intro w'
      try simp only [gv_t, gv_f, gp_t, gp_f]
      first | (go_simp; done) | (go_simp; with_reducible rfl) | (go_simp; rfl)
     rotate_left; (focus simp only [Act.put, sa_, sb_, sc_, i64_w, i32_w]; rfl); refine pure_ (i := 50) (N := some 65) (v := (gv d7 (.pointer (some ⟨aA, 3, none⟩)))) (a' := ?_) (bz_ 74 2251799813685247) rfl rfl (any_of HT_.out (by kernel_rfl)) (fun _ _ _ h => h) ?_ ?_ ?_
     ·cases d7 with
      | true => exact Or.inr ⟨by rfl, rfl⟩
      | false =>
       refine Or.inl ⟨by rfl, ?_⟩; intro w'
       try simp only [gv_t, gv_f, gp_t, gp_f]
       first | (go_simp; done) | (go_simp; with_reducible rfl) | (go_simp; rfl)
     rotate_left; (focus simp only [Act.put, sa_, sb_, sc_, i64_w, i32_w]; rfl); refine pure_ (i := 51) (N := some 66) (v := (gv d7 (.pointer (some ⟨aA, 3, none⟩)))) (a' := ?_) (bz_ 74 4503599627370495) rfl rfl (any_of HT_.out (by kernel_rfl)) (fun _ _ _ h => h) ?_ ?_ ?_
     ·cases d7 with
      | true => exact Or.inr ⟨by rfl, rfl⟩
      | false =>
       refine Or.inl ⟨by rfl, ?_⟩; intro w'
       try simp only [gv_t, gv_f, gp_t, gp_f]
       first | (go_simp; done) | (go_simp; with_reducible rfl) | (go_simp; rfl)
     rotate_left; (focus simp only [Act.put, sa_, sb_, sc_, i64_w, i32_w]; rfl); refine take_ (i := 52) (N := some 67) (v := (gv d7 (.int .i64 x.f3.f0))) (a' := ?_) (bz_ 74 9007199254740991) rfl rfl (take_ofW HT_.out HW_.out (by kernel_rfl)) (fun _ _ _ h => h) ?_ hHeld ?_ ?_
     ·cases d7 with
      | true => exact Or.inr ⟨by rfl, rfl⟩
      | false =>
       refine Or.inl ⟨by rfl, ?_⟩; rintro w' ⟨s0, s1, s2, s3, s4, s5, s6, s7⟩
       try simp only [gv_t, gv_f, gp_t, gp_f]
       first | (go_simp; done) | (go_simp; with_reducible rfl) | (go_simp; rfl)
     rotate_left; (focus simp only [Act.put, sa_, sb_, sc_, i64_w, i32_w]; rfl); refine pure_ (i := 53) (N := some 68) (v := (gv d7 (.bool c8))) (a' := ?_) (bz_ 74 18014398509481983) rfl rfl (any_of HT_.out (by kernel_rfl)) (fun _ _ _ h => h) ?_ ?_ ?_
     ·cases d7 with
      | true => exact Or.inr ⟨by rfl, rfl⟩
      | false =>
       refine Or.inl ⟨by rfl, ?_⟩; intro w'; have h_ := H8.out
       try simp only [gv_t, gv_f, gp_t, gp_f]
       first | (go_simp; done) | (go_simp; with_reducible rfl) | (go_simp; rfl)
     rotate_left; (focus simp only [Act.put, sa_, sb_, sc_, i64_w, i32_w]; rfl); refine pure_ (i := 54) (N := some 69) (v := .bool d8) (a' := ?_) (bz_ 74 36028797018963967) rfl rfl (any_of HT_.out (by kernel_rfl)) (fun _ _ _ h => h) ?_ ?_ ?_
     ·have e_ := E8.out
      cases d7 with
      | true =>
       have e_ : true = d8 := e_; subst e_; refine Or.inl ⟨by rfl, ?_⟩; intro w'
       try simp only [gv_t, gv_f, gp_t, gp_f]
       first | (go_simp; done) | (go_simp; with_reducible rfl) | (go_simp; rfl)
      | false =>
       have e_ : c8 = d8 := e_; subst e_; refine Or.inl ⟨by rfl, ?_⟩; intro w'
       try simp only [gv_t, gv_f, gp_t, gp_f]
       first | (go_simp; done) | (go_simp; with_reducible rfl) | (go_simp; rfl)
     rotate_left; (focus simp only [Act.put, sa_, sb_, sc_, i64_w, i32_w]; rfl); refine pure_ (i := 55) (N := some 70) (v := (.bool d8)) (a' := ?_) (bz_ 74 72057594037927935) rfl rfl (any_of HT_.out (by kernel_rfl)) (fun _ _ _ h => h) ?_ ?_ ?_
     ·refine Or.inl ⟨by rfl, ?_⟩; intro w'
      try simp only [gv_t, gv_f, gp_t, gp_f]
      first | (go_simp; done) | (go_simp; with_reducible rfl) | (go_simp; rfl)
     rotate_left; (focus simp only [Act.put, sa_, sb_, sc_, i64_w, i32_w]; rfl); refine pure_ (i := 56) (N := some 71) (v := (gv d8 (.pointer (some ⟨aA, 6, none⟩)))) (a' := ?_) (bz_ 74 144115188075855871) rfl rfl (any_of HT_.out (by kernel_rfl)) (fun _ _ _ h => h) ?_ ?_ ?_
     ·cases d8 with
      | true => exact Or.inr ⟨by rfl, rfl⟩
      | false =>
       refine Or.inl ⟨by rfl, ?_⟩; intro w'
       try simp only [gv_t, gv_f, gp_t, gp_f]
       first | (go_simp; done) | (go_simp; with_reducible rfl) | (go_simp; rfl)
     rotate_left; (focus simp only [Act.put, sa_, sb_, sc_, i64_w, i32_w]; rfl); refine take_ (i := 57) (N := some 72) (v := (gv d8 (.int .i64 x.f5))) (a' := ?_) (bz_ 74 288230376151711743) rfl rfl (take_ofW HT_.out HW_.out (by kernel_rfl)) (fun _ _ _ h => h) ?_ hHeld ?_ ?_
     ·cases d8 with
      | true => exact Or.inr ⟨by rfl, rfl⟩
      | false =>
       refine Or.inl ⟨by rfl, ?_⟩; rintro w' ⟨s0, s1, s2, s3, s4, s5, s6, s7⟩
       try simp only [gv_t, gv_f, gp_t, gp_f]
       first | (go_simp; done) | (go_simp; with_reducible rfl) | (go_simp; rfl)
     rotate_left; (focus simp only [Act.put, sa_, sb_, sc_, i64_w, i32_w]; rfl); refine pure_ (i := 58) (N := some 73) (v := (gv d8 (.bool c9))) (a' := ?_) (bz_ 74 576460752303423487) rfl rfl (any_of HT_.out (by kernel_rfl)) (fun _ _ _ h => h) ?_ ?_ ?_
     ·cases d8 with
      | true => exact Or.inr ⟨by rfl, rfl⟩
      | false =>
       refine Or.inl ⟨by rfl, ?_⟩; intro w'; have h_ := H9.out
       try simp only [gv_t, gv_f, gp_t, gp_f]
       first | (go_simp; done) | (go_simp; with_reducible rfl) | (go_simp; rfl)
     rotate_left; (focus simp only [Act.put, sa_, sb_, sc_, i64_w, i32_w]; rfl); refine pure_ (i := 59) (N := some 74) (v := .bool d9) (a' := ?_) (bz_ 74 1152921504606846975) rfl rfl (any_of HT_.out (by kernel_rfl)) (fun _ _ _ h => h) ?_ ?_ ?_
     ·have e_ := E9.out
      cases d8 with
      | true =>
       have e_ : true = d9 := e_; subst e_; refine Or.inl ⟨by rfl, ?_⟩; intro w'
       try simp only [gv_t, gv_f, gp_t, gp_f]
       first | (go_simp; done) | (go_simp; with_reducible rfl) | (go_simp; rfl)
      | false =>
       have e_ : c9 = d9 := e_; subst e_; refine Or.inl ⟨by rfl, ?_⟩; intro w'
       try simp only [gv_t, gv_f, gp_t, gp_f]
       first | (go_simp; done) | (go_simp; with_reducible rfl) | (go_simp; rfl)
     rotate_left; (focus simp only [Act.put, sa_, sb_, sc_, i64_w, i32_w]; rfl); refine pure_ (i := 60) (N := some 75) (v := (.bool d9)) (a' := ?_) (bz_ 74 2305843009213693951) rfl rfl (any_of HT_.out (by kernel_rfl)) (fun _ _ _ h => h) ?_ ?_ ?_
     ·refine Or.inl ⟨by rfl, ?_⟩; intro w'
      try simp only [gv_t, gv_f, gp_t, gp_f]
      first | (go_simp; done) | (go_simp; with_reducible rfl) | (go_simp; rfl)
     rotate_left; (focus simp only [Act.put, sa_, sb_, sc_, i64_w, i32_w]; rfl); refine pure_ (i := 61) (N := some 76) (v := (gv d9 (.pointer (some ⟨aA, 6, none⟩)))) (a' := ?_) (bz_ 74 4611686018427387903) rfl rfl (any_of HT_.out (by kernel_rfl)) (fun _ _ _ h => h) ?_ ?_ ?_
     ·cases d9 with
      | true => exact Or.inr ⟨by rfl, rfl⟩
      | false =>
       refine Or.inl ⟨by rfl, ?_⟩; intro w'
       try simp only [gv_t, gv_f, gp_t, gp_f]
       first | (go_simp; done) | (go_simp; with_reducible rfl) | (go_simp; rfl)
     rotate_left; (focus simp only [Act.put, sa_, sb_, sc_, i64_w, i32_w]; rfl); refine take_ (i := 62) (N := some 77) (v := (gv d9 (.int .i64 x.f5))) (a' := ?_) (bz_ 74 9223372036854775807) rfl rfl (take_ofW HT_.out HW_.out (by kernel_rfl)) (fun _ _ _ h => h) ?_ hHeld ?_ ?_
     ·cases d9 with
      | true => exact Or.inr ⟨by rfl, rfl⟩
      | false =>
       refine Or.inl ⟨by rfl, ?_⟩; rintro w' ⟨s0, s1, s2, s3, s4, s5, s6, s7⟩
       try simp only [gv_t, gv_f, gp_t, gp_f]
       first | (go_simp; done) | (go_simp; with_reducible rfl) | (go_simp; rfl)
     rotate_left; (focus simp only [Act.put, sa_, sb_, sc_, i64_w, i32_w]; rfl); refine pure_ (i := 63) (N := some 78) (v := (gv d9 (.bool c10))) (a' := ?_) (bz_ 74 18446744073709551615) rfl rfl (any_of HT_.out (by kernel_rfl)) (fun _ _ _ h => h) ?_ ?_ ?_
     ·cases d9 with
      | true => exact Or.inr ⟨by rfl, rfl⟩
      | false =>
       refine Or.inl ⟨by rfl, ?_⟩; intro w'; have h_ := H10.out
       try simp only [gv_t, gv_f, gp_t, gp_f]
       first | (go_simp; done) | (go_simp; with_reducible rfl) | (go_simp; rfl)
     rotate_left; (focus simp only [Act.put, sa_, sb_, sc_, i64_w, i32_w]; rfl); refine pure_ (i := 64) (N := some 79) (v := .bool d10) (a' := ?_) (bz_ 74 36893488147419103231) rfl rfl (any_of HT_.out (by kernel_rfl)) (fun _ _ _ h => h) ?_ ?_ ?_
     ·have e_ := E10.out
      cases d9 with
      | true =>
       have e_ : true = d10 := e_; subst e_; refine Or.inl ⟨by rfl, ?_⟩; intro w'
       try simp only [gv_t, gv_f, gp_t, gp_f]
       first | (go_simp; done) | (go_simp; with_reducible rfl) | (go_simp; rfl)
      | false =>
       have e_ : c10 = d10 := e_; subst e_; refine Or.inl ⟨by rfl, ?_⟩; intro w'
       try simp only [gv_t, gv_f, gp_t, gp_f]
       first | (go_simp; done) | (go_simp; with_reducible rfl) | (go_simp; rfl)
     rotate_left; (focus simp only [Act.put, sa_, sb_, sc_, i64_w, i32_w]; rfl); refine pure_ (i := 65) (N := some 80) (v := (.bool d10)) (a' := ?_) (bz_ 74 73786976294838206463) rfl rfl (any_of HT_.out (by kernel_rfl)) (fun _ _ _ h => h) ?_ ?_ ?_
     ·refine Or.inl ⟨by rfl, ?_⟩; intro w'
      try simp only [gv_t, gv_f, gp_t, gp_f]
      first | (go_simp; done) | (go_simp; with_reducible rfl) | (go_simp; rfl)
     rotate_left; (focus simp only [Act.put, sa_, sb_, sc_, i64_w, i32_w]; rfl); refine pure_ (i := 66) (N := some 81) (v := (gv d10 (.pointer (some ⟨aA, 5, none⟩)))) (a' := ?_) (bz_ 74 147573952589676412927) rfl rfl (any_of HT_.out (by kernel_rfl)) (fun _ _ _ h => h) ?_ ?_ ?_
     ·cases d10 with
      | true => exact Or.inr ⟨by rfl, rfl⟩
      | false =>
       refine Or.inl ⟨by rfl, ?_⟩; intro w'
       try simp only [gv_t, gv_f, gp_t, gp_f]
       first | (go_simp; done) | (go_simp; with_reducible rfl) | (go_simp; rfl)
     rotate_left; (focus simp only [Act.put, sa_, sb_, sc_, i64_w, i32_w]; rfl); refine take_ (i := 67) (N := some 82) (v := (gv d10 (.bool al))) (a' := ?_) (bz_ 74 295147905179352825855) rfl rfl (take_ofW HT_.out HW_.out (by kernel_rfl)) (fun _ _ _ h => h) ?_ hHeld ?_ ?_
     ·cases d10 with
      | true => exact Or.inr ⟨by rfl, rfl⟩
      | false =>
       refine Or.inl ⟨by rfl, ?_⟩; rintro w' ⟨s0, s1, s2, s3, s4, s5, s6, s7⟩
       try simp only [gv_t, gv_f, gp_t, gp_f]
       first | (go_simp; done) | (go_simp; with_reducible rfl) | (go_simp; rfl)
     rotate_left; (focus simp only [Act.put, sa_, sb_, sc_, i64_w, i32_w]; rfl); refine pure_ (i := 68) (N := some 83) (v := (gv d10 (.bool al))) (a' := ?_) (bz_ 74 590295810358705651711) rfl rfl (any_of HT_.out (by kernel_rfl)) (fun _ _ _ h => h) ?_ ?_ ?_
     ·cases d10 with
      | true => exact Or.inr ⟨by rfl, rfl⟩
      | false =>
       refine Or.inl ⟨by rfl, ?_⟩; intro w'
       try simp only [gv_t, gv_f, gp_t, gp_f]
       first | (go_simp; done) | (go_simp; with_reducible rfl) | (go_simp; rfl)
     rotate_left; (focus simp only [Act.put, sa_, sb_, sc_, i64_w, i32_w]; rfl); refine pure_ (i := 69) (N := some 84) (v := (gv d10 (gp al (.pointer (some ⟨aA, 6, none⟩))))) (a' := ?_) (bz_ 74 1180591620717411303423) rfl rfl (any_of HT_.out (by kernel_rfl)) (fun _ _ _ h => h) ?_ ?_ ?_
     ·cases d10 with
      | true => exact Or.inr ⟨by rfl, rfl⟩
      | false =>
       cases al with
       | false => exact Or.inr ⟨by rfl, rfl⟩
       | true =>
        refine Or.inl ⟨by rfl, ?_⟩; intro w'
        try simp only [gv_t, gv_f, gp_t, gp_f]
        first | (go_simp; done) | (go_simp; with_reducible rfl) | (go_simp; rfl)
     rotate_left; (focus simp only [Act.put, sa_, sb_, sc_, i64_w, i32_w]; rfl); refine take_ (i := 70) (N := some 85) (v := (gv d10 (gp al (.int .i64 x.f5)))) (a' := ?_) (bz_ 74 2361183241434822606847) rfl rfl (take_ofW HT_.out HW_.out (by kernel_rfl)) (fun _ _ _ h => h) ?_ hHeld ?_ ?_
     ·cases d10 with
      | true => exact Or.inr ⟨by rfl, rfl⟩
      | false =>
       cases al with
       | false => exact Or.inr ⟨by rfl, rfl⟩
       | true =>
        refine Or.inl ⟨by rfl, ?_⟩; rintro w' ⟨s0, s1, s2, s3, s4, s5, s6, s7⟩
        try simp only [gv_t, gv_f, gp_t, gp_f]
        first | (go_simp; done) | (go_simp; with_reducible rfl) | (go_simp; rfl)
     rotate_left; (focus simp only [Act.put, sa_, sb_, sc_, i64_w, i32_w]; rfl); refine pure_ (i := 71) (N := some 86) (v := (gv d10 (gp al (.bool c11)))) (a' := ?_) (bz_ 74 4722366482869645213695) rfl rfl (any_of HT_.out (by kernel_rfl)) (fun _ _ _ h => h) ?_ ?_ ?_
     ·cases d10 with
      | true => exact Or.inr ⟨by rfl, rfl⟩
      | false =>
       cases al with
       | false => exact Or.inr ⟨by rfl, rfl⟩
       | true =>
        refine Or.inl ⟨by rfl, ?_⟩; intro w'; have h_ := H11.out
        try simp only [gv_t, gv_f, gp_t, gp_f]
        first | (go_simp; done) | (go_simp; with_reducible rfl) | (go_simp; rfl)
     rotate_left; (focus simp only [Act.put, sa_, sb_, sc_, i64_w, i32_w]; rfl); refine pure_ (i := 72) (N := some 87) (v := gv d10 (.bool g11)) (a' := ?_) (bz_ 74 9444732965739290427391) rfl rfl (any_of HT_.out (by kernel_rfl)) (fun _ _ _ h => h) ?_ ?_ ?_
     ·have e_ := EG11.out
      cases d10 with
      | true => exact Or.inr ⟨by rfl, rfl⟩
      | false =>
       cases al with
       | true =>
        have e_ : c11 = g11 := e_; subst e_; refine Or.inl ⟨by rfl, ?_⟩; intro w'
        try simp only [gv_t, gv_f, gp_t, gp_f]
        first | (go_simp; done) | (go_simp; with_reducible rfl) | (go_simp; rfl)
       | false =>
        have e_ : false = g11 := e_; subst e_; refine Or.inl ⟨by rfl, ?_⟩; intro w'
        try simp only [gv_t, gv_f, gp_t, gp_f]
        first | (go_simp; done) | (go_simp; with_reducible rfl) | (go_simp; rfl)
     rotate_left; (focus simp only [Act.put, sa_, sb_, sc_, i64_w, i32_w]; rfl); refine pure_ (i := 73) (N := some 88) (v := .bool b) (a' := ?_) (bz_ 74 18889465931478580854783) rfl rfl (any_of HT_.out (by kernel_rfl)) (fun _ _ _ h => h) ?_ ?_ ?_
     ·have e_ := E11.out
      cases d10 with
      | true =>
       have e_ : true = b := e_; subst e_; refine Or.inl ⟨by rfl, ?_⟩; intro w'
       try simp only [gv_t, gv_f, gp_t, gp_f]
       first | (go_simp; done) | (go_simp; with_reducible rfl) | (go_simp; rfl)
      | false =>
       have e_ : g11 = b := e_; subst e_; refine Or.inl ⟨by rfl, ?_⟩; intro w'
       try simp only [gv_t, gv_f, gp_t, gp_f]
       first | (go_simp; done) | (go_simp; with_reducible rfl) | (go_simp; rfl)
     rotate_left; (focus simp only [Act.put, sa_, sb_, sc_, i64_w, i32_w]; rfl); refine dN_ HT_ ?_; (try go_wp2)
     go_meet
     case rel => exact ⟨by first | rfl | (simp; done), ⟨(hB_ HB)⟩⟩
   case rest =>
    clear HB HBAD; obtain ⟨rfl, HB⟩ := hcut; have h := HGO.out
    cases b with
    | true =>
     rw [if_pos rfl] at h; obtain rfl := Option.some.inj h; clear h HGO
     go_wp2
     go_ret
     exact ⟨rfl, HB.out⟩
    | false =>
     rw [if_neg (by decide)] at h; have H9 := Zq_.mk h; clear h HGO
     go_wp2
     go_roundg (l0.length - i)
     case measure => have := HI.out.2; have := HII.out; omega
     case rel => exact ⟨i + 1, by first | rfl | exact congrArg (Value.int .i64) HWR.out, ⟨by have := HII.out; omega, by have := HI.out.2; have := HII.out; omega⟩, H9, HB⟩
  ·have hi2 : i = l0.length := by have := HI.out.1; omega
   subst hi2; have h := HL.out; rw [Nat.sub_self, ref22_Right.go] at h; obtain rfl := Option.some.inj h; clear h HL hi
   go_wp2
   go_ret
   exact ⟨rfl, HB.out⟩
end Go.Proofs.Ytoghjpoblbdnpaa.P

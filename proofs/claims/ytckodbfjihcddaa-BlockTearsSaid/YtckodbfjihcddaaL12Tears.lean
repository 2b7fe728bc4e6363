/- BlockTears: the law's walk where it answers true. No condition. -/
import Derived.Test.YtckodbfjihcddaaSecM
import Derived.Test.YtckodbfjihcddaaPBlockGet
import Derived.Test.YtckodbfjihcddaaPBlockNew
import Derived.Test.YtckodbfjihcddaaPBlockSame
namespace Go.Proofs.Ytckodbfjihcddaa.P
open Go.RowKit Go.Proofs.YtckodbfjihcddaaW.PrintWords Go.Proofs.YtckodbfjihcddaaW.PrintLast Go.Proofs.YtckodbfjihcddaaW.PrintMore Go.Proofs.YtckodbfjihcddaaW.Hw
attribute [local go_sem] max2_int min2_int max_two min_two max_three min_three max_four min_four Go.Proofs.YtckodbfjihcddaaW.Hw.string_gtr
set_option linter.unusedVariables false
set_option linter.unusedSimpArgs false
/-- What the script leaves: the disk's sectors, the bytes that are left. -/
def law12_BlockTears.go : List S42 → List S26 → Int → Option Bool
 | [], _, _ => some true
 | y :: ys, ls, left => if 0 ≤ y.f0 ∧ y.f0 ≤ 255 then
   (block_Put.f ls left false (Int.tmod y.f0 4) y.f1).bind fun p =>
    if left < 64 then (block_Wake.f p.1 p.2.1 p.2.2.1).bind fun q =>
     some (decide ((ls.set (Int.tmod y.f0 4).toNat (tear y.f1 left.toNat), -1, true, 9) = p) && (decide ((ls.set (Int.tmod y.f0 4).toNat (tear y.f1 left.toNat), -1, false, 0) = q) && (List.range 4).all (fun k => decide (block_Get.f (ls.set (Int.tmod y.f0 4).toNat (tear y.f1 left.toNat)) (-1) false k = some ((ls.set (Int.tmod y.f0 4).toNat (tear y.f1 left.toNat)).getD k z26, 0)))))
    else if (ls.set (Int.tmod y.f0 4).toNat y.f1, left - 64, false, 0) = p then law12_BlockTears.go ys (ls.set (Int.tmod y.f0 4).toNat y.f1) (left - 64) else some false
  else none
def law12_BlockTears.f (l0 : List S42) (a1 : Int) : Option Bool := if 0 ≤ a1 ∧ a1 ≤ 65535 then (if (l0.length : Int) > 100 then some true else (block_New.f 4).bind fun n => (block_Arm.f n.1 n.2.1 n.2.2.1 a1).bind fun m => if ([z26, z26, z26, z26], -1, false, 0) = n ∧ ([z26, z26, z26, z26], a1, false, 0) = m then law12_BlockTears.go l0 m.1 a1 else some false) else none
theorem one_of_map {x : List Int} {q : Value} (hq : q ∈ (aggN .u8 x).cells.toList) : q.oneCell' = true := by
 have hq' : q ∈ x.map (Value.int .u8) := hq
 obtain ⟨a, _, rfl⟩ := List.mem_map.1 hq'
 rfl
theorem one_of_int {n : Int} {q : Value} (hq : q ∈ (Value.int .u8 n).cells.toList) : q.oneCell' = true := by
 have hq' : q ∈ [Value.int .u8 n] := hq
 rw [List.mem_singleton] at hq'; subst hq'; rfl
theorem agg_cells (x : List Int) : (aggN .u8 x).cells.toList.length = x.length := by
 show (x.map (Value.int .u8)).length = x.length
 rw [List.length_map]
theorem set_64 {l : List S26} {i : Nat} {x : S26} (h : ∀ y ∈ l, y.length = 64) (hx : x.length = 64) : ∀ y ∈ l.set i x, y.length = 64 := by
 intro y hy
 rcases List.mem_or_eq_of_mem_set hy with hy | rfl
 ·exact h y hy
 ·exact hx
theorem getD_eq {α : Type} {l : List α} {i : Nat} (h : i < l.length) (a b : α) : l.getD i a = l.getD i b := by
 rw [List.getD_eq_getElem?_getD, List.getD_eq_getElem?_getD, List.getElem?_eq_getElem h]; rfl
theorem law12_BlockTears.drop_at {l : List S42} {i : Nat} (h : i < l.length) : l.drop i = l.getD i z42 :: l.drop (i + 1) := by
 rw [List.drop_eq_getElem_cons h, List.getD_eq_getElem?_getD, List.getElem?_eq_getElem h]; rfl
set_option maxHeartbeats 8000000 in
set_option maxRecDepth 100000 in
theorem law12_BlockTears.calls (A0 : Option Addr) (c0 : Nat) (l0 : List S42) (a1 : Int) (r : Bool) (w : World) (hr0 : Kd.C k42 w A0 l0.length l0) (hc0 : l0.length ≤ c0) (h : law12_BlockTears.f l0 a1 = some r) (hrt : r = true) :
  Calls Try.prog 4 #[.slice A0 l0.length c0, .int .u16 a1] w fun e w' => e = .returned (.bool true) ∧ Below w.heap.size w w' := by
 have hu24 := Try.underlying24
 have hu26 := Try.underlying26
 have hu5 := Try.underlying5
 obtain ⟨ti, hti, _⟩ := Option.map_eq_some_iff.1 info5
 have hu40 := Try.underlying40
 unfold law12_BlockTears.f at h
 by_cases ha : 0 ≤ a1 ∧ a1 ≤ 65535
 case neg => rw [if_neg ha] at h; cases h
 rw [if_pos ha] at h
 have HA := Zq_.mk ha
 have HR := Zq_.mk hr0
 have HLM := Zq_.mk hr0.2.1
 clear hr0
 have hw1 : IntKind.i64.wrap a1 = a1 := by rw [i64_w]; unfold wrap64; omega
 clear ha
 have S0 := Zq_.mk (St.start w)
 by_cases hn : (l0.length : Int) > 100
 case pos =>
  rw [if_pos hn] at h
  have hn1 : decide ((l0.length : Int) > 100) = true := decide_eq_true hn
  have hn2 : ((l0.length : Int) > 100) = True := eq_true hn
  go_enter Try.func4, Try.ntmps4
  go_wp2_with (first | (go_at_call 8; refine (law12_alive.holds _).mono ?_; rintro e_ w1 ⟨rfl, hb_⟩; have S1 := Zq_.mk (S0.out.step hb_); clear S0 hb_))
  go_ret
  exact ⟨rfl, S1.out.1⟩
 rw [if_neg hn] at h
 have hn1 : decide ((l0.length : Int) > 100) = false := decide_eq_false hn
 have hn2 : ((l0.length : Int) > 100) = False := eq_false hn
 obtain ⟨⟨n1, n2, n3, n4⟩, h1, h⟩ := Option.bind_eq_some_iff.1 h
 obtain ⟨⟨m1, m2, m3, m4⟩, h2, h⟩ := Option.bind_eq_some_iff.1 h
 by_cases hq : ([z26, z26, z26, z26], -1, false, 0) = (n1, n2, n3, n4) ∧ ([z26, z26, z26, z26], a1, false, 0) = (m1, m2, m3, m4)
 case neg => rw [if_neg hq] at h; exact absurd ((Option.some.inj h).trans hrt) (by decide)
 rw [if_pos hq] at h
 simp only [Prod.mk.injEq] at hq
 obtain ⟨⟨e1, rfl, rfl, rfl⟩, e2, rfl, rfl, rfl⟩ := hq
 have E2 := Zq_.mk e2
 clear e1 e2
 subst hrt
 have HGO := Zq_.mk h
 clear h
 go_enter Try.func4, Try.ntmps4
 go_upto_region 6 with (first | (go_at_call 8; refine (law12_alive.holds _).mono ?_; rintro e_ w1 ⟨rfl, hb_⟩; have S1 := Zq_.mk (S0.out.step hb_); clear S0 hb_) | (go_at_call 17; refine (block_New.calls 4 _ _ _ _ _ h1).mono ?_; rintro e_ w2 ⟨v_, rfl, hv_, hb_⟩; obtain ⟨A2, c2, rfl⟩ := Kd.R_slice hv_; have S2 := Zq_.mk (S1.out.made hb_ hv_); clear S1 hv_ hb_) | ((with_reducible refine qc_ (N := 5) rfl ?_); refine alloc_store rfl (N := 5) rfl (cs := #[.slice none 0 0, .int .i64 0, .bool false]) (cs' := #[.slice A2 n1.length c2, .int .i64 (-1), .bool false]) (t := 24) ?hr rfl rfl (.tmp 25) rfl ?hp ?hx (by kernel_rfl) rfl (disk_one ..) ?_; (case hr => first | (go_simp; done) | (go_simp; rfl)); (case hp => intro v_; first | rfl | (go_simp; done)); (case hx => intro v_; first | rfl | (go_simp; done) | (go_simp; rfl)); intro g3 hg_ w3 hk_ hb_; have S3 := Zq_.mk (S2.out.box hb_ hg_ hk_); clear S2 hb_ hg_ hk_))
 go_upto_region 9 with (first | ((with_reducible refine qc_ (N := 28) rfl ?_); refine load_box rfl 24 (.tmp 5) rfl ?lp (S3.out.bk 0 rfl) hu24 rfl (by kernel_rfl) ?_; (case lp => first | rfl | (go_simp; done) | (go_simp; rfl))) | (go_at_call 14; refine (block_Arm.calls _ A2 c2 n1 (-1) false a1 _ _ _ _ _ (S3.out.lies 0 rfl) h2).mono ?_; rintro e_ w4 ⟨v_, rfl, hv_, hb_⟩; obtain ⟨A4, c4, rfl⟩ := Kd.V_slice hv_; have S4 := Zq_.mk (S3.out.got hb_ hv_); clear S3 hv_ hb_) | ((with_reducible refine gate_store (t := 24) (p := 5) rfl ?_); refine store_whole rfl rfl 24 (.tmp 5) (.tmp 32) rfl (g := g3) (c := #[.slice A2 n1.length c2, .int .i64 (-1), .bool false]) (c' := #[.slice A4 m1.length c4, .int .i64 a1, .bool false]) ?sp ?sx (S4.out.bk 0 rfl) (by kernel_rfl) rfl (disk_one ..) ?_; (case sp => first | rfl | (go_simp; done) | (go_simp; rfl)); (case sx => first | rfl | (go_simp; done) | (go_simp; rfl)); intro w5 hw_; have S5 := Zq_.mk (show St w w5 _ _ from by rw [hw_]; exact S4.out.row 0 rfl _); clear S4 hw_))
 go_upto_block 0 with (first | ((with_reducible refine qc_ (N := 8) rfl ?_); refine box_event ?hg (N := 8) ?hd (cs := want m1) (t := 40) ?hr ?_; (case hd => rfl); (case hg => rfl); (case hr => rw [← E2.out]; first | (go_simp; done) | (go_simp; rfl)); intro g6 hg_ w6 hk_ hb_; have S6 := Zq_.mk (S5.out.box hb_ (Nat.le_of_eq hg_.symm) hk_); clear S5 hb_ hg_ hk_))
 have S_ := Zq_.mk (show St w w6 [(g6, 40, want m1), (g3, 24, #[.slice A4 m1.length c4, .int .i64 a1, .bool false])] [(.slice A4 m1.length c4, m1)] from ⟨S6.out.1, S6.out.2.1, S6.out.2.2.1, fun d hd => S6.out.2.2.2 d (by simp only [List.mem_singleton] at hd; subst hd; simp)⟩)
 have HM := Zq_.mk (show m1.length = 4 ∧ ∀ x ∈ m1, x.length = 64 from ⟨by rw [← E2.out]; rfl, fun x hx => S_.out.sect 0 rfl x hx⟩)
 clear S6
 go_wp2
 go_loopg [9, 10] (l0.length + 1) (fun kq v9 v10 w' => ∃ (i : Nat) (ls : List S26) (left : Int) (A : Option Addr) (c : Nat), v9 = .int .i64 left ∧ v10 = .int .i64 (i : Int) ∧ Zq_ (i ≤ l0.length ∧ kq + i = l0.length + 1) ∧ Zq_ (law12_BlockTears.go (l0.drop i) ls left = some true) ∧ Zq_ (0 ≤ left ∧ left ≤ 65535) ∧ Zq_ (ls.length = 4 ∧ ∀ x ∈ ls, x.length = 64) ∧ Zq_ (St w w' [(g6, 40, want ls), (g3, 24, #[.slice A ls.length c, .int .i64 left, .bool false])] [(.slice A ls.length c, ls)]))
 case atStart => exact ⟨0, m1, a1, A4, c4, by first | rfl | (simp; done), by first | rfl | (simp; done), ⟨by omega, by omega⟩, ⟨by rw [List.drop_zero]; exact HGO.out⟩, HA, HM, S_⟩
 case round =>
  clear S_ HGO HA HM E2 hw1
  obtain ⟨i, ls, left, A, c, rfl, rfl, HI, HGO, HA, HM, S0⟩ := hrel
  by_cases hi : i < l0.length
  ·skip
   have h := HGO.out
   rw [law12_BlockTears.drop_at hi, law12_BlockTears.go] at h
   have HII := Zq_.mk hi
   obtain ⟨ad, hA, hyl, hyc, _⟩ := elem42 (Kd.C_below HR.out S0.out.1) i hi
   subst hA
   generalize hy : l0.getD i z42 = y at h hyl hyc
   have HY := Zq_.mk hy
   have HYL := Zq_.mk hyl
   clear hy
   by_cases hb : 0 ≤ y.f0 ∧ y.f0 ≤ 255
   case neg => rw [if_neg hb] at h; cases h
   rw [if_pos hb] at h
   obtain ⟨⟨p1, p2, p3, p4⟩, hp, h⟩ := Option.bind_eq_some_iff.1 h
   obtain ⟨k, hk⟩ : ∃ k : Nat, Int.tmod y.f0 4 = (k : Int) := ⟨(Int.tmod y.f0 4).toNat, by rw [Int.tmod_eq_emod_of_nonneg hb.1]; omega⟩
   have HK := Zq_.mk (show k < 4 by rw [Int.tmod_eq_emod_of_nonneg hb.1] at hk; omega)
   simp only [hk, Int.toNat_natCast] at h hp
   have HP := Zq_.mk hp
   have HH := Zq_.mk h
   have hw1 : IntKind.i64.wrap y.f0 = y.f0 := by rw [i64_w]; unfold wrap64; omega
   have hw2 : IntKind.i64.wrap ((i : Int) + 1) = ((i + 1 : Nat) : Int) := by have := HLM.out; rw [i64_w]; unfold wrap64; omega
   have HW2 := Zq_.mk hw2
   clear hp h hb hw2 HGO hi
   have hi := HII.out
   have j1 : decide ((i : Int) < (l0.length : Int)) = true := decide_eq_true (by omega)
   have j2 : ((i : Int) < (l0.length : Int)) = True := eq_true (by omega)
   have j3 : (i < l0.length) = True := eq_true hi
   have j4 : decide (i < l0.length) = true := decide_eq_true hi
   have j5 : (l0.length ≤ i) = False := eq_false (by omega)
   clear hi
   go_upto_region 15 with fail
   clear j1 j2 j3 j4 j5 hw1 hk hyc
   have HEL : Zq_ (∀ W : World, Below w.heap.size w W → (∀ j v, (y.f1.map (Value.int .u8))[j]? = some v → W.cell? ((ad.add (i * 65 + 1)).add j) = some v)) := ⟨fun W hb j v hj => by obtain ⟨ad_, hA_, _, _, hyc⟩ := elem42 (Kd.C_below HR.out hb) i HII.out; cases hA_; rw [HY.out] at hyc; exact hyc j v hj⟩
   have n0_ := Zq_.mk S0.out.drew
   clear S0
   have S0 := n0_
   clear n0_
   refine start_ (n := 14) (S := fun W => W.heap[g3]? = some (.cells #[.slice A ls.length c, .int .i64 left, .bool false] 24 (0, 0)) ∧ (∀ j v, (y.f1.map (Value.int .u8))[j]? = some v → W.cell? ((ad.add (i * 65 + 1)).add j) = some v)) (ds := []) #[false,false,false,false,false,false,false,false,false,false,false,false,false,false] (by kernel_rfl) rfl rfl ⟨S0.out.bk 1 rfl, HEL.out _ S0.out.1⟩ (fun hHeld => ?_)
   generalize hw_ : World.drew _ = w7 at S0 hHeld ⊢
   clear hw_
   refine take_ (i := 0) (N := some 56) (v := (.agg #[.slice A ls.length c, .int .i64 left, .bool false])) (a' := ?_) #[true,false,false,false,false,false,false,false,false,false,false,false,false,false] rfl rfl (by kernel_rfl) (fun _ _ _ h => h) ?_ hHeld ?_ ?_
   ·refine Or.inl ⟨by rfl, ?_⟩
    rintro w' ⟨s0, s1⟩
    exact exec_load_box rfl (by first | rfl | (go_simp; done) | (go_simp; rfl)) s0 hu24 rfl (by kernel_rfl)
   rotate_left
   ·simp only [Act.put, sa_, sb_, sc_, i64_w, i32_w]
    rfl
   refine pure_ (i := 1) (N := some 57) (v := (.int .i64 (k : Int))) (a' := ?_) #[true,true,false,false,false,false,false,false,false,false,false,false,false,false] rfl rfl (by kernel_rfl) (fun _ _ _ h => h) ?_ ?_ ?_
   ·refine Or.inl ⟨by rfl, ?_⟩
    intro w'
    first | (go_simp; done) | (go_simp; with_reducible rfl) | (go_simp; rfl)
   rotate_left
   ·simp only [Act.put, sa_, sb_, sc_, i64_w, i32_w]
    rfl
   refine pure_ (i := 2) (N := some 58) (v := (.slice (some ad) l0.length c0)) (a' := ?_) #[true,true,true,false,false,false,false,false,false,false,false,false,false,false] rfl rfl (by kernel_rfl) (fun _ _ _ h => h) ?_ ?_ ?_
   ·refine Or.inl ⟨by rfl, ?_⟩
    intro w'
    first | (go_simp; done) | (go_simp; with_reducible rfl) | (go_simp; rfl)
   rotate_left
   ·simp only [Act.put, sa_, sb_, sc_, i64_w, i32_w]
    rfl
   refine pure_ (i := 3) (N := some 59) (v := (.int .i64 (i : Int))) (a' := ?_) #[true,true,true,true,false,false,false,false,false,false,false,false,false,false] rfl rfl (by kernel_rfl) (fun _ _ _ h => h) ?_ ?_ ?_
   ·refine Or.inl ⟨by rfl, ?_⟩
    intro w'
    first | (go_simp; done) | (go_simp; with_reducible rfl) | (go_simp; rfl)
   rotate_left
   ·simp only [Act.put, sa_, sb_, sc_, i64_w, i32_w]
    rfl
   refine pure_ (i := 4) (N := some 60) (v := (.pointer (some (ad.add (i * 65))))) (a' := ?_) #[true,true,true,true,true,false,false,false,false,false,false,false,false,false] rfl rfl (by kernel_rfl) (fun _ _ _ h => h) ?_ ?_ ?_
   ·refine Or.inl ⟨by rfl, ?_⟩
    intro w'
    have hi_ := HII.out
    have j1 : decide ((i : Int) < (l0.length : Int)) = true := decide_eq_true (by omega)
    have j2 : ((i : Int) < (l0.length : Int)) = True := eq_true (by omega)
    have j3 : (i < l0.length) = True := eq_true (by omega)
    have j4 : decide (i < l0.length) = true := decide_eq_true (by omega)
    have j5 : (l0.length ≤ i) = False := eq_false (by omega)
    clear hi_
    first | (go_simp; done) | (go_simp; with_reducible rfl) | (go_simp; rfl)
   rotate_left
   ·simp only [Act.put, sa_, sb_, sc_, i64_w, i32_w]
    rfl
   refine pure_ (i := 5) (N := some 61) (v := (.pointer (some (ad.add (i * 65 + 1))))) (a' := ?_) #[true,true,true,true,true,true,false,false,false,false,false,false,false,false] rfl rfl (by kernel_rfl) (fun _ _ _ h => h) ?_ ?_ ?_
   ·refine Or.inl ⟨by rfl, ?_⟩
    intro w'
    rw [add_pos ad (show i * 65 + 1 ≠ 0 by omega)]; first | (go_simp; done) | (go_simp; exact ⟨add_block _ _, by rw [add_off]; omega⟩) | (go_simp; rw [add_block, add_off]; done)
   rotate_left
   ·simp only [Act.put, sa_, sb_, sc_, i64_w, i32_w]
    rfl
   refine take_ (i := 6) (N := some 62) (v := (aggN .u8 y.f1)) (a' := ?_) #[true,true,true,true,true,true,true,false,false,false,false,false,false,false] rfl rfl (by kernel_rfl) (fun _ _ _ h => h) ?_ hHeld ?_ ?_
   ·refine Or.inl ⟨by rfl, ?_⟩
    rintro w' ⟨s0, s1⟩
    exact exec_load_elem rfl (by first | rfl | (go_simp; done) | (go_simp; rfl)) s1 hu26 (by rw [HYL.out]; kernel_rfl)
   rotate_left
   ·simp only [Act.put, sa_, sb_, sc_, i64_w, i32_w]
    rfl
   refine join_ (σ := Option Addr × Nat × Nat) 2 #[true,true,true,true,true,true,true,true,true,true,true,true,false,false] (fun s_ => [(63, .tuple #[.agg #[.slice s_.1 p1.length s_.2.1, .int .i64 p2, .bool p3], .int .i64 p4]), (55, .tuple #[.agg #[.slice s_.1 p1.length s_.2.1, .int .i64 p2, .bool p3], .int .i64 p4]), (64, .agg #[.slice s_.1 p1.length s_.2.1, .int .i64 p2, .bool p3]), (65, .int .i64 p4), (12, .pointer (some ⟨s_.2.2, 0, none⟩))]) (fun s_ W => (W.heap[g3]? = some (.cells #[.slice A ls.length c, .int .i64 left, .bool false] 24 (0, 0)) ∧ (∀ j v, (y.f1.map (Value.int .u8))[j]? = some v → W.cell? ((ad.add (i * 65 + 1)).add j) = some v)) ∧ St w W ((s_.2.2, 24, #[.slice none 0 0, .int .i64 0, .bool false]) :: [(g6, 40, want ls), (g3, 24, #[.slice A ls.length c, .int .i64 left, .bool false])]) [(.slice s_.1 p1.length s_.2.1, p1), (.slice A ls.length c, ls)]) ?_ ?_
   rotate_left
   ·intro hCont
    refine two_ (i := 7) (j := 11) (Ni := some 63) (Nj := some 12) #[true,true,true,true,true,true,true,true,false,false,false,false,false,false] #[true,true,true,true,true,true,true,false,false,false,false,true,false,false] rfl rfl rfl rfl (by kernel_rfl) (by decide) (by decide) (fun K hK => ?_) (fun K hK => ?_)
    ·skip
     refine goes_ Try.func10 (by kernel_rfl) rfl #[.agg #[.slice A ls.length c, .int .i64 left, .bool false], .int .i64 (k : Int), aggN .u8 y.f1] (by rfl) rfl rfl (by (try simp only [List.map_toArray, List.map_cons, List.map_nil]); first | done | rfl) ?_
     with_reducible refine (block_Put.calls _ A c ls left false (k : Int) y.f1 _ _ _ _ _ (S0.out.lies 0 rfl) HYL.out HP.out).mono ?_
     rintro e_ w8 ⟨v_, rfl, hv_, hb_⟩
     refine ⟨_, rfl, ?_⟩
     obtain ⟨A8, c8, rfl⟩ := Kd.V_slice hv_
     have S1 := Zq_.mk (S0.out.got hb_ hv_)
     clear hv_ hb_
     refine hK.out _ _ ⟨S1.out.bk 1 rfl, HEL.out _ S1.out.1⟩ (fun hHeld => ?_)
     clear hK K
     refine norm_ (a' := ?_) ?_ ?_
     rotate_left
     ·show Act.put _ (some 63) _ = _
      simp only [Act.put, sa_, sb_, sc_, i64_w, i32_w]
      rfl
     refine pure_ (i := 8) (N := some 55) (v := (.tuple #[.agg #[.slice A8 p1.length c8, .int .i64 p2, .bool p3], .int .i64 p4])) (a' := ?_) #[true,true,true,true,true,true,true,true,true,false,false,false,false,false] rfl rfl (by kernel_rfl) (fun _ _ _ h => h) ?_ ?_ ?_
     ·refine Or.inl ⟨by rfl, ?_⟩
      intro w'
      first | (go_simp; done) | (go_simp; with_reducible rfl) | (go_simp; rfl)
     rotate_left
     ·simp only [Act.put, sa_, sb_, sc_, i64_w, i32_w]
      rfl
     refine pure_ (i := 9) (N := some 64) (v := (.agg #[.slice A8 p1.length c8, .int .i64 p2, .bool p3])) (a' := ?_) #[true,true,true,true,true,true,true,true,true,true,false,false,false,false] rfl rfl (by kernel_rfl) (fun _ _ _ h => h) ?_ ?_ ?_
     ·refine Or.inl ⟨by rfl, ?_⟩
      intro w'
      first | (go_simp; done) | (go_simp; with_reducible rfl) | (go_simp; rfl)
     rotate_left
     ·simp only [Act.put, sa_, sb_, sc_, i64_w, i32_w]
      rfl
     refine pure_ (i := 10) (N := some 65) (v := (.int .i64 p4)) (a' := ?_) #[true,true,true,true,true,true,true,true,true,true,true,false,false,false] rfl rfl (by kernel_rfl) (fun _ _ _ h => h) ?_ ?_ ?_
     ·refine Or.inl ⟨by rfl, ?_⟩
      intro w'
      first | (go_simp; done) | (go_simp; with_reducible rfl) | (go_simp; rfl)
     rotate_left
     ·simp only [Act.put, sa_, sb_, sc_, i64_w, i32_w]
      rfl
     refine one_ (i := 11) (N := some 12) #[true,true,true,true,true,true,true,true,true,true,true,true,false,false] rfl rfl (by kernel_rfl) (by decide) (fun K hK => ?_)
     refine box_step ?hg (N := 12) ?hd (cs := #[.slice none 0 0, .int .i64 0, .bool false]) (t := 24) ?hr ?_; (case hd => rfl); (case hg => rfl); (case hr => first | (go_simp; done) | (go_simp; rfl))
     intro g9 hg_ w9 hk_ hb_
     have S2 := Zq_.mk (S1.out.box hb_ (Nat.le_of_eq hg_.symm) hk_)
     clear hg_ hk_ hb_
     refine hK.out _ _ ⟨S2.out.bk 2 rfl, HEL.out _ S2.out.1⟩ (fun hHeld => ?_)
     clear hK K
     refine norm_ (a' := ?_) ?_ ?_
     rotate_left
     ·show Act.put _ (some 12) _ = _
      simp only [Act.put, sa_, sb_, sc_, i64_w, i32_w]
      rfl
     exact norm_ (by simp only [putAll, Act.put, sa_, sb_, sc_]) (hCont (A8, c8, g9) _ ⟨hHeld, S2.out⟩)
    ·skip
     refine box_step ?hg (N := 12) ?hd (cs := #[.slice none 0 0, .int .i64 0, .bool false]) (t := 24) ?hr ?_; (case hd => rfl); (case hg => rfl); (case hr => first | (go_simp; done) | (go_simp; rfl))
     intro g9 hg_ w8 hk_ hb_
     have S1 := Zq_.mk (S0.out.box hb_ (Nat.le_of_eq hg_.symm) hk_)
     clear hg_ hk_ hb_
     refine hK.out _ _ ⟨S1.out.bk 2 rfl, HEL.out _ S1.out.1⟩ (fun hHeld => ?_)
     clear hK K
     refine norm_ (a' := ?_) ?_ ?_
     rotate_left
     ·show Act.put _ (some 12) _ = _
      simp only [Act.put, sa_, sb_, sc_, i64_w, i32_w]
      rfl
     refine one_ (i := 7) (N := some 63) #[true,true,true,true,true,true,true,true,false,false,false,true,false,false] rfl rfl (by kernel_rfl) (by decide) (fun K hK => ?_)
     refine goes_ Try.func10 (by kernel_rfl) rfl #[.agg #[.slice A ls.length c, .int .i64 left, .bool false], .int .i64 (k : Int), aggN .u8 y.f1] (by rfl) rfl rfl (by (try simp only [List.map_toArray, List.map_cons, List.map_nil]); first | done | rfl) ?_
     with_reducible refine (block_Put.calls _ A c ls left false (k : Int) y.f1 _ _ _ _ _ (S1.out.lies 0 rfl) HYL.out HP.out).mono ?_
     rintro e_ w9 ⟨v_, rfl, hv_, hb_⟩
     refine ⟨_, rfl, ?_⟩
     obtain ⟨A8, c8, rfl⟩ := Kd.V_slice hv_
     have S2 := Zq_.mk (S1.out.got hb_ hv_)
     clear hv_ hb_
     refine hK.out _ _ ⟨S2.out.bk 2 rfl, HEL.out _ S2.out.1⟩ (fun hHeld => ?_)
     clear hK K
     refine norm_ (a' := ?_) ?_ ?_
     rotate_left
     ·show Act.put _ (some 63) _ = _
      simp only [Act.put, sa_, sb_, sc_, i64_w, i32_w]
      rfl
     refine pure_ (i := 8) (N := some 55) (v := (.tuple #[.agg #[.slice A8 p1.length c8, .int .i64 p2, .bool p3], .int .i64 p4])) (a' := ?_) #[true,true,true,true,true,true,true,true,true,false,false,true,false,false] rfl rfl (by kernel_rfl) (fun _ _ _ h => h) ?_ ?_ ?_
     ·refine Or.inl ⟨by rfl, ?_⟩
      intro w'
      first | (go_simp; done) | (go_simp; with_reducible rfl) | (go_simp; rfl)
     rotate_left
     ·simp only [Act.put, sa_, sb_, sc_, i64_w, i32_w]
      rfl
     refine pure_ (i := 9) (N := some 64) (v := (.agg #[.slice A8 p1.length c8, .int .i64 p2, .bool p3])) (a' := ?_) #[true,true,true,true,true,true,true,true,true,true,false,true,false,false] rfl rfl (by kernel_rfl) (fun _ _ _ h => h) ?_ ?_ ?_
     ·refine Or.inl ⟨by rfl, ?_⟩
      intro w'
      first | (go_simp; done) | (go_simp; with_reducible rfl) | (go_simp; rfl)
     rotate_left
     ·simp only [Act.put, sa_, sb_, sc_, i64_w, i32_w]
      rfl
     refine pure_ (i := 10) (N := some 65) (v := (.int .i64 p4)) (a' := ?_) #[true,true,true,true,true,true,true,true,true,true,true,true,false,false] rfl rfl (by kernel_rfl) (fun _ _ _ h => h) ?_ ?_ ?_
     ·refine Or.inl ⟨by rfl, ?_⟩
      intro w'
      first | (go_simp; done) | (go_simp; with_reducible rfl) | (go_simp; rfl)
     rotate_left
     ·simp only [Act.put, sa_, sb_, sc_, i64_w, i32_w]
      rfl
     exact norm_ (by simp only [putAll, Act.put, sa_, sb_, sc_]) (hCont (A8, c8, g9) _ ⟨hHeld, S2.out⟩)
   clear S0
   rintro ⟨A8, c8, g9⟩ w9 ⟨hHeld, hS_⟩
   have S0 := Zq_.mk hS_
   clear hS_
   refine norm_ (a' := ?_) ?_ ?_
   rotate_left
   ·simp only [putAll, Act.put, sa_, sb_, sc_]
    rfl
   refine one_ (i := 12) (N := none) #[true,true,true,true,true,true,true,true,true,true,true,true,true,false] rfl rfl (by kernel_rfl) (by decide) (fun K hK => ?_)
   refine skip_ (by rfl) rfl (exec_store_whole 24 (.tmp 12) (.tmp 64) rfl (g := g9) (c := #[.slice none 0 0, .int .i64 0, .bool false]) (c' := #[.slice A8 p1.length c8, .int .i64 p2, .bool p3]) (by first | rfl | (go_simp; done) | (go_simp; rfl)) (by first | rfl | (go_simp; done) | (go_simp; rfl)) (S0.out.bk 0 rfl) (by kernel_rfl) rfl (disk_one ..)) ?_
   have S1 := Zq_.mk (show St w (World.setRow w9 g9 #[.slice A8 p1.length c8, .int .i64 p2, .bool p3]) ((g9, 24, #[.slice A8 p1.length c8, .int .i64 p2, .bool p3]) :: [(g6, 40, want ls), (g3, 24, #[.slice A ls.length c, .int .i64 left, .bool false])]) [(.slice A8 p1.length c8, p1), (.slice A ls.length c, ls)] from S0.out.row 0 rfl _)
   clear S0
   generalize hw_ : World.setRow w9 _ _ = w10 at S1 ⊢
   clear hw_
   refine hK.out _ _ ⟨S1.out.bk 2 rfl, HEL.out _ S1.out.1⟩ (fun hHeld => ?_)
   clear hK K
   refine pure_ (i := 13) (N := some 13) (v := (.int .i64 p4)) (a' := ?_) #[true,true,true,true,true,true,true,true,true,true,true,true,true,true] rfl rfl (by kernel_rfl) (fun _ _ _ h => h) ?_ ?_ ?_
   ·refine Or.inl ⟨by rfl, ?_⟩
    intro w'
    first | (go_simp; done) | (go_simp; with_reducible rfl) | (go_simp; rfl)
   rotate_left
   ·simp only [Act.put, sa_, sb_, sc_, i64_w, i32_w]
    rfl
   refine done_ (by kernel_rfl) ?_
   clear hHeld
   by_cases hlt : left < 64
   case pos =>
    have h := HH.out
    rw [if_pos hlt] at h
    obtain ⟨⟨q1, q2, q3, q4⟩, hq, h⟩ := Option.bind_eq_some_iff.1 h
    have h := Option.some.inj h
    obtain ⟨n, rfl⟩ : ∃ n : Nat, left = (n : Int) := ⟨left.toNat, by have := HA.out; omega⟩
    simp only [Bool.and_eq_true, decide_eq_true_eq, Prod.mk.injEq, List.all_eq_true, List.mem_range, Int.toNat_natCast] at h
    obtain ⟨⟨e1, rfl, rfl, rfl⟩, ⟨e2, rfl, rfl, rfl⟩, hg⟩ := h
    rw [e1] at e2 hg
    subst e2
    have E1 := Zq_.mk e1
    have HG := Zq_.mk hg
    have HQ := Zq_.mk hq
    have HN := Zq_.mk (show n < 64 by omega)
    clear e1 hg hq HH HP
    have l1 : decide ((n : Int) < 64) = true := decide_eq_true hlt
    have l2 : ((n : Int) < 64) = True := eq_true hlt
    have l3 : (n < 64) = True := eq_true HN.out
    have l4 : decide (n < 64) = true := decide_eq_true HN.out
    clear hlt
    have hi_ := HK.out
    have j1 : decide ((k : Int) < 4) = true := decide_eq_true (by omega)
    have j2 : ((k : Int) < 4) = True := eq_true (by omega)
    have j3 : (k < 4) = True := eq_true (by omega)
    have j4 : decide (k < 4) = true := decide_eq_true (by omega)
    have j5 : (4 ≤ k) = False := eq_false (by omega)
    clear hi_
    go_upto_block 2 with (first | ((with_reducible refine qc_ (N := 69) rfl ?_); refine Kd.event_run rfl (w1 := _) (v := aggN .u8 z26) (by kernel_rfl) ?_) | ((with_reducible refine gate_store (t := 26) (p := 70) rfl ?_); refine store_event rfl (t := 26) (p := 70) (v := .tmp 69) rfl rfl (exec_store_run 26 (.tmp 70) (.tmp 69) rfl (g := g6) (i := k * 64) (v := aggN .u8 z26) (e := 40) ?sp ?sx (S1.out.bk 1 rfl) (by kernel_rfl) ?ss ?s1) ?_; (case sp => first | rfl | (go_simp; done) | (go_simp; rfl)); (case sx => first | rfl | (go_simp; done) | (go_simp; rfl)); (case ss => rw [want_size HM.out.2, HM.out.1]; have := HK.out; show k * 64 + 64 ≤ 4 * 64; omega); (case s1 => exact fun q hq => one_of_map hq); intro w11 hw_; have S2 := Zq_.mk (show St w w11 ((g9, 24, #[.slice A8 p1.length c8, .int .i64 (-1), .bool true]) :: (g6, 40, want (ls.set k z26)) :: [(g3, 24, #[.slice A ls.length c, .int .i64 (n : Int), .bool false])]) [(.slice A8 p1.length c8, p1), (.slice A ls.length c, ls)] from by rw [hw_]; exact S1.out.wput 1 rfl HM.out.2 (by rw [HM.out.1]; exact HK.out) List.length_replicate); clear hw_ S1))
    clear j1 j2 j3 j4 j5 l1 l2 l3 l4
    go_wp2
    go_loopg [14] (n + 1) (fun kq v14 w' => ∃ (j : Nat), v14 = .int .i64 (j : Int) ∧ Zq_ (j ≤ n ∧ kq + j = n + 1) ∧ Zq_ (St w w' ((g9, 24, #[.slice A8 p1.length c8, .int .i64 (-1), .bool true]) :: (g6, 40, want (ls.set k (tear y.f1 j))) :: [(g3, 24, #[.slice A ls.length c, .int .i64 (n : Int), .bool false])]) [(.slice A8 p1.length c8, p1), (.slice A ls.length c, ls)]))
    case atStart => exact ⟨0, by first | rfl | (simp; done), ⟨by omega, by omega⟩, ⟨by have h_ := S2.out; rw [tear_zero, HYL.out]; exact h_⟩⟩
    case round =>
     clear S2
     obtain ⟨j, rfl, HJ, S2⟩ := hrel
     by_cases hj : j < n
     ·skip
      have HJJ := Zq_.mk hj
      have hw3 : IntKind.i64.wrap ((j : Int) + 1) = ((j + 1 : Nat) : Int) := by have := HN.out; rw [i64_w]; unfold wrap64; omega
      have HW3 := Zq_.mk hw3
      have l1 : decide ((j : Int) < (n : Int)) = true := decide_eq_true (by omega)
      have l2 : ((j : Int) < (n : Int)) = True := eq_true (by omega)
      have l3 : (j < n) = True := eq_true hj
      have l4 : decide (j < n) = true := decide_eq_true hj
      clear hj hw3
      go_upto_region 21 with fail
      clear l1 l2 l3 l4
      have n0_ := Zq_.mk S2.out.drew
      clear S2
      have S2 := n0_
      clear n0_
      have HCE : Zq_ (∀ W : World, Below w.heap.size w W → W.cell? (ad.add (i * 65 + 1 + j)) = some (.int .u8 (y.f1.getD j 0))) := ⟨fun W hb => by rw [← add_add]; exact HEL.out W hb j _ (by have h1_ := HJJ.out; have h2_ := HN.out; rw [List.getElem?_map, List.getD_eq_getElem?_getD, List.getElem?_eq_getElem (show j < y.f1.length by rw [HYL.out]; omega)]; rfl)⟩
      refine start_ (n := 12) (S := fun W => W.cell? (ad.add (i * 65 + 1 + j)) = some (.int .u8 (y.f1.getD j 0))) (ds := []) #[false,false,false,false,false,false,false,false,false,false,false,false] (by kernel_rfl) rfl rfl (HCE.out _ S2.out.1) (fun hHeld => ?_)
      generalize hw_ : World.drew _ = w12 at S2 hHeld ⊢
      clear hw_
      refine pure_ (i := 0) (N := some 76) (v := (.int .i64 (k : Int))) (a' := ?_) #[true,false,false,false,false,false,false,false,false,false,false,false] rfl rfl (by kernel_rfl) (fun _ _ _ h => h) ?_ ?_ ?_
      ·refine Or.inl ⟨by rfl, ?_⟩
       intro w'
       first | (go_simp; done) | (go_simp; with_reducible rfl) | (go_simp; rfl)
      rotate_left
      ·simp only [Act.put, sa_, sb_, sc_, i64_w, i32_w]
       rfl
      refine pure_ (i := 1) (N := some 77) (v := (.int .i64 (j : Int))) (a' := ?_) #[true,true,false,false,false,false,false,false,false,false,false,false] rfl rfl (by kernel_rfl) (fun _ _ _ h => h) ?_ ?_ ?_
      ·refine Or.inl ⟨by rfl, ?_⟩
       intro w'
       first | (go_simp; done) | (go_simp; with_reducible rfl) | (go_simp; rfl)
      rotate_left
      ·simp only [Act.put, sa_, sb_, sc_, i64_w, i32_w]
       rfl
      refine pure_ (i := 2) (N := some 78) (v := (.slice (some ad) l0.length c0)) (a' := ?_) #[true,true,true,false,false,false,false,false,false,false,false,false] rfl rfl (by kernel_rfl) (fun _ _ _ h => h) ?_ ?_ ?_
      ·refine Or.inl ⟨by rfl, ?_⟩
       intro w'
       first | (go_simp; done) | (go_simp; with_reducible rfl) | (go_simp; rfl)
      rotate_left
      ·simp only [Act.put, sa_, sb_, sc_, i64_w, i32_w]
       rfl
      refine pure_ (i := 3) (N := some 79) (v := (.int .i64 (i : Int))) (a' := ?_) #[true,true,true,true,false,false,false,false,false,false,false,false] rfl rfl (by kernel_rfl) (fun _ _ _ h => h) ?_ ?_ ?_
      ·refine Or.inl ⟨by rfl, ?_⟩
       intro w'
       first | (go_simp; done) | (go_simp; with_reducible rfl) | (go_simp; rfl)
      rotate_left
      ·simp only [Act.put, sa_, sb_, sc_, i64_w, i32_w]
       rfl
      refine pure_ (i := 4) (N := some 80) (v := (.int .i64 (j : Int))) (a' := ?_) #[true,true,true,true,true,false,false,false,false,false,false,false] rfl rfl (by kernel_rfl) (fun _ _ _ h => h) ?_ ?_ ?_
      ·refine Or.inl ⟨by rfl, ?_⟩
       intro w'
       first | (go_simp; done) | (go_simp; with_reducible rfl) | (go_simp; rfl)
      rotate_left
      ·simp only [Act.put, sa_, sb_, sc_, i64_w, i32_w]
       rfl
      refine pure_ (i := 5) (N := some 81) (v := (.pointer (some (ad.add (i * 65))))) (a' := ?_) #[true,true,true,true,true,true,false,false,false,false,false,false] rfl rfl (by kernel_rfl) (fun _ _ _ h => h) ?_ ?_ ?_
      ·refine Or.inl ⟨by rfl, ?_⟩
       intro w'
       have hi_ := HII.out
       have j1 : decide ((i : Int) < (l0.length : Int)) = true := decide_eq_true (by omega)
       have j2 : ((i : Int) < (l0.length : Int)) = True := eq_true (by omega)
       have j3 : (i < l0.length) = True := eq_true (by omega)
       have j4 : decide (i < l0.length) = true := decide_eq_true (by omega)
       have j5 : (l0.length ≤ i) = False := eq_false (by omega)
       clear hi_
       first | (go_simp; done) | (go_simp; with_reducible rfl) | (go_simp; rfl)
      rotate_left
      ·simp only [Act.put, sa_, sb_, sc_, i64_w, i32_w]
       rfl
      refine pure_ (i := 6) (N := some 82) (v := (.pointer (some (ad.add (i * 65 + 1))))) (a' := ?_) #[true,true,true,true,true,true,true,false,false,false,false,false] rfl rfl (by kernel_rfl) (fun _ _ _ h => h) ?_ ?_ ?_
      ·refine Or.inl ⟨by rfl, ?_⟩
       intro w'
       rw [add_pos ad (show i * 65 + 1 ≠ 0 by omega)]; first | (go_simp; done) | (go_simp; exact ⟨add_block _ _, by rw [add_off]; omega⟩) | (go_simp; rw [add_block, add_off]; done)
      rotate_left
      ·simp only [Act.put, sa_, sb_, sc_, i64_w, i32_w]
       rfl
      refine pure_ (i := 7) (N := some 83) (v := (.pointer (some (ad.add (i * 65 + 1 + j))))) (a' := ?_) #[true,true,true,true,true,true,true,true,false,false,false,false] rfl rfl (by kernel_rfl) (fun _ _ _ h => h) ?_ ?_ ?_
      ·refine Or.inl ⟨by rfl, ?_⟩
       intro w'
       have hj_ := HJJ.out
       have hn_ := HN.out
       have j1 : decide ((j : Int) < 64) = true := decide_eq_true (by omega)
       have j2 : ((j : Int) < 64) = True := eq_true (by omega)
       have j3 : (j < 64) = True := eq_true (by omega)
       have j4 : decide (j < 64) = true := decide_eq_true (by omega)
       have j5 : (64 ≤ j) = False := eq_false (by omega)
       clear hj_ hn_
       rw [add_pos ad (show i * 65 + 1 + j ≠ 0 by omega)]; first | (go_simp; done) | (go_simp; omega) | (go_simp; rw [Nat.add_assoc]; done) | (go_simp; exact ⟨add_block _ _, by rw [add_off]; omega⟩)
      rotate_left
      ·simp only [Act.put, sa_, sb_, sc_, i64_w, i32_w]
       rfl
      refine take_ (i := 8) (N := some 84) (v := (.int .u8 (y.f1.getD j 0))) (a' := ?_) #[true,true,true,true,true,true,true,true,true,false,false,false] rfl rfl (by kernel_rfl) (fun _ _ _ h => h) ?_ hHeld ?_ ?_
      ·refine Or.inl ⟨by rfl, ?_⟩
       rintro w' s0
       first | (go_simp; done) | (go_simp; with_reducible rfl) | (go_simp; rfl)
      rotate_left
      ·simp only [Act.put, sa_, sb_, sc_, i64_w, i32_w]
       rfl
      refine pure_ (i := 9) (N := some 85) (v := (.pointer (some ⟨g6, k * 64, none⟩))) (a' := ?_) #[true,true,true,true,true,true,true,true,true,true,false,false] rfl rfl (by kernel_rfl) (fun _ _ _ h => h) ?_ ?_ ?_
      ·refine Or.inl ⟨by rfl, ?_⟩
       intro w'
       have hi_ := HK.out
       have j1 : decide ((k : Int) < 4) = true := decide_eq_true (by omega)
       have j2 : ((k : Int) < 4) = True := eq_true (by omega)
       have j3 : (k < 4) = True := eq_true (by omega)
       have j4 : decide (k < 4) = true := decide_eq_true (by omega)
       have j5 : (4 ≤ k) = False := eq_false (by omega)
       clear hi_
       first | (go_simp; done) | (go_simp; with_reducible rfl) | (go_simp; rfl)
      rotate_left
      ·simp only [Act.put, sa_, sb_, sc_, i64_w, i32_w]
       rfl
      refine pure_ (i := 10) (N := some 86) (v := (.pointer (some ⟨g6, k * 64 + j, none⟩))) (a' := ?_) #[true,true,true,true,true,true,true,true,true,true,true,false] rfl rfl (by kernel_rfl) (fun _ _ _ h => h) ?_ ?_ ?_
      ·refine Or.inl ⟨by rfl, ?_⟩
       intro w'
       have hj_ := HJJ.out
       have hn_ := HN.out
       have j1 : decide ((j : Int) < 64) = true := decide_eq_true (by omega)
       have j2 : ((j : Int) < 64) = True := eq_true (by omega)
       have j3 : (j < 64) = True := eq_true (by omega)
       have j4 : decide (j < 64) = true := decide_eq_true (by omega)
       have j5 : (64 ≤ j) = False := eq_false (by omega)
       clear hj_ hn_
       first | (go_simp; done) | (go_simp; with_reducible rfl) | (go_simp; rfl)
      rotate_left
      ·simp only [Act.put, sa_, sb_, sc_, i64_w, i32_w]
       rfl
      refine one_ (i := 11) (N := none) #[true,true,true,true,true,true,true,true,true,true,true,true] rfl rfl (by kernel_rfl) (by decide) (fun K hK => ?_)
      have hl_ : ∀ x ∈ ls.set k (tear y.f1 j), x.length = 64 := set_64 HM.out.2 (by rw [tear_len _ _ (by have := HJJ.out; have := HN.out; have := HYL.out; omega)]; exact HYL.out)
      have hk_ : k < (ls.set k (tear y.f1 j)).length := by rw [List.length_set, HM.out.1]; exact HK.out
      refine skip_ (by rfl) rfl (exec_store_run 5 (.tmp 86) (.tmp 84) rfl (g := g6) (i := k * 64 + j) (v := .int .u8 (y.f1.getD j 0)) (e := 40) (by first | rfl | (go_simp; done) | (go_simp; rfl)) (by first | rfl | (go_simp; done) | (go_simp; rfl)) (S2.out.bk 1 rfl) (by kernel_rfl) ?ss (fun q hq => ?s1)) ?_
      case ss => rw [want_size hl_, List.length_set, HM.out.1]; have := HK.out; have := HJJ.out; have := HN.out; show k * 64 + j + 1 ≤ 4 * 64; omega
      case s1 => exact one_of_int hq
      have n0_ := Zq_.mk (show St w (World.setCells w12 g6 (k * 64 + j) [Value.int .u8 (y.f1.getD j 0)]) ((g9, 24, #[.slice A8 p1.length c8, .int .i64 (-1), .bool true]) :: (g6, 40, want (ls.set k (tear y.f1 (j + 1)))) :: [(g3, 24, #[.slice A ls.length c, .int .i64 (n : Int), .bool false])]) [(.slice A8 p1.length c8, p1), (.slice A ls.length c, ls)] from by have h_ := S2.out.wbyte 1 rfl hl_ hk_ (show j < 64 by have := HJJ.out; have := HN.out; omega) (y.f1.getD j 0); rw [set_tear ls k y.f1 j (by rw [HM.out.1]; exact HK.out) (by have := HJJ.out; have := HN.out; have := HYL.out; omega)] at h_; exact h_)
      clear S2 hl_ hk_
      have S2 := n0_
      clear n0_
      show K _ (World.setCells w12 g6 (k * 64 + j) [Value.int .u8 (y.f1.getD j 0)])
      generalize hw_ : World.setCells w12 _ _ _ = w13 at S2 ⊢
      clear hw_
      refine hK.out _ _ (HCE.out _ S2.out.1) (fun hHeld => ?_)
      clear hK K
      refine done_ (by kernel_rfl) ?_
      clear hHeld HCE
      have hw3 := HW3.out
      go_wp2
      go_roundg (n - j)
      case measure => have := HJ.out.2; have := HJJ.out; omega
      case rel => exact ⟨j + 1, by first | rfl | exact congrArg (Value.int .i64) HW3.out, ⟨by have := HJJ.out; omega, by have := HJ.out.2; have := HJJ.out; omega⟩, S2⟩
     ·skip
      have hj2 : j = n := by have := HJ.out.1; omega
      subst hj2
      clear hj
      have h_ := S2.out
      rw [E1.out] at h_
      have S3 := Zq_.mk h_
      clear S2 h_
      have y12_2 := (qb_ (S3.out.bk 0 rfl) 2).trans rfl
      go_upto_block 4 with (first | ((with_reducible refine qc_ (N := 95) rfl ?_); refine load_box rfl 24 (.tmp 12) rfl ?lp (S3.out.bk 0 rfl) hu24 rfl (by kernel_rfl) ?_; (case lp => first | rfl | (go_simp; done) | (go_simp; rfl))) | (go_at_call 18; refine (block_Wake.calls _ A8 c8 p1 (-1) true _ _ _ _ _ (S3.out.lies 0 rfl) HQ.out).mono ?_; rintro e_ w4 ⟨v_, rfl, hv_, hb_⟩; obtain ⟨A4, c4, rfl⟩ := Kd.V_slice hv_; have S4 := Zq_.mk (S3.out.got hb_ hv_); clear S3 hv_ hb_) | ((with_reducible refine gate_store (t := 24) (p := 12) rfl ?_); refine store_whole rfl rfl 24 (.tmp 12) (.tmp 97) rfl (g := g9) (c := #[.slice A8 p1.length c8, .int .i64 (-1), .bool true]) (c' := #[.slice A4 p1.length c4, .int .i64 (-1), .bool false]) ?sp ?sx (S4.out.bk 0 rfl) (by kernel_rfl) rfl (disk_one ..) ?_; (case sp => first | rfl | (go_simp; done) | (go_simp; rfl)); (case sx => first | rfl | (go_simp; done) | (go_simp; rfl)); intro w5 hw_; have S5 := Zq_.mk (show St w w5 _ _ from by rw [hw_]; exact S4.out.row 0 rfl _); clear S4 hw_))
      go_wp2
      have HP1 := Zq_.mk (show p1.length = 4 ∧ ∀ x ∈ p1, x.length = 64 from ⟨by rw [← E1.out, List.length_set]; exact HM.out.1, fun x hx => S5.out.sect 1 rfl x hx⟩)
      go_loopg [15] 5 (fun kq v15 w' => ∃ (m : Nat), v15 = .int .i64 (m : Int) ∧ Zq_ (m ≤ 4 ∧ kq + m = 5) ∧ Zq_ (St w w' ((g9, 24, #[.slice A4 p1.length c4, .int .i64 (-1), .bool false]) :: (g6, 40, want p1) :: [(g3, 24, #[.slice A ls.length c, .int .i64 (j : Int), .bool false])]) [(.slice A4 p1.length c4, p1), (.slice A8 p1.length c8, p1), (.slice A ls.length c, ls)]))
      case atStart => exact ⟨0, by first | rfl | (simp; done), ⟨by omega, by omega⟩, S5⟩
      case round =>
       clear S5
       obtain ⟨m, rfl, HJ2, S9⟩ := hrel
       by_cases hm : m < 4
       ·skip
        have HMM := Zq_.mk hm
        have hgm := HG.out m hm
        obtain ⟨x, hx⟩ : ∃ x_, p1.getD m z26 = x_ := ⟨_, rfl⟩
        rw [hx] at hgm
        have HX := Zq_.mk hx
        have hxl : x.length = 64 := by rw [← hx, List.getD_eq_getElem?_getD, List.getElem?_eq_getElem (show m < p1.length by rw [HP1.out.1]; exact hm)]; exact HP1.out.2 _ (List.getElem_mem _)
        have hw3 : IntKind.i64.wrap ((m : Int) + 1) = ((m + 1 : Nat) : Int) := by rw [i64_w]; unfold wrap64; omega
        have HW3 := Zq_.mk hw3
        clear hx hw3
        have l1 : decide ((m : Int) < 4) = true := decide_eq_true (by omega)
        have l2 : ((m : Int) < 4) = True := eq_true (by omega)
        have l3 : (m < 4) = True := eq_true hm
        have l4 : decide (m < 4) = true := decide_eq_true hm
        clear hm
        go_upto_region 29 with (first | ((with_reducible refine qc_ (N := 104) rfl ?_); refine load_box rfl 24 (.tmp 12) rfl ?lp (S9.out.bk 0 rfl) hu24 rfl (by kernel_rfl) ?_; (case lp => first | rfl | (go_simp; done) | (go_simp; rfl))) | (go_at_call 12; refine (block_Get.calls A4 c4 p1 (-1) false (m : Int) _ _ _ (S9.out.reads 0 rfl) (S9.out.room 0 rfl) hgm).mono ?_; rintro e_ w10 ⟨rfl, hb_⟩; have S10 := Zq_.mk (S9.out.step hb_); clear S9 hb_) | ((with_reducible refine qc_ (N := 16) rfl ?_); refine alloc_store rfl (N := 16) rfl (cs := (z26.map (Value.int .u8)).toArray) (cs' := (x.map (Value.int .u8)).toArray) (t := 26) ?hr rfl rfl (.tmp 107) rfl ?hp ?hx (sect_size hxl) (sect_same hxl) (one_cells .u8 x) ?_; (case hr => first | (go_simp; done) | (go_simp; rfl)); (case hp => intro v_; first | rfl | (go_simp; done)); (case hx => intro v_; first | rfl | (go_simp; done) | (go_simp; rfl)); intro g11 hg_ w11 hk_ hb_; have S11 := Zq_.mk (S10.out.box hb_ hg_ hk_); clear S10 hb_ hg_ hk_))
        clear l1 l2 l3 l4
        have n0_ := Zq_.mk S11.out.drew
        clear S11
        have S11 := n0_
        clear n0_
        have hrow : ∀ j v, (x.map (Value.int .u8))[j]? = some v → (World.drew _).cell? ((⟨g6, m * 64, none⟩ : Addr).add j) = some v := fun j_ v_ hv_ => want_row HP1.out.2 (show m < p1.length by rw [HP1.out.1]; exact HMM.out) (S11.out.bk 2 rfl) j_ v_ (by rw [getD_eq (by rw [HP1.out.1]; exact HMM.out) [] z26, HX.out]; exact hv_)
        refine start_ (n := 9) (S := fun W => W.heap[g11]? = some (.cells (x.map (Value.int .u8)).toArray 26 (0, 0)) ∧ (∀ j v, (x.map (Value.int .u8))[j]? = some v → W.cell? ((⟨g6, m * 64, none⟩ : Addr).add j) = some v)) (ds := []) #[false,false,false,false,false,false,false,false,false] (by kernel_rfl) rfl rfl ⟨S11.out.bk 0 rfl, hrow⟩ (fun hHeld => ?_)
        clear hrow
        generalize hw_ : World.drew _ = w20 at S11 hHeld ⊢
        clear hw_
        refine pure_ (i := 0) (N := some 109) (v := (.int .i64 0)) (a' := ?_) #[true,false,false,false,false,false,false,false,false] rfl rfl (by kernel_rfl) (fun _ _ _ h => h) ?_ ?_ ?_
        ·refine Or.inl ⟨by rfl, ?_⟩
         intro w'
         first | (go_simp; done) | (go_simp; with_reducible rfl) | (go_simp; rfl)
        rotate_left
        ·simp only [Act.put, sa_, sb_, sc_, i64_w, i32_w]
         rfl
        refine pure_ (i := 1) (N := some 110) (v := (.bool false)) (a' := ?_) #[true,true,false,false,false,false,false,false,false] rfl rfl (by kernel_rfl) (fun _ _ _ h => h) ?_ ?_ ?_
        ·refine Or.inl ⟨by rfl, ?_⟩
         intro w'
         first | (go_simp; done) | (go_simp; with_reducible rfl) | (go_simp; rfl)
        rotate_left
        ·simp only [Act.put, sa_, sb_, sc_, i64_w, i32_w]
         rfl
        refine pure_ (i := 2) (N := some 111) (v := (.bool false)) (a' := ?_) #[true,true,true,false,false,false,false,false,false] rfl rfl (by kernel_rfl) (fun _ _ _ h => h) ?_ ?_ ?_
        ·refine Or.inl ⟨by rfl, ?_⟩
         intro w'
         first | (go_simp; done) | (go_simp; with_reducible rfl) | (go_simp; rfl)
        rotate_left
        ·simp only [Act.put, sa_, sb_, sc_, i64_w, i32_w]
         rfl
        refine take_ (i := 3) (N := some 112) (v := (aggN .u8 x)) (a' := ?_) #[true,true,true,true,false,false,false,false,false] rfl rfl (by kernel_rfl) (fun _ _ _ h => h) ?_ hHeld ?_ ?_
        ·refine Or.inl ⟨by rfl, ?_⟩
         rintro w' ⟨s0, s1⟩
         exact exec_load_box rfl (by first | rfl | (go_simp; done) | (go_simp; rfl)) s0 hu26 rfl (sect_size hxl)
        rotate_left
        ·simp only [Act.put, sa_, sb_, sc_, i64_w, i32_w]
         rfl
        refine pure_ (i := 4) (N := some 113) (v := (.int .i64 (m : Int))) (a' := ?_) #[true,true,true,true,true,false,false,false,false] rfl rfl (by kernel_rfl) (fun _ _ _ h => h) ?_ ?_ ?_
        ·refine Or.inl ⟨by rfl, ?_⟩
         intro w'
         first | (go_simp; done) | (go_simp; with_reducible rfl) | (go_simp; rfl)
        rotate_left
        ·simp only [Act.put, sa_, sb_, sc_, i64_w, i32_w]
         rfl
        refine pure_ (i := 5) (N := some 114) (v := (.pointer (some ⟨g6, m * 64, none⟩))) (a' := ?_) #[true,true,true,true,true,true,false,false,false] rfl rfl (by kernel_rfl) (fun _ _ _ h => h) ?_ ?_ ?_
        ·refine Or.inl ⟨by rfl, ?_⟩
         intro w'
         have hi_ := HMM.out
         have j1 : decide ((m : Int) < 4) = true := decide_eq_true (by omega)
         have j2 : ((m : Int) < 4) = True := eq_true (by omega)
         have j3 : (m < 4) = True := eq_true (by omega)
         have j4 : decide (m < 4) = true := decide_eq_true (by omega)
         have j5 : (4 ≤ m) = False := eq_false (by omega)
         clear hi_
         first | (go_simp; done) | (go_simp; with_reducible rfl) | (go_simp; rfl)
        rotate_left
        ·simp only [Act.put, sa_, sb_, sc_, i64_w, i32_w]
         rfl
        refine take_ (i := 6) (N := some 115) (v := (aggN .u8 x)) (a' := ?_) #[true,true,true,true,true,true,true,false,false] rfl rfl (by kernel_rfl) (fun _ _ _ h => h) ?_ hHeld ?_ ?_
        ·refine Or.inl ⟨by rfl, ?_⟩
         rintro w' ⟨s0, s1⟩
         exact exec_load_elem rfl (by first | rfl | (go_simp; done) | (go_simp; rfl)) s1 hu26 (by rw [hxl]; kernel_rfl)
        rotate_left
        ·simp only [Act.put, sa_, sb_, sc_, i64_w, i32_w]
         rfl
        refine pure_ (i := 7) (N := some 116) (v := (.bool false)) (a' := ?_) #[true,true,true,true,true,true,true,true,false] rfl rfl (by kernel_rfl) (fun _ _ _ h => h) ?_ ?_ ?_
        ·refine Or.inl ⟨by rfl, ?_⟩
         intro w'
         have e_ : (!decide (x = x)) = false := by simp
         rw [← e_]
         exact exec_neq_ints w' rfl hu26 (by kernel_rfl) hu5 (by kernel_rfl) hti (by kernel_rfl) x x hxl hxl (by first | rfl | (go_simp; done) | (go_simp; rfl)) (by first | rfl | (go_simp; done) | (go_simp; rfl))
        rotate_left
        ·simp only [Act.put, sa_, sb_, sc_, i64_w, i32_w]
         rfl
        refine pure_ (i := 8) (N := some 117) (v := (.bool false)) (a' := ?_) #[true,true,true,true,true,true,true,true,true] rfl rfl (by kernel_rfl) (fun _ _ _ h => h) ?_ ?_ ?_
        ·refine Or.inl ⟨by rfl, ?_⟩
         intro w'
         first | (go_simp; done) | (go_simp; with_reducible rfl) | (go_simp; rfl)
        rotate_left
        ·simp only [Act.put, sa_, sb_, sc_, i64_w, i32_w]
         rfl
        refine done_ (by kernel_rfl) ?_
        clear hHeld
        have hw3 := HW3.out
        go_wp2
        go_roundg (4 - m)
        case measure => have := HJ2.out.2; have := HMM.out; omega
        case rel => exact ⟨m + 1, by first | rfl | exact congrArg (Value.int .i64) HW3.out, ⟨by have := HMM.out; omega, by have := HJ2.out.2; have := HMM.out; omega⟩, ⟨S11.out.less⟩⟩
       ·skip
        have hm2 : m = 4 := by have := HJ2.out.1; omega
        subst hm2
        clear hm
        have y12_1 := (qb_ (S9.out.bk 0 rfl) 1).trans rfl
        go_wp2
        go_ret
        exact ⟨rfl, S9.out.1⟩
   have h := HH.out
   rw [if_neg hlt] at h
   by_cases hq : (ls.set k y.f1, left - 64, false, 0) = (p1, p2, p3, p4)
   case neg => rw [if_neg hq] at h; exact absurd (Option.some.inj h) (by decide)
   rw [if_pos hq] at h
   simp only [Prod.mk.injEq] at hq
   obtain ⟨e1, rfl, rfl, rfl⟩ := hq
   rw [e1] at h
   have E1 := Zq_.mk e1
   have HGO := Zq_.mk h
   have HLT := Zq_.mk hlt
   clear e1 h HH HP
   have l1 : decide (left < 64) = false := decide_eq_false hlt
   have l2 : (left < 64) = False := eq_false hlt
   clear hlt
   go_upto_region 34 with fail
   clear l1 l2
   have n0_ := Zq_.mk S1.out.drew
   clear S1
   have S1 := n0_
   clear n0_
   refine start_ (n := 13) (S := fun W => W.heap[g9]? = some (.cells #[.slice A8 p1.length c8, .int .i64 (left - 64), .bool false] 24 (0, 0)) ∧ (∀ j v, (y.f1.map (Value.int .u8))[j]? = some v → W.cell? ((ad.add (i * 65 + 1)).add j) = some v)) (ds := []) #[false,false,false,false,false,false,false,false,false,false,false,false,false] (by kernel_rfl) rfl rfl ⟨S1.out.bk 0 rfl, HEL.out _ S1.out.1⟩ (fun hHeld => ?_)
   generalize hw_ : World.drew _ = w11 at S1 hHeld ⊢
   clear hw_
   refine pure_ (i := 0) (N := some 127) (v := (.int .i64 (k : Int))) (a' := ?_) #[true,false,false,false,false,false,false,false,false,false,false,false,false] rfl rfl (by kernel_rfl) (fun _ _ _ h => h) ?_ ?_ ?_
   ·refine Or.inl ⟨by rfl, ?_⟩
    intro w'
    first | (go_simp; done) | (go_simp; with_reducible rfl) | (go_simp; rfl)
   rotate_left
   ·simp only [Act.put, sa_, sb_, sc_, i64_w, i32_w]
    rfl
   refine pure_ (i := 1) (N := some 128) (v := (.slice (some ad) l0.length c0)) (a' := ?_) #[true,true,false,false,false,false,false,false,false,false,false,false,false] rfl rfl (by kernel_rfl) (fun _ _ _ h => h) ?_ ?_ ?_
   ·refine Or.inl ⟨by rfl, ?_⟩
    intro w'
    first | (go_simp; done) | (go_simp; with_reducible rfl) | (go_simp; rfl)
   rotate_left
   ·simp only [Act.put, sa_, sb_, sc_, i64_w, i32_w]
    rfl
   refine pure_ (i := 2) (N := some 129) (v := (.int .i64 (i : Int))) (a' := ?_) #[true,true,true,false,false,false,false,false,false,false,false,false,false] rfl rfl (by kernel_rfl) (fun _ _ _ h => h) ?_ ?_ ?_
   ·refine Or.inl ⟨by rfl, ?_⟩
    intro w'
    first | (go_simp; done) | (go_simp; with_reducible rfl) | (go_simp; rfl)
   rotate_left
   ·simp only [Act.put, sa_, sb_, sc_, i64_w, i32_w]
    rfl
   refine pure_ (i := 3) (N := some 130) (v := (.pointer (some (ad.add (i * 65))))) (a' := ?_) #[true,true,true,true,false,false,false,false,false,false,false,false,false] rfl rfl (by kernel_rfl) (fun _ _ _ h => h) ?_ ?_ ?_
   ·refine Or.inl ⟨by rfl, ?_⟩
    intro w'
    have hi_ := HII.out
    have j1 : decide ((i : Int) < (l0.length : Int)) = true := decide_eq_true (by omega)
    have j2 : ((i : Int) < (l0.length : Int)) = True := eq_true (by omega)
    have j3 : (i < l0.length) = True := eq_true (by omega)
    have j4 : decide (i < l0.length) = true := decide_eq_true (by omega)
    have j5 : (l0.length ≤ i) = False := eq_false (by omega)
    clear hi_
    first | (go_simp; done) | (go_simp; with_reducible rfl) | (go_simp; rfl)
   rotate_left
   ·simp only [Act.put, sa_, sb_, sc_, i64_w, i32_w]
    rfl
   refine pure_ (i := 4) (N := some 131) (v := (.pointer (some (ad.add (i * 65 + 1))))) (a' := ?_) #[true,true,true,true,true,false,false,false,false,false,false,false,false] rfl rfl (by kernel_rfl) (fun _ _ _ h => h) ?_ ?_ ?_
   ·refine Or.inl ⟨by rfl, ?_⟩
    intro w'
    rw [add_pos ad (show i * 65 + 1 ≠ 0 by omega)]; first | (go_simp; done) | (go_simp; exact ⟨add_block _ _, by rw [add_off]; omega⟩) | (go_simp; rw [add_block, add_off]; done)
   rotate_left
   ·simp only [Act.put, sa_, sb_, sc_, i64_w, i32_w]
    rfl
   refine take_ (i := 5) (N := some 132) (v := (aggN .u8 y.f1)) (a' := ?_) #[true,true,true,true,true,true,false,false,false,false,false,false,false] rfl rfl (by kernel_rfl) (fun _ _ _ h => h) ?_ hHeld ?_ ?_
   ·refine Or.inl ⟨by rfl, ?_⟩
    rintro w' ⟨s0, s1⟩
    exact exec_load_elem rfl (by first | rfl | (go_simp; done) | (go_simp; rfl)) s1 hu26 (by rw [HYL.out]; kernel_rfl)
   rotate_left
   ·simp only [Act.put, sa_, sb_, sc_, i64_w, i32_w]
    rfl
   refine pure_ (i := 6) (N := some 133) (v := (.int .i64 left)) (a' := ?_) #[true,true,true,true,true,true,true,false,false,false,false,false,false] rfl rfl (by kernel_rfl) (fun _ _ _ h => h) ?_ ?_ ?_
   ·refine Or.inl ⟨by rfl, ?_⟩
    intro w'
    first | (go_simp; done) | (go_simp; with_reducible rfl) | (go_simp; rfl)
   rotate_left
   ·simp only [Act.put, sa_, sb_, sc_, i64_w, i32_w]
    rfl
   refine pure_ (i := 7) (N := some 134) (v := (.int .i64 (left - 64))) (a' := ?_) #[true,true,true,true,true,true,true,true,false,false,false,false,false] rfl rfl (by kernel_rfl) (fun _ _ _ h => h) ?_ ?_ ?_
   ·refine Or.inl ⟨by rfl, ?_⟩
    intro w'
    have hs_ : IntKind.i64.wrap (left - 64) = left - 64 := by have h1_ := HA.out; have h2_ := HLT.out; rw [i64_w]; unfold wrap64; omega
    first | (go_simp; done) | (go_simp; with_reducible rfl) | (go_simp; rfl)
   rotate_left
   ·simp only [Act.put, sa_, sb_, sc_, i64_w, i32_w]
    rfl
   refine take_ (i := 8) (N := some 135) (v := (.agg #[.slice A8 p1.length c8, .int .i64 (left - 64), .bool false])) (a' := ?_) #[true,true,true,true,true,true,true,true,true,false,false,false,false] rfl rfl (by kernel_rfl) (fun _ _ _ h => h) ?_ hHeld ?_ ?_
   ·refine Or.inl ⟨by rfl, ?_⟩
    rintro w' ⟨s0, s1⟩
    exact exec_load_box rfl (by first | rfl | (go_simp; done) | (go_simp; rfl)) s0 hu24 rfl (by kernel_rfl)
   rotate_left
   ·simp only [Act.put, sa_, sb_, sc_, i64_w, i32_w]
    rfl
   refine pure_ (i := 9) (N := some 136) (v := (.pointer (some ⟨g6, k * 64, none⟩))) (a' := ?_) #[true,true,true,true,true,true,true,true,true,true,false,false,false] rfl rfl (by kernel_rfl) (fun _ _ _ h => h) ?_ ?_ ?_
   ·refine Or.inl ⟨by rfl, ?_⟩
    intro w'
    have hi_ := HK.out
    have j1 : decide ((k : Int) < 4) = true := decide_eq_true (by omega)
    have j2 : ((k : Int) < 4) = True := eq_true (by omega)
    have j3 : (k < 4) = True := eq_true (by omega)
    have j4 : decide (k < 4) = true := decide_eq_true (by omega)
    have j5 : (4 ≤ k) = False := eq_false (by omega)
    clear hi_
    first | (go_simp; done) | (go_simp; with_reducible rfl) | (go_simp; rfl)
   rotate_left
   ·simp only [Act.put, sa_, sb_, sc_, i64_w, i32_w]
    rfl
   refine one_ (i := 10) (N := none) #[true,true,true,true,true,true,true,true,true,true,true,false,false] rfl rfl (by kernel_rfl) (by decide) (fun K hK => ?_)
   refine skip_ (by rfl) rfl (exec_store_run 26 (.tmp 136) (.tmp 132) rfl (g := g6) (i := k * 64) (v := aggN .u8 y.f1) (e := 40) (by first | rfl | (go_simp; done) | (go_simp; rfl)) (by first | rfl | (go_simp; done) | (go_simp; rfl)) (S1.out.bk 1 rfl) (sect_size HYL.out) ?ss (fun q hq => one_of_map hq)) ?_
   case ss => rw [want_size HM.out.2, HM.out.1, agg_cells, HYL.out]; have := HK.out; omega
   have n0_ := Zq_.mk (show St w (World.setCells w11 g6 (k * 64) (y.f1.map (Value.int .u8))) ((g9, 24, #[.slice A8 p1.length c8, .int .i64 (left - 64), .bool false]) :: (g6, 40, want p1) :: [(g3, 24, #[.slice A ls.length c, .int .i64 left, .bool false])]) [(.slice A8 p1.length c8, p1), (.slice A ls.length c, ls)] from by have h_ := S1.out.wput 1 rfl HM.out.2 (by rw [HM.out.1]; exact HK.out) HYL.out; rw [E1.out] at h_; exact h_)
   clear S1
   have S1 := n0_
   clear n0_
   show K _ (World.setCells w11 g6 (k * 64) (y.f1.map (Value.int .u8)))
   generalize hw_ : World.setCells w11 _ _ _ = w12 at S1 ⊢
   clear hw_
   refine hK.out _ _ ⟨S1.out.bk 0 rfl, HEL.out _ S1.out.1⟩ (fun hHeld => ?_)
   clear hK K
   refine pure_ (i := 11) (N := some 9) (v := (.int .i64 (left - 64))) (a' := ?_) #[true,true,true,true,true,true,true,true,true,true,true,true,false] rfl rfl (by kernel_rfl) (fun _ _ _ h => h) ?_ ?_ ?_
   ·refine Or.inl ⟨by rfl, ?_⟩
    intro w'
    first | (go_simp; done) | (go_simp; with_reducible rfl) | (go_simp; rfl)
   rotate_left
   ·simp only [Act.put, sa_, sb_, sc_, i64_w, i32_w]
    rfl
   refine one_ (i := 12) (N := none) #[true,true,true,true,true,true,true,true,true,true,true,true,true] rfl rfl (by kernel_rfl) (by decide) (fun K hK => ?_)
   refine skip_ (by rfl) rfl (exec_store_whole 24 (.tmp 5) (.tmp 135) rfl (g := g3) (c := #[.slice A ls.length c, .int .i64 left, .bool false]) (c' := #[.slice A8 p1.length c8, .int .i64 (left - 64), .bool false]) (by first | rfl | (go_simp; done) | (go_simp; rfl)) (by first | rfl | (go_simp; done) | (go_simp; rfl)) (S1.out.bk 2 rfl) (by kernel_rfl) rfl (disk_one ..)) ?_
   have n0_ := Zq_.mk (show St w (World.setRow w12 g3 #[.slice A8 p1.length c8, .int .i64 (left - 64), .bool false]) ((g9, 24, #[.slice A8 p1.length c8, .int .i64 (left - 64), .bool false]) :: (g6, 40, want p1) :: [(g3, 24, #[.slice A8 p1.length c8, .int .i64 (left - 64), .bool false])]) [(.slice A8 p1.length c8, p1), (.slice A ls.length c, ls)] from S1.out.row 2 rfl _)
   clear S1
   have S1 := n0_
   clear n0_
   generalize hw_ : World.setRow w12 _ _ = w13 at S1 ⊢
   clear hw_
   refine hK.out _ _ ⟨S1.out.bk 0 rfl, HEL.out _ S1.out.1⟩ (fun hHeld => ?_)
   clear hK K
   refine done_ (by kernel_rfl) ?_
   clear hHeld
   have hw2 := HW2.out
   go_wp2
   go_roundg (l0.length - i)
   case measure => have := HI.out.2; have := HII.out; omega
   case rel => exact ⟨i + 1, p1, left - 64, A8, c8, by first | rfl | (simp; done), by first | rfl | exact congrArg (Value.int .i64) HW2.out, ⟨by have := HII.out; omega, by have := HI.out.2; have := HII.out; omega⟩, HGO, ⟨by have := HA.out; have := HLT.out; omega⟩, ⟨by rw [← E1.out, List.length_set]; exact HM.out.1, fun x hx => S1.out.sect 0 rfl x hx⟩, ⟨S1.out.less.only (fun d hd => by simp only [List.mem_singleton] at hd; subst hd; simp)⟩⟩
  ·skip
   have hi2 : i = l0.length := by have := HI.out.1; omega
   subst hi2
   clear hi
   have y5_1 := (qb_ (S0.out.bk 1 rfl) 1).trans rfl
   have y5_2 := (qb_ (S0.out.bk 1 rfl) 2).trans rfl
   go_wp2
   go_ret
   exact ⟨rfl, S0.out.1⟩
end Go.Proofs.Ytckodbfjihcddaa.P

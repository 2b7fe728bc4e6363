/- What this function of the program comes to, and that the machine's call does it. No condition. -/
import Derived.Test.YtfoeahjbkmdgfaaP0
import Derived.Test.YtfoeahjbkmdgfaaHw
namespace Go.Proofs.Ytfoeahjbkmdgfaa.P
set_option maxHeartbeats 16000000
set_option maxRecDepth 100000
open Go.RowKit Go.Proofs.YtfoeahjbkmdgfaaW.PrintWords Go.Proofs.YtfoeahjbkmdgfaaW.PrintLast Go.Proofs.YtfoeahjbkmdgfaaW.PrintMore
attribute [local go_sem] qw_ qu_ va_ qz_ qq_ qp_ qv_ qt_ Go.Proofs.YtfoeahjbkmdgfaaW.Hw.string_gtr
set_option linter.unusedVariables false
set_option linter.unusedSimpArgs false
open Go.Proofs.YtfoeahjbkmdgfaaW.Hw in
theorem InsertE.end (v : Value) (l0 : List S40) (x : S40) (gv : Nat) (base : Nat) (ok : Nat → Prop) (w : World) (hR : Kd.R k40 40 w base ok v l0) (hbase : base ≤ w.heap.size) (hlen : l0.length < 1099511627776) (hfresh : ∀ k, w.heap.size ≤ k → ok k)
  (hv : w.heap[gv]? = some (.cells #[.int .i64 x.f0, .int .i64 x.f1, .string x.f2] 40 (0, 0))) :
  Calls Try.prog 50 #[v, .int .i64 (l0.length : Int), .slice (some ⟨gv, 0, none⟩) 1 1] w fun e w' => ∃ v', e = .returned v' ∧ Kd.R k40 40 w' base ok v' (l0 ++ [x]) ∧ w.grownBy w' v.ownBlock := by
 obtain ⟨A0, c0, rfl, hlc, hC⟩ := Kd.R_reads hR; have HR := Zq_.mk hR
 have HRow : Zq_ (∀ W : World, w.grownBy W none → ReadsRow ((k40).M W base (fun _ => False)) (k40).sz W (some ⟨gv, 0, none⟩) 1 [x]) := ⟨fun W hW => ⟨rfl, by decide, fun _ => ⟨⟨gv, 0, none⟩, rfl, fun j p hj => by
  have hW2 : W.heap[gv]? = some (.cells #[.int .i64 x.f0, .int .i64 x.f1, .string x.f2] 40 (0, 0)) := (hW.block gv (blk_lt hv) (by simp)).trans hv
  match j, hj with
  | 0, hj =>
   have hp : x = p := by simpa using hj
   subst hp; refine ⟨[.int .i64 x.f0, .int .i64 x.f1, .string x.f2], rfl, k40_mkM W base _ x, fun q u hu => ?_⟩
   have : (⟨gv, 0, none⟩ : Addr).add (0 * (k40).sz + q) = ⟨gv, q, none⟩ := by rw [Nat.zero_mul, Nat.zero_add, add_plain]
   rw [this, qj_ hW2]
   simpa using hu
  | j + 1, hj => simp at hj⟩⟩⟩
 have HL := Zq_.mk hlen; have HF := Zq_.mk hfresh; have HB := Zq_.mk hbase; have hcap : ((l0.length : Int) ≤ (c0 : Int)) = True := eq_true (by omega); have h0 : ((0 : Int) ≤ (l0.length : Int)) = True := eq_true (by omega); clear hR hbase hlen hfresh hv hC hlc
 cases A0 with
 | none =>
  go_enter Try.func50, Try.ntmps50
  go_wp2_with (first | ((with_reducible refine qy_ (b := .append) (xs := #[.tmp 23, .tmp 24]) rfl ?_); at_builtin; refine Kd.R_append_rows k40 (w0 := w) base rfl (.tmp 23) (.tmp 24) 22 40 (.agg #[(.int .i64 0), (.int .i64 0), (.string ⟨#[]⟩)]) 32 rfl Try.underlying22 info40 rfl (by decide) (by omega) _ l0 [x] _ _ _ ok (fun _ => False) rfl rfl HR.out (HRow.out _ (grown_self _ _)) (fun _ _ h => h) (fun _ h => h.elim) HF.out (Below.refl _ _) HB.out (by have := HL.out; omega) ?_; intro v7 w9 ho hb hg hat; have HO := Zq_.mk ho; have HG := Zq_.mk hg; clear ho hb hg hat))
  all_goals go_ret
  all_goals exact ⟨_, rfl, HO.out, HG.out⟩
 | some ad =>
  go_enter Try.func50, Try.ntmps50
  go_wp2_with (first | ((with_reducible refine qy_ (b := .append) (xs := #[.tmp 23, .tmp 24]) rfl ?_); at_builtin; refine Kd.R_append_rows k40 (w0 := w) base rfl (.tmp 23) (.tmp 24) 22 40 (.agg #[(.int .i64 0), (.int .i64 0), (.string ⟨#[]⟩)]) 32 rfl Try.underlying22 info40 rfl (by decide) (by omega) _ l0 [x] _ _ _ ok (fun _ => False) rfl rfl HR.out (HRow.out _ (grown_self _ _)) (fun _ _ h => h) (fun _ h => h.elim) HF.out (Below.refl _ _) HB.out (by have := HL.out; omega) ?_; intro v7 w9 ho hb hg hat; have HO := Zq_.mk ho; have HG := Zq_.mk hg; clear ho hb hg hat))
  all_goals go_ret
  all_goals exact ⟨_, rfl, HO.out, HG.out⟩
open Go.Proofs.YtfoeahjbkmdgfaaW.Hw in
theorem InsertE.room (g n cap : Nat) (l0 : List S40) (i : Nat) (x : S40) (gv : Nat) (base : Nat) (ok : Nat → Prop) (w : World) (hR : Kd.R k40 40 w base ok (.slice (some ⟨g, 0, none⟩) n cap) l0) (hbase : base ≤ w.heap.size) (hlen : l0.length < 1099511627776) (hi : i < n) (hcap : n + 1 ≤ cap) (hne : gv ≠ g)
  (hv : w.heap[gv]? = some (.cells #[.int .i64 x.f0, .int .i64 x.f1, .string x.f2] 40 (0, 0))) :
  Calls Try.prog 50 #[.slice (some ⟨g, 0, none⟩) n cap, .int .i64 (i : Int), .slice (some ⟨gv, 0, none⟩) 1 1] w fun e w' => ∃ v', e = .returned v' ∧ Kd.R k40 40 w' base ok v' (l0.take i ++ [x] ++ l0.drop i) ∧ w.grownBy w' (some g) := by
 obtain ⟨hn, _, _⟩ := Kd.R_reads' hR
 obtain ⟨hnc, aB⟩ : n ≤ cap ∧ cap ≤ 9223372036854775807 := by obtain ⟨_, _, _, h1, h2⟩ := Kd.R_block hR; exact ⟨h1, h2⟩
 have hz2 : ((i : Int) == (n : Int)) = false := beq_false_of_ne (by omega)
 have hw1 : IntKind.i64.wrap ((i : Int) + 1) = (i : Int) + 1 := by rw [IntKind.wrap_i64]; omega
 have hw2 : wrap64 ((i : Int) + 1) = (i : Int) + 1 := by unfold wrap64; omega
 have hw3 : wrap64 ((n : Int) + 1) = (n : Int) + 1 := by unfold wrap64; omega
 have hw4 : IntKind.i64.wrap ((n : Int) + 1) = (n : Int) + 1 := by rw [IntKind.wrap_i64]; omega
 have ht1 : ((i : Int) + 1).toNat = i + 1 := by omega
 have ht2 : ((n : Int) + 1).toNat = n + 1 := by omega
 have hb1 : (0 : Int) ≤ (i : Int) + 1 := by omega
 have hb2 : (0 : Int) ≤ (n : Int) + 1 := by omega
 have hb3 : ((n : Int) + 1 ≤ (cap : Int)) = True := eq_true (by omega); have hb4 : decide ((cap : Int) < (n : Int) + 1) = false := decide_eq_false (by omega); have hb5 : ((i : Int) ≤ (n : Int)) = True := eq_true (by omega); have hb6 : ((i : Int) ≤ (n : Int) + 1) = True := eq_true (by omega); have hb7 : ((i : Int) + 1 ≤ (n : Int) + 1) = True := eq_true (by omega); have hb8 : (cap = i) = False := eq_false (by omega); have hb9 : (cap = i + 1) = False := eq_false (by omega); have hb10 : ((n : Int) ≤ (cap : Int)) = True := eq_true (by omega); have hR0 := Kd.R_drew hR
 obtain ⟨cur, hcur, hcur3⟩ : ∃ cur : Array Value, w.drew.heap[g]? = some (.cells cur 40 (0, 0)) ∧ cur.size = cap * 3 := by obtain ⟨c, h1, h2, _, _⟩ := Kd.R_block hR0; exact ⟨c, h1, h2⟩
 obtain ⟨cs, hcl, hcc, hrep, hR2, hg2⟩ := Kd.R_shift hR0 i hi hcap; have h1c := Kd.reps_one hrep (by decide) (fun q c hp u hu => (k40).K_one ((k40).K_of_M hp) u hu); have hcl3 : cs.length = (n - i) * 3 := hcl; clear hcl
 have hfitc : n * 3 + 3 ≤ cap * 3 := by omega
 have hvd : (w.drew).heap[gv]? = some (.cells #[.int .i64 x.f0, .int .i64 x.f1, .string x.f2] 40 (0, 0)) := hv; have hw0 : w.heap[g]? = some (.cells cur 40 (0, 0)) := hcur
 have hsa : w.shape? gv = some (40, 3) := by unfold World.shape?; rw [hv]; rfl
 have hsb : w.shape? g = some (40, cur.size) := by unfold World.shape?; rw [hw0]
 have hov : ∀ lb cb, (callFunc 60 #[.slice (some ⟨gv, 0, none⟩) 1 1, .slice (some ⟨g, (i + 1) * 3, none⟩) lb cb]).run Try.prog w = .ok (.value (.bool false)) w := fun lb cb => by
  rw [run_callFunc_extern Try.func60 (by kernel_rfl) (by kernel_rfl) (by kernel_rfl) (e := Extern.SlicesOverlaps.overlaps #[22, 22] #[4]) (by kernel_rfl),
   Lib.run_overlaps_apart w 22 4 40 Try.underlying22 3 (fun _ => by kernel_rfl) ⟨gv, 0, none⟩ ⟨g, (i + 1) * 3, none⟩ 1 1 lb cb hne 40 40 3 cur.size hsa hsb (by omega) (qr_ hv 0) (qr_ hv 3)]
  rfl
 have hcp1 : ∀ ty dl dc sc, dl = n - i → (Builtin.copy_ #[22, 22] ty #[.slice (some ⟨g, (i + 1) * 3, none⟩) dl dc, .slice (some ⟨g, i * 3, none⟩) (n + 1 - i) sc]).run Try.prog w.drew = .ok (goInt (n - i : Nat)) (w.drew.setCells g ((i + 1) * 3) cs) := fun ty dl dc sc hdl =>
  run_copy_rows w.drew 22 22 ty 40 3 g ((i + 1) * 3) dl dc ⟨g, i * 3, none⟩ (n + 1 - i) sc (n - i) cur 40 cs Try.underlying22 (by kernel_rfl) hcur (by simp only [Nat.min_def]; split <;> omega) hcl3 (fun j v hj => by rw [Addr.add_lit]; exact hcc j v hj) (by omega) h1c
 obtain ⟨W1, hW1⟩ : ∃ W1, W1 = w.drew.setCells g ((i + 1) * 3) cs := ⟨_, rfl⟩
 have hR1 : Kd.R k40 40 W1 base ok (.slice (some ⟨g, 0, none⟩) (n + 1) cap) (l0.take (i + 1) ++ l0.drop i) := by rw [hW1]; exact hR2
 have hg1 : w.drew.grownBy W1 (some g) := by rw [hW1]; exact hg2
 obtain ⟨cur1, hcur1, hcur13⟩ : ∃ cur : Array Value, W1.heap[g]? = some (.cells cur 40 (0, 0)) ∧ cur.size = cap * 3 := by obtain ⟨c, h1, h2, _, _⟩ := Kd.R_block hR1; exact ⟨c, h1, h2⟩
 have hv1 : W1.heap[gv]? = some (.cells #[.int .i64 x.f0, .int .i64 x.f1, .string x.f2] 40 (0, 0)) := by rw [hW1, setCells_far cs _ gv hne]; exact hvd
 have hcp2 : ∀ ty dc, (Builtin.copy_ #[22, 22] ty #[.slice (some ⟨g, i * 3, none⟩) (n + 1 - i) dc, .slice (some ⟨gv, 0, none⟩) 1 1]).run Try.prog W1 = .ok (goInt (1 : Nat)) (W1.setCells g (i * 3) [.int .i64 x.f0, .int .i64 x.f1, .string x.f2]) := fun ty dc =>
  run_copy_rows W1 22 22 ty 40 3 g (i * 3) (n + 1 - i) dc ⟨gv, 0, none⟩ 1 1 1 cur1 40 [.int .i64 x.f0, .int .i64 x.f1, .string x.f2] Try.underlying22 (by kernel_rfl) hcur1 (by simp only [Nat.min_def]; split <;> omega) rfl (fun j v hj => by rw [add_plain, qj_ hv1]; simpa using hj) (by simp only [List.length_cons, List.length_nil]; omega) (by intro q hq_; simp only [List.mem_cons, List.not_mem_nil, or_false] at hq_; rcases hq_ with rfl | rfl | rfl <;> rfl)
 have hx1 : Reps ((k40).M W1 base (fun k => ok k ∧ k ≠ g)) (k40).sz [x] [.int .i64 x.f0, .int .i64 x.f1, .string x.f2] := Reps.c3 (k40_mkM W1 base _ x) (Reps.none _ _); have HFIN := Zq_.mk (Kd.R_cp hR1 i [.int .i64 x.f0, .int .i64 x.f1, .string x.f2] [x] hx1 (by simp; omega)); have HG1 := Zq_.mk hg1; rw [← hW1] at hcp1
 have HL := Zq_.mk (show (l0.take (i + 1) ++ l0.drop i).take i ++ [x] ++ (l0.take (i + 1) ++ l0.drop i).drop (i + [x].length) = l0.take i ++ [x] ++ l0.drop i by
  have hlt : (l0.take (i + 1)).length = i + 1 := by rw [List.length_take]; omega
  rw [List.take_append_of_le_length (by omega), List.take_take, Nat.min_eq_left (by omega), List.length_singleton, List.drop_append_of_le_length (by omega), List.drop_eq_nil_of_le (by omega), List.nil_append])
 clear hn hR hR0 hR1 hR2 hg1 hg2 hrep hcc h1c hbase hlen hcur hcur1 hw0 hsa hsb hx1 hv1 hvd hv hnc aB hcl3 hcur3 hfitc hcur13 hne hi hcap hW1
 go_enter Try.func50, Try.ntmps50
 go_wp2_with (simp only [hov])
 go_region_law (refine step_copy_run rfl _ _ 22 22 rfl _ _ (by simp [Act.eval, Act.put]) (by simp [Act.eval, Act.put]) (hcp1 _ _ _ _ (by omega)) ?_)
 go_wp2_with (at_builtin; refine wpList_copy_run _ rfl _ _ 22 22 rfl _ _ rfl rfl (hcp2 _ _) ?_)
 go_ret
 have h1 := HFIN.out.1; rw [HL.out] at h1; exact ⟨_, rfl, h1, World.grownBy.trans (show w.grownBy w.drew (some g) from ⟨rfl, rfl, rfl, Nat.le_refl _, fun _ _ _ => rfl⟩) (World.grownBy.trans HG1.out HFIN.out.2)⟩
open Go.Proofs.YtfoeahjbkmdgfaaW.Hw in
theorem InsertE.grow (g n cap : Nat) (l0 : List S40) (i : Nat) (x : S40) (gv : Nat) (base : Nat) (ok : Nat → Prop) (w : World) (hR : Kd.R k40 40 w base ok (.slice (some ⟨g, 0, none⟩) n cap) l0) (hbase : base ≤ w.heap.size) (hlen : l0.length < 1099511627776) (hfresh : ∀ k, w.heap.size ≤ k → ok k) (hi : i < n) (hcap : cap < n + 1) (hne : gv ≠ g)
  (hv : w.heap[gv]? = some (.cells #[.int .i64 x.f0, .int .i64 x.f1, .string x.f2] 40 (0, 0))) :
  Calls Try.prog 50 #[.slice (some ⟨g, 0, none⟩) n cap, .int .i64 (i : Int), .slice (some ⟨gv, 0, none⟩) 1 1] w fun e w' => ∃ v', e = .returned v' ∧ Kd.R k40 40 w' base ok v' (l0.take i ++ [x] ++ l0.drop i) ∧ w.grownBy w' (some g) := by
 obtain ⟨hn, hnc0, _⟩ := Kd.R_reads' hR
 obtain ⟨hnc, aB⟩ : n ≤ cap ∧ cap ≤ 9223372036854775807 := by obtain ⟨_, _, _, h1, h2⟩ := Kd.R_block hR; exact ⟨h1, h2⟩
 have hz2 : ((i : Int) == (n : Int)) = false := beq_false_of_ne (by omega)
 have hw1 : IntKind.i64.wrap ((i : Int) + 1) = (i : Int) + 1 := by rw [IntKind.wrap_i64]; omega
 have hw2 : wrap64 ((i : Int) + 1) = (i : Int) + 1 := by unfold wrap64; omega
 have hw3 : wrap64 ((n : Int) + 1) = (n : Int) + 1 := by unfold wrap64; omega
 have hw4 : IntKind.i64.wrap ((n : Int) + 1) = (n : Int) + 1 := by rw [IntKind.wrap_i64]; omega
 have hw5 : IntKind.i64.wrap ((n : Int) + 1 - (i : Int)) = (n : Int) + 1 - (i : Int) := by rw [IntKind.wrap_i64]; omega
 have hw6 : wrap64 ((n : Int) + 1 - (i : Int)) = (n : Int) + 1 - (i : Int) := by unfold wrap64; omega
 have hm : (n : Int) + 1 - (i : Int) = ((n + 1 - i : Nat) : Int) := by omega
 have ht1 : ((i : Int) + 1).toNat = i + 1 := by omega
 have hb1 : (0 : Int) ≤ (i : Int) + 1 := by omega
 have hb3 : ((n : Int) + 1 ≤ (cap : Int)) = False := eq_false (by omega); have hb4 : decide ((cap : Int) < (n : Int) + 1) = true := decide_eq_true (by omega); have hb5 : ((i : Int) ≤ (n : Int)) = True := eq_true (by omega); have hb6 : ((i : Int) ≤ (n : Int) + 1) = True := eq_true (by omega); have hb7 : ((i : Int) + 1 ≤ (n : Int) + 1) = True := eq_true (by omega); have hb8 : (cap = i) = False := eq_false (by omega); have hb9 : ((i : Int) ≤ (cap : Int)) = True := eq_true (by omega); have hb10 : ((n : Int) ≤ (cap : Int)) = True := eq_true (by omega)
 have him : i + (n + 1 - i) = n + 1 := by omega
 have hsz3 : (k40).sz = 3 := rfl; obtain ⟨c', W1, hrun, hR1, hg1⟩ := Kd.R_zeros_grow (P := Try.prog) k40 base 22 3 22 40 (.agg #[(.int .i64 0), (.int .i64 0), (.string ⟨#[]⟩)]) 32 Try.underlying22 Try.underlying3 info40 rfl (by decide) (by omega) g i cap (l0.take i) ⟨0, 0, ⟨#[]⟩⟩ (k40_mkM w base _ ⟨0, 0, ⟨#[]⟩⟩) hfresh (Kd.R_take hR (by omega)) .i64 (n + 1 - i) (by omega) (by rw [List.length_take]; omega) hbase (by omega); rw [him, ← hm] at hrun; rw [him] at hR1; have hcn : n + 1 ≤ c' := (Kd.R_reads' hR1).2.1
 have hc63' : c' ≤ 9223372036854775807 := by obtain ⟨_, _, _, _, h2⟩ := Kd.R_block hR1; exact h2
 have hgvl : gv < w.heap.size := blk_lt hv; have hv1 : W1.heap[gv]? = some (.cells #[.int .i64 x.f0, .int .i64 x.f1, .string x.f2] 40 (0, 0)) := (hg1.block gv hgvl (by simp)).trans hv; have hx1 : Reps ((k40).M W1 base (fun k => ok k ∧ k ≠ w.heap.size)) (k40).sz [x] [.int .i64 x.f0, .int .i64 x.f1, .string x.f2] := Reps.c3 (k40_mkM W1 base _ x) (Reps.none _ _)
 obtain ⟨cur1, hcur1, hcur13⟩ : ∃ cur : Array Value, W1.heap[w.heap.size]? = some (.cells cur 40 (0, 0)) ∧ cur.size = c' * 3 := by obtain ⟨c, h1, h2, _, _⟩ := Kd.R_block hR1; exact ⟨c, h1, h2⟩
 obtain ⟨cs, hcl, hcc, hrep, hR3, hg3, hcur⟩ := Kd.R_grow_in hR hR1 hg1 hi rfl hx1; obtain ⟨cur, hcur, hcur3⟩ : ∃ cur : Array Value, (W1.setCells w.heap.size (i * 3) [.int .i64 x.f0, .int .i64 x.f1, .string x.f2]).drew.heap[w.heap.size]? = some (.cells cur 40 (0, 0)) ∧ cur.size = c' * 3 := hcur; have h1c := Kd.reps_one hrep (by decide) (fun q c hp u hu => (k40).K_one ((k40).K_of_M hp) u hu); have hcl3 : cs.length = (n - i) * 3 := hcl; clear hcl; have aA : ∀ j u, cs[j]? = some u → (W1.setCells w.heap.size (i * 3) [.int .i64 x.f0, .int .i64 x.f1, .string x.f2]).cell? ⟨g, i * 3 + j, none⟩ = some u := hcc; clear hcc
 have hcp1 : ∀ ty dl dc, dl = n + 1 - i → (Builtin.copy_ #[22, 22] ty #[.slice (some ⟨w.heap.size, i * 3, none⟩) dl dc, .slice (some ⟨gv, 0, none⟩) 1 1]).run Try.prog W1 = .ok (goInt (1 : Nat)) (W1.setCells w.heap.size (i * 3) [.int .i64 x.f0, .int .i64 x.f1, .string x.f2]) := fun ty dl dc hdl =>
  run_copy_rows W1 22 22 ty 40 3 w.heap.size (i * 3) dl dc ⟨gv, 0, none⟩ 1 1 1 cur1 40 [.int .i64 x.f0, .int .i64 x.f1, .string x.f2] Try.underlying22 (by kernel_rfl) hcur1 (by simp only [Nat.min_def]; split <;> omega) rfl (fun j v hj => by rw [add_plain, qj_ hv1]; simpa using hj) (by simp only [List.length_cons, List.length_nil]; omega) (by intro q hq_; simp only [List.mem_cons, List.not_mem_nil, or_false] at hq_; rcases hq_ with rfl | rfl | rfl <;> rfl)
 obtain ⟨W2, hW2⟩ : ∃ W2, W2 = W1.setCells w.heap.size (i * 3) [.int .i64 x.f0, .int .i64 x.f1, .string x.f2] := ⟨_, rfl⟩; rw [← hW2] at hcp1 aA hcur
 have hcp2 : ∀ ty dl dc sl sc, dl = n - i → sl = n - i → (Builtin.copy_ #[22, 22] ty #[.slice (some ⟨w.heap.size, (i + 1) * 3, none⟩) dl dc, .slice (some ⟨g, i * 3, none⟩) sl sc]).run Try.prog W2.drew = .ok (goInt (n - i : Nat)) (W2.drew.setCells w.heap.size ((i + 1) * 3) cs) := fun ty dl dc sl sc hdl hsl =>
  run_copy_rows W2.drew 22 22 ty 40 3 w.heap.size ((i + 1) * 3) dl dc ⟨g, i * 3, none⟩ sl sc (n - i) cur 40 cs Try.underlying22 (by kernel_rfl) hcur (by simp only [Nat.min_def]; split <;> omega) hcl3 (fun j v hj => by rw [Addr.add_lit]; exact aA j v hj) (by omega) h1c
 have HR3 : Zq_ (Kd.R k40 40 (W2.drew.setCells w.heap.size ((i + 1) * 3) cs) base ok (.slice (some ⟨w.heap.size, 0, none⟩) (n + 1) c') (l0.take i ++ [x] ++ l0.drop i)) := Zq_.mk (by rw [hW2]; exact hR3); have HG3 : Zq_ (w.grownBy (W2.drew.setCells w.heap.size ((i + 1) * 3) cs) none) := Zq_.mk (by rw [hW2]; exact hg3); obtain ⟨b, hb⟩ : ∃ b, b = w.heap.size := ⟨_, rfl⟩; rw [← hb] at hrun hcp1 hcp2 HR3 HG3; have hd8 : (c' = i) = False := eq_false (by omega); have hd9 : (c' = i + 1) = False := eq_false (by omega); have hd10 : ((n : Int) + 1 ≤ (c' : Int)) = True := eq_true (by omega); clear hm him hn hnc0 hR hR1 hR3 hg1 hg3 hrep aA h1c hbase hlen hcur hcur1 hx1 hv1 hv hnc aB hcl3 hcur3 hcur13 hne hi hcap hW2 hb hfresh hgvl hcn hc63' hsz3
 go_enter Try.func50, Try.ntmps50
 go_wp2_with (at_builtin; first | refine wpList_append_run _ rfl _ _ 22 3 rfl _ _ rfl rfl hrun ?_ | refine wpList_copy_run _ rfl _ _ 22 22 rfl _ _ rfl rfl (hcp1 _ _ _ (by omega)) ?_)
 go_region_law (refine step_copy_run rfl _ _ 22 22 rfl _ _ (by simp [Act.eval, Act.put]) (by simp [Act.eval, Act.put]) (hcp2 _ _ _ _ _ (by omega) (by omega)) ?_)
 go_wp2_with fail
 go_ret
 exact ⟨_, rfl, HR3.out, ⟨HG3.out.os, HG3.out.tape, HG3.out.output, HG3.out.size, fun k hk _ => HG3.out.block k hk (by simp)⟩⟩
open Go.Proofs.YtfoeahjbkmdgfaaW.Hw in
theorem InsertE.calls (v : Value) (l0 : List S40) (i : Nat) (hi : i ≤ l0.length) (x : S40) (gv : Nat) (base : Nat) (ok : Nat → Prop) (w : World) (hR : Kd.R k40 40 w base ok v l0) (hbase : base ≤ w.heap.size) (hlen : l0.length < 1099511627776) (hfresh : ∀ k, w.heap.size ≤ k → ok k) (hne : some gv ≠ v.ownBlock)
  (hv : w.heap[gv]? = some (.cells #[.int .i64 x.f0, .int .i64 x.f1, .string x.f2] 40 (0, 0))) :
  Calls Try.prog 50 #[v, .int .i64 (i : Int), .slice (some ⟨gv, 0, none⟩) 1 1] w fun e w' => ∃ v', e = .returned v' ∧ Kd.R k40 40 w' base ok v' (l0.take i ++ [x] ++ l0.drop i) ∧ w.grownBy w' v.ownBlock := by
 rcases Nat.lt_or_ge i l0.length with hlt | hge
 ·obtain ⟨g, cap, rfl⟩ : ∃ g cap, v = .slice (some ⟨g, 0, none⟩) l0.length cap := by
   obtain ⟨_, inner, ⟨_, ho2⟩, _⟩ := hR
   rcases ho2 with ⟨rfl, h0⟩ | ⟨g1, cap1, _, hx1, _⟩
   ·exact absurd h0 (by omega)
   ·exact ⟨g1, cap1, hx1⟩
  have hg : gv ≠ g := fun he => hne (by rw [he]; rfl)
  rcases Nat.lt_or_ge cap (l0.length + 1) with hc | hc
  ·exact InsertE.grow g l0.length cap l0 i x gv base ok w hR hbase hlen hfresh hlt hc hg hv
  ·exact InsertE.room g l0.length cap l0 i x gv base ok w hR hbase hlen hlt hc hg hv
 ·have he : i = l0.length := by omega
  subst he; rw [List.take_length, List.drop_length, List.append_nil]; exact InsertE.end v l0 x gv base ok w hR hbase hlen hfresh hv
end Go.Proofs.Ytfoeahjbkmdgfaa.P

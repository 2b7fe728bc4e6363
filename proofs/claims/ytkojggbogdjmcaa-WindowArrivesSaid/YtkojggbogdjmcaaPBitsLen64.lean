/- What this function of the program comes to, and that the machine's call does it: written by a program (wip/tool). No condition. -/
import Derived.Test.YtkojggbogdjmcaaP0
import Derived.Test.YtkojggbogdjmcaaHw
namespace Go.Proofs.Ytkojggbogdjmcaa.P
open Go.RowKit Go.Proofs.YtkojggbogdjmcaaW.PrintWords Go.Proofs.YtkojggbogdjmcaaW.PrintLast Go.Proofs.YtkojggbogdjmcaaW.PrintMore
attribute [local go_sem] max2_int min2_int max_two min_two max_three min_three max_four min_four   -- for this text's walks alone
set_option linter.unusedVariables false
set_option linter.unusedSimpArgs false
/-! ### bits_Len64: function 33 -/
def bits_Len64.f (x : Int) : Option Int := if 0 ≤ x then (if x ≤ 18446744073709551615 then some (Lib.bitLen x.toNat : Int) else none) else none
theorem len_fin (x y : Int) (c p : Nat) (hc : c ≤ 56) (hy0 : 0 ≤ y) (hy1 : y ≤ 255) (e : y.toNat = x.toNat / p) (s : Lib.bitLen x.toNat = c + Lib.bitLen (x.toNat / p)) :
  wrap64 ((c : Int) + wrap64 (Lib.len8 y)) = (Lib.bitLen x.toNat : Int) := by
 have l := Lib.bitLen_le8' y hy0 hy1
 rw [Lib.len8_of y hy0 hy1, s, ← e]
 generalize Lib.bitLen y.toNat = L at l ⊢
 clear s e
 unfold wrap64
 omega
theorem len_fin0 (y : Int) (hy0 : 0 ≤ y) (hy1 : y ≤ 255) : wrap64 (wrap64 (Lib.len8 y)) = (Lib.bitLen y.toNat : Int) := by
 have l := Lib.bitLen_le8' y hy0 hy1
 rw [Lib.len8_of y hy0 hy1]
 generalize Lib.bitLen y.toNat = L at l ⊢
 unfold wrap64
 omega
theorem len8tab_get (y : Int) (h : y.toNat < Lib.len8tab.size) : (((Lib.len8tab[y.toNat]'h).toNat : Nat) : Int) = Lib.len8 y := by
 simp only [Lib.len8, ByteArray.getElem?_lt' _ _ h, Option.getD_some]
set_option maxHeartbeats 4000000 in
set_option maxRecDepth 100000 in
theorem bits_Len64.calls (x r : Int) (w : World) (h : bits_Len64.f x = some r) :
  Calls Try.prog 33 #[.int .u64 x] w fun e w' => e = .returned (.int .i64 r) ∧ Drawn0 w w' := by
 unfold bits_Len64.f at h
 by_cases h0 : 0 ≤ x
 case neg => rw [if_neg h0] at h; cases h
 rw [if_pos h0] at h
 by_cases h1 : x ≤ 18446744073709551615
 case neg => rw [if_neg h1] at h; cases h
 rw [if_pos h1] at h
 obtain rfl := Option.some.inj h
 clear h
 go_enter Try.func33, Try.ntmps33
 go_wp2
 all_goals first
  | (exfalso; have hs := Lib.len8tab_size; omega)
  | skip
 all_goals (go_ret; refine ⟨congrArg Ending.returned (congrArg (Value.int IntKind.i64) ?_), Drawn0.refl _⟩)
 all_goals simp only [len8tab_get]
 all_goals first
  | exact len_fin x (x / 4294967296 / 65536 / 256) 56 72057594037927936 (by decide) (by omega) (by omega) (by omega) (Lib.bitLen_shift56 x.toNat (by omega) (by omega))
  | exact len_fin x (x / 4294967296 / 65536) 48 281474976710656 (by decide) (by omega) (by omega) (by omega) (Lib.bitLen_shift48 x.toNat (by omega) (by omega))
  | exact len_fin x (x / 4294967296 / 256) 40 1099511627776 (by decide) (by omega) (by omega) (by omega) (Lib.bitLen_shift40 x.toNat (by omega) (by omega))
  | exact len_fin x (x / 4294967296) 32 4294967296 (by decide) (by omega) (by omega) (by omega) (Lib.bitLen_shift32 x.toNat (by omega) (by omega))
  | exact len_fin x (x / 65536 / 256) 24 16777216 (by decide) (by omega) (by omega) (by omega) (Lib.bitLen_shift24 x.toNat (by omega) (by omega))
  | exact len_fin x (x / 65536) 16 65536 (by decide) (by omega) (by omega) (by omega) (Lib.bitLen_shift16 x.toNat (by omega) (by omega))
  | exact len_fin x (x / 256) 8 256 (by decide) (by omega) (by omega) (by omega) (Lib.bitLen_shift8 x.toNat (by omega) (by omega))
  | exact len_fin0 x (by omega) (by omega)
end Go.Proofs.Ytkojggbogdjmcaa.P

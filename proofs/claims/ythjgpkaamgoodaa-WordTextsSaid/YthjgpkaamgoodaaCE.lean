/- What some functions of the program compute, walked through once. -/
import Derived.Test.YthjgpkaamgoodaaCD
namespace Go.Vm.C01
open Go Go.Proofs
set_option linter.unusedVariables false
set_option linter.unusedSimpArgs false
set_option maxRecDepth 100000
set_option maxHeartbeats 8000000

noncomputable def rMulS : FSpec := { run := fun ins => match ins with
  | [.agg 4 (.u 64 a), .agg 4 (.u 64 b)] => some (.agg 4 (.u 64 (wOf (wv a * wv b))), [])
  | _ => none }
theorem rMul_sound : SoundFn Try.prog glB 38 rMulS.run := by
  have G := good_of (P := Try.prog) glB_ro (l := [(71, digS), (77, prodS), (73, wordS)]) (by simp only [List.forall_mem_cons]; exact ⟨dig_sound, prod_sound, word_sound, by simp⟩)
  refine soundFn_of_W G Try.func38 (by decide) rfl (by decide) ?_
  intro ins ret outs h
  unfold rMulS at h
  dsimp only at h
  split at h
  rotate_left
  · cases h
  rename_i a b
  cases h
  refine ⟨by show 2 ≤ 11; decide, fun w0 ext av => ?_⟩
  rw [Try.ntmps38, st0_eq]
  have e := prodW a b
  have l1 : (prodF (digF a 16) (digF b 16)).length = 32 := by rw [prodF_len, digF_len, digF_len]
  have l2 := digF_len a 16
  have l3 := digF_len b 16
  repeat' first
    | refine W.seq ?_ | (refine W.regS G ?_; dsimp only) | refine SW.nil ?_ | refine thenQ_normal ?_ | refine W.skip ?_ | refine W.exit ?_ | refine thenQ_exit ?_ | refine inBlockQ_exit ?_ | refine inBlockQ_normal ?_
    | (apply SW.toC; refine SWcall.go (And.intro digS.eq_1 (And.intro prodS.eq_1 (And.intro wordS.eq_1 (And.intro l1 (And.intro l2 l3))))) ?_) | (apply SW.toOp; refine SWop.go (And.intro digS.eq_1 (And.intro prodS.eq_1 (And.intro wordS.eq_1 (And.intro l1 (And.intro l2 l3))))) ?_) | (apply SW.toCG; first | refine SWcall.yes (And.intro digS.eq_1 (And.intro prodS.eq_1 (And.intro wordS.eq_1 (And.intro l1 (And.intro l2 l3))))) ?_ | refine SWcall.no (And.intro digS.eq_1 (And.intro prodS.eq_1 (And.intro wordS.eq_1 (And.intro l1 (And.intro l2 l3))))) ?_) | (apply SW.toG; first | refine SWop.yes (And.intro digS.eq_1 (And.intro prodS.eq_1 (And.intro wordS.eq_1 (And.intro l1 (And.intro l2 l3))))) ?_ | refine SWop.no (And.intro digS.eq_1 (And.intro prodS.eq_1 (And.intro wordS.eq_1 (And.intro l1 (And.intro l2 l3))))) ?_)
  refine W.drawS G [[], [0], [], [2, 1, 0], [1, 0, 3, 2], [4, 1, 0, 3, 2], [5, 4, 1, 0, 3, 2]] hmix ?_
  dsimp only
  repeat' first
    | (apply DW.nil; (focus (decide +kernel)))
    | (apply DW.toC; refine DWcall.go (And.intro digS.eq_1 (And.intro prodS.eq_1 (And.intro wordS.eq_1 (And.intro l1 (And.intro l2 l3))))) ?_) | (apply DW.toOp; refine DWop.go (And.intro digS.eq_1 (And.intro prodS.eq_1 (And.intro wordS.eq_1 (And.intro l1 (And.intro l2 l3))))) ?_) | (apply DW.toCG; first | refine DWcall.yes (And.intro digS.eq_1 (And.intro prodS.eq_1 (And.intro wordS.eq_1 (And.intro l1 (And.intro l2 l3))))) ?_ | refine DWcall.no (And.intro digS.eq_1 (And.intro prodS.eq_1 (And.intro wordS.eq_1 (And.intro l1 (And.intro l2 l3))))) ?_) | (apply DW.toG; first | refine DWop.yes (And.intro digS.eq_1 (And.intro prodS.eq_1 (And.intro wordS.eq_1 (And.intro l1 (And.intro l2 l3))))) ?_ | refine DWop.no (And.intro digS.eq_1 (And.intro prodS.eq_1 (And.intro wordS.eq_1 (And.intro l1 (And.intro l2 l3))))) ?_)
  repeat' first
    | refine W.seq ?_ | (refine W.regS G ?_; dsimp only) | refine SW.nil ?_ | refine thenQ_normal ?_ | refine W.skip ?_ | refine W.exit ?_ | refine thenQ_exit ?_ | refine inBlockQ_exit ?_ | refine inBlockQ_normal ?_ | refine W.block ?_
    | (apply SW.toC; refine SWcall.go (And.intro digS.eq_1 (And.intro prodS.eq_1 (And.intro wordS.eq_1 (And.intro l1 (And.intro l2 l3))))) ?_) | (apply SW.toOp; refine SWop.go (And.intro digS.eq_1 (And.intro prodS.eq_1 (And.intro wordS.eq_1 (And.intro l1 (And.intro l2 l3))))) ?_) | (apply SW.toCG; first | refine SWcall.yes (And.intro digS.eq_1 (And.intro prodS.eq_1 (And.intro wordS.eq_1 (And.intro l1 (And.intro l2 l3))))) ?_ | refine SWcall.no (And.intro digS.eq_1 (And.intro prodS.eq_1 (And.intro wordS.eq_1 (And.intro l1 (And.intro l2 l3))))) ?_) | (apply SW.toG; first | refine SWop.yes (And.intro digS.eq_1 (And.intro prodS.eq_1 (And.intro wordS.eq_1 (And.intro l1 (And.intro l2 l3))))) ?_ | refine SWop.no (And.intro digS.eq_1 (And.intro prodS.eq_1 (And.intro wordS.eq_1 (And.intro l1 (And.intro l2 l3))))) ?_)
  refine W.ret ?_
  repeat' first
    | refine thenQ_ret ?_
    | refine inBlockQ_ret ?_
  refine fin1Z (And.intro digS.eq_1 (And.intro prodS.eq_1 (And.intro wordS.eq_1 (And.intro l1 (And.intro l2 l3))))) ?_
  rw [← e]
  exact leV_refl

/-! ### differences -/
theorem notW (a : List (BitVec 64)) : [~~~ a.getD 0 0, ~~~ a.getD 1 0, ~~~ a.getD 2 0, ~~~ a.getD 3 0] = wOf (B256 - 1 - wv a) := by
  refine eq_wOf rfl ?_
  have e : wv a = 0 + B64 ^ 0 * (a.getD 0 0).toNat + B64 ^ 1 * (a.getD 1 0).toNat + B64 ^ 2 * (a.getD 2 0).toNat + B64 ^ 3 * (a.getD 3 0).toNat := rfl
  rw [wv_four, e]
  simp only [BitVec.toNat_not]
  have h0 := (a.getD 0 0).isLt
  have h1 := (a.getD 1 0).isLt
  have h2 := (a.getD 2 0).isLt
  have h3 := (a.getD 3 0).isLt
  generalize (a.getD 0 0).toNat = x at *
  generalize (a.getD 1 0).toNat = y at *
  generalize (a.getD 2 0).toNat = z at *
  generalize (a.getD 3 0).toNat = t at *
  simp only [B64, B256, Nat.reducePow]
  congr 1
  omega
noncomputable def rNotS : FSpec := { run := fun ins => match ins with
  | [.agg 4 (.u 64 a)] => some (.agg 4 (.u 64 (wOf (B256 - 1 - wv a))), [])
  | _ => none }
noncomputable def rNegS : FSpec := { run := fun ins => match ins with
  | [.agg 4 (.u 64 a)] => some (.agg 4 (.u 64 (wOf (B256 - wv a))), [])
  | _ => none }
theorem negW (a : List (BitVec 64)) : wOf (wv (wOf (B256 - 1 - wv a)) + wv [1#64, 0#64, 0#64, 0#64]) = wOf (B256 - wv a) := by
  have h := wv_lt a
  rw [wOf_small, wv_wOf, wv_wOf]
  have e1 : (1#64).toNat % B256 = 1 := by decide
  rw [e1]
  refine wOf_eq ?_
  generalize wv a = x at h
  unfold B256 at *
  omega
noncomputable def rSubS : FSpec := { run := fun ins => match ins with
  | [.agg 4 (.u 64 a), .agg 4 (.u 64 b)] => some (.agg 4 (.u 64 (wOf (wv a + B256 - wv b))), [])
  | _ => none }
theorem rsubW (a b : List (BitVec 64)) : wOf (wv a + wv (wOf (B256 - wv b))) = wOf (wv a + B256 - wv b) := by
  have h := wv_lt b
  rw [wv_wOf]
  refine wOf_eq ?_
  generalize wv a = x
  generalize wv b = y at h
  unfold B256 at *
  omega
end Go.Vm.C01

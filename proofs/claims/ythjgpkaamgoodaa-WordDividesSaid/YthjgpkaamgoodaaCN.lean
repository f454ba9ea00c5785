/- What some functions of the program compute, walked through once. -/
import Derived.Test.YthjgpkaamgoodaaCM
namespace Go.Vm.C01
open Go Go.Proofs
set_option linter.unusedVariables false
set_option linter.unusedSimpArgs false
set_option maxRecDepth 100000
set_option maxHeartbeats 8000000

def H255 : Nat := 57896044618658097711785492504343953926634992332820282019728792003956564819968
theorem top_bit (a : List (BitVec 64)) : a.getD 3 0 >>> 63 = 1#64 ↔ H255 ≤ wv a := by
  have e : wv a = wvk a 3 + B64 ^ 3 * (a.getD 3 0).toNat := rfl
  have h3 := wvk_lt a 3
  have hx := (a.getD 3 0).isLt
  have hs : (a.getD 3 0 >>> 63).toNat = (a.getD 3 0).toNat / 2 ^ 63 := by rw [BitVec.toNat_ushiftRight, Nat.shiftRight_eq_div_pow]
  rw [e]
  constructor
  · intro h
    rw [h] at hs
    have h1 : (1#64).toNat = 1 := rfl
    rw [h1] at hs
    generalize (a.getD 3 0).toNat = x at *
    generalize wvk a 3 = y at *
    simp only [B64, H255, Nat.reducePow] at *
    omega
  · intro h
    refine BitVec.eq_of_toNat_eq ?_
    rw [hs]
    show _ = 1
    generalize (a.getD 3 0).toNat = x at *
    generalize wvk a 3 = y at *
    simp only [B64, H255, Nat.reducePow] at *
    omega
noncomputable def signedS : FSpec := { run := fun ins => match ins with
  | [.agg 4 (.u 64 a)] => chk (a.length = 4) (some (.tup [.b (decide (H255 ≤ wv a)), .agg 4 (.u 64 (if H255 ≤ wv a then wOf (B256 - wv a) else a))], []))
  | _ => none }
theorem signed_sound : SoundFn Try.prog glB 72 signedS.run := by
  have G := good_of (P := Try.prog) glB_ro (l := [(76, rNegS)]) (by simp only [List.forall_mem_cons]; exact ⟨rNeg_sound, by simp⟩)
  refine soundFn_of_W G Try.func72 (by decide) rfl (by decide) ?_
  intro ins ret outs h
  unfold signedS at h
  dsimp only at h
  split at h
  rotate_left
  · cases h
  rename_i a
  obtain ⟨la, h'⟩ := chk_some h
  clear h
  cases h'
  refine ⟨by show 1 ≤ 11; decide, fun w0 ext av => ?_⟩
  rw [Try.ntmps72, st0_eq]
  have ht := top_bit a
  repeat' first
    | refine W.seq ?_ | (refine W.regS G ?_; dsimp only) | refine SW.nil ?_ | refine thenQ_normal ?_ | refine W.skip ?_ | refine W.exit ?_ | refine thenQ_exit ?_ | refine inBlockQ_exit ?_ | refine inBlockQ_normal ?_ | refine W.block ?_
    | (apply SW.toC; refine SWcall.go (And.intro rNegS.eq_1 la) ?_) | (apply SW.toOp; refine SWop.go (And.intro rNegS.eq_1 la) ?_) | (apply SW.toCG; first | refine SWcall.yes (And.intro rNegS.eq_1 la) ?_ | refine SWcall.no (And.intro rNegS.eq_1 la) ?_) | (apply SW.toG; first | refine SWop.yes (And.intro rNegS.eq_1 la) ?_ | refine SWop.no (And.intro rNegS.eq_1 la) ?_)
  refine W.condZ G (And.intro rNegS.eq_1 la) ?_ ?_
  all_goals intro h1
  · have h1' := ht.1 (yes_of h1)
    rw [if_pos h1', decide_eq_true h1']
    repeat' first
      | refine W.seq ?_ | (refine W.regS G ?_; dsimp only) | refine SW.nil ?_ | refine thenQ_normal ?_ | refine W.skip ?_ | refine W.exit ?_ | refine thenQ_exit ?_ | refine inBlockQ_exit ?_ | refine inBlockQ_normal ?_ | refine W.block ?_
      | (apply SW.toC; refine SWcall.go (And.intro rNegS.eq_1 la) ?_) | (apply SW.toOp; refine SWop.go (And.intro rNegS.eq_1 la) ?_) | (apply SW.toCG; first | refine SWcall.yes (And.intro rNegS.eq_1 la) ?_ | refine SWcall.no (And.intro rNegS.eq_1 la) ?_) | (apply SW.toG; first | refine SWop.yes (And.intro rNegS.eq_1 la) ?_ | refine SWop.no (And.intro rNegS.eq_1 la) ?_)
    refine W.ret ?_
    repeat' first
      | refine thenQ_ret ?_
      | refine inBlockQ_ret ?_
    refine fin2Z (And.intro rNegS.eq_1 la) ?_ ?_
    · exact leV_refl
    · exact leV_refl
  have h1' : ¬ H255 ≤ wv a := fun c => no_of h1 (ht.2 c)
  rw [if_neg h1', decide_eq_false h1']
  repeat' first
    | refine W.seq ?_ | (refine W.regS G ?_; dsimp only) | refine SW.nil ?_ | refine thenQ_normal ?_ | refine W.skip ?_ | refine W.exit ?_ | refine thenQ_exit ?_ | refine inBlockQ_exit ?_ | refine inBlockQ_normal ?_
    | (apply SW.toC; refine SWcall.go (And.intro rNegS.eq_1 la) ?_) | (apply SW.toOp; refine SWop.go (And.intro rNegS.eq_1 la) ?_) | (apply SW.toCG; first | refine SWcall.yes (And.intro rNegS.eq_1 la) ?_ | refine SWcall.no (And.intro rNegS.eq_1 la) ?_) | (apply SW.toG; first | refine SWop.yes (And.intro rNegS.eq_1 la) ?_ | refine SWop.no (And.intro rNegS.eq_1 la) ?_)
  refine W.drawS G [[], [], [0, 1]] hmix ?_
  dsimp only
  repeat' first
    | (apply DW.nil; (focus (decide +kernel)))
    | (apply DW.toC; refine DWcall.go (And.intro rNegS.eq_1 la) ?_) | (apply DW.toOp; refine DWop.go (And.intro rNegS.eq_1 la) ?_) | (apply DW.toCG; first | refine DWcall.yes (And.intro rNegS.eq_1 la) ?_ | refine DWcall.no (And.intro rNegS.eq_1 la) ?_) | (apply DW.toG; first | refine DWop.yes (And.intro rNegS.eq_1 la) ?_ | refine DWop.no (And.intro rNegS.eq_1 la) ?_)
  repeat' first
    | refine W.seq ?_ | (refine W.regS G ?_; dsimp only) | refine SW.nil ?_ | refine thenQ_normal ?_ | refine W.skip ?_ | refine W.exit ?_ | refine thenQ_exit ?_ | refine inBlockQ_exit ?_ | refine inBlockQ_normal ?_ | refine W.block ?_
    | (apply SW.toC; refine SWcall.go (And.intro rNegS.eq_1 la) ?_) | (apply SW.toOp; refine SWop.go (And.intro rNegS.eq_1 la) ?_) | (apply SW.toCG; first | refine SWcall.yes (And.intro rNegS.eq_1 la) ?_ | refine SWcall.no (And.intro rNegS.eq_1 la) ?_) | (apply SW.toG; first | refine SWop.yes (And.intro rNegS.eq_1 la) ?_ | refine SWop.no (And.intro rNegS.eq_1 la) ?_)
  refine W.ret ?_
  repeat' first
    | refine thenQ_ret ?_
    | refine inBlockQ_ret ?_
  refine fin2Z (And.intro rNegS.eq_1 la) ?_ ?_
  · exact leV_refl
  · exact leV_refl
noncomputable def rSCmpS : FSpec := { run := fun ins => match ins with
  | [.agg 4 (.u 64 a), .agg 4 (.u 64 b)] => chk (a.length = 4 ∧ b.length = 4) (some (.i (cmpI (sg a) (sg b)), []))
  | _ => none }
theorem rSCmp_sound : SoundFn Try.prog glB 34 rSCmpS.run := by
  have G := good_of (P := Try.prog) glB_ro (l := [(72, signedS), (33, rCmpS)]) (by simp only [List.forall_mem_cons]; exact ⟨signed_sound, rCmp_sound, by simp⟩)
  refine soundFn_of_W G Try.func34 (by decide) rfl (by decide) ?_
  intro ins ret outs h
  unfold rSCmpS at h
  dsimp only at h
  split at h
  rotate_left
  · cases h
  rename_i a b
  obtain ⟨hl, h'⟩ := chk_some h
  clear h
  cases h'
  obtain ⟨la, lb⟩ := hl
  refine ⟨by show 2 ≤ 26; decide, fun w0 ext av => ?_⟩
  rw [Try.ntmps34, st0_eq]
  have ha := wv_lt a
  have hb := wv_lt b
  have hI : cmpI (sg a) (sg b) = if sg a < sg b then -1 else if sg b < sg a then 1 else 0 := rfl
  have hJ : cmpI (wv a) (wv b) = if wv a < wv b then -1 else if wv b < wv a then 1 else 0 := rfl
  have lm : (if H255 ≤ wv a then wOf (B256 - wv a) else a).length = 4 := by
    split
    · rfl
    · exact la
  have ln : (if H255 ≤ wv b then wOf (B256 - wv b) else b).length = 4 := by
    split
    · rfl
    · exact lb
  obtain ⟨m, hm⟩ : ∃ m, decide (H255 ≤ wv a) = m := ⟨_, rfl⟩
  obtain ⟨n, hn⟩ : ∃ n, decide (H255 ≤ wv b) = n := ⟨_, rfl⟩
  have sa : sg a = (wv a + H255) % B256 := rfl
  have sb : sg b = (wv b + H255) % B256 := rfl
  repeat' first
    | refine W.seq ?_ | (refine W.regS G ?_; dsimp only) | refine SW.nil ?_ | refine thenQ_normal ?_ | refine W.skip ?_ | refine W.exit ?_ | refine thenQ_exit ?_ | refine inBlockQ_exit ?_ | refine inBlockQ_normal ?_ | refine W.block ?_
    | (apply SW.toC; refine SWcall.go (And.intro signedS.eq_1 (And.intro la (And.intro lb (And.intro hm (And.intro hn rCmpS.eq_1))))) ?_) | (apply SW.toOp; refine SWop.go (And.intro signedS.eq_1 (And.intro la (And.intro lb (And.intro hm (And.intro hn rCmpS.eq_1))))) ?_) | (apply SW.toCG; first | refine SWcall.yes (And.intro signedS.eq_1 (And.intro la (And.intro lb (And.intro hm (And.intro hn rCmpS.eq_1))))) ?_ | refine SWcall.no (And.intro signedS.eq_1 (And.intro la (And.intro lb (And.intro hm (And.intro hn rCmpS.eq_1))))) ?_) | (apply SW.toG; first | refine SWop.yes (And.intro signedS.eq_1 (And.intro la (And.intro lb (And.intro hm (And.intro hn rCmpS.eq_1))))) ?_ | refine SWop.no (And.intro signedS.eq_1 (And.intro la (And.intro lb (And.intro hm (And.intro hn rCmpS.eq_1))))) ?_)
  refine W.condZ G (And.intro signedS.eq_1 (And.intro la (And.intro lb (And.intro hm (And.intro hn rCmpS.eq_1))))) ?_ ?_
  all_goals intro hc
  · have hne : ¬ m = n := ne_of_nd hc
    repeat' first
      | refine W.seq ?_ | (refine W.regS G ?_; dsimp only) | refine SW.nil ?_ | refine thenQ_normal ?_ | refine W.skip ?_ | refine W.exit ?_ | refine thenQ_exit ?_ | refine inBlockQ_exit ?_ | refine inBlockQ_normal ?_ | refine W.block ?_
      | (apply SW.toC; refine SWcall.go (And.intro signedS.eq_1 (And.intro la (And.intro lb (And.intro hm (And.intro hn rCmpS.eq_1))))) ?_) | (apply SW.toOp; refine SWop.go (And.intro signedS.eq_1 (And.intro la (And.intro lb (And.intro hm (And.intro hn rCmpS.eq_1))))) ?_) | (apply SW.toCG; first | refine SWcall.yes (And.intro signedS.eq_1 (And.intro la (And.intro lb (And.intro hm (And.intro hn rCmpS.eq_1))))) ?_ | refine SWcall.no (And.intro signedS.eq_1 (And.intro la (And.intro lb (And.intro hm (And.intro hn rCmpS.eq_1))))) ?_) | (apply SW.toG; first | refine SWop.yes (And.intro signedS.eq_1 (And.intro la (And.intro lb (And.intro hm (And.intro hn rCmpS.eq_1))))) ?_ | refine SWop.no (And.intro signedS.eq_1 (And.intro la (And.intro lb (And.intro hm (And.intro hn rCmpS.eq_1))))) ?_)
    refine W.condZ G (And.intro signedS.eq_1 (And.intro la (And.intro lb (And.intro hm (And.intro hn rCmpS.eq_1))))) ?_ ?_
    all_goals intro h1
    · subst h1
      have n0 : n = false := by cases n <;> simp_all
      subst n0
      have p1 := of_decide_eq_true hm
      have p2 := of_decide_eq_false hn
      have p3 : sg a < sg b := by rw [sa, sb]; unfold B256 H255 at *; omega
      rw [if_pos p3] at hI
      repeat' first
        | refine W.seq ?_ | (refine W.regS G ?_; dsimp only) | refine SW.nil ?_ | refine thenQ_normal ?_ | refine W.skip ?_ | refine W.exit ?_ | refine thenQ_exit ?_ | refine inBlockQ_exit ?_ | refine inBlockQ_normal ?_ | refine W.block ?_
        | (apply SW.toC; refine SWcall.go True.intro ?_) | (apply SW.toOp; refine SWop.go True.intro ?_) | (apply SW.toCG; first | refine SWcall.yes True.intro ?_ | refine SWcall.no True.intro ?_) | (apply SW.toG; first | refine SWop.yes True.intro ?_ | refine SWop.no True.intro ?_)
      refine W.ret ?_
      repeat' first
        | refine thenQ_ret ?_
        | refine inBlockQ_ret ?_
      refine fin1Z True.intro ?_
      rw [hI]
      exact leV_refl
    · subst h1
      have n0 : n = true := by cases n <;> simp_all
      subst n0
      have p1 := of_decide_eq_false hm
      have p2 := of_decide_eq_true hn
      have p3 : ¬ sg a < sg b := by rw [sa, sb]; unfold B256 H255 at *; omega
      have p4 : sg b < sg a := by rw [sa, sb]; unfold B256 H255 at *; omega
      rw [if_neg p3, if_pos p4] at hI
      repeat' first
        | refine W.seq ?_ | (refine W.regS G ?_; dsimp only) | refine SW.nil ?_ | refine thenQ_normal ?_ | refine W.skip ?_ | refine W.exit ?_ | refine thenQ_exit ?_ | refine inBlockQ_exit ?_ | refine inBlockQ_normal ?_ | refine W.block ?_
        | (apply SW.toC; refine SWcall.go True.intro ?_) | (apply SW.toOp; refine SWop.go True.intro ?_) | (apply SW.toCG; first | refine SWcall.yes True.intro ?_ | refine SWcall.no True.intro ?_) | (apply SW.toG; first | refine SWop.yes True.intro ?_ | refine SWop.no True.intro ?_)
      refine W.ret ?_
      repeat' first
        | refine thenQ_ret ?_
        | refine inBlockQ_ret ?_
      refine fin1Z True.intro ?_
      rw [hI]
      exact leV_refl
  have he : m = n := eq_of_nd hc
  have hs2 : (sg a < sg b ↔ wv a < wv b) ∧ (sg b < sg a ↔ wv b < wv a) := by
    rw [← hm, ← hn] at he
    have he2 : (H255 ≤ wv a) ↔ (H255 ≤ wv b) := by
      constructor
      · intro q; rw [decide_eq_true q] at he; exact of_decide_eq_true he.symm
      · intro q; rw [decide_eq_true q] at he; exact of_decide_eq_true he
    rw [sa, sb]
    unfold B256 H255 at *
    omega
  have hII : cmpI (sg a) (sg b) = cmpI (wv a) (wv b) := by
    unfold cmpI
    simp only [hs2.1, hs2.2]
  rw [hII]
  repeat' first
    | refine W.seq ?_ | (refine W.regS G ?_; dsimp only) | refine SW.nil ?_ | refine thenQ_normal ?_ | refine W.skip ?_ | refine W.exit ?_ | refine thenQ_exit ?_ | refine inBlockQ_exit ?_ | refine inBlockQ_normal ?_ | refine W.block ?_
    | (apply SW.toC; refine SWcall.go (And.intro rCmpS.eq_1 (And.intro la lb)) ?_) | (apply SW.toOp; refine SWop.go (And.intro rCmpS.eq_1 (And.intro la lb)) ?_) | (apply SW.toCG; first | refine SWcall.yes (And.intro rCmpS.eq_1 (And.intro la lb)) ?_ | refine SWcall.no (And.intro rCmpS.eq_1 (And.intro la lb)) ?_) | (apply SW.toG; first | refine SWop.yes (And.intro rCmpS.eq_1 (And.intro la lb)) ?_ | refine SWop.no (And.intro rCmpS.eq_1 (And.intro la lb)) ?_)
  refine W.ret ?_
  repeat' first
    | refine thenQ_ret ?_
    | refine inBlockQ_ret ?_
  refine fin1Z (And.intro rCmpS.eq_1 (And.intro la lb)) ?_
  exact leV_refl
end Go.Vm.C01

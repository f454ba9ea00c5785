/- What some functions of the program compute, walked through once. -/
import Derived.Test.YthjgpkaamgoodaaCBC
namespace Go.Vm.C01
open Go Go.Proofs
set_option linter.unusedVariables false
set_option linter.unusedSimpArgs false
set_option maxRecDepth 100000
set_option maxHeartbeats 8000000

theorem decU_ne {w : Nat} {x y : BitVec w} (h : ¬ x = y) : @decide (x = y) (instDecidableEqBitVec x (castB rfl y)) = false := decide_eq_false h
theorem or_z {x y : BitVec 64} (h : x ||| y = 0) : x = 0 ∧ y = 0 := by
  have h1 : (x ||| y).toNat = 0 := by rw [h]; rfl
  rw [BitVec.toNat_or] at h1
  have h2 : x.toNat ≤ x.toNat ||| y.toNat := Nat.left_le_or
  have h3 : y.toNat ≤ x.toNat ||| y.toNat := Nat.right_le_or
  exact ⟨BitVec.eq_of_toNat_eq (by show x.toNat = 0; omega), BitVec.eq_of_toNat_eq (by show y.toNat = 0; omega)⟩
theorem sm_yes {a : List (BitVec 64)} (h : a.getD 1 0 ||| a.getD 2 0 ||| a.getD 3 0 = 0) : wv a = (a.getD 0 0).toNat := by
  obtain ⟨h12, h3⟩ := or_z h
  obtain ⟨h1, h2⟩ := or_z h12
  have e : wv a = 0 + B64 ^ 0 * (a.getD 0 0).toNat + B64 ^ 1 * (a.getD 1 0).toNat + B64 ^ 2 * (a.getD 2 0).toNat + B64 ^ 3 * (a.getD 3 0).toNat := rfl
  rw [e, h1, h2, h3]
  simp
theorem sm_no {a : List (BitVec 64)} (h : ¬ a.getD 1 0 ||| a.getD 2 0 ||| a.getD 3 0 = 0) : 18446744073709551616 ≤ wv a := by
  have e : wv a = 0 + B64 ^ 0 * (a.getD 0 0).toNat + B64 ^ 1 * (a.getD 1 0).toNat + B64 ^ 2 * (a.getD 2 0).toNat + B64 ^ 3 * (a.getD 3 0).toNat := rfl
  rw [e]
  have hn : ¬ ((a.getD 1 0).toNat = 0 ∧ (a.getD 2 0).toNat = 0 ∧ (a.getD 3 0).toNat = 0) := by
    rintro ⟨h1, h2, h3⟩
    have e1 : a.getD 1 0 = 0 := BitVec.eq_of_toNat_eq h1
    have e2 : a.getD 2 0 = 0 := BitVec.eq_of_toNat_eq h2
    have e3 : a.getD 3 0 = 0 := BitVec.eq_of_toNat_eq h3
    refine h ?_
    rw [e1, e2, e3]
    decide
  generalize (a.getD 0 0).toNat = x0 at *
  generalize (a.getD 1 0).toNat = x1 at *
  generalize (a.getD 2 0).toNat = x2 at *
  generalize (a.getD 3 0).toNat = x3 at *
  unfold B64
  simp only [Nat.reducePow]
  omega
noncomputable def smS : FSpec := { run := fun ins => match ins with
  | [.agg 4 (.u 64 a), .i n] => chk (0 ≤ n ∧ n ≤ 256) (some (.i ((min (wv a) n.toNat : Nat) : Int), []))
  | _ => none }
theorem sm_sound : SoundFn Try.prog glB 60 smS.run := by
  have G := good_of (P := Try.prog) glB_ro (l := []) (by simp)
  refine soundFn_of_W G Try.func60 (by decide) rfl (by decide) ?_
  intro ins ret outs h
  unfold smS at h
  dsimp only at h
  split at h
  rotate_left
  · cases h
  rename_i a n
  obtain ⟨hl, h'⟩ := chk_some h
  clear h
  cases h'
  obtain ⟨n, rfl⟩ := Int.eq_ofNat_of_zero_le hl.1
  have hn : n ≤ 256 := by omega
  clear hl
  refine ⟨by show 2 ≤ 25; decide, fun w0 ext av => ?_⟩
  rw [Try.ntmps60, st0_eq]
  have eT : ((n : Int)).toNat = n := by omega
  rw [eT]
  have eL : (BitVec.ofInt 64 (n : Int)).toNat = n := by rw [BitVec.toNat_ofInt]; omega
  by_cases hz : a.getD 1 0 ||| a.getD 2 0 ||| a.getD 3 0 = 0
  · have hv := sm_yes hz
    repeat' first
      | refine W.seq ?_ | (refine W.regS G ?_; dsimp only) | refine SW.nil ?_ | refine thenQ_normal ?_ | refine W.skip ?_ | refine W.exit ?_ | refine thenQ_exit ?_ | refine inBlockQ_exit ?_ | refine inBlockQ_normal ?_ | refine W.block ?_
      | (apply SW.toC; refine SWcall.go hz ?_) | (apply SW.toOp; refine SWop.go hz ?_) | (apply SW.toCG; first | refine SWcall.yes hz ?_ | refine SWcall.no hz ?_) | (apply SW.toG; first | refine SWop.yes hz ?_ | refine SWop.no hz ?_)
    refine W.condZ G hz ?_ ?_
    all_goals intro hc
    · have hc' : BitVec.ofInt 64 (n : Int) < a.getD 0 0 := yes_of hc
      have hc2 : n < (a.getD 0 0).toNat := by
        have : (BitVec.ofInt 64 (n : Int)).toNat < (a.getD 0 0).toNat := hc'
        rw [eL] at this
        exact this
      have em : min (wv a) n = n := by rw [hv]; omega
      rw [em]
      repeat' first
        | refine W.seq ?_ | (refine W.regS G ?_; dsimp only) | refine SW.nil ?_ | refine thenQ_normal ?_ | refine W.skip ?_ | refine W.exit ?_ | refine thenQ_exit ?_ | refine inBlockQ_exit ?_ | refine inBlockQ_normal ?_ | refine W.block ?_
        | (apply SW.toC; refine SWcall.go hz ?_) | (apply SW.toOp; refine SWop.go hz ?_) | (apply SW.toCG; first | refine SWcall.yes hz ?_ | refine SWcall.no hz ?_) | (apply SW.toG; first | refine SWop.yes hz ?_ | refine SWop.no hz ?_)
      refine W.ret ?_
      repeat' first
        | refine thenQ_ret ?_
        | refine inBlockQ_ret ?_
      refine fin1Z hz ?_
      exact leV_refl
    · have hc' : ¬ BitVec.ofInt 64 (n : Int) < a.getD 0 0 := no_of hc
      have hc2 : (a.getD 0 0).toNat ≤ n := by
        have : ¬ (BitVec.ofInt 64 (n : Int)).toNat < (a.getD 0 0).toNat := hc'
        rw [eL] at this
        omega
      have em : min (wv a) n = (a.getD 0 0).toNat := by rw [hv]; omega
      rw [em]
      repeat' first
        | refine W.seq ?_ | (refine W.regS G ?_; dsimp only) | refine SW.nil ?_ | refine thenQ_normal ?_ | refine W.skip ?_ | refine W.exit ?_ | refine thenQ_exit ?_ | refine inBlockQ_exit ?_ | refine inBlockQ_normal ?_ | refine W.block ?_
        | (apply SW.toC; refine SWcall.go hz ?_) | (apply SW.toOp; refine SWop.go hz ?_) | (apply SW.toCG; first | refine SWcall.yes hz ?_ | refine SWcall.no hz ?_) | (apply SW.toG; first | refine SWop.yes hz ?_ | refine SWop.no hz ?_)
      refine W.ret ?_
      repeat' first
        | refine thenQ_ret ?_
        | refine inBlockQ_ret ?_
      refine fin1Z hz ?_
      exact leV_refl
  · have hv := sm_no hz
    have hd : decide (a.getD 1 0 ||| a.getD 2 0 ||| a.getD 3 0 = 0#64) = false := decide_eq_false hz
    have hd2 := decU_ne (y := 0#64) hz
    have em : min (wv a) n = n := by omega
    rw [em]
    repeat' first
      | refine W.seq ?_ | (refine W.regS G ?_; dsimp only) | refine SW.nil ?_ | refine thenQ_normal ?_ | refine W.skip ?_ | refine W.exit ?_ | refine thenQ_exit ?_ | refine inBlockQ_exit ?_ | refine inBlockQ_normal ?_ | refine W.block ?_
      | (apply SW.toC; refine SWcall.go hd2 ?_) | (apply SW.toOp; refine SWop.go hd2 ?_) | (apply SW.toCG; first | refine SWcall.yes hd2 ?_ | refine SWcall.no hd2 ?_) | (apply SW.toG; first | refine SWop.yes hd2 ?_ | refine SWop.no hd2 ?_)
    refine W.condZ G hd2 ?_ ?_
    all_goals intro hc
    · repeat' first
        | refine W.seq ?_ | (refine W.regS G ?_; dsimp only) | refine SW.nil ?_ | refine thenQ_normal ?_ | refine W.skip ?_ | refine W.exit ?_ | refine thenQ_exit ?_ | refine inBlockQ_exit ?_ | refine inBlockQ_normal ?_ | refine W.block ?_
        | (apply SW.toC; refine SWcall.go hd2 ?_) | (apply SW.toOp; refine SWop.go hd2 ?_) | (apply SW.toCG; first | refine SWcall.yes hd2 ?_ | refine SWcall.no hd2 ?_) | (apply SW.toG; first | refine SWop.yes hd2 ?_ | refine SWop.no hd2 ?_)
      refine W.ret ?_
      repeat' first
        | refine thenQ_ret ?_
        | refine inBlockQ_ret ?_
      refine fin1Z hd2 ?_
      exact leV_refl
    · exact absurd hc (by decide)
noncomputable def ShlS : FSpec := { run := fun ins => match ins with
  | [.agg 4 (.u 64 k), .agg 4 (.u 64 a)] => chk (a.length = 4) (some (.agg 4 (.u 64 (wB (shlB a (min (wv k) 256)))), []))
  | _ => none }
theorem Shl_sound : SoundFn Try.prog glB 22 ShlS.run := by
  have G := good_of (P := Try.prog) glB_ro (l := [(60, smS), (62, leftS)]) (by simp only [List.forall_mem_cons]; exact ⟨sm_sound, left_sound, by simp⟩)
  refine soundFn_of_W G Try.func22 (by decide) rfl (by decide) ?_
  intro ins ret outs h
  unfold ShlS at h
  dsimp only at h
  split at h
  rotate_left
  · cases h
  rename_i k a
  obtain ⟨la, h'⟩ := chk_some h
  clear h
  cases h'
  refine ⟨by show 2 ≤ 9; decide, fun w0 ext av => ?_⟩
  rw [Try.ntmps22, st0_eq]
  have e0 : (256 : Int).toNat = 256 := rfl
  have hm : min (wv k) 256 ≤ 256 := by omega
  generalize hq : min (wv k) 256 = m at hm
  repeat' first
    | refine W.seq ?_ | (refine W.regS G ?_; dsimp only) | refine SW.nil ?_ | refine thenQ_normal ?_ | refine W.skip ?_ | refine W.exit ?_ | refine thenQ_exit ?_ | refine inBlockQ_exit ?_ | refine inBlockQ_normal ?_
    | (apply SW.toC; refine SWcall.go (And.intro smS.eq_1 (And.intro leftS.eq_1 (And.intro e0 hq))) ?_) | (apply SW.toOp; refine SWop.go (And.intro smS.eq_1 (And.intro leftS.eq_1 (And.intro e0 hq))) ?_) | (apply SW.toCG; first | refine SWcall.yes (And.intro smS.eq_1 (And.intro leftS.eq_1 (And.intro e0 hq))) ?_ | refine SWcall.no (And.intro smS.eq_1 (And.intro leftS.eq_1 (And.intro e0 hq))) ?_) | (apply SW.toG; first | refine SWop.yes (And.intro smS.eq_1 (And.intro leftS.eq_1 (And.intro e0 hq))) ?_ | refine SWop.no (And.intro smS.eq_1 (And.intro leftS.eq_1 (And.intro e0 hq))) ?_)
  refine W.drawS G [[], [], [1], [0, 2, 1], [3, 0, 2, 1]] hmix ?_
  dsimp only
  repeat' first
    | (apply DW.nil; (focus (decide +kernel)))
    | (apply DW.toC; refine DWcall.go (And.intro smS.eq_1 (And.intro leftS.eq_1 (And.intro e0 hq))) ?_) | (apply DW.toOp; refine DWop.go (And.intro smS.eq_1 (And.intro leftS.eq_1 (And.intro e0 hq))) ?_) | (apply DW.toCG; first | refine DWcall.yes (And.intro smS.eq_1 (And.intro leftS.eq_1 (And.intro e0 hq))) ?_ | refine DWcall.no (And.intro smS.eq_1 (And.intro leftS.eq_1 (And.intro e0 hq))) ?_) | (apply DW.toG; first | refine DWop.yes (And.intro smS.eq_1 (And.intro leftS.eq_1 (And.intro e0 hq))) ?_ | refine DWop.no (And.intro smS.eq_1 (And.intro leftS.eq_1 (And.intro e0 hq))) ?_)
  repeat' first
    | refine W.seq ?_ | (refine W.regS G ?_; dsimp only) | refine SW.nil ?_ | refine thenQ_normal ?_ | refine W.skip ?_ | refine W.exit ?_ | refine thenQ_exit ?_ | refine inBlockQ_exit ?_ | refine inBlockQ_normal ?_ | refine W.block ?_
    | (apply SW.toC; refine SWcall.go (And.intro smS.eq_1 (And.intro leftS.eq_1 (And.intro e0 hq))) ?_) | (apply SW.toOp; refine SWop.go (And.intro smS.eq_1 (And.intro leftS.eq_1 (And.intro e0 hq))) ?_) | (apply SW.toCG; first | refine SWcall.yes (And.intro smS.eq_1 (And.intro leftS.eq_1 (And.intro e0 hq))) ?_ | refine SWcall.no (And.intro smS.eq_1 (And.intro leftS.eq_1 (And.intro e0 hq))) ?_) | (apply SW.toG; first | refine SWop.yes (And.intro smS.eq_1 (And.intro leftS.eq_1 (And.intro e0 hq))) ?_ | refine SWop.no (And.intro smS.eq_1 (And.intro leftS.eq_1 (And.intro e0 hq))) ?_)
  refine W.ret ?_
  repeat' first
    | refine thenQ_ret ?_
    | refine inBlockQ_ret ?_
  refine fin1Z (And.intro smS.eq_1 (And.intro leftS.eq_1 (And.intro e0 hq))) ?_
  exact leV_refl
noncomputable def ShrS : FSpec := { run := fun ins => match ins with
  | [.agg 4 (.u 64 k), .agg 4 (.u 64 a)] => chk (a.length = 4) (some (.agg 4 (.u 64 (wB (shrB a (min (wv k) 256) false))), []))
  | _ => none }
theorem Shr_sound : SoundFn Try.prog glB 24 ShrS.run := by
  have G := good_of (P := Try.prog) glB_ro (l := [(60, smS), (61, rightS)]) (by simp only [List.forall_mem_cons]; exact ⟨sm_sound, right_sound, by simp⟩)
  refine soundFn_of_W G Try.func24 (by decide) rfl (by decide) ?_
  intro ins ret outs h
  unfold ShrS at h
  dsimp only at h
  split at h
  rotate_left
  · cases h
  rename_i k a
  obtain ⟨la, h'⟩ := chk_some h
  clear h
  cases h'
  refine ⟨by show 2 ≤ 9; decide, fun w0 ext av => ?_⟩
  rw [Try.ntmps24, st0_eq]
  have e0 : (256 : Int).toNat = 256 := rfl
  have hm : min (wv k) 256 ≤ 256 := by omega
  generalize hq : min (wv k) 256 = m at hm
  repeat' first
    | refine W.seq ?_ | (refine W.regS G ?_; dsimp only) | refine SW.nil ?_ | refine thenQ_normal ?_ | refine W.skip ?_ | refine W.exit ?_ | refine thenQ_exit ?_ | refine inBlockQ_exit ?_ | refine inBlockQ_normal ?_
    | (apply SW.toC; refine SWcall.go (And.intro smS.eq_1 (And.intro rightS.eq_1 (And.intro e0 (And.intro hq la)))) ?_) | (apply SW.toOp; refine SWop.go (And.intro smS.eq_1 (And.intro rightS.eq_1 (And.intro e0 (And.intro hq la)))) ?_) | (apply SW.toCG; first | refine SWcall.yes (And.intro smS.eq_1 (And.intro rightS.eq_1 (And.intro e0 (And.intro hq la)))) ?_ | refine SWcall.no (And.intro smS.eq_1 (And.intro rightS.eq_1 (And.intro e0 (And.intro hq la)))) ?_) | (apply SW.toG; first | refine SWop.yes (And.intro smS.eq_1 (And.intro rightS.eq_1 (And.intro e0 (And.intro hq la)))) ?_ | refine SWop.no (And.intro smS.eq_1 (And.intro rightS.eq_1 (And.intro e0 (And.intro hq la)))) ?_)
  refine W.drawS G [[], [], [1], [0, 2, 1], [3, 0, 2, 1]] hmix ?_
  dsimp only
  repeat' first
    | (apply DW.nil; (focus (decide +kernel)))
    | (apply DW.toC; refine DWcall.go (And.intro smS.eq_1 (And.intro rightS.eq_1 (And.intro e0 (And.intro hq la)))) ?_) | (apply DW.toOp; refine DWop.go (And.intro smS.eq_1 (And.intro rightS.eq_1 (And.intro e0 (And.intro hq la)))) ?_) | (apply DW.toCG; first | refine DWcall.yes (And.intro smS.eq_1 (And.intro rightS.eq_1 (And.intro e0 (And.intro hq la)))) ?_ | refine DWcall.no (And.intro smS.eq_1 (And.intro rightS.eq_1 (And.intro e0 (And.intro hq la)))) ?_) | (apply DW.toG; first | refine DWop.yes (And.intro smS.eq_1 (And.intro rightS.eq_1 (And.intro e0 (And.intro hq la)))) ?_ | refine DWop.no (And.intro smS.eq_1 (And.intro rightS.eq_1 (And.intro e0 (And.intro hq la)))) ?_)
  repeat' first
    | refine W.seq ?_ | (refine W.regS G ?_; dsimp only) | refine SW.nil ?_ | refine thenQ_normal ?_ | refine W.skip ?_ | refine W.exit ?_ | refine thenQ_exit ?_ | refine inBlockQ_exit ?_ | refine inBlockQ_normal ?_ | refine W.block ?_
    | (apply SW.toC; refine SWcall.go (And.intro smS.eq_1 (And.intro rightS.eq_1 (And.intro e0 (And.intro hq la)))) ?_) | (apply SW.toOp; refine SWop.go (And.intro smS.eq_1 (And.intro rightS.eq_1 (And.intro e0 (And.intro hq la)))) ?_) | (apply SW.toCG; first | refine SWcall.yes (And.intro smS.eq_1 (And.intro rightS.eq_1 (And.intro e0 (And.intro hq la)))) ?_ | refine SWcall.no (And.intro smS.eq_1 (And.intro rightS.eq_1 (And.intro e0 (And.intro hq la)))) ?_) | (apply SW.toG; first | refine SWop.yes (And.intro smS.eq_1 (And.intro rightS.eq_1 (And.intro e0 (And.intro hq la)))) ?_ | refine SWop.no (And.intro smS.eq_1 (And.intro rightS.eq_1 (And.intro e0 (And.intro hq la)))) ?_)
  refine W.ret ?_
  repeat' first
    | refine thenQ_ret ?_
    | refine inBlockQ_ret ?_
  refine fin1Z (And.intro smS.eq_1 (And.intro rightS.eq_1 (And.intro e0 (And.intro hq la)))) ?_
  exact leV_refl
noncomputable def SarS : FSpec := { run := fun ins => match ins with
  | [.agg 4 (.u 64 k), .agg 4 (.u 64 a)] => chk (a.length = 4) (some (.agg 4 (.u 64 (wB (shrB a (min (wv k) 256) (bitAt a 255)))), []))
  | _ => none }
theorem Sar_sound : SoundFn Try.prog glB 26 SarS.run := by
  have G := good_of (P := Try.prog) glB_ro (l := [(60, smS), (61, rightS)]) (by simp only [List.forall_mem_cons]; exact ⟨sm_sound, right_sound, by simp⟩)
  refine soundFn_of_W G Try.func26 (by decide) rfl (by decide) ?_
  intro ins ret outs h
  unfold SarS at h
  dsimp only at h
  split at h
  rotate_left
  · cases h
  rename_i k a
  obtain ⟨la, h'⟩ := chk_some h
  clear h
  cases h'
  refine ⟨by show 2 ≤ 9; decide, fun w0 ext av => ?_⟩
  rw [Try.ntmps26, st0_eq]
  have e0 : (256 : Int).toNat = 256 := rfl
  have hm : min (wv k) 256 ≤ 256 := by omega
  generalize hq : min (wv k) 256 = m at hm
  repeat' first
    | refine W.seq ?_ | (refine W.regS G ?_; dsimp only) | refine SW.nil ?_ | refine thenQ_normal ?_ | refine W.skip ?_ | refine W.exit ?_ | refine thenQ_exit ?_ | refine inBlockQ_exit ?_ | refine inBlockQ_normal ?_
    | (apply SW.toC; refine SWcall.go (And.intro smS.eq_1 (And.intro rightS.eq_1 (And.intro e0 (And.intro hq la)))) ?_) | (apply SW.toOp; refine SWop.go (And.intro smS.eq_1 (And.intro rightS.eq_1 (And.intro e0 (And.intro hq la)))) ?_) | (apply SW.toCG; first | refine SWcall.yes (And.intro smS.eq_1 (And.intro rightS.eq_1 (And.intro e0 (And.intro hq la)))) ?_ | refine SWcall.no (And.intro smS.eq_1 (And.intro rightS.eq_1 (And.intro e0 (And.intro hq la)))) ?_) | (apply SW.toG; first | refine SWop.yes (And.intro smS.eq_1 (And.intro rightS.eq_1 (And.intro e0 (And.intro hq la)))) ?_ | refine SWop.no (And.intro smS.eq_1 (And.intro rightS.eq_1 (And.intro e0 (And.intro hq la)))) ?_)
  refine W.drawS G [[], [], [1], [0, 2, 1], [3, 0, 2, 1]] hmix ?_
  dsimp only
  repeat' first
    | (apply DW.nil; (focus (decide +kernel)))
    | (apply DW.toC; refine DWcall.go (And.intro smS.eq_1 (And.intro rightS.eq_1 (And.intro e0 (And.intro hq la)))) ?_) | (apply DW.toOp; refine DWop.go (And.intro smS.eq_1 (And.intro rightS.eq_1 (And.intro e0 (And.intro hq la)))) ?_) | (apply DW.toCG; first | refine DWcall.yes (And.intro smS.eq_1 (And.intro rightS.eq_1 (And.intro e0 (And.intro hq la)))) ?_ | refine DWcall.no (And.intro smS.eq_1 (And.intro rightS.eq_1 (And.intro e0 (And.intro hq la)))) ?_) | (apply DW.toG; first | refine DWop.yes (And.intro smS.eq_1 (And.intro rightS.eq_1 (And.intro e0 (And.intro hq la)))) ?_ | refine DWop.no (And.intro smS.eq_1 (And.intro rightS.eq_1 (And.intro e0 (And.intro hq la)))) ?_)
  repeat' first
    | refine W.seq ?_ | (refine W.regS G ?_; dsimp only) | refine SW.nil ?_ | refine thenQ_normal ?_ | refine W.skip ?_ | refine W.exit ?_ | refine thenQ_exit ?_ | refine inBlockQ_exit ?_ | refine inBlockQ_normal ?_ | refine W.block ?_
    | (apply SW.toC; refine SWcall.go (And.intro smS.eq_1 (And.intro rightS.eq_1 (And.intro e0 (And.intro hq la)))) ?_) | (apply SW.toOp; refine SWop.go (And.intro smS.eq_1 (And.intro rightS.eq_1 (And.intro e0 (And.intro hq la)))) ?_) | (apply SW.toCG; first | refine SWcall.yes (And.intro smS.eq_1 (And.intro rightS.eq_1 (And.intro e0 (And.intro hq la)))) ?_ | refine SWcall.no (And.intro smS.eq_1 (And.intro rightS.eq_1 (And.intro e0 (And.intro hq la)))) ?_) | (apply SW.toG; first | refine SWop.yes (And.intro smS.eq_1 (And.intro rightS.eq_1 (And.intro e0 (And.intro hq la)))) ?_ | refine SWop.no (And.intro smS.eq_1 (And.intro rightS.eq_1 (And.intro e0 (And.intro hq la)))) ?_)
  refine W.ret ?_
  repeat' first
    | refine thenQ_ret ?_
    | refine inBlockQ_ret ?_
  refine fin1Z (And.intro smS.eq_1 (And.intro rightS.eq_1 (And.intro e0 (And.intro hq la)))) ?_
  exact leV_refl
end Go.Vm.C01

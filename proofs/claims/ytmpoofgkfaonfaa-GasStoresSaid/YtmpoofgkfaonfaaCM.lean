/- What some functions of the program compute, walked through once. -/
import Derived.Test.YtmpoofgkfaonfaaCK
namespace Go.Vm.C19
open Go Go.Proofs
set_option linter.unusedVariables false
set_option linter.unusedSimpArgs false
set_option maxRecDepth 100000
set_option maxHeartbeats 8000000

/-! ### the document's order -/
noncomputable def rCmpS : FSpec := { run := fun ins => match ins with
  | [.agg 4 (.u 64 a), .agg 4 (.u 64 b)] => chk (a.length = 4 ∧ b.length = 4) (some (.i (cmpI (wv a) (wv b)), []))
  | _ => none }
theorem rCmp_sound : SoundFn Try.prog glB 12 rCmpS.run := by
  have G := good_of (P := Try.prog) glB_ro (l := [(54, digS), (53, lessS)]) (by simp only [List.forall_mem_cons]; exact ⟨dig_sound, less_sound, by simp⟩)
  refine soundFn_of_W G Try.func12 (by decide) rfl (by decide) ?_
  intro ins ret outs h
  unfold rCmpS at h
  dsimp only at h
  split at h
  rotate_left
  · cases h
  rename_i a b
  obtain ⟨hl, h'⟩ := chk_some h
  clear h
  cases h'
  obtain ⟨la, lb⟩ := hl
  refine ⟨by show 2 ≤ 13; decide, fun w0 ext av => ?_⟩
  rw [Try.ntmps12, st0_eq]
  have l2 := digF_len a 16
  have l3 := digF_len b 16
  have hv := lessF_val (digF_ok a 16) (digF_ok b 16) 16
  rw [digF_val, digF_val] at hv
  have hI : cmpI (wv a) (wv b) = if wv a < wv b then -1 else if wv b < wv a then 1 else 0 := rfl
  repeat' first
    | refine W.seq ?_ | (refine W.regS G ?_; dsimp only) | refine SW.nil ?_ | refine thenQ_normal ?_ | refine W.skip ?_ | refine W.exit ?_ | refine thenQ_exit ?_ | refine inBlockQ_exit ?_ | refine inBlockQ_normal ?_
    | (apply SW.toC; refine SWcall.go (And.intro digS.eq_1 (And.intro lessS.eq_1 (And.intro l2 l3))) ?_) | (apply SW.toOp; refine SWop.go (And.intro digS.eq_1 (And.intro lessS.eq_1 (And.intro l2 l3))) ?_) | (apply SW.toCG; first | refine SWcall.yes (And.intro digS.eq_1 (And.intro lessS.eq_1 (And.intro l2 l3))) ?_ | refine SWcall.no (And.intro digS.eq_1 (And.intro lessS.eq_1 (And.intro l2 l3))) ?_) | (apply SW.toG; first | refine SWop.yes (And.intro digS.eq_1 (And.intro lessS.eq_1 (And.intro l2 l3))) ?_ | refine SWop.no (And.intro digS.eq_1 (And.intro lessS.eq_1 (And.intro l2 l3))) ?_)
  refine W.drawS G [[], [0], [], [2, 1, 0], [1, 0, 3, 2]] hmix ?_
  dsimp only
  repeat' first
    | (apply DW.nil; (focus (decide +kernel)))
    | (apply DW.toC; refine DWcall.go (And.intro digS.eq_1 (And.intro lessS.eq_1 (And.intro l2 l3))) ?_) | (apply DW.toOp; refine DWop.go (And.intro digS.eq_1 (And.intro lessS.eq_1 (And.intro l2 l3))) ?_) | (apply DW.toCG; first | refine DWcall.yes (And.intro digS.eq_1 (And.intro lessS.eq_1 (And.intro l2 l3))) ?_ | refine DWcall.no (And.intro digS.eq_1 (And.intro lessS.eq_1 (And.intro l2 l3))) ?_) | (apply DW.toG; first | refine DWop.yes (And.intro digS.eq_1 (And.intro lessS.eq_1 (And.intro l2 l3))) ?_ | refine DWop.no (And.intro digS.eq_1 (And.intro lessS.eq_1 (And.intro l2 l3))) ?_)
  repeat' first
    | refine W.seq ?_ | (refine W.regS G ?_; dsimp only) | refine SW.nil ?_ | refine thenQ_normal ?_ | refine W.skip ?_ | refine W.exit ?_ | refine thenQ_exit ?_ | refine inBlockQ_exit ?_ | refine inBlockQ_normal ?_ | refine W.block ?_
    | (apply SW.toC; refine SWcall.go (And.intro digS.eq_1 (And.intro lessS.eq_1 (And.intro l2 l3))) ?_) | (apply SW.toOp; refine SWop.go (And.intro digS.eq_1 (And.intro lessS.eq_1 (And.intro l2 l3))) ?_) | (apply SW.toCG; first | refine SWcall.yes (And.intro digS.eq_1 (And.intro lessS.eq_1 (And.intro l2 l3))) ?_ | refine SWcall.no (And.intro digS.eq_1 (And.intro lessS.eq_1 (And.intro l2 l3))) ?_) | (apply SW.toG; first | refine SWop.yes (And.intro digS.eq_1 (And.intro lessS.eq_1 (And.intro l2 l3))) ?_ | refine SWop.no (And.intro digS.eq_1 (And.intro lessS.eq_1 (And.intro l2 l3))) ?_)
  refine W.condZ G (And.intro digS.eq_1 (And.intro lessS.eq_1 (And.intro l2 l3))) ?_ ?_
  all_goals intro h1
  · have h1' := hv.1 h1
    rw [if_pos h1'] at hI
    repeat' first
      | refine W.seq ?_ | (refine W.regS G ?_; dsimp only) | refine SW.nil ?_ | refine thenQ_normal ?_ | refine W.skip ?_ | refine W.exit ?_ | refine thenQ_exit ?_ | refine inBlockQ_exit ?_ | refine inBlockQ_normal ?_ | refine W.block ?_
      | (apply SW.toC; refine SWcall.go (And.intro digS.eq_1 (And.intro lessS.eq_1 (And.intro l2 l3))) ?_) | (apply SW.toOp; refine SWop.go (And.intro digS.eq_1 (And.intro lessS.eq_1 (And.intro l2 l3))) ?_) | (apply SW.toCG; first | refine SWcall.yes (And.intro digS.eq_1 (And.intro lessS.eq_1 (And.intro l2 l3))) ?_ | refine SWcall.no (And.intro digS.eq_1 (And.intro lessS.eq_1 (And.intro l2 l3))) ?_) | (apply SW.toG; first | refine SWop.yes (And.intro digS.eq_1 (And.intro lessS.eq_1 (And.intro l2 l3))) ?_ | refine SWop.no (And.intro digS.eq_1 (And.intro lessS.eq_1 (And.intro l2 l3))) ?_)
    refine W.ret ?_
    repeat' first
      | refine thenQ_ret ?_
      | refine inBlockQ_ret ?_
    refine fin1Z (And.intro digS.eq_1 (And.intro lessS.eq_1 (And.intro l2 l3))) ?_
    rw [hI]
    exact leV_refl
  have h1' : ¬ wv a < wv b := fun c => by
    have h2 := hv.2 c
    exact absurd (h1.symm.trans h2) (by decide)
  rw [if_neg h1'] at hI
  repeat' first
    | refine W.seq ?_ | (refine W.regS G ?_; dsimp only) | refine SW.nil ?_ | refine thenQ_normal ?_ | refine W.skip ?_ | refine W.exit ?_ | refine thenQ_exit ?_ | refine inBlockQ_exit ?_ | refine inBlockQ_normal ?_ | refine W.block ?_
    | (apply SW.toC; refine SWcall.go (And.intro digS.eq_1 (And.intro lessS.eq_1 (And.intro l2 l3))) ?_) | (apply SW.toOp; refine SWop.go (And.intro digS.eq_1 (And.intro lessS.eq_1 (And.intro l2 l3))) ?_) | (apply SW.toCG; first | refine SWcall.yes (And.intro digS.eq_1 (And.intro lessS.eq_1 (And.intro l2 l3))) ?_ | refine SWcall.no (And.intro digS.eq_1 (And.intro lessS.eq_1 (And.intro l2 l3))) ?_) | (apply SW.toG; first | refine SWop.yes (And.intro digS.eq_1 (And.intro lessS.eq_1 (And.intro l2 l3))) ?_ | refine SWop.no (And.intro digS.eq_1 (And.intro lessS.eq_1 (And.intro l2 l3))) ?_)
  refine W.condZ G (And.intro digS.eq_1 (And.intro lessS.eq_1 (And.intro l2 l3))) ?_ ?_
  all_goals intro h2
  · have hne : ¬ a = b := ne_of_nd h2
    have hne' : ¬ wv a = wv b := fun c => hne (wv_inj la lb c)
    rw [if_pos (by omega)] at hI
    repeat' first
      | refine W.seq ?_ | (refine W.regS G ?_; dsimp only) | refine SW.nil ?_ | refine thenQ_normal ?_ | refine W.skip ?_ | refine W.exit ?_ | refine thenQ_exit ?_ | refine inBlockQ_exit ?_ | refine inBlockQ_normal ?_ | refine W.block ?_
      | (apply SW.toC; refine SWcall.go (And.intro digS.eq_1 (And.intro lessS.eq_1 (And.intro l2 l3))) ?_) | (apply SW.toOp; refine SWop.go (And.intro digS.eq_1 (And.intro lessS.eq_1 (And.intro l2 l3))) ?_) | (apply SW.toCG; first | refine SWcall.yes (And.intro digS.eq_1 (And.intro lessS.eq_1 (And.intro l2 l3))) ?_ | refine SWcall.no (And.intro digS.eq_1 (And.intro lessS.eq_1 (And.intro l2 l3))) ?_) | (apply SW.toG; first | refine SWop.yes (And.intro digS.eq_1 (And.intro lessS.eq_1 (And.intro l2 l3))) ?_ | refine SWop.no (And.intro digS.eq_1 (And.intro lessS.eq_1 (And.intro l2 l3))) ?_)
    refine W.ret ?_
    repeat' first
      | refine thenQ_ret ?_
      | refine inBlockQ_ret ?_
    refine fin1Z (And.intro digS.eq_1 (And.intro lessS.eq_1 (And.intro l2 l3))) ?_
    rw [hI]
    exact leV_refl
  have he : a = b := eq_of_nd h2
  subst he
  rw [if_neg (by omega)] at hI
  repeat' first
    | refine W.seq ?_ | (refine W.regS G ?_; dsimp only) | refine SW.nil ?_ | refine thenQ_normal ?_ | refine W.skip ?_ | refine W.exit ?_ | refine thenQ_exit ?_ | refine inBlockQ_exit ?_ | refine inBlockQ_normal ?_ | refine W.block ?_
    | (apply SW.toC; refine SWcall.go (And.intro digS.eq_1 (And.intro lessS.eq_1 (And.intro l2 l3))) ?_) | (apply SW.toOp; refine SWop.go (And.intro digS.eq_1 (And.intro lessS.eq_1 (And.intro l2 l3))) ?_) | (apply SW.toCG; first | refine SWcall.yes (And.intro digS.eq_1 (And.intro lessS.eq_1 (And.intro l2 l3))) ?_ | refine SWcall.no (And.intro digS.eq_1 (And.intro lessS.eq_1 (And.intro l2 l3))) ?_) | (apply SW.toG; first | refine SWop.yes (And.intro digS.eq_1 (And.intro lessS.eq_1 (And.intro l2 l3))) ?_ | refine SWop.no (And.intro digS.eq_1 (And.intro lessS.eq_1 (And.intro l2 l3))) ?_)
  refine W.ret ?_
  repeat' first
    | refine thenQ_ret ?_
    | refine inBlockQ_ret ?_
  refine fin1Z (And.intro digS.eq_1 (And.intro lessS.eq_1 (And.intro l2 l3))) ?_
  rw [hI]
  exact leV_refl

/-! ### the order of signed words -/
theorem flip_top (x : BitVec 64) : (x ^^^ 9223372036854775808#64).toNat = (2 ^ 63 + x.toNat) % 2 ^ 64 := by
  rw [BitVec.toNat_xor]
  apply Nat.eq_of_testBit_eq
  intro i
  have hx := x.isLt
  rw [Nat.testBit_mod_two_pow, Nat.testBit_xor, show (9223372036854775808#64).toNat = 2 ^ 63 by decide, Nat.testBit_two_pow]
  rcases Nat.lt_trichotomy i 63 with h | h | h
  · rw [Nat.testBit_two_pow_add_gt h, decide_eq_true (by omega : i < 64), decide_eq_false (by omega : ¬ 63 = i)]
    simp
  · subst h
    rw [Nat.testBit_two_pow_add_eq]
    simp
  · have h2 : x.toNat.testBit i = false := Nat.testBit_lt_two_pow (Nat.lt_of_lt_of_le hx (Nat.pow_le_pow_right (by omega) (by omega)))
    rw [h2, decide_eq_false (by omega : ¬ i < 64), decide_eq_false (by omega : ¬ 63 = i)]
    rfl
def sg (a : List (BitVec 64)) : Nat := (wv a + 57896044618658097711785492504343953926634992332820282019728792003956564819968) % B256
theorem sg_set (a : List (BitVec 64)) (la : a.length = 4) : wv (a.set 3 (a.getD 3 0 ^^^ 9223372036854775808#64)) = sg a := by
  have h := wvk_set (l := a) (i := 3) (x := a.getD 3 0 ^^^ 9223372036854775808#64) (by omega) (k := 4) (by omega)
  have e : wv a = wvk a 3 + B64 ^ 3 * (a.getD 3 0).toNat := rfl
  have h3 := wvk_lt a 3
  have hx := (a.getD 3 0).isLt
  rw [flip_top] at h
  unfold sg
  have h' : wv (a.set 3 (a.getD 3 0 ^^^ 9223372036854775808#64)) + B64 ^ 3 * (a.getD 3 0).toNat = wv a + B64 ^ 3 * ((2 ^ 63 + (a.getD 3 0).toNat) % 2 ^ 64) := h
  rw [e] at h' ⊢
  generalize wv (a.set 3 (a.getD 3 0 ^^^ 9223372036854775808#64)) = X at h' ⊢
  generalize (a.getD 3 0).toNat = x at hx h' ⊢
  generalize wvk a 3 = y at h3 h' ⊢
  simp only [B64, B256, Nat.reducePow] at *
  omega
noncomputable def SCmpS : FSpec := { run := fun ins => match ins with
  | [.agg 4 (.u 64 a), .agg 4 (.u 64 b)] => chk (a.length = 4 ∧ b.length = 4) (some (.i (cmpI (sg a) (sg b)), []))
  | _ => none }
end Go.Vm.C19

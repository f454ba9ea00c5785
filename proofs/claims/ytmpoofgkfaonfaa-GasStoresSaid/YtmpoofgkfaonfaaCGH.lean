/- What some functions of the program compute, walked through once. -/
import Derived.Test.YtmpoofgkfaonfaaCGG
namespace Go.Vm.C19
open Go Go.Proofs
set_option linter.unusedVariables false
set_option linter.unusedSimpArgs false
set_option maxRecDepth 100000
set_option maxHeartbeats 8000000

/-! ### sizes -/
def moN (n : Nat) : Nat := min n 9223372036854775807
def moU (n : Nat) : BitVec 64 := BitVec.ofNat 64 (moN n)
theorem moU_val (n : Nat) : (moU n).toNat = moN n := by
  unfold moU moN
  rw [BitVec.toNat_ofNat]
  omega
noncomputable def timesS : FSpec := { run := fun ins => match ins with
  | [.u 64 n, .u 64 c] => some (.u 64 (moU (n.toNat * c.toNat)), [])
  | _ => none }
theorem times_sound : SoundFn Try.prog glB 57 timesS.run := by
  have G := good_of (P := Try.prog) glB_ro (l := [(37, mul64S)]) (by simp only [List.forall_mem_cons]; exact ⟨mul64_sound, by simp⟩)
  refine soundFn_of_W G Try.func57 (by decide) rfl (by decide) ?_
  intro ins ret outs h
  unfold timesS at h
  dsimp only at h
  split at h
  rotate_left
  · cases h
  rename_i n c
  cases h
  refine ⟨by show 2 ≤ 17; decide, fun w0 ext av => ?_⟩
  rw [Try.ntmps57, st0_eq]
  have h1 := hiF_val n c
  have h2 : (n * c).toNat = n.toNat * c.toNat % B64 := BitVec.toNat_mul n c
  have h3 := Nat.div_add_mod (n.toNat * c.toNat) B64
  have hv := moU_val (n.toNat * c.toNat)
  have hm : moN (n.toNat * c.toNat) = min (n.toNat * c.toNat) 9223372036854775807 := rfl
  rw [hm] at hv
  generalize moU (n.toNat * c.toNat) = m at hv ⊢
  generalize n.toNat * c.toNat = p at *
  generalize hF : hiF n c = hi at *
  unfold B64 at *
  obtain ⟨q, hlq⟩ : ∃ q, n * c = q := ⟨_, rfl⟩
  rw [hlq] at h2
  by_cases h : 9223372036854775807#64 < q
  · have h5 : 9223372036854775807 < q.toNat := h
    have e : m = 9223372036854775807#64 := by
      refine BitVec.eq_of_toNat_eq ?_
      rw [hv]
      show _ = 9223372036854775807
      omega
    have hq := eq_true h
    rw [e]
    repeat' first
      | refine W.seq ?_ | (refine W.regS G ?_; dsimp only) | refine SW.nil ?_ | refine thenQ_normal ?_ | refine W.skip ?_ | refine W.exit ?_ | refine thenQ_exit ?_ | refine inBlockQ_exit ?_ | refine inBlockQ_normal ?_ | refine W.block ?_
      | (apply SW.toC; refine SWcall.go (And.intro mul64S.eq_1 (And.intro hF (And.intro hlq hq))) ?_) | (apply SW.toOp; refine SWop.go (And.intro mul64S.eq_1 (And.intro hF (And.intro hlq hq))) ?_) | (apply SW.toCG; first | refine SWcall.yes (And.intro mul64S.eq_1 (And.intro hF (And.intro hlq hq))) ?_ | refine SWcall.no (And.intro mul64S.eq_1 (And.intro hF (And.intro hlq hq))) ?_) | (apply SW.toG; first | refine SWop.yes (And.intro mul64S.eq_1 (And.intro hF (And.intro hlq hq))) ?_ | refine SWop.no (And.intro mul64S.eq_1 (And.intro hF (And.intro hlq hq))) ?_)
    refine W.condZ G (And.intro mul64S.eq_1 (And.intro hF (And.intro hlq hq))) ?_ ?_
    all_goals intro hx
    · repeat' first
        | refine W.seq ?_ | (refine W.regS G ?_; dsimp only) | refine SW.nil ?_ | refine thenQ_normal ?_ | refine W.skip ?_ | refine W.exit ?_ | refine thenQ_exit ?_ | refine inBlockQ_exit ?_ | refine inBlockQ_normal ?_ | refine W.block ?_
        | (apply SW.toC; refine SWcall.go (And.intro mul64S.eq_1 (And.intro hF (And.intro hlq hq))) ?_) | (apply SW.toOp; refine SWop.go (And.intro mul64S.eq_1 (And.intro hF (And.intro hlq hq))) ?_) | (apply SW.toCG; first | refine SWcall.yes (And.intro mul64S.eq_1 (And.intro hF (And.intro hlq hq))) ?_ | refine SWcall.no (And.intro mul64S.eq_1 (And.intro hF (And.intro hlq hq))) ?_) | (apply SW.toG; first | refine SWop.yes (And.intro mul64S.eq_1 (And.intro hF (And.intro hlq hq))) ?_ | refine SWop.no (And.intro mul64S.eq_1 (And.intro hF (And.intro hlq hq))) ?_)
      refine W.ret ?_
      repeat' first
        | refine thenQ_ret ?_
        | refine inBlockQ_ret ?_
      refine fin1Z (And.intro mul64S.eq_1 (And.intro hF (And.intro hlq hq))) ?_
      exact leV_refl
    · repeat' first
        | refine W.seq ?_ | (refine W.regS G ?_; dsimp only) | refine SW.nil ?_ | refine thenQ_normal ?_ | refine W.skip ?_ | refine W.exit ?_ | refine thenQ_exit ?_ | refine inBlockQ_exit ?_ | refine inBlockQ_normal ?_ | refine W.block ?_
        | (apply SW.toC; refine SWcall.go (And.intro mul64S.eq_1 (And.intro hF (And.intro hlq hq))) ?_) | (apply SW.toOp; refine SWop.go (And.intro mul64S.eq_1 (And.intro hF (And.intro hlq hq))) ?_) | (apply SW.toCG; first | refine SWcall.yes (And.intro mul64S.eq_1 (And.intro hF (And.intro hlq hq))) ?_ | refine SWcall.no (And.intro mul64S.eq_1 (And.intro hF (And.intro hlq hq))) ?_) | (apply SW.toG; first | refine SWop.yes (And.intro mul64S.eq_1 (And.intro hF (And.intro hlq hq))) ?_ | refine SWop.no (And.intro mul64S.eq_1 (And.intro hF (And.intro hlq hq))) ?_)
      refine W.ret ?_
      repeat' first
        | refine thenQ_ret ?_
        | refine inBlockQ_ret ?_
      refine fin1Z (And.intro mul64S.eq_1 (And.intro hF (And.intro hlq hq))) ?_
      exact leV_refl
  · have h5 : ¬ 9223372036854775807 < q.toNat := h
    have hq := eq_false h
    repeat' first
      | refine W.seq ?_ | (refine W.regS G ?_; dsimp only) | refine SW.nil ?_ | refine thenQ_normal ?_ | refine W.skip ?_ | refine W.exit ?_ | refine thenQ_exit ?_ | refine inBlockQ_exit ?_ | refine inBlockQ_normal ?_ | refine W.block ?_
      | (apply SW.toC; refine SWcall.go (And.intro mul64S.eq_1 (And.intro hF (And.intro hlq hq))) ?_) | (apply SW.toOp; refine SWop.go (And.intro mul64S.eq_1 (And.intro hF (And.intro hlq hq))) ?_) | (apply SW.toCG; first | refine SWcall.yes (And.intro mul64S.eq_1 (And.intro hF (And.intro hlq hq))) ?_ | refine SWcall.no (And.intro mul64S.eq_1 (And.intro hF (And.intro hlq hq))) ?_) | (apply SW.toG; first | refine SWop.yes (And.intro mul64S.eq_1 (And.intro hF (And.intro hlq hq))) ?_ | refine SWop.no (And.intro mul64S.eq_1 (And.intro hF (And.intro hlq hq))) ?_)
    refine W.condZ G (And.intro mul64S.eq_1 (And.intro hF (And.intro hlq hq))) ?_ ?_
    all_goals intro hx
    · have hx' : 0 < hi.toNat := yes_of hx
      have e : m = 9223372036854775807#64 := by
        refine BitVec.eq_of_toNat_eq ?_
        rw [hv]
        show _ = 9223372036854775807
        omega
      rw [e]
      repeat' first
        | refine W.seq ?_ | (refine W.regS G ?_; dsimp only) | refine SW.nil ?_ | refine thenQ_normal ?_ | refine W.skip ?_ | refine W.exit ?_ | refine thenQ_exit ?_ | refine inBlockQ_exit ?_ | refine inBlockQ_normal ?_ | refine W.block ?_
        | (apply SW.toC; refine SWcall.go (And.intro mul64S.eq_1 (And.intro hF (And.intro hlq hq))) ?_) | (apply SW.toOp; refine SWop.go (And.intro mul64S.eq_1 (And.intro hF (And.intro hlq hq))) ?_) | (apply SW.toCG; first | refine SWcall.yes (And.intro mul64S.eq_1 (And.intro hF (And.intro hlq hq))) ?_ | refine SWcall.no (And.intro mul64S.eq_1 (And.intro hF (And.intro hlq hq))) ?_) | (apply SW.toG; first | refine SWop.yes (And.intro mul64S.eq_1 (And.intro hF (And.intro hlq hq))) ?_ | refine SWop.no (And.intro mul64S.eq_1 (And.intro hF (And.intro hlq hq))) ?_)
      refine W.ret ?_
      repeat' first
        | refine thenQ_ret ?_
        | refine inBlockQ_ret ?_
      refine fin1Z (And.intro mul64S.eq_1 (And.intro hF (And.intro hlq hq))) ?_
      exact leV_refl
    · have hx' : ¬ 0 < hi.toNat := no_of hx
      have e : m = q := by
        refine BitVec.eq_of_toNat_eq ?_
        rw [hv]
        omega
      rw [e]
      repeat' first
        | refine W.seq ?_ | (refine W.regS G ?_; dsimp only) | refine SW.nil ?_ | refine thenQ_normal ?_ | refine W.skip ?_ | refine W.exit ?_ | refine thenQ_exit ?_ | refine inBlockQ_exit ?_ | refine inBlockQ_normal ?_ | refine W.block ?_
        | (apply SW.toC; refine SWcall.go (And.intro mul64S.eq_1 (And.intro hF (And.intro hlq hq))) ?_) | (apply SW.toOp; refine SWop.go (And.intro mul64S.eq_1 (And.intro hF (And.intro hlq hq))) ?_) | (apply SW.toCG; first | refine SWcall.yes (And.intro mul64S.eq_1 (And.intro hF (And.intro hlq hq))) ?_ | refine SWcall.no (And.intro mul64S.eq_1 (And.intro hF (And.intro hlq hq))) ?_) | (apply SW.toG; first | refine SWop.yes (And.intro mul64S.eq_1 (And.intro hF (And.intro hlq hq))) ?_ | refine SWop.no (And.intro mul64S.eq_1 (And.intro hF (And.intro hlq hq))) ?_)
      refine W.ret ?_
      repeat' first
        | refine thenQ_ret ?_
        | refine inBlockQ_ret ?_
      refine fin1Z (And.intro mul64S.eq_1 (And.intro hF (And.intro hlq hq))) ?_
      exact leV_refl
theorem rWords_sound : SoundFn Try.prog glB 26 wordsS.run := by
  have G := good_of (P := Try.prog) glB_ro (l := []) (by simp)
  refine soundFn_of_W G Try.func26 (by decide) rfl (by decide) ?_
  intro ins ret outs h
  unfold wordsS at h
  dsimp only at h
  split at h
  rotate_left
  · cases h
  rename_i x
  cases h
  refine ⟨by show 1 ≤ 12; decide, fun w0 ext av => ?_⟩
  rw [Try.ntmps26, st0_eq]
  have hx := x.isLt
  have hw := wdU_val x
  have hw2 : wdN x.toNat = (x.toNat + 31) / 32 := rfl
  have n32 : ¬ (32#64 : BitVec 64) = 0 := by decide
  have v1 : (x / 32#64).toNat = x.toNat / 32 := BitVec.toNat_udiv
  have v2 : (x % 32#64).toNat = x.toNat % 32 := BitVec.toNat_umod
  repeat' first
    | refine W.seq ?_ | (refine W.regS G ?_; dsimp only) | refine SW.nil ?_ | refine thenQ_normal ?_ | refine W.skip ?_ | refine W.exit ?_ | refine thenQ_exit ?_ | refine inBlockQ_exit ?_ | refine inBlockQ_normal ?_ | refine W.block ?_
    | (apply SW.toC; refine SWcall.go n32 ?_) | (apply SW.toOp; refine SWop.go n32 ?_) | (apply SW.toCG; first | refine SWcall.yes n32 ?_ | refine SWcall.no n32 ?_) | (apply SW.toG; first | refine SWop.yes n32 ?_ | refine SWop.no n32 ?_)
  refine W.condZ G n32 ?_ ?_
  all_goals intro hc
  · have hc' : 0 < (x % 32#64).toNat := yes_of hc
    have e : wdU x = x / 32#64 + 1#64 := by
      refine BitVec.eq_of_toNat_eq ?_
      rw [hw, hw2, BitVec.toNat_add, v1]
      show _ = (x.toNat / 32 + 1) % 2 ^ 64
      omega
    rw [e]
    repeat' first
      | refine W.seq ?_ | (refine W.regS G ?_; dsimp only) | refine SW.nil ?_ | refine thenQ_normal ?_ | refine W.skip ?_ | refine W.exit ?_ | refine thenQ_exit ?_ | refine inBlockQ_exit ?_ | refine inBlockQ_normal ?_ | refine W.block ?_
      | (apply SW.toC; refine SWcall.go n32 ?_) | (apply SW.toOp; refine SWop.go n32 ?_) | (apply SW.toCG; first | refine SWcall.yes n32 ?_ | refine SWcall.no n32 ?_) | (apply SW.toG; first | refine SWop.yes n32 ?_ | refine SWop.no n32 ?_)
    refine W.ret ?_
    repeat' first
      | refine thenQ_ret ?_
      | refine inBlockQ_ret ?_
    refine fin1Z n32 ?_
    exact leV_refl
  · have hc' : ¬ 0 < (x % 32#64).toNat := no_of hc
    have e : wdU x = x / 32#64 := by
      refine BitVec.eq_of_toNat_eq ?_
      rw [hw, hw2, v1]
      omega
    rw [e]
    repeat' first
      | refine W.seq ?_ | (refine W.regS G ?_; dsimp only) | refine SW.nil ?_ | refine thenQ_normal ?_ | refine W.skip ?_ | refine W.exit ?_ | refine thenQ_exit ?_ | refine inBlockQ_exit ?_ | refine inBlockQ_normal ?_ | refine W.block ?_
      | (apply SW.toC; refine SWcall.go n32 ?_) | (apply SW.toOp; refine SWop.go n32 ?_) | (apply SW.toCG; first | refine SWcall.yes n32 ?_ | refine SWcall.no n32 ?_) | (apply SW.toG; first | refine SWop.yes n32 ?_ | refine SWop.no n32 ?_)
    refine W.ret ?_
    repeat' first
      | refine thenQ_ret ?_
      | refine inBlockQ_ret ?_
    refine fin1Z n32 ?_
    exact leV_refl
theorem rMemory_sound : SoundFn Try.prog glB 22 memoryS.run := by
  have G := good_of (P := Try.prog) glB_ro (l := [(26, wordsS)]) (by simp only [List.forall_mem_cons]; exact ⟨rWords_sound, by simp⟩)
  refine soundFn_of_W G Try.func22 (by decide) rfl (by decide) ?_
  intro ins ret outs h
  unfold memoryS at h
  dsimp only at h
  split at h
  rotate_left
  · cases h
  rename_i x
  cases h
  refine ⟨by show 1 ≤ 16; decide, fun w0 ext av => ?_⟩
  rw [Try.ntmps22, st0_eq]
  repeat' first
    | refine W.seq ?_ | (refine W.regS G ?_; dsimp only) | refine SW.nil ?_ | refine thenQ_normal ?_ | refine W.skip ?_ | refine W.exit ?_ | refine thenQ_exit ?_ | refine inBlockQ_exit ?_ | refine inBlockQ_normal ?_ | refine W.block ?_
    | (apply SW.toC; refine SWcall.go True.intro ?_) | (apply SW.toOp; refine SWop.go True.intro ?_) | (apply SW.toCG; first | refine SWcall.yes True.intro ?_ | refine SWcall.no True.intro ?_) | (apply SW.toG; first | refine SWop.yes True.intro ?_ | refine SWop.no True.intro ?_)
  refine W.condZ G True.intro ?_ ?_
  all_goals intro hc
  · have hc' : 4294967296 < x.toNat := yes_of hc
    have e1 : memU x = 0#64 := if_neg (by omega)
    have e2 : decide (x.toNat ≤ 4294967296) = false := decide_eq_false (by omega)
    rw [e1, e2]
    repeat' first
      | refine W.seq ?_ | (refine W.regS G ?_; dsimp only) | refine SW.nil ?_ | refine thenQ_normal ?_ | refine W.skip ?_ | refine W.exit ?_ | refine thenQ_exit ?_ | refine inBlockQ_exit ?_ | refine inBlockQ_normal ?_ | refine W.block ?_
      | (apply SW.toC; refine SWcall.go True.intro ?_) | (apply SW.toOp; refine SWop.go True.intro ?_) | (apply SW.toCG; first | refine SWcall.yes True.intro ?_ | refine SWcall.no True.intro ?_) | (apply SW.toG; first | refine SWop.yes True.intro ?_ | refine SWop.no True.intro ?_)
    refine W.ret ?_
    repeat' first
      | refine thenQ_ret ?_
      | refine inBlockQ_ret ?_
    refine fin2Z True.intro ?_ ?_
    · exact leV_refl
    · exact leV_refl
  · have hc' : ¬ 4294967296 < x.toNat := no_of hc
    have e2 : decide (x.toNat ≤ 4294967296) = true := decide_eq_true (by omega)
    have e3 : 3#64 * wdU x = wdU x * 3#64 := BitVec.mul_comm _ _
    rw [memU_eq (by omega), e2, e3]
    have n512 : ¬ (512#64 : BitVec 64) = 0 := by decide
    repeat' first
      | refine W.seq ?_ | (refine W.regS G ?_; dsimp only) | refine SW.nil ?_ | refine thenQ_normal ?_ | refine W.skip ?_ | refine W.exit ?_ | refine thenQ_exit ?_ | refine inBlockQ_exit ?_ | refine inBlockQ_normal ?_ | refine W.block ?_
      | (apply SW.toC; refine SWcall.go (And.intro wordsS.eq_1 n512) ?_) | (apply SW.toOp; refine SWop.go (And.intro wordsS.eq_1 n512) ?_) | (apply SW.toCG; first | refine SWcall.yes (And.intro wordsS.eq_1 n512) ?_ | refine SWcall.no (And.intro wordsS.eq_1 n512) ?_) | (apply SW.toG; first | refine SWop.yes (And.intro wordsS.eq_1 n512) ?_ | refine SWop.no (And.intro wordsS.eq_1 n512) ?_)
    refine W.ret ?_
    repeat' first
      | refine thenQ_ret ?_
      | refine inBlockQ_ret ?_
    refine fin2Z (And.intro wordsS.eq_1 n512) ?_ ?_
    · exact leV_refl
    · exact leV_refl
theorem rGrow_sound : SoundFn Try.prog glB 23 growS.run := by
  have G := good_of (P := Try.prog) glB_ro (l := [(22, memoryS)]) (by simp only [List.forall_mem_cons]; exact ⟨rMemory_sound, by simp⟩)
  refine soundFn_of_W G Try.func23 (by decide) rfl (by decide) ?_
  intro ins ret outs h
  unfold growS at h
  dsimp only at h
  split at h
  rotate_left
  · cases h
  rename_i a b
  cases h
  refine ⟨by show 2 ≤ 38; decide, fun w0 ext av => ?_⟩
  rw [Try.ntmps23, st0_eq]
  have hB : grB a b = (decide (a.toNat ≤ 4294967296) && decide (b.toNat ≤ 4294967296)) := rfl
  by_cases ha : a.toNat ≤ 4294967296
  · have ea := decide_eq_true ha
    have va := memU_val ha
    by_cases hb : b.toNat ≤ 4294967296
    · have eb := decide_eq_true hb
      have vb := memU_val hb
      have hU : grU a b = BitVec.ofNat 64 (memN b.toNat - memN a.toNat) := if_pos ⟨ha, hb⟩
      rw [ea, eb] at hB
      have la := mem_lt ha
      have lb := mem_lt hb
      by_cases h : memU b < memU a
      · have h3 : (memU b).toNat < (memU a).toNat := h
        have hq := eq_true h
        have e : grU a b = 0#64 := by
          rw [hU, show memN b.toNat - memN a.toNat = 0 from by omega]
        rw [e, hB]
        repeat' first
          | refine W.seq ?_ | (refine W.regS G ?_; dsimp only) | refine SW.nil ?_ | refine thenQ_normal ?_ | refine W.skip ?_ | refine W.exit ?_ | refine thenQ_exit ?_ | refine inBlockQ_exit ?_ | refine inBlockQ_normal ?_ | refine W.block ?_
          | (apply SW.toC; refine SWcall.go (And.intro memoryS.eq_1 (And.intro ea (And.intro eb hq))) ?_) | (apply SW.toOp; refine SWop.go (And.intro memoryS.eq_1 (And.intro ea (And.intro eb hq))) ?_) | (apply SW.toCG; first | refine SWcall.yes (And.intro memoryS.eq_1 (And.intro ea (And.intro eb hq))) ?_ | refine SWcall.no (And.intro memoryS.eq_1 (And.intro ea (And.intro eb hq))) ?_) | (apply SW.toG; first | refine SWop.yes (And.intro memoryS.eq_1 (And.intro ea (And.intro eb hq))) ?_ | refine SWop.no (And.intro memoryS.eq_1 (And.intro ea (And.intro eb hq))) ?_)
        refine W.condZ G (And.intro memoryS.eq_1 (And.intro ea (And.intro eb hq))) ?_ ?_
        all_goals intro hc
        · repeat' first
            | refine W.seq ?_ | (refine W.regS G ?_; dsimp only) | refine SW.nil ?_ | refine thenQ_normal ?_ | refine W.skip ?_ | refine W.exit ?_ | refine thenQ_exit ?_ | refine inBlockQ_exit ?_ | refine inBlockQ_normal ?_ | refine W.block ?_
            | (apply SW.toC; refine SWcall.go (And.intro memoryS.eq_1 (And.intro ea (And.intro eb hq))) ?_) | (apply SW.toOp; refine SWop.go (And.intro memoryS.eq_1 (And.intro ea (And.intro eb hq))) ?_) | (apply SW.toCG; first | refine SWcall.yes (And.intro memoryS.eq_1 (And.intro ea (And.intro eb hq))) ?_ | refine SWcall.no (And.intro memoryS.eq_1 (And.intro ea (And.intro eb hq))) ?_) | (apply SW.toG; first | refine SWop.yes (And.intro memoryS.eq_1 (And.intro ea (And.intro eb hq))) ?_ | refine SWop.no (And.intro memoryS.eq_1 (And.intro ea (And.intro eb hq))) ?_)
          refine W.ret ?_
          repeat' first
            | refine thenQ_ret ?_
            | refine inBlockQ_ret ?_
          refine fin2Z (And.intro memoryS.eq_1 (And.intro ea (And.intro eb hq))) ?_ ?_
          · exact leV_refl
          · exact leV_refl
        · exact absurd hc (by decide)
      · have h3 : ¬ (memU b).toNat < (memU a).toNat := h
        have hq := eq_false h
        have e : grU a b = memU b - memU a := by
          rw [hU]
          refine BitVec.eq_of_toNat_eq ?_
          rw [BitVec.toNat_ofNat, BitVec.toNat_sub, va, vb]
          omega
        rw [e, hB]
        repeat' first
          | refine W.seq ?_ | (refine W.regS G ?_; dsimp only) | refine SW.nil ?_ | refine thenQ_normal ?_ | refine W.skip ?_ | refine W.exit ?_ | refine thenQ_exit ?_ | refine inBlockQ_exit ?_ | refine inBlockQ_normal ?_ | refine W.block ?_
          | (apply SW.toC; refine SWcall.go (And.intro memoryS.eq_1 (And.intro ea (And.intro eb hq))) ?_) | (apply SW.toOp; refine SWop.go (And.intro memoryS.eq_1 (And.intro ea (And.intro eb hq))) ?_) | (apply SW.toCG; first | refine SWcall.yes (And.intro memoryS.eq_1 (And.intro ea (And.intro eb hq))) ?_ | refine SWcall.no (And.intro memoryS.eq_1 (And.intro ea (And.intro eb hq))) ?_) | (apply SW.toG; first | refine SWop.yes (And.intro memoryS.eq_1 (And.intro ea (And.intro eb hq))) ?_ | refine SWop.no (And.intro memoryS.eq_1 (And.intro ea (And.intro eb hq))) ?_)
        refine W.condZ G (And.intro memoryS.eq_1 (And.intro ea (And.intro eb hq))) ?_ ?_
        all_goals intro hc
        · exact absurd hc (by decide)
        repeat' first
          | refine W.seq ?_ | (refine W.regS G ?_; dsimp only) | refine SW.nil ?_ | refine thenQ_normal ?_ | refine W.skip ?_ | refine W.exit ?_ | refine thenQ_exit ?_ | refine inBlockQ_exit ?_ | refine inBlockQ_normal ?_ | refine W.block ?_
          | (apply SW.toC; refine SWcall.go (And.intro memoryS.eq_1 (And.intro ea (And.intro eb hq))) ?_) | (apply SW.toOp; refine SWop.go (And.intro memoryS.eq_1 (And.intro ea (And.intro eb hq))) ?_) | (apply SW.toCG; first | refine SWcall.yes (And.intro memoryS.eq_1 (And.intro ea (And.intro eb hq))) ?_ | refine SWcall.no (And.intro memoryS.eq_1 (And.intro ea (And.intro eb hq))) ?_) | (apply SW.toG; first | refine SWop.yes (And.intro memoryS.eq_1 (And.intro ea (And.intro eb hq))) ?_ | refine SWop.no (And.intro memoryS.eq_1 (And.intro ea (And.intro eb hq))) ?_)
        refine W.ret ?_
        repeat' first
          | refine thenQ_ret ?_
          | refine inBlockQ_ret ?_
        refine fin2Z (And.intro memoryS.eq_1 (And.intro ea (And.intro eb hq))) ?_ ?_
        · exact leV_refl
        · exact leV_refl
    · have eb := decide_eq_false hb
      have hU : grU a b = 0#64 := if_neg (fun c => hb c.2)
      rw [ea, eb] at hB
      rw [hU, hB]
      repeat' first
        | refine W.seq ?_ | (refine W.regS G ?_; dsimp only) | refine SW.nil ?_ | refine thenQ_normal ?_ | refine W.skip ?_ | refine W.exit ?_ | refine thenQ_exit ?_ | refine inBlockQ_exit ?_ | refine inBlockQ_normal ?_ | refine W.block ?_
        | (apply SW.toC; refine SWcall.go (And.intro memoryS.eq_1 (And.intro ea eb)) ?_) | (apply SW.toOp; refine SWop.go (And.intro memoryS.eq_1 (And.intro ea eb)) ?_) | (apply SW.toCG; first | refine SWcall.yes (And.intro memoryS.eq_1 (And.intro ea eb)) ?_ | refine SWcall.no (And.intro memoryS.eq_1 (And.intro ea eb)) ?_) | (apply SW.toG; first | refine SWop.yes (And.intro memoryS.eq_1 (And.intro ea eb)) ?_ | refine SWop.no (And.intro memoryS.eq_1 (And.intro ea eb)) ?_)
      refine W.condZ G (And.intro memoryS.eq_1 (And.intro ea eb)) ?_ ?_
      all_goals intro hc
      · repeat' first
          | refine W.seq ?_ | (refine W.regS G ?_; dsimp only) | refine SW.nil ?_ | refine thenQ_normal ?_ | refine W.skip ?_ | refine W.exit ?_ | refine thenQ_exit ?_ | refine inBlockQ_exit ?_ | refine inBlockQ_normal ?_ | refine W.block ?_
          | (apply SW.toC; refine SWcall.go (And.intro memoryS.eq_1 (And.intro ea eb)) ?_) | (apply SW.toOp; refine SWop.go (And.intro memoryS.eq_1 (And.intro ea eb)) ?_) | (apply SW.toCG; first | refine SWcall.yes (And.intro memoryS.eq_1 (And.intro ea eb)) ?_ | refine SWcall.no (And.intro memoryS.eq_1 (And.intro ea eb)) ?_) | (apply SW.toG; first | refine SWop.yes (And.intro memoryS.eq_1 (And.intro ea eb)) ?_ | refine SWop.no (And.intro memoryS.eq_1 (And.intro ea eb)) ?_)
        refine W.ret ?_
        repeat' first
          | refine thenQ_ret ?_
          | refine inBlockQ_ret ?_
        refine fin2Z (And.intro memoryS.eq_1 (And.intro ea eb)) ?_ ?_
        · exact leV_refl
        · exact leV_refl
      · exact absurd hc (by decide)
  · have ea := decide_eq_false ha
    have hU : grU a b = 0#64 := if_neg (fun c => ha c.1)
    have hB2 : grB a b = false := by rw [hB, ea]; rfl
    rw [hU, hB2]
    repeat' first
      | refine W.seq ?_ | (refine W.regS G ?_; dsimp only) | refine SW.nil ?_ | refine thenQ_normal ?_ | refine W.skip ?_ | refine W.exit ?_ | refine thenQ_exit ?_ | refine inBlockQ_exit ?_ | refine inBlockQ_normal ?_ | refine W.block ?_
      | (apply SW.toC; refine SWcall.go (And.intro memoryS.eq_1 ea) ?_) | (apply SW.toOp; refine SWop.go (And.intro memoryS.eq_1 ea) ?_) | (apply SW.toCG; first | refine SWcall.yes (And.intro memoryS.eq_1 ea) ?_ | refine SWcall.no (And.intro memoryS.eq_1 ea) ?_) | (apply SW.toG; first | refine SWop.yes (And.intro memoryS.eq_1 ea) ?_ | refine SWop.no (And.intro memoryS.eq_1 ea) ?_)
    refine W.condZ G (And.intro memoryS.eq_1 ea) ?_ ?_
    all_goals intro hc
    · repeat' first
        | refine W.seq ?_ | (refine W.regS G ?_; dsimp only) | refine SW.nil ?_ | refine thenQ_normal ?_ | refine W.skip ?_ | refine W.exit ?_ | refine thenQ_exit ?_ | refine inBlockQ_exit ?_ | refine inBlockQ_normal ?_ | refine W.block ?_
        | (apply SW.toC; refine SWcall.go (And.intro memoryS.eq_1 ea) ?_) | (apply SW.toOp; refine SWop.go (And.intro memoryS.eq_1 ea) ?_) | (apply SW.toCG; first | refine SWcall.yes (And.intro memoryS.eq_1 ea) ?_ | refine SWcall.no (And.intro memoryS.eq_1 ea) ?_) | (apply SW.toG; first | refine SWop.yes (And.intro memoryS.eq_1 ea) ?_ | refine SWop.no (And.intro memoryS.eq_1 ea) ?_)
      refine W.ret ?_
      repeat' first
        | refine thenQ_ret ?_
        | refine inBlockQ_ret ?_
      refine fin2Z (And.intro memoryS.eq_1 ea) ?_ ?_
      · exact leV_refl
      · exact leV_refl
    · exact absurd hc (by decide)
noncomputable def copyS (k : Nat) : FSpec := { run := fun ins => match ins with
  | [.u 64 n] => some (.u 64 (moU (wdN n.toNat * k)), [])
  | _ => none }
theorem copy_sound : SoundFn Try.prog glB 24 (copyS 3).run := by
  have G := good_of (P := Try.prog) glB_ro (l := [(58, wordsS), (57, timesS)]) (by simp only [List.forall_mem_cons]; exact ⟨words_sound, times_sound, by simp⟩)
  refine soundFn_of_W G Try.func24 (by decide) rfl (by decide) ?_
  intro ins ret outs h
  unfold copyS at h
  dsimp only at h
  split at h
  rotate_left
  · cases h
  rename_i n
  cases h
  refine ⟨by show 1 ≤ 6; decide, fun w0 ext av => ?_⟩
  rw [Try.ntmps24, st0_eq]
  have e : (3#64).toNat = 3 := rfl
  have hw := wdU_val n
  rw [← hw, ← e]
  repeat' first
    | refine W.seq ?_ | (refine W.regS G ?_; dsimp only) | refine SW.nil ?_ | refine thenQ_normal ?_ | refine W.skip ?_ | refine W.exit ?_ | refine thenQ_exit ?_ | refine inBlockQ_exit ?_ | refine inBlockQ_normal ?_ | refine W.block ?_
    | (apply SW.toC; refine SWcall.go (And.intro wordsS.eq_1 timesS.eq_1) ?_) | (apply SW.toOp; refine SWop.go (And.intro wordsS.eq_1 timesS.eq_1) ?_) | (apply SW.toCG; first | refine SWcall.yes (And.intro wordsS.eq_1 timesS.eq_1) ?_ | refine SWcall.no (And.intro wordsS.eq_1 timesS.eq_1) ?_) | (apply SW.toG; first | refine SWop.yes (And.intro wordsS.eq_1 timesS.eq_1) ?_ | refine SWop.no (And.intro wordsS.eq_1 timesS.eq_1) ?_)
  refine W.ret ?_
  repeat' first
    | refine thenQ_ret ?_
    | refine inBlockQ_ret ?_
  refine fin1Z (And.intro wordsS.eq_1 timesS.eq_1) ?_
  exact leV_refl
theorem sha_sound : SoundFn Try.prog glB 27 (copyS 6).run := by
  have G := good_of (P := Try.prog) glB_ro (l := [(58, wordsS), (57, timesS)]) (by simp only [List.forall_mem_cons]; exact ⟨words_sound, times_sound, by simp⟩)
  refine soundFn_of_W G Try.func27 (by decide) rfl (by decide) ?_
  intro ins ret outs h
  unfold copyS at h
  dsimp only at h
  split at h
  rotate_left
  · cases h
  rename_i n
  cases h
  refine ⟨by show 1 ≤ 6; decide, fun w0 ext av => ?_⟩
  rw [Try.ntmps27, st0_eq]
  have e : (6#64).toNat = 6 := rfl
  have hw := wdU_val n
  rw [← hw, ← e]
  repeat' first
    | refine W.seq ?_ | (refine W.regS G ?_; dsimp only) | refine SW.nil ?_ | refine thenQ_normal ?_ | refine W.skip ?_ | refine W.exit ?_ | refine thenQ_exit ?_ | refine inBlockQ_exit ?_ | refine inBlockQ_normal ?_ | refine W.block ?_
    | (apply SW.toC; refine SWcall.go (And.intro wordsS.eq_1 timesS.eq_1) ?_) | (apply SW.toOp; refine SWop.go (And.intro wordsS.eq_1 timesS.eq_1) ?_) | (apply SW.toCG; first | refine SWcall.yes (And.intro wordsS.eq_1 timesS.eq_1) ?_ | refine SWcall.no (And.intro wordsS.eq_1 timesS.eq_1) ?_) | (apply SW.toG; first | refine SWop.yes (And.intro wordsS.eq_1 timesS.eq_1) ?_ | refine SWop.no (And.intro wordsS.eq_1 timesS.eq_1) ?_)
  refine W.ret ?_
  repeat' first
    | refine thenQ_ret ?_
    | refine inBlockQ_ret ?_
  refine fin1Z (And.intro wordsS.eq_1 timesS.eq_1) ?_
  exact leV_refl
noncomputable def mostS : FSpec := { run := fun ins => match ins with
  | [.u 64 n, .u 64 c, .u 64 m] => chk (0 < c.toNat ∧ m.toNat ≤ 9223372036854775807) (some (.u 64 (moU (n.toNat * c.toNat + m.toNat)), []))
  | _ => none }
theorem most_sound : SoundFn Try.prog glB 25 mostS.run := by
  have G := good_of (P := Try.prog) glB_ro (l := []) (by simp)
  refine soundFn_of_W G Try.func25 (by decide) rfl (by decide) ?_
  intro ins ret outs h
  unfold mostS at h
  dsimp only at h
  split at h
  rotate_left
  · cases h
  rename_i n c m
  obtain ⟨⟨hc0, hm0⟩, h'⟩ := chk_some h
  clear h
  cases h'
  refine ⟨by show 3 ≤ 21; decide, fun w0 ext av => ?_⟩
  rw [Try.ntmps25, st0_eq]
  have nc : ¬ c = 0 := fun e => by rw [e] at hc0; exact absurd hc0 (by decide)
  have hv := moU_val (n.toNat * c.toNat + m.toNat)
  have hm : moN (n.toNat * c.toNat + m.toNat) = min (n.toNat * c.toNat + m.toNat) 9223372036854775807 := rfl
  rw [hm] at hv
  have v1 : (9223372036854775807#64 - m).toNat = 9223372036854775807 - m.toNat := by
    rw [BitVec.toNat_sub]
    show (2 ^ 64 - m.toNat + 9223372036854775807) % 2 ^ 64 = _
    omega
  have v2 : ((9223372036854775807#64 - m) / c).toNat = (9223372036854775807 - m.toNat) / c.toNat := by rw [BitVec.toNat_udiv, v1]
  have hd := Nat.div_lt_iff_lt_mul (x := 9223372036854775807 - m.toNat) (y := n.toNat) hc0
  have v3 : (n * c + m).toNat = (n.toNat * c.toNat + m.toNat) % 18446744073709551616 := by
    rw [BitVec.toNat_add, BitVec.toNat_mul, Nat.mod_add_mod]
  repeat' first
    | refine W.seq ?_ | (refine W.regS G ?_; dsimp only) | refine SW.nil ?_ | refine thenQ_normal ?_ | refine W.skip ?_ | refine W.exit ?_ | refine thenQ_exit ?_ | refine inBlockQ_exit ?_ | refine inBlockQ_normal ?_ | refine W.block ?_
    | (apply SW.toC; refine SWcall.go nc ?_) | (apply SW.toOp; refine SWop.go nc ?_) | (apply SW.toCG; first | refine SWcall.yes nc ?_ | refine SWcall.no nc ?_) | (apply SW.toG; first | refine SWop.yes nc ?_ | refine SWop.no nc ?_)
  refine W.condZ G nc ?_ ?_
  all_goals intro hx
  · have hx' : ((9223372036854775807#64 - m) / c).toNat < n.toNat := yes_of hx
    rw [v2] at hx'
    have h5 := hd.1 hx'
    have e : moU (n.toNat * c.toNat + m.toNat) = 9223372036854775807#64 := by
      refine BitVec.eq_of_toNat_eq ?_
      rw [hv]
      show _ = 9223372036854775807
      omega
    rw [e]
    repeat' first
      | refine W.seq ?_ | (refine W.regS G ?_; dsimp only) | refine SW.nil ?_ | refine thenQ_normal ?_ | refine W.skip ?_ | refine W.exit ?_ | refine thenQ_exit ?_ | refine inBlockQ_exit ?_ | refine inBlockQ_normal ?_ | refine W.block ?_
      | (apply SW.toC; refine SWcall.go nc ?_) | (apply SW.toOp; refine SWop.go nc ?_) | (apply SW.toCG; first | refine SWcall.yes nc ?_ | refine SWcall.no nc ?_) | (apply SW.toG; first | refine SWop.yes nc ?_ | refine SWop.no nc ?_)
    refine W.ret ?_
    repeat' first
      | refine thenQ_ret ?_
      | refine inBlockQ_ret ?_
    refine fin1Z nc ?_
    exact leV_refl
  · have hx' : ¬ ((9223372036854775807#64 - m) / c).toNat < n.toNat := no_of hx
    rw [v2] at hx'
    have h5 : ¬ 9223372036854775807 - m.toNat < n.toNat * c.toNat := fun h => hx' (hd.2 h)
    have e : moU (n.toNat * c.toNat + m.toNat) = n * c + m := by
      refine BitVec.eq_of_toNat_eq ?_
      rw [hv, v3]
      omega
    rw [e]
    repeat' first
      | refine W.seq ?_ | (refine W.regS G ?_; dsimp only) | refine SW.nil ?_ | refine thenQ_normal ?_ | refine W.skip ?_ | refine W.exit ?_ | refine thenQ_exit ?_ | refine inBlockQ_exit ?_ | refine inBlockQ_normal ?_ | refine W.block ?_
      | (apply SW.toC; refine SWcall.go nc ?_) | (apply SW.toOp; refine SWop.go nc ?_) | (apply SW.toCG; first | refine SWcall.yes nc ?_ | refine SWcall.no nc ?_) | (apply SW.toG; first | refine SWop.yes nc ?_ | refine SWop.no nc ?_)
    refine W.ret ?_
    repeat' first
      | refine thenQ_ret ?_
      | refine inBlockQ_ret ?_
    refine fin1Z nc ?_
    exact leV_refl
end Go.Vm.C19

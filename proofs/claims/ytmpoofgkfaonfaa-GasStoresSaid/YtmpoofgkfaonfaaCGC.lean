/- What some functions of the program compute, walked through once. -/
import Derived.Test.YtmpoofgkfaonfaaCGB
namespace Go.Vm.C19
open Go Go.Proofs
set_option linter.unusedVariables false
set_option linter.unusedSimpArgs false
set_option maxRecDepth 100000
set_option maxHeartbeats 8000000

/-! ### small costs -/
def wdN (n : Nat) : Nat := (n + 31) / 32
def memN (n : Nat) : Nat := 3 * wdN n + wdN n * wdN n / 512
def wdU (x : BitVec 64) : BitVec 64 := BitVec.ofNat 64 (wdN x.toNat)
def memU (x : BitVec 64) : BitVec 64 := if x.toNat ≤ 4294967296 then BitVec.ofNat 64 (memN x.toNat) else 0#64
theorem wd_le {n : Nat} (h : n ≤ 4294967296) : wdN n ≤ 134217728 := by unfold wdN; omega
theorem wd_sq {n : Nat} (h : n ≤ 4294967296) : wdN n * wdN n ≤ 18014398509481984 := Nat.mul_le_mul (wd_le h) (wd_le h)
theorem mem_lt {n : Nat} (h : n ≤ 4294967296) : memN n < 18446744073709551616 := by
  have h1 := wd_le h
  have h2 := wd_sq h
  unfold memN
  generalize wdN n * wdN n = q at *
  omega
theorem wdU_val (x : BitVec 64) : (wdU x).toNat = wdN x.toNat := by
  have := x.isLt
  unfold wdU wdN
  rw [BitVec.toNat_ofNat]
  omega
noncomputable def wordsS : FSpec := { run := fun ins => match ins with
  | [.u 64 x] => some (.u 64 (wdU x), [])
  | _ => none }
theorem words_sound : SoundFn Try.prog glB 58 wordsS.run := by
  have G := good_of (P := Try.prog) glB_ro (l := []) (by simp)
  refine soundFn_of_W G Try.func58 (by decide) rfl (by decide) ?_
  intro ins ret outs h
  unfold wordsS at h
  dsimp only at h
  split at h
  rotate_left
  · cases h
  rename_i x
  cases h
  refine ⟨by show 1 ≤ 10; decide, fun w0 ext av => ?_⟩
  rw [Try.ntmps58, st0_eq]
  have hx := x.isLt
  have e : wdU x = x / 32#64 + (x % 32#64 + 31#64) / 32#64 := by
    refine BitVec.eq_of_toNat_eq ?_
    rw [wdU_val, BitVec.toNat_add, BitVec.toNat_udiv, BitVec.toNat_udiv, BitVec.toNat_add, BitVec.toNat_umod]
    show wdN x.toNat = (x.toNat / 32 + (x.toNat % 32 + 31) % 2 ^ 64 / 32) % 2 ^ 64
    unfold wdN
    omega
  have n32 : ¬ (32#64 : BitVec 64) = 0 := by decide
  rw [e]
  repeat' first
    | refine W.seq ?_ | (refine W.regS G ?_; dsimp only) | refine SW.nil ?_ | refine thenQ_normal ?_ | refine W.skip ?_ | refine W.exit ?_ | refine thenQ_exit ?_ | refine inBlockQ_exit ?_ | refine inBlockQ_normal ?_ | refine W.block ?_
    | (apply SW.toC; refine SWcall.go n32 ?_) | (apply SW.toOp; refine SWop.go n32 ?_) | (apply SW.toCG; first | refine SWcall.yes n32 ?_ | refine SWcall.no n32 ?_) | (apply SW.toG; first | refine SWop.yes n32 ?_ | refine SWop.no n32 ?_)
  refine W.ret ?_
  repeat' first
    | refine thenQ_ret ?_
    | refine inBlockQ_ret ?_
  refine fin1Z n32 ?_
  exact leV_refl
noncomputable def memoryS : FSpec := { run := fun ins => match ins with
  | [.u 64 x] => some (.tup [.u 64 (memU x), .b (decide (x.toNat ≤ 4294967296))], [])
  | _ => none }
theorem memU_eq {x : BitVec 64} (h : x.toNat ≤ 4294967296) : memU x = 3#64 * wdU x + wdU x * wdU x / 512#64 := by
  have h1 := wd_le h
  have h2 := wd_sq h
  have h3 := mem_lt h
  unfold memU
  rw [if_pos h]
  refine BitVec.eq_of_toNat_eq ?_
  rw [BitVec.toNat_ofNat, BitVec.toNat_add, BitVec.toNat_udiv, BitVec.toNat_mul, BitVec.toNat_mul, wdU_val]
  show memN x.toNat % 2 ^ 64 = (3 * wdN x.toNat % 2 ^ 64 + wdN x.toNat * wdN x.toNat % 2 ^ 64 / 512) % 2 ^ 64
  unfold memN
  generalize wdN x.toNat * wdN x.toNat = q at *
  omega
theorem memory_sound : SoundFn Try.prog glB 55 memoryS.run := by
  have G := good_of (P := Try.prog) glB_ro (l := [(58, wordsS)]) (by simp only [List.forall_mem_cons]; exact ⟨words_sound, by simp⟩)
  refine soundFn_of_W G Try.func55 (by decide) rfl (by decide) ?_
  intro ins ret outs h
  unfold memoryS at h
  dsimp only at h
  split at h
  rotate_left
  · cases h
  rename_i x
  cases h
  refine ⟨by show 1 ≤ 16; decide, fun w0 ext av => ?_⟩
  rw [Try.ntmps55, st0_eq]
  repeat' first
    | refine W.seq ?_ | (refine W.regS G ?_; dsimp only) | refine SW.nil ?_ | refine thenQ_normal ?_ | refine W.skip ?_ | refine W.exit ?_ | refine thenQ_exit ?_ | refine inBlockQ_exit ?_ | refine inBlockQ_normal ?_ | refine W.block ?_
    | (apply SW.toC; refine SWcall.go True.intro ?_) | (apply SW.toOp; refine SWop.go True.intro ?_) | (apply SW.toCG; first | refine SWcall.yes True.intro ?_ | refine SWcall.no True.intro ?_) | (apply SW.toG; first | refine SWop.yes True.intro ?_ | refine SWop.no True.intro ?_)
  refine W.condZ G True.intro ?_ ?_
  all_goals intro hc
  · have hc' : 4294967296 < x.toNat := yes_of hc
    have e1 : memU x = 0#64 := if_neg (by omega)
    have e2 : decide (x.toNat ≤ 4294967296) = false := decide_eq_false (by omega)
    rw [e1, e2]
    repeat' first
      | refine W.seq ?_ | (refine W.regS G ?_; dsimp only) | refine SW.nil ?_ | refine thenQ_normal ?_ | refine W.skip ?_ | refine W.exit ?_ | refine thenQ_exit ?_ | refine inBlockQ_exit ?_ | refine inBlockQ_normal ?_ | refine W.block ?_
      | (apply SW.toC; refine SWcall.go True.intro ?_) | (apply SW.toOp; refine SWop.go True.intro ?_) | (apply SW.toCG; first | refine SWcall.yes True.intro ?_ | refine SWcall.no True.intro ?_) | (apply SW.toG; first | refine SWop.yes True.intro ?_ | refine SWop.no True.intro ?_)
    refine W.ret ?_
    repeat' first
      | refine thenQ_ret ?_
      | refine inBlockQ_ret ?_
    refine fin2Z True.intro ?_ ?_
    · exact leV_refl
    · exact leV_refl
  · have hc' : ¬ 4294967296 < x.toNat := no_of hc
    have e2 : decide (x.toNat ≤ 4294967296) = true := decide_eq_true (by omega)
    rw [memU_eq (by omega), e2]
    have n512 : ¬ (512#64 : BitVec 64) = 0 := by decide
    repeat' first
      | refine W.seq ?_ | (refine W.regS G ?_; dsimp only) | refine SW.nil ?_ | refine thenQ_normal ?_ | refine W.skip ?_ | refine W.exit ?_ | refine thenQ_exit ?_ | refine inBlockQ_exit ?_ | refine inBlockQ_normal ?_ | refine W.block ?_
      | (apply SW.toC; refine SWcall.go (And.intro wordsS.eq_1 n512) ?_) | (apply SW.toOp; refine SWop.go (And.intro wordsS.eq_1 n512) ?_) | (apply SW.toCG; first | refine SWcall.yes (And.intro wordsS.eq_1 n512) ?_ | refine SWcall.no (And.intro wordsS.eq_1 n512) ?_) | (apply SW.toG; first | refine SWop.yes (And.intro wordsS.eq_1 n512) ?_ | refine SWop.no (And.intro wordsS.eq_1 n512) ?_)
    refine W.ret ?_
    repeat' first
      | refine thenQ_ret ?_
      | refine inBlockQ_ret ?_
    refine fin2Z (And.intro wordsS.eq_1 n512) ?_ ?_
    · exact leV_refl
    · exact leV_refl
theorem Memory_sound : SoundFn Try.prog glB 17 memoryS.run := by
  have G := good_of (P := Try.prog) glB_ro (l := [(55, memoryS)]) (by simp only [List.forall_mem_cons]; exact ⟨memory_sound, by simp⟩)
  refine soundFn_of_W G Try.func17 (by decide) rfl (by decide) ?_
  intro ins ret outs h
  unfold memoryS at h
  dsimp only at h
  split at h
  rotate_left
  · cases h
  rename_i x
  cases h
  refine ⟨by show 1 ≤ 8; decide, fun w0 ext av => ?_⟩
  rw [Try.ntmps17, st0_eq]
  repeat' first
    | refine W.seq ?_ | (refine W.regS G ?_; dsimp only) | refine SW.nil ?_ | refine thenQ_normal ?_ | refine W.skip ?_ | refine W.exit ?_ | refine thenQ_exit ?_ | refine inBlockQ_exit ?_ | refine inBlockQ_normal ?_ | refine W.block ?_
    | (apply SW.toC; refine SWcall.go memoryS.eq_1 ?_) | (apply SW.toOp; refine SWop.go memoryS.eq_1 ?_) | (apply SW.toCG; first | refine SWcall.yes memoryS.eq_1 ?_ | refine SWcall.no memoryS.eq_1 ?_) | (apply SW.toG; first | refine SWop.yes memoryS.eq_1 ?_ | refine SWop.no memoryS.eq_1 ?_)
  refine W.ret ?_
  repeat' first
    | refine thenQ_ret ?_
    | refine inBlockQ_ret ?_
  refine fin2Z memoryS.eq_1 ?_ ?_
  · exact leV_refl
  · exact leV_refl
def fwU (l a : BitVec 64) : BitVec 64 := if (l - l / 64#64).toNat < a.toNat then l - l / 64#64 else a
noncomputable def forwardS : FSpec := { run := fun ins => match ins with
  | [.u 64 l, .u 64 a] => some (.u 64 (fwU l a), [])
  | _ => none }
theorem forward_sound : SoundFn Try.prog glB 15 forwardS.run := by
  have G := good_of (P := Try.prog) glB_ro (l := []) (by simp)
  refine soundFn_of_W G Try.func15 (by decide) rfl (by decide) ?_
  intro ins ret outs h
  unfold forwardS at h
  dsimp only at h
  split at h
  rotate_left
  · cases h
  rename_i l a
  cases h
  refine ⟨by show 2 ≤ 11; decide, fun w0 ext av => ?_⟩
  rw [Try.ntmps15, st0_eq]
  have n64 : ¬ (64#64 : BitVec 64) = 0 := by decide
  have hF : fwU l a = if (l - l / 64#64).toNat < a.toNat then l - l / 64#64 else a := rfl
  by_cases h : l - l / 64#64 < a
  · have h3 : (l - l / 64#64).toNat < a.toNat := h
    rw [if_pos h3] at hF
    rw [hF]
    have hq := eq_true h
    repeat' first
      | refine W.seq ?_ | (refine W.regS G ?_; dsimp only) | refine SW.nil ?_ | refine thenQ_normal ?_ | refine W.skip ?_ | refine W.exit ?_ | refine thenQ_exit ?_ | refine inBlockQ_exit ?_ | refine inBlockQ_normal ?_ | refine W.block ?_
      | (apply SW.toC; refine SWcall.go (And.intro n64 hq) ?_) | (apply SW.toOp; refine SWop.go (And.intro n64 hq) ?_) | (apply SW.toCG; first | refine SWcall.yes (And.intro n64 hq) ?_ | refine SWcall.no (And.intro n64 hq) ?_) | (apply SW.toG; first | refine SWop.yes (And.intro n64 hq) ?_ | refine SWop.no (And.intro n64 hq) ?_)
    refine W.ret ?_
    repeat' first
      | refine thenQ_ret ?_
      | refine inBlockQ_ret ?_
    refine fin1Z (And.intro n64 hq) ?_
    exact leV_refl
  · have h3 : ¬ (l - l / 64#64).toNat < a.toNat := h
    rw [if_neg h3] at hF
    rw [hF]
    have hq := eq_false h
    repeat' first
      | refine W.seq ?_ | (refine W.regS G ?_; dsimp only) | refine SW.nil ?_ | refine thenQ_normal ?_ | refine W.skip ?_ | refine W.exit ?_ | refine thenQ_exit ?_ | refine inBlockQ_exit ?_ | refine inBlockQ_normal ?_ | refine W.block ?_
      | (apply SW.toC; refine SWcall.go (And.intro n64 hq) ?_) | (apply SW.toOp; refine SWop.go (And.intro n64 hq) ?_) | (apply SW.toCG; first | refine SWcall.yes (And.intro n64 hq) ?_ | refine SWcall.no (And.intro n64 hq) ?_) | (apply SW.toG; first | refine SWop.yes (And.intro n64 hq) ?_ | refine SWop.no (And.intro n64 hq) ?_)
    refine W.ret ?_
    repeat' first
      | refine thenQ_ret ?_
      | refine inBlockQ_ret ?_
    refine fin1Z (And.intro n64 hq) ?_
    exact leV_refl
noncomputable def glivesS : FSpec := { run := fun ins => match ins with
  | [] => some (.b true, [])
  | _ => none }
theorem next_1000 : nextF [1000#64, 0#64, 0#64, 0#64] 200 200 = [1125#64, 0#64, 0#64, 0#64] := by decide
theorem lives_sound : SoundFn Try.prog glB 11 glivesS.run := by
  have G := good_of (P := Try.prog) glB_ro (l := [(17, memoryS), (15, forwardS), (9, nextS)]) (by simp only [List.forall_mem_cons]; exact ⟨Memory_sound, forward_sound, next_sound, by simp⟩)
  refine soundFn_of_W G Try.func11 (by decide) rfl (by decide) ?_
  intro ins ret outs h
  unfold glivesS at h
  dsimp only at h
  split at h
  rotate_left
  · cases h
  cases h
  refine ⟨by show 0 ≤ 22; decide, fun w0 ext av => ?_⟩
  rw [Try.ntmps11, st0_eq]
  refine W.imp (s := sL [] [] 22) ?_ (Imp.le ?_)
  rotate_left
  · exact ⟨rfl, (fun t v h => by cases h), (fun k x h => by cases h)⟩
  have m1 : memU 33#64 = 6#64 := by decide
  have m2 : fwU 6400#64 9999#64 = 6300#64 := by decide
  have m3 : (zeros 64 4).set 0 1000#64 = [1000#64, 0#64, 0#64, 0#64] := rfl
  have m4 : (zeros 64 4).set 0 1125#64 = [1125#64, 0#64, 0#64, 0#64] := rfl
  have m5 := next_1000
  obtain ⟨q, hq⟩ : ∃ q, ([1000#64, 0#64, 0#64, 0#64] : List (BitVec 64)) = q := ⟨_, rfl⟩
  have lq : q.length = 4 := by rw [← hq]; rfl
  rw [hq] at m3 m5
  repeat' first
    | refine W.seq ?_ | (refine W.regS G ?_; dsimp only) | refine SW.nil ?_ | refine thenQ_normal ?_ | refine W.skip ?_ | refine W.exit ?_ | refine thenQ_exit ?_ | refine inBlockQ_exit ?_ | refine inBlockQ_normal ?_ | refine W.block ?_
    | (apply SW.toC; refine SWcall.go (And.intro memoryS.eq_1 (And.intro forwardS.eq_1 (And.intro nextS.eq_1 (And.intro m1 (And.intro m2 (And.intro m3 (And.intro m4 (And.intro m5 lq)))))))) ?_) | (apply SW.toOp; refine SWop.go (And.intro memoryS.eq_1 (And.intro forwardS.eq_1 (And.intro nextS.eq_1 (And.intro m1 (And.intro m2 (And.intro m3 (And.intro m4 (And.intro m5 lq)))))))) ?_) | (apply SW.toCG; first | refine SWcall.yes (And.intro memoryS.eq_1 (And.intro forwardS.eq_1 (And.intro nextS.eq_1 (And.intro m1 (And.intro m2 (And.intro m3 (And.intro m4 (And.intro m5 lq)))))))) ?_ | refine SWcall.no (And.intro memoryS.eq_1 (And.intro forwardS.eq_1 (And.intro nextS.eq_1 (And.intro m1 (And.intro m2 (And.intro m3 (And.intro m4 (And.intro m5 lq)))))))) ?_) | (apply SW.toG; first | refine SWop.yes (And.intro memoryS.eq_1 (And.intro forwardS.eq_1 (And.intro nextS.eq_1 (And.intro m1 (And.intro m2 (And.intro m3 (And.intro m4 (And.intro m5 lq)))))))) ?_ | refine SWop.no (And.intro memoryS.eq_1 (And.intro forwardS.eq_1 (And.intro nextS.eq_1 (And.intro m1 (And.intro m2 (And.intro m3 (And.intro m4 (And.intro m5 lq)))))))) ?_)
  refine W.ret ?_
  repeat' first
    | refine thenQ_ret ?_
    | refine inBlockQ_ret ?_
  refine fin1Z (And.intro memoryS.eq_1 (And.intro forwardS.eq_1 (And.intro nextS.eq_1 (And.intro m1 (And.intro m2 (And.intro m3 (And.intro m4 (And.intro m5 lq)))))))) ?_
  exact leV_refl
end Go.Vm.C19

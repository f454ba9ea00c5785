/- What some functions of the program compute, walked through once. -/
import Derived.Test.YthjgpkaamgoodaaCCL
namespace Go.Vm.C01
open Go Go.Proofs
set_option linter.unusedVariables false
set_option linter.unusedSimpArgs false
set_option maxRecDepth 100000
set_option maxHeartbeats 8000000

/-! ### bytes -/
theorem any_byte (a : List (BitVec 64)) (i : Nat) (hi : i < 32) : BitVec.setWidth 8 (a.getD (i / 8) 0 >>> (8 * (i % 8))) = byN (wv a) (31 - i) := by
  refine BitVec.eq_of_toNat_eq ?_
  have hb := byte_limb a i hi
  unfold byN
  rw [show 31 - (31 - i) = i from by omega, ← hb, BitVec.toNat_setWidth, BitVec.toNat_ofNat, and_mod _ 8 (by omega) _ rfl]
  omega
noncomputable def BytesS : FSpec := { run := fun ins => match ins with
  | [.agg 4 (.u 64 a)] => some (.agg 32 (.u 8 (bytesL (wv a))), [])
  | _ => none }
theorem Bytes_sound : SoundFn Try.prog glB 45 BytesS.run := by
  have G := good_of (P := Try.prog) glB_ro (l := []) (by simp)
  refine soundFn_of_W G Try.func45 (by decide) rfl (by decide) ?_
  intro ins ret outs h
  unfold BytesS at h
  dsimp only at h
  split at h
  rotate_left
  · cases h
  rename_i a
  cases h
  refine ⟨by show 1 ≤ 22; decide, fun w0 ext av => ?_⟩
  rw [Try.ntmps45, st0_eq]
  have hab := any_byte a
  repeat' first
    | refine W.seq ?_ | (refine W.regS G ?_; dsimp only) | refine SW.nil ?_ | refine thenQ_normal ?_ | refine W.skip ?_ | refine W.exit ?_ | refine thenQ_exit ?_ | refine inBlockQ_exit ?_ | refine inBlockQ_normal ?_ | refine W.block ?_
    | (apply SW.toC; refine SWcall.go True.intro ?_) | (apply SW.toOp; refine SWop.go True.intro ?_) | (apply SW.toCG; first | refine SWcall.yes True.intro ?_ | refine SWcall.no True.intro ?_) | (apply SW.toG; first | refine SWop.yes True.intro ?_ | refine SWop.no True.intro ?_)
  refine W.loopI (ι := {p : Nat × List (BitVec 8) // p.1 ≤ 32 ∧ p.2.length = 32 ∧ ∀ n, n < 32 → 32 - p.1 ≤ n → p.2.getD n 0 = byN (wv a) n}) (fun p => sL [(1, .p 1 0 0 0), (2, .p 2 0 0 0), (3, .p 3 0 0 0), (5, .i (p.1.1 : Int))] [(1, .agg 4 (.u 64 a)), (2, .agg 32 (.u 8 (zeros 8 32))), (3, .agg 32 (.u 8 p.1.2))] 22) (fun p => 32 - p.1.1) ⟨(0, zeros 8 32), by show 0 ≤ 32; omega, rfl, fun n hn h => absurd h (by dsimp only; omega)⟩ (Imp.le ?_) ?_
  · exact sL_leZ True.intro
  rintro ⟨⟨i, l⟩, hi, ll, hI⟩
  dsimp only at hi ll hI
  repeat' first
    | refine W.seq ?_ | (refine W.regS G ?_; dsimp only) | refine SW.nil ?_ | refine thenQ_normal ?_ | refine W.skip ?_ | refine W.exit ?_ | refine thenQ_exit ?_ | refine inBlockQ_exit ?_ | refine inBlockQ_normal ?_ | refine W.block ?_
    | (apply SW.toC; refine SWcall.go ll ?_) | (apply SW.toOp; refine SWop.go ll ?_) | (apply SW.toCG; first | refine SWcall.yes ll ?_ | refine SWcall.no ll ?_) | (apply SW.toG; first | refine SWop.yes ll ?_ | refine SWop.no ll ?_)
  refine W.condZ G ll ?_ ?_
  all_goals intro ht
  · have ht' := of_decide_eq_true ht
    have hi2 : i < 32 := by omega
    have e1 : 31 - (i : Int) = ((31 - i : Nat) : Int) := by omega
    have e2 : ((i : Int) / 8) = ((i / 8 : Nat) : Int) := by omega
    have e3 : (8 * ((i : Int) % 8)) = ((8 * (i % 8) : Nat) : Int) := by omega
    have hb := hab i hi2
    have hn : ∀ n, n < 32 → 32 - (i + 1) ≤ n → (l.set (31 - i) (byN (wv a) (31 - i))).getD n 0 = byN (wv a) n := by
      intro n hn h
      rw [getD_set8 (by omega)]
      by_cases h1 : n = 31 - i
      · rw [if_pos h1, h1]
      · rw [if_neg h1]
        exact hI n hn (by omega)
    repeat' first
      | refine W.seq ?_ | (refine W.regS G ?_; dsimp only) | refine SW.nil ?_ | refine thenQ_normal ?_ | refine W.skip ?_ | refine W.exit ?_ | refine thenQ_exit ?_ | refine inBlockQ_exit ?_ | refine inBlockQ_normal ?_ | refine W.block ?_
      | (apply SW.toC; refine SWcall.go (And.intro ll (And.intro e1 (And.intro e2 (And.intro e3 hb)))) ?_) | (apply SW.toOp; refine SWop.go (And.intro ll (And.intro e1 (And.intro e2 (And.intro e3 hb)))) ?_) | (apply SW.toCG; first | refine SWcall.yes (And.intro ll (And.intro e1 (And.intro e2 (And.intro e3 hb)))) ?_ | refine SWcall.no (And.intro ll (And.intro e1 (And.intro e2 (And.intro e3 hb)))) ?_) | (apply SW.toG; first | refine SWop.yes (And.intro ll (And.intro e1 (And.intro e2 (And.intro e3 hb)))) ?_ | refine SWop.no (And.intro ll (And.intro e1 (And.intro e2 (And.intro e3 hb)))) ?_)
    refine ⟨⟨(i + 1, _), by dsimp only; omega, ?_, hn⟩, Imp.le ?_, by show 32 - (i + 1) < 32 - i; omega⟩
    · dsimp only; rw [List.length_set]; exact ll
    exact sL_leZ (And.intro ll (And.intro e1 (And.intro e2 (And.intro e3 hb))))
  have ht' := of_decide_eq_false ht
  obtain rfl : i = 32 := by omega
  have hf : l = bytesL (wv a) := list_ext8 ll (bytesL_len _) fun n hn => by rw [hI n hn (by omega), bytesL_at _ _ hn]
  rw [← hf]
  repeat' first
    | refine W.seq ?_ | (refine W.regS G ?_; dsimp only) | refine SW.nil ?_ | refine thenQ_normal ?_ | refine W.skip ?_ | refine W.exit ?_ | refine thenQ_exit ?_ | refine inBlockQ_exit ?_ | refine inBlockQ_normal ?_ | refine W.block ?_
    | (apply SW.toC; refine SWcall.go ll ?_) | (apply SW.toOp; refine SWop.go ll ?_) | (apply SW.toCG; first | refine SWcall.yes ll ?_ | refine SWcall.no ll ?_) | (apply SW.toG; first | refine SWop.yes ll ?_ | refine SWop.no ll ?_)
  refine W.ret ?_
  repeat' first
    | refine thenQ_ret ?_
    | refine inBlockQ_ret ?_
  refine fin1Z ll ?_
  exact leV_refl
/-- the number that bytes are, the highest first -/
def bvk (b : List (BitVec 8)) : Nat → Nat
  | 0 => 0
  | k + 1 => bvk b k * 256 + (b.getD k 0).toNat
theorem bvk_bit (b : List (BitVec 8)) : ∀ n j, (bvk b n).testBit j = if j / 8 < n then (b.getD (n - 1 - j / 8) 0).getLsbD (j % 8) else false
  | 0, j => by rw [if_neg (by omega)]; exact Nat.zero_testBit j
  | n + 1, j => by
    have e : bvk b (n + 1) = 2 ^ 8 * bvk b n + (b.getD n 0).toNat := by
      show bvk b n * 256 + _ = _
      omega
    rw [e, Nat.testBit_two_pow_mul_add _ (b.getD n 0).isLt]
    by_cases h : j < 8
    · rw [if_pos h, if_pos (by omega), show n + 1 - 1 - j / 8 = n from by omega, show j % 8 = j from by omega, BitVec.testBit_toNat]
    · rw [if_neg h, bvk_bit b n (j - 8)]
      by_cases h2 : (j - 8) / 8 < n
      · rw [if_pos h2, if_pos (by omega), show n - 1 - (j - 8) / 8 = n + 1 - 1 - j / 8 from by omega, show (j - 8) % 8 = j % 8 from by omega]
      · rw [if_neg h2, if_neg (by omega)]
noncomputable def FromS : FSpec := { run := fun ins => match ins with
  | [.sl false (.u 8 b)] => chk (b.length ≤ 140737488355328) (some (.agg 4 (.u 64 (wOf (bvk b b.length))), []))
  | _ => none }
theorem rFrom_sound : SoundFn Try.prog glB 49 FromS.run := by
  have G := good_of (P := Try.prog) glB_ro (l := [(38, rMulS), (35, rAddS)]) (by simp only [List.forall_mem_cons]; exact ⟨rMul_sound, rAdd_sound, by simp⟩)
  refine soundFn_of_W G Try.func49 (by decide) rfl (by decide) ?_
  intro ins ret outs h
  unfold FromS at h
  dsimp only at h
  split at h
  rotate_left
  · cases h
  rename_i b
  obtain ⟨hl, h'⟩ := chk_some h
  clear h
  cases h'
  refine ⟨by show 1 ≤ 23; decide, fun w0 ext av => ?_⟩
  rw [Try.ntmps49, st0_eq]
  have z0 : wOf (bvk b 0) = zeros 64 4 := by
    show wOf 0 = zeros 64 4
    decide
  repeat' first
    | refine W.seq ?_ | (refine W.regS G ?_; dsimp only) | refine SW.nil ?_ | refine thenQ_normal ?_ | refine W.skip ?_ | refine W.exit ?_ | refine thenQ_exit ?_ | refine inBlockQ_exit ?_ | refine inBlockQ_normal ?_ | refine W.block ?_
    | (apply SW.toC; refine SWcall.go z0 ?_) | (apply SW.toOp; refine SWop.go z0 ?_) | (apply SW.toCG; first | refine SWcall.yes z0 ?_ | refine SWcall.no z0 ?_) | (apply SW.toG; first | refine SWop.yes z0 ?_ | refine SWop.no z0 ?_)
  refine W.loopI (ι := {i : Nat // i ≤ b.length}) (fun i => sL [(0, .sl false (.u 8 b)), (2, .p 2 0 0 0), (3, .p 3 0 0 0), (4, .i i.1)] [(2, .agg 4 (.u 64 (zeros 64 4))), (3, .agg 4 (.u 64 (wOf (bvk b i.1))))] 23) (fun i => b.length - i.1) ⟨0, Nat.zero_le _⟩ (Imp.le ?_) ?_
  · exact sL_leZ z0
  rintro ⟨i, hi⟩
  repeat' first
    | refine W.seq ?_ | (refine W.regS G ?_; dsimp only) | refine SW.nil ?_ | refine thenQ_normal ?_ | refine W.skip ?_ | refine W.exit ?_ | refine thenQ_exit ?_ | refine inBlockQ_exit ?_ | refine inBlockQ_normal ?_ | refine W.block ?_
    | (apply SW.toC; refine SWcall.go True.intro ?_) | (apply SW.toOp; refine SWop.go True.intro ?_) | (apply SW.toCG; first | refine SWcall.yes True.intro ?_ | refine SWcall.no True.intro ?_) | (apply SW.toG; first | refine SWop.yes True.intro ?_ | refine SWop.no True.intro ?_)
  refine W.condZ G True.intro ?_ ?_
  all_goals intro ht
  · have ht' := of_decide_eq_true ht
    have hst : wOf (wv (wOf (wv (wOf (bvk b i)) * wv ((zeros 64 4).set 0 256#64))) + wv ((zeros 64 4).set 0 (BitVec.setWidth 64 (b.getD i 0)))) = wOf (bvk b (i + 1)) := by
      show wOf (wv (wOf (wv (wOf (bvk b i)) * wv [256#64, 0#64, 0#64, 0#64])) + wv [BitVec.setWidth 64 (b.getD i 0), 0#64, 0#64, 0#64]) = _
      have e : wv [256#64, 0#64, 0#64, 0#64] = 256 := by decide
      have e2 : wv [BitVec.setWidth 64 (b.getD i 0), 0#64, 0#64, 0#64] = (b.getD i 0).toNat := by
        have := (b.getD i 0).isLt
        rw [wOf_small, wv_wOf, BitVec.toNat_setWidth]
        unfold B256
        omega
      rw [e, e2, wv_wOf, wv_wOf]
      show _ = wOf (bvk b i * 256 + (b.getD i 0).toNat)
      refine wOf_eq ?_
      generalize bvk b i = v
      generalize (b.getD i 0).toNat = x
      unfold B256
      omega
    generalize hx : b.getD i 0 = x at hst
    repeat' first
      | refine W.seq ?_ | (refine W.regS G ?_; dsimp only) | refine SW.nil ?_ | refine thenQ_normal ?_ | refine W.skip ?_ | refine W.exit ?_ | refine thenQ_exit ?_ | refine inBlockQ_exit ?_ | refine inBlockQ_normal ?_
      | (apply SW.toC; refine SWcall.go (And.intro rMulS.eq_1 (And.intro rAddS.eq_1 (And.intro hx hst))) ?_) | (apply SW.toOp; refine SWop.go (And.intro rMulS.eq_1 (And.intro rAddS.eq_1 (And.intro hx hst))) ?_) | (apply SW.toCG; first | refine SWcall.yes (And.intro rMulS.eq_1 (And.intro rAddS.eq_1 (And.intro hx hst))) ?_ | refine SWcall.no (And.intro rMulS.eq_1 (And.intro rAddS.eq_1 (And.intro hx hst))) ?_) | (apply SW.toG; first | refine SWop.yes (And.intro rMulS.eq_1 (And.intro rAddS.eq_1 (And.intro hx hst))) ?_ | refine SWop.no (And.intro rMulS.eq_1 (And.intro rAddS.eq_1 (And.intro hx hst))) ?_)
    refine W.block ?_
    repeat' first
      | refine W.seq ?_ | (refine W.regS G ?_; dsimp only) | refine SW.nil ?_ | refine thenQ_normal ?_ | refine W.skip ?_ | refine W.exit ?_ | refine thenQ_exit ?_ | refine inBlockQ_exit ?_ | refine inBlockQ_normal ?_
      | (apply SW.toC; refine SWcall.go (And.intro rMulS.eq_1 (And.intro rAddS.eq_1 (And.intro hx hst))) ?_) | (apply SW.toOp; refine SWop.go (And.intro rMulS.eq_1 (And.intro rAddS.eq_1 (And.intro hx hst))) ?_) | (apply SW.toCG; first | refine SWcall.yes (And.intro rMulS.eq_1 (And.intro rAddS.eq_1 (And.intro hx hst))) ?_ | refine SWcall.no (And.intro rMulS.eq_1 (And.intro rAddS.eq_1 (And.intro hx hst))) ?_) | (apply SW.toG; first | refine SWop.yes (And.intro rMulS.eq_1 (And.intro rAddS.eq_1 (And.intro hx hst))) ?_ | refine SWop.no (And.intro rMulS.eq_1 (And.intro rAddS.eq_1 (And.intro hx hst))) ?_)
    refine W.drawS G [[], [], [0, 1], [], [], [3, 4], [5, 3, 4], [6, 5, 3, 4], [7, 6, 5, 3, 4], [2, 0, 1, 8, 7, 6, 5, 3, 4], [9, 2, 0, 1, 8, 7, 6, 5, 3, 4]] hmix ?_
    dsimp only
    repeat' first
      | (apply DW.nil; (focus (decide +kernel)))
      | (apply DW.toC; refine DWcall.go (And.intro rMulS.eq_1 (And.intro rAddS.eq_1 (And.intro hx hst))) ?_) | (apply DW.toOp; refine DWop.go (And.intro rMulS.eq_1 (And.intro rAddS.eq_1 (And.intro hx hst))) ?_) | (apply DW.toCG; first | refine DWcall.yes (And.intro rMulS.eq_1 (And.intro rAddS.eq_1 (And.intro hx hst))) ?_ | refine DWcall.no (And.intro rMulS.eq_1 (And.intro rAddS.eq_1 (And.intro hx hst))) ?_) | (apply DW.toG; first | refine DWop.yes (And.intro rMulS.eq_1 (And.intro rAddS.eq_1 (And.intro hx hst))) ?_ | refine DWop.no (And.intro rMulS.eq_1 (And.intro rAddS.eq_1 (And.intro hx hst))) ?_)
    repeat' first
      | refine W.seq ?_ | (refine W.regS G ?_; dsimp only) | refine SW.nil ?_ | refine thenQ_normal ?_ | refine W.skip ?_ | refine W.exit ?_ | refine thenQ_exit ?_ | refine inBlockQ_exit ?_ | refine inBlockQ_normal ?_ | refine W.block ?_
      | (apply SW.toC; refine SWcall.go (And.intro rMulS.eq_1 (And.intro rAddS.eq_1 (And.intro hx hst))) ?_) | (apply SW.toOp; refine SWop.go (And.intro rMulS.eq_1 (And.intro rAddS.eq_1 (And.intro hx hst))) ?_) | (apply SW.toCG; first | refine SWcall.yes (And.intro rMulS.eq_1 (And.intro rAddS.eq_1 (And.intro hx hst))) ?_ | refine SWcall.no (And.intro rMulS.eq_1 (And.intro rAddS.eq_1 (And.intro hx hst))) ?_) | (apply SW.toG; first | refine SWop.yes (And.intro rMulS.eq_1 (And.intro rAddS.eq_1 (And.intro hx hst))) ?_ | refine SWop.no (And.intro rMulS.eq_1 (And.intro rAddS.eq_1 (And.intro hx hst))) ?_)
    refine ⟨⟨i + 1, by omega⟩, Imp.le ?_, by show _ - (i + 1) < _ - i; omega⟩
    exact sL_leZ (And.intro rMulS.eq_1 (And.intro rAddS.eq_1 (And.intro hx hst)))
  have ht' := of_decide_eq_false ht
  obtain rfl : i = b.length := by omega
  repeat' first
    | refine W.seq ?_ | (refine W.regS G ?_; dsimp only) | refine SW.nil ?_ | refine thenQ_normal ?_ | refine W.skip ?_ | refine W.exit ?_ | refine thenQ_exit ?_ | refine inBlockQ_exit ?_ | refine inBlockQ_normal ?_ | refine W.block ?_
    | (apply SW.toC; refine SWcall.go True.intro ?_) | (apply SW.toOp; refine SWop.go True.intro ?_) | (apply SW.toCG; first | refine SWcall.yes True.intro ?_ | refine SWcall.no True.intro ?_) | (apply SW.toG; first | refine SWop.yes True.intro ?_ | refine SWop.no True.intro ?_)
  refine W.ret ?_
  repeat' first
    | refine thenQ_ret ?_
    | refine inBlockQ_ret ?_
  refine fin1Z True.intro ?_
  exact leV_refl
end Go.Vm.C01

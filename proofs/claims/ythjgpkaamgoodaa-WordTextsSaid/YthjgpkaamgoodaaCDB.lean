/- What some functions of the program compute, walked through once. -/
import Derived.Test.YthjgpkaamgoodaaCDA
namespace Go.Vm.C01
open Go Go.Proofs
set_option linter.unusedVariables false
set_option linter.unusedSimpArgs false
set_option maxRecDepth 100000
set_option maxHeartbeats 8000000

/-- a bit of bytes, the lowest byte last -/
def bb (b : List (BitVec 8)) (j : Nat) : Bool := (b.getD (b.length - 1 - j / 8) 0).getLsbD (j % 8)
theorem from_step {l : List (BitVec 64)} {b : List (BitVec 8)} {i : Nat} (ll : l.length = 4) (hi : i < 32) (hib : i < b.length) (hI : ∀ j, j < 256 → bitAt l j = if j < 8 * i then bb b j else false) :
    ∀ j, j < 256 → bitAt (l.set (i / 8) (l.getD (i / 8) 0 ||| BitVec.setWidth 64 (b.getD (b.length - 1 - i) 0) <<< (8 * (i % 8)))) j = if j < 8 * (i + 1) then bb b j else false := by
  intro j hj
  rw [bitAt_set (by omega)]
  by_cases h : j / 64 = i / 8
  · rw [if_pos h, BitVec.getLsbD_or, BitVec.getLsbD_shiftLeft, BitVec.getLsbD_setWidth]
    have e1 : (l.getD (i / 8) 0).getLsbD (j % 64) = bitAt l j := by unfold bitAt; rw [h]
    rw [e1, hI j hj]
    by_cases h1 : j < 8 * i
    · have h2 : j < 8 * (i + 1) := by omega
      have h3 : j % 64 < 8 * (i % 8) := by omega
      simp [h1, h2, h3]
    · by_cases h2 : j < 8 * (i + 1)
      · have h3 : ¬ j % 64 < 8 * (i % 8) := by omega
        have h4 : j % 64 < 64 := by omega
        have h5 : j % 64 - 8 * (i % 8) = j % 8 := by omega
        have h6 : j / 8 = i := by omega
        have h7 : j % 8 < 64 := by omega
        rw [if_neg h1, if_pos h2, h5]
        unfold bb
        rw [h6]
        simp [h3, h4, h7]
      · have h3 : ¬ j % 64 < 8 * (i % 8) := by omega
        have h5 : 8 ≤ j % 64 - 8 * (i % 8) := by omega
        rw [if_neg h1, if_neg h2, BitVec.getLsbD_of_ge _ _ h5]
        simp
  · rw [if_neg h, hI j hj]
    by_cases h1 : j < 8 * i
    · rw [if_pos h1, if_pos (by omega)]
    · rw [if_neg h1, if_neg (by omega)]
theorem bv_word (b : List (BitVec 8)) (l : List (BitVec 64)) (ll : l.length = 4) (hI : ∀ j, j < 256 → bitAt l j = if j < 8 * min b.length 32 then bb b j else false) : l = wOf (bvk b b.length) := by
  refine bitAt_ext ll (wOf_len _) fun j hj => ?_
  rw [hI j hj, bitAt_wOf _ _ hj, bvk_bit]
  by_cases h : j / 8 < b.length
  · rw [if_pos (by omega), if_pos h]
    rfl
  · rw [if_neg (by omega), if_neg h]
theorem From_sound : SoundFn Try.prog glB 48 FromS.run := by
  have G := good_of (P := Try.prog) glB_ro (l := []) (by simp)
  refine soundFn_of_W G Try.func48 (by decide) rfl (by decide) ?_
  intro ins ret outs h
  unfold FromS at h
  dsimp only at h
  split at h
  rotate_left
  · cases h
  rename_i b
  obtain ⟨hl, h'⟩ := chk_some h
  clear h
  cases h'
  refine ⟨by show 1 ≤ 32; decide, fun w0 ext av => ?_⟩
  rw [Try.ntmps48, st0_eq]
  obtain ⟨N, hN⟩ : ∃ N, min b.length 32 = N := ⟨_, rfl⟩
  have hm : (if (32 : Int) < (b.length : Int) then 32 else (b.length : Int)) = (N : Int) := by
    by_cases h : (32 : Int) < (b.length : Int)
    · rw [if_pos h]; omega
    · rw [if_neg h]; omega
  have hNb : N ≤ b.length := by omega
  have hN32 : N ≤ 32 := by omega
  repeat' first
    | refine W.seq ?_ | (refine W.regS G ?_; dsimp only) | refine SW.nil ?_ | refine thenQ_normal ?_ | refine W.skip ?_ | refine W.exit ?_ | refine thenQ_exit ?_ | refine inBlockQ_exit ?_ | refine inBlockQ_normal ?_ | refine W.block ?_
    | (apply SW.toC; refine SWcall.go hm ?_) | (apply SW.toOp; refine SWop.go hm ?_) | (apply SW.toCG; first | refine SWcall.yes hm ?_ | refine SWcall.no hm ?_) | (apply SW.toG; first | refine SWop.yes hm ?_ | refine SWop.no hm ?_)
  refine W.loopI (ι := {p : Nat × List (BitVec 64) // p.1 ≤ N ∧ p.2.length = 4 ∧ ∀ j, j < 256 → bitAt p.2 j = if j < 8 * p.1 then bb b j else false}) (fun p => sL [(0, .sl false (.u 8 b)), (2, .p 2 0 0 0), (3, .p 3 0 0 0), (7, .i (N : Int)), (8, .i (p.1.1 : Int))] [(2, .agg 4 (.u 64 (zeros 64 4))), (3, .agg 4 (.u 64 p.1.2))] 32) (fun p => N - p.1.1) ⟨(0, zeros 64 4), Nat.zero_le _, rfl, fun j hj => by rw [bitAt_zeros, if_neg (by dsimp only; omega)]⟩ (Imp.le ?_) ?_
  · exact sL_leZ hm
  rintro ⟨⟨i, l⟩, hi, ll, hI⟩
  dsimp only at hi ll hI
  repeat' first
    | refine W.seq ?_ | (refine W.regS G ?_; dsimp only) | refine SW.nil ?_ | refine thenQ_normal ?_ | refine W.skip ?_ | refine W.exit ?_ | refine thenQ_exit ?_ | refine inBlockQ_exit ?_ | refine inBlockQ_normal ?_ | refine W.block ?_
    | (apply SW.toC; refine SWcall.go ll ?_) | (apply SW.toOp; refine SWop.go ll ?_) | (apply SW.toCG; first | refine SWcall.yes ll ?_ | refine SWcall.no ll ?_) | (apply SW.toG; first | refine SWop.yes ll ?_ | refine SWop.no ll ?_)
  refine W.condZ G ll ?_ ?_
  all_goals intro ht
  · have ht' := of_decide_eq_true ht
    have hi2 : i < N := by omega
    have e1 : ((i : Int) / 8) = ((i / 8 : Nat) : Int) := by omega
    have e2 : (8 * ((i : Int) % 8)) = ((8 * (i % 8) : Nat) : Int) := by omega
    have e3 : (b.length : Int) - 1 - (i : Int) = ((b.length - 1 - i : Nat) : Int) := by omega
    have hb := from_step ll (by omega) (by omega) hI
    have b3 : b.length - 1 - i < b.length := by omega
    generalize b.length - 1 - i = q at e3 hb b3
    repeat' first
      | refine W.seq ?_ | (refine W.regS G ?_; dsimp only) | refine SW.nil ?_ | refine thenQ_normal ?_ | refine W.skip ?_ | refine W.exit ?_ | refine thenQ_exit ?_ | refine inBlockQ_exit ?_ | refine inBlockQ_normal ?_
      | (apply SW.toC; refine SWcall.go (And.intro ll (And.intro e1 (And.intro e2 e3))) ?_) | (apply SW.toOp; refine SWop.go (And.intro ll (And.intro e1 (And.intro e2 e3))) ?_) | (apply SW.toCG; first | refine SWcall.yes (And.intro ll (And.intro e1 (And.intro e2 e3))) ?_ | refine SWcall.no (And.intro ll (And.intro e1 (And.intro e2 e3))) ?_) | (apply SW.toG; first | refine SWop.yes (And.intro ll (And.intro e1 (And.intro e2 e3))) ?_ | refine SWop.no (And.intro ll (And.intro e1 (And.intro e2 e3))) ?_)
    refine W.block ?_
    repeat' first
      | refine W.seq ?_ | (refine W.regS G ?_; dsimp only) | refine SW.nil ?_ | refine thenQ_normal ?_ | refine W.skip ?_ | refine W.exit ?_ | refine thenQ_exit ?_ | refine inBlockQ_exit ?_ | refine inBlockQ_normal ?_
      | (apply SW.toC; refine SWcall.go (And.intro ll (And.intro e1 (And.intro e2 e3))) ?_) | (apply SW.toOp; refine SWop.go (And.intro ll (And.intro e1 (And.intro e2 e3))) ?_) | (apply SW.toCG; first | refine SWcall.yes (And.intro ll (And.intro e1 (And.intro e2 e3))) ?_ | refine SWcall.no (And.intro ll (And.intro e1 (And.intro e2 e3))) ?_) | (apply SW.toG; first | refine SWop.yes (And.intro ll (And.intro e1 (And.intro e2 e3))) ?_ | refine SWop.no (And.intro ll (And.intro e1 (And.intro e2 e3))) ?_)
    refine W.drawS G [[], [0], [1, 0], [2, 1, 0], [], [], [5], [6, 5], [], [7, 6, 5, 8], [4, 9, 7, 6, 5, 8], [10, 4, 9, 7, 6, 5, 8], [11, 10, 4, 9, 7, 6, 5, 8], [], [13], [14, 13], [12, 11, 10, 4, 9, 7, 6, 5, 8, 15, 14, 13], [3, 2, 1, 0, 16, 12, 11, 10, 4, 9, 7, 6, 5, 8, 15, 14, 13], [1, 0, 2, 3, 4, 5, 6, 7, 8, 9, 10, 11, 12, 13, 14, 15, 16, 17], [18, 1, 0, 2, 3, 4, 5, 6, 7, 8, 9, 10, 11, 12, 13, 14, 15, 16, 17]] hmix ?_
    dsimp only
    repeat' first
      | (apply DW.nil; (focus (decide +kernel)))
      | (apply DW.toC; refine DWcall.go (And.intro ll (And.intro e1 (And.intro e2 e3))) ?_) | (apply DW.toOp; refine DWop.go (And.intro ll (And.intro e1 (And.intro e2 e3))) ?_) | (apply DW.toCG; first | refine DWcall.yes (And.intro ll (And.intro e1 (And.intro e2 e3))) ?_ | refine DWcall.no (And.intro ll (And.intro e1 (And.intro e2 e3))) ?_) | (apply DW.toG; first | refine DWop.yes (And.intro ll (And.intro e1 (And.intro e2 e3))) ?_ | refine DWop.no (And.intro ll (And.intro e1 (And.intro e2 e3))) ?_)
    repeat' first
      | refine W.seq ?_ | (refine W.regS G ?_; dsimp only) | refine SW.nil ?_ | refine thenQ_normal ?_ | refine W.skip ?_ | refine W.exit ?_ | refine thenQ_exit ?_ | refine inBlockQ_exit ?_ | refine inBlockQ_normal ?_ | refine W.block ?_
      | (apply SW.toC; refine SWcall.go (And.intro ll (And.intro e1 (And.intro e2 e3))) ?_) | (apply SW.toOp; refine SWop.go (And.intro ll (And.intro e1 (And.intro e2 e3))) ?_) | (apply SW.toCG; first | refine SWcall.yes (And.intro ll (And.intro e1 (And.intro e2 e3))) ?_ | refine SWcall.no (And.intro ll (And.intro e1 (And.intro e2 e3))) ?_) | (apply SW.toG; first | refine SWop.yes (And.intro ll (And.intro e1 (And.intro e2 e3))) ?_ | refine SWop.no (And.intro ll (And.intro e1 (And.intro e2 e3))) ?_)
    refine ⟨⟨(i + 1, _), by dsimp only; omega, ?_, hb⟩, Imp.le ?_, by show N - (i + 1) < N - i; omega⟩
    · dsimp only; rw [List.length_set]; exact ll
    exact sL_leZ (And.intro ll (And.intro e1 (And.intro e2 e3)))
  have ht' := of_decide_eq_false ht
  obtain rfl : i = N := by omega
  have hf := bv_word b l ll (by rw [hN]; exact hI)
  rw [← hf]
  repeat' first
    | refine W.seq ?_ | (refine W.regS G ?_; dsimp only) | refine SW.nil ?_ | refine thenQ_normal ?_ | refine W.skip ?_ | refine W.exit ?_ | refine thenQ_exit ?_ | refine inBlockQ_exit ?_ | refine inBlockQ_normal ?_ | refine W.block ?_
    | (apply SW.toC; refine SWcall.go ll ?_) | (apply SW.toOp; refine SWop.go ll ?_) | (apply SW.toCG; first | refine SWcall.yes ll ?_ | refine SWcall.no ll ?_) | (apply SW.toG; first | refine SWop.yes ll ?_ | refine SWop.no ll ?_)
  refine W.ret ?_
  repeat' first
    | refine thenQ_ret ?_
    | refine inBlockQ_ret ?_
  refine fin1Z ll ?_
  exact leV_refl
/-- the bytes of a word give it back -/
theorem bvk_bytes (x : Nat) (hx : x < B256) : bvk (bytesL x) 32 = x := by
  have h : ∀ k, k ≤ 32 → bvk (bytesL x) k = x / 256 ^ (32 - k) := by
    intro k hk
    induction k with
    | zero =>
      show 0 = x / 256 ^ 32
      rw [Nat.div_eq_of_lt (Nat.lt_of_lt_of_eq hx (by decide))]
    | succ k ih =>
      show bvk (bytesL x) k * 256 + ((bytesL x).getD k 0).toNat = _
      rw [ih (by omega), bytesL_at _ _ (by omega)]
      unfold byN
      rw [BitVec.toNat_ofNat, show 32 - k = (31 - k) + 1 from by omega, show 32 - (k + 1) = 31 - k from by omega, Nat.pow_succ, ← Nat.div_div_eq_div_mul]
      generalize x / 256 ^ (31 - k) = y
      omega
  rw [h 32 (by omega), Nat.sub_self, Nat.pow_zero, Nat.div_one]
end Go.Vm.C01

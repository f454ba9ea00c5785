/- What some functions of the program compute, walked through once. -/
import Derived.Test.YthjgpkaamgoodaaCBH
namespace Go.Vm.C01
open Go Go.Proofs
set_option linter.unusedVariables false
set_option linter.unusedSimpArgs false
set_option maxRecDepth 100000
set_option maxHeartbeats 8000000

def byN (x n : Nat) : BitVec 8 := BitVec.ofNat 8 (x / 256 ^ (31 - n) % 256)
def bytesL (x : Nat) : List (BitVec 8) := (List.range 32).map (byN x)
theorem bytesL_at (x n : Nat) (h : n < 32) : (bytesL x).getD n 0 = byN x n := by
  unfold bytesL
  simp [List.getD_eq_getElem?_getD, h]
@[go_sem] theorem bytesL_len (x : Nat) : (bytesL x).length = 32 := by simp [bytesL]
theorem list_ext8 {n : Nat} {l m : List (BitVec 8)} (hl : l.length = n) (hm : m.length = n) (h : ∀ i, i < n → l.getD i 0 = m.getD i 0) : l = m := by
  refine List.ext_getElem (by rw [hl, hm]) fun i h1 h2 => ?_
  have := h i (by omega)
  simpa [List.getD_eq_getElem?_getD, h1, h2] using this
theorem getD_set8 {l : List (BitVec 8)} {k j : Nat} {v : BitVec 8} (h : k < l.length) : (l.set k v).getD j 0 = if j = k then v else l.getD j 0 := by
  by_cases hj : j = k
  · subst hj
    rw [if_pos rfl]
    simp [List.getD_eq_getElem?_getD, List.getElem?_set, h]
  · rw [if_neg hj]
    simp [List.getD_eq_getElem?_getD, List.getElem?_set, Ne.symm hj]
theorem and_mod (x : BitVec 64) (k : Nat) (hk : k < 64) (m : BitVec 64) (hm : m.toNat = 2 ^ k - 1) : (x &&& m).toNat = x.toNat % 2 ^ k := by
  rw [BitVec.toNat_and, hm, Nat.and_two_pow_sub_one_eq_mod]
theorem low_byte (a : List (BitVec 64)) (i : Nat) (hi : i < 16) : BitVec.setWidth 8 ((digF a 16).getD i 0 &&& 255#64) = byN (wv a) (31 - 2 * i) := by
  refine BitVec.eq_of_toNat_eq ?_
  have hb := byte_limb a (2 * i) (by omega)
  rw [show 2 * i / 8 = i / 4 from by omega, show 8 * (2 * i % 8) = 16 * (i % 4) from by omega] at hb
  unfold byN
  rw [show 31 - (31 - 2 * i) = 2 * i from by omega, ← hb, digF_at a 16 i hi, BitVec.toNat_setWidth, BitVec.toNat_ofNat, and_mod _ 8 (by omega) _ rfl, and_mod _ 16 (by omega) _ rfl, and_mod _ 8 (by omega) _ rfl]
  generalize (a.getD (i / 4) 0 >>> (16 * (i % 4))).toNat = y
  omega
theorem high_byte (a : List (BitVec 64)) (i : Nat) (hi : i < 16) : BitVec.setWidth 8 ((digF a 16).getD i 0 >>> 8) = byN (wv a) (30 - 2 * i) := by
  refine BitVec.eq_of_toNat_eq ?_
  have hb := byte_limb a (2 * i + 1) (by omega)
  rw [show (2 * i + 1) / 8 = i / 4 from by omega, show 8 * ((2 * i + 1) % 8) = 16 * (i % 4) + 8 from by omega] at hb
  unfold byN
  rw [show 31 - (30 - 2 * i) = 2 * i + 1 from by omega, ← hb, digF_at a 16 i hi, BitVec.toNat_setWidth, BitVec.toNat_ofNat, BitVec.toNat_ushiftRight, and_mod _ 16 (by omega) _ rfl, and_mod _ 8 (by omega) _ rfl, BitVec.toNat_ushiftRight, BitVec.toNat_ushiftRight, Nat.shiftRight_eq_div_pow, Nat.shiftRight_eq_div_pow, Nat.shiftRight_eq_div_pow, Nat.pow_add, ← Nat.div_div_eq_div_mul]
  generalize (a.getD (i / 4) 0).toNat / 2 ^ (16 * (i % 4)) = y
  omega
noncomputable def rBytesS : FSpec := { run := fun ins => match ins with
  | [.agg 4 (.u 64 a)] => some (.agg 32 (.u 8 (bytesL (wv a))), [])
  | _ => none }
theorem rBytes_sound : SoundFn Try.prog glB 46 rBytesS.run := by
  have G := good_of (P := Try.prog) glB_ro (l := [(71, digS)]) (by simp only [List.forall_mem_cons]; exact ⟨dig_sound, by simp⟩)
  refine soundFn_of_W G Try.func46 (by decide) rfl (by decide) ?_
  intro ins ret outs h
  unfold rBytesS at h
  dsimp only at h
  split at h
  rotate_left
  · cases h
  rename_i a
  cases h
  refine ⟨by show 1 ≤ 34; decide, fun w0 ext av => ?_⟩
  rw [Try.ntmps46, st0_eq]
  have lb := low_byte a
  have hb := high_byte a
  have ld : (digF a 16).length = 16 := digF_len a 16
  generalize hd : digF a 16 = d at lb hb ld
  repeat' first
    | refine W.seq ?_ | (refine W.regS G ?_; dsimp only) | refine SW.nil ?_ | refine thenQ_normal ?_ | refine W.skip ?_ | refine W.exit ?_ | refine thenQ_exit ?_ | refine inBlockQ_exit ?_ | refine inBlockQ_normal ?_ | refine W.block ?_
    | (apply SW.toC; refine SWcall.go (And.intro digS.eq_1 hd) ?_) | (apply SW.toOp; refine SWop.go (And.intro digS.eq_1 hd) ?_) | (apply SW.toCG; first | refine SWcall.yes (And.intro digS.eq_1 hd) ?_ | refine SWcall.no (And.intro digS.eq_1 hd) ?_) | (apply SW.toG; first | refine SWop.yes (And.intro digS.eq_1 hd) ?_ | refine SWop.no (And.intro digS.eq_1 hd) ?_)
  refine W.loopI (ι := {p : Nat × List (BitVec 8) // p.1 ≤ 16 ∧ p.2.length = 32 ∧ ∀ n, n < 32 → 32 - 2 * p.1 ≤ n → p.2.getD n 0 = byN (wv a) n}) (fun p => sL [(2, .p 2 0 0 0), (3, .p 3 0 0 0), (4, .sl true (.u 64 d)), (5, .i (p.1.1 : Int))] [(1, .agg 4 (.u 64 a)), (2, .agg 32 (.u 8 (zeros 8 32))), (3, .agg 32 (.u 8 p.1.2))] 34) (fun p => 16 - p.1.1) ⟨(0, zeros 8 32), by show 0 ≤ 16; omega, rfl, fun n hn h => absurd h (by dsimp only; omega)⟩ (Imp.le ?_) ?_
  · exact sL_leZ (And.intro digS.eq_1 hd)
  rintro ⟨⟨i, l⟩, hi, ll, hI⟩
  dsimp only at hi ll hI
  repeat' first
    | refine W.seq ?_ | (refine W.regS G ?_; dsimp only) | refine SW.nil ?_ | refine thenQ_normal ?_ | refine W.skip ?_ | refine W.exit ?_ | refine thenQ_exit ?_ | refine inBlockQ_exit ?_ | refine inBlockQ_normal ?_ | refine W.block ?_
    | (apply SW.toC; refine SWcall.go ll ?_) | (apply SW.toOp; refine SWop.go ll ?_) | (apply SW.toCG; first | refine SWcall.yes ll ?_ | refine SWcall.no ll ?_) | (apply SW.toG; first | refine SWop.yes ll ?_ | refine SWop.no ll ?_)
  refine W.condZ G ll ?_ ?_
  all_goals intro ht
  · have ht' := of_decide_eq_true ht
    have hi2 : i < 16 := by omega
    have e1 : 31 - 2 * (i : Int) = ((31 - 2 * i : Nat) : Int) := by omega
    have e2 : 30 - 2 * (i : Int) = ((30 - 2 * i : Nat) : Int) := by omega
    have lb := lb i hi2
    have hb := hb i hi2
    have hn : ∀ n, n < 32 → 32 - 2 * (i + 1) ≤ n → ((l.set (31 - 2 * i) (byN (wv a) (31 - 2 * i))).set (30 - 2 * i) (byN (wv a) (30 - 2 * i))).getD n 0 = byN (wv a) n := by
      intro n hn h
      rw [getD_set8 (by rw [List.length_set]; omega)]
      by_cases h1 : n = 30 - 2 * i
      · rw [if_pos h1, h1]
      · rw [if_neg h1, getD_set8 (by omega)]
        by_cases h2 : n = 31 - 2 * i
        · rw [if_pos h2, h2]
        · rw [if_neg h2]
          exact hI n hn (by omega)
    repeat' first
      | refine W.seq ?_ | (refine W.regS G ?_; dsimp only) | refine SW.nil ?_ | refine thenQ_normal ?_ | refine W.skip ?_ | refine W.exit ?_ | refine thenQ_exit ?_ | refine inBlockQ_exit ?_ | refine inBlockQ_normal ?_
      | (apply SW.toC; refine SWcall.go (And.intro ll (And.intro ld (And.intro e1 (And.intro e2 (And.intro lb hb))))) ?_) | (apply SW.toOp; refine SWop.go (And.intro ll (And.intro ld (And.intro e1 (And.intro e2 (And.intro lb hb))))) ?_) | (apply SW.toCG; first | refine SWcall.yes (And.intro ll (And.intro ld (And.intro e1 (And.intro e2 (And.intro lb hb))))) ?_ | refine SWcall.no (And.intro ll (And.intro ld (And.intro e1 (And.intro e2 (And.intro lb hb))))) ?_) | (apply SW.toG; first | refine SWop.yes (And.intro ll (And.intro ld (And.intro e1 (And.intro e2 (And.intro lb hb))))) ?_ | refine SWop.no (And.intro ll (And.intro ld (And.intro e1 (And.intro e2 (And.intro lb hb))))) ?_)
    refine W.block ?_
    repeat' first
      | refine W.seq ?_ | (refine W.regS G ?_; dsimp only) | refine SW.nil ?_ | refine thenQ_normal ?_ | refine W.skip ?_ | refine W.exit ?_ | refine thenQ_exit ?_ | refine inBlockQ_exit ?_ | refine inBlockQ_normal ?_
      | (apply SW.toC; refine SWcall.go (And.intro ll (And.intro ld (And.intro e1 (And.intro e2 (And.intro lb hb))))) ?_) | (apply SW.toOp; refine SWop.go (And.intro ll (And.intro ld (And.intro e1 (And.intro e2 (And.intro lb hb))))) ?_) | (apply SW.toCG; first | refine SWcall.yes (And.intro ll (And.intro ld (And.intro e1 (And.intro e2 (And.intro lb hb))))) ?_ | refine SWcall.no (And.intro ll (And.intro ld (And.intro e1 (And.intro e2 (And.intro lb hb))))) ?_) | (apply SW.toG; first | refine SWop.yes (And.intro ll (And.intro ld (And.intro e1 (And.intro e2 (And.intro lb hb))))) ?_ | refine SWop.no (And.intro ll (And.intro ld (And.intro e1 (And.intro e2 (And.intro lb hb))))) ?_)
    refine W.drawS G [[], [0], [1, 0], [], [3], [4, 3], [], [], [6, 7], [8, 6, 7], [9, 8, 6, 7], [10, 9, 8, 6, 7], [], [], [12, 13], [14, 12, 13], [15, 14, 12, 13], [16, 15, 14, 12, 13], [2, 1, 0, 6, 7, 8, 9, 10, 11], [18, 2, 1, 0, 6, 7, 8, 9, 10, 11], [5, 4, 3, 0, 1, 2, 6, 7, 8, 9, 10, 11, 12, 13, 14, 15, 16, 17, 18, 19], [20, 5, 4, 3, 0, 1, 2, 6, 7, 8, 9, 10, 11, 12, 13, 14, 15, 16, 17, 18, 19]] hmix ?_
    dsimp only
    repeat' first
      | (apply DW.nil; (focus (decide +kernel)))
      | (apply DW.toC; refine DWcall.go (And.intro ll (And.intro ld (And.intro e1 (And.intro e2 (And.intro lb hb))))) ?_) | (apply DW.toOp; refine DWop.go (And.intro ll (And.intro ld (And.intro e1 (And.intro e2 (And.intro lb hb))))) ?_) | (apply DW.toCG; first | refine DWcall.yes (And.intro ll (And.intro ld (And.intro e1 (And.intro e2 (And.intro lb hb))))) ?_ | refine DWcall.no (And.intro ll (And.intro ld (And.intro e1 (And.intro e2 (And.intro lb hb))))) ?_) | (apply DW.toG; first | refine DWop.yes (And.intro ll (And.intro ld (And.intro e1 (And.intro e2 (And.intro lb hb))))) ?_ | refine DWop.no (And.intro ll (And.intro ld (And.intro e1 (And.intro e2 (And.intro lb hb))))) ?_)
    repeat' first
      | refine W.seq ?_ | (refine W.regS G ?_; dsimp only) | refine SW.nil ?_ | refine thenQ_normal ?_ | refine W.skip ?_ | refine W.exit ?_ | refine thenQ_exit ?_ | refine inBlockQ_exit ?_ | refine inBlockQ_normal ?_ | refine W.block ?_
      | (apply SW.toC; refine SWcall.go (And.intro ll (And.intro ld (And.intro e1 (And.intro e2 (And.intro lb hb))))) ?_) | (apply SW.toOp; refine SWop.go (And.intro ll (And.intro ld (And.intro e1 (And.intro e2 (And.intro lb hb))))) ?_) | (apply SW.toCG; first | refine SWcall.yes (And.intro ll (And.intro ld (And.intro e1 (And.intro e2 (And.intro lb hb))))) ?_ | refine SWcall.no (And.intro ll (And.intro ld (And.intro e1 (And.intro e2 (And.intro lb hb))))) ?_) | (apply SW.toG; first | refine SWop.yes (And.intro ll (And.intro ld (And.intro e1 (And.intro e2 (And.intro lb hb))))) ?_ | refine SWop.no (And.intro ll (And.intro ld (And.intro e1 (And.intro e2 (And.intro lb hb))))) ?_)
    refine ⟨⟨(i + 1, _), by dsimp only; omega, ?_, hn⟩, Imp.le ?_, by show 16 - (i + 1) < 16 - i; omega⟩
    · dsimp only; rw [List.length_set, List.length_set]; exact ll
    exact sL_leZ (And.intro ll (And.intro ld (And.intro e1 (And.intro e2 (And.intro lb hb)))))
  have ht' := of_decide_eq_false ht
  obtain rfl : i = 16 := by omega
  have hf : l = bytesL (wv a) := list_ext8 ll (bytesL_len _) fun n hn => by rw [hI n hn (by omega), bytesL_at _ _ hn]
  rw [← hf]
  repeat' first
    | refine W.seq ?_ | (refine W.regS G ?_; dsimp only) | refine SW.nil ?_ | refine thenQ_normal ?_ | refine W.skip ?_ | refine W.exit ?_ | refine thenQ_exit ?_ | refine inBlockQ_exit ?_ | refine inBlockQ_normal ?_ | refine W.block ?_
    | (apply SW.toC; refine SWcall.go ll ?_) | (apply SW.toOp; refine SWop.go ll ?_) | (apply SW.toCG; first | refine SWcall.yes ll ?_ | refine SWcall.no ll ?_) | (apply SW.toG; first | refine SWop.yes ll ?_ | refine SWop.no ll ?_)
  refine W.ret ?_
  repeat' first
    | refine thenQ_ret ?_
    | refine inBlockQ_ret ?_
  refine fin1Z ll ?_
  exact leV_refl
noncomputable def rByteS : FSpec := { run := fun ins => match ins with
  | [.agg 4 (.u 64 k), .agg 4 (.u 64 a)] => chk (a.length = 4) (some (.agg 4 (.u 64 (byF a (wv k))), []))
  | _ => none }
theorem bl_mod (x i : Nat) : bl (x % 2 ^ (i + 1)) = if x / 2 ^ i % 2 = 1 then i + 1 else bl (x % 2 ^ i) := by
  have hp := Nat.two_pow_pos i
  rw [Nat.mod_pow_succ]
  have h1 : x % 2 ^ i < 2 ^ i := Nat.mod_lt _ hp
  by_cases h : x / 2 ^ i % 2 = 1
  · rw [if_pos h, h]
    refine bl_eq ?_ ?_
    · omega
    · rw [Nat.pow_succ]; omega
  · rw [if_neg h, show x / 2 ^ i % 2 = 0 from by omega]
    simp
noncomputable def rLenS : FSpec := { run := fun ins => match ins with
  | [.agg 4 (.u 64 a)] => some (.i (bl (wv a) : Int), [])
  | _ => none }
end Go.Vm.C01

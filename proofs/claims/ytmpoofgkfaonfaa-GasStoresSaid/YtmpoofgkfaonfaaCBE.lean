/- What some functions of the program compute, walked through once. -/
import Derived.Test.YtmpoofgkfaonfaaCBD
namespace Go.Vm.C19
open Go Go.Proofs
set_option linter.unusedVariables false
set_option linter.unusedSimpArgs false
set_option maxRecDepth 100000
set_option maxHeartbeats 8000000

theorem sx_eq (a : List (BitVec 64)) (n : Nat) (hn : n < 31) : wB (shrB (wB (shlB a (8 * (31 - n)))) (8 * (31 - n)) (bitAt (wB (shlB a (8 * (31 - n)))) 255)) = wB (sxB a n) := by
  refine wB_congr fun i hi => ?_
  unfold shrB sxB
  by_cases h : i + 8 * (31 - n) < 256
  · have h1 : i ≤ 8 * n + 7 := by omega
    have h2 : 8 * (31 - n) ≤ i + 8 * (31 - n) := by omega
    rw [if_pos h, if_pos h1, bitAt_wB _ _ h]
    unfold shlB
    rw [Nat.add_sub_cancel]
    simp [h2]
  · rw [if_neg h, bitAt_wB _ _ (by omega)]
    have h2 : 8 * (31 - n) ≤ 255 := by omega
    have e : 255 - 8 * (31 - n) = 8 * n + 7 := by omega
    unfold shlB
    rw [e]
    by_cases h1 : i ≤ 8 * n + 7
    · rw [if_pos h1, show i = 8 * n + 7 from by omega]
      simp [h2]
    · rw [if_neg h1]
      simp [h2]
def sxF (a : List (BitVec 64)) (n : Nat) : List (BitVec 64) := if 31 ≤ n then a else wB (sxB a n)
noncomputable def SxS : FSpec := { run := fun ins => match ins with
  | [.agg 4 (.u 64 k), .agg 4 (.u 64 a)] => chk (a.length = 4) (some (.agg 4 (.u 64 (sxF a (wv k))), []))
  | _ => none }
theorem byte_limb (a : List (BitVec 64)) (n : Nat) (hn : n < 32) : ((a.getD (n / 8) 0 >>> (8 * (n % 8))) &&& 255#64).toNat = wv a / 256 ^ n % 256 := by
  have e256 : 256 ^ n = 2 ^ (8 * n) := by rw [show 256 = 2 ^ 8 from rfl, ← Nat.pow_mul]
  rw [BitVec.toNat_and, BitVec.toNat_ushiftRight, Nat.shiftRight_eq_div_pow, e256, show (255#64).toNat = 2 ^ 8 - 1 from rfl, Nat.and_two_pow_sub_one_eq_mod, show 256 = 2 ^ 8 from rfl]
  refine Nat.eq_of_testBit_eq fun j => ?_
  rw [Nat.testBit_mod_two_pow, Nat.testBit_mod_two_pow, Nat.testBit_div_two_pow, Nat.testBit_div_two_pow]
  by_cases hj : j < 8
  · have e1 := bitAt_test a (j + 8 * n) (by omega)
    have e2 := bitAt_at a (n / 8) (j + 8 * (n % 8)) (by omega)
    rw [show 64 * (n / 8) + (j + 8 * (n % 8)) = j + 8 * n from by omega] at e2
    rw [BitVec.testBit_toNat, ← e1, ← e2]
  · simp [hj]
def byF (a : List (BitVec 64)) (n : Nat) : List (BitVec 64) := if 32 ≤ n then zeros 64 4 else wOf (wv a / 256 ^ (31 - n) % 256)
noncomputable def ByteS : FSpec := { run := fun ins => match ins with
  | [.agg 4 (.u 64 k), .agg 4 (.u 64 a)] => chk (a.length = 4) (some (.agg 4 (.u 64 (byF a (wv k))), []))
  | _ => none }
noncomputable def NotS : FSpec := { run := fun ins => match ins with
  | [.agg 4 (.u 64 a)] => chk (a.length = 4) (some (.agg 4 (.u 64 (wOf (B256 - 1 - wv a))), []))
  | _ => none }
theorem Not_sound : SoundFn Try.prog glB 41 NotS.run := by
  have G := good_of (P := Try.prog) glB_ro (l := []) (by simp)
  refine soundFn_of_W G Try.func41 (by decide) rfl (by decide) ?_
  intro ins ret outs h
  unfold NotS at h
  dsimp only at h
  split at h
  rotate_left
  · cases h
  rename_i a
  obtain ⟨la, h'⟩ := chk_some h
  clear h
  cases h'
  refine ⟨by show 1 ≤ 15; decide, fun w0 ext av => ?_⟩
  rw [Try.ntmps41, st0_eq]
  have e := notW a
  repeat' first
    | refine W.seq ?_ | (refine W.regS G ?_; dsimp only) | refine SW.nil ?_ | refine thenQ_normal ?_ | refine W.skip ?_ | refine W.exit ?_ | refine thenQ_exit ?_ | refine inBlockQ_exit ?_ | refine inBlockQ_normal ?_ | refine W.block ?_
    | (apply SW.toC; refine SWcall.go True.intro ?_) | (apply SW.toOp; refine SWop.go True.intro ?_) | (apply SW.toCG; first | refine SWcall.yes True.intro ?_ | refine SWcall.no True.intro ?_) | (apply SW.toG; first | refine SWop.yes True.intro ?_ | refine SWop.no True.intro ?_)
  refine W.loopI (ι := {p : Nat × List (BitVec 64) // p.1 ≤ 4 ∧ p.2.length = 4 ∧ ∀ j, j < 4 → p.2.getD j 0 = if j < p.1 then ~~~ (a.getD j 0) else a.getD j 0}) (fun p => sL [(1, .p 1 0 0 0), (2, .p 2 0 0 0), (4, .i (p.1.1 : Int))] [(1, .agg 4 (.u 64 p.1.2)), (2, .agg 4 (.u 64 (zeros 64 4)))] 15) (fun p => 4 - p.1.1) ⟨(0, a), by show 0 ≤ 4; omega, la, fun j hj => by rw [if_neg (by dsimp only; omega)]⟩ (Imp.le ?_) ?_
  · exact sL_leZ True.intro
  rintro ⟨⟨i, l⟩, hi, ll, hI⟩
  dsimp only at hi ll hI
  repeat' first
    | refine W.seq ?_ | (refine W.regS G ?_; dsimp only) | refine SW.nil ?_ | refine thenQ_normal ?_ | refine W.skip ?_ | refine W.exit ?_ | refine thenQ_exit ?_ | refine inBlockQ_exit ?_ | refine inBlockQ_normal ?_ | refine W.block ?_
    | (apply SW.toC; refine SWcall.go ll ?_) | (apply SW.toOp; refine SWop.go ll ?_) | (apply SW.toCG; first | refine SWcall.yes ll ?_ | refine SWcall.no ll ?_) | (apply SW.toG; first | refine SWop.yes ll ?_ | refine SWop.no ll ?_)
  refine W.condZ G ll ?_ ?_
  all_goals intro ht
  · have ht' := of_decide_eq_true ht
    have hi4 : i < 4 := by omega
    have hg := hI i hi4
    rw [if_neg (by omega)] at hg
    have hn : ∀ j, j < 4 → (l.set i (~~~ (a.getD i 0))).getD j 0 = if j < i + 1 then ~~~ (a.getD j 0) else a.getD j 0 := by
      intro j hj
      by_cases hji : j = i
      · subst hji
        rw [getD_set_self (by omega), if_pos (by omega)]
      · have := hI j hj
        rw [show (l.set i (~~~ a.getD i 0)).getD j 0 = l.getD j 0 from by simp [List.getD_eq_getElem?_getD, List.getElem?_set, Ne.symm hji], this]
        by_cases h2 : j < i
        · rw [if_pos h2, if_pos (by omega)]
        · rw [if_neg h2, if_neg (by omega)]
    repeat' first
      | refine W.seq ?_ | (refine W.regS G ?_; dsimp only) | refine SW.nil ?_ | refine thenQ_normal ?_ | refine W.skip ?_ | refine W.exit ?_ | refine thenQ_exit ?_ | refine inBlockQ_exit ?_ | refine inBlockQ_normal ?_ | refine W.block ?_
      | (apply SW.toC; refine SWcall.go (And.intro ll hg) ?_) | (apply SW.toOp; refine SWop.go (And.intro ll hg) ?_) | (apply SW.toCG; first | refine SWcall.yes (And.intro ll hg) ?_ | refine SWcall.no (And.intro ll hg) ?_) | (apply SW.toG; first | refine SWop.yes (And.intro ll hg) ?_ | refine SWop.no (And.intro ll hg) ?_)
    refine ⟨⟨(i + 1, _), by dsimp only; omega, ?_, hn⟩, Imp.le ?_, by show 4 - (i + 1) < 4 - i; omega⟩
    · dsimp only; rw [List.length_set]; exact ll
    exact sL_leZ (And.intro ll hg)
  have ht' := of_decide_eq_false ht
  obtain rfl : i = 4 := by omega
  have hl : l = [~~~ (a.getD 0 0), ~~~ (a.getD 1 0), ~~~ (a.getD 2 0), ~~~ (a.getD 3 0)] := by
    obtain ⟨x, y, z, t, rfl⟩ := len4 l ll
    have h0 := hI 0 (by omega)
    have h1 := hI 1 (by omega)
    have h2 := hI 2 (by omega)
    have h3 := hI 3 (by omega)
    rw [if_pos (by omega)] at h0 h1 h2 h3
    rw [← h0, ← h1, ← h2, ← h3]
    rfl
  rw [← e, ← hl]
  repeat' first
    | refine W.seq ?_ | (refine W.regS G ?_; dsimp only) | refine SW.nil ?_ | refine thenQ_normal ?_ | refine W.skip ?_ | refine W.exit ?_ | refine thenQ_exit ?_ | refine inBlockQ_exit ?_ | refine inBlockQ_normal ?_ | refine W.block ?_
    | (apply SW.toC; refine SWcall.go ll ?_) | (apply SW.toOp; refine SWop.go ll ?_) | (apply SW.toCG; first | refine SWcall.yes ll ?_ | refine SWcall.no ll ?_) | (apply SW.toG; first | refine SWop.yes ll ?_ | refine SWop.no ll ?_)
  refine W.ret ?_
  repeat' first
    | refine thenQ_ret ?_
    | refine inBlockQ_ret ?_
  refine fin1Z ll ?_
  exact leV_refl
noncomputable def LenS : FSpec := { run := fun ins => match ins with
  | [.agg 4 (.u 64 a)] => some (.i (bl (wv a) : Int), [])
  | _ => none }
theorem Len_sound : SoundFn Try.prog glB 59 LenS.run := by
  have G := good_of (P := Try.prog) glB_ro (l := [(80, bitLenS)]) (by simp only [List.forall_mem_cons]; exact ⟨bitLen_sound, by simp⟩)
  refine soundFn_of_W G Try.func59 (by decide) rfl (by decide) ?_
  intro ins ret outs h
  unfold LenS at h
  dsimp only at h
  split at h
  rotate_left
  · cases h
  rename_i a
  cases h
  refine ⟨by show 1 ≤ 5; decide, fun w0 ext av => ?_⟩
  rw [Try.ntmps59, st0_eq]
  repeat' first
    | refine W.seq ?_ | (refine W.regS G ?_; dsimp only) | refine SW.nil ?_ | refine thenQ_normal ?_ | refine W.skip ?_ | refine W.exit ?_ | refine thenQ_exit ?_ | refine inBlockQ_exit ?_ | refine inBlockQ_normal ?_ | refine W.block ?_
    | (apply SW.toC; refine SWcall.go bitLenS.eq_1 ?_) | (apply SW.toOp; refine SWop.go bitLenS.eq_1 ?_) | (apply SW.toCG; first | refine SWcall.yes bitLenS.eq_1 ?_ | refine SWcall.no bitLenS.eq_1 ?_) | (apply SW.toG; first | refine SWop.yes bitLenS.eq_1 ?_ | refine SWop.no bitLenS.eq_1 ?_)
  refine W.ret ?_
  repeat' first
    | refine thenQ_ret ?_
    | refine inBlockQ_ret ?_
  refine fin1Z bitLenS.eq_1 ?_
  exact leV_refl
end Go.Vm.C19

/- What some functions of the program compute, walked through once. -/
import Derived.Test.YthjgpkaamgoodaaCN
namespace Go.Vm.C01
open Go Go.Proofs
set_option linter.unusedVariables false
set_option linter.unusedSimpArgs false
set_option maxRecDepth 100000
set_option maxHeartbeats 8000000

/-! ### how many bits -/
def bl (n : Nat) : Nat := if n = 0 then 0 else n.log2 + 1
theorem bl_eq {n k : Nat} (h1 : 2 ^ k ≤ n) (h2 : n < 2 ^ (k + 1)) : bl n = k + 1 := by
  have h0 : n ≠ 0 := by have := Nat.two_pow_pos k; omega
  unfold bl
  rw [if_neg h0, (Nat.log2_eq_iff h0).2 ⟨h1, h2⟩]
theorem bl_ok {n : Nat} (h : n ≠ 0) : ∃ k, bl n = k + 1 ∧ 2 ^ k ≤ n ∧ n < 2 ^ (k + 1) := by
  refine ⟨n.log2, by unfold bl; rw [if_neg h], (Nat.log2_eq_iff h).1 rfl⟩
theorem bl_lt (n : Nat) : n < 2 ^ bl n := by
  by_cases h : n = 0
  · subst h; decide
  · obtain ⟨k, h1, h2, h3⟩ := bl_ok h
    rw [h1]; exact h3
theorem bl_shift {n k : Nat} (h : 2 ^ k ≤ n) : bl n = bl (n / 2 ^ k) + k := by
  have hp := Nat.two_pow_pos k
  have h0 : n / 2 ^ k ≠ 0 := by
    have := Nat.div_pos h hp
    omega
  obtain ⟨j, h1, h2, h3⟩ := bl_ok h0
  rw [h1, show j + 1 + k = (k + j) + 1 from by omega]
  refine bl_eq ?_ ?_
  · rw [Nat.pow_add]
    calc 2 ^ k * 2 ^ j ≤ 2 ^ k * (n / 2 ^ k) := Nat.mul_le_mul_left _ h2
      _ ≤ n := Nat.mul_div_le _ _
  · rw [show k + j + 1 = k + (j + 1) from by omega, Nat.pow_add, Nat.mul_comm]
    exact (Nat.div_lt_iff_lt_mul hp).1 h3
theorem bl_64 (x : BitVec 64) : bl x.toNat ≤ 64 := by
  by_cases h : x.toNat = 0
  · rw [h]; decide
  · obtain ⟨k, h1, h2, h3⟩ := bl_ok h
    rw [h1]
    have hx := x.isLt
    have : 2 ^ k < 2 ^ 64 := Nat.lt_of_le_of_lt h2 hx
    have := (Nat.pow_lt_pow_iff_right (by decide)).1 this
    omega
def len8B : List (BitVec 8) := (List.range 256).map (fun i => BitVec.ofNat 8 (bl i))
theorem len8_ok : ∀ x : Fin 256, (len8B.getD x.1 0).toNat = bl x.1 := by decide +kernel
theorem len8_len : len8B.length = 256 := by decide +kernel
noncomputable def lenS : FSpec := { run := fun ins => match ins with
  | [.u 64 x] => some (.i (bl x.toNat : Int), [])
  | _ => none }
theorem len64_sound : SoundFn Try.prog glB 88 lenS.run := by
  have G := good_of (P := Try.prog) glB_ro (l := []) (by simp)
  refine soundFn_of_W G Try.func88 (by decide) rfl (by decide) ?_
  intro ins ret outs h
  unfold lenS at h
  dsimp only at h
  split at h
  rotate_left
  · cases h
  rename_i x
  cases h
  refine ⟨by show 1 ≤ 25; decide, fun w0 ext av => ?_⟩
  rw [Try.ntmps88, st0_eq]
  have x0 : x.toNat < 2 ^ 64 := x.isLt
  have hs : ∀ (y : BitVec 64) (n : Nat), (y >>> n).toNat = y.toNat / 2 ^ n := fun y n => by rw [BitVec.toNat_ushiftRight, Nat.shiftRight_eq_div_pow]
  repeat' first
    | refine W.seq ?_ | (refine W.regS G ?_; dsimp only) | refine SW.nil ?_ | refine thenQ_normal ?_ | refine W.skip ?_ | refine W.exit ?_ | refine thenQ_exit ?_ | refine inBlockQ_exit ?_ | refine inBlockQ_normal ?_ | refine W.block ?_
    | (apply SW.toC; refine SWcall.go True.intro ?_) | (apply SW.toOp; refine SWop.go True.intro ?_) | (apply SW.toCG; first | refine SWcall.yes True.intro ?_ | refine SWcall.no True.intro ?_) | (apply SW.toG; first | refine SWop.yes True.intro ?_ | refine SWop.no True.intro ?_)
  refine W.midI (ι := {p : BitVec 64 × Nat // p.1.toNat < 2 ^ 32 ∧ p.2 ≤ 64 ∧ bl x.toNat = bl p.1.toNat + p.2}) (fun p => sL [(0, .u 64 p.1.1), (2, .i (p.1.2 : Int))] [] 25) ?_ ?_
  · refine W.condZ G True.intro ?_ ?_
    all_goals intro h1
    · have h1' := of_decide_eq_true h1
      have h1' : 2 ^ 32 ≤ x.toNat := by simpa [BitVec.le_def] using h1'
      repeat' first
        | refine W.seq ?_ | (refine W.regS G ?_; dsimp only) | refine SW.nil ?_ | refine thenQ_normal ?_ | refine W.skip ?_ | refine W.exit ?_ | refine thenQ_exit ?_ | refine inBlockQ_exit ?_ | refine inBlockQ_normal ?_ | refine W.block ?_
        | (apply SW.toC; refine SWcall.go True.intro ?_) | (apply SW.toOp; refine SWop.go True.intro ?_) | (apply SW.toCG; first | refine SWcall.yes True.intro ?_ | refine SWcall.no True.intro ?_) | (apply SW.toG; first | refine SWop.yes True.intro ?_ | refine SWop.no True.intro ?_)
      refine ⟨⟨(x >>> 32, 32), ?_, by dsimp only; omega, ?_⟩, Imp.le ?_⟩
      · rw [hs]; simp only [Nat.reducePow] at *; omega
      · rw [hs]; exact bl_shift h1'
      exact sL_leZ True.intro
    · have h1' := of_decide_eq_false h1
      have h1' : x.toNat < 2 ^ 32 := by
        have : ¬ 2 ^ 32 ≤ x.toNat := fun c => h1' (by simpa [BitVec.le_def] using c)
        omega
      repeat' first
        | refine W.seq ?_ | (refine W.regS G ?_; dsimp only) | refine SW.nil ?_ | refine thenQ_normal ?_ | refine W.skip ?_ | refine W.exit ?_ | refine thenQ_exit ?_ | refine inBlockQ_exit ?_ | refine inBlockQ_normal ?_ | refine W.block ?_
        | (apply SW.toC; refine SWcall.go True.intro ?_) | (apply SW.toOp; refine SWop.go True.intro ?_) | (apply SW.toCG; first | refine SWcall.yes True.intro ?_ | refine SWcall.no True.intro ?_) | (apply SW.toG; first | refine SWop.yes True.intro ?_ | refine SWop.no True.intro ?_)
      refine ⟨⟨(x, 0), h1', by dsimp only; omega, rfl⟩, Imp.le ?_⟩
      exact sL_leZ True.intro
  rintro ⟨⟨y, n⟩, hy, hn, hb⟩
  dsimp only at hy hn hb
  repeat' first
    | refine W.seq ?_ | (refine W.regS G ?_; dsimp only) | refine SW.nil ?_ | refine thenQ_normal ?_ | refine W.skip ?_ | refine W.exit ?_ | refine thenQ_exit ?_ | refine inBlockQ_exit ?_ | refine inBlockQ_normal ?_ | refine W.block ?_
    | (apply SW.toC; refine SWcall.go True.intro ?_) | (apply SW.toOp; refine SWop.go True.intro ?_) | (apply SW.toCG; first | refine SWcall.yes True.intro ?_ | refine SWcall.no True.intro ?_) | (apply SW.toG; first | refine SWop.yes True.intro ?_ | refine SWop.no True.intro ?_)
  refine W.midI (ι := {p : BitVec 64 × Nat // p.1.toNat < 2 ^ 16 ∧ p.2 ≤ 128 ∧ bl x.toNat = bl p.1.toNat + p.2}) (fun p => sL [(0, .u 64 p.1.1), (2, .i (p.1.2 : Int))] [] 25) ?_ ?_
  · refine W.condZ G True.intro ?_ ?_
    all_goals intro h1
    · have h1' := of_decide_eq_true h1
      have h1' : 2 ^ 16 ≤ y.toNat := by simpa [BitVec.le_def] using h1'
      repeat' first
        | refine W.seq ?_ | (refine W.regS G ?_; dsimp only) | refine SW.nil ?_ | refine thenQ_normal ?_ | refine W.skip ?_ | refine W.exit ?_ | refine thenQ_exit ?_ | refine inBlockQ_exit ?_ | refine inBlockQ_normal ?_ | refine W.block ?_
        | (apply SW.toC; refine SWcall.go True.intro ?_) | (apply SW.toOp; refine SWop.go True.intro ?_) | (apply SW.toCG; first | refine SWcall.yes True.intro ?_ | refine SWcall.no True.intro ?_) | (apply SW.toG; first | refine SWop.yes True.intro ?_ | refine SWop.no True.intro ?_)
      refine ⟨⟨(y >>> 16, n + 16), ?_, by dsimp only; omega, ?_⟩, Imp.le ?_⟩
      · rw [hs]; simp only [Nat.reducePow] at *; omega
      · rw [hs, hb, bl_shift h1']; dsimp only; omega
      exact sL_leZ True.intro
    · have h1' := of_decide_eq_false h1
      have h1' : y.toNat < 2 ^ 16 := by
        have : ¬ 2 ^ 16 ≤ y.toNat := fun c => h1' (by simpa [BitVec.le_def] using c)
        omega
      repeat' first
        | refine W.seq ?_ | (refine W.regS G ?_; dsimp only) | refine SW.nil ?_ | refine thenQ_normal ?_ | refine W.skip ?_ | refine W.exit ?_ | refine thenQ_exit ?_ | refine inBlockQ_exit ?_ | refine inBlockQ_normal ?_ | refine W.block ?_
        | (apply SW.toC; refine SWcall.go True.intro ?_) | (apply SW.toOp; refine SWop.go True.intro ?_) | (apply SW.toCG; first | refine SWcall.yes True.intro ?_ | refine SWcall.no True.intro ?_) | (apply SW.toG; first | refine SWop.yes True.intro ?_ | refine SWop.no True.intro ?_)
      refine ⟨⟨(y, n), h1', by dsimp only; omega, hb⟩, Imp.le ?_⟩
      exact sL_leZ True.intro
  clear hy hn hb
  rintro ⟨⟨y, n⟩, hy, hn, hb⟩
  dsimp only at hy hn hb
  repeat' first
    | refine W.seq ?_ | (refine W.regS G ?_; dsimp only) | refine SW.nil ?_ | refine thenQ_normal ?_ | refine W.skip ?_ | refine W.exit ?_ | refine thenQ_exit ?_ | refine inBlockQ_exit ?_ | refine inBlockQ_normal ?_ | refine W.block ?_
    | (apply SW.toC; refine SWcall.go True.intro ?_) | (apply SW.toOp; refine SWop.go True.intro ?_) | (apply SW.toCG; first | refine SWcall.yes True.intro ?_ | refine SWcall.no True.intro ?_) | (apply SW.toG; first | refine SWop.yes True.intro ?_ | refine SWop.no True.intro ?_)
  refine W.midI (ι := {p : BitVec 64 × Nat // p.1.toNat < 2 ^ 8 ∧ p.2 ≤ 256 ∧ bl x.toNat = bl p.1.toNat + p.2}) (fun p => sL [(0, .u 64 p.1.1), (2, .i (p.1.2 : Int))] [] 25) ?_ ?_
  · refine W.condZ G True.intro ?_ ?_
    all_goals intro h1
    · have h1' := of_decide_eq_true h1
      have h1' : 2 ^ 8 ≤ y.toNat := by simpa [BitVec.le_def] using h1'
      repeat' first
        | refine W.seq ?_ | (refine W.regS G ?_; dsimp only) | refine SW.nil ?_ | refine thenQ_normal ?_ | refine W.skip ?_ | refine W.exit ?_ | refine thenQ_exit ?_ | refine inBlockQ_exit ?_ | refine inBlockQ_normal ?_ | refine W.block ?_
        | (apply SW.toC; refine SWcall.go True.intro ?_) | (apply SW.toOp; refine SWop.go True.intro ?_) | (apply SW.toCG; first | refine SWcall.yes True.intro ?_ | refine SWcall.no True.intro ?_) | (apply SW.toG; first | refine SWop.yes True.intro ?_ | refine SWop.no True.intro ?_)
      refine ⟨⟨(y >>> 8, n + 8), ?_, by dsimp only; omega, ?_⟩, Imp.le ?_⟩
      · rw [hs]; simp only [Nat.reducePow] at *; omega
      · rw [hs, hb, bl_shift h1']; dsimp only; omega
      exact sL_leZ True.intro
    · have h1' := of_decide_eq_false h1
      have h1' : y.toNat < 2 ^ 8 := by
        have : ¬ 2 ^ 8 ≤ y.toNat := fun c => h1' (by simpa [BitVec.le_def] using c)
        omega
      repeat' first
        | refine W.seq ?_ | (refine W.regS G ?_; dsimp only) | refine SW.nil ?_ | refine thenQ_normal ?_ | refine W.skip ?_ | refine W.exit ?_ | refine thenQ_exit ?_ | refine inBlockQ_exit ?_ | refine inBlockQ_normal ?_ | refine W.block ?_
        | (apply SW.toC; refine SWcall.go True.intro ?_) | (apply SW.toOp; refine SWop.go True.intro ?_) | (apply SW.toCG; first | refine SWcall.yes True.intro ?_ | refine SWcall.no True.intro ?_) | (apply SW.toG; first | refine SWop.yes True.intro ?_ | refine SWop.no True.intro ?_)
      refine ⟨⟨(y, n), h1', by dsimp only; omega, hb⟩, Imp.le ?_⟩
      exact sL_leZ True.intro
  clear hy hn hb
  rintro ⟨⟨y, n⟩, hy, hn, hb⟩
  dsimp only at hy hn hb
  have st : ∀ (Γ : Ctx) (e : Nat → Option V), opnd Γ e (Operand.const (Value.string { data := (((([0, 1, 2, 2, 3, 3, 3, 3, 4, 4, 4, 4, 4, 4, 4, 4, 5, 5, 5, 5, 5, 5, 5, 5, 5, 5, 5, 5, 5, 5, 5, 5, 6, 6, 6, 6, 6, 6, 6, 6, 6, 6, 6, 6, 6, 6, 6, 6, 6, 6, 6, 6, 6, 6, 6, 6, 6, 6, 6, 6, 6, 6, 6, 6] : List UInt8).append [7, 7, 7, 7, 7, 7, 7, 7, 7, 7, 7, 7, 7, 7, 7, 7, 7, 7, 7, 7, 7, 7, 7, 7, 7, 7, 7, 7, 7, 7, 7, 7, 7, 7, 7, 7, 7, 7, 7, 7, 7, 7, 7, 7, 7, 7, 7, 7, 7, 7, 7, 7, 7, 7, 7, 7, 7, 7, 7, 7, 7, 7, 7, 7]).append (([8, 8, 8, 8, 8, 8, 8, 8, 8, 8, 8, 8, 8, 8, 8, 8, 8, 8, 8, 8, 8, 8, 8, 8, 8, 8, 8, 8, 8, 8, 8, 8, 8, 8, 8, 8, 8, 8, 8, 8, 8, 8, 8, 8, 8, 8, 8, 8, 8, 8, 8, 8, 8, 8, 8, 8, 8, 8, 8, 8, 8, 8, 8, 8] : List UInt8).append [8, 8, 8, 8, 8, 8, 8, 8, 8, 8, 8, 8, 8, 8, 8, 8, 8, 8, 8, 8, 8, 8, 8, 8, 8, 8, 8, 8, 8, 8, 8, 8, 8, 8, 8, 8, 8, 8, 8, 8, 8, 8, 8, 8, 8, 8, 8, 8, 8, 8, 8, 8, 8, 8, 8, 8, 8, 8, 8, 8, 8, 8, 8, 8])).toArray) })) = some (.s len8B) := fun _ _ => (chk_ok (by decide +kernel)).trans (congrArg (fun b => some (V.s b)) (by kernel_rfl))
  have st2 : ∀ i, i < 256 → (len8B.getD i 0).toNat = bl i := fun i hi => len8_ok ⟨i, hi⟩
  have e1 : (BitVec.setWidth 8 y).toNat = y.toNat := by rw [BitVec.toNat_setWidth]; exact Nat.mod_eq_of_lt hy
  have e2 := st2 y.toNat hy
  have e3 := len8_len
  have e4 : bl y.toNat ≤ 64 := bl_64 y
  generalize len8B = T at st st2 e2 e3
  repeat' first
    | refine W.seq ?_ | (refine W.regS G ?_; dsimp only) | refine SW.nil ?_ | refine thenQ_normal ?_ | refine W.skip ?_ | refine W.exit ?_ | refine thenQ_exit ?_ | refine inBlockQ_exit ?_ | refine inBlockQ_normal ?_ | refine W.block ?_
    | (apply SW.toC; refine SWcall.go (And.intro e1 (And.intro e2 e3)) ?_) | (apply SW.toOp; refine SWop.go (And.intro e1 (And.intro e2 e3)) ?_) | (apply SW.toCG; first | refine SWcall.yes (And.intro e1 (And.intro e2 e3)) ?_ | refine SWcall.no (And.intro e1 (And.intro e2 e3)) ?_) | (apply SW.toG; first | refine SWop.yes (And.intro e1 (And.intro e2 e3)) ?_ | refine SWop.no (And.intro e1 (And.intro e2 e3)) ?_)
  apply SW.toOp
  refine SWop.go (h1 := by simp only [↓mapO_opn, ↓mapO_onil, ↓st, ↓opnd_tmp, ↓put_at, ↓purge_at, lookN_at, lookN, Option.map_some, argV, ↓reduceIte, Nat.reduceEqDiff, Nat.reduceBEq] <;> rfl) (And.intro e1 (And.intro e2 (And.intro e3 hy))) ?_
  repeat' first
    | refine W.seq ?_ | (refine W.regS G ?_; dsimp only) | refine SW.nil ?_ | refine thenQ_normal ?_ | refine W.skip ?_ | refine W.exit ?_ | refine thenQ_exit ?_ | refine inBlockQ_exit ?_ | refine inBlockQ_normal ?_ | refine W.block ?_
    | (apply SW.toC; refine SWcall.go (And.intro e1 (And.intro e2 e3)) ?_) | (apply SW.toOp; refine SWop.go (And.intro e1 (And.intro e2 e3)) ?_) | (apply SW.toCG; first | refine SWcall.yes (And.intro e1 (And.intro e2 e3)) ?_ | refine SWcall.no (And.intro e1 (And.intro e2 e3)) ?_) | (apply SW.toG; first | refine SWop.yes (And.intro e1 (And.intro e2 e3)) ?_ | refine SWop.no (And.intro e1 (And.intro e2 e3)) ?_)
  refine W.ret ?_
  repeat' first
    | refine thenQ_ret ?_
    | refine inBlockQ_ret ?_
  refine fin1Z (And.intro e1 (And.intro e2 e3)) ?_
  rw [hb, show ((bl y.toNat + n : Nat) : Int) = (n : Int) + (bl y.toNat : Int) from by omega]
  exact leV_refl
end Go.Vm.C01

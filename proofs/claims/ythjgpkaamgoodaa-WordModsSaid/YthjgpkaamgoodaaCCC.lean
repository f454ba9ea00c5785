/- What some functions of the program compute, walked through once. -/
import Derived.Test.YthjgpkaamgoodaaCCB
namespace Go.Vm.C01
open Go Go.Proofs
set_option linter.unusedVariables false
set_option linter.unusedSimpArgs false
set_option maxRecDepth 100000
set_option maxHeartbeats 8000000

/-! ### doubling -/
theorem wv_exp (a : List (BitVec 64)) : wv a = (a.getD 0 0).toNat + B64 * (a.getD 1 0).toNat + B64 * B64 * (a.getD 2 0).toNat + B64 * B64 * B64 * (a.getD 3 0).toNat := by
  have e : wv a = 0 + B64 ^ 0 * (a.getD 0 0).toNat + B64 ^ 1 * (a.getD 1 0).toNat + B64 ^ 2 * (a.getD 2 0).toNat + B64 ^ 3 * (a.getD 3 0).toNat := rfl
  rw [e]
  simp only [Nat.pow_zero, Nat.pow_one, Nat.pow_succ, Nat.one_mul, Nat.zero_add]
theorem two_bv {x c : BitVec 64} (hc : c.toNat ≤ 1) : (x <<< 1 ||| c).toNat = 2 * x.toNat % 18446744073709551616 + c.toNat := by
  have hx := x.isLt
  have e : (x <<< 1).toNat = (x.toNat % 2 ^ 63) <<< 1 := by
    rw [BitVec.toNat_shiftLeft, Nat.shiftLeft_eq, Nat.shiftLeft_eq]
    omega
  rw [BitVec.toNat_or, e, ← Nat.shiftLeft_add_eq_or_of_lt (by omega), Nat.shiftLeft_eq]
  omega
theorem top63 (x : BitVec 64) : (x >>> 63).toNat = x.toNat / 9223372036854775808 ∧ (x >>> 63).toNat ≤ 1 := by
  have hx := x.isLt
  have e : (x >>> 63).toNat = x.toNat / 9223372036854775808 := by rw [BitVec.toNat_ushiftRight, Nat.shiftRight_eq_div_pow]
  refine ⟨e, ?_⟩
  rw [e]
  omega
theorem dbl_eq {a : List (BitVec 64)} {b : BitVec 64} (hb : b.toNat ≤ 1) : [a.getD 0 0 <<< 1 ||| b, a.getD 1 0 <<< 1 ||| a.getD 0 0 >>> 63, a.getD 2 0 <<< 1 ||| a.getD 1 0 >>> 63, a.getD 3 0 <<< 1 ||| a.getD 2 0 >>> 63] = wOf (2 * wv a + b.toNat) ∧ a.getD 3 0 >>> 63 = BitVec.ofNat 64 ((2 * wv a + b.toNat) / B256) := by
  obtain ⟨t0, u0⟩ := top63 (a.getD 0 0)
  obtain ⟨t1, u1⟩ := top63 (a.getD 1 0)
  obtain ⟨t2, u2⟩ := top63 (a.getD 2 0)
  obtain ⟨t3, u3⟩ := top63 (a.getD 3 0)
  have h0 := (a.getD 0 0).isLt
  have h1 := (a.getD 1 0).isLt
  have h2 := (a.getD 2 0).isLt
  have h3 := (a.getD 3 0).isLt
  have e := wv_exp a
  constructor
  · refine eq_wOf rfl ?_
    rw [wv_exp]
    show ((a.getD 0 0 <<< 1 ||| b).toNat + B64 * (a.getD 1 0 <<< 1 ||| a.getD 0 0 >>> 63).toNat + B64 * B64 * (a.getD 2 0 <<< 1 ||| a.getD 1 0 >>> 63).toNat + B64 * B64 * B64 * (a.getD 3 0 <<< 1 ||| a.getD 2 0 >>> 63).toNat) % B256 = _
    rw [two_bv hb, two_bv u0, two_bv u1, two_bv u2, t0, t1, t2, e]
    clear e t0 t1 t2 t3 u0 u1 u2 u3
    generalize (a.getD 0 0).toNat = x0 at *
    generalize (a.getD 1 0).toNat = x1 at *
    generalize (a.getD 2 0).toNat = x2 at *
    generalize (a.getD 3 0).toNat = x3 at *
    simp only [B64, B256, Nat.reducePow, Nat.reduceMul] at *
    omega
  · refine BitVec.eq_of_toNat_eq ?_
    rw [BitVec.toNat_ofNat, t3, e]
    clear e t0 t1 t2 t3 u0 u1 u2 u3
    generalize (a.getD 0 0).toNat = x0 at *
    generalize (a.getD 1 0).toNat = x1 at *
    generalize (a.getD 2 0).toNat = x2 at *
    generalize (a.getD 3 0).toNat = x3 at *
    simp only [B64, B256, Nat.reducePow, Nat.reduceMul] at *
    omega
noncomputable def dblS : FSpec := { run := fun ins => match ins with
  | [.agg 4 (.u 64 a), .u 64 b] => chk (a.length = 4 ∧ b.toNat ≤ 1) (some (.tup [.agg 4 (.u 64 (wOf (2 * wv a + b.toNat))), .u 64 (BitVec.ofNat 64 ((2 * wv a + b.toNat) / B256))], []))
  | _ => none }
theorem dbl_sound : SoundFn Try.prog glB 91 dblS.run := by
  have G := good_of (P := Try.prog) glB_ro (l := []) (by simp)
  refine soundFn_of_W G Try.func91 (by decide) rfl (by decide) ?_
  intro ins ret outs h
  unfold dblS at h
  dsimp only at h
  split at h
  rotate_left
  · cases h
  rename_i a b
  obtain ⟨hl, h'⟩ := chk_some h
  clear h
  cases h'
  obtain ⟨la, hb⟩ := hl
  refine ⟨by show 2 ≤ 35; decide, fun w0 ext av => ?_⟩
  rw [Try.ntmps91, st0_eq]
  obtain ⟨q1, q2⟩ := dbl_eq (a := a) hb
  rw [← q1, ← q2]
  repeat' first
    | refine W.seq ?_ | (refine W.regS G ?_; dsimp only) | refine SW.nil ?_ | refine thenQ_normal ?_ | refine W.skip ?_ | refine W.exit ?_ | refine thenQ_exit ?_ | refine inBlockQ_exit ?_ | refine inBlockQ_normal ?_ | refine W.block ?_
    | (apply SW.toC; refine SWcall.go True.intro ?_) | (apply SW.toOp; refine SWop.go True.intro ?_) | (apply SW.toCG; first | refine SWcall.yes True.intro ?_ | refine SWcall.no True.intro ?_) | (apply SW.toG; first | refine SWop.yes True.intro ?_ | refine SWop.no True.intro ?_)
  refine W.loopI (ι := {p : Nat × List (BitVec 64) // p.1 ≤ 3 ∧ p.2.length = 4 ∧ ∀ j, j < 4 → p.2.getD j 0 = if p.1 < j then (a.getD j 0 <<< 1 ||| a.getD (j - 1) 0 >>> 63) else a.getD j 0}) (fun p => sL [(2, .p 2 0 0 0), (4, .p 4 0 0 0), (1, .u 64 b), (6, .u 64 (a.getD 3 0 >>> 63)), (7, .i (p.1.1 : Int))] [(2, .agg 4 (.u 64 p.1.2)), (4, .agg 4 (.u 64 (zeros 64 4)))] 35) (fun p => p.1.1) ⟨(3, a), by show 3 ≤ 3; omega, la, fun j hj => by rw [if_neg (by dsimp only; omega)]⟩ (Imp.le ?_) ?_
  · exact sL_leZ True.intro
  rintro ⟨⟨i, l⟩, hi, ll, hI⟩
  dsimp only at hi ll hI
  repeat' first
    | refine W.seq ?_ | (refine W.regS G ?_; dsimp only) | refine SW.nil ?_ | refine thenQ_normal ?_ | refine W.skip ?_ | refine W.exit ?_ | refine thenQ_exit ?_ | refine inBlockQ_exit ?_ | refine inBlockQ_normal ?_ | refine W.block ?_
    | (apply SW.toC; refine SWcall.go ll ?_) | (apply SW.toOp; refine SWop.go ll ?_) | (apply SW.toCG; first | refine SWcall.yes ll ?_ | refine SWcall.no ll ?_) | (apply SW.toG; first | refine SWop.yes ll ?_ | refine SWop.no ll ?_)
  refine W.condZ G ll ?_ ?_
  all_goals intro ht
  · have ht' := of_decide_eq_true ht
    obtain ⟨j, rfl⟩ : ∃ j, i = j + 1 := ⟨i - 1, by omega⟩
    have e1 : ((j + 1 : Nat) : Int) - 1 = ((j : Nat) : Int) := by omega
    have g1 := hI (j + 1) (by omega)
    have g0 := hI j (by omega)
    rw [if_neg (by omega)] at g1 g0
    have hn : ∀ k, k < 4 → (l.set (j + 1) (a.getD (j + 1) 0 <<< 1 ||| a.getD j 0 >>> 63)).getD k 0 = if j < k then (a.getD k 0 <<< 1 ||| a.getD (k - 1) 0 >>> 63) else a.getD k 0 := by
      intro k hk
      by_cases hkj : k = j + 1
      · subst hkj
        rw [getD_set_self (by omega), if_pos (by omega), Nat.add_sub_cancel]
      · have := hI k hk
        rw [show (l.set (j + 1) (a.getD (j + 1) 0 <<< 1 ||| a.getD j 0 >>> 63)).getD k 0 = l.getD k 0 from by simp [List.getD_eq_getElem?_getD, List.getElem?_set, Ne.symm hkj], this]
        by_cases h2 : j + 1 < k
        · rw [if_pos h2, if_pos (by omega)]
        · rw [if_neg h2, if_neg (by omega)]
    repeat' first
      | refine W.seq ?_ | (refine W.regS G ?_; dsimp only) | refine SW.nil ?_ | refine thenQ_normal ?_ | refine W.skip ?_ | refine W.exit ?_ | refine thenQ_exit ?_ | refine inBlockQ_exit ?_ | refine inBlockQ_normal ?_
      | (apply SW.toC; refine SWcall.go (And.intro ll (And.intro e1 (And.intro g1 g0))) ?_) | (apply SW.toOp; refine SWop.go (And.intro ll (And.intro e1 (And.intro g1 g0))) ?_) | (apply SW.toCG; first | refine SWcall.yes (And.intro ll (And.intro e1 (And.intro g1 g0))) ?_ | refine SWcall.no (And.intro ll (And.intro e1 (And.intro g1 g0))) ?_) | (apply SW.toG; first | refine SWop.yes (And.intro ll (And.intro e1 (And.intro g1 g0))) ?_ | refine SWop.no (And.intro ll (And.intro e1 (And.intro g1 g0))) ?_)
    refine W.block ?_
    repeat' first
      | refine W.seq ?_ | (refine W.regS G ?_; dsimp only) | refine SW.nil ?_ | refine thenQ_normal ?_ | refine W.skip ?_ | refine W.exit ?_ | refine thenQ_exit ?_ | refine inBlockQ_exit ?_ | refine inBlockQ_normal ?_
      | (apply SW.toC; refine SWcall.go (And.intro ll (And.intro e1 (And.intro g1 g0))) ?_) | (apply SW.toOp; refine SWop.go (And.intro ll (And.intro e1 (And.intro g1 g0))) ?_) | (apply SW.toCG; first | refine SWcall.yes (And.intro ll (And.intro e1 (And.intro g1 g0))) ?_ | refine SWcall.no (And.intro ll (And.intro e1 (And.intro g1 g0))) ?_) | (apply SW.toG; first | refine SWop.yes (And.intro ll (And.intro e1 (And.intro g1 g0))) ?_ | refine SWop.no (And.intro ll (And.intro e1 (And.intro g1 g0))) ?_)
    refine W.drawS G [[], [], [1], [2, 1], [3, 2, 1], [], [5], [6, 5], [7, 6, 5], [8, 7, 6, 5], [4, 3, 2, 1, 9, 8, 7, 6, 5], [0, 1, 2, 3, 4, 5, 6, 7, 8, 9, 10], [11, 0, 1, 2, 3, 4, 5, 6, 7, 8, 9, 10]] hmix ?_
    dsimp only
    repeat' first
      | (apply DW.nil; (focus (decide +kernel)))
      | (apply DW.toC; refine DWcall.go (And.intro ll (And.intro e1 (And.intro g1 g0))) ?_) | (apply DW.toOp; refine DWop.go (And.intro ll (And.intro e1 (And.intro g1 g0))) ?_) | (apply DW.toCG; first | refine DWcall.yes (And.intro ll (And.intro e1 (And.intro g1 g0))) ?_ | refine DWcall.no (And.intro ll (And.intro e1 (And.intro g1 g0))) ?_) | (apply DW.toG; first | refine DWop.yes (And.intro ll (And.intro e1 (And.intro g1 g0))) ?_ | refine DWop.no (And.intro ll (And.intro e1 (And.intro g1 g0))) ?_)
    repeat' first
      | refine W.seq ?_ | (refine W.regS G ?_; dsimp only) | refine SW.nil ?_ | refine thenQ_normal ?_ | refine W.skip ?_ | refine W.exit ?_ | refine thenQ_exit ?_ | refine inBlockQ_exit ?_ | refine inBlockQ_normal ?_ | refine W.block ?_
      | (apply SW.toC; refine SWcall.go (And.intro ll (And.intro e1 (And.intro g1 g0))) ?_) | (apply SW.toOp; refine SWop.go (And.intro ll (And.intro e1 (And.intro g1 g0))) ?_) | (apply SW.toCG; first | refine SWcall.yes (And.intro ll (And.intro e1 (And.intro g1 g0))) ?_ | refine SWcall.no (And.intro ll (And.intro e1 (And.intro g1 g0))) ?_) | (apply SW.toG; first | refine SWop.yes (And.intro ll (And.intro e1 (And.intro g1 g0))) ?_ | refine SWop.no (And.intro ll (And.intro e1 (And.intro g1 g0))) ?_)
    refine ⟨⟨(j, _), by dsimp only; omega, ?_, hn⟩, Imp.le ?_, by show j < j + 1; omega⟩
    · dsimp only; rw [List.length_set]; exact ll
    exact sL_leZ (And.intro ll (And.intro e1 (And.intro g1 g0)))
  have ht' := of_decide_eq_false ht
  obtain rfl : i = 0 := by omega
  have hl : l.set 0 (l.getD 0 0 <<< 1 ||| b) = [a.getD 0 0 <<< 1 ||| b, a.getD 1 0 <<< 1 ||| a.getD 0 0 >>> 63, a.getD 2 0 <<< 1 ||| a.getD 1 0 >>> 63, a.getD 3 0 <<< 1 ||| a.getD 2 0 >>> 63] := by
    obtain ⟨x, y, z, t, rfl⟩ := len4 l ll
    have h0 := hI 0 (by omega)
    have h1 := hI 1 (by omega)
    have h2 := hI 2 (by omega)
    have h3 := hI 3 (by omega)
    rw [if_neg (by omega)] at h0
    rw [if_pos (by omega)] at h1 h2 h3
    show [x <<< 1 ||| b, y, z, t] = _
    have e0 : x = a.getD 0 0 := h0
    have e1 : y = a.getD 1 0 <<< 1 ||| a.getD 0 0 >>> 63 := h1
    have e2 : z = a.getD 2 0 <<< 1 ||| a.getD 1 0 >>> 63 := h2
    have e3 : t = a.getD 3 0 <<< 1 ||| a.getD 2 0 >>> 63 := h3
    rw [e0, e1, e2, e3]
  rw [← hl]
  repeat' first
    | refine W.seq ?_ | (refine W.regS G ?_; dsimp only) | refine SW.nil ?_ | refine thenQ_normal ?_ | refine W.skip ?_ | refine W.exit ?_ | refine thenQ_exit ?_ | refine inBlockQ_exit ?_ | refine inBlockQ_normal ?_ | refine W.block ?_
    | (apply SW.toC; refine SWcall.go ll ?_) | (apply SW.toOp; refine SWop.go ll ?_) | (apply SW.toCG; first | refine SWcall.yes ll ?_ | refine SWcall.no ll ?_) | (apply SW.toG; first | refine SWop.yes ll ?_ | refine SWop.no ll ?_)
  refine W.ret ?_
  repeat' first
    | refine thenQ_ret ?_
    | refine inBlockQ_ret ?_
  refine fin2Z ll ?_ ?_
  · exact leV_refl
  · exact leV_refl
end Go.Vm.C01

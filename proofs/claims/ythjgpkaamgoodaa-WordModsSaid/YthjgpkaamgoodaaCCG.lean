/- What some functions of the program compute, walked through once. -/
import Derived.Test.YthjgpkaamgoodaaCCF
namespace Go.Vm.C01
open Go Go.Proofs
set_option linter.unusedVariables false
set_option linter.unusedSimpArgs false
set_option maxRecDepth 100000
set_option maxHeartbeats 8000000

/-! ### digits of a number -/
def dOf (n v : Nat) : List (BitVec 64) := (List.range n).map (fun k => BitVec.ofNat 64 (v / 65536 ^ k % 65536))
theorem dOf_len (n v : Nat) : (dOf n v).length = n := by simp [dOf]
theorem dOf_at {n v k : Nat} (h : k < n) : (dOf n v).getD k 0 = BitVec.ofNat 64 (v / 65536 ^ k % 65536) := by
  unfold dOf
  simp [List.getD_eq_getElem?_getD, h]
theorem dOf_num {n v k : Nat} (h : k < n) : ((dOf n v).getD k 0).toNat = v / 65536 ^ k % 65536 := by
  rw [dOf_at h, BitVec.toNat_ofNat]
  omega
theorem dOf_ok (n v : Nat) : okD (dOf n v) := by
  intro i
  by_cases h : i < n
  · rw [dOf_num h]; omega
  · rw [getD_off _ _ _ (by rw [dOf_len]; omega)]; decide
theorem dOf_val (n v : Nat) : ∀ k, k ≤ n → dvk (dOf n v) k = v % 65536 ^ k
  | 0, _ => by rw [Nat.pow_zero, Nat.mod_one]; rfl
  | k + 1, h => by
    have e1 : dvk (dOf n v) (k + 1) = dvk (dOf n v) k + 65536 ^ k * ((dOf n v).getD k 0).toNat := rfl
    rw [e1, dOf_val n v k (by omega), dOf_num (by omega)]
    exact Nat.mod_pow_succ.symm
theorem dvk_inj {l m : List (BitVec 64)} (h1 : okD l) (h2 : okD m) : ∀ k, dvk l k = dvk m k → ∀ j, j < k → l.getD j 0 = m.getD j 0
  | 0, _, j, hj => absurd hj (by omega)
  | k + 1, h, j, hj => by
    have g1 := dvk_lt h1 k
    have g2 := dvk_lt h2 k
    have e1 : dvk l (k + 1) = dvk l k + 65536 ^ k * (l.getD k 0).toNat := rfl
    have e2 : dvk m (k + 1) = dvk m k + 65536 ^ k * (m.getD k 0).toNat := rfl
    rw [e1, e2] at h
    have hp : 0 < 65536 ^ k := Nat.pow_pos (by decide)
    have hm : dvk l k = dvk m k := by
      have : (dvk l k + 65536 ^ k * (l.getD k 0).toNat) % 65536 ^ k = (dvk m k + 65536 ^ k * (m.getD k 0).toNat) % 65536 ^ k := by rw [h]
      rw [Nat.add_mul_mod_self_left, Nat.add_mul_mod_self_left, Nat.mod_eq_of_lt g1, Nat.mod_eq_of_lt g2] at this
      exact this
    by_cases hjk : j < k
    · exact dvk_inj h1 h2 k hm j hjk
    · have : j = k := by omega
      subst this
      rw [hm] at h
      have h3 := Nat.add_left_cancel h
      exact BitVec.eq_of_toNat_eq (Nat.eq_of_mul_eq_mul_left hp h3)
theorem eq_dOf {l : List (BitVec 64)} {n v : Nat} (hl : l.length = n) (ho : okD l) (h : dvk l n = v) : l = dOf n v := by
  refine list_ext64 hl (dOf_len n v) (dvk_inj ho (dOf_ok n v) n ?_)
  rw [dOf_val n v n (Nat.le_refl _), ← h]
  exact (Nat.mod_eq_of_lt (dvk_lt ho n)).symm
theorem dvk_le {l : List (BitVec 64)} (k : Nat) : ∀ d, dvk l k ≤ dvk l (k + d)
  | 0 => Nat.le_refl _
  | d + 1 => Nat.le_trans (dvk_le k d) (Nat.le_add_right _ _)
theorem dvk_le' {l : List (BitVec 64)} (k : Nat) : dvk l k ≤ dvk l l.length := by
  by_cases h : l.length ≤ k
  · rw [dvk_ge l h]
    exact Nat.le_refl _
  · have := dvk_le (l := l) k (l.length - k)
    rw [show k + (l.length - k) = l.length from by omega] at this
    exact this
noncomputable def minusS : FSpec := { run := fun ins => match ins with
  | [.sl false (.u 64 a), .sl false (.u 64 b)] => chk (okD a ∧ okD b ∧ dvk b b.length ≤ dvk a a.length ∧ a.length ≤ 1000 ∧ b.length ≤ 1000) (some (.sl true (.u 64 (dOf a.length (dvk a a.length - dvk b b.length))), []))
  | _ => none }
theorem dvk_part {l : List (BitVec 64)} (ho : okD l) (k : Nat) : ∀ d, dvk l (k + d) % 65536 ^ k = dvk l k
  | 0 => Nat.mod_eq_of_lt (dvk_lt ho k)
  | d + 1 => by
    have e : dvk l (k + (d + 1)) = dvk l (k + d) + 65536 ^ (k + d) * (l.getD (k + d) 0).toNat := rfl
    rw [e, Nat.pow_add, Nat.mul_assoc, Nat.add_mul_mod_self_left]
    exact dvk_part ho k d
theorem dvk_short {l : List (BitVec 64)} (ho : okD l) {k : Nat} (h : dvk l l.length < 65536 ^ k) : dvk l k = dvk l l.length := by
  by_cases hk : l.length ≤ k
  · exact dvk_ge l hk
  · have := dvk_part ho k (l.length - k)
    rw [show k + (l.length - k) = l.length from by omega, Nat.mod_eq_of_lt h] at this
    exact this.symm
theorem minus_sound : SoundFn Try.prog glB 92 minusS.run := by
  have G := good_of (P := Try.prog) glB_ro (l := []) (by simp)
  refine soundFn_of_W G Try.func92 (by decide) rfl (by decide) ?_
  intro ins ret outs h
  unfold minusS at h
  dsimp only at h
  split at h
  rotate_left
  · cases h
  rename_i a b
  obtain ⟨hl, h'⟩ := chk_some h
  clear h
  cases h'
  obtain ⟨oa, ob, hle, la, lb⟩ := hl
  refine ⟨by show 2 ≤ 44; decide, fun w0 ext av => ?_⟩
  rw [Try.ntmps92, st0_eq]
  repeat' first
    | refine W.seq ?_ | (refine W.regS G ?_; dsimp only) | refine SW.nil ?_ | refine thenQ_normal ?_ | refine W.skip ?_ | refine W.exit ?_ | refine thenQ_exit ?_ | refine inBlockQ_exit ?_ | refine inBlockQ_normal ?_ | refine W.block ?_
    | (apply SW.toC; refine SWcall.go True.intro ?_) | (apply SW.toOp; refine SWop.go True.intro ?_) | (apply SW.toCG; first | refine SWcall.yes True.intro ?_ | refine SWcall.no True.intro ?_) | (apply SW.toG; first | refine SWop.yes True.intro ?_ | refine SWop.no True.intro ?_)
  refine W.loopI (ι := {p : Nat × List (BitVec 64) × BitVec 64 // p.1 ≤ a.length ∧ p.2.1.length = p.1 ∧ okD p.2.1 ∧ p.2.2.toNat ≤ 1 ∧ dvk p.2.1 p.1 + dvk b p.1 = dvk a p.1 + 65536 ^ p.1 * p.2.2.toNat}) (fun p => sL [(0, .sl false (.u 64 a)), (1, .sl false (.u 64 b)), (5, .gr 10 p.1.1), (6, .u 64 p.1.2.2), (7, .i (p.1.1 : Int))] [(10, .row (.u 64 p.1.2.1))] 44) (fun p => a.length - p.1.1) ⟨(0, [], 0#64), Nat.zero_le _, rfl, okD_nil, by decide, rfl⟩ (Imp.le ?_) ?_
  · exact sL_leZ True.intro
  rintro ⟨⟨i, out, c⟩, hi, lo, oo, hc1, hI⟩
  dsimp only at hi lo oo hc1 hI
  repeat' first
    | refine W.seq ?_ | (refine W.regS G ?_; dsimp only) | refine SW.nil ?_ | refine thenQ_normal ?_ | refine W.skip ?_ | refine W.exit ?_ | refine thenQ_exit ?_ | refine inBlockQ_exit ?_ | refine inBlockQ_normal ?_ | refine W.block ?_
    | (apply SW.toC; refine SWcall.go lo ?_) | (apply SW.toOp; refine SWop.go lo ?_) | (apply SW.toCG; first | refine SWcall.yes lo ?_ | refine SWcall.no lo ?_) | (apply SW.toG; first | refine SWop.yes lo ?_ | refine SWop.no lo ?_)
  refine W.condZ G lo ?_ ?_
  all_goals intro ht
  · have ht' := of_decide_eq_true ht
    have hi2 : i < a.length := by omega
    have xa := oa i
    have xb := ob i
    repeat' first
      | refine W.seq ?_ | (refine W.regS G ?_; dsimp only) | refine SW.nil ?_ | refine thenQ_normal ?_ | refine W.skip ?_ | refine W.exit ?_ | refine thenQ_exit ?_ | refine inBlockQ_exit ?_ | refine inBlockQ_normal ?_
      | (apply SW.toC; refine SWcall.go lo ?_) | (apply SW.toOp; refine SWop.go lo ?_) | (apply SW.toCG; first | refine SWcall.yes lo ?_ | refine SWcall.no lo ?_) | (apply SW.toG; first | refine SWop.yes lo ?_ | refine SWop.no lo ?_)
    refine W.block ?_
    repeat' first
      | refine W.seq ?_ | (refine W.regS G ?_; dsimp only) | refine SW.nil ?_ | refine thenQ_normal ?_ | refine W.skip ?_ | refine W.exit ?_ | refine thenQ_exit ?_ | refine inBlockQ_exit ?_ | refine inBlockQ_normal ?_
      | (apply SW.toC; refine SWcall.go lo ?_) | (apply SW.toOp; refine SWop.go lo ?_) | (apply SW.toCG; first | refine SWcall.yes lo ?_ | refine SWcall.no lo ?_) | (apply SW.toG; first | refine SWop.yes lo ?_ | refine SWop.no lo ?_)
    refine W.mid (sL [(0, .sl false (.u 64 a)), (1, .sl false (.u 64 b)), (5, .gr 10 i), (6, .u 64 c), (7, .i (i : Int)), (8, .u 64 (c + b.getD i 0))] [(10, .row (.u 64 out))] 44) ?_ ?_
    · refine W.condZ G lo ?_ ?_
      all_goals intro hb
      · have hb' := of_decide_eq_true hb
        repeat' first
          | refine W.seq ?_ | (refine W.regS G ?_; dsimp only) | refine SW.nil ?_ | refine thenQ_normal ?_ | refine W.skip ?_ | refine W.exit ?_ | refine thenQ_exit ?_ | refine inBlockQ_exit ?_ | refine inBlockQ_normal ?_ | refine W.block ?_
          | (apply SW.toC; refine SWcall.go lo ?_) | (apply SW.toOp; refine SWop.go lo ?_) | (apply SW.toCG; first | refine SWcall.yes lo ?_ | refine SWcall.no lo ?_) | (apply SW.toG; first | refine SWop.yes lo ?_ | refine SWop.no lo ?_)
        refine Imp.le ?_
        exact sL_leZ lo
      · have hb' := of_decide_eq_false hb
        have e6 : c + b.getD i 0 = c := by rw [getD_off _ _ _ (by omega)]; simp
        repeat' first
          | refine W.seq ?_ | (refine W.regS G ?_; dsimp only) | refine SW.nil ?_ | refine thenQ_normal ?_ | refine W.skip ?_ | refine W.exit ?_ | refine thenQ_exit ?_ | refine inBlockQ_exit ?_ | refine inBlockQ_normal ?_ | refine W.block ?_
          | (apply SW.toC; refine SWcall.go lo ?_) | (apply SW.toOp; refine SWop.go lo ?_) | (apply SW.toCG; first | refine SWcall.yes lo ?_ | refine SWcall.no lo ?_) | (apply SW.toG; first | refine SWop.yes lo ?_ | refine SWop.no lo ?_)
        refine Imp.le ?_
        exact sL_leZ (And.intro e6 lo)
    have vy : (c + b.getD i 0).toNat = c.toNat + (b.getD i 0).toNat := by
      rw [BitVec.toNat_add]
      omega
    have sa : dvk a (i + 1) = dvk a i + 65536 ^ i * (a.getD i 0).toNat := rfl
    have sb : dvk b (i + 1) = dvk b i + 65536 ^ i * (b.getD i 0).toNat := rfl
    generalize c + b.getD i 0 = y at vy ⊢
    generalize hxx : a.getD i 0 = x at *
    have so := fun z => dvk_snoc out z
    rw [lo] at so
    repeat' first
      | refine W.seq ?_ | (refine W.regS G ?_; dsimp only) | refine SW.nil ?_ | refine thenQ_normal ?_ | refine W.skip ?_ | refine W.exit ?_ | refine thenQ_exit ?_ | refine inBlockQ_exit ?_ | refine inBlockQ_normal ?_
      | (apply SW.toC; refine SWcall.go (And.intro lo hxx) ?_) | (apply SW.toOp; refine SWop.go (And.intro lo hxx) ?_) | (apply SW.toCG; first | refine SWcall.yes (And.intro lo hxx) ?_ | refine SWcall.no (And.intro lo hxx) ?_) | (apply SW.toG; first | refine SWop.yes (And.intro lo hxx) ?_ | refine SWop.no (And.intro lo hxx) ?_)
    refine W.condZ G (And.intro lo hxx) ?_ ?_
    all_goals intro hcc
    · have hlt : x.toNat < y.toNat := yes_of hcc
      have vz : (x + 65536#64 - y).toNat = x.toNat + 65536 - y.toNat := by
        rw [BitVec.toNat_sub, BitVec.toNat_add]
        show (2 ^ 64 - y.toNat + (x.toNat + 65536) % 2 ^ 64) % 2 ^ 64 = _
        omega
      have hI2 : dvk (out ++ [x + 65536#64 - y]) (i + 1) + dvk b (i + 1) = dvk a (i + 1) + 65536 ^ (i + 1) * (1#64).toNat := by
        rw [so, sa, sb, vz, Nat.pow_succ, show (1#64).toNat = 1 from rfl, Nat.mul_one]
        have e : 65536 ^ i * (x.toNat + 65536 - y.toNat) + 65536 ^ i * y.toNat = 65536 ^ i * x.toNat + 65536 ^ i * 65536 := by
          rw [← Nat.mul_add, ← Nat.mul_add]
          congr 1
          omega
        rw [vy, Nat.mul_add] at e
        rw [vy]
        omega
      repeat' first
        | refine W.seq ?_ | (refine W.regS G ?_; dsimp only) | refine SW.nil ?_ | refine thenQ_normal ?_ | refine W.skip ?_ | refine W.exit ?_ | refine thenQ_exit ?_ | refine inBlockQ_exit ?_ | refine inBlockQ_normal ?_ | refine W.block ?_
        | (apply SW.toC; refine SWcall.go (And.intro lo hxx) ?_) | (apply SW.toOp; refine SWop.go (And.intro lo hxx) ?_) | (apply SW.toCG; first | refine SWcall.yes (And.intro lo hxx) ?_ | refine SWcall.no (And.intro lo hxx) ?_) | (apply SW.toG; first | refine SWop.yes (And.intro lo hxx) ?_ | refine SWop.no (And.intro lo hxx) ?_)
      refine ⟨⟨(i + 1, _, _), by dsimp only; omega, by dsimp only; rw [List.length_append, lo]; rfl, okD_snoc oo (by rw [vz]; omega), (by decide : (1#64).toNat ≤ 1), hI2⟩, Imp.le ?_, by show a.length - (i + 1) < a.length - i; omega⟩
      exact sL_leZ (And.intro lo hxx)
    · have hlt : ¬ x.toNat < y.toNat := no_of hcc
      have vz : (x - y).toNat = x.toNat - y.toNat := by
        rw [BitVec.toNat_sub]
        omega
      have hI2 : dvk (out ++ [x - y]) (i + 1) + dvk b (i + 1) = dvk a (i + 1) + 65536 ^ (i + 1) * (0#64).toNat := by
        rw [so, sa, sb, vz, show (0#64).toNat = 0 from rfl, Nat.mul_zero]
        have e : 65536 ^ i * (x.toNat - y.toNat) + 65536 ^ i * y.toNat = 65536 ^ i * x.toNat := by
          rw [← Nat.mul_add]
          congr 1
          omega
        rw [vy, Nat.mul_add] at e
        rw [vy]
        omega
      repeat' first
        | refine W.seq ?_ | (refine W.regS G ?_; dsimp only) | refine SW.nil ?_ | refine thenQ_normal ?_ | refine W.skip ?_ | refine W.exit ?_ | refine thenQ_exit ?_ | refine inBlockQ_exit ?_ | refine inBlockQ_normal ?_ | refine W.block ?_
        | (apply SW.toC; refine SWcall.go (And.intro lo hxx) ?_) | (apply SW.toOp; refine SWop.go (And.intro lo hxx) ?_) | (apply SW.toCG; first | refine SWcall.yes (And.intro lo hxx) ?_ | refine SWcall.no (And.intro lo hxx) ?_) | (apply SW.toG; first | refine SWop.yes (And.intro lo hxx) ?_ | refine SWop.no (And.intro lo hxx) ?_)
      refine ⟨⟨(i + 1, _, _), by dsimp only; omega, by dsimp only; rw [List.length_append, lo]; rfl, okD_snoc oo (by rw [vz]; omega), (by decide : (0#64).toNat ≤ 1), hI2⟩, Imp.le ?_, by show a.length - (i + 1) < a.length - i; omega⟩
      exact sL_leZ (And.intro lo hxx)
  have ht' := of_decide_eq_false ht
  obtain rfl : i = a.length := by omega
  have hf : out = dOf a.length (dvk a a.length - dvk b b.length) := by
    refine eq_dOf lo oo ?_
    have h1 := dvk_lt oo a.length
    have h2 := dvk_short ob (Nat.lt_of_le_of_lt hle (dvk_lt oa a.length))
    rw [h2] at hI
    have h3 : c.toNat = 0 := by
      by_cases h4 : c.toNat = 0
      · exact h4
      · have h5 : c.toNat = 1 := by omega
        rw [h5, Nat.mul_one] at hI
        omega
    rw [h3, Nat.mul_zero] at hI
    omega
  rw [← hf]
  repeat' first
    | refine W.seq ?_ | (refine W.regS G ?_; dsimp only) | refine SW.nil ?_ | refine thenQ_normal ?_ | refine W.skip ?_ | refine W.exit ?_ | refine thenQ_exit ?_ | refine inBlockQ_exit ?_ | refine inBlockQ_normal ?_ | refine W.block ?_
    | (apply SW.toC; refine SWcall.go lo ?_) | (apply SW.toOp; refine SWop.go lo ?_) | (apply SW.toCG; first | refine SWcall.yes lo ?_ | refine SWcall.no lo ?_) | (apply SW.toG; first | refine SWop.yes lo ?_ | refine SWop.no lo ?_)
  refine W.ret ?_
  repeat' first
    | refine thenQ_ret ?_
    | refine inBlockQ_ret ?_
  refine fin1Z (And.intro lo lo) ?_
  exact leV_refl
end Go.Vm.C01

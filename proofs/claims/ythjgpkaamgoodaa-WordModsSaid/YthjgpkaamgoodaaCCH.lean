/- What some functions of the program compute, walked through once. -/
import Derived.Test.YthjgpkaamgoodaaCCG
namespace Go.Vm.C01
open Go Go.Proofs
set_option linter.unusedVariables false
set_option linter.unusedSimpArgs false
set_option maxRecDepth 100000
set_option maxHeartbeats 8000000

/-! ### the document's quotient -/
theorem dOf_mod (n v : Nat) : dOf n (v % 65536 ^ n) = dOf n v := by
  refine (eq_dOf (dOf_len n v) (dOf_ok n v) (dOf_val n v n (Nat.le_refl _))).symm
theorem dOf_val' {n v : Nat} (h : v < 65536 ^ n) : dvk (dOf n v) n = v := by
  rw [dOf_val n v n (Nat.le_refl _), Nat.mod_eq_of_lt h]
theorem dOf_zero (n : Nat) : zeros 64 n = dOf n 0 := eq_dOf (by simp [zeros]) (okD_zeros n) (dvk_zeros n n)
theorem one_shl {j : Nat} (hj : j < 16) : (1#64 <<< j).toNat = 2 ^ j := by
  rw [BitVec.toNat_shiftLeft, Nat.shiftLeft_eq, show (1#64).toNat = 1 from rfl, Nat.one_mul]
  exact Nat.mod_eq_of_lt (Nat.pow_lt_pow_right (by decide) (by omega))
theorem pow16 {j : Nat} (hj : j < 16) : 2 ^ j < 65536 := by
  have h : 2 ^ j < 2 ^ 16 := Nat.pow_lt_pow_right (by decide) hj
  exact h
theorem dOf_or {n i v j : Nat} (hi : i < n) (hj : j < 16) (hb : v / 65536 ^ i % 65536 / 2 ^ j % 2 = 0) : (dOf n v).set i ((dOf n v).getD i 0 ||| 1#64 <<< j) = dOf n (v + 2 ^ j * 65536 ^ i) := by
  have hd := dOf_num (v := v) hi
  have h1 : ((dOf n v).getD i 0 ||| 1#64 <<< j).toNat = v / 65536 ^ i % 65536 + 2 ^ j := by
    rw [BitVec.toNat_or, one_shl hj, hd, or_bit hb]
  have h2 : v / 65536 ^ i % 65536 + 2 ^ j < 65536 := by
    rw [← or_bit hb]
    exact Nat.or_lt_two_pow (n := 16) (Nat.mod_lt _ (by decide)) (pow16 hj)
  have h3 := dvk_set (l := dOf n v) (i := i) (x := (dOf n v).getD i 0 ||| 1#64 <<< j) (by rw [dOf_len]; exact hi) hi
  rw [h1, hd, dOf_val n v n (Nat.le_refl _), Nat.mul_add] at h3
  have h4 : dvk ((dOf n v).set i ((dOf n v).getD i 0 ||| 1#64 <<< j)) n = v % 65536 ^ n + 2 ^ j * 65536 ^ i := by
    rw [Nat.mul_comm (2 ^ j)]
    omega
  have ho : okD ((dOf n v).set i ((dOf n v).getD i 0 ||| 1#64 <<< j)) := okD_set (dOf_ok n v) i (by rw [h1]; exact h2)
  rw [eq_dOf (by rw [List.length_set, dOf_len]) ho h4, ← dOf_mod, Nat.mod_add_mod, dOf_mod]
theorem dOf_cons {L R : Nat} {x : BitVec 64} (hx : x.toNat < 65536) (hR : R < 65536 ^ L) : x :: dOf L R = dOf (L + 1) (x.toNat + 65536 * R) := by
  refine eq_dOf (by rw [List.length_cons, dOf_len]) (okD_cons (dOf_ok L R) hx) ?_
  rw [dvk_cons, dOf_val' hR]
theorem dOf_take {L v m : Nat} (h : m ≤ L) : (dOf L v).take m = dOf m v := by
  unfold dOf
  rw [← List.map_take, List.take_range, Nat.min_eq_left h]
theorem prod_one {b : List (BitVec 64)} (hb : okD b) {j : Nat} (hj : j < 16) : prodF b [1#64 <<< j] = dOf (b.length + 1) (dvk b b.length * 2 ^ j) := by
  have h1 : okD [1#64 <<< j] := okD_cons okD_nil (by rw [one_shl hj]; exact pow16 hj)
  obtain ⟨h2, h3⟩ := prodF_val hb h1
  refine eq_dOf (prodF_len _ _) h2 ?_
  have e : dvk [1#64 <<< j] [1#64 <<< j].length = 2 ^ j := by
    show 0 + 65536 ^ 0 * (1#64 <<< j).toNat = _
    rw [one_shl hj]
    simp
  rw [e] at h3
  exact h3
theorem less_dOf {L M v w : Nat} (hv : v < 65536 ^ L) (hw : w < 65536 ^ M) : lessF (dOf L v) (dOf M w) (max L M) = decide (v < w) := by
  have h := lessF_val (dOf_ok L v) (dOf_ok M w) (max L M)
  have e1 : dvk (dOf L v) (max L M) = v := by
    rw [dvk_ge _ (by rw [dOf_len]; omega), dOf_len, dOf_val' hv]
  have e2 : dvk (dOf M w) (max L M) = w := by
    rw [dvk_ge _ (by rw [dOf_len]; omega), dOf_len, dOf_val' hw]
  rw [e1, e2] at h
  rw [Bool.eq_iff_iff, h]
  simp
theorem dig_step {A b x : Nat} (hb : 0 < b) : (A * 65536 + x) / b = A / b * 65536 + (A % b * 65536 + x) / b ∧ (A * 65536 + x) % b = (A % b * 65536 + x) % b := by
  have e : A * 65536 + x = b * (A / b * 65536) + (A % b * 65536 + x) := by
    have := Nat.div_add_mod A b
    calc A * 65536 + x = (b * (A / b) + A % b) * 65536 + x := by rw [this]
      _ = b * (A / b * 65536) + (A % b * 65536 + x) := by rw [Nat.add_mul, Nat.mul_assoc, Nat.add_assoc]
  constructor
  · rw [e, Nat.mul_add_div hb]
  · rw [e, Nat.mul_add_mod]
theorem dig_at {a : List (BitVec 64)} (oa : okD a) (i : Nat) (hi : i < a.length) : dvk a a.length / 65536 ^ i = dvk a a.length / 65536 ^ (i + 1) * 65536 + (a.getD i 0).toNat := by
  have h := eq_dOf rfl oa (rfl : dvk a a.length = dvk a a.length)
  have h1 : (a.getD i 0).toNat = dvk a a.length / 65536 ^ i % 65536 := by
    have := dOf_num (n := a.length) (v := dvk a a.length) hi
    rw [← h] at this
    exact this
  rw [h1, Nat.pow_succ, ← Nat.div_div_eq_div_mul]
  exact (Nat.div_add_mod' _ _).symm
/-- a bit of a digit: D is the divisor, shifted -/
theorem bit_mod (X D : Nat) : X % (D * 2) = X % D + D * (X / D % 2) := Nat.mod_mul
theorem bit_div (X D : Nat) : X / D = 2 * (X / (D * 2)) + X / D % 2 := by
  rw [← Nat.div_div_eq_div_mul]
  omega
theorem bit_free {Q c i j : Nat} (hj : j < 16) : (Q * 65536 ^ (i + 1) + c * 2 ^ (j + 1) * 65536 ^ i) / 65536 ^ i % 65536 / 2 ^ j % 2 = 0 := by
  have e : Q * 65536 ^ (i + 1) + c * 2 ^ (j + 1) * 65536 ^ i = (Q * 65536 + c * 2 ^ (j + 1)) * 65536 ^ i := by
    rw [Nat.pow_succ, Nat.add_mul, Nat.mul_comm (65536 ^ i) 65536, ← Nat.mul_assoc]
  rw [e, Nat.mul_div_cancel _ (Nat.pow_pos (by decide))]
  have h1 : ((Q * 65536 + c * 2 ^ (j + 1)) % 2 ^ 16).testBit j = (Q * 65536 + c * 2 ^ (j + 1)).testBit j := by
    rw [Nat.testBit_mod_two_pow]
    simp [hj]
  rw [Nat.testBit_eq_decide_div_mod_eq, Nat.testBit_eq_decide_div_mod_eq] at h1
  have h2 : (Q * 65536 + c * 2 ^ (j + 1)) / 2 ^ j % 2 = 0 := by
    have e2 : Q * 65536 + c * 2 ^ (j + 1) = (Q * 2 ^ (15 - j) * 2 + c * 2) * 2 ^ j := by
      rw [Nat.add_mul, Nat.pow_succ, Nat.mul_comm (2 ^ j) 2, ← Nat.mul_assoc, Nat.mul_assoc Q, Nat.mul_assoc Q, ← Nat.pow_succ, ← Nat.pow_add, show (15 - j).succ + j = 16 from by omega]
    rw [e2, Nat.mul_div_cancel _ (Nat.two_pow_pos j)]
    omega
  rw [h2] at h1
  have h3 : ¬ (Q * 65536 + c * 2 ^ (j + 1)) % 65536 / 2 ^ j % 2 = 1 := by
    have : decide ((Q * 65536 + c * 2 ^ (j + 1)) % 2 ^ 16 / 2 ^ j % 2 = 1) = false := by rw [h1]; rfl
    exact of_decide_eq_false this
  omega
theorem lt_next {r p x : Nat} (h : r < p) (hx : x < 65536) : r * 65536 + x < p * 65536 := by omega
noncomputable def rDivideS : FSpec := { run := fun ins => match ins with
  | [.sl false (.u 64 a), .sl false (.u 64 b)] => chk (okD a ∧ okD b ∧ 0 < dvk b b.length ∧ a.length ≤ 900 ∧ b.length ≤ 900) (some (.tup [.sl true (.u 64 (dOf a.length (dvk a a.length / dvk b b.length))), .sl true (.u 64 (dOf (min a.length (b.length + 1)) (dvk a a.length % dvk b b.length)))], []))
  | _ => none }
theorem rDivide_sound : SoundFn Try.prog glB 79 rDivideS.run := by
  have G := good_of (P := Try.prog) glB_ro (l := [(77, prodS), (70, lessS), (92, minusS)]) (by simp only [List.forall_mem_cons]; exact ⟨prod_sound, less_sound, minus_sound, by simp⟩)
  refine soundFn_of_W G Try.func79 (by decide) rfl (by decide) ?_
  intro ins ret outs h
  unfold rDivideS at h
  dsimp only at h
  split at h
  rotate_left
  · cases h
  rename_i a b
  obtain ⟨hl, h'⟩ := chk_some h
  clear h
  cases h'
  obtain ⟨oa, ob, hB, la, lb⟩ := hl
  refine ⟨by show 2 ≤ 70; decide, fun w0 ext av => ?_⟩
  rw [Try.ntmps79, st0_eq]
  have hA := dvk_lt oa a.length
  have hBl := dvk_lt ob b.length
  have hdig := dig_at oa
  have hprod := fun j hj => prod_one ob (j := j) hj
  obtain ⟨A, hAe⟩ : ∃ A, dvk a a.length = A := ⟨_, rfl⟩
  obtain ⟨B, hBe⟩ : ∃ B, dvk b b.length = B := ⟨_, rfl⟩
  rw [hAe] at hA ⊢
  rw [hBe] at hB hBl ⊢
  simp only [hAe, hBe] at hdig hprod
  generalize hN : a.length = N at la hA hdig ⊢
  generalize hM : b.length = M at lb hBl hprod ⊢
  have hBM : B < 65536 ^ (M + 1) := Nat.lt_of_lt_of_le hBl (Nat.pow_le_pow_right (by decide) (by omega))
  have hA0 : A / 65536 ^ N = 0 := Nat.div_eq_of_lt hA
  have hrb : ∀ k, k ≤ N → A / 65536 ^ k % B < 65536 ^ (min (N - k) (M + 1)) := by
    intro k hk
    by_cases h : N - k ≤ M + 1
    · rw [Nat.min_eq_left h]
      refine Nat.lt_of_le_of_lt (Nat.mod_le _ _) ?_
      rw [Nat.div_lt_iff_lt_mul (Nat.pow_pos (by decide)), ← Nat.pow_add, show N - k + k = N from by omega]
      exact hA
    · rw [Nat.min_eq_right (by omega)]
      exact Nat.lt_trans (Nat.mod_lt _ hB) hBM
  repeat' first
    | refine W.seq ?_ | (refine W.regS G ?_; dsimp only) | refine SW.nil ?_ | refine thenQ_normal ?_ | refine W.skip ?_ | refine W.exit ?_ | refine thenQ_exit ?_ | refine inBlockQ_exit ?_ | refine inBlockQ_normal ?_ | refine W.block ?_
    | (apply SW.toC; refine SWcall.go (And.intro hN hM) ?_) | (apply SW.toOp; refine SWop.go (And.intro hN hM) ?_) | (apply SW.toCG; first | refine SWcall.yes (And.intro hN hM) ?_ | refine SWcall.no (And.intro hN hM) ?_) | (apply SW.toG; first | refine SWop.yes (And.intro hN hM) ?_ | refine SWop.no (And.intro hN hM) ?_)
  refine W.loopI (ι := {k : Nat // k ≤ N}) (fun k => sL [(0, .sl false (.u 64 a)), (1, .sl false (.u 64 b)), (6, .gr 13 N), (7, .sl true (.u 64 (dOf (min (N - k.1) (M + 1)) (A / 65536 ^ k.1 % B)))), (8, .i ((k.1 : Int) - 1))] [(13, .row (.u 64 (dOf N (A / 65536 ^ k.1 / B * 65536 ^ k.1))))] 70) (fun k => k.1) ⟨N, Nat.le_refl _⟩ (Imp.frz 14 (by decide) ?_) ?_
  · have z1 : dOf (min (N - N) (M + 1)) (A / 65536 ^ N % B) = [] := by rw [Nat.sub_self, Nat.zero_min]; rfl
    have z2 : dOf N (A / 65536 ^ N / B * 65536 ^ N) = zeros 64 N := by rw [hA0, Nat.zero_div, Nat.zero_mul]; exact (dOf_zero N).symm
    exact sL_leZ (And.intro z1 (And.intro z2 (And.intro hN hM)))
  rintro ⟨k, hk⟩
  have lq : ∀ v, (dOf N v).length = N := fun v => dOf_len N v
  repeat' first
    | refine W.seq ?_ | (refine W.regS G ?_; dsimp only) | refine SW.nil ?_ | refine thenQ_normal ?_ | refine W.skip ?_ | refine W.exit ?_ | refine thenQ_exit ?_ | refine inBlockQ_exit ?_ | refine inBlockQ_normal ?_ | refine W.block ?_
    | (apply SW.toC; refine SWcall.go (And.intro hN (And.intro hM lq)) ?_) | (apply SW.toOp; refine SWop.go (And.intro hN (And.intro hM lq)) ?_) | (apply SW.toCG; first | refine SWcall.yes (And.intro hN (And.intro hM lq)) ?_ | refine SWcall.no (And.intro hN (And.intro hM lq)) ?_) | (apply SW.toG; first | refine SWop.yes (And.intro hN (And.intro hM lq)) ?_ | refine SWop.no (And.intro hN (And.intro hM lq)) ?_)
  refine W.condZ G (And.intro hN (And.intro hM lq)) ?_ ?_
  all_goals intro ht
  · have ht' := of_decide_eq_true ht
    obtain ⟨i, rfl⟩ : ∃ i, k = i + 1 := ⟨k - 1, by omega⟩
    have ei : ((i + 1 : Nat) : Int) - 1 = (i : Int) := by omega
    have hi : i < N := by omega
    have hx := hdig i hi
    have ox := oa i
    have hrb1 := hrb (i + 1) hk
    have hds := dig_step (A := A / 65536 ^ (i + 1)) (x := (a.getD i 0).toNat) hB
    rw [← hx] at hds
    have hrl : A / 65536 ^ (i + 1) % B < B := Nat.mod_lt _ hB
    clear hx
    generalize A / 65536 ^ (i + 1) = Ak at hrb1 hds hrl ⊢
    generalize hxe : a.getD i 0 = x at ox hds ⊢
    have hL2 : min (N - i) (M + 1) = min (min (N - (i + 1)) (M + 1) + 1) (M + 1) := by omega
    obtain ⟨L, hL⟩ : ∃ L, min (N - (i + 1)) (M + 1) = L := ⟨_, rfl⟩
    rw [hL] at hL2 hrb1 ⊢
    have hLM : L ≤ M + 1 := by omega
    obtain ⟨X, hX⟩ : ∃ X, Ak % B * 65536 + x.toNat = X := ⟨_, rfl⟩
    rw [hX] at hds
    have hXB : X < B * 65536 := by omega
    have hcons := dOf_cons ox hrb1
    rw [show x.toNat + 65536 * (Ak % B) = X from by omega] at hcons
    have hXL1 : X < 65536 ^ (L + 1) := by
      rw [Nat.pow_succ, ← hX]
      exact lt_next hrb1 ox
    have hXM : X < 65536 ^ (M + 1) := by
      rw [Nat.pow_succ]
      exact Nat.lt_trans hXB (Nat.mul_lt_mul_of_pos_right hBl (by decide))
    have hXL : X < 65536 ^ (min (L + 1) (M + 1)) := by
      by_cases h : L + 1 ≤ M + 1
      · rw [Nat.min_eq_left h]; exact hXL1
      · rw [Nat.min_eq_right (by omega)]; exact hXM
    obtain ⟨Q0, hQ0⟩ : ∃ Q, Ak / B = Q := ⟨_, rfl⟩
    rw [hQ0] at hds ⊢
    repeat' first
      | refine W.seq ?_ | (refine W.regS G ?_; dsimp only) | refine SW.nil ?_ | refine thenQ_normal ?_ | refine W.skip ?_ | refine W.exit ?_ | refine thenQ_exit ?_ | refine inBlockQ_exit ?_ | refine inBlockQ_normal ?_
      | (apply SW.toC; refine SWcall.go (And.intro hN (And.intro hM (And.intro lq (And.intro ei hxe)))) ?_) | (apply SW.toOp; refine SWop.go (And.intro hN (And.intro hM (And.intro lq (And.intro ei hxe)))) ?_) | (apply SW.toCG; first | refine SWcall.yes (And.intro hN (And.intro hM (And.intro lq (And.intro ei hxe)))) ?_ | refine SWcall.no (And.intro hN (And.intro hM (And.intro lq (And.intro ei hxe)))) ?_) | (apply SW.toG; first | refine SWop.yes (And.intro hN (And.intro hM (And.intro lq (And.intro ei hxe)))) ?_ | refine SWop.no (And.intro hN (And.intro hM (And.intro lq (And.intro ei hxe)))) ?_)
    refine W.block ?_
    refine W.seq ?_
    refine W.mid (sL [(0, .sl false (.u 64 a)), (1, .sl false (.u 64 b)), (6, .gr 13 N), (7, .sl true (.u 64 (dOf (L + 1) X))), (8, .i (i : Int))] [(13, .row (.u 64 (dOf N (Q0 * 65536 ^ (i + 1)))))] 70) ?_ ?_
    · have l7 : (dOf L (Ak % B)).length = L := dOf_len _ _
      repeat' first
        | refine W.seq ?_ | (refine W.regS G ?_; dsimp only) | refine SW.nil ?_ | refine thenQ_normal ?_ | refine W.skip ?_ | refine W.exit ?_ | refine thenQ_exit ?_ | refine inBlockQ_exit ?_ | refine inBlockQ_normal ?_ | refine W.block ?_
        | (apply SW.toC; refine SWcall.go (And.intro hN (And.intro hM (And.intro lq (And.intro ei (And.intro hxe l7))))) ?_) | (apply SW.toOp; refine SWop.go (And.intro hN (And.intro hM (And.intro lq (And.intro ei (And.intro hxe l7))))) ?_) | (apply SW.toCG; first | refine SWcall.yes (And.intro hN (And.intro hM (And.intro lq (And.intro ei (And.intro hxe l7))))) ?_ | refine SWcall.no (And.intro hN (And.intro hM (And.intro lq (And.intro ei (And.intro hxe l7))))) ?_) | (apply SW.toG; first | refine SWop.yes (And.intro hN (And.intro hM (And.intro lq (And.intro ei (And.intro hxe l7))))) ?_ | refine SWop.no (And.intro hN (And.intro hM (And.intro lq (And.intro ei (And.intro hxe l7))))) ?_)
      have l8 : (dOf (L + 1) X).length = L + 1 := dOf_len _ _
      have s8 : subL (dOf (L + 1) X) 0 (L + 1) = dOf (L + 1) X := by
        have := subL_all (dOf (L + 1) X)
        rw [l8] at this
        exact this
      refine Imp.frz 26 (by decide) ?_
      exact sL_leZ (And.intro hcons (And.intro l8 (And.intro s8 (And.intro hN (And.intro hM (And.intro lq (And.intro ei (And.intro hxe l7))))))))
    refine W.seq ?_
    refine W.mid (sL [(0, .sl false (.u 64 a)), (1, .sl false (.u 64 b)), (6, .gr 13 N), (7, .sl true (.u 64 (dOf (min (L + 1) (M + 1)) X))), (8, .i (i : Int))] [(13, .row (.u 64 (dOf N (Q0 * 65536 ^ (i + 1)))))] 70) ?_ ?_
    · have l7 : (dOf (L + 1) X).length = L + 1 := dOf_len _ _
      repeat' first
        | refine W.seq ?_ | (refine W.regS G ?_; dsimp only) | refine SW.nil ?_ | refine thenQ_normal ?_ | refine W.skip ?_ | refine W.exit ?_ | refine thenQ_exit ?_ | refine inBlockQ_exit ?_ | refine inBlockQ_normal ?_ | refine W.block ?_
        | (apply SW.toC; refine SWcall.go (And.intro hN (And.intro hM (And.intro lq l7))) ?_) | (apply SW.toOp; refine SWop.go (And.intro hN (And.intro hM (And.intro lq l7))) ?_) | (apply SW.toCG; first | refine SWcall.yes (And.intro hN (And.intro hM (And.intro lq l7))) ?_ | refine SWcall.no (And.intro hN (And.intro hM (And.intro lq l7))) ?_) | (apply SW.toG; first | refine SWop.yes (And.intro hN (And.intro hM (And.intro lq l7))) ?_ | refine SWop.no (And.intro hN (And.intro hM (And.intro lq l7))) ?_)
      refine W.condZ G (And.intro hN (And.intro hM (And.intro lq l7))) ?_ ?_
      all_goals intro hc
      · have hc' := of_decide_eq_true hc
        have htk : subL (dOf (L + 1) X) 0 (M + 1) = dOf (min (L + 1) (M + 1)) X := by
          unfold subL
          rw [List.drop_zero, dOf_take (by omega), Nat.min_eq_right (by omega)]
        have eM : ((M : Int) + 1).toNat - 0 = M + 1 := by omega
        have hne : (M + 1 = L + 1) = False := eq_false (by omega)
        repeat' first
          | refine W.seq ?_ | (refine W.regS G ?_; dsimp only) | refine SW.nil ?_ | refine thenQ_normal ?_ | refine W.skip ?_ | refine W.exit ?_ | refine thenQ_exit ?_ | refine inBlockQ_exit ?_ | refine inBlockQ_normal ?_ | refine W.block ?_
          | (apply SW.toC; refine SWcall.go (And.intro hN (And.intro hM (And.intro lq l7))) ?_) | (apply SW.toOp; refine SWop.go (And.intro hN (And.intro hM (And.intro lq l7))) ?_) | (apply SW.toCG; first | refine SWcall.yes (And.intro hN (And.intro hM (And.intro lq l7))) ?_ | refine SWcall.no (And.intro hN (And.intro hM (And.intro lq l7))) ?_) | (apply SW.toG; first | refine SWop.yes (And.intro hN (And.intro hM (And.intro lq l7))) ?_ | refine SWop.no (And.intro hN (And.intro hM (And.intro lq l7))) ?_)
        refine Imp.le ?_
        exact sL_leZ (And.intro eM (And.intro hne (And.intro htk (And.intro hN (And.intro hM (And.intro lq l7))))))
      · have hc' := of_decide_eq_false hc
        have hmin : min (L + 1) (M + 1) = L + 1 := by omega
        rw [hmin]
        repeat' first
          | refine W.seq ?_ | (refine W.regS G ?_; dsimp only) | refine SW.nil ?_ | refine thenQ_normal ?_ | refine W.skip ?_ | refine W.exit ?_ | refine thenQ_exit ?_ | refine inBlockQ_exit ?_ | refine inBlockQ_normal ?_ | refine W.block ?_
          | (apply SW.toC; refine SWcall.go (And.intro hN (And.intro hM (And.intro lq l7))) ?_) | (apply SW.toOp; refine SWop.go (And.intro hN (And.intro hM (And.intro lq l7))) ?_) | (apply SW.toCG; first | refine SWcall.yes (And.intro hN (And.intro hM (And.intro lq l7))) ?_ | refine SWcall.no (And.intro hN (And.intro hM (And.intro lq l7))) ?_) | (apply SW.toG; first | refine SWop.yes (And.intro hN (And.intro hM (And.intro lq l7))) ?_ | refine SWop.no (And.intro hN (And.intro hM (And.intro lq l7))) ?_)
        refine Imp.le ?_
        exact sL_leZ (And.intro hN (And.intro hM (And.intro lq l7)))
    rw [← hL2] at hXL ⊢
    obtain ⟨K, hK⟩ : ∃ K, min (N - i) (M + 1) = K := ⟨_, rfl⟩
    rw [hK] at hXL ⊢
    have hKM : K ≤ M + 1 := by omega
    repeat' first
      | refine W.seq ?_ | (refine W.regS G ?_; dsimp only) | refine SW.nil ?_ | refine thenQ_normal ?_ | refine W.skip ?_ | refine W.exit ?_ | refine thenQ_exit ?_ | refine inBlockQ_exit ?_ | refine inBlockQ_normal ?_
      | (apply SW.toC; refine SWcall.go True.intro ?_) | (apply SW.toOp; refine SWop.go True.intro ?_) | (apply SW.toCG; first | refine SWcall.yes True.intro ?_ | refine SWcall.no True.intro ?_) | (apply SW.toG; first | refine SWop.yes True.intro ?_ | refine SWop.no True.intro ?_)
    refine W.block ?_
    refine W.loopI (ι := {s : Nat // s ≤ 16}) (fun s => sL [(0, .sl false (.u 64 a)), (1, .sl false (.u 64 b)), (6, .gr 13 N), (7, .sl true (.u 64 (dOf K (X % (B * 2 ^ s.1))))), (8, .i (i : Int)), (9, .i ((s.1 : Int) - 1))] [(13, .row (.u 64 (dOf N (Q0 * 65536 ^ (i + 1) + X / (B * 2 ^ s.1) * 2 ^ s.1 * 65536 ^ i))))] 70) (fun s => s.1) ⟨16, Nat.le_refl _⟩ (Imp.le ?_) ?_
    · have z1 : X % (B * 2 ^ 16) = X := Nat.mod_eq_of_lt hXB
      have z2 : Q0 * 65536 ^ (i + 1) + X / (B * 2 ^ 16) * 2 ^ 16 * 65536 ^ i = Q0 * 65536 ^ (i + 1) := by
        rw [Nat.div_eq_of_lt hXB, Nat.zero_mul, Nat.add_zero]
      rw [z1, z2]
      exact sL_leZ True.intro
    rintro ⟨s, hs⟩
    repeat' first
      | refine W.seq ?_ | (refine W.regS G ?_; dsimp only) | refine SW.nil ?_ | refine thenQ_normal ?_ | refine W.skip ?_ | refine W.exit ?_ | refine thenQ_exit ?_ | refine inBlockQ_exit ?_ | refine inBlockQ_normal ?_ | refine W.block ?_
      | (apply SW.toC; refine SWcall.go (And.intro hN (And.intro hM lq)) ?_) | (apply SW.toOp; refine SWop.go (And.intro hN (And.intro hM lq)) ?_) | (apply SW.toCG; first | refine SWcall.yes (And.intro hN (And.intro hM lq)) ?_ | refine SWcall.no (And.intro hN (And.intro hM lq)) ?_) | (apply SW.toG; first | refine SWop.yes (And.intro hN (And.intro hM lq)) ?_ | refine SWop.no (And.intro hN (And.intro hM lq)) ?_)
    refine W.condZ G (And.intro hN (And.intro hM lq)) ?_ ?_
    all_goals intro hu
    · have hu' := of_decide_eq_true hu
      obtain ⟨j, rfl⟩ : ∃ j, s = j + 1 := ⟨s - 1, by omega⟩
      have hj : j < 16 := by omega
      have ej : ((j + 1 : Nat) : Int) - 1 = (j : Int) := by omega
      have e3 : (BitVec.ofInt 64 (j : Int)).toNat = j := by rw [BitVec.toNat_ofInt]; omega
      have hp := hprod j hj
      have hfree := bit_free (Q := Q0) (c := X / (B * 2 ^ (j + 1))) (i := i) hj
      have hor := dOf_or (n := N) hi hj hfree
      rw [show B * 2 ^ (j + 1) = B * 2 ^ j * 2 from by rw [Nat.pow_succ, Nat.mul_assoc]] at hfree hor ⊢
      have hD0 : 0 < B * 2 ^ j := Nat.mul_pos hB (Nat.two_pow_pos j)
      have hDM : B * 2 ^ j < 65536 ^ (M + 1) := by
        rw [Nat.pow_succ]
        exact Nat.mul_lt_mul'' hBl (pow16 hj)
      have hbm := bit_mod X (B * 2 ^ j)
      have hbd := bit_div X (B * 2 ^ j)
      have hXD : X % (B * 2 ^ j) < B * 2 ^ j := Nat.mod_lt _ hD0
      obtain ⟨D, hDe⟩ : ∃ D, B * 2 ^ j = D := ⟨_, rfl⟩
      rw [hDe] at hp hfree hor hD0 hDM hbm hbd hXD ⊢
      have hYL : X % (D * 2) < 65536 ^ K := Nat.lt_of_le_of_lt (Nat.mod_le _ _) hXL
      have hless := less_dOf (L := K) (M := M + 1) hYL hDM
      obtain ⟨Y, hY⟩ : ∃ Y, X % (D * 2) = Y := ⟨_, rfl⟩
      rw [hY] at hbm hYL hless ⊢
      obtain ⟨v, hv⟩ : ∃ v, Q0 * 65536 ^ (i + 1) + X / (D * 2) * 2 ^ (j + 1) * 65536 ^ i = v := ⟨_, rfl⟩
      rw [hv] at hor ⊢
      have e2j : 2 ^ (j + 1) = 2 * 2 ^ j := by rw [Nat.pow_succ, Nat.mul_comm]
      have hvv : X / D % 2 = 1 → v + 2 ^ j * 65536 ^ i = Q0 * 65536 ^ (i + 1) + X / D * 2 ^ j * 65536 ^ i := by
        intro h1
        rw [h1] at hbd
        rw [← hv, hbd, e2j, Nat.add_mul, Nat.one_mul, Nat.add_mul, ← Nat.mul_assoc (X / (D * 2)) 2, Nat.mul_comm (X / (D * 2)) 2, Nat.add_assoc]
      have hvw : ¬ X / D % 2 = 1 → v = Q0 * 65536 ^ (i + 1) + X / D * 2 ^ j * 65536 ^ i := by
        intro h1
        have h0 : X / D % 2 = 0 := by omega
        rw [h0, Nat.add_zero] at hbd
        rw [← hv, hbd, e2j, ← Nat.mul_assoc (X / (D * 2)) 2, Nat.mul_comm (X / (D * 2)) 2]
      have lK : (dOf K Y).length = K := dOf_len _ _
      have lT : (dOf (M + 1) D).length = M + 1 := dOf_len _ _
      have oK : okD (dOf K Y) := dOf_ok _ _
      have oT : okD (dOf (M + 1) D) := dOf_ok _ _
      have vK : dvk (dOf K Y) K = Y := dOf_val' hYL
      have vT : dvk (dOf (M + 1) D) (M + 1) = D := dOf_val' hDM
      by_cases hbit : X / D % 2 = 1
      · rw [hbit, Nat.mul_one] at hbm
        have hle : D ≤ Y := by omega
        have hsub : Y - D = X % D := by omega
        have hv2 := hvv hbit
        rw [hv2] at hor
        rw [decide_eq_false (by omega : ¬ Y < D)] at hless
        repeat' first
          | refine W.seq ?_ | (refine W.regS G ?_; dsimp only) | refine SW.nil ?_ | refine thenQ_normal ?_ | refine W.skip ?_ | refine W.exit ?_ | refine thenQ_exit ?_ | refine inBlockQ_exit ?_ | refine inBlockQ_normal ?_
          | (apply SW.toC; refine SWcall.go (And.intro hN (And.intro hM (And.intro lq (And.intro ej (And.intro e3 (And.intro prodS.eq_1 (And.intro hp (And.intro lessS.eq_1 (And.intro lK (And.intro lT hless)))))))))) ?_) | (apply SW.toOp; refine SWop.go (And.intro hN (And.intro hM (And.intro lq (And.intro ej (And.intro e3 (And.intro prodS.eq_1 (And.intro hp (And.intro lessS.eq_1 (And.intro lK (And.intro lT hless)))))))))) ?_) | (apply SW.toCG; first | refine SWcall.yes (And.intro hN (And.intro hM (And.intro lq (And.intro ej (And.intro e3 (And.intro prodS.eq_1 (And.intro hp (And.intro lessS.eq_1 (And.intro lK (And.intro lT hless)))))))))) ?_ | refine SWcall.no (And.intro hN (And.intro hM (And.intro lq (And.intro ej (And.intro e3 (And.intro prodS.eq_1 (And.intro hp (And.intro lessS.eq_1 (And.intro lK (And.intro lT hless)))))))))) ?_) | (apply SW.toG; first | refine SWop.yes (And.intro hN (And.intro hM (And.intro lq (And.intro ej (And.intro e3 (And.intro prodS.eq_1 (And.intro hp (And.intro lessS.eq_1 (And.intro lK (And.intro lT hless)))))))))) ?_ | refine SWop.no (And.intro hN (And.intro hM (And.intro lq (And.intro ej (And.intro e3 (And.intro prodS.eq_1 (And.intro hp (And.intro lessS.eq_1 (And.intro lK (And.intro lT hless)))))))))) ?_)
        refine W.block ?_
        repeat' first
          | refine W.seq ?_ | (refine W.regS G ?_; dsimp only) | refine SW.nil ?_ | refine thenQ_normal ?_ | refine W.skip ?_ | refine W.exit ?_ | refine thenQ_exit ?_ | refine inBlockQ_exit ?_ | refine inBlockQ_normal ?_
          | (apply SW.toC; refine SWcall.go (And.intro hN (And.intro hM (And.intro lq (And.intro ej (And.intro e3 (And.intro prodS.eq_1 (And.intro hp (And.intro lessS.eq_1 (And.intro lK (And.intro lT hless)))))))))) ?_) | (apply SW.toOp; refine SWop.go (And.intro hN (And.intro hM (And.intro lq (And.intro ej (And.intro e3 (And.intro prodS.eq_1 (And.intro hp (And.intro lessS.eq_1 (And.intro lK (And.intro lT hless)))))))))) ?_) | (apply SW.toCG; first | refine SWcall.yes (And.intro hN (And.intro hM (And.intro lq (And.intro ej (And.intro e3 (And.intro prodS.eq_1 (And.intro hp (And.intro lessS.eq_1 (And.intro lK (And.intro lT hless)))))))))) ?_ | refine SWcall.no (And.intro hN (And.intro hM (And.intro lq (And.intro ej (And.intro e3 (And.intro prodS.eq_1 (And.intro hp (And.intro lessS.eq_1 (And.intro lK (And.intro lT hless)))))))))) ?_) | (apply SW.toG; first | refine SWop.yes (And.intro hN (And.intro hM (And.intro lq (And.intro ej (And.intro e3 (And.intro prodS.eq_1 (And.intro hp (And.intro lessS.eq_1 (And.intro lK (And.intro lT hless)))))))))) ?_ | refine SWop.no (And.intro hN (And.intro hM (And.intro lq (And.intro ej (And.intro e3 (And.intro prodS.eq_1 (And.intro hp (And.intro lessS.eq_1 (And.intro lK (And.intro lT hless)))))))))) ?_)
        refine W.condZ G (And.intro hN (And.intro hM (And.intro lq (And.intro ej (And.intro e3 (And.intro prodS.eq_1 (And.intro hp (And.intro lessS.eq_1 (And.intro lK (And.intro lT hless)))))))))) ?_ ?_
        all_goals intro hc
        · skip
          repeat' first
            | refine W.seq ?_ | (refine W.regS G ?_; dsimp only) | refine SW.nil ?_ | refine thenQ_normal ?_ | refine W.skip ?_ | refine W.exit ?_ | refine thenQ_exit ?_ | refine inBlockQ_exit ?_ | refine inBlockQ_normal ?_ | refine W.block ?_
            | (apply SW.toC; refine SWcall.go (And.intro hN (And.intro hM (And.intro lq (And.intro ej (And.intro e3 (And.intro minusS.eq_1 (And.intro lK (And.intro lT (And.intro oK (And.intro oT (And.intro vK (And.intro vT (And.intro hsub hor))))))))))))) ?_) | (apply SW.toOp; refine SWop.go (And.intro hN (And.intro hM (And.intro lq (And.intro ej (And.intro e3 (And.intro minusS.eq_1 (And.intro lK (And.intro lT (And.intro oK (And.intro oT (And.intro vK (And.intro vT (And.intro hsub hor))))))))))))) ?_) | (apply SW.toCG; first | refine SWcall.yes (And.intro hN (And.intro hM (And.intro lq (And.intro ej (And.intro e3 (And.intro minusS.eq_1 (And.intro lK (And.intro lT (And.intro oK (And.intro oT (And.intro vK (And.intro vT (And.intro hsub hor))))))))))))) ?_ | refine SWcall.no (And.intro hN (And.intro hM (And.intro lq (And.intro ej (And.intro e3 (And.intro minusS.eq_1 (And.intro lK (And.intro lT (And.intro oK (And.intro oT (And.intro vK (And.intro vT (And.intro hsub hor))))))))))))) ?_) | (apply SW.toG; first | refine SWop.yes (And.intro hN (And.intro hM (And.intro lq (And.intro ej (And.intro e3 (And.intro minusS.eq_1 (And.intro lK (And.intro lT (And.intro oK (And.intro oT (And.intro vK (And.intro vT (And.intro hsub hor))))))))))))) ?_ | refine SWop.no (And.intro hN (And.intro hM (And.intro lq (And.intro ej (And.intro e3 (And.intro minusS.eq_1 (And.intro lK (And.intro lT (And.intro oK (And.intro oT (And.intro vK (And.intro vT (And.intro hsub hor))))))))))))) ?_)
          refine ⟨⟨j, by omega⟩, Imp.le ?_, by show j < j + 1; omega⟩
          exact sL_leZ (And.intro hDe (And.intro hN (And.intro hM (And.intro lq (And.intro ej (And.intro e3 (And.intro minusS.eq_1 (And.intro lK (And.intro lT (And.intro oK (And.intro oT (And.intro vK (And.intro vT (And.intro hsub hor))))))))))))))
        · exact absurd hc (by decide)
      · have h0 : X / D % 2 = 0 := by omega
        rw [h0, Nat.mul_zero, Nat.add_zero] at hbm
        have hv2 := hvw hbit
        rw [decide_eq_true (by omega : Y < D)] at hless
        repeat' first
          | refine W.seq ?_ | (refine W.regS G ?_; dsimp only) | refine SW.nil ?_ | refine thenQ_normal ?_ | refine W.skip ?_ | refine W.exit ?_ | refine thenQ_exit ?_ | refine inBlockQ_exit ?_ | refine inBlockQ_normal ?_
          | (apply SW.toC; refine SWcall.go (And.intro hN (And.intro hM (And.intro lq (And.intro ej (And.intro e3 (And.intro prodS.eq_1 (And.intro hp (And.intro lessS.eq_1 (And.intro lK (And.intro lT hless)))))))))) ?_) | (apply SW.toOp; refine SWop.go (And.intro hN (And.intro hM (And.intro lq (And.intro ej (And.intro e3 (And.intro prodS.eq_1 (And.intro hp (And.intro lessS.eq_1 (And.intro lK (And.intro lT hless)))))))))) ?_) | (apply SW.toCG; first | refine SWcall.yes (And.intro hN (And.intro hM (And.intro lq (And.intro ej (And.intro e3 (And.intro prodS.eq_1 (And.intro hp (And.intro lessS.eq_1 (And.intro lK (And.intro lT hless)))))))))) ?_ | refine SWcall.no (And.intro hN (And.intro hM (And.intro lq (And.intro ej (And.intro e3 (And.intro prodS.eq_1 (And.intro hp (And.intro lessS.eq_1 (And.intro lK (And.intro lT hless)))))))))) ?_) | (apply SW.toG; first | refine SWop.yes (And.intro hN (And.intro hM (And.intro lq (And.intro ej (And.intro e3 (And.intro prodS.eq_1 (And.intro hp (And.intro lessS.eq_1 (And.intro lK (And.intro lT hless)))))))))) ?_ | refine SWop.no (And.intro hN (And.intro hM (And.intro lq (And.intro ej (And.intro e3 (And.intro prodS.eq_1 (And.intro hp (And.intro lessS.eq_1 (And.intro lK (And.intro lT hless)))))))))) ?_)
        refine W.block ?_
        repeat' first
          | refine W.seq ?_ | (refine W.regS G ?_; dsimp only) | refine SW.nil ?_ | refine thenQ_normal ?_ | refine W.skip ?_ | refine W.exit ?_ | refine thenQ_exit ?_ | refine inBlockQ_exit ?_ | refine inBlockQ_normal ?_
          | (apply SW.toC; refine SWcall.go (And.intro hN (And.intro hM (And.intro lq (And.intro ej (And.intro e3 (And.intro prodS.eq_1 (And.intro hp (And.intro lessS.eq_1 (And.intro lK (And.intro lT hless)))))))))) ?_) | (apply SW.toOp; refine SWop.go (And.intro hN (And.intro hM (And.intro lq (And.intro ej (And.intro e3 (And.intro prodS.eq_1 (And.intro hp (And.intro lessS.eq_1 (And.intro lK (And.intro lT hless)))))))))) ?_) | (apply SW.toCG; first | refine SWcall.yes (And.intro hN (And.intro hM (And.intro lq (And.intro ej (And.intro e3 (And.intro prodS.eq_1 (And.intro hp (And.intro lessS.eq_1 (And.intro lK (And.intro lT hless)))))))))) ?_ | refine SWcall.no (And.intro hN (And.intro hM (And.intro lq (And.intro ej (And.intro e3 (And.intro prodS.eq_1 (And.intro hp (And.intro lessS.eq_1 (And.intro lK (And.intro lT hless)))))))))) ?_) | (apply SW.toG; first | refine SWop.yes (And.intro hN (And.intro hM (And.intro lq (And.intro ej (And.intro e3 (And.intro prodS.eq_1 (And.intro hp (And.intro lessS.eq_1 (And.intro lK (And.intro lT hless)))))))))) ?_ | refine SWop.no (And.intro hN (And.intro hM (And.intro lq (And.intro ej (And.intro e3 (And.intro prodS.eq_1 (And.intro hp (And.intro lessS.eq_1 (And.intro lK (And.intro lT hless)))))))))) ?_)
        refine W.condZ G (And.intro hN (And.intro hM (And.intro lq (And.intro ej (And.intro e3 (And.intro prodS.eq_1 (And.intro hp (And.intro lessS.eq_1 (And.intro lK (And.intro lT hless)))))))))) ?_ ?_
        all_goals intro hc
        · exact absurd hc (by decide)
        · repeat' first
            | refine W.seq ?_ | (refine W.regS G ?_; dsimp only) | refine SW.nil ?_ | refine thenQ_normal ?_ | refine W.skip ?_ | refine W.exit ?_ | refine thenQ_exit ?_ | refine inBlockQ_exit ?_ | refine inBlockQ_normal ?_ | refine W.block ?_
            | (apply SW.toC; refine SWcall.go (And.intro hN (And.intro hM (And.intro lq (And.intro ej (And.intro e3 (And.intro prodS.eq_1 (And.intro hp (And.intro lessS.eq_1 (And.intro lK (And.intro lT hless)))))))))) ?_) | (apply SW.toOp; refine SWop.go (And.intro hN (And.intro hM (And.intro lq (And.intro ej (And.intro e3 (And.intro prodS.eq_1 (And.intro hp (And.intro lessS.eq_1 (And.intro lK (And.intro lT hless)))))))))) ?_) | (apply SW.toCG; first | refine SWcall.yes (And.intro hN (And.intro hM (And.intro lq (And.intro ej (And.intro e3 (And.intro prodS.eq_1 (And.intro hp (And.intro lessS.eq_1 (And.intro lK (And.intro lT hless)))))))))) ?_ | refine SWcall.no (And.intro hN (And.intro hM (And.intro lq (And.intro ej (And.intro e3 (And.intro prodS.eq_1 (And.intro hp (And.intro lessS.eq_1 (And.intro lK (And.intro lT hless)))))))))) ?_) | (apply SW.toG; first | refine SWop.yes (And.intro hN (And.intro hM (And.intro lq (And.intro ej (And.intro e3 (And.intro prodS.eq_1 (And.intro hp (And.intro lessS.eq_1 (And.intro lK (And.intro lT hless)))))))))) ?_ | refine SWop.no (And.intro hN (And.intro hM (And.intro lq (And.intro ej (And.intro e3 (And.intro prodS.eq_1 (And.intro hp (And.intro lessS.eq_1 (And.intro lK (And.intro lT hless)))))))))) ?_)
          have f1 := hbm.symm
          have f2 := hv2.symm
          refine ⟨⟨j, by omega⟩, Imp.le ?_, by show j < j + 1; omega⟩
          exact sL_leZ (And.intro hDe (And.intro f1 (And.intro f2 (And.intro hN (And.intro hM (And.intro lq (And.intro ej (And.intro e3 (And.intro prodS.eq_1 (And.intro hp (And.intro lessS.eq_1 (And.intro lK (And.intro lT hless)))))))))))))
    have hu' := of_decide_eq_false hu
    obtain rfl : s = 0 := by omega
    have z1 : X % (B * 2 ^ 0) = X % B := by rw [Nat.pow_zero, Nat.mul_one]
    have z2 : Q0 * 65536 ^ (i + 1) + X / (B * 2 ^ 0) * 2 ^ 0 * 65536 ^ i = (Q0 * 65536 + X / B) * 65536 ^ i := by
      rw [Nat.pow_zero, Nat.mul_one, Nat.mul_one, Nat.add_mul, Nat.pow_succ, Nat.mul_comm (65536 ^ i) 65536, Nat.mul_assoc]
    rw [z1, z2]
    obtain ⟨d1, d2⟩ := hds
    rw [← d1, ← d2]
    repeat' first
      | refine W.seq ?_ | (refine W.regS G ?_; dsimp only) | refine SW.nil ?_ | refine thenQ_normal ?_ | refine W.skip ?_ | refine W.exit ?_ | refine thenQ_exit ?_ | refine inBlockQ_exit ?_ | refine inBlockQ_normal ?_ | refine W.block ?_
      | (apply SW.toC; refine SWcall.go (And.intro hN (And.intro hM lq)) ?_) | (apply SW.toOp; refine SWop.go (And.intro hN (And.intro hM lq)) ?_) | (apply SW.toCG; first | refine SWcall.yes (And.intro hN (And.intro hM lq)) ?_ | refine SWcall.no (And.intro hN (And.intro hM lq)) ?_) | (apply SW.toG; first | refine SWop.yes (And.intro hN (And.intro hM lq)) ?_ | refine SWop.no (And.intro hN (And.intro hM lq)) ?_)
    refine ⟨⟨i, by omega⟩, Imp.le ?_, by show i < i + 1; omega⟩
    exact sL_leZ (And.intro hK (And.intro hN (And.intro hM lq)))
  have ht' := of_decide_eq_false ht
  obtain rfl : k = 0 := by omega
  have z1 : A / 65536 ^ 0 / B * 65536 ^ 0 = A / B := by rw [Nat.pow_zero, Nat.div_one, Nat.mul_one]
  have z2 : A / 65536 ^ 0 = A := by rw [Nat.pow_zero, Nat.div_one]
  rw [z1, z2, Nat.sub_zero]
  repeat' first
    | refine W.seq ?_ | (refine W.regS G ?_; dsimp only) | refine SW.nil ?_ | refine thenQ_normal ?_ | refine W.skip ?_ | refine W.exit ?_ | refine thenQ_exit ?_ | refine inBlockQ_exit ?_ | refine inBlockQ_normal ?_ | refine W.block ?_
    | (apply SW.toC; refine SWcall.go (And.intro hN (And.intro hM lq)) ?_) | (apply SW.toOp; refine SWop.go (And.intro hN (And.intro hM lq)) ?_) | (apply SW.toCG; first | refine SWcall.yes (And.intro hN (And.intro hM lq)) ?_ | refine SWcall.no (And.intro hN (And.intro hM lq)) ?_) | (apply SW.toG; first | refine SWop.yes (And.intro hN (And.intro hM lq)) ?_ | refine SWop.no (And.intro hN (And.intro hM lq)) ?_)
  refine W.ret ?_
  repeat' first
    | refine thenQ_ret ?_
    | refine inBlockQ_ret ?_
  refine fin2Z (And.intro lq (And.intro hN (And.intro hM lq))) ?_ ?_
  · exact leV_refl
  · exact leV_refl
end Go.Vm.C01

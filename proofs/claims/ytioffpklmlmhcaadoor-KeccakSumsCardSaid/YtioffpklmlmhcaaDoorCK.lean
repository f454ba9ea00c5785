/- What some functions of the program compute, walked through once. -/
import Derived.Test.YtioffpklmlmhcaaDoorCJ
namespace Go.Vm.C03
open Go Go.Proofs
set_option linter.unusedVariables false
set_option linter.unusedSimpArgs false
set_option maxRecDepth 100000
set_option maxHeartbeats 8000000

/-! ### turning -/
theorem rot_bits (x : BitVec 64) (k : Nat) (h0 : 0 < k) (h : k < 64) : rotF x (k : Int) = x <<< k ||| x >>> (64 - k) := by
  have e1 : (BitVec.ofInt 64 (k : Int) &&& 63#64).toNat = k := by
    rw [BitVec.toNat_and, BitVec.toNat_ofInt]
    have : ((k : Int) % ((2 ^ 64 : Nat) : Int)).toNat = k := by omega
    rw [this]
    show k &&& 63 = k
    rw [show (63 : Nat) = 2 ^ 6 - 1 from rfl, Nat.and_two_pow_sub_one_eq_mod]
    omega
  have e2 : (64#64 - (BitVec.ofInt 64 (k : Int) &&& 63#64)).toNat = 64 - k := by
    rw [BitVec.toNat_sub, e1]
    show (2 ^ 64 - k + 64) % 2 ^ 64 = 64 - k
    omega
  unfold rotF
  rw [e1, e2]
theorem rot_bit (x : BitVec 64) (k i : Nat) (h0 : 0 < k) (h : k < 64) (hi : i < 64) : (rotF x (k : Int)).getLsbD i = x.getLsbD ((i + (64 - k)) % 64) := by
  rw [rot_bits x k h0 h, BitVec.getLsbD_or, BitVec.getLsbD_shiftLeft, BitVec.getLsbD_ushiftRight]
  by_cases hk : i < k
  · have e : (i + (64 - k)) % 64 = 64 - k + i := by omega
    rw [e]
    simp [hk, hi]
  · have e : (i + (64 - k)) % 64 = i - k := by omega
    rw [e, BitVec.getLsbD_of_ge x (64 - k + i) (by omega)]
    simp [hk, hi]
theorem rot_inj (x y : BitVec 64) (k : Nat) (h0 : 0 < k) (h : k < 64) (e : rotF x (k : Int) = rotF y (k : Int)) : x = y := by
  refine BitVec.eq_of_getLsbD_eq fun j hj => ?_
  have h1 := rot_bit x k ((j + k) % 64) h0 h (by omega)
  have h2 := rot_bit y k ((j + k) % 64) h0 h (by omega)
  have e1 : ((j + k) % 64 + (64 - k)) % 64 = j := by omega
  rw [e1] at h1 h2
  rw [← h1, ← h2, e]

/-! ### chi -/
theorem chi_bits : ∀ (a b c d e p q r s t : Bool), (a ^^ (!b && c)) = (p ^^ (!q && r)) → (b ^^ (!c && d)) = (q ^^ (!r && s)) → (c ^^ (!d && e)) = (r ^^ (!s && t)) → (d ^^ (!e && a)) = (s ^^ (!t && p)) → (e ^^ (!a && b)) = (t ^^ (!p && q)) →
    a = p ∧ b = q ∧ c = r ∧ d = s ∧ e = t := by decide
theorem chi_row (a b c d e p q r s t : BitVec 64) (h1 : a ^^^ (~~~ b &&& c) = p ^^^ (~~~ q &&& r)) (h2 : b ^^^ (~~~ c &&& d) = q ^^^ (~~~ r &&& s)) (h3 : c ^^^ (~~~ d &&& e) = r ^^^ (~~~ s &&& t)) (h4 : d ^^^ (~~~ e &&& a) = s ^^^ (~~~ t &&& p)) (h5 : e ^^^ (~~~ a &&& b) = t ^^^ (~~~ p &&& q)) :
    a = p ∧ b = q ∧ c = r ∧ d = s ∧ e = t := by
  have key : ∀ i, i < 64 → a.getLsbD i = p.getLsbD i ∧ b.getLsbD i = q.getLsbD i ∧ c.getLsbD i = r.getLsbD i ∧ d.getLsbD i = s.getLsbD i ∧ e.getLsbD i = t.getLsbD i := by
    intro i hi
    have f : ∀ {x y z u v w : BitVec 64}, x ^^^ (~~~ y &&& z) = u ^^^ (~~~ v &&& w) → (x.getLsbD i ^^ (!y.getLsbD i && z.getLsbD i)) = (u.getLsbD i ^^ (!v.getLsbD i && w.getLsbD i)) := by
      intro x y z u v w hh
      have := congrArg (fun x => BitVec.getLsbD x i) hh
      simpa [BitVec.getLsbD_xor, BitVec.getLsbD_and, BitVec.getLsbD_not, hi] using this
    exact chi_bits _ _ _ _ _ _ _ _ _ _ (f h1) (f h2) (f h3) (f h4) (f h5)
  exact ⟨BitVec.eq_of_getLsbD_eq fun i hi => (key i hi).1, BitVec.eq_of_getLsbD_eq fun i hi => (key i hi).2.1, BitVec.eq_of_getLsbD_eq fun i hi => (key i hi).2.2.1,
    BitVec.eq_of_getLsbD_eq fun i hi => (key i hi).2.2.2.1, BitVec.eq_of_getLsbD_eq fun i hi => (key i hi).2.2.2.2⟩

/-! ### theta: what is its own columns' sum is nothing -/
theorem theta_step (f : Nat → Nat → Bool) (a : Nat) (h : ∀ x z, f x z = (f (x + 4 * a) z ^^ f (x + a) (z + 63 * a))) : ∀ x z, f x z = (f (x + 4 * (2 * a)) z ^^ f (x + 2 * a) (z + 63 * (2 * a))) := by
  intro x z
  rw [h x z, h (x + 4 * a) z, h (x + a) (z + 63 * a)]
  rw [show x + 4 * a + 4 * a = x + 4 * (2 * a) by omega, show x + 4 * a + a = x + 5 * a by omega, show x + a + 4 * a = x + 5 * a by omega, show x + a + a = x + 2 * a by omega, show z + 63 * a + 63 * a = z + 63 * (2 * a) by omega]
  cases f (x + 4 * (2 * a)) z <;> cases f (x + 5 * a) (z + 63 * a) <;> cases f (x + 2 * a) (z + 63 * (2 * a)) <;> rfl
theorem theta_five : ∀ (a b c d e : Bool), a = (b ^^ e) → b = (c ^^ a) → c = (d ^^ b) → d = (e ^^ c) → e = (a ^^ d) → a = false := by decide
theorem theta_zero (f : Nat → Nat → Bool) (h : ∀ x z, f x z = (f (x + 4) z ^^ f (x + 1) (z + 63))) (hx : ∀ x z, f (x + 5) z = f x z) (hz : ∀ x z, f x (z + 64) = f x z) : ∀ z, f 0 z = false := by
  have h64 := theta_step f 32 (theta_step f 16 (theta_step f 8 (theta_step f 4 (theta_step f 2 (theta_step f 1 (by simpa using h))))))
  have hx' : ∀ n x z, f (x + 5 * n) z = f x z := by
    intro n
    induction n with
    | zero => intro x z; rfl
    | succ n ih => intro x z; rw [show x + 5 * (n + 1) = (x + 5 * n) + 5 by omega, hx, ih]
  have hz' : ∀ n x z, f x (z + 64 * n) = f x z := by
    intro n
    induction n with
    | zero => intro x z; rfl
    | succ n ih => intro x z; rw [show z + 64 * (n + 1) = (z + 64 * n) + 64 by omega, hz, ih]
  have h2 : ∀ x z, f x z = (f (x + 1) z ^^ f (x + 4) z) := by
    intro x z
    have := h64 x z
    rw [show x + 4 * (2 * 32) = (x + 1) + 5 * 51 by omega, show x + 2 * 32 = (x + 4) + 5 * 12 by omega, show z + 63 * (2 * 32) = z + 64 * 63 by omega, hx', hx', hz'] at this
    exact this
  intro z
  have e0 := h2 0 z
  have e1 := h2 1 z
  have e2 := h2 2 z
  have e3 := h2 3 z
  have e4 := h2 4 z
  rw [show 1 + 4 = 0 + 5 by omega, hx] at e1
  rw [show 2 + 4 = 1 + 5 by omega, hx] at e2
  rw [show 3 + 4 = 2 + 5 by omega, hx] at e3
  rw [show 4 + 1 = 0 + 5 by omega, show 4 + 4 = 3 + 5 by omega, hx, hx] at e4
  exact theta_five _ _ _ _ _ e0 e1 e2 e3 e4

theorem theta_cols (u0 u1 u2 u3 u4 : BitVec 64) (h0 : u0 = u4 ^^^ rotF u1 1) (h1 : u1 = u0 ^^^ rotF u2 1) (h2 : u2 = u1 ^^^ rotF u3 1) (h3 : u3 = u2 ^^^ rotF u4 1) (h4 : u4 = u3 ^^^ rotF u0 1) : u0 = 0#64 := by
  let f : Nat → Nat → Bool := fun x z => ((if x % 5 = 0 then u0 else if x % 5 = 1 then u1 else if x % 5 = 2 then u2 else if x % 5 = 3 then u3 else u4) : BitVec 64).getLsbD (z % 64)
  have hb : ∀ {p q r : BitVec 64}, p = q ^^^ rotF r 1 → ∀ z, p.getLsbD (z % 64) = (q.getLsbD (z % 64) ^^ r.getLsbD ((z + 63) % 64)) := by
    intro p q r hp z
    rw [hp, BitVec.getLsbD_xor, show (1 : Int) = ((1 : Nat) : Int) from rfl, rot_bit r 1 (z % 64) (by omega) (by omega) (by omega)]
    rw [show (z % 64 + (64 - 1)) % 64 = (z + 63) % 64 by omega]
  have key := theta_zero f (by
    intro x z
    have hm : x % 5 = 0 ∨ x % 5 = 1 ∨ x % 5 = 2 ∨ x % 5 = 3 ∨ x % 5 = 4 := by omega
    rcases hm with e | e | e | e | e
    · have a1 : (x + 4) % 5 = 4 := by omega
      have a2 : (x + 1) % 5 = 1 := by omega
      simp only [f, e, a1, a2]
      exact hb h0 z
    · have a1 : (x + 4) % 5 = 0 := by omega
      have a2 : (x + 1) % 5 = 2 := by omega
      simp only [f, e, a1, a2]
      exact hb h1 z
    · have a1 : (x + 4) % 5 = 1 := by omega
      have a2 : (x + 1) % 5 = 3 := by omega
      simp only [f, e, a1, a2]
      exact hb h2 z
    · have a1 : (x + 4) % 5 = 2 := by omega
      have a2 : (x + 1) % 5 = 4 := by omega
      simp only [f, e, a1, a2]
      exact hb h3 z
    · have a1 : (x + 4) % 5 = 3 := by omega
      have a2 : (x + 1) % 5 = 0 := by omega
      simp only [f, e, a1, a2]
      exact hb h4 z)
    (by intro x z; simp only [f, show (x + 5) % 5 = x % 5 by omega]) (by intro x z; simp only [f, show (z + 64) % 64 = z % 64 by omega])
  refine BitVec.eq_of_getLsbD_eq fun i hi => ?_
  have := key i
  simp only [f, show i % 64 = i by omega] at this
  simpa using this
theorem rot_xor (x y : BitVec 64) : rotF (x ^^^ y) 1 = rotF x 1 ^^^ rotF y 1 := by
  refine BitVec.eq_of_getLsbD_eq fun i hi => ?_
  have h : ∀ x : BitVec 64, (rotF x 1).getLsbD i = x.getLsbD ((i + 63) % 64) := fun x => rot_bit x 1 i (by omega) (by omega) hi
  rw [h, BitVec.getLsbD_xor, BitVec.getLsbD_xor, h, h]

theorem col_diff (a0 a1 a2 a3 a4 b0 b1 b2 b3 b4 p q r s : BitVec 64) (h0 : a0 ^^^ (p ^^^ q) = b0 ^^^ (r ^^^ s)) (h1 : a1 ^^^ (p ^^^ q) = b1 ^^^ (r ^^^ s)) (h2 : a2 ^^^ (p ^^^ q) = b2 ^^^ (r ^^^ s)) (h3 : a3 ^^^ (p ^^^ q) = b3 ^^^ (r ^^^ s)) (h4 : a4 ^^^ (p ^^^ q) = b4 ^^^ (r ^^^ s)) :
    (a0 ^^^ a1 ^^^ a2 ^^^ a3 ^^^ a4) ^^^ (b0 ^^^ b1 ^^^ b2 ^^^ b3 ^^^ b4) = (p ^^^ r) ^^^ (q ^^^ s) := by
  have bits : ∀ (a0 a1 a2 a3 a4 b0 b1 b2 b3 b4 p q : Bool), (a0 ^^ p) = (b0 ^^ q) → (a1 ^^ p) = (b1 ^^ q) → (a2 ^^ p) = (b2 ^^ q) → (a3 ^^ p) = (b3 ^^ q) → (a4 ^^ p) = (b4 ^^ q) →
      ((a0 ^^ a1 ^^ a2 ^^ a3 ^^ a4) ^^ (b0 ^^ b1 ^^ b2 ^^ b3 ^^ b4)) = (p ^^ q) := by
    intro a0 a1 a2 a3 a4 b0 b1 b2 b3 b4 p q h0 h1 h2 h3 h4
    have f : ∀ {a b : Bool}, (a ^^ p) = (b ^^ q) → a = (b ^^ (p ^^ q)) := by intro a b h; cases a <;> cases b <;> cases p <;> cases q <;> simp_all
    rw [f h0, f h1, f h2, f h3, f h4]
    cases b0 <;> cases b1 <;> cases b2 <;> cases b3 <;> cases b4 <;> cases p <;> cases q <;> rfl
  refine BitVec.eq_of_getLsbD_eq fun i hi => ?_
  have f : ∀ {x y : BitVec 64}, x ^^^ (p ^^^ q) = y ^^^ (r ^^^ s) → (x.getLsbD i ^^ (p ^^^ q).getLsbD i) = (y.getLsbD i ^^ (r ^^^ s).getLsbD i) := by
    intro x y hh
    rw [← BitVec.getLsbD_xor, hh, BitVec.getLsbD_xor]
  have := bits _ _ _ _ _ _ _ _ _ _ _ _ (f h0) (f h1) (f h2) (f h3) (f h4)
  have e : (p ^^^ r) ^^^ (q ^^^ s) = (p ^^^ q) ^^^ (r ^^^ s) := by
    rw [BitVec.xor_assoc, ← BitVec.xor_assoc r q s, BitVec.xor_comm r q, BitVec.xor_assoc q r s, ← BitVec.xor_assoc]
  rw [e]
  simpa only [BitVec.getLsbD_xor] using this
theorem theta_ex (s0 s1 s2 s3 s4 s5 s6 s7 s8 s9 s10 s11 s12 s13 s14 s15 s16 s17 s18 s19 s20 s21 s22 s23 s24 t0 t1 t2 t3 t4 t5 t6 t7 t8 t9 t10 t11 t12 t13 t14 t15 t16 t17 t18 t19 t20 t21 t22 t23 t24 : BitVec 64) (h0 : s0 ^^^ ((s4 ^^^ s9 ^^^ s14 ^^^ s19 ^^^ s24) ^^^ rotF (s1 ^^^ s6 ^^^ s11 ^^^ s16 ^^^ s21) 1) = t0 ^^^ ((t4 ^^^ t9 ^^^ t14 ^^^ t19 ^^^ t24) ^^^ rotF (t1 ^^^ t6 ^^^ t11 ^^^ t16 ^^^ t21) 1)) (h1 : s1 ^^^ ((s0 ^^^ s5 ^^^ s10 ^^^ s15 ^^^ s20) ^^^ rotF (s2 ^^^ s7 ^^^ s12 ^^^ s17 ^^^ s22) 1) = t1 ^^^ ((t0 ^^^ t5 ^^^ t10 ^^^ t15 ^^^ t20) ^^^ rotF (t2 ^^^ t7 ^^^ t12 ^^^ t17 ^^^ t22) 1)) (h2 : s2 ^^^ ((s1 ^^^ s6 ^^^ s11 ^^^ s16 ^^^ s21) ^^^ rotF (s3 ^^^ s8 ^^^ s13 ^^^ s18 ^^^ s23) 1) = t2 ^^^ ((t1 ^^^ t6 ^^^ t11 ^^^ t16 ^^^ t21) ^^^ rotF (t3 ^^^ t8 ^^^ t13 ^^^ t18 ^^^ t23) 1)) (h3 : s3 ^^^ ((s2 ^^^ s7 ^^^ s12 ^^^ s17 ^^^ s22) ^^^ rotF (s4 ^^^ s9 ^^^ s14 ^^^ s19 ^^^ s24) 1) = t3 ^^^ ((t2 ^^^ t7 ^^^ t12 ^^^ t17 ^^^ t22) ^^^ rotF (t4 ^^^ t9 ^^^ t14 ^^^ t19 ^^^ t24) 1)) (h4 : s4 ^^^ ((s3 ^^^ s8 ^^^ s13 ^^^ s18 ^^^ s23) ^^^ rotF (s0 ^^^ s5 ^^^ s10 ^^^ s15 ^^^ s20) 1) = t4 ^^^ ((t3 ^^^ t8 ^^^ t13 ^^^ t18 ^^^ t23) ^^^ rotF (t0 ^^^ t5 ^^^ t10 ^^^ t15 ^^^ t20) 1)) (h5 : s5 ^^^ ((s4 ^^^ s9 ^^^ s14 ^^^ s19 ^^^ s24) ^^^ rotF (s1 ^^^ s6 ^^^ s11 ^^^ s16 ^^^ s21) 1) = t5 ^^^ ((t4 ^^^ t9 ^^^ t14 ^^^ t19 ^^^ t24) ^^^ rotF (t1 ^^^ t6 ^^^ t11 ^^^ t16 ^^^ t21) 1)) (h6 : s6 ^^^ ((s0 ^^^ s5 ^^^ s10 ^^^ s15 ^^^ s20) ^^^ rotF (s2 ^^^ s7 ^^^ s12 ^^^ s17 ^^^ s22) 1) = t6 ^^^ ((t0 ^^^ t5 ^^^ t10 ^^^ t15 ^^^ t20) ^^^ rotF (t2 ^^^ t7 ^^^ t12 ^^^ t17 ^^^ t22) 1)) (h7 : s7 ^^^ ((s1 ^^^ s6 ^^^ s11 ^^^ s16 ^^^ s21) ^^^ rotF (s3 ^^^ s8 ^^^ s13 ^^^ s18 ^^^ s23) 1) = t7 ^^^ ((t1 ^^^ t6 ^^^ t11 ^^^ t16 ^^^ t21) ^^^ rotF (t3 ^^^ t8 ^^^ t13 ^^^ t18 ^^^ t23) 1)) (h8 : s8 ^^^ ((s2 ^^^ s7 ^^^ s12 ^^^ s17 ^^^ s22) ^^^ rotF (s4 ^^^ s9 ^^^ s14 ^^^ s19 ^^^ s24) 1) = t8 ^^^ ((t2 ^^^ t7 ^^^ t12 ^^^ t17 ^^^ t22) ^^^ rotF (t4 ^^^ t9 ^^^ t14 ^^^ t19 ^^^ t24) 1)) (h9 : s9 ^^^ ((s3 ^^^ s8 ^^^ s13 ^^^ s18 ^^^ s23) ^^^ rotF (s0 ^^^ s5 ^^^ s10 ^^^ s15 ^^^ s20) 1) = t9 ^^^ ((t3 ^^^ t8 ^^^ t13 ^^^ t18 ^^^ t23) ^^^ rotF (t0 ^^^ t5 ^^^ t10 ^^^ t15 ^^^ t20) 1)) (h10 : s10 ^^^ ((s4 ^^^ s9 ^^^ s14 ^^^ s19 ^^^ s24) ^^^ rotF (s1 ^^^ s6 ^^^ s11 ^^^ s16 ^^^ s21) 1) = t10 ^^^ ((t4 ^^^ t9 ^^^ t14 ^^^ t19 ^^^ t24) ^^^ rotF (t1 ^^^ t6 ^^^ t11 ^^^ t16 ^^^ t21) 1)) (h11 : s11 ^^^ ((s0 ^^^ s5 ^^^ s10 ^^^ s15 ^^^ s20) ^^^ rotF (s2 ^^^ s7 ^^^ s12 ^^^ s17 ^^^ s22) 1) = t11 ^^^ ((t0 ^^^ t5 ^^^ t10 ^^^ t15 ^^^ t20) ^^^ rotF (t2 ^^^ t7 ^^^ t12 ^^^ t17 ^^^ t22) 1)) (h12 : s12 ^^^ ((s1 ^^^ s6 ^^^ s11 ^^^ s16 ^^^ s21) ^^^ rotF (s3 ^^^ s8 ^^^ s13 ^^^ s18 ^^^ s23) 1) = t12 ^^^ ((t1 ^^^ t6 ^^^ t11 ^^^ t16 ^^^ t21) ^^^ rotF (t3 ^^^ t8 ^^^ t13 ^^^ t18 ^^^ t23) 1)) (h13 : s13 ^^^ ((s2 ^^^ s7 ^^^ s12 ^^^ s17 ^^^ s22) ^^^ rotF (s4 ^^^ s9 ^^^ s14 ^^^ s19 ^^^ s24) 1) = t13 ^^^ ((t2 ^^^ t7 ^^^ t12 ^^^ t17 ^^^ t22) ^^^ rotF (t4 ^^^ t9 ^^^ t14 ^^^ t19 ^^^ t24) 1)) (h14 : s14 ^^^ ((s3 ^^^ s8 ^^^ s13 ^^^ s18 ^^^ s23) ^^^ rotF (s0 ^^^ s5 ^^^ s10 ^^^ s15 ^^^ s20) 1) = t14 ^^^ ((t3 ^^^ t8 ^^^ t13 ^^^ t18 ^^^ t23) ^^^ rotF (t0 ^^^ t5 ^^^ t10 ^^^ t15 ^^^ t20) 1)) (h15 : s15 ^^^ ((s4 ^^^ s9 ^^^ s14 ^^^ s19 ^^^ s24) ^^^ rotF (s1 ^^^ s6 ^^^ s11 ^^^ s16 ^^^ s21) 1) = t15 ^^^ ((t4 ^^^ t9 ^^^ t14 ^^^ t19 ^^^ t24) ^^^ rotF (t1 ^^^ t6 ^^^ t11 ^^^ t16 ^^^ t21) 1)) (h16 : s16 ^^^ ((s0 ^^^ s5 ^^^ s10 ^^^ s15 ^^^ s20) ^^^ rotF (s2 ^^^ s7 ^^^ s12 ^^^ s17 ^^^ s22) 1) = t16 ^^^ ((t0 ^^^ t5 ^^^ t10 ^^^ t15 ^^^ t20) ^^^ rotF (t2 ^^^ t7 ^^^ t12 ^^^ t17 ^^^ t22) 1)) (h17 : s17 ^^^ ((s1 ^^^ s6 ^^^ s11 ^^^ s16 ^^^ s21) ^^^ rotF (s3 ^^^ s8 ^^^ s13 ^^^ s18 ^^^ s23) 1) = t17 ^^^ ((t1 ^^^ t6 ^^^ t11 ^^^ t16 ^^^ t21) ^^^ rotF (t3 ^^^ t8 ^^^ t13 ^^^ t18 ^^^ t23) 1)) (h18 : s18 ^^^ ((s2 ^^^ s7 ^^^ s12 ^^^ s17 ^^^ s22) ^^^ rotF (s4 ^^^ s9 ^^^ s14 ^^^ s19 ^^^ s24) 1) = t18 ^^^ ((t2 ^^^ t7 ^^^ t12 ^^^ t17 ^^^ t22) ^^^ rotF (t4 ^^^ t9 ^^^ t14 ^^^ t19 ^^^ t24) 1)) (h19 : s19 ^^^ ((s3 ^^^ s8 ^^^ s13 ^^^ s18 ^^^ s23) ^^^ rotF (s0 ^^^ s5 ^^^ s10 ^^^ s15 ^^^ s20) 1) = t19 ^^^ ((t3 ^^^ t8 ^^^ t13 ^^^ t18 ^^^ t23) ^^^ rotF (t0 ^^^ t5 ^^^ t10 ^^^ t15 ^^^ t20) 1)) (h20 : s20 ^^^ ((s4 ^^^ s9 ^^^ s14 ^^^ s19 ^^^ s24) ^^^ rotF (s1 ^^^ s6 ^^^ s11 ^^^ s16 ^^^ s21) 1) = t20 ^^^ ((t4 ^^^ t9 ^^^ t14 ^^^ t19 ^^^ t24) ^^^ rotF (t1 ^^^ t6 ^^^ t11 ^^^ t16 ^^^ t21) 1)) (h21 : s21 ^^^ ((s0 ^^^ s5 ^^^ s10 ^^^ s15 ^^^ s20) ^^^ rotF (s2 ^^^ s7 ^^^ s12 ^^^ s17 ^^^ s22) 1) = t21 ^^^ ((t0 ^^^ t5 ^^^ t10 ^^^ t15 ^^^ t20) ^^^ rotF (t2 ^^^ t7 ^^^ t12 ^^^ t17 ^^^ t22) 1)) (h22 : s22 ^^^ ((s1 ^^^ s6 ^^^ s11 ^^^ s16 ^^^ s21) ^^^ rotF (s3 ^^^ s8 ^^^ s13 ^^^ s18 ^^^ s23) 1) = t22 ^^^ ((t1 ^^^ t6 ^^^ t11 ^^^ t16 ^^^ t21) ^^^ rotF (t3 ^^^ t8 ^^^ t13 ^^^ t18 ^^^ t23) 1)) (h23 : s23 ^^^ ((s2 ^^^ s7 ^^^ s12 ^^^ s17 ^^^ s22) ^^^ rotF (s4 ^^^ s9 ^^^ s14 ^^^ s19 ^^^ s24) 1) = t23 ^^^ ((t2 ^^^ t7 ^^^ t12 ^^^ t17 ^^^ t22) ^^^ rotF (t4 ^^^ t9 ^^^ t14 ^^^ t19 ^^^ t24) 1)) (h24 : s24 ^^^ ((s3 ^^^ s8 ^^^ s13 ^^^ s18 ^^^ s23) ^^^ rotF (s0 ^^^ s5 ^^^ s10 ^^^ s15 ^^^ s20) 1) = t24 ^^^ ((t3 ^^^ t8 ^^^ t13 ^^^ t18 ^^^ t23) ^^^ rotF (t0 ^^^ t5 ^^^ t10 ^^^ t15 ^^^ t20) 1)) : s0 = t0 ∧ s1 = t1 ∧ s2 = t2 ∧ s3 = t3 ∧ s4 = t4 ∧ s5 = t5 ∧ s6 = t6 ∧ s7 = t7 ∧ s8 = t8 ∧ s9 = t9 ∧ s10 = t10 ∧ s11 = t11 ∧ s12 = t12 ∧ s13 = t13 ∧ s14 = t14 ∧ s15 = t15 ∧ s16 = t16 ∧ s17 = t17 ∧ s18 = t18 ∧ s19 = t19 ∧ s20 = t20 ∧ s21 = t21 ∧ s22 = t22 ∧ s23 = t23 ∧ s24 = t24 := by
  have e0 := col_diff _ _ _ _ _ _ _ _ _ _ _ _ _ _ h0 h5 h10 h15 h20
  have e1 := col_diff _ _ _ _ _ _ _ _ _ _ _ _ _ _ h1 h6 h11 h16 h21
  have e2 := col_diff _ _ _ _ _ _ _ _ _ _ _ _ _ _ h2 h7 h12 h17 h22
  have e3 := col_diff _ _ _ _ _ _ _ _ _ _ _ _ _ _ h3 h8 h13 h18 h23
  have e4 := col_diff _ _ _ _ _ _ _ _ _ _ _ _ _ _ h4 h9 h14 h19 h24
  rw [← rot_xor] at e0 e1 e2 e3 e4
  have g0 : (s0 ^^^ s5 ^^^ s10 ^^^ s15 ^^^ s20) = (t0 ^^^ t5 ^^^ t10 ^^^ t15 ^^^ t20) := by
    have := theta_cols _ _ _ _ _ e0 e1 e2 e3 e4
    exact BitVec.xor_eq_zero_iff.1 this
  have g1 : (s1 ^^^ s6 ^^^ s11 ^^^ s16 ^^^ s21) = (t1 ^^^ t6 ^^^ t11 ^^^ t16 ^^^ t21) := by
    have := theta_cols _ _ _ _ _ e1 e2 e3 e4 e0
    exact BitVec.xor_eq_zero_iff.1 this
  have g2 : (s2 ^^^ s7 ^^^ s12 ^^^ s17 ^^^ s22) = (t2 ^^^ t7 ^^^ t12 ^^^ t17 ^^^ t22) := by
    have := theta_cols _ _ _ _ _ e2 e3 e4 e0 e1
    exact BitVec.xor_eq_zero_iff.1 this
  have g3 : (s3 ^^^ s8 ^^^ s13 ^^^ s18 ^^^ s23) = (t3 ^^^ t8 ^^^ t13 ^^^ t18 ^^^ t23) := by
    have := theta_cols _ _ _ _ _ e3 e4 e0 e1 e2
    exact BitVec.xor_eq_zero_iff.1 this
  have g4 : (s4 ^^^ s9 ^^^ s14 ^^^ s19 ^^^ s24) = (t4 ^^^ t9 ^^^ t14 ^^^ t19 ^^^ t24) := by
    have := theta_cols _ _ _ _ _ e4 e0 e1 e2 e3
    exact BitVec.xor_eq_zero_iff.1 this
  clear e0 e1 e2 e3 e4
  rw [g4, g1] at h0
  rw [g0, g2] at h1
  rw [g1, g3] at h2
  rw [g2, g4] at h3
  rw [g3, g0] at h4
  rw [g4, g1] at h5
  rw [g0, g2] at h6
  rw [g1, g3] at h7
  rw [g2, g4] at h8
  rw [g3, g0] at h9
  rw [g4, g1] at h10
  rw [g0, g2] at h11
  rw [g1, g3] at h12
  rw [g2, g4] at h13
  rw [g3, g0] at h14
  rw [g4, g1] at h15
  rw [g0, g2] at h16
  rw [g1, g3] at h17
  rw [g2, g4] at h18
  rw [g3, g0] at h19
  rw [g4, g1] at h20
  rw [g0, g2] at h21
  rw [g1, g3] at h22
  rw [g2, g4] at h23
  rw [g3, g0] at h24
  have f : ∀ {x y z : BitVec 64}, x ^^^ z = y ^^^ z → x = y := fun h => BitVec.xor_left_inj _ |>.1 h
  exact ⟨f h0, f h1, f h2, f h3, f h4, f h5, f h6, f h7, f h8, f h9, f h10, f h11, f h12, f h13, f h14, f h15, f h16, f h17, f h18, f h19, f h20, f h21, f h22, f h23, f h24⟩

theorem theta_inj (s t c d : List (BitVec 64)) (hs : s.length = 25) (ht : t.length = 25) (hc : c.length = 5) (hd : d.length = 5) (h : pT (pC s 5 c) 5 s = pT (pC t 5 d) 5 t) : s = t := by
  obtain ⟨s0, s1, s2, s3, s4, s5, s6, s7, s8, s9, s10, s11, s12, s13, s14, s15, s16, s17, s18, s19, s20, s21, s22, s23, s24, rfl⟩ := len25 s hs
  obtain ⟨t0, t1, t2, t3, t4, t5, t6, t7, t8, t9, t10, t11, t12, t13, t14, t15, t16, t17, t18, t19, t20, t21, t22, t23, t24, rfl⟩ := len25 t ht
  obtain ⟨c0, c1, c2, c3, c4, rfl⟩ := len5 c hc
  obtain ⟨d0, d1, d2, d3, d4, rfl⟩ := len5 d hd
  rw [pC_ex, pC_ex, pT_ex, pT_ex] at h
  simp only [List.cons.injEq, and_true] at h
  obtain ⟨h0, h1, h2, h3, h4, h5, h6, h7, h8, h9, h10, h11, h12, h13, h14, h15, h16, h17, h18, h19, h20, h21, h22, h23, h24⟩ := h
  obtain ⟨g0, g1, g2, g3, g4, g5, g6, g7, g8, g9, g10, g11, g12, g13, g14, g15, g16, g17, g18, g19, g20, g21, g22, g23, g24⟩ := theta_ex s0 s1 s2 s3 s4 s5 s6 s7 s8 s9 s10 s11 s12 s13 s14 s15 s16 s17 s18 s19 s20 s21 s22 s23 s24 t0 t1 t2 t3 t4 t5 t6 t7 t8 t9 t10 t11 t12 t13 t14 t15 t16 t17 t18 t19 t20 t21 t22 t23 t24 h0 h1 h2 h3 h4 h5 h6 h7 h8 h9 h10 h11 h12 h13 h14 h15 h16 h17 h18 h19 h20 h21 h22 h23 h24
  subst g0 g1 g2 g3 g4 g5 g6 g7 g8 g9 g10 g11 g12 g13 g14 g15 g16 g17 g18 g19 g20 g21 g22 g23 g24
  rfl
theorem rho_inj (s t : List (BitVec 64)) (hs : s.length = 25) (ht : t.length = 25) (h : (pR s 24).1 = (pR t 24).1) : s = t := by
  obtain ⟨s0, s1, s2, s3, s4, s5, s6, s7, s8, s9, s10, s11, s12, s13, s14, s15, s16, s17, s18, s19, s20, s21, s22, s23, s24, rfl⟩ := len25 s hs
  obtain ⟨t0, t1, t2, t3, t4, t5, t6, t7, t8, t9, t10, t11, t12, t13, t14, t15, t16, t17, t18, t19, t20, t21, t22, t23, t24, rfl⟩ := len25 t ht
  rw [pR_ex, pR_ex] at h
  simp only [List.cons.injEq, and_true] at h
  obtain ⟨h0, h1, h2, h3, h4, h5, h6, h7, h8, h9, h10, h11, h12, h13, h14, h15, h16, h17, h18, h19, h20, h21, h22, h23, h24⟩ := h
  have g0 : s0 = t0 := h0
  have g1 : s1 = t1 := rot_inj _ _ 1 (by omega) (by omega) h10
  have g2 : s2 = t2 := rot_inj _ _ 62 (by omega) (by omega) h20
  have g3 : s3 = t3 := rot_inj _ _ 28 (by omega) (by omega) h5
  have g4 : s4 = t4 := rot_inj _ _ 27 (by omega) (by omega) h15
  have g5 : s5 = t5 := rot_inj _ _ 36 (by omega) (by omega) h16
  have g6 : s6 = t6 := rot_inj _ _ 44 (by omega) (by omega) h1
  have g7 : s7 = t7 := rot_inj _ _ 6 (by omega) (by omega) h11
  have g8 : s8 = t8 := rot_inj _ _ 55 (by omega) (by omega) h21
  have g9 : s9 = t9 := rot_inj _ _ 20 (by omega) (by omega) h6
  have g10 : s10 = t10 := rot_inj _ _ 3 (by omega) (by omega) h7
  have g11 : s11 = t11 := rot_inj _ _ 10 (by omega) (by omega) h17
  have g12 : s12 = t12 := rot_inj _ _ 43 (by omega) (by omega) h2
  have g13 : s13 = t13 := rot_inj _ _ 25 (by omega) (by omega) h12
  have g14 : s14 = t14 := rot_inj _ _ 39 (by omega) (by omega) h22
  have g15 : s15 = t15 := rot_inj _ _ 41 (by omega) (by omega) h23
  have g16 : s16 = t16 := rot_inj _ _ 45 (by omega) (by omega) h8
  have g17 : s17 = t17 := rot_inj _ _ 15 (by omega) (by omega) h18
  have g18 : s18 = t18 := rot_inj _ _ 21 (by omega) (by omega) h3
  have g19 : s19 = t19 := rot_inj _ _ 8 (by omega) (by omega) h13
  have g20 : s20 = t20 := rot_inj _ _ 18 (by omega) (by omega) h14
  have g21 : s21 = t21 := rot_inj _ _ 2 (by omega) (by omega) h24
  have g22 : s22 = t22 := rot_inj _ _ 61 (by omega) (by omega) h9
  have g23 : s23 = t23 := rot_inj _ _ 56 (by omega) (by omega) h19
  have g24 : s24 = t24 := rot_inj _ _ 14 (by omega) (by omega) h4
  subst g0 g1 g2 g3 g4 g5 g6 g7 g8 g9 g10 g11 g12 g13 g14 g15 g16 g17 g18 g19 g20 g21 g22 g23 g24
  rfl
theorem chi_inj (s t c d : List (BitVec 64)) (hs : s.length = 25) (ht : t.length = 25) (hc : c.length = 5) (hd : d.length = 5) (h : (pK 5 (s, c)).1 = (pK 5 (t, d)).1) : s = t := by
  obtain ⟨s0, s1, s2, s3, s4, s5, s6, s7, s8, s9, s10, s11, s12, s13, s14, s15, s16, s17, s18, s19, s20, s21, s22, s23, s24, rfl⟩ := len25 s hs
  obtain ⟨t0, t1, t2, t3, t4, t5, t6, t7, t8, t9, t10, t11, t12, t13, t14, t15, t16, t17, t18, t19, t20, t21, t22, t23, t24, rfl⟩ := len25 t ht
  obtain ⟨c0, c1, c2, c3, c4, rfl⟩ := len5 c hc
  obtain ⟨d0, d1, d2, d3, d4, rfl⟩ := len5 d hd
  rw [pK_ex, pK_ex] at h
  dsimp only at h
  simp only [List.cons.injEq, and_true] at h
  obtain ⟨h0, h1, h2, h3, h4, h5, h6, h7, h8, h9, h10, h11, h12, h13, h14, h15, h16, h17, h18, h19, h20, h21, h22, h23, h24⟩ := h
  obtain ⟨g0, g1, g2, g3, g4⟩ := chi_row _ _ _ _ _ _ _ _ _ _ h0 h1 h2 h3 h4
  obtain ⟨g5, g6, g7, g8, g9⟩ := chi_row _ _ _ _ _ _ _ _ _ _ h5 h6 h7 h8 h9
  obtain ⟨g10, g11, g12, g13, g14⟩ := chi_row _ _ _ _ _ _ _ _ _ _ h10 h11 h12 h13 h14
  obtain ⟨g15, g16, g17, g18, g19⟩ := chi_row _ _ _ _ _ _ _ _ _ _ h15 h16 h17 h18 h19
  obtain ⟨g20, g21, g22, g23, g24⟩ := chi_row _ _ _ _ _ _ _ _ _ _ h20 h21 h22 h23 h24
  subst g0 g1 g2 g3 g4 g5 g6 g7 g8 g9 g10 g11 g12 g13 g14 g15 g16 g17 g18 g19 g20 g21 g22 g23 g24
  rfl
theorem iota_inj (s t : List (BitVec 64)) (k : BitVec 64) (hs : s.length = 25) (ht : t.length = 25) (h : s.set 0 (s.getD 0 0 ^^^ k) = t.set 0 (t.getD 0 0 ^^^ k)) : s = t := by
  obtain ⟨s0, s1, s2, s3, s4, s5, s6, s7, s8, s9, s10, s11, s12, s13, s14, s15, s16, s17, s18, s19, s20, s21, s22, s23, s24, rfl⟩ := len25 s hs
  obtain ⟨t0, t1, t2, t3, t4, t5, t6, t7, t8, t9, t10, t11, t12, t13, t14, t15, t16, t17, t18, t19, t20, t21, t22, t23, t24, rfl⟩ := len25 t ht
  simp only [List.set_cons_zero, List.getD_cons_zero, List.cons.injEq] at h ⊢
  exact ⟨BitVec.xor_left_inj _ |>.1 h.1, h.2⟩
theorem round_inj (i : Nat) (s t c d : List (BitVec 64)) (hs : s.length = 25) (ht : t.length = 25) (hc : c.length = 5) (hd : d.length = 5) (h : (pRound i (s, c)).1 = (pRound i (t, d)).1) : s = t := by
  have a1 : (pT (pC s 5 c) 5 s).length = 25 := by rw [pT_len, hs]
  have a2 : (pR (pT (pC s 5 c) 5 s) 24).1.length = 25 := by rw [pR_len, a1]
  have a3 : (pK 5 ((pR (pT (pC s 5 c) 5 s) 24).1, pC s 5 c)).1.length = 25 := by rw [pK_len, a2]
  have b1 : (pT (pC t 5 d) 5 t).length = 25 := by rw [pT_len, ht]
  have b2 : (pR (pT (pC t 5 d) 5 t) 24).1.length = 25 := by rw [pR_len, b1]
  have b3 : (pK 5 ((pR (pT (pC t 5 d) 5 t) 24).1, pC t 5 d)).1.length = 25 := by rw [pK_len, b2]
  rw [pRound_ex, pRound_ex] at h
  dsimp only at h
  have e1 := iota_inj _ _ _ a3 b3 h
  have e2 := chi_inj _ _ _ _ a2 b2 (pC_len5 s c 5 hc) (pC_len5 t d 5 hd) e1
  have e3 := rho_inj _ _ a1 b1 e2
  exact theta_inj s t c d hs ht hc hd e3
/-- no two states go to one -/
theorem perm_inj (s t : List (BitVec 64)) (hs : s.length = 25) (ht : t.length = 25) (h : permF s = permF t) : s = t := by
  have key : ∀ k, (itN pRound k (s, zeros 64 5)).1 = (itN pRound k (t, zeros 64 5)).1 → s = t := by
    intro k
    induction k with
    | zero => exact fun h => h
    | succ k ih =>
      intro h
      obtain ⟨_, h2, h3⟩ := rounds_eq s hs k
      obtain ⟨_, h5, h6⟩ := rounds_eq t ht k
      rw [itN_succ, itN_succ] at h
      apply ih
      generalize itN pRound k (s, zeros 64 5) = p at h h2 h3 ⊢
      generalize itN pRound k (t, zeros 64 5) = q at h h5 h6 ⊢
      obtain ⟨a, c⟩ := p
      obtain ⟨b, d⟩ := q
      exact round_inj k a b c d h2 h5 h3 h6 h
  exact key 24 h
end Go.Vm.C03

/- What some functions of the program compute, walked through once. -/
import Derived.Test.YthjgpkaamgoodaaCCC
namespace Go.Vm.C01
open Go Go.Proofs
set_option linter.unusedVariables false
set_option linter.unusedSimpArgs false
set_option maxRecDepth 100000
set_option maxHeartbeats 8000000

/-! ### bit by bit -/
theorem wvk_bit (b : List (BitVec 64)) (k : Nat) : ∀ m, wvk b m / 2 ^ k % 2 = if k / 64 < m then ((b.getD (k / 64) 0 >>> (k % 64)) &&& 1#64).toNat else 0 := by
  intro m
  induction m with
  | zero => rw [if_neg (by omega)]; show 0 / _ % 2 = 0; simp
  | succ m ih =>
    have h1 := wvk_lt b m
    have hs : wvk b (m + 1) = wvk b m + B64 ^ m * (b.getD m 0).toNat := rfl
    have hB : B64 ^ m = 2 ^ (64 * m) := by rw [show B64 = 2 ^ 64 from rfl, ← Nat.pow_mul]
    rw [hB] at h1 hs
    have hx := (b.getD m 0).isLt
    by_cases hlt : k < 64 * m
    · rw [if_pos (by omega)]
      rw [if_pos (by omega)] at ih
      rw [← ih, hs]
      obtain ⟨d, hd⟩ : ∃ d, 64 * m = k + 1 + d := ⟨64 * m - k - 1, by omega⟩
      rw [hd, Nat.pow_add, Nat.pow_succ, Nat.mul_assoc, Nat.mul_assoc, Nat.add_mul_div_left _ _ (Nat.two_pow_pos k), Nat.add_mod, Nat.mul_mod_right, Nat.add_zero, Nat.mod_mod]
    · have hle : 64 * m ≤ k := by omega
      obtain ⟨d, hd⟩ : ∃ d, k = 64 * m + d := ⟨k - 64 * m, by omega⟩
      have hdiv : wvk b (m + 1) / 2 ^ k = (b.getD m 0).toNat / 2 ^ d := by
        rw [hd, Nat.pow_add, ← Nat.div_div_eq_div_mul, hs, Nat.add_mul_div_left _ _ (Nat.two_pow_pos _), Nat.div_eq_of_lt h1, Nat.zero_add]
      rw [hdiv]
      by_cases hd64 : d < 64
      · have e1 : k / 64 = m := by omega
        have e2 : k % 64 = d := by omega
        rw [if_pos (by omega), e1, e2, bit_nat]
      · rw [if_neg (by omega), Nat.div_eq_of_lt]
        exact Nat.lt_of_lt_of_le hx (Nat.pow_le_pow_right (by decide) (by omega))
theorem or_bit {x r : Nat} (h : x / 2 ^ r % 2 = 0) : x ||| 2 ^ r = x + 2 ^ r := by
  have hp := Nat.two_pow_pos r
  have h1 : x % 2 ^ r < 2 ^ r := Nat.mod_lt _ hp
  have e : x = x / 2 ^ r / 2 * 2 ^ (r + 1) + x % 2 ^ r := by
    have h2 := Nat.div_add_mod x (2 ^ r)
    have h3 : x / 2 ^ r = 2 * (x / 2 ^ r / 2) := by omega
    rw [Nat.pow_succ, Nat.mul_comm (2 ^ r), ← Nat.mul_assoc, Nat.mul_comm _ 2, ← h3, Nat.mul_comm _ (2 ^ r), h2]
  generalize x / 2 ^ r / 2 = A at e
  generalize x % 2 ^ r = B at e h1
  subst e
  have e1 : A * 2 ^ (r + 1) + B = A <<< (r + 1) ||| B := by
    rw [← Nat.shiftLeft_eq]
    exact Nat.shiftLeft_add_eq_or_of_lt (by rw [Nat.pow_succ]; omega) A
  have e2 : B ||| 2 ^ r = 2 ^ r + B := by
    have := Nat.shiftLeft_add_eq_or_of_lt h1 1
    rw [Nat.shiftLeft_eq, Nat.one_mul] at this
    rw [Nat.or_comm]
    exact this.symm
  have e3 : A <<< (r + 1) ||| (2 ^ r + B) = A <<< (r + 1) + (2 ^ r + B) := (Nat.shiftLeft_add_eq_or_of_lt (by rw [Nat.pow_succ]; omega) A).symm
  rw [e1, Nat.or_assoc, e2, e3, ← e1, Nat.shiftLeft_eq]
  omega
theorem wvk_or {q : List (BitVec 64)} {i n : Nat} (hn : q.length = n) (hi : i / 64 < n) (h : wvk q n / 2 ^ i % 2 = 0) : wvk (q.set (i / 64) (q.getD (i / 64) 0 ||| 1#64 <<< (i % 64))) n = wvk q n + 2 ^ i := by
  have h1 := wvk_set (l := q) (i := i / 64) (x := q.getD (i / 64) 0 ||| 1#64 <<< (i % 64)) (by omega) hi
  rw [wvk_bit q i n, if_pos hi, bit_nat] at h
  have e1 : (1#64 <<< (i % 64)).toNat = 2 ^ (i % 64) := by
    rw [BitVec.toNat_shiftLeft, Nat.shiftLeft_eq, show (1#64).toNat = 1 from rfl, Nat.one_mul]
    exact Nat.mod_eq_of_lt (Nat.pow_lt_pow_right (by decide) (by omega))
  rw [BitVec.toNat_or, e1, or_bit h, Nat.mul_add] at h1
  have e2 : B64 ^ (i / 64) * 2 ^ (i % 64) = 2 ^ i := by
    rw [show B64 = 2 ^ 64 from rfl, ← Nat.pow_mul, ← Nat.pow_add]
    congr 1
    omega
  rw [e2] at h1
  omega
theorem wvk_inj {l m : List (BitVec 64)} : ∀ k, wvk l k = wvk m k → ∀ j, j < k → l.getD j 0 = m.getD j 0
  | 0, _, j, hj => absurd hj (by omega)
  | k + 1, h, j, hj => by
    have h1 := wvk_lt l k
    have h2 := wvk_lt m k
    have e1 : wvk l (k + 1) = wvk l k + B64 ^ k * (l.getD k 0).toNat := rfl
    have e2 : wvk m (k + 1) = wvk m k + B64 ^ k * (m.getD k 0).toNat := rfl
    rw [e1, e2] at h
    have hp : 0 < B64 ^ k := Nat.pow_pos (by decide)
    have hm : wvk l k = wvk m k := by
      have : (wvk l k + B64 ^ k * (l.getD k 0).toNat) % B64 ^ k = (wvk m k + B64 ^ k * (m.getD k 0).toNat) % B64 ^ k := by rw [h]
      rw [Nat.add_mul_mod_self_left, Nat.add_mul_mod_self_left, Nat.mod_eq_of_lt h1, Nat.mod_eq_of_lt h2] at this
      exact this
    by_cases hjk : j < k
    · exact wvk_inj k hm j hjk
    · have : j = k := by omega
      subst this
      rw [hm] at h
      have h3 := Nat.add_left_cancel h
      exact BitVec.eq_of_toNat_eq (Nat.eq_of_mul_eq_mul_left hp h3)
theorem list_ext64 {n : Nat} {l m : List (BitVec 64)} (hl : l.length = n) (hm : m.length = n) (h : ∀ i, i < n → l.getD i 0 = m.getD i 0) : l = m := by
  refine List.ext_getElem (by rw [hl, hm]) fun i h1 h2 => ?_
  have := h i (by omega)
  simpa [List.getD_eq_getElem?_getD, h1, h2] using this
def lOf (n v : Nat) : List (BitVec 64) := (List.range n).map (fun k => BitVec.ofNat 64 (v / B64 ^ k))
theorem lOf_len (n v : Nat) : (lOf n v).length = n := by simp [lOf]
theorem lOf_at {n v k : Nat} (h : k < n) : (lOf n v).getD k 0 = BitVec.ofNat 64 (v / B64 ^ k) := by
  unfold lOf
  simp [List.getD_eq_getElem?_getD, h]
theorem lOf_val (n v : Nat) : ∀ k, k ≤ n → wvk (lOf n v) k = v % B64 ^ k
  | 0, _ => by rw [Nat.pow_zero, Nat.mod_one]; rfl
  | k + 1, h => by
    have e1 : wvk (lOf n v) (k + 1) = wvk (lOf n v) k + B64 ^ k * ((lOf n v).getD k 0).toNat := rfl
    rw [e1, lOf_val n v k (by omega), lOf_at (by omega), BitVec.toNat_ofNat]
    exact Nat.mod_pow_succ.symm
theorem eq_lOf {l : List (BitVec 64)} {n v : Nat} (hl : l.length = n) (h : wvk l n = v) : l = lOf n v := by
  refine list_ext64 hl (lOf_len n v) (wvk_inj n ?_)
  rw [lOf_val n v n (Nat.le_refl _), ← h]
  exact (Nat.mod_eq_of_lt (wvk_lt l n)).symm
theorem div_ge {P m b : Nat} (hm : 0 < m) (hb : b ≤ 1) (h : m ≤ 2 * (P % m) + b) : (2 * P + b) / m = 2 * (P / m) + 1 ∧ (2 * P + b) % m = 2 * (P % m) + b - m := by
  have h1 := Nat.div_add_mod P m
  have h2 := Nat.mod_lt P hm
  have e : 2 * P + b = m * (2 * (P / m) + 1) + (2 * (P % m) + b - m) := by
    rw [Nat.mul_add, Nat.mul_one, ← Nat.mul_assoc, Nat.mul_comm m 2, Nat.mul_assoc]
    omega
  have e3 : (2 * (P % m) + b - m) / m = 0 := Nat.div_eq_of_lt (by omega)
  have e4 : (2 * (P % m) + b - m) % m = 2 * (P % m) + b - m := Nat.mod_eq_of_lt (by omega)
  constructor
  · rw [e, Nat.mul_add_div hm, e3, Nat.add_zero]
  · rw [e, Nat.mul_add_mod, e4]
theorem div_lt {P m b : Nat} (hm : 0 < m) (hb : b ≤ 1) (h : ¬ m ≤ 2 * (P % m) + b) : (2 * P + b) / m = 2 * (P / m) ∧ (2 * P + b) % m = 2 * (P % m) + b := by
  have h1 := Nat.div_add_mod P m
  have h2 := Nat.mod_lt P hm
  have e : 2 * P + b = m * (2 * (P / m)) + (2 * (P % m) + b) := by
    rw [← Nat.mul_assoc, Nat.mul_comm m 2, Nat.mul_assoc]
    omega
  have e3 : (2 * (P % m) + b) / m = 0 := Nat.div_eq_of_lt (by omega)
  have e4 : (2 * (P % m) + b) % m = 2 * (P % m) + b := Nat.mod_eq_of_lt (by omega)
  constructor
  · rw [e, Nat.mul_add_div hm, e3, Nat.add_zero]
  · rw [e, Nat.mul_add_mod, e4]
noncomputable def divideS : FSpec := { run := fun ins => match ins with
  | [.sl false (.u 64 p), .agg 4 (.u 64 m)] => chk (m.length = 4 ∧ 0 < wv m ∧ p.length ≤ 1000) (some (.tup [.sl true (.u 64 (lOf p.length (wvk p p.length / wv m))), .agg 4 (.u 64 (wOf (wvk p p.length % wv m)))], []))
  | _ => none }
theorem divide_sound : SoundFn Try.prog glB 78 divideS.run := by
  have G := good_of (P := Try.prog) glB_ro (l := [(91, dblS), (75, subS)]) (by simp only [List.forall_mem_cons]; exact ⟨dbl_sound, wsub_sound, by simp⟩)
  refine soundFn_of_W G Try.func78 (by decide) rfl (by decide) ?_
  intro ins ret outs h
  unfold divideS at h
  dsimp only at h
  split at h
  rotate_left
  · cases h
  rename_i p m
  obtain ⟨hl, h'⟩ := chk_some h
  clear h
  cases h'
  obtain ⟨lm, hm, lp⟩ := hl
  refine ⟨by show 2 ≤ 62; decide, fun w0 ext av => ?_⟩
  rw [Try.ntmps78, st0_eq]
  have hp := wvk_lt p p.length
  have hbit := fun k => wvk_bit p k p.length
  have hM := wv_lt m
  obtain ⟨mv, hmv⟩ : ∃ v, wv m = v := ⟨_, rfl⟩
  rw [hmv] at hm hM ⊢
  generalize hN : p.length = N at lp hp hbit ⊢
  generalize wvk p N = pv at hp hbit ⊢
  have hB : B64 ^ N = 2 ^ (64 * N) := by rw [show B64 = 2 ^ 64 from rfl, ← Nat.pow_mul]
  have p0 : pv / 2 ^ (64 * N) = 0 := Nat.div_eq_of_lt (by rw [← hB]; exact hp)
  have eN : (N : Int) * 64 - 1 = ((64 * N : Nat) : Int) - 1 := by omega
  have hz : zeros 64 4 = wOf (pv / 2 ^ (64 * N) % mv) := by rw [p0, Nat.zero_mod]; rfl
  repeat' first
    | refine W.seq ?_ | (refine W.regS G ?_; dsimp only) | refine SW.nil ?_ | refine thenQ_normal ?_ | refine W.skip ?_ | refine W.exit ?_ | refine thenQ_exit ?_ | refine inBlockQ_exit ?_ | refine inBlockQ_normal ?_ | refine W.block ?_
    | (apply SW.toC; refine SWcall.go (And.intro hN eN) ?_) | (apply SW.toOp; refine SWop.go (And.intro hN eN) ?_) | (apply SW.toCG; first | refine SWcall.yes (And.intro hN eN) ?_ | refine SWcall.no (And.intro hN eN) ?_) | (apply SW.toG; first | refine SWop.yes (And.intro hN eN) ?_ | refine SWop.no (And.intro hN eN) ?_)
  refine W.loopI (ι := {t : Nat × List (BitVec 64) // t.1 ≤ 64 * N ∧ t.2.length = N ∧ wvk t.2 N = pv / 2 ^ t.1 / mv * 2 ^ t.1}) (fun t => sL [(0, .sl false (.u 64 p)), (3, .p 3 0 0 0), (5, .p 5 0 0 0), (6, .gr 14 N), (7, .p 7 0 0 0), (8, .i ((t.1.1 : Int) - 1))] [(3, .agg 4 (.u 64 m)), (5, .agg 4 (.u 64 (zeros 64 4))), (7, .agg 4 (.u 64 (wOf (pv / 2 ^ t.1.1 % mv)))), (14, .row (.u 64 t.1.2))] 62) (fun t => t.1.1) ⟨(64 * N, zeros 64 N), Nat.le_refl _, by simp [zeros], by dsimp only; rw [p0, Nat.zero_div, Nat.zero_mul]; exact wvk_zeros _ _⟩ (Imp.le ?_) ?_
  · have hz2 := hz.symm
    exact sL_leZ (And.intro hz2 (And.intro hN eN))
  rintro ⟨⟨k, q⟩, hk, lq, hI⟩
  dsimp only at hk lq hI
  repeat' first
    | refine W.seq ?_ | (refine W.regS G ?_; dsimp only) | refine SW.nil ?_ | refine thenQ_normal ?_ | refine W.skip ?_ | refine W.exit ?_ | refine thenQ_exit ?_ | refine inBlockQ_exit ?_ | refine inBlockQ_normal ?_ | refine W.block ?_
    | (apply SW.toC; refine SWcall.go (And.intro hN lq) ?_) | (apply SW.toOp; refine SWop.go (And.intro hN lq) ?_) | (apply SW.toCG; first | refine SWcall.yes (And.intro hN lq) ?_ | refine SWcall.no (And.intro hN lq) ?_) | (apply SW.toG; first | refine SWop.yes (And.intro hN lq) ?_ | refine SWop.no (And.intro hN lq) ?_)
  refine W.condZ G (And.intro hN lq) ?_ ?_
  all_goals intro ht
  · have ht' := of_decide_eq_true ht
    obtain ⟨i, rfl⟩ : ∃ i, k = i + 1 := ⟨k - 1, by omega⟩
    have ei : ((i + 1 : Nat) : Int) - 1 = ((i : Nat) : Int) := by omega
    have e1 : ((i : Int) / 64) = ((i / 64 : Nat) : Int) := by omega
    have e2 : ((i : Int) % 64) = ((i % 64 : Nat) : Int) := by omega
    have hi : i / 64 < N := by omega
    have hb := hbit i
    rw [if_pos hi] at hb
    obtain ⟨b1, _⟩ := bit_one (p.getD (i / 64) 0) (i % 64)
    obtain ⟨b, hbe⟩ : ∃ b, p.getD (i / 64) 0 >>> (i % 64) &&& 1#64 = b := ⟨_, rfl⟩
    rw [hbe] at hb b1
    have hstep : pv / 2 ^ i = 2 * (pv / 2 ^ (i + 1)) + b.toNat := by
      rw [Nat.pow_succ, ← Nat.div_div_eq_div_mul]
      omega
    have wr : wv (wOf (pv / 2 ^ (i + 1) % mv)) = pv / 2 ^ (i + 1) % mv := by
      rw [wv_wOf]
      exact Nat.mod_eq_of_lt (Nat.lt_trans (Nat.mod_lt _ hm) hM)
    have hrl : pv / 2 ^ (i + 1) % mv < mv := Nat.mod_lt _ hm
    have hge := div_ge (P := pv / 2 ^ (i + 1)) hm b1
    have hlt := div_lt (P := pv / 2 ^ (i + 1)) hm b1
    rw [← hstep] at hge hlt
    have hbz : wvk q N / 2 ^ i % 2 = 0 := by
      rw [hI, Nat.pow_succ, ← Nat.mul_assoc, Nat.mul_right_comm, Nat.mul_div_cancel _ (Nat.two_pow_pos i), Nat.mul_mod_left]
    have hor := wvk_or lq hi hbz
    rw [hI] at hor
    generalize pv / 2 ^ (i + 1) = Pk at *
    obtain ⟨X, hX⟩ : ∃ X, 2 * (Pk % mv) + b.toNat = X := ⟨_, rfl⟩
    rw [hX] at hge hlt
    have lo : ∀ v, (q.set (i / 64) v).length = N := fun v => by rw [List.length_set]; exact lq
    repeat' first
      | refine W.seq ?_ | (refine W.regS G ?_; dsimp only) | refine SW.nil ?_ | refine thenQ_normal ?_ | refine W.skip ?_ | refine W.exit ?_ | refine thenQ_exit ?_ | refine inBlockQ_exit ?_ | refine inBlockQ_normal ?_
      | (apply SW.toC; refine SWcall.go (And.intro hN (And.intro lq (And.intro ei (And.intro e1 (And.intro e2 (And.intro hbe (And.intro dblS.eq_1 (And.intro subS.eq_1 (And.intro wr (And.intro hX hmv)))))))))) ?_) | (apply SW.toOp; refine SWop.go (And.intro hN (And.intro lq (And.intro ei (And.intro e1 (And.intro e2 (And.intro hbe (And.intro dblS.eq_1 (And.intro subS.eq_1 (And.intro wr (And.intro hX hmv)))))))))) ?_) | (apply SW.toCG; first | refine SWcall.yes (And.intro hN (And.intro lq (And.intro ei (And.intro e1 (And.intro e2 (And.intro hbe (And.intro dblS.eq_1 (And.intro subS.eq_1 (And.intro wr (And.intro hX hmv)))))))))) ?_ | refine SWcall.no (And.intro hN (And.intro lq (And.intro ei (And.intro e1 (And.intro e2 (And.intro hbe (And.intro dblS.eq_1 (And.intro subS.eq_1 (And.intro wr (And.intro hX hmv)))))))))) ?_) | (apply SW.toG; first | refine SWop.yes (And.intro hN (And.intro lq (And.intro ei (And.intro e1 (And.intro e2 (And.intro hbe (And.intro dblS.eq_1 (And.intro subS.eq_1 (And.intro wr (And.intro hX hmv)))))))))) ?_ | refine SWop.no (And.intro hN (And.intro lq (And.intro ei (And.intro e1 (And.intro e2 (And.intro hbe (And.intro dblS.eq_1 (And.intro subS.eq_1 (And.intro wr (And.intro hX hmv)))))))))) ?_)
    refine W.block ?_
    repeat' first
      | refine W.seq ?_ | (refine W.regS G ?_; dsimp only) | refine SW.nil ?_ | refine thenQ_normal ?_ | refine W.skip ?_ | refine W.exit ?_ | refine thenQ_exit ?_ | refine inBlockQ_exit ?_ | refine inBlockQ_normal ?_
      | (apply SW.toC; refine SWcall.go (And.intro hN (And.intro lq (And.intro ei (And.intro e1 (And.intro e2 (And.intro hbe (And.intro dblS.eq_1 (And.intro subS.eq_1 (And.intro wr (And.intro hX hmv)))))))))) ?_) | (apply SW.toOp; refine SWop.go (And.intro hN (And.intro lq (And.intro ei (And.intro e1 (And.intro e2 (And.intro hbe (And.intro dblS.eq_1 (And.intro subS.eq_1 (And.intro wr (And.intro hX hmv)))))))))) ?_) | (apply SW.toCG; first | refine SWcall.yes (And.intro hN (And.intro lq (And.intro ei (And.intro e1 (And.intro e2 (And.intro hbe (And.intro dblS.eq_1 (And.intro subS.eq_1 (And.intro wr (And.intro hX hmv)))))))))) ?_ | refine SWcall.no (And.intro hN (And.intro lq (And.intro ei (And.intro e1 (And.intro e2 (And.intro hbe (And.intro dblS.eq_1 (And.intro subS.eq_1 (And.intro wr (And.intro hX hmv)))))))))) ?_) | (apply SW.toG; first | refine SWop.yes (And.intro hN (And.intro lq (And.intro ei (And.intro e1 (And.intro e2 (And.intro hbe (And.intro dblS.eq_1 (And.intro subS.eq_1 (And.intro wr (And.intro hX hmv)))))))))) ?_ | refine SWop.no (And.intro hN (And.intro lq (And.intro ei (And.intro e1 (And.intro e2 (And.intro hbe (And.intro dblS.eq_1 (And.intro subS.eq_1 (And.intro wr (And.intro hX hmv)))))))))) ?_)
    refine W.drawS G [[], [], [], [2], [1, 3, 2], [4, 1, 3, 2], [], [6], [5, 4, 1, 3, 2, 7, 6], [8, 5, 4, 1, 3, 2, 7, 6], [0, 9, 8, 5, 4, 1, 3, 2, 7, 6], [10, 0, 9, 8, 5, 4, 1, 3, 2, 7, 6], [11, 10, 0, 9, 8, 5, 4, 1, 3, 2, 7, 6], [11, 10, 0, 9, 8, 5, 4, 1, 3, 2, 7, 6], [12, 11, 10, 0, 9, 8, 5, 4, 1, 3, 2, 7, 6], [13, 11, 10, 0, 9, 8, 5, 4, 1, 3, 2, 7, 6, 14, 12]] hmix ?_
    dsimp only
    repeat' first
      | (apply DW.nil; (focus (decide +kernel)))
      | (apply DW.toC; refine DWcall.go (And.intro hN (And.intro lq (And.intro ei (And.intro e1 (And.intro e2 (And.intro hbe (And.intro dblS.eq_1 (And.intro subS.eq_1 (And.intro wr (And.intro hX hmv)))))))))) ?_) | (apply DW.toOp; refine DWop.go (And.intro hN (And.intro lq (And.intro ei (And.intro e1 (And.intro e2 (And.intro hbe (And.intro dblS.eq_1 (And.intro subS.eq_1 (And.intro wr (And.intro hX hmv)))))))))) ?_) | (apply DW.toCG; first | refine DWcall.yes (And.intro hN (And.intro lq (And.intro ei (And.intro e1 (And.intro e2 (And.intro hbe (And.intro dblS.eq_1 (And.intro subS.eq_1 (And.intro wr (And.intro hX hmv)))))))))) ?_ | refine DWcall.no (And.intro hN (And.intro lq (And.intro ei (And.intro e1 (And.intro e2 (And.intro hbe (And.intro dblS.eq_1 (And.intro subS.eq_1 (And.intro wr (And.intro hX hmv)))))))))) ?_) | (apply DW.toG; first | refine DWop.yes (And.intro hN (And.intro lq (And.intro ei (And.intro e1 (And.intro e2 (And.intro hbe (And.intro dblS.eq_1 (And.intro subS.eq_1 (And.intro wr (And.intro hX hmv)))))))))) ?_ | refine DWop.no (And.intro hN (And.intro lq (And.intro ei (And.intro e1 (And.intro e2 (And.intro hbe (And.intro dblS.eq_1 (And.intro subS.eq_1 (And.intro wr (And.intro hX hmv)))))))))) ?_)
    have n01 : ((0#64 : BitVec 64) = 1#64) = False := eq_false (by decide)
    have n10 : ((1#64 : BitVec 64) = 0#64) = False := eq_false (by decide)
    by_cases hc : mv ≤ X
    · obtain ⟨g1, g2⟩ := hge hc
      have hd : wOf (wv (wOf X) + B256 - mv) = wOf (X - mv) := by
        rw [wv_wOf]
        refine wOf_eq ?_
        unfold B256 at *
        omega
      have hI2 : wvk (q.set (i / 64) (q.getD (i / 64) 0 ||| 1#64 <<< (i % 64))) N = pv / 2 ^ i / mv * 2 ^ i := by
        rw [hor, g1, Nat.pow_succ, Nat.add_mul, Nat.one_mul]
        congr 1
        rw [Nat.mul_comm (2 ^ i) 2, ← Nat.mul_assoc, Nat.mul_comm _ 2]
      have hg2 : wOf (pv / 2 ^ i % mv) = wOf (X - mv) := by rw [g2]
      by_cases hx : X < B256
      · have ho : BitVec.ofNat 64 (X / B256) = 0#64 := by rw [Nat.div_eq_of_lt hx]
        have hbo : (if wv (wOf X) < mv then 1#64 else 0#64) = 0#64 := if_neg (by rw [wv_wOf, Nat.mod_eq_of_lt hx]; omega)
        repeat' first
          | refine W.seq ?_ | (refine W.regS G ?_; dsimp only) | refine SW.nil ?_ | refine thenQ_normal ?_ | refine W.skip ?_ | refine W.exit ?_ | refine thenQ_exit ?_ | refine inBlockQ_exit ?_ | refine inBlockQ_normal ?_ | refine W.block ?_
          | (apply SW.toC; refine SWcall.go (And.intro hN (And.intro lq (And.intro ei (And.intro e1 (And.intro e2 (And.intro subS.eq_1 (And.intro hmv (And.intro hd (And.intro ho (And.intro hbo (And.intro n01 n10))))))))))) ?_) | (apply SW.toOp; refine SWop.go (And.intro hN (And.intro lq (And.intro ei (And.intro e1 (And.intro e2 (And.intro subS.eq_1 (And.intro hmv (And.intro hd (And.intro ho (And.intro hbo (And.intro n01 n10))))))))))) ?_) | (apply SW.toCG; first | refine SWcall.yes (And.intro hN (And.intro lq (And.intro ei (And.intro e1 (And.intro e2 (And.intro subS.eq_1 (And.intro hmv (And.intro hd (And.intro ho (And.intro hbo (And.intro n01 n10))))))))))) ?_ | refine SWcall.no (And.intro hN (And.intro lq (And.intro ei (And.intro e1 (And.intro e2 (And.intro subS.eq_1 (And.intro hmv (And.intro hd (And.intro ho (And.intro hbo (And.intro n01 n10))))))))))) ?_) | (apply SW.toG; first | refine SWop.yes (And.intro hN (And.intro lq (And.intro ei (And.intro e1 (And.intro e2 (And.intro subS.eq_1 (And.intro hmv (And.intro hd (And.intro ho (And.intro hbo (And.intro n01 n10))))))))))) ?_ | refine SWop.no (And.intro hN (And.intro lq (And.intro ei (And.intro e1 (And.intro e2 (And.intro subS.eq_1 (And.intro hmv (And.intro hd (And.intro ho (And.intro hbo (And.intro n01 n10))))))))))) ?_)
        refine W.condZ G (And.intro hN (And.intro lq (And.intro ei (And.intro e1 (And.intro e2 (And.intro subS.eq_1 (And.intro hmv (And.intro hd (And.intro ho (And.intro hbo (And.intro n01 n10))))))))))) ?_ ?_
        all_goals intro hcc
        · repeat' first
            | refine W.seq ?_ | (refine W.regS G ?_; dsimp only) | refine SW.nil ?_ | refine thenQ_normal ?_ | refine W.skip ?_ | refine W.exit ?_ | refine thenQ_exit ?_ | refine inBlockQ_exit ?_ | refine inBlockQ_normal ?_
            | (apply SW.toC; refine SWcall.go (And.intro hN (And.intro lq (And.intro ei (And.intro e1 (And.intro e2 (And.intro subS.eq_1 (And.intro hmv (And.intro hd (And.intro ho (And.intro hbo (And.intro n01 n10))))))))))) ?_) | (apply SW.toOp; refine SWop.go (And.intro hN (And.intro lq (And.intro ei (And.intro e1 (And.intro e2 (And.intro subS.eq_1 (And.intro hmv (And.intro hd (And.intro ho (And.intro hbo (And.intro n01 n10))))))))))) ?_) | (apply SW.toCG; first | refine SWcall.yes (And.intro hN (And.intro lq (And.intro ei (And.intro e1 (And.intro e2 (And.intro subS.eq_1 (And.intro hmv (And.intro hd (And.intro ho (And.intro hbo (And.intro n01 n10))))))))))) ?_ | refine SWcall.no (And.intro hN (And.intro lq (And.intro ei (And.intro e1 (And.intro e2 (And.intro subS.eq_1 (And.intro hmv (And.intro hd (And.intro ho (And.intro hbo (And.intro n01 n10))))))))))) ?_) | (apply SW.toG; first | refine SWop.yes (And.intro hN (And.intro lq (And.intro ei (And.intro e1 (And.intro e2 (And.intro subS.eq_1 (And.intro hmv (And.intro hd (And.intro ho (And.intro hbo (And.intro n01 n10))))))))))) ?_ | refine SWop.no (And.intro hN (And.intro lq (And.intro ei (And.intro e1 (And.intro e2 (And.intro subS.eq_1 (And.intro hmv (And.intro hd (And.intro ho (And.intro hbo (And.intro n01 n10))))))))))) ?_)
          refine W.drawS G [[], [], [1], [0, 2, 1], [3, 0, 2, 1], [], [5], [6, 5], [4, 3, 0, 2, 1, 7, 6, 5], [0, 2, 1, 3, 4, 5, 6, 7, 8], [9, 0, 2, 1, 3, 4, 5, 6, 7, 8]] hmix ?_
          dsimp only
          repeat' first
            | (apply DW.nil; (focus (decide +kernel)))
            | (apply DW.toC; refine DWcall.go (And.intro hN (And.intro lq (And.intro ei (And.intro e1 (And.intro e2 (And.intro subS.eq_1 (And.intro hmv (And.intro hd (And.intro ho (And.intro hbo (And.intro n01 n10))))))))))) ?_) | (apply DW.toOp; refine DWop.go (And.intro hN (And.intro lq (And.intro ei (And.intro e1 (And.intro e2 (And.intro subS.eq_1 (And.intro hmv (And.intro hd (And.intro ho (And.intro hbo (And.intro n01 n10))))))))))) ?_) | (apply DW.toCG; first | refine DWcall.yes (And.intro hN (And.intro lq (And.intro ei (And.intro e1 (And.intro e2 (And.intro subS.eq_1 (And.intro hmv (And.intro hd (And.intro ho (And.intro hbo (And.intro n01 n10))))))))))) ?_ | refine DWcall.no (And.intro hN (And.intro lq (And.intro ei (And.intro e1 (And.intro e2 (And.intro subS.eq_1 (And.intro hmv (And.intro hd (And.intro ho (And.intro hbo (And.intro n01 n10))))))))))) ?_) | (apply DW.toG; first | refine DWop.yes (And.intro hN (And.intro lq (And.intro ei (And.intro e1 (And.intro e2 (And.intro subS.eq_1 (And.intro hmv (And.intro hd (And.intro ho (And.intro hbo (And.intro n01 n10))))))))))) ?_ | refine DWop.no (And.intro hN (And.intro lq (And.intro ei (And.intro e1 (And.intro e2 (And.intro subS.eq_1 (And.intro hmv (And.intro hd (And.intro ho (And.intro hbo (And.intro n01 n10))))))))))) ?_)
          repeat' first
            | refine W.seq ?_ | (refine W.regS G ?_; dsimp only) | refine SW.nil ?_ | refine thenQ_normal ?_ | refine W.skip ?_ | refine W.exit ?_ | refine thenQ_exit ?_ | refine inBlockQ_exit ?_ | refine inBlockQ_normal ?_ | refine W.block ?_
            | (apply SW.toC; refine SWcall.go (And.intro hN (And.intro lq (And.intro ei (And.intro e1 (And.intro e2 (And.intro subS.eq_1 (And.intro hmv (And.intro hd (And.intro ho (And.intro hbo (And.intro n01 n10))))))))))) ?_) | (apply SW.toOp; refine SWop.go (And.intro hN (And.intro lq (And.intro ei (And.intro e1 (And.intro e2 (And.intro subS.eq_1 (And.intro hmv (And.intro hd (And.intro ho (And.intro hbo (And.intro n01 n10))))))))))) ?_) | (apply SW.toCG; first | refine SWcall.yes (And.intro hN (And.intro lq (And.intro ei (And.intro e1 (And.intro e2 (And.intro subS.eq_1 (And.intro hmv (And.intro hd (And.intro ho (And.intro hbo (And.intro n01 n10))))))))))) ?_ | refine SWcall.no (And.intro hN (And.intro lq (And.intro ei (And.intro e1 (And.intro e2 (And.intro subS.eq_1 (And.intro hmv (And.intro hd (And.intro ho (And.intro hbo (And.intro n01 n10))))))))))) ?_) | (apply SW.toG; first | refine SWop.yes (And.intro hN (And.intro lq (And.intro ei (And.intro e1 (And.intro e2 (And.intro subS.eq_1 (And.intro hmv (And.intro hd (And.intro ho (And.intro hbo (And.intro n01 n10))))))))))) ?_ | refine SWop.no (And.intro hN (And.intro lq (And.intro ei (And.intro e1 (And.intro e2 (And.intro subS.eq_1 (And.intro hmv (And.intro hd (And.intro ho (And.intro hbo (And.intro n01 n10))))))))))) ?_)
          refine ⟨⟨(i, _), by dsimp only; omega, lo _, hI2⟩, Imp.le ?_, by show i < i + 1; omega⟩
          exact sL_leZ (And.intro hg2 (And.intro hN (And.intro lq (And.intro ei (And.intro e1 (And.intro e2 (And.intro subS.eq_1 (And.intro hmv (And.intro hd (And.intro ho (And.intro hbo (And.intro n01 n10))))))))))))
        · exact absurd hcc (by decide)
      · have ho : BitVec.ofNat 64 (X / B256) = 1#64 := by
          rw [show X / B256 = 1 from by unfold B256 at *; omega]
        repeat' first
          | refine W.seq ?_ | (refine W.regS G ?_; dsimp only) | refine SW.nil ?_ | refine thenQ_normal ?_ | refine W.skip ?_ | refine W.exit ?_ | refine thenQ_exit ?_ | refine inBlockQ_exit ?_ | refine inBlockQ_normal ?_ | refine W.block ?_
          | (apply SW.toC; refine SWcall.go (And.intro hN (And.intro lq (And.intro ei (And.intro e1 (And.intro e2 (And.intro subS.eq_1 (And.intro hmv (And.intro hd (And.intro ho (And.intro n01 n10)))))))))) ?_) | (apply SW.toOp; refine SWop.go (And.intro hN (And.intro lq (And.intro ei (And.intro e1 (And.intro e2 (And.intro subS.eq_1 (And.intro hmv (And.intro hd (And.intro ho (And.intro n01 n10)))))))))) ?_) | (apply SW.toCG; first | refine SWcall.yes (And.intro hN (And.intro lq (And.intro ei (And.intro e1 (And.intro e2 (And.intro subS.eq_1 (And.intro hmv (And.intro hd (And.intro ho (And.intro n01 n10)))))))))) ?_ | refine SWcall.no (And.intro hN (And.intro lq (And.intro ei (And.intro e1 (And.intro e2 (And.intro subS.eq_1 (And.intro hmv (And.intro hd (And.intro ho (And.intro n01 n10)))))))))) ?_) | (apply SW.toG; first | refine SWop.yes (And.intro hN (And.intro lq (And.intro ei (And.intro e1 (And.intro e2 (And.intro subS.eq_1 (And.intro hmv (And.intro hd (And.intro ho (And.intro n01 n10)))))))))) ?_ | refine SWop.no (And.intro hN (And.intro lq (And.intro ei (And.intro e1 (And.intro e2 (And.intro subS.eq_1 (And.intro hmv (And.intro hd (And.intro ho (And.intro n01 n10)))))))))) ?_)
        refine W.condZ G (And.intro hN (And.intro lq (And.intro ei (And.intro e1 (And.intro e2 (And.intro subS.eq_1 (And.intro hmv (And.intro hd (And.intro ho (And.intro n01 n10)))))))))) ?_ ?_
        all_goals intro hcc
        · repeat' first
            | refine W.seq ?_ | (refine W.regS G ?_; dsimp only) | refine SW.nil ?_ | refine thenQ_normal ?_ | refine W.skip ?_ | refine W.exit ?_ | refine thenQ_exit ?_ | refine inBlockQ_exit ?_ | refine inBlockQ_normal ?_
            | (apply SW.toC; refine SWcall.go (And.intro hN (And.intro lq (And.intro ei (And.intro e1 (And.intro e2 (And.intro subS.eq_1 (And.intro hmv (And.intro hd (And.intro ho (And.intro n01 n10)))))))))) ?_) | (apply SW.toOp; refine SWop.go (And.intro hN (And.intro lq (And.intro ei (And.intro e1 (And.intro e2 (And.intro subS.eq_1 (And.intro hmv (And.intro hd (And.intro ho (And.intro n01 n10)))))))))) ?_) | (apply SW.toCG; first | refine SWcall.yes (And.intro hN (And.intro lq (And.intro ei (And.intro e1 (And.intro e2 (And.intro subS.eq_1 (And.intro hmv (And.intro hd (And.intro ho (And.intro n01 n10)))))))))) ?_ | refine SWcall.no (And.intro hN (And.intro lq (And.intro ei (And.intro e1 (And.intro e2 (And.intro subS.eq_1 (And.intro hmv (And.intro hd (And.intro ho (And.intro n01 n10)))))))))) ?_) | (apply SW.toG; first | refine SWop.yes (And.intro hN (And.intro lq (And.intro ei (And.intro e1 (And.intro e2 (And.intro subS.eq_1 (And.intro hmv (And.intro hd (And.intro ho (And.intro n01 n10)))))))))) ?_ | refine SWop.no (And.intro hN (And.intro lq (And.intro ei (And.intro e1 (And.intro e2 (And.intro subS.eq_1 (And.intro hmv (And.intro hd (And.intro ho (And.intro n01 n10)))))))))) ?_)
          refine W.drawS G [[], [], [1], [0, 2, 1], [3, 0, 2, 1], [], [5], [6, 5], [4, 3, 0, 2, 1, 7, 6, 5], [0, 2, 1, 3, 4, 5, 6, 7, 8], [9, 0, 2, 1, 3, 4, 5, 6, 7, 8]] hmix ?_
          dsimp only
          repeat' first
            | (apply DW.nil; (focus (decide +kernel)))
            | (apply DW.toC; refine DWcall.go (And.intro hN (And.intro lq (And.intro ei (And.intro e1 (And.intro e2 (And.intro subS.eq_1 (And.intro hmv (And.intro hd (And.intro ho (And.intro n01 n10)))))))))) ?_) | (apply DW.toOp; refine DWop.go (And.intro hN (And.intro lq (And.intro ei (And.intro e1 (And.intro e2 (And.intro subS.eq_1 (And.intro hmv (And.intro hd (And.intro ho (And.intro n01 n10)))))))))) ?_) | (apply DW.toCG; first | refine DWcall.yes (And.intro hN (And.intro lq (And.intro ei (And.intro e1 (And.intro e2 (And.intro subS.eq_1 (And.intro hmv (And.intro hd (And.intro ho (And.intro n01 n10)))))))))) ?_ | refine DWcall.no (And.intro hN (And.intro lq (And.intro ei (And.intro e1 (And.intro e2 (And.intro subS.eq_1 (And.intro hmv (And.intro hd (And.intro ho (And.intro n01 n10)))))))))) ?_) | (apply DW.toG; first | refine DWop.yes (And.intro hN (And.intro lq (And.intro ei (And.intro e1 (And.intro e2 (And.intro subS.eq_1 (And.intro hmv (And.intro hd (And.intro ho (And.intro n01 n10)))))))))) ?_ | refine DWop.no (And.intro hN (And.intro lq (And.intro ei (And.intro e1 (And.intro e2 (And.intro subS.eq_1 (And.intro hmv (And.intro hd (And.intro ho (And.intro n01 n10)))))))))) ?_)
          repeat' first
            | refine W.seq ?_ | (refine W.regS G ?_; dsimp only) | refine SW.nil ?_ | refine thenQ_normal ?_ | refine W.skip ?_ | refine W.exit ?_ | refine thenQ_exit ?_ | refine inBlockQ_exit ?_ | refine inBlockQ_normal ?_ | refine W.block ?_
            | (apply SW.toC; refine SWcall.go (And.intro hN (And.intro lq (And.intro ei (And.intro e1 (And.intro e2 (And.intro subS.eq_1 (And.intro hmv (And.intro hd (And.intro ho (And.intro n01 n10)))))))))) ?_) | (apply SW.toOp; refine SWop.go (And.intro hN (And.intro lq (And.intro ei (And.intro e1 (And.intro e2 (And.intro subS.eq_1 (And.intro hmv (And.intro hd (And.intro ho (And.intro n01 n10)))))))))) ?_) | (apply SW.toCG; first | refine SWcall.yes (And.intro hN (And.intro lq (And.intro ei (And.intro e1 (And.intro e2 (And.intro subS.eq_1 (And.intro hmv (And.intro hd (And.intro ho (And.intro n01 n10)))))))))) ?_ | refine SWcall.no (And.intro hN (And.intro lq (And.intro ei (And.intro e1 (And.intro e2 (And.intro subS.eq_1 (And.intro hmv (And.intro hd (And.intro ho (And.intro n01 n10)))))))))) ?_) | (apply SW.toG; first | refine SWop.yes (And.intro hN (And.intro lq (And.intro ei (And.intro e1 (And.intro e2 (And.intro subS.eq_1 (And.intro hmv (And.intro hd (And.intro ho (And.intro n01 n10)))))))))) ?_ | refine SWop.no (And.intro hN (And.intro lq (And.intro ei (And.intro e1 (And.intro e2 (And.intro subS.eq_1 (And.intro hmv (And.intro hd (And.intro ho (And.intro n01 n10)))))))))) ?_)
          refine ⟨⟨(i, _), by dsimp only; omega, lo _, hI2⟩, Imp.le ?_, by show i < i + 1; omega⟩
          exact sL_leZ (And.intro hg2 (And.intro hN (And.intro lq (And.intro ei (And.intro e1 (And.intro e2 (And.intro subS.eq_1 (And.intro hmv (And.intro hd (And.intro ho (And.intro n01 n10)))))))))))
        · exact absurd hcc (by decide)
    · obtain ⟨g1, g2⟩ := hlt hc
      have hx : X < B256 := by omega
      have ho : BitVec.ofNat 64 (X / B256) = 0#64 := by rw [Nat.div_eq_of_lt hx]
      have hbo : (if wv (wOf X) < mv then 1#64 else 0#64) = 1#64 := if_pos (by rw [wv_wOf, Nat.mod_eq_of_lt hx]; omega)
      have hI2 : wvk q N = pv / 2 ^ i / mv * 2 ^ i := by
        rw [hI, g1, Nat.pow_succ, Nat.mul_comm (2 ^ i) 2, ← Nat.mul_assoc, Nat.mul_comm _ 2]
      have hg2 : wOf (pv / 2 ^ i % mv) = wOf X := by rw [g2]
      repeat' first
        | refine W.seq ?_ | (refine W.regS G ?_; dsimp only) | refine SW.nil ?_ | refine thenQ_normal ?_ | refine W.skip ?_ | refine W.exit ?_ | refine thenQ_exit ?_ | refine inBlockQ_exit ?_ | refine inBlockQ_normal ?_ | refine W.block ?_
        | (apply SW.toC; refine SWcall.go (And.intro hN (And.intro lq (And.intro ei (And.intro e1 (And.intro e2 (And.intro subS.eq_1 (And.intro hmv (And.intro ho (And.intro hbo (And.intro n01 n10)))))))))) ?_) | (apply SW.toOp; refine SWop.go (And.intro hN (And.intro lq (And.intro ei (And.intro e1 (And.intro e2 (And.intro subS.eq_1 (And.intro hmv (And.intro ho (And.intro hbo (And.intro n01 n10)))))))))) ?_) | (apply SW.toCG; first | refine SWcall.yes (And.intro hN (And.intro lq (And.intro ei (And.intro e1 (And.intro e2 (And.intro subS.eq_1 (And.intro hmv (And.intro ho (And.intro hbo (And.intro n01 n10)))))))))) ?_ | refine SWcall.no (And.intro hN (And.intro lq (And.intro ei (And.intro e1 (And.intro e2 (And.intro subS.eq_1 (And.intro hmv (And.intro ho (And.intro hbo (And.intro n01 n10)))))))))) ?_) | (apply SW.toG; first | refine SWop.yes (And.intro hN (And.intro lq (And.intro ei (And.intro e1 (And.intro e2 (And.intro subS.eq_1 (And.intro hmv (And.intro ho (And.intro hbo (And.intro n01 n10)))))))))) ?_ | refine SWop.no (And.intro hN (And.intro lq (And.intro ei (And.intro e1 (And.intro e2 (And.intro subS.eq_1 (And.intro hmv (And.intro ho (And.intro hbo (And.intro n01 n10)))))))))) ?_)
      refine W.condZ G (And.intro hN (And.intro lq (And.intro ei (And.intro e1 (And.intro e2 (And.intro subS.eq_1 (And.intro hmv (And.intro ho (And.intro hbo (And.intro n01 n10)))))))))) ?_ ?_
      all_goals intro hcc
      · exact absurd hcc (by decide)
      · repeat' first
          | refine W.seq ?_ | (refine W.regS G ?_; dsimp only) | refine SW.nil ?_ | refine thenQ_normal ?_ | refine W.skip ?_ | refine W.exit ?_ | refine thenQ_exit ?_ | refine inBlockQ_exit ?_ | refine inBlockQ_normal ?_ | refine W.block ?_
          | (apply SW.toC; refine SWcall.go (And.intro hN (And.intro lq (And.intro ei (And.intro e1 (And.intro e2 (And.intro subS.eq_1 (And.intro hmv (And.intro ho (And.intro hbo (And.intro n01 n10)))))))))) ?_) | (apply SW.toOp; refine SWop.go (And.intro hN (And.intro lq (And.intro ei (And.intro e1 (And.intro e2 (And.intro subS.eq_1 (And.intro hmv (And.intro ho (And.intro hbo (And.intro n01 n10)))))))))) ?_) | (apply SW.toCG; first | refine SWcall.yes (And.intro hN (And.intro lq (And.intro ei (And.intro e1 (And.intro e2 (And.intro subS.eq_1 (And.intro hmv (And.intro ho (And.intro hbo (And.intro n01 n10)))))))))) ?_ | refine SWcall.no (And.intro hN (And.intro lq (And.intro ei (And.intro e1 (And.intro e2 (And.intro subS.eq_1 (And.intro hmv (And.intro ho (And.intro hbo (And.intro n01 n10)))))))))) ?_) | (apply SW.toG; first | refine SWop.yes (And.intro hN (And.intro lq (And.intro ei (And.intro e1 (And.intro e2 (And.intro subS.eq_1 (And.intro hmv (And.intro ho (And.intro hbo (And.intro n01 n10)))))))))) ?_ | refine SWop.no (And.intro hN (And.intro lq (And.intro ei (And.intro e1 (And.intro e2 (And.intro subS.eq_1 (And.intro hmv (And.intro ho (And.intro hbo (And.intro n01 n10)))))))))) ?_)
        refine ⟨⟨(i, q), by dsimp only; omega, lq, hI2⟩, Imp.le ?_, by show i < i + 1; omega⟩
        exact sL_leZ (And.intro hg2 (And.intro hN (And.intro lq (And.intro ei (And.intro e1 (And.intro e2 (And.intro subS.eq_1 (And.intro hmv (And.intro ho (And.intro hbo (And.intro n01 n10)))))))))))
  have ht' := of_decide_eq_false ht
  obtain rfl : k = 0 := by omega
  rw [Nat.pow_zero, Nat.div_one, Nat.mul_one] at hI
  have hf : q = lOf N (pv / mv) := eq_lOf lq hI
  have hr : pv / 2 ^ 0 = pv := by rw [Nat.pow_zero, Nat.div_one]
  rw [hr, ← hf]
  repeat' first
    | refine W.seq ?_ | (refine W.regS G ?_; dsimp only) | refine SW.nil ?_ | refine thenQ_normal ?_ | refine W.skip ?_ | refine W.exit ?_ | refine thenQ_exit ?_ | refine inBlockQ_exit ?_ | refine inBlockQ_normal ?_ | refine W.block ?_
    | (apply SW.toC; refine SWcall.go (And.intro hN lq) ?_) | (apply SW.toOp; refine SWop.go (And.intro hN lq) ?_) | (apply SW.toCG; first | refine SWcall.yes (And.intro hN lq) ?_ | refine SWcall.no (And.intro hN lq) ?_) | (apply SW.toG; first | refine SWop.yes (And.intro hN lq) ?_ | refine SWop.no (And.intro hN lq) ?_)
  refine W.drawS G [[], [], [0], [1, 2, 0]] hmix ?_
  dsimp only
  repeat' first
    | (apply DW.nil; (focus (decide +kernel)))
    | (apply DW.toC; refine DWcall.go (And.intro hN lq) ?_) | (apply DW.toOp; refine DWop.go (And.intro hN lq) ?_) | (apply DW.toCG; first | refine DWcall.yes (And.intro hN lq) ?_ | refine DWcall.no (And.intro hN lq) ?_) | (apply DW.toG; first | refine DWop.yes (And.intro hN lq) ?_ | refine DWop.no (And.intro hN lq) ?_)
  repeat' first
    | refine W.seq ?_ | (refine W.regS G ?_; dsimp only) | refine SW.nil ?_ | refine thenQ_normal ?_ | refine W.skip ?_ | refine W.exit ?_ | refine thenQ_exit ?_ | refine inBlockQ_exit ?_ | refine inBlockQ_normal ?_ | refine W.block ?_
    | (apply SW.toC; refine SWcall.go (And.intro hN lq) ?_) | (apply SW.toOp; refine SWop.go (And.intro hN lq) ?_) | (apply SW.toCG; first | refine SWcall.yes (And.intro hN lq) ?_ | refine SWcall.no (And.intro hN lq) ?_) | (apply SW.toG; first | refine SWop.yes (And.intro hN lq) ?_ | refine SWop.no (And.intro hN lq) ?_)
  refine W.ret ?_
  repeat' first
    | refine thenQ_ret ?_
    | refine inBlockQ_ret ?_
  refine fin2Z (And.intro lq (And.intro hN lq)) ?_ ?_
  · exact leV_refl
  · exact leV_refl
end Go.Vm.C01

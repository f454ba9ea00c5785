/- What some functions of the program compute, walked through once. -/
import Derived.Test.YtpgfoccjobgniaaDoorCB
namespace Go.Vm.C04
open Go Go.Proofs
set_option linter.unusedVariables false
set_option linter.unusedSimpArgs false
set_option maxRecDepth 100000
set_option maxHeartbeats 8000000

/-! ### the program's variables -/
def begunB : List (BitVec 32) := [1779033703, 3144134277, 1013904242, 2773480762, 1359893119, 2600822924, 528734635, 1541459225]
def kB : List (BitVec 32) := [1116352408, 1899447441, 3049323471, 3921009573, 961987163, 1508970993, 2453635748, 2870763221, 3624381080, 310598401, 607225278, 1426881987, 1925078388, 2162078206, 2614888103, 3248222580, 3835390401, 4022224774, 264347078, 604807628, 770255983, 1249150122, 1555081692, 1996064986, 2554220882, 2821834349, 2952996808, 3210313671, 3336571891, 3584528711, 113926993, 338241895, 666307205, 773529912, 1294757372, 1396182291, 1695183700, 1986661051, 2177026350, 2456956037, 2730485921, 2820302411, 3259730800, 3345764771, 3516065817, 3600352804, 4094571909, 275423344, 430227734, 506948616, 659060556, 883997877, 958139571, 1322822218, 1537002063, 1747873779, 1955562222, 2024104815, 2227730452, 2361852424, 2428436474, 2756734187, 3204031479, 3329325298]
def P64c : List (BitVec 64) := [2, 3, 5, 7, 11, 13, 17, 19, 23, 29, 31, 37, 41, 43, 47, 53, 59, 61, 67, 71, 73, 79, 83, 89, 97, 101, 103, 107, 109, 113, 127, 131, 137, 139, 149, 151, 157, 163, 167, 173, 179, 181, 191, 193, 197, 199, 211, 223, 227, 229, 233, 239, 241, 251, 257, 263, 269, 271, 277, 281, 283, 293, 307, 311]
theorem P64_eq : P64 = P64c := by decide +kernel

/-! ### roots, reckoned in numbers -/
def fsG (g r i : Nat) (x : List (BitVec 64)) : List (BitVec 64) := if g < (dvk (fyF i x) 3) ^ r then x else fyF i x
def fxG (g r k : Nat) : List (BitVec 64) := itN (fun k x => fsG g r (36 - k) x) k (zeros 64 3)
def fracG (p : BitVec 64) (r : Nat) : BitVec 64 := fnF (fxG (p.toNat * 65536 ^ (2 * r)) r 37) 2
theorem okD_fy (i : Nat) (x : List (BitVec 64)) (h : okD x) : okD (fyF i x) := by
  refine okD_set h _ ?_
  rw [BitVec.toNat_or]
  refine Nat.or_lt_two_pow (n := 16) (h _) ?_
  rw [BitVec.toNat_shiftLeft, Nat.shiftLeft_eq]
  show (1 * 2 ^ (i % 16)) % 2 ^ 64 < 2 ^ 16
  have h1 : 2 ^ (i % 16) ≤ 2 ^ 15 := Nat.pow_le_pow_right (by decide) (by omega)
  have h2 : (1 * 2 ^ (i % 16)) % 2 ^ 64 ≤ 1 * 2 ^ (i % 16) := Nat.mod_le _ _
  omega
theorem okD_fs (goal : List (BitVec 64)) (r : Int) (i : Nat) (x : List (BitVec 64)) (h : okD x) : okD (fsF goal r i x) := by
  unfold fsF
  split
  · exact h
  · exact okD_fy i x h
theorem fs_eq (goal : List (BitVec 64)) (r : Int) (hr : r = 2 ∨ r = 3) (i : Nat) (x : List (BitVec 64)) (hg : okD goal) (h : okD x) (hl : x.length = 3) : fsF goal r i x = fsG (dvk goal goal.length) r.toNat i x := by
  have hy := okD_fy i x h
  have ly : (fyF i x).length = 3 := by rw [fyF_len, hl]
  unfold fsF fsG
  generalize fyF i x = y at hy ly
  have hp := prodF_val hy hy
  rw [ly] at hp
  have lp : (prodF y y).length = 6 := by rw [prodF_len, ly]
  have ht : okD (ftF r y) ∧ dvk (ftF r y) (ftF r y).length = dvk y 3 ^ r.toNat := by
    rcases hr with rfl | rfl
    · have e : ftF 2 y = prodF y y := by unfold ftF; rw [if_neg (by decide)]
      rw [e, lp]
      exact ⟨hp.1, by rw [show ((2 : Int).toNat) = 2 from rfl, Nat.pow_two]; exact hp.2⟩
    · have e : ftF 3 y = prodF (prodF y y) y := by unfold ftF; rw [if_pos rfl]
      have hq := prodF_val hp.1 hy
      rw [lp, ly] at hq
      rw [e, prodF_len, lp, ly]
      refine ⟨hq.1, ?_⟩
      rw [hq.2, show ((3 : Int).toNat) = 3 from rfl, Nat.pow_succ, Nat.pow_two]
      congr 1
      exact hp.2
  have hiff := lessF_val hg ht.1 (max goal.length (ftF r y).length)
  rw [dvk_ge goal (Nat.le_max_left _ _), dvk_ge (ftF r y) (Nat.le_max_right _ _), ht.2] at hiff
  by_cases hc : dvk goal goal.length < dvk y 3 ^ r.toNat
  · rw [if_pos (hiff.2 hc), if_pos hc]
  · rw [if_neg (fun e => hc (hiff.1 e)), if_neg hc]
theorem goal_val (p : BitVec 64) (hp : p.toNat < 65536) (k : Nat) : okD (goalF p k) ∧ dvk (goalF p k) (k + 1) = p.toNat * 65536 ^ k := by
  induction k with
  | zero =>
    have h0 : okD [] := fun i => by rw [getD_off _ _ _ (Nat.zero_le _)]; decide
    refine ⟨okD_cons h0 hp, ?_⟩
    show 0 + 65536 ^ 0 * p.toNat = _
    simp
  | succ k ih =>
    have e : goalF p (k + 1) = 0#64 :: goalF p k := itN_succ _ _ _
    rw [e]
    refine ⟨okD_cons ih.1 (by decide), ?_⟩
    rw [dvk_cons, ih.2, Nat.pow_succ]
    have : (0#64).toNat = 0 := rfl
    rw [this, Nat.zero_add, Nat.mul_comm, Nat.mul_assoc]
theorem frac_eq (p : BitVec 64) (hp : p.toNat < 65536) (r : Int) (hr : r = 2 ∨ r = 3) : fracF p r = fracG p r.toNat := by
  obtain ⟨g1, g2⟩ := goal_val p hp (2 * r.toNat)
  have gl := goalF_len p (2 * r.toNat)
  have hg : dvk (goalF p (2 * r.toNat)) (goalF p (2 * r.toNat)).length = p.toNat * 65536 ^ (2 * r.toNat) := by rw [gl, g2]
  have key : ∀ k, fxF (goalF p (2 * r.toNat)) r k = fxG (p.toNat * 65536 ^ (2 * r.toNat)) r.toNat k ∧ okD (fxF (goalF p (2 * r.toNat)) r k) := by
    intro k
    induction k with
    | zero => exact ⟨rfl, okD_zeros 3⟩
    | succ k ih =>
      have e1 : fxF (goalF p (2 * r.toNat)) r (k + 1) = fsF (goalF p (2 * r.toNat)) r (36 - k) (fxF (goalF p (2 * r.toNat)) r k) := itN_succ _ _ _
      have e2 : fxG (p.toNat * 65536 ^ (2 * r.toNat)) r.toNat (k + 1) = fsG (p.toNat * 65536 ^ (2 * r.toNat)) r.toNat (36 - k) (fxG (p.toNat * 65536 ^ (2 * r.toNat)) r.toNat k) := itN_succ _ _ _
      rw [e1, e2, ← ih.1]
      refine ⟨?_, okD_fs _ _ _ _ ih.2⟩
      rw [fs_eq _ r hr _ _ g1 ih.2 (fxF_len _ _ _), hg]
  unfold fracF fracG
  rw [(key 37).1]
theorem P64c_lt : ∀ i, i < 64 → (P64c.getD i 0).toNat < 65536 := by decide +kernel
theorem tabK_at : ∀ i, i < 64 → BitVec.setWidth 32 (fracG (P64c.getD i 0) 3) = kB.getD i 0 := by decide +kernel
theorem tabH_at : ∀ i, i < 8 → BitVec.setWidth 32 (fracG (P64c.getD i 0) 2) = begunB.getD i 0 := by decide +kernel
theorem tabK_to : ∀ k, k ≤ 64 → tabK k = kB.take k
  | 0, _ => rfl
  | k + 1, h => by
    have e : tabK (k + 1) = tabK k ++ [BitVec.setWidth 32 (fracF (P64.getD k 0) 3)] := itN_succ _ _ _
    have l : kB.length = 64 := rfl
    rw [e, tabK_to k (by omega), P64_eq, frac_eq _ (P64c_lt k (by omega)) 3 (.inr rfl), show ((3 : Int).toNat) = 3 from rfl, tabK_at k (by omega), List.take_add_one]
    rw [List.getD_eq_getElem?_getD, List.getElem?_eq_getElem (by omega)]
    rfl
theorem tabK_eq : tabK 64 = kB := tabK_to 64 (Nat.le_refl _)
theorem tabH_eq : tabH 8 = begunB := by
  have key : ∀ i, i < 8 → BitVec.setWidth 32 (fracF (P64.getD i 0) 2) = begunB.getD i 0 := fun i hi => by
    rw [P64_eq, frac_eq _ (P64c_lt i (by omega)) 2 (.inl rfl)]
    exact tabH_at i hi
  have e : tabH 8 = itN (fun i h => h.set i (begunB.getD i 0)) 8 (zeros 32 8) := itN_congr 8 fun i s hi => by rw [key i hi]
  rw [e]
  decide +kernel
end Go.Vm.C04

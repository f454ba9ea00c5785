/- What some functions of the program compute, walked through once. -/
import Derived.Test.YtpgfoccjobgniaaDoorCH
import Derived.KernelRfl
namespace Go.Vm.C04
open Go Go.Proofs
set_option linter.unusedVariables false
set_option linter.unusedSimpArgs false
set_option maxRecDepth 100000
set_option maxHeartbeats 8000000

/-! ### turning down -/
theorem ud_of {x : BitVec 32} {n : Int} {a b : Nat} (h1 : updF x n = x >>> a ||| x <<< b) (h2 : downF x n = x <<< b ||| x >>> a) : updF x n = downF x n := by rw [h1, h2, BitVec.or_comm]
theorem ud2 (x : BitVec 32) : updF x 2 = downF x 2 := ud_of (a := 2) (b := 30) (by kernel_rfl) (by kernel_rfl)
theorem ud6 (x : BitVec 32) : updF x 6 = downF x 6 := ud_of (a := 6) (b := 26) (by kernel_rfl) (by kernel_rfl)
theorem ud7 (x : BitVec 32) : updF x 7 = downF x 7 := ud_of (a := 7) (b := 25) (by kernel_rfl) (by kernel_rfl)
theorem ud11 (x : BitVec 32) : updF x 11 = downF x 11 := ud_of (a := 11) (b := 21) (by kernel_rfl) (by kernel_rfl)
theorem ud13 (x : BitVec 32) : updF x 13 = downF x 13 := ud_of (a := 13) (b := 19) (by kernel_rfl) (by kernel_rfl)
theorem ud17 (x : BitVec 32) : updF x 17 = downF x 17 := ud_of (a := 17) (b := 15) (by kernel_rfl) (by kernel_rfl)
theorem ud18 (x : BitVec 32) : updF x 18 = downF x 18 := ud_of (a := 18) (b := 14) (by kernel_rfl) (by kernel_rfl)
theorem ud19 (x : BitVec 32) : updF x 19 = downF x 19 := ud_of (a := 19) (b := 13) (by kernel_rfl) (by kernel_rfl)
theorem ud22 (x : BitVec 32) : updF x 22 = downF x 22 := ud_of (a := 22) (b := 10) (by kernel_rfl) (by kernel_rfl)
theorem ud25 (x : BitVec 32) : updF x 25 = downF x 25 := ud_of (a := 25) (b := 7) (by kernel_rfl) (by kernel_rfl)

/-! ### a round -/
theorem rt_eq (w : List (BitVec 32)) (i : Nat) (v : List (BitVec 32)) : rtF kB w i v = tF w i v := by simp only [rtF, tF, ud6, ud11, ud25]
theorem ru_eq (v : List (BitVec 32)) : ruF v = uF v := by simp only [ruF, uF, ud2, ud13, ud22]
theorem shift8 (a b c d e f g h t u : BitVec 32) : (([a, b, c, d, e, f, g, h].take 1 ++ ([a, b, c, d, e, f, g, h].take 7) ++ ([] : List (BitVec 32))).set 4 (d + t)).set 0 u = [u, a, b, c, d + t, e, f, g] := rfl
theorem rv_eq (w : List (BitVec 32)) (i : Nat) (v : List (BitVec 32)) (hv : v.length = 8) : vF w i v = rvF kB w i v := by
  unfold vF rvF
  rw [rt_eq, ru_eq]
  generalize tF w i v = t
  generalize uF v = u
  match v, hv with
  | [a, b, c, d, e, f, g, h], _ => exact shift8 a b c d e f g h t (t + u)
theorem rvs_eq (w : List (BitVec 32)) (k : Nat) (h : List (BitVec 32)) (hl : h.length = 8) : itN (vF w) k h = itN (rvF kB w) k h := by
  induction k with
  | zero => rfl
  | succ k ih => rw [itN_succ, itN_succ, ← ih, rv_eq _ _ _ (vTo_len w k h hl)]

/-! ### the words of a block -/
theorem wA_at (b : List (BitVec 8)) (k j : Nat) (hk : k ≤ 16) : (wA b k).length = 64 ∧ (j < k → (wA b k).getD j 0 = beF b j) := by
  induction k with
  | zero => exact ⟨rfl, fun h => by omega⟩
  | succ k ih =>
    obtain ⟨h1, h2⟩ := ih (by omega)
    have e : wA b (k + 1) = (wA b k).set k (beF b k) := itN_succ _ _ _
    rw [e]
    refine ⟨by rw [List.length_set, h1], fun hj => ?_⟩
    by_cases h : k = j
    · subst h; rw [getD_set_self _ _ _ _ (by omega)]
    · rw [getD_set_other _ _ _ _ _ h]; exact h2 (by omega)
theorem rwA_at (B : List (BitVec 8)) (a k j : Nat) : j < k → (rwA B a k).getD j 0 = beAt B a j := by
  induction k with
  | zero => intro h; omega
  | succ k ih =>
    intro hj
    have e : rwA B a (k + 1) = rwA B a k ++ [beAt B a k] := itN_succ _ _ _
    have l := rwA_len B a k
    rw [e]
    by_cases h : j < k
    · rw [getD_append_left _ _ _ _ (by omega)]; exact ih h
    · obtain rfl : j = k := by omega
      rw [getD_append_right _ _ _ _ (by omega), l, Nat.sub_self]; rfl
theorem be_eq (b B : List (BitVec 8)) (a i : Nat) (hi : i < 16) (h : ∀ k, k < 64 → b.getD k 0 = B.getD (a + k) 0) : beF b i = beAt B a i := by
  have g : ∀ k, k < 4 → (subL B (a + 4 * i) 4).getD k 0 = b.getD (4 * i + k) 0 := by
    intro k hk
    rw [h _ (by omega)]
    unfold subL
    rw [List.getD_eq_getElem?_getD, List.getElem?_take_of_lt hk, List.getElem?_drop, ← List.getD_eq_getElem?_getD, Nat.add_assoc]
  unfold beF beAt
  rw [g 0 (by omega), g 1 (by omega), g 2 (by omega), g 3 (by omega)]
  rfl
theorem wN_eq (w w' : List (BitVec 32)) (j : Nat) (h : ∀ k, k < 16 + j → w.getD k 0 = w'.getD k 0) : wN w j = rwN w' j := by
  unfold wN rwN
  rw [h j (by omega), h (j + 9) (by omega), h (j + 1) (by omega), h (j + 14) (by omega), ud7, ud17, ud18, ud19]
  generalize w'.getD j 0 = a
  generalize w'.getD (j + 9) 0 = b
  generalize (downF (w'.getD (j + 1) 0) 7 ^^^ downF (w'.getD (j + 1) 0) 18 ^^^ w'.getD (j + 1) 0 >>> 3) = c
  generalize (downF (w'.getD (j + 14) 0) 17 ^^^ downF (w'.getD (j + 14) 0) 19 ^^^ w'.getD (j + 14) 0 >>> 10) = d
  ac_rfl
theorem words_eq (b B : List (BitVec 8)) (a : Nat) (h : ∀ k, k < 64 → b.getD k 0 = B.getD (a + k) 0) : wB 48 (wA b 16) = rwB 48 (rwA B a 16) := by
  have key : ∀ k, k ≤ 48 → (wB k (wA b 16)).length = 64 ∧ (rwB k (rwA B a 16)).length = 16 + k ∧ ∀ j, j < 16 + k → (wB k (wA b 16)).getD j 0 = (rwB k (rwA B a 16)).getD j 0 := by
    intro k
    induction k with
    | zero => intro _; exact ⟨(wA_at b 16 0 (by omega)).1, rwA_len B a 16, fun j hj => by
        show (wA b 16).getD j 0 = (rwA B a 16).getD j 0
        rw [(wA_at b 16 j (by omega)).2 (by omega), rwA_at B a 16 j (by omega), be_eq b B a j (by omega) h]⟩
    | succ k ih =>
      intro hk
      obtain ⟨h1, h2, h3⟩ := ih (by omega)
      have e1 : wB (k + 1) (wA b 16) = (wB k (wA b 16)).set (16 + k) (wN (wB k (wA b 16)) k) := itN_succ _ _ _
      have e2 : rwB (k + 1) (rwA B a 16) = rwB k (rwA B a 16) ++ [rwN (rwB k (rwA B a 16)) k] := itN_succ _ _ _
      rw [e1, e2, wN_eq _ _ k h3]
      generalize wB k (wA b 16) = x at h1 h3
      generalize rwB k (rwA B a 16) = y at h2 h3
      refine ⟨by rw [List.length_set, h1], by rw [List.length_append, h2]; rfl, fun j hj => ?_⟩
      by_cases hjk : 16 + k = j
      · subst hjk
        rw [getD_set_self _ _ _ _ (by omega), getD_append_right _ _ _ _ (by omega), h2, Nat.sub_self]
        rfl
      · rw [getD_set_other _ _ _ _ _ hjk, getD_append_left _ _ _ _ (by omega)]
        exact h3 j (by omega)
  obtain ⟨h1, h2, h3⟩ := key 48 (Nat.le_refl _)
  exact ext_getD 0 (by rw [h1, h2]) fun i hi => h3 i (by omega)
theorem takes_eq (b B : List (BitVec 8)) (a : Nat) (h : List (BitVec 32)) (hl : h.length = 8) (hb : ∀ k, k < 64 → b.getD k 0 = B.getD (a + k) 0) : takesF h b = rblk kB B a h := by
  unfold takesF rblk
  rw [words_eq b B a hb, rvs_eq _ _ _ hl]

/-! ### byte by byte -/
theorem puts_blocks (M : List (BitVec 8)) (k : Nat) : (puts M k p0).1 = rblks kB M (k / 64) begunB ∧ (puts M k p0).2.1.length = 64 ∧ (puts M k p0).2.2 = k % 64 ∧ ∀ i, i < k % 64 → (puts M k p0).2.1.getD i 0 = M.getD (64 * (k / 64) + i) 0 := by
  induction k with
  | zero => exact ⟨rfl, rfl, rfl, fun i hi => by omega⟩
  | succ k ih =>
    obtain ⟨h1, h2, h3, h4⟩ := ih
    have e : puts M (k + 1) p0 = putF (puts M k p0) (M.getD k 0) := itN_succ _ _ _
    have hk := Nat.div_add_mod k 64
    have lq := rblks_len kB M (k / 64) begunB rfl
    rw [e]
    generalize puts M k p0 = p at h1 h2 h3 h4
    obtain ⟨h, b, m⟩ := p
    dsimp only at h1 h2 h3 h4
    have hset : ∀ i, i < m + 1 → (b.set m (M.getD k 0)).getD i 0 = M.getD (64 * (k / 64) + i) 0 := by
      intro i hi
      by_cases hm : m = i
      · subst hm
        rw [getD_set_self _ _ _ _ (by omega), h3, hk]
      · rw [getD_set_other _ _ _ _ _ hm]
        exact h4 i (by omega)
    unfold putF
    dsimp only
    by_cases hc : m + 1 = 64
    · rw [if_pos hc]
      have d1 : (k + 1) / 64 = k / 64 + 1 := by omega
      have d2 : (k + 1) % 64 = 0 := by omega
      rw [d1, d2]
      refine ⟨?_, by rw [List.length_set, h2], rfl, fun i hi => by omega⟩
      have e2 : rblks kB M (k / 64 + 1) begunB = rblk kB M (64 * (k / 64)) (rblks kB M (k / 64) begunB) := itN_succ _ _ _
      rw [e2, ← h1]
      exact takes_eq _ M _ h (by rw [h1, lq]) fun j hj => hset j (by omega)
    · rw [if_neg hc]
      have d1 : (k + 1) / 64 = k / 64 := by omega
      have d2 : (k + 1) % 64 = m + 1 := by omega
      rw [d1, d2]
      exact ⟨h1, by rw [List.length_set, h2], rfl, hset⟩
noncomputable def putA (l : List (BitVec 8)) (p : Dg) : Dg := puts l l.length p
theorem puts_left (l m : List (BitVec 8)) (p : Dg) (k : Nat) (hk : k ≤ l.length) : puts (l ++ m) k p = puts l k p :=
  itN_congr k fun i s hi => by rw [getD_append_left _ _ _ _ (by omega)]
theorem putA_nil (p : Dg) : putA [] p = p := rfl
theorem putA_snoc (l : List (BitVec 8)) (x : BitVec 8) (p : Dg) : putA (l ++ [x]) p = putF (putA l p) x := by
  have e : puts (l ++ [x]) (l.length + 1) p = putF (puts (l ++ [x]) l.length p) ((l ++ [x]).getD l.length 0) := itN_succ _ _ _
  unfold putA
  rw [show (l ++ [x]).length = l.length + 1 by simp, e, puts_left l [x] p l.length (Nat.le_refl _), getD_append_right _ _ _ _ (Nat.le_refl _), Nat.sub_self]
  rfl
theorem putA_append (l m : List (BitVec 8)) (p : Dg) : putA (l ++ m) p = putA m (putA l p) := by
  have key : ∀ n (m : List (BitVec 8)), m.length = n → putA (l ++ m) p = putA m (putA l p) := by
    intro n
    induction n with
    | zero => intro m hm; obtain rfl := List.eq_nil_of_length_eq_zero hm; rw [List.append_nil, putA_nil]
    | succ n ih =>
      intro m hm
      obtain ⟨m', x, rfl⟩ : ∃ m' x, m = m' ++ [x] := ⟨m.dropLast, m.getLast (by intro h; rw [h] at hm; cases hm), (List.dropLast_concat_getLast _).symm⟩
      rw [← List.append_assoc, putA_snoc, putA_snoc, ih m' (by simpa using hm)]
  exact key _ m rfl
theorem pad_eq (b : List (BitVec 8)) (j : Nat) : padP (putA b p0) j = putA (padL b j) p0 := by
  induction j with
  | zero => exact (putA_snoc b 128#8 p0).symm
  | succ j ih =>
    have e1 : padP (putA b p0) (j + 1) = putF (padP (putA b p0) j) 0#8 := itN_succ _ _ _
    have e2 : padL b (j + 1) = padL b j ++ [0#8] := itN_succ _ _ _
    rw [e1, e2, ih, putA_snoc]
theorem len_eq (N : BitVec 64) (l : List (BitVec 8)) (j : Nat) : lenP N j (putA l p0) = putA (lenL N j l) p0 := by
  induction j with
  | zero =>
    have e0 : lenL N 0 l = l := rfl
    have e1 : ∀ p, lenP N 0 p = p := fun _ => rfl
    rw [e0, e1]
  | succ j ih =>
    have e1 : lenP N (j + 1) (putA l p0) = putF (lenP N j (putA l p0)) (BitVec.setWidth 8 (N >>> (8 * (7 - j)))) := itN_succ _ _ _
    have e2 : lenL N (j + 1) l = lenL N j l ++ [BitVec.setWidth 8 (N >>> (8 * (7 - j)))] := itN_succ _ _ _
    rw [e1, e2, ih, putA_snoc]
/-- the digest that has taken so many bytes -/
theorem hash_eq (b : List (BitVec 8)) : hashF (putA b p0) (BitVec.ofInt 64 (b.length : Int)) = rhash b kB begunB := by
  have h3 := (puts_blocks b b.length).2.2.1
  have hz : padZ (putA b p0).2.2 = padR b.length := by
    have : (putA b p0).2.2 = b.length % 64 := h3
    rw [this]
    unfold padZ padR
    rfl
  have hl : (msgF b).length % 64 = 0 := by
    unfold msgF
    rw [lenL_len, padL_len]
    unfold padR
    omega
  unfold hashF rhash
  rw [hz, pad_eq, len_eq]
  refine congrArg (fun h => outF h 32) ?_
  exact (puts_blocks (msgF b) (msgF b).length).1
theorem sum1_eq (b : List (BitVec 8)) : sumF [b] = rhash b kB begunB := by
  have e : wrP [b] 1 = (putA b p0, 0#64 + BitVec.ofInt 64 (b.length : Int)) := rfl
  have e2 : sumF [b] = hashF (wrP [b] 1).1 (wrP [b] 1).2 := rfl
  rw [e2, e]
  dsimp only
  rw [BitVec.zero_add, hash_eq]
theorem sum2_eq (a b : List (BitVec 8)) : sumF [a, b] = rhash (a ++ b) kB begunB := by
  have e : wrP [a, b] 2 = (putA b (putA a p0), 0#64 + BitVec.ofInt 64 (a.length : Int) + BitVec.ofInt 64 (b.length : Int)) := rfl
  have e2 : sumF [a, b] = hashF (wrP [a, b] 2).1 (wrP [a, b] 2).2 := rfl
  rw [e2, e]
  dsimp only
  rw [BitVec.zero_add, ← putA_append, ← hash_eq, ← BitVec.ofInt_add, List.length_append]
  rfl
theorem key_eq (key : List (BitVec 8)) : keyF key = rkeyF key := by
  unfold keyF rkeyF
  rw [sum1_eq]
theorem k64_at (key : List (BitVec 8)) (h : key.length ≤ 64) (i : Nat) : (k64F key).getD i 0 = key.getD i 0 := by
  unfold k64F splL
  rw [List.take_zero, List.nil_append, Nat.zero_add]
  by_cases hi : i < key.length
  · rw [getD_append_left _ _ _ _ hi]
  · rw [getD_append_right _ _ _ _ (by omega), getD_off key i 0 (by omega)]
    unfold zeros
    rw [List.drop_replicate, List.getD_eq_getElem?_getD, List.getElem?_replicate]
    split <;> rfl
theorem xor_at (c : BitVec 8) (l : List (BitVec 8)) (k i : Nat) (hk : k ≤ l.length) : (xorF c k l).getD i 0 = if i < k then l.getD i 0 ^^^ c else l.getD i 0 := by
  induction k with
  | zero => rfl
  | succ k ih =>
    have e : xorF c (k + 1) l = (xorF c k l).set k ((xorF c k l).getD k 0 ^^^ c) := itN_succ _ _ _
    have hl := xorF_len c k l
    rw [e]
    by_cases h : k = i
    · subst h
      rw [getD_set_self _ _ _ _ (by omega), if_pos (by omega)]
      have : ∀ i', i' = k → (xorF c k l).getD i' 0 = if i' < k then l.getD i' 0 ^^^ c else l.getD i' 0 := fun i' hh => by subst hh; exact ih (by omega)
      rw [this k rfl, if_neg (by omega)]
    · rw [getD_set_other _ _ _ _ _ h, ih (by omega)]
      by_cases h2 : i < k
      · rw [if_pos h2, if_pos (by omega)]
      · rw [if_neg h2, if_neg (by omega)]
theorem rx_at (key : List (BitVec 8)) (c : BitVec 8) (k i : Nat) (hi : i < k) : (rxF key c k).getD i 0 = key.getD i 0 ^^^ c := by
  induction k with
  | zero => omega
  | succ k ih =>
    have e : rxF key c (k + 1) = rxF key c k ++ [key.getD k 0 ^^^ c] := itN_succ _ _ _
    have hl := rxF_len key c k
    rw [e]
    by_cases h : i < k
    · rw [getD_append_left _ _ _ _ (by omega)]; exact ih h
    · obtain rfl : i = k := by omega
      rw [getD_append_right _ _ _ _ (by omega), hl, Nat.sub_self]; rfl
theorem xor_eq (key : List (BitVec 8)) (h : key.length ≤ 64) (c : BitVec 8) : xorF c 64 (k64F key) = rxF key c 64 := by
  have l := k64F_len key h
  have l2 := xorF_len c 64 (k64F key)
  have l3 := rxF_len key c 64
  refine ext_getD 0 (by omega) fun i hi => ?_
  rw [xor_at c _ 64 i (by omega), if_pos (by omega), k64_at key h, rx_at key c 64 i (by omega)]
/-- hashes with a key are the document's -/
theorem hmac_eq (key b : List (BitVec 8)) : hmacF key b = rhmacF key b := by
  unfold hmacF rhmacF
  rw [sum2_eq, sum2_eq, key_eq, xor_eq _ (rkeyF_len key), xor_eq _ (rkeyF_len key)]
theorem hmac_nought (key b : List (BitVec 8)) (h : key.length < 64) : rhmacF (key ++ [0#8]) b = rhmacF key b := by
  have hk : rkeyF key = key := if_neg (by omega)
  have hk2 : rkeyF (key ++ [0#8]) = key ++ [0#8] := if_neg (by rw [List.length_append]; show ¬ 64 < key.length + 1; omega)
  have hx : ∀ c, rxF (key ++ [0#8]) c 64 = rxF key c 64 := by
    intro c
    have l1 := rxF_len (key ++ [0#8]) c 64
    have l2 := rxF_len key c 64
    refine ext_getD 0 (by omega) fun i hi => ?_
    rw [rx_at _ _ _ _ (by omega), rx_at _ _ _ _ (by omega)]
    refine congrArg (fun y => y ^^^ c) ?_
    by_cases h2 : i < key.length
    · rw [getD_append_left _ _ _ _ h2]
    · rw [getD_append_right _ _ _ _ (by omega), getD_off key i 0 (by omega)]
      cases i - key.length <;> rfl
  unfold rhmacF
  rw [hk, hk2, hx, hx]
end Go.Vm.C04

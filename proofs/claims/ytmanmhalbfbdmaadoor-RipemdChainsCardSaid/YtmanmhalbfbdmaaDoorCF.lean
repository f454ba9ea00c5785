/- What some functions of the program compute, walked through once. -/
import Derived.Test.YtmanmhalbfbdmaaDoorCE
namespace Go.Vm.C05
open Go Go.Proofs
set_option linter.unusedVariables false
set_option linter.unusedSimpArgs false
set_option maxRecDepth 100000
set_option maxHeartbeats 8000000

/-! ### the words of a block -/
def orP (b : List (BitVec 8)) (m c : Nat) : BitVec 32 := itN (fun t y => y ||| BitVec.setWidth 32 (b.getD (4 * m + t) 0) <<< (8 * t)) c 0#32
theorem xF_at (b : List (BitVec 8)) (k m : Nat) (hk : k ≤ 64) (hm : m < 16) : (xF b k).length = 16 ∧ (xF b k).getD m 0 = orP b m (min (k - 4 * m) 4) := by
  induction k with
  | zero => exact ⟨rfl, by rw [show min (0 - 4 * m) 4 = 0 by omega]; show (zeros 32 16).getD m 0 = 0#32; exact getD_zeros ..⟩
  | succ k ih =>
    obtain ⟨h1, h2⟩ := ih (by omega)
    have e : xF b (k + 1) = (xF b k).set (k / 4) ((xF b k).getD (k / 4) 0 ||| BitVec.setWidth 32 (b.getD k 0) <<< (8 * (k % 4))) := itN_succ _ _ _
    rw [e]
    refine ⟨by rw [List.length_set, h1], ?_⟩
    by_cases hkm : k / 4 = m
    · subst hkm
      rw [getD_set_self _ _ _ _ (by omega), h2]
      have e1 : min (k - 4 * (k / 4)) 4 = k % 4 := by omega
      have e2 : min (k + 1 - 4 * (k / 4)) 4 = k % 4 + 1 := by omega
      rw [e1, e2]
      have e3 : orP b (k / 4) (k % 4 + 1) = orP b (k / 4) (k % 4) ||| BitVec.setWidth 32 (b.getD (4 * (k / 4) + k % 4) 0) <<< (8 * (k % 4)) := itN_succ _ _ _
      rw [e3, Nat.div_add_mod]
    · rw [getD_set_other _ _ _ _ _ hkm, h2]
      congr 1
      omega
theorem orP_four (b : List (BitVec 8)) (m : Nat) : orP b m 4 = leW b m := by
  show (((0#32 ||| BitVec.setWidth 32 (b.getD (4 * m + 0) 0) <<< (8 * 0)) ||| BitVec.setWidth 32 (b.getD (4 * m + 1) 0) <<< (8 * 1)) ||| BitVec.setWidth 32 (b.getD (4 * m + 2) 0) <<< (8 * 2)) ||| BitVec.setWidth 32 (b.getD (4 * m + 3) 0) <<< (8 * 3) = _
  rw [BitVec.zero_or, Nat.add_zero, Nat.mul_zero, BitVec.shiftLeft_zero]
  rfl
theorem rxW_at (b : List (BitVec 8)) (k m : Nat) (h : m < k) : (rxW b k).getD m 0 = leW b m := by
  induction k with
  | zero => omega
  | succ k ih =>
    have e : rxW b (k + 1) = rxW b k ++ [leW b k] := itN_succ _ _ _
    have l := rxW_len b k
    rw [e]
    by_cases hk : m < k
    · rw [getD_append_left _ _ _ _ (by omega)]; exact ih hk
    · obtain rfl : m = k := by omega
      rw [getD_append_right _ _ _ _ (by omega), l, Nat.sub_self]; rfl
theorem words_eq (b : List (BitVec 8)) : xF b 64 = rxW b 16 := by
  have l := rxW_len b 16
  have l2 := (xF_at b 64 0 (Nat.le_refl _) (by omega)).1
  refine ext_getD 0 (by omega) fun i hi => ?_
  rw [(xF_at b 64 i (Nat.le_refl _) (by omega)).2, rxW_at b 16 i (by omega), show min (64 - 4 * i) 4 = 4 by omega, orP_four]

/-! ### a line -/
theorem step_eq (cs : List (BitVec 32)) (q : Nat) (wh p : Int) (x h : List (BitVec 32)) (hq : q < 5) (hp : 0 ≤ p ∧ p < 16) : stepF cs q wh p x h = rstep cs q wh p x h := by
  have hb := bit_eq q hq p.toNat (by omega)
  have ht := turnsB_in (16 * q + p.toNat) (by omega)
  unfold stepF rstep
  rw [hb, Nat.mul_comm q 16, rot_up _ _ (by omega) (by omega), rot_up _ _ (by omega) (by omega)]
theorem pl0_at (back : Bool) (k i : Nat) (hk : k ≤ 16) (hi : i < k) : (pl0 back k).getD i 0 = plF back i := by
  induction k with
  | zero => omega
  | succ k ih =>
    have e : pl0 back (k + 1) = (pl0 back k).set k (plF back k) := itN_succ _ _ _
    have l := (pl0_ok back k (by omega)).1
    rw [e]
    by_cases h : k = i
    · subst h; rw [getD_set_self _ _ _ _ (by omega)]
    · rw [getD_set_other _ _ _ _ _ h]; exact ih (by omega) (by omega)
theorem rowP_at (pl : List Int) (hp : okL pl) (k : Nat) (l : List Int) (hl : l.length = 16) (i : Nat) (hk : k ≤ 16) (hi : i < k) : (rowP pl k l).getD i 0 = rhoB.getD (pl.getD i 0).toNat 0 := by
  have hlen : ∀ k, (rowP pl k l).length = 16 := fun k => itN_inv (p := fun (t : List Int) => t.length = 16) (fun _ _ h => by simpa using h) k hl
  induction k with
  | zero => omega
  | succ k ih =>
    have e : rowP pl (k + 1) l = (rowP pl k l).set k (rhoB.getD (pl.getD k 0).toNat 0) := itN_succ _ _ _
    have := hlen k
    rw [e]
    by_cases h : k = i
    · subst h; rw [getD_set_self _ _ _ _ (by omega)]
    · rw [getD_set_other _ _ _ _ _ h]; exact ih (by omega) (by omega)
theorem lineTo_zero (back : Bool) (cs x h : List (BitVec 32)) : lineTo back cs x 0 h = (h, pl0 back 16) := rfl
theorem rline_zero (back : Bool) (cs x h : List (BitVec 32)) : rline back cs x 0 h = h := rfl
theorem lines_eq (back : Bool) (cs x h : List (BitVec 32)) (q : Nat) (hq : q ≤ 5) : (lineTo back cs x q h).1 = rline back cs x (16 * q) h ∧ ∀ i, i < 16 → (lineTo back cs x q h).2.getD i 0 = placeF back i q := by
  induction q with
  | zero =>
    rw [lineTo_zero, Nat.mul_zero, rline_zero]
    exact ⟨rfl, fun i hi => pl0_at back 16 i (Nat.le_refl _) hi⟩
  | succ q ih =>
    obtain ⟨h1, h2⟩ := ih (by omega)
    have ok := lineTo_ok back cs x q h
    have e : lineTo back cs x (q + 1) h = (rowH back cs x q (lineTo back cs x q h).2 16 (lineTo back cs x q h).1, rowP (lineTo back cs x q h).2 16 (lineTo back cs x q h).2) := itN_succ _ _ _
    rw [e]
    generalize lineTo back cs x q h = s at h1 h2 ok
    obtain ⟨g, pl⟩ := s
    dsimp only at h1 h2 ok ⊢
    have key : ∀ k, k ≤ 16 → rowH back cs x q pl k g = rline back cs x (16 * q + k) h := by
      intro k
      induction k with
      | zero =>
        intro _
        have e0 : rowH back cs x q pl 0 g = g := rfl
        rw [e0, Nat.add_zero]
        exact h1
      | succ k ih =>
        intro hk
        have e1 : rowH back cs x q pl (k + 1) g = stepF cs q (whF back q) (pl.getD k 0) x (rowH back cs x q pl k g) := itN_succ _ _ _
        have e2 : rline back cs x (16 * q + k + 1) h = rstep cs ((16 * q + k) / 16) (whF back ((16 * q + k) / 16)) (placeF back ((16 * q + k) % 16) ((16 * q + k) / 16)) x (rline back cs x (16 * q + k) h) := itN_succ _ _ _
        have d1 : (16 * q + k) / 16 = q := by omega
        have d2 : (16 * q + k) % 16 = k := by omega
        rw [d1, d2] at e2
        rw [show 16 * q + (k + 1) = 16 * q + k + 1 by omega, e1, e2, ih (by omega), h2 k (by omega), step_eq _ _ _ _ _ _ (by omega) (placeF_in back k q (by omega))]
    refine ⟨by rw [key 16 (Nat.le_refl _), Nat.mul_add, Nat.mul_one], fun i hi => ?_⟩
    rw [rowP_at pl ok 16 pl ok.1 i (Nat.le_refl _) hi, h2 i hi]
    have e3 : placeF back i (q + 1) = rhoB.getD (placeF back i q).toNat 0 := itN_succ _ _ _
    exact e3.symm
theorem hJ_zero (M : List (BitVec 8)) (h : List (BitVec 32)) : hJ M 0 h = h := rfl
theorem rhJ_zero (M : List (BitVec 8)) (h : List (BitVec 32)) : rhJ M 0 h = h := rfl
theorem block_eq (h : List (BitVec 32)) (b : List (BitVec 8)) : takenF h b = rblockF h b := by
  have e1 : lineF h (rxW b 16) firstB false = rline false firstB (rxW b 16) 80 h := (lines_eq false firstB (rxW b 16) h 5 (Nat.le_refl _)).1
  have e2 : lineF h (rxW b 16) secondB true = rline true secondB (rxW b 16) 80 h := (lines_eq true secondB (rxW b 16) h 5 (Nat.le_refl _)).1
  unfold takenF rblockF
  rw [words_eq, e1, e2]

/-! ### the hash -/
theorem subL_at {α : Type} (l : List α) (a n i : Nat) (d : α) (hi : i < n) : (subL l a n).getD i d = l.getD (a + i) d := by
  unfold subL
  rw [List.getD_eq_getElem?_getD, List.getElem?_take_of_lt hi, List.getElem?_drop, ← List.getD_eq_getElem?_getD]
theorem bxF_at (M : List (BitVec 8)) (a k i : Nat) (hk : k ≤ 64) (hi : i < k) : (bxF M a k).length = 64 ∧ (bxF M a k).getD i 0 = M.getD (a + i) 0 := by
  have hlen : ∀ k, (bxF M a k).length = 64 := fun k => itN_inv (p := fun (t : List (BitVec 8)) => t.length = 64) (fun _ _ h => by simpa using h) k rfl
  refine ⟨hlen k, ?_⟩
  induction k with
  | zero => omega
  | succ k ih =>
    have e : bxF M a (k + 1) = (bxF M a k).set k (M.getD (a + k) 0) := itN_succ _ _ _
    have := hlen k
    rw [e]
    by_cases h : k = i
    · subst h; rw [getD_set_self _ _ _ _ (by omega)]
    · rw [getD_set_other _ _ _ _ _ h]; exact ih (by omega) (by omega)
theorem part_eq (M C : List (BitVec 8)) (a c : Nat) (hC : c + 64 ≤ C.length) (h : ∀ i, i < 64 → M.getD (a + i) 0 = C.getD (c + i) 0) : bxF M a 64 = subL C c 64 := by
  have l := (bxF_at M a 64 0 (Nat.le_refl _) (by omega)).1
  have l2 := subL_len C c 64 hC
  refine ext_getD 0 (by omega) fun i hi => ?_
  rw [(bxF_at M a 64 i (Nat.le_refl _) (by omega)).2, subL_at _ _ _ _ _ (by omega), h i (by omega)]
theorem padL_at (m : List (BitVec 8)) (k i : Nat) (hi : i < m.length + 1 + k) : (padL m k).getD i 0 = if i < m.length then m.getD i 0 else if i = m.length then 128#8 else 0#8 := by
  induction k with
  | zero =>
    show (m ++ [128#8]).getD i 0 = _
    by_cases h : i < m.length
    · rw [getD_append_left _ _ _ _ h, if_pos h]
    · obtain rfl : i = m.length := by omega
      rw [getD_append_right _ _ _ _ (Nat.le_refl _), Nat.sub_self, if_neg h, if_pos rfl]; rfl
  | succ k ih =>
    have e : padL m (k + 1) = padL m k ++ [0#8] := itN_succ _ _ _
    have l := padL_len m k
    rw [e]
    by_cases h : i < m.length + 1 + k
    · rw [getD_append_left _ _ _ _ (by omega)]; exact ih h
    · obtain rfl : i = m.length + 1 + k := by omega
      rw [getD_append_right _ _ _ _ (by omega), l, Nat.sub_self, if_neg (by omega), if_neg (by omega)]; rfl
theorem lenL_at (n : BitVec 64) (k : Nat) (l : List (BitVec 8)) (i : Nat) (hi : i < l.length + k) : (lenL n k l).getD i 0 = if i < l.length then l.getD i 0 else BitVec.setWidth 8 (n >>> (8 * (i - l.length))) := by
  induction k with
  | zero => rw [if_pos (by omega)]; rfl
  | succ k ih =>
    have e : lenL n (k + 1) l = lenL n k l ++ [BitVec.setWidth 8 (n >>> (8 * k))] := itN_succ _ _ _
    have hl := lenL_len n k l
    rw [e]
    by_cases h : i < l.length + k
    · rw [getD_append_left _ _ _ _ (by omega)]; exact ih h
    · obtain rfl : i = l.length + k := by omega
      rw [getD_append_right _ _ _ _ (by omega), hl, Nat.sub_self, if_neg (by omega), show l.length + k - l.length = k by omega]; rfl
theorem c0F_at (r : List (BitVec 8)) (hr : r.length < 64) (i : Nat) : (c0F r).getD i 0 = if i < r.length then r.getD i 0 else if i = r.length then 128#8 else 0#8 := by
  have l : (splL (zeros 8 128) 0 r).length = 128 := by rw [splL_len _ _ _ (by simp [zeros]; omega)]; simp [zeros]
  unfold c0F
  by_cases h : r.length = i
  · subst h
    rw [getD_set_self _ _ _ _ (by omega), if_neg (by omega), if_pos rfl]
  · rw [getD_set_other _ _ _ _ _ h]
    unfold splL
    rw [List.take_zero, List.nil_append, Nat.zero_add]
    by_cases hi : i < r.length
    · rw [getD_append_left _ _ _ _ hi, if_pos hi]
    · rw [getD_append_right _ _ _ _ (by omega), if_neg hi, if_neg (by omega)]
      unfold zeros
      rw [List.drop_replicate, List.getD_eq_getElem?_getD, List.getElem?_replicate]
      split <;> rfl
theorem cF_at (r : List (BitVec 8)) (hr : r.length < 64) (n : BitVec 64) (sz k i : Nat) (hk : k ≤ 8) (hs : sz = 64 ∨ sz = 128) : (cF r n sz k).getD i 0 = if sz - 8 ≤ i ∧ i < sz - 8 + k then BitVec.setWidth 8 (n >>> (8 * (i - (sz - 8)))) else (c0F r).getD i 0 := by
  induction k with
  | zero => rw [if_neg (by omega)]; rfl
  | succ k ih =>
    have e : cF r n sz (k + 1) = (cF r n sz k).set (sz - 8 + k) (BitVec.setWidth 8 (n >>> (8 * k))) := itN_succ _ _ _
    have hl := cF_len r n sz k hr
    rw [e]
    by_cases h : sz - 8 + k = i
    · subst h
      rw [getD_set_self _ _ _ _ (by omega), if_pos (by omega), show sz - 8 + k - (sz - 8) = k by omega]
    · rw [getD_set_other _ _ _ _ _ h, ih (by omega)]
      by_cases h2 : sz - 8 ≤ i ∧ i < sz - 8 + k
      · rw [if_pos h2, if_pos (by omega)]
      · rw [if_neg h2, if_neg (by omega)]
theorem drop_at (b : List (BitVec 8)) (k i : Nat) : (b.drop k).getD i 0 = b.getD (k + i) 0 := by
  rw [List.getD_eq_getElem?_getD, List.getElem?_drop, ← List.getD_eq_getElem?_getD]
/-- the hash of bytes is the document's -/
theorem sum_eq (b : List (BitVec 8)) : sumF b = rsumF b := by
  obtain ⟨Q, hQ⟩ : ∃ Q, b.length / 64 = Q := ⟨_, rfl⟩
  obtain ⟨R, hR⟩ : ∃ R, b.length % 64 = R := ⟨_, rfl⟩
  have hQR : b.length = 64 * Q + R := by omega
  have hR64 : R < 64 := by omega
  have hZ : padR b.length = (119 - R) % 64 := by unfold padR; rw [hR]
  have hsz : szF R = if 56 ≤ R then 128 else 64 := rfl
  have hn : BitVec.ofInt 64 (8 * (b.length : Int)) = 8#64 * BitVec.ofInt 64 (b.length : Int) := by rw [BitVec.ofInt_mul]; rfl
  have lr : (b.drop (64 * Q)).length = R := by rw [List.length_drop]; omega
  have lp := padL_len b (padR b.length)
  have lM : (msgF b).length = b.length + 1 + padR b.length + 8 := by unfold msgF; rw [lenL_len, lp]
  have hA : szF R = 64 ∨ szF R = 128 := by rw [hsz]; split <;> omega
  have hT : (msgF b).length = 64 * Q + szF R := by
    rw [lM, hZ, hsz]
    split <;> omega
  -- what stands where
  have at1 : ∀ i, i < 64 * Q → (msgF b).getD i 0 = b.getD i 0 := fun i hi => by
    unfold msgF
    rw [lenL_at _ _ _ _ (by omega), if_pos (by omega), padL_at _ _ _ (by omega), if_pos (by omega)]
  have at2 : ∀ i, i < szF R → (msgF b).getD (64 * Q + i) 0 = (cF (b.drop (64 * Q)) (8#64 * BitVec.ofInt 64 (b.length : Int)) (szF R) 8).getD i 0 := fun i hi => by
    rw [cF_at _ (by omega) _ _ _ _ (Nat.le_refl _) hA, c0F_at _ (by omega), lr]
    unfold msgF
    rw [lenL_at _ _ _ _ (by omega), lp]
    have hsplit : b.length + 1 + padR b.length = 64 * Q + (szF R - 8) := by omega
    by_cases h : szF R - 8 ≤ i
    · rw [if_neg (by omega), if_pos (by omega), show 64 * Q + i - (b.length + 1 + padR b.length) = i - (szF R - 8) by omega]
    · rw [if_pos (by omega), if_neg (by omega), padL_at _ _ _ (by omega), drop_at]
      by_cases h2 : i < R
      · rw [if_pos (by omega), if_pos h2]
      · rw [if_neg (by omega), if_neg h2]
        by_cases h3 : i = R
        · rw [if_pos (by omega), if_pos h3]
        · rw [if_neg (by omega), if_neg h3]
  have lc := cF_len (b.drop (64 * Q)) (8#64 * BitVec.ofInt 64 (b.length : Int)) (szF R) 8 (by omega)
  have s1 : ∀ k, k ≤ Q → rhJ (msgF b) k begunB = hJ b k begunB := by
    intro k
    induction k with
    | zero => intro _; rw [rhJ_zero, hJ_zero]
    | succ k ih =>
      intro hk
      have e1 : rhJ (msgF b) (k + 1) begunB = rblockF (rhJ (msgF b) k begunB) (bxF (msgF b) (64 * k) 64) := itN_succ _ _ _
      have e2 : hJ b (k + 1) begunB = takenF (hJ b k begunB) (subL b (64 * k) 64) := itN_succ _ _ _
      rw [e1, e2, ih (by omega), block_eq, part_eq (msgF b) b (64 * k) (64 * k) (by omega) (fun i hi => at1 _ (by omega))]
  have s2 : ∀ k, k ≤ szF R / 64 → rhJ (msgF b) (Q + k) begunB = hJ (cF (b.drop (64 * Q)) (8#64 * BitVec.ofInt 64 (b.length : Int)) (szF R) 8) k (hJ b Q begunB) := by
    intro k
    induction k with
    | zero => intro _; rw [hJ_zero, Nat.add_zero]; exact s1 Q (Nat.le_refl _)
    | succ k ih =>
      intro hk
      have e1 : rhJ (msgF b) (Q + k + 1) begunB = rblockF (rhJ (msgF b) (Q + k) begunB) (bxF (msgF b) (64 * (Q + k)) 64) := itN_succ _ _ _
      have e2 : hJ (cF (b.drop (64 * Q)) (8#64 * BitVec.ofInt 64 (b.length : Int)) (szF R) 8) (k + 1) (hJ b Q begunB) = takenF (hJ (cF (b.drop (64 * Q)) (8#64 * BitVec.ofInt 64 (b.length : Int)) (szF R) 8) k (hJ b Q begunB)) (subL (cF (b.drop (64 * Q)) (8#64 * BitVec.ofInt 64 (b.length : Int)) (szF R) 8) (64 * k) 64) := itN_succ _ _ _
      rw [show Q + (k + 1) = Q + k + 1 by omega, e1, e2, ih (by omega), block_eq,
        part_eq (msgF b) (cF (b.drop (64 * Q)) (8#64 * BitVec.ofInt 64 (b.length : Int)) (szF R) 8) (64 * (Q + k)) (64 * k) (by omega)
          (fun i hi => by rw [show 64 * (Q + k) + i = 64 * Q + (64 * k + i) by omega]; exact at2 _ (by omega))]
  unfold sumF rsumF
  rw [hQ, hR, hn, show (msgF b).length / 64 = Q + szF R / 64 by omega, s2 _ (Nat.le_refl _)]
end Go.Vm.C05

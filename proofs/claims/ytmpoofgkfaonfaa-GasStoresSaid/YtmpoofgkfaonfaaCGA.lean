/- What some functions of the program compute, walked through once. -/
import Derived.Test.YtmpoofgkfaonfaaCCE
import Derived.Test.YtmpoofgkfaonfaaVd
namespace Go.Vm.C19
open Go Go.Proofs
set_option linter.unusedVariables false
set_option linter.unusedSimpArgs false
set_option maxRecDepth 100000
set_option maxHeartbeats 8000000

/-! ### the next base fee -/
noncomputable def byS : FSpec := { run := fun ins => match ins with
  | [.u 64 d, .ref 0 0 (.agg 5 (.u 64 p))] => chk (p.length = 5 ∧ 0 < d.toNat) (some (.tup [], [.agg 5 (.u 64 (lOf 5 (wvk p 5 / d.toNat)))]))
  | _ => none }
theorem limb5 (p : List (BitVec 64)) {j : Nat} (hj : j < 5) (lp : p.length = 5) : (p.getD j 0).toNat = wvk p 5 / B64 ^ j % B64 := by
  have h : p = lOf 5 (wvk p 5) := eq_lOf lp rfl
  have e : (p.getD j 0) = BitVec.ofNat 64 (wvk p 5 / B64 ^ j) := by
    rw [← lOf_at (n := 5) hj, ← h]
  rw [e, BitVec.toNat_ofNat]
  rfl
theorem getD_setw {l : List (BitVec 64)} {k j : Nat} {v : BitVec 64} (h : k < l.length) : (l.set k v).getD j 0 = if j = k then v else l.getD j 0 := by
  by_cases hj : j = k
  · subst hj
    rw [if_pos rfl]
    simp [List.getD_eq_getElem?_getD, List.getElem?_set, h]
  · rw [if_neg hj]
    simp [List.getD_eq_getElem?_getD, List.getElem?_set, Ne.symm hj]
theorem by_sound : SoundFn Try.prog glB 39 byS.run := by
  have G := good_of (P := Try.prog) glB_ro (l := [(40, div64S)]) (by simp only [List.forall_mem_cons]; exact ⟨div64_sound, by simp⟩)
  refine soundFn_of_W G Try.func39 (by decide) rfl (by decide) ?_
  intro ins ret outs h
  unfold byS at h
  dsimp only at h
  split at h
  rotate_left
  · cases h
  rename_i d p
  obtain ⟨hl, h'⟩ := chk_some h
  clear h
  cases h'
  obtain ⟨lp, hd⟩ := hl
  refine ⟨by show 2 ≤ 20; decide, fun w0 ext av => ?_⟩
  rw [Try.ntmps39, st0_eq]
  have hlimb := fun (j : Nat) (hj : j < 5) => limb5 p hj lp
  have hV := wvk_lt p 5
  have hpv : ∀ j, j < 5 → p.getD j 0 = BitVec.ofNat 64 (wvk p 5 / B64 ^ j) := fun j hj => by rw [← lOf_at (n := 5) hj, ← eq_lOf lp rfl]
  generalize wvk p 5 = X at hlimb hV hpv ⊢
  have x5 : X / B64 ^ 5 = 0 := Nat.div_eq_of_lt hV
  repeat' first
    | refine W.seq ?_ | (refine W.regS G ?_; dsimp only) | refine SW.nil ?_ | refine thenQ_normal ?_ | refine W.skip ?_ | refine W.exit ?_ | refine thenQ_exit ?_ | refine inBlockQ_exit ?_ | refine inBlockQ_normal ?_ | refine W.block ?_
    | (apply SW.toC; refine SWcall.go True.intro ?_) | (apply SW.toOp; refine SWop.go True.intro ?_) | (apply SW.toCG; first | refine SWcall.yes True.intro ?_ | refine SWcall.no True.intro ?_) | (apply SW.toG; first | refine SWop.yes True.intro ?_ | refine SWop.no True.intro ?_)
  refine W.loopI (ι := {t : Nat × List (BitVec 64) // t.1 ≤ 5 ∧ t.2.length = 5 ∧ ∀ j, j < 5 → t.2.getD j 0 = if t.1 ≤ j then BitVec.ofNat 64 (X / B64 ^ j / d.toNat) else p.getD j 0}) (fun t => sL [(0, .u 64 d), (1, .p 1001 0 0 0), (3, .u 64 (BitVec.ofNat 64 (X / B64 ^ t.1.1 % d.toNat))), (4, .i ((t.1.1 : Int) - 1))] [(1001, .agg 5 (.u 64 t.1.2))] 20) (fun t => t.1.1) ⟨(5, p), by show 5 ≤ 5; omega, lp, fun j hj => by rw [if_neg (by dsimp only; omega)]⟩ (Imp.le ?_) ?_
  · have e0 : BitVec.ofNat 64 (X / B64 ^ 5 % d.toNat) = 0#64 := by rw [x5, Nat.zero_mod]
    exact sL_leZ e0
  rintro ⟨⟨k, q⟩, hk, lq, hI⟩
  dsimp only at hk lq hI
  repeat' first
    | refine W.seq ?_ | (refine W.regS G ?_; dsimp only) | refine SW.nil ?_ | refine thenQ_normal ?_ | refine W.skip ?_ | refine W.exit ?_ | refine thenQ_exit ?_ | refine inBlockQ_exit ?_ | refine inBlockQ_normal ?_ | refine W.block ?_
    | (apply SW.toC; refine SWcall.go lq ?_) | (apply SW.toOp; refine SWop.go lq ?_) | (apply SW.toCG; first | refine SWcall.yes lq ?_ | refine SWcall.no lq ?_) | (apply SW.toG; first | refine SWop.yes lq ?_ | refine SWop.no lq ?_)
  refine W.condZ G lq ?_ ?_
  all_goals intro ht
  · have ht' := of_decide_eq_true ht
    obtain ⟨j, rfl⟩ : ∃ j, k = j + 1 := ⟨k - 1, by omega⟩
    have ej : (((j + 1 : Nat) : Int) - 1) = (j : Int) := by omega
    have hj5 : j < 5 := by omega
    have hx := hlimb j hj5
    have hqj := hI j hj5
    rw [if_neg (by omega)] at hqj
    have hA : X / B64 ^ j = X / B64 ^ (j + 1) * B64 + (p.getD j 0).toNat := by
      rw [hx, Nat.pow_succ, ← Nat.div_div_eq_div_mul]
      exact (Nat.div_add_mod' _ _).symm
    obtain ⟨s1, s2⟩ := limb_step (A := X / B64 ^ (j + 1)) (x := (p.getD j 0).toNat) hd
    rw [← hA] at s1 s2
    generalize X / B64 ^ (j + 1) = Ak at *
    have hrl : Ak % d.toNat < d.toNat := Nat.mod_lt _ hd
    obtain ⟨r, hrr⟩ : ∃ r, BitVec.ofNat 64 (Ak % d.toNat) = r := ⟨_, rfl⟩
    have vr : r.toNat = Ak % d.toNat := by
      rw [← hrr, BitVec.toNat_ofNat]
      exact Nat.mod_eq_of_lt (Nat.lt_trans hrl d.isLt)
    rw [← vr] at s1 s2 hrl
    rw [hrr]
    generalize hxx : p.getD j 0 = x at *
    have hn : ∀ i, i < 5 → (q.set j (BitVec.ofNat 64 ((r.toNat * B64 + x.toNat) / d.toNat))).getD i 0 = if j ≤ i then BitVec.ofNat 64 (X / B64 ^ i / d.toNat) else p.getD i 0 := by
      intro i hi
      rw [getD_setw (by omega)]
      by_cases h1 : i = j
      · subst h1
        rw [if_pos rfl, if_pos (Nat.le_refl _), s1]
        refine BitVec.eq_of_toNat_eq ?_
        rw [BitVec.toNat_ofNat, BitVec.toNat_ofNat]
        show _ % B64 = (_ * B64 + _) % B64
        rw [Nat.add_comm (Ak / d.toNat * B64), Nat.add_mul_mod_self_right]
      · rw [if_neg h1, hI i hi]
        by_cases h2 : j + 1 ≤ i
        · rw [if_pos h2, if_pos (by omega)]
        · rw [if_neg h2, if_neg (by omega)]
    have hs2 : BitVec.ofNat 64 (X / B64 ^ j % d.toNat) = BitVec.ofNat 64 ((r.toNat * B64 + x.toNat) % d.toNat) := by rw [s2]
    repeat' first
      | refine W.seq ?_ | (refine W.regS G ?_; dsimp only) | refine SW.nil ?_ | refine thenQ_normal ?_ | refine W.skip ?_ | refine W.exit ?_ | refine thenQ_exit ?_ | refine inBlockQ_exit ?_ | refine inBlockQ_normal ?_ | refine W.block ?_
      | (apply SW.toC; refine SWcall.go (And.intro ej (And.intro lq (And.intro div64S.eq_1 hqj))) ?_) | (apply SW.toOp; refine SWop.go (And.intro ej (And.intro lq (And.intro div64S.eq_1 hqj))) ?_) | (apply SW.toCG; first | refine SWcall.yes (And.intro ej (And.intro lq (And.intro div64S.eq_1 hqj))) ?_ | refine SWcall.no (And.intro ej (And.intro lq (And.intro div64S.eq_1 hqj))) ?_) | (apply SW.toG; first | refine SWop.yes (And.intro ej (And.intro lq (And.intro div64S.eq_1 hqj))) ?_ | refine SWop.no (And.intro ej (And.intro lq (And.intro div64S.eq_1 hqj))) ?_)
    refine ⟨⟨(j, _), by dsimp only; omega, ?_, hn⟩, Imp.le ?_, by show j < j + 1; omega⟩
    · dsimp only; rw [List.length_set]; exact lq
    exact sL_leZ (And.intro hs2 (And.intro ej (And.intro lq (And.intro div64S.eq_1 hqj))))
  have ht' := of_decide_eq_false ht
  obtain rfl : k = 0 := by omega
  have hf : q = lOf 5 (X / d.toNat) := by
    refine list_ext64 lq (lOf_len 5 _) fun i hi => ?_
    rw [hI i hi, if_pos (Nat.zero_le _), lOf_at hi, Nat.div_div_eq_div_mul, Nat.div_div_eq_div_mul, Nat.mul_comm]
  rw [← hf]
  repeat' first
    | refine W.seq ?_ | (refine W.regS G ?_; dsimp only) | refine SW.nil ?_ | refine thenQ_normal ?_ | refine W.skip ?_ | refine W.exit ?_ | refine thenQ_exit ?_ | refine inBlockQ_exit ?_ | refine inBlockQ_normal ?_ | refine W.block ?_
    | (apply SW.toC; refine SWcall.go lq ?_) | (apply SW.toOp; refine SWop.go lq ?_) | (apply SW.toCG; first | refine SWcall.yes lq ?_ | refine SWcall.no lq ?_) | (apply SW.toG; first | refine SWop.yes lq ?_ | refine SWop.no lq ?_)
  exact fin0Z lq
theorem mulc_val (x y c : BitVec 64) : (addF (x * y) c 0#64).1.toNat + B64 * (hiF x y + (addF (x * y) c 0#64).2).toNat = x.toNat * y.toNat + c.toNat := by
  have h1 := hiF_val x y
  have h2 : (x * y).toNat = x.toNat * y.toNat % B64 := BitVec.toNat_mul x y
  obtain ⟨h3, h4⟩ := addF_val (x * y) c 0#64 (by decide)
  have hx := x.isLt
  have hy := y.isLt
  have hc := c.isLt
  have hm : x.toNat * y.toNat ≤ (B64 - 1) * (B64 - 1) := Nat.mul_le_mul (by unfold B64; omega) (by unfold B64; omega)
  rw [BitVec.toNat_add, h1]
  rw [h2, show (0#64).toNat = 0 from rfl] at h3
  generalize (addF (x * y) c 0#64).1.toNat = u at *
  generalize (addF (x * y) c 0#64).2.toNat = w at *
  generalize x.toNat * y.toNat = z at *
  have e : (z / B64 + w) % 2 ^ 64 = z / B64 + w := by
    unfold B64 at *
    omega
  rw [e]
  unfold B64 at *
  omega
def partF (x n t : Nat) : List (BitVec 64) := if B256 ≤ x * n / t / 8 then wOf (B256 - 1 - wv (zeros 64 4)) else wOf (x * n / t / 8)
noncomputable def partS : FSpec := { run := fun ins => match ins with
  | [.u 64 n, .ref 0 0 (.agg 4 (.u 64 a)), .ref 0 0 (.u 64 t)] => chk (a.length = 4 ∧ 0 < t.toNat) (some (.agg 4 (.u 64 (partF (wv a) n.toNat t.toNat)), [.agg 4 (.u 64 a), .u 64 t]))
  | _ => none }
theorem part_sound : SoundFn Try.prog glB 36 partS.run := by
  have G := good_of (P := Try.prog) glB_ro (l := [(37, mul64S), (38, add64S), (39, byS), (41, NotS)]) (by simp only [List.forall_mem_cons]; exact ⟨mul64_sound, x86_sound, by_sound, Not_sound, by simp⟩)
  refine soundFn_of_W G Try.func36 (by decide) rfl (by decide) ?_
  intro ins ret outs h
  unfold partS at h
  dsimp only at h
  split at h
  rotate_left
  · cases h
  rename_i n a t
  obtain ⟨hl, h'⟩ := chk_some h
  clear h
  cases h'
  obtain ⟨la, ht0⟩ := hl
  refine ⟨by show 3 ≤ 52; decide, fun w0 ext av => ?_⟩
  rw [Try.ntmps36, st0_eq]
  repeat' first
    | refine W.seq ?_ | (refine W.regS G ?_; dsimp only) | refine SW.nil ?_ | refine thenQ_normal ?_ | refine W.skip ?_ | refine W.exit ?_ | refine thenQ_exit ?_ | refine inBlockQ_exit ?_ | refine inBlockQ_normal ?_ | refine W.block ?_
    | (apply SW.toC; refine SWcall.go True.intro ?_) | (apply SW.toOp; refine SWop.go True.intro ?_) | (apply SW.toCG; first | refine SWcall.yes True.intro ?_ | refine SWcall.no True.intro ?_) | (apply SW.toG; first | refine SWop.yes True.intro ?_ | refine SWop.no True.intro ?_)
  refine W.loopI (ι := {p : Nat × List (BitVec 64) × BitVec 64 // p.1 ≤ 4 ∧ p.2.1.length = 5 ∧ wvk p.2.1 p.1 + B64 ^ p.1 * p.2.2.toNat = wvk a p.1 * n.toNat}) (fun p => sL [(0, .u 64 n), (1, .p 1001 0 0 0), (2, .p 1002 0 0 0), (4, .p 4 0 0 0), (5, .p 5 0 0 0), (6, .u 64 p.1.2.2), (13, .agg 4 (.u 64 a)), (14, .i (p.1.1 : Int))] [(1001, .agg 4 (.u 64 a)), (1002, .u 64 t), (4, .agg 4 (.u 64 (zeros 64 4))), (5, .agg 5 (.u 64 p.1.2.1))] 52) (fun p => 4 - p.1.1) ⟨(0, zeros 64 5, 0#64), by show 0 ≤ 4; omega, rfl, by show 0 + B64 ^ 0 * 0 = 0 * _; omega⟩ (Imp.le ?_) ?_
  · exact sL_leZ True.intro
  rintro ⟨⟨i, l, c⟩, hi, ll, hI⟩
  dsimp only at hi ll hI
  repeat' first
    | refine W.seq ?_ | (refine W.regS G ?_; dsimp only) | refine SW.nil ?_ | refine thenQ_normal ?_ | refine W.skip ?_ | refine W.exit ?_ | refine thenQ_exit ?_ | refine inBlockQ_exit ?_ | refine inBlockQ_normal ?_ | refine W.block ?_
    | (apply SW.toC; refine SWcall.go ll ?_) | (apply SW.toOp; refine SWop.go ll ?_) | (apply SW.toCG; first | refine SWcall.yes ll ?_ | refine SWcall.no ll ?_) | (apply SW.toG; first | refine SWop.yes ll ?_ | refine SWop.no ll ?_)
  refine W.condZ G ll ?_ ?_
  all_goals intro ht
  · have ht' := of_decide_eq_true ht
    have hi4 : i < 4 := by omega
    have c0 : (0#64).toNat ≤ 1 := by decide
    generalize hx : a.getD i 0 = x
    have hv := mulc_val x n c
    have hn : wvk (l.set i (addF (x * n) c 0#64).1) (i + 1) + B64 ^ (i + 1) * (hiF x n + (addF (x * n) c 0#64).2).toNat = wvk a (i + 1) * n.toNat := by
      have e1 : wvk (l.set i (addF (x * n) c 0#64).1) (i + 1) = wvk l i + B64 ^ i * (addF (x * n) c 0#64).1.toNat := by
        show wvk (l.set i (addF (x * n) c 0#64).1) i + B64 ^ i * ((l.set i (addF (x * n) c 0#64).1).getD i 0).toNat = _
        rw [getD_setw (by omega), if_pos rfl]
        congr 1
        exact wvk_congr fun j hj => by rw [getD_setw (by omega), if_neg (by omega)]
      have e2 : wvk a (i + 1) = wvk a i + B64 ^ i * x.toNat := by rw [← hx]; rfl
      rw [e1, e2, Nat.add_mul, ← hI, Nat.pow_succ, Nat.mul_assoc, Nat.mul_assoc]
      have h5 : B64 ^ i * (addF (x * n) c 0#64).1.toNat + B64 ^ i * (B64 * (hiF x n + (addF (x * n) c 0#64).2).toNat) = B64 ^ i * (x.toNat * n.toNat) + B64 ^ i * c.toNat := by rw [← Nat.mul_add, hv, Nat.mul_add]
      omega
    repeat' first
      | refine W.seq ?_ | (refine W.regS G ?_; dsimp only) | refine SW.nil ?_ | refine thenQ_normal ?_ | refine W.skip ?_ | refine W.exit ?_ | refine thenQ_exit ?_ | refine inBlockQ_exit ?_ | refine inBlockQ_normal ?_ | refine W.block ?_
      | (apply SW.toC; refine SWcall.go (And.intro ll (And.intro hx (And.intro mul64S.eq_1 (And.intro add64S.eq_1 c0)))) ?_) | (apply SW.toOp; refine SWop.go (And.intro ll (And.intro hx (And.intro mul64S.eq_1 (And.intro add64S.eq_1 c0)))) ?_) | (apply SW.toCG; first | refine SWcall.yes (And.intro ll (And.intro hx (And.intro mul64S.eq_1 (And.intro add64S.eq_1 c0)))) ?_ | refine SWcall.no (And.intro ll (And.intro hx (And.intro mul64S.eq_1 (And.intro add64S.eq_1 c0)))) ?_) | (apply SW.toG; first | refine SWop.yes (And.intro ll (And.intro hx (And.intro mul64S.eq_1 (And.intro add64S.eq_1 c0)))) ?_ | refine SWop.no (And.intro ll (And.intro hx (And.intro mul64S.eq_1 (And.intro add64S.eq_1 c0)))) ?_)
    refine ⟨⟨(i + 1, _, _), by dsimp only; omega, ?_, hn⟩, Imp.le ?_, by show 4 - (i + 1) < 4 - i; omega⟩
    · dsimp only; rw [List.length_set]; exact ll
    exact sL_leZ (And.intro ll (And.intro hx (And.intro mul64S.eq_1 (And.intro add64S.eq_1 c0))))
  have ht' := of_decide_eq_false ht
  obtain rfl : i = 4 := by omega
  have l5 : (l.set 4 c).length = 5 := by rw [List.length_set]; exact ll
  have hval : wvk (l.set 4 c) 5 = wv a * n.toNat := by
    show wvk (l.set 4 c) 4 + B64 ^ 4 * ((l.set 4 c).getD 4 0).toNat = _
    rw [getD_setw (by omega), if_pos rfl, wvk_congr (m := l) (fun j hj => by rw [getD_setw (by omega), if_neg (by omega)])]
    exact hI
  have ha := wv_lt a
  have hnl := n.isLt
  have hb : wv a * n.toNat < B64 ^ 5 := by
    have h1 : wv a * n.toNat < B256 * B64 := Nat.mul_lt_mul'' ha hnl
    have h2 : B256 * B64 = B64 ^ 5 := by decide
    omega
  have hF : partF (wv a) n.toNat t.toNat = if B256 ≤ wv a * n.toNat / t.toNat / 8 then wOf (B256 - 1 - wv (zeros 64 4)) else wOf (wv a * n.toNat / t.toNat / 8) := rfl
  obtain ⟨p, hp⟩ : ∃ p, l.set 4 c = p := ⟨_, rfl⟩
  rw [hp] at l5 hval
  generalize wv a * n.toNat = P at hval hb hF
  have hq1 : P / t.toNat < B64 ^ 5 := Nat.lt_of_le_of_lt (Nat.div_le_self _ _) hb
  have v1 : wvk (lOf 5 (P / t.toNat)) 5 = P / t.toNat := by rw [lOf_val 5 _ 5 (Nat.le_refl _)]; exact Nat.mod_eq_of_lt hq1
  have l1 : (lOf 5 (P / t.toNat)).length = 5 := lOf_len _ _
  have e8 : (8#64).toNat = 8 := rfl
  have hq2 : P / t.toNat / 8 < B64 ^ 5 := Nat.lt_of_le_of_lt (Nat.div_le_self _ _) hq1
  obtain ⟨Q, hQ⟩ : ∃ Q, P / t.toNat = Q := ⟨_, rfl⟩
  rw [hQ] at hq2 v1 l1 hF
  obtain ⟨R, hR⟩ : ∃ R, Q / 8 = R := ⟨_, rfl⟩
  rw [hR] at hq2 hF
  have l2 : (lOf 5 R).length = 5 := lOf_len _ _
  have g4 : (lOf 5 R).getD 4 0 = BitVec.ofNat 64 (R / B64 ^ 4) := lOf_at (by omega)
  have s4 : subL (lOf 5 R) 0 4 = wOf R := by
    rw [← lof4]
    refine list_ext64 (n := 4) (by unfold subL; rw [List.length_take, List.length_drop, l2]; rfl) (lOf_len _ _) fun i hi => ?_
    rw [lOf_at hi]
    have : (subL (lOf 5 R) 0 4).getD i 0 = (lOf 5 R).getD i 0 := by
      unfold subL
      rw [List.drop_zero]
      simp [List.getD_eq_getElem?_getD, List.getElem?_take, hi]
    rw [this, lOf_at (by omega)]
  have hdl : R / B64 ^ 4 < 2 ^ 64 := by
    rw [Nat.div_lt_iff_lt_mul (by decide)]
    have : 2 ^ 64 * B64 ^ 4 = B64 ^ 5 := by decide
    omega
  have eR : (BitVec.ofNat 64 (R / B64 ^ 4)).toNat = R / B64 ^ 4 := by rw [BitVec.toNat_ofNat]; exact Nat.mod_eq_of_lt hdl
  have h8 : 0 < (8#64).toNat := by decide
  have lz : (zeros 64 4).length = 4 := rfl
  repeat' first
    | refine W.seq ?_ | (refine W.regS G ?_; dsimp only) | refine SW.nil ?_ | refine thenQ_normal ?_ | refine W.skip ?_ | refine W.exit ?_ | refine thenQ_exit ?_ | refine inBlockQ_exit ?_ | refine inBlockQ_normal ?_ | refine W.block ?_
    | (apply SW.toC; refine SWcall.go (And.intro l5 hp) ?_) | (apply SW.toOp; refine SWop.go (And.intro l5 hp) ?_) | (apply SW.toCG; first | refine SWcall.yes (And.intro l5 hp) ?_ | refine SWcall.no (And.intro l5 hp) ?_) | (apply SW.toG; first | refine SWop.yes (And.intro l5 hp) ?_ | refine SWop.no (And.intro l5 hp) ?_)
  repeat' first
    | refine W.seq ?_ | (refine W.regS G ?_; dsimp only) | refine SW.nil ?_ | refine thenQ_normal ?_ | refine W.skip ?_ | refine W.exit ?_ | refine thenQ_exit ?_ | refine inBlockQ_exit ?_ | refine inBlockQ_normal ?_ | refine W.block ?_
    | (apply SW.toC; refine SWcall.go (And.intro l5 (And.intro hval (And.intro hQ byS.eq_1))) ?_) | (apply SW.toClo; refine SWclo.go (And.intro l5 (And.intro hval (And.intro hQ byS.eq_1))) ?_) | (apply SW.toOp; refine SWop.go (And.intro l5 (And.intro hval (And.intro hQ byS.eq_1))) ?_) | (apply SW.toCG; first | refine SWcall.yes (And.intro l5 (And.intro hval (And.intro hQ byS.eq_1))) ?_ | refine SWcall.no (And.intro l5 (And.intro hval (And.intro hQ byS.eq_1))) ?_) | (apply SW.toG; first | refine SWop.yes (And.intro l5 (And.intro hval (And.intro hQ byS.eq_1))) ?_ | refine SWop.no (And.intro l5 (And.intro hval (And.intro hQ byS.eq_1))) ?_)
  repeat' first
    | refine W.seq ?_ | (refine W.regS G ?_; dsimp only) | refine SW.nil ?_ | refine thenQ_normal ?_ | refine W.skip ?_ | refine W.exit ?_ | refine thenQ_exit ?_ | refine inBlockQ_exit ?_ | refine inBlockQ_normal ?_ | refine W.block ?_
    | (apply SW.toC; refine SWcall.go (And.intro l5 (And.intro l1 (And.intro l2 (And.intro v1 (And.intro e8 (And.intro hR (And.intro byS.eq_1 g4))))))) ?_) | (apply SW.toClo; refine SWclo.go (And.intro l5 (And.intro l1 (And.intro l2 (And.intro v1 (And.intro e8 (And.intro hR (And.intro byS.eq_1 g4))))))) ?_) | (apply SW.toOp; refine SWop.go (And.intro l5 (And.intro l1 (And.intro l2 (And.intro v1 (And.intro e8 (And.intro hR (And.intro byS.eq_1 g4))))))) ?_) | (apply SW.toCG; first | refine SWcall.yes (And.intro l5 (And.intro l1 (And.intro l2 (And.intro v1 (And.intro e8 (And.intro hR (And.intro byS.eq_1 g4))))))) ?_ | refine SWcall.no (And.intro l5 (And.intro l1 (And.intro l2 (And.intro v1 (And.intro e8 (And.intro hR (And.intro byS.eq_1 g4))))))) ?_) | (apply SW.toG; first | refine SWop.yes (And.intro l5 (And.intro l1 (And.intro l2 (And.intro v1 (And.intro e8 (And.intro hR (And.intro byS.eq_1 g4))))))) ?_ | refine SWop.no (And.intro l5 (And.intro l1 (And.intro l2 (And.intro v1 (And.intro e8 (And.intro hR (And.intro byS.eq_1 g4))))))) ?_)
  refine W.condZ G (And.intro l5 (And.intro l1 (And.intro l2 (And.intro v1 (And.intro e8 (And.intro hR (And.intro byS.eq_1 g4))))))) ?_ ?_
  all_goals intro hc
  · have hc' : (0#64).toNat < (BitVec.ofNat 64 (R / B64 ^ 4)).toNat := yes_of hc
    rw [eR] at hc'
    have hge : B256 ≤ R := by
      have : ¬ R < B64 ^ 4 := fun c => by rw [Nat.div_eq_of_lt c] at hc'; exact absurd hc' (by decide)
      rw [B256_eq]; omega
    rw [if_pos hge] at hF
    rw [hF]
    repeat' first
      | refine W.seq ?_ | (refine W.regS G ?_; dsimp only) | refine SW.nil ?_ | refine thenQ_normal ?_ | refine W.skip ?_ | refine W.exit ?_ | refine thenQ_exit ?_ | refine inBlockQ_exit ?_ | refine inBlockQ_normal ?_ | refine W.block ?_
      | (apply SW.toC; refine SWcall.go (And.intro NotS.eq_1 lz) ?_) | (apply SW.toOp; refine SWop.go (And.intro NotS.eq_1 lz) ?_) | (apply SW.toCG; first | refine SWcall.yes (And.intro NotS.eq_1 lz) ?_ | refine SWcall.no (And.intro NotS.eq_1 lz) ?_) | (apply SW.toG; first | refine SWop.yes (And.intro NotS.eq_1 lz) ?_ | refine SWop.no (And.intro NotS.eq_1 lz) ?_)
    refine W.ret ?_
    repeat' first
      | refine thenQ_ret ?_
      | refine inBlockQ_ret ?_
    refine fin1Z (And.intro NotS.eq_1 lz) ?_
    exact leV_refl
  · have hc' : ¬ (0#64).toNat < (BitVec.ofNat 64 (R / B64 ^ 4)).toNat := no_of hc
    rw [eR] at hc'
    have hlt : ¬ B256 ≤ R := by
      intro c
      refine hc' ?_
      show 0 < R / B64 ^ 4
      exact Nat.div_pos (by rw [← B256_eq]; exact c) (by decide)
    rw [if_neg hlt] at hF
    rw [hF]
    repeat' first
      | refine W.seq ?_ | (refine W.regS G ?_; dsimp only) | refine SW.nil ?_ | refine thenQ_normal ?_ | refine W.skip ?_ | refine W.exit ?_ | refine thenQ_exit ?_ | refine inBlockQ_exit ?_ | refine inBlockQ_normal ?_ | refine W.block ?_
      | (apply SW.toC; refine SWcall.go (And.intro l2 s4) ?_) | (apply SW.toOp; refine SWop.go (And.intro l2 s4) ?_) | (apply SW.toCG; first | refine SWcall.yes (And.intro l2 s4) ?_ | refine SWcall.no (And.intro l2 s4) ?_) | (apply SW.toG; first | refine SWop.yes (And.intro l2 s4) ?_ | refine SWop.no (And.intro l2 s4) ?_)
    refine W.ret ?_
    repeat' first
      | refine thenQ_ret ?_
      | refine inBlockQ_ret ?_
    refine fin1Z (And.intro l2 s4) ?_
    rw [v1, hR, s4]
    exact leV_refl
def nextF (a : List (BitVec 64)) (u l : Nat) : List (BitVec 64) :=
  if l / 2 = 0 ∨ u = l / 2 then a
  else if u < l / 2 then wOf (wv a + B256 - wv (partF (wv a) (l / 2 - u) (l / 2)))
  else
    let p := partF (wv a) (u - l / 2) (l / 2)
    let m := if p = zeros 64 4 then [1#64, 0#64, 0#64, 0#64] else p
    if wv (wOf (wv a + wv m)) < wv a then wOf (B256 - 1 - wv (zeros 64 4)) else wOf (wv a + wv m)
theorem partF_len (x n t : Nat) : (partF x n t).length = 4 := by
  unfold partF
  split <;> rfl
noncomputable def nextS : FSpec := { run := fun ins => match ins with
  | [.agg 4 (.u 64 a), .u 64 u, .u 64 l] => chk (a.length = 4 ∧ ¬ u.toNat < l.toNat / 2) (some (.agg 4 (.u 64 (nextF a u.toNat l.toNat)), []))
  | _ => none }
end Go.Vm.C19

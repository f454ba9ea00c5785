/- What some functions of the program compute, walked through once. -/
import Derived.Test.YthjgpkaamgoodaaCCD
namespace Go.Vm.C01
open Go Go.Proofs
set_option linter.unusedVariables false
set_option linter.unusedSimpArgs false
set_option maxRecDepth 100000
set_option maxHeartbeats 8000000

/-! ### quotient and rest of words -/
def wmod (x y : Nat) : Nat := if y = 0 then 0 else x % y
noncomputable def divS : FSpec := { run := fun ins => match ins with
  | [.agg 4 (.u 64 a), .agg 4 (.u 64 b)] => chk (a.length = 4 ∧ b.length = 4) (some (.tup [.agg 4 (.u 64 (wOf (wv a / wv b))), .agg 4 (.u 64 (wOf (wmod (wv a) (wv b))))], []))
  | _ => none }
theorem lof4 (v : Nat) : lOf 4 v = wOf v := by
  refine wv_inj (lOf_len 4 v) (wOf_len v) ?_
  rw [wv_wOf, B256_eq]
  exact lOf_val 4 v 4 (Nat.le_refl _)
theorem limb_at {a : List (BitVec 64)} (la : a.length = 4) {j : Nat} (hj : j < 4) : (a.getD j 0).toNat = wv a / B64 ^ j % B64 := by
  have h : a = lOf 4 (wv a) := eq_lOf la rfl
  have e : (a.getD j 0) = BitVec.ofNat 64 (wv a / B64 ^ j) := by
    rw [← lOf_at (n := 4) hj, ← h]
  rw [e, BitVec.toNat_ofNat]
  rfl
theorem limb_step {A b x : Nat} (hb : 0 < b) : (A * B64 + x) / b = A / b * B64 + (A % b * B64 + x) / b ∧ (A * B64 + x) % b = (A % b * B64 + x) % b := by
  have e : A * B64 + x = b * (A / b * B64) + (A % b * B64 + x) := by
    have := Nat.div_add_mod A b
    calc A * B64 + x = (b * (A / b) + A % b) * B64 + x := by rw [this]
      _ = b * (A / b * B64) + (A % b * B64 + x) := by rw [Nat.add_mul, Nat.mul_assoc, Nat.add_assoc]
  constructor
  · rw [e, Nat.mul_add_div hb]
  · rw [e, Nat.mul_add_mod]
theorem low_zero {q : List (BitVec 64)} (lq : q.length = 4) {j c : Nat} (hj : j < 4) (h : wv q = c * B64 ^ (j + 1)) : (q.getD j 0).toNat = 0 := by
  rw [limb_at lq hj, h, Nat.pow_succ, ← Nat.mul_assoc, Nat.mul_right_comm, Nat.mul_div_cancel _ (Nat.pow_pos (by decide)), Nat.mul_mod_left]
theorem div_sound : SoundFn Try.prog glB 80 divS.run := by
  have G := good_of (P := Try.prog) glB_ro (l := [(69, cmprS), (93, div64S), (78, divideS)]) (by simp only [List.forall_mem_cons]; exact ⟨cmpr_sound, div64_sound, divide_sound, by simp⟩)
  refine soundFn_of_W G Try.func80 (by decide) rfl (by decide) ?_
  intro ins ret outs h
  unfold divS at h
  dsimp only at h
  split at h
  rotate_left
  · cases h
  rename_i a b
  obtain ⟨hl, h'⟩ := chk_some h
  clear h
  cases h'
  obtain ⟨la, lb⟩ := hl
  refine ⟨by show 2 ≤ 60; decide, fun w0 ext av => ?_⟩
  rw [Try.ntmps80, st0_eq]
  have hr : -1 ≤ cmpI (wv a) (wv b) ∧ cmpI (wv a) (wv b) ≤ 1 := by unfold cmpI; split <;> (try split) <;> omega
  have hM : wmod (wv a) (wv b) = if wv b = 0 then 0 else wv a % wv b := rfl
  repeat' first
    | refine W.seq ?_ | (refine W.regS G ?_; dsimp only) | refine SW.nil ?_ | refine thenQ_normal ?_ | refine W.skip ?_ | refine W.exit ?_ | refine thenQ_exit ?_ | refine inBlockQ_exit ?_ | refine inBlockQ_normal ?_ | refine W.block ?_
    | (apply SW.toC; refine SWcall.go True.intro ?_) | (apply SW.toOp; refine SWop.go True.intro ?_) | (apply SW.toCG; first | refine SWcall.yes True.intro ?_ | refine SWcall.no True.intro ?_) | (apply SW.toG; first | refine SWop.yes True.intro ?_ | refine SWop.no True.intro ?_)
  refine W.condZ G True.intro ?_ ?_
  all_goals intro h1
  · have hb0 : wv b = 0 := by
      have e : b = zeros 64 4 := yes_of h1
      rw [e]
      exact wvk_zeros 4 4
    rw [if_pos hb0] at hM
    have q1 : wOf (wv a / wv b) = zeros 64 4 := by rw [hb0, Nat.div_zero]; rfl
    have q2 : wOf (wmod (wv a) (wv b)) = zeros 64 4 := by rw [hM]; rfl
    rw [q1, q2]
    repeat' first
      | refine W.seq ?_ | (refine W.regS G ?_; dsimp only) | refine SW.nil ?_ | refine thenQ_normal ?_ | refine W.skip ?_ | refine W.exit ?_ | refine thenQ_exit ?_ | refine inBlockQ_exit ?_ | refine inBlockQ_normal ?_ | refine W.block ?_
      | (apply SW.toC; refine SWcall.go True.intro ?_) | (apply SW.toOp; refine SWop.go True.intro ?_) | (apply SW.toCG; first | refine SWcall.yes True.intro ?_ | refine SWcall.no True.intro ?_) | (apply SW.toG; first | refine SWop.yes True.intro ?_ | refine SWop.no True.intro ?_)
    refine W.ret ?_
    repeat' first
      | refine thenQ_ret ?_
      | refine inBlockQ_ret ?_
    refine fin2Z True.intro ?_ ?_
    · exact leV_refl
    · exact leV_refl
  have hb0 : ¬ wv b = 0 := fun c => no_of h1 (by
    refine wv_inj lb rfl ?_
    rw [c]
    exact (wvk_zeros 4 4).symm)
  have hbp : 0 < wv b := Nat.pos_of_ne_zero hb0
  rw [if_neg hb0] at hM
  rw [hM]
  repeat' first
    | refine W.seq ?_ | (refine W.regS G ?_; dsimp only) | refine SW.nil ?_ | refine thenQ_normal ?_ | refine W.skip ?_ | refine W.exit ?_ | refine thenQ_exit ?_ | refine inBlockQ_exit ?_ | refine inBlockQ_normal ?_ | refine W.block ?_
    | (apply SW.toC; refine SWcall.go cmprS.eq_1 ?_) | (apply SW.toOp; refine SWop.go cmprS.eq_1 ?_) | (apply SW.toCG; first | refine SWcall.yes cmprS.eq_1 ?_ | refine SWcall.no cmprS.eq_1 ?_) | (apply SW.toG; first | refine SWop.yes cmprS.eq_1 ?_ | refine SWop.no cmprS.eq_1 ?_)
  refine W.condZ G cmprS.eq_1 ?_ ?_
  all_goals intro h2
  · have h2' := of_decide_eq_true h2
    have hlt : wv a < wv b := by
      unfold cmpI at h2'
      split at h2'
      · assumption
      · split at h2' <;> omega
    have q1 : wOf (wv a / wv b) = zeros 64 4 := by rw [Nat.div_eq_of_lt hlt]; rfl
    have q2 : wOf (wv a % wv b) = a := by rw [Nat.mod_eq_of_lt hlt]; exact wOf_wv a la
    rw [q1, q2]
    repeat' first
      | refine W.seq ?_ | (refine W.regS G ?_; dsimp only) | refine SW.nil ?_ | refine thenQ_normal ?_ | refine W.skip ?_ | refine W.exit ?_ | refine thenQ_exit ?_ | refine inBlockQ_exit ?_ | refine inBlockQ_normal ?_
      | (apply SW.toC; refine SWcall.go True.intro ?_) | (apply SW.toOp; refine SWop.go True.intro ?_) | (apply SW.toCG; first | refine SWcall.yes True.intro ?_ | refine SWcall.no True.intro ?_) | (apply SW.toG; first | refine SWop.yes True.intro ?_ | refine SWop.no True.intro ?_)
    refine W.drawS G [[], [], [0], [1, 2, 0]] hmix ?_
    dsimp only
    repeat' first
      | (apply DW.nil; (focus (decide +kernel)))
      | (apply DW.toC; refine DWcall.go True.intro ?_) | (apply DW.toOp; refine DWop.go True.intro ?_) | (apply DW.toCG; first | refine DWcall.yes True.intro ?_ | refine DWcall.no True.intro ?_) | (apply DW.toG; first | refine DWop.yes True.intro ?_ | refine DWop.no True.intro ?_)
    repeat' first
      | refine W.seq ?_ | (refine W.regS G ?_; dsimp only) | refine SW.nil ?_ | refine thenQ_normal ?_ | refine W.skip ?_ | refine W.exit ?_ | refine thenQ_exit ?_ | refine inBlockQ_exit ?_ | refine inBlockQ_normal ?_ | refine W.block ?_
      | (apply SW.toC; refine SWcall.go True.intro ?_) | (apply SW.toOp; refine SWop.go True.intro ?_) | (apply SW.toCG; first | refine SWcall.yes True.intro ?_ | refine SWcall.no True.intro ?_) | (apply SW.toG; first | refine SWop.yes True.intro ?_ | refine SWop.no True.intro ?_)
    refine W.ret ?_
    repeat' first
      | refine thenQ_ret ?_
      | refine inBlockQ_ret ?_
    refine fin2Z True.intro ?_ ?_
    · exact leV_refl
    · exact leV_refl
  repeat' first
    | refine W.seq ?_ | (refine W.regS G ?_; dsimp only) | refine SW.nil ?_ | refine thenQ_normal ?_ | refine W.skip ?_ | refine W.exit ?_ | refine thenQ_exit ?_ | refine inBlockQ_exit ?_ | refine inBlockQ_normal ?_ | refine W.block ?_
    | (apply SW.toC; refine SWcall.go True.intro ?_) | (apply SW.toOp; refine SWop.go True.intro ?_) | (apply SW.toCG; first | refine SWcall.yes True.intro ?_ | refine SWcall.no True.intro ?_) | (apply SW.toG; first | refine SWop.yes True.intro ?_ | refine SWop.no True.intro ?_)
  refine W.condZ G True.intro ?_ ?_
  all_goals intro h3
  · have h3' : b.getD 1 0 ||| b.getD 2 0 ||| b.getD 3 0 = 0 := yes_of h3
    have hv := sm_yes h3'
    generalize hyy : b.getD 0 0 = y at hv
    have hy0 : 0 < y.toNat := by omega
    repeat' first
      | refine W.seq ?_ | (refine W.regS G ?_; dsimp only) | refine SW.nil ?_ | refine thenQ_normal ?_ | refine W.skip ?_ | refine W.exit ?_ | refine thenQ_exit ?_ | refine inBlockQ_exit ?_ | refine inBlockQ_normal ?_ | refine W.block ?_
      | (apply SW.toC; refine SWcall.go hyy ?_) | (apply SW.toOp; refine SWop.go hyy ?_) | (apply SW.toCG; first | refine SWcall.yes hyy ?_ | refine SWcall.no hyy ?_) | (apply SW.toG; first | refine SWop.yes hyy ?_ | refine SWop.no hyy ?_)
    refine W.loopI (ι := {t : Nat × List (BitVec 64) // t.1 ≤ 4 ∧ t.2.length = 4 ∧ wv t.2 = wv a / B64 ^ t.1 / y.toNat * B64 ^ t.1}) (fun t => sL [(2, .p 2 0 0 0), (3, .p 3 0 0 0), (4, .p 4 0 0 0), (5, .p 5 0 0 0), (6, .p 6 0 0 0), (7, .u 64 (BitVec.ofNat 64 (wv a / B64 ^ t.1.1 % y.toNat))), (8, .i ((t.1.1 : Int) - 1))] [(2, .agg 4 (.u 64 a)), (3, .agg 4 (.u 64 b)), (4, .agg 4 (.u 64 (zeros 64 4))), (5, .agg 4 (.u 64 (zeros 64 4))), (6, .agg 4 (.u 64 t.1.2))] 60) (fun t => t.1.1) ⟨(4, zeros 64 4), by show 4 ≤ 4; omega, rfl, ?_⟩ (Imp.le ?_) ?_
    · have z4 : wv a / B64 ^ 4 = 0 := Nat.div_eq_of_lt (by rw [← B256_eq]; exact wv_lt a)
      dsimp only
      rw [z4, Nat.zero_div, Nat.zero_mul]
      exact wvk_zeros 4 4
    · have z4 : wv a / B64 ^ 4 = 0 := Nat.div_eq_of_lt (by rw [← B256_eq]; exact wv_lt a)
      have e0 : BitVec.ofNat 64 (wv a / B64 ^ 4 % y.toNat) = 0#64 := by rw [z4, Nat.zero_mod]
      exact sL_leZ (And.intro e0 hyy)
    rintro ⟨⟨k, q⟩, hk, lq, hI⟩
    dsimp only at hk lq hI
    repeat' first
      | refine W.seq ?_ | (refine W.regS G ?_; dsimp only) | refine SW.nil ?_ | refine thenQ_normal ?_ | refine W.skip ?_ | refine W.exit ?_ | refine thenQ_exit ?_ | refine inBlockQ_exit ?_ | refine inBlockQ_normal ?_ | refine W.block ?_
      | (apply SW.toC; refine SWcall.go lq ?_) | (apply SW.toOp; refine SWop.go lq ?_) | (apply SW.toCG; first | refine SWcall.yes lq ?_ | refine SWcall.no lq ?_) | (apply SW.toG; first | refine SWop.yes lq ?_ | refine SWop.no lq ?_)
    refine W.condZ G lq ?_ ?_
    all_goals intro ht
    · have ht' := of_decide_eq_true ht
      obtain ⟨j, rfl⟩ : ∃ j, k = j + 1 := ⟨k - 1, by omega⟩
      have ej : (((j + 1 : Nat) : Int) - 1) = (j : Int) := by omega
      have hj4 : j < 4 := by omega
      have hx := limb_at la hj4
      have hz := low_zero lq hj4 hI
      have hA : wv a / B64 ^ j = wv a / B64 ^ (j + 1) * B64 + (a.getD j 0).toNat := by
        rw [hx, Nat.pow_succ, ← Nat.div_div_eq_div_mul]
        exact (Nat.div_add_mod' _ _).symm
      obtain ⟨s1, s2⟩ := limb_step (A := wv a / B64 ^ (j + 1)) (x := (a.getD j 0).toNat) hy0
      rw [← hA] at s1 s2
      generalize wv a / B64 ^ (j + 1) = Ak at *
      have hrl : Ak % y.toNat < y.toNat := Nat.mod_lt _ hy0
      obtain ⟨r, hrr⟩ : ∃ r, BitVec.ofNat 64 (Ak % y.toNat) = r := ⟨_, rfl⟩
      have vr : r.toNat = Ak % y.toNat := by
        rw [← hrr, BitVec.toNat_ofNat]
        exact Nat.mod_eq_of_lt (Nat.lt_trans hrl y.isLt)
      rw [← vr] at s1 s2 hrl
      rw [hrr]
      generalize hxx : a.getD j 0 = x at *
      have hd : (r.toNat * B64 + x.toNat) / y.toNat < B64 := by
        rw [Nat.div_lt_iff_lt_mul hy0]
        have h1 : (r.toNat + 1) * B64 ≤ y.toNat * B64 := Nat.mul_le_mul_right _ hrl
        have h2 := x.isLt
        rw [Nat.add_mul] at h1
        rw [Nat.mul_comm B64]
        unfold B64 at *
        omega
      have hI2 : wv (q.set j (BitVec.ofNat 64 ((r.toNat * B64 + x.toNat) / y.toNat))) = wv a / B64 ^ j / y.toNat * B64 ^ j := by
        have h1 := wvk_set (l := q) (i := j) (x := BitVec.ofNat 64 ((r.toNat * B64 + x.toNat) / y.toNat)) (by omega) hj4
        have hd2 : (r.toNat * B64 + x.toNat) / y.toNat % 2 ^ 64 = (r.toNat * B64 + x.toNat) / y.toNat := Nat.mod_eq_of_lt hd
        rw [hz, Nat.mul_zero, Nat.add_zero, BitVec.toNat_ofNat, hd2] at h1
        have h2 : wv (q.set j (BitVec.ofNat 64 ((r.toNat * B64 + x.toNat) / y.toNat))) = wv q + B64 ^ j * ((r.toNat * B64 + x.toNat) / y.toNat) := h1
        rw [h2, hI, s1, Nat.add_mul, Nat.pow_succ, Nat.mul_comm (B64 ^ j) B64, ← Nat.mul_assoc, Nat.mul_comm (B64 ^ j) ((r.toNat * B64 + x.toNat) / y.toNat)]
      have hs2 : BitVec.ofNat 64 (wv a / B64 ^ j % y.toNat) = BitVec.ofNat 64 ((r.toNat * B64 + x.toNat) % y.toNat) := by rw [s2]
      repeat' first
        | refine W.seq ?_ | (refine W.regS G ?_; dsimp only) | refine SW.nil ?_ | refine thenQ_normal ?_ | refine W.skip ?_ | refine W.exit ?_ | refine thenQ_exit ?_ | refine inBlockQ_exit ?_ | refine inBlockQ_normal ?_
        | (apply SW.toC; refine SWcall.go (And.intro ej (And.intro lq (And.intro div64S.eq_1 (And.intro hyy hxx)))) ?_) | (apply SW.toOp; refine SWop.go (And.intro ej (And.intro lq (And.intro div64S.eq_1 (And.intro hyy hxx)))) ?_) | (apply SW.toCG; first | refine SWcall.yes (And.intro ej (And.intro lq (And.intro div64S.eq_1 (And.intro hyy hxx)))) ?_ | refine SWcall.no (And.intro ej (And.intro lq (And.intro div64S.eq_1 (And.intro hyy hxx)))) ?_) | (apply SW.toG; first | refine SWop.yes (And.intro ej (And.intro lq (And.intro div64S.eq_1 (And.intro hyy hxx)))) ?_ | refine SWop.no (And.intro ej (And.intro lq (And.intro div64S.eq_1 (And.intro hyy hxx)))) ?_)
      refine W.block ?_
      repeat' first
        | refine W.seq ?_ | (refine W.regS G ?_; dsimp only) | refine SW.nil ?_ | refine thenQ_normal ?_ | refine W.skip ?_ | refine W.exit ?_ | refine thenQ_exit ?_ | refine inBlockQ_exit ?_ | refine inBlockQ_normal ?_
        | (apply SW.toC; refine SWcall.go (And.intro ej (And.intro lq (And.intro div64S.eq_1 (And.intro hyy hxx)))) ?_) | (apply SW.toOp; refine SWop.go (And.intro ej (And.intro lq (And.intro div64S.eq_1 (And.intro hyy hxx)))) ?_) | (apply SW.toCG; first | refine SWcall.yes (And.intro ej (And.intro lq (And.intro div64S.eq_1 (And.intro hyy hxx)))) ?_ | refine SWcall.no (And.intro ej (And.intro lq (And.intro div64S.eq_1 (And.intro hyy hxx)))) ?_) | (apply SW.toG; first | refine SWop.yes (And.intro ej (And.intro lq (And.intro div64S.eq_1 (And.intro hyy hxx)))) ?_ | refine SWop.no (And.intro ej (And.intro lq (And.intro div64S.eq_1 (And.intro hyy hxx)))) ?_)
      refine W.drawS G [[], [], [], [2], [3, 2], [], [5], [1, 4, 3, 2, 6, 5], [7, 1, 4, 3, 2, 6, 5], [8, 7, 1, 4, 3, 2, 6, 5], [8, 7, 1, 4, 3, 2, 6, 5], [0, 1, 2, 3, 4, 5, 6, 7, 8, 9], [11, 0, 1, 2, 3, 4, 5, 6, 7, 8, 9], [10, 8, 7, 1, 4, 3, 2, 6, 5, 12, 11, 0, 9]] hmix ?_
      dsimp only
      repeat' first
        | (apply DW.nil; (focus (decide +kernel)))
        | (apply DW.toC; refine DWcall.go (And.intro ej (And.intro lq (And.intro div64S.eq_1 (And.intro hyy hxx)))) ?_) | (apply DW.toOp; refine DWop.go (And.intro ej (And.intro lq (And.intro div64S.eq_1 (And.intro hyy hxx)))) ?_) | (apply DW.toCG; first | refine DWcall.yes (And.intro ej (And.intro lq (And.intro div64S.eq_1 (And.intro hyy hxx)))) ?_ | refine DWcall.no (And.intro ej (And.intro lq (And.intro div64S.eq_1 (And.intro hyy hxx)))) ?_) | (apply DW.toG; first | refine DWop.yes (And.intro ej (And.intro lq (And.intro div64S.eq_1 (And.intro hyy hxx)))) ?_ | refine DWop.no (And.intro ej (And.intro lq (And.intro div64S.eq_1 (And.intro hyy hxx)))) ?_)
      repeat' first
        | refine W.seq ?_ | (refine W.regS G ?_; dsimp only) | refine SW.nil ?_ | refine thenQ_normal ?_ | refine W.skip ?_ | refine W.exit ?_ | refine thenQ_exit ?_ | refine inBlockQ_exit ?_ | refine inBlockQ_normal ?_ | refine W.block ?_
        | (apply SW.toC; refine SWcall.go (And.intro ej (And.intro lq (And.intro div64S.eq_1 (And.intro hyy hxx)))) ?_) | (apply SW.toOp; refine SWop.go (And.intro ej (And.intro lq (And.intro div64S.eq_1 (And.intro hyy hxx)))) ?_) | (apply SW.toCG; first | refine SWcall.yes (And.intro ej (And.intro lq (And.intro div64S.eq_1 (And.intro hyy hxx)))) ?_ | refine SWcall.no (And.intro ej (And.intro lq (And.intro div64S.eq_1 (And.intro hyy hxx)))) ?_) | (apply SW.toG; first | refine SWop.yes (And.intro ej (And.intro lq (And.intro div64S.eq_1 (And.intro hyy hxx)))) ?_ | refine SWop.no (And.intro ej (And.intro lq (And.intro div64S.eq_1 (And.intro hyy hxx)))) ?_)
      refine ⟨⟨(j, _), by dsimp only; omega, ?_, hI2⟩, Imp.le ?_, by show j < j + 1; omega⟩
      · dsimp only; rw [List.length_set]; exact lq
      exact sL_leZ (And.intro hs2 (And.intro ej (And.intro lq (And.intro div64S.eq_1 (And.intro hyy hxx)))))
    have ht' := of_decide_eq_false ht
    obtain rfl : k = 0 := by omega
    rw [Nat.pow_zero, Nat.div_one, Nat.mul_one] at hI
    have q1 : wOf (wv a / wv b) = q := by rw [hv, ← hI, wOf_wv q lq]
    have q2 : wOf (wv a % wv b) = [BitVec.ofNat 64 (wv a / B64 ^ 0 % y.toNat), 0#64, 0#64, 0#64] := by
      rw [Nat.pow_zero, Nat.div_one, hv]
      have h1 : wv a % y.toNat < 2 ^ 64 := Nat.lt_trans (Nat.mod_lt _ hy0) y.isLt
      rw [wOf_small, BitVec.toNat_ofNat, Nat.mod_eq_of_lt h1]
    rw [q1, q2]
    repeat' first
      | refine W.seq ?_ | (refine W.regS G ?_; dsimp only) | refine SW.nil ?_ | refine thenQ_normal ?_ | refine W.skip ?_ | refine W.exit ?_ | refine thenQ_exit ?_ | refine inBlockQ_exit ?_ | refine inBlockQ_normal ?_ | refine W.block ?_
      | (apply SW.toC; refine SWcall.go lq ?_) | (apply SW.toOp; refine SWop.go lq ?_) | (apply SW.toCG; first | refine SWcall.yes lq ?_ | refine SWcall.no lq ?_) | (apply SW.toG; first | refine SWop.yes lq ?_ | refine SWop.no lq ?_)
    refine W.ret ?_
    repeat' first
      | refine thenQ_ret ?_
      | refine inBlockQ_ret ?_
    refine fin2Z lq ?_ ?_
    · exact leV_refl
    · exact leV_refl
  have wa : wvk a 4 = wv a := rfl
  have q1 := lof4 (wv a / wv b)
  have ll := lOf_len 4 (wv a / wv b)
  rw [← q1]
  obtain ⟨qq, hqq⟩ : ∃ q, lOf 4 (wv a / wv b) = q := ⟨_, rfl⟩
  rw [hqq] at ll ⊢
  repeat' first
    | refine W.seq ?_ | (refine W.regS G ?_; dsimp only) | refine SW.nil ?_ | refine thenQ_normal ?_ | refine W.skip ?_ | refine W.exit ?_ | refine thenQ_exit ?_ | refine inBlockQ_exit ?_ | refine inBlockQ_normal ?_
    | (apply SW.toC; refine SWcall.go (And.intro divideS.eq_1 (And.intro la (And.intro lb (And.intro wa (And.intro hqq ll))))) ?_) | (apply SW.toOp; refine SWop.go (And.intro divideS.eq_1 (And.intro la (And.intro lb (And.intro wa (And.intro hqq ll))))) ?_) | (apply SW.toCG; first | refine SWcall.yes (And.intro divideS.eq_1 (And.intro la (And.intro lb (And.intro wa (And.intro hqq ll))))) ?_ | refine SWcall.no (And.intro divideS.eq_1 (And.intro la (And.intro lb (And.intro wa (And.intro hqq ll))))) ?_) | (apply SW.toG; first | refine SWop.yes (And.intro divideS.eq_1 (And.intro la (And.intro lb (And.intro wa (And.intro hqq ll))))) ?_ | refine SWop.no (And.intro divideS.eq_1 (And.intro la (And.intro lb (And.intro wa (And.intro hqq ll))))) ?_)
  refine W.drawS G [[], [], [0, 1], [2, 0, 1], [3, 2, 0, 1], [3, 2, 0, 1], [], [4, 3, 2, 0, 1, 6], [6, 5, 3, 2, 0, 1, 7, 4]] hmix ?_
  dsimp only
  repeat' first
    | (apply DW.nil; (focus (decide +kernel)))
    | (apply DW.toC; refine DWcall.go (And.intro divideS.eq_1 (And.intro la (And.intro lb (And.intro wa (And.intro hqq ll))))) ?_) | (apply DW.toOp; refine DWop.go (And.intro divideS.eq_1 (And.intro la (And.intro lb (And.intro wa (And.intro hqq ll))))) ?_) | (apply DW.toCG; first | refine DWcall.yes (And.intro divideS.eq_1 (And.intro la (And.intro lb (And.intro wa (And.intro hqq ll))))) ?_ | refine DWcall.no (And.intro divideS.eq_1 (And.intro la (And.intro lb (And.intro wa (And.intro hqq ll))))) ?_) | (apply DW.toG; first | refine DWop.yes (And.intro divideS.eq_1 (And.intro la (And.intro lb (And.intro wa (And.intro hqq ll))))) ?_ | refine DWop.no (And.intro divideS.eq_1 (And.intro la (And.intro lb (And.intro wa (And.intro hqq ll))))) ?_)
  repeat' first
    | refine W.seq ?_ | (refine W.regS G ?_; dsimp only) | refine SW.nil ?_ | refine thenQ_normal ?_ | refine W.skip ?_ | refine W.exit ?_ | refine thenQ_exit ?_ | refine inBlockQ_exit ?_ | refine inBlockQ_normal ?_
    | (apply SW.toC; refine SWcall.go (And.intro divideS.eq_1 (And.intro la (And.intro lb (And.intro wa (And.intro hqq ll))))) ?_) | (apply SW.toOp; refine SWop.go (And.intro divideS.eq_1 (And.intro la (And.intro lb (And.intro wa (And.intro hqq ll))))) ?_) | (apply SW.toCG; first | refine SWcall.yes (And.intro divideS.eq_1 (And.intro la (And.intro lb (And.intro wa (And.intro hqq ll))))) ?_ | refine SWcall.no (And.intro divideS.eq_1 (And.intro la (And.intro lb (And.intro wa (And.intro hqq ll))))) ?_) | (apply SW.toG; first | refine SWop.yes (And.intro divideS.eq_1 (And.intro la (And.intro lb (And.intro wa (And.intro hqq ll))))) ?_ | refine SWop.no (And.intro divideS.eq_1 (And.intro la (And.intro lb (And.intro wa (And.intro hqq ll))))) ?_)
  refine W.drawS G [[], [0], [1, 0], [], [2, 1, 0], [3, 4, 2, 1, 0]] hmix ?_
  dsimp only
  repeat' first
    | (apply DW.nil; (focus (decide +kernel)))
    | (apply DW.toC; refine DWcall.go (And.intro divideS.eq_1 (And.intro la (And.intro lb (And.intro wa (And.intro hqq ll))))) ?_) | (apply DW.toOp; refine DWop.go (And.intro divideS.eq_1 (And.intro la (And.intro lb (And.intro wa (And.intro hqq ll))))) ?_) | (apply DW.toCG; first | refine DWcall.yes (And.intro divideS.eq_1 (And.intro la (And.intro lb (And.intro wa (And.intro hqq ll))))) ?_ | refine DWcall.no (And.intro divideS.eq_1 (And.intro la (And.intro lb (And.intro wa (And.intro hqq ll))))) ?_) | (apply DW.toG; first | refine DWop.yes (And.intro divideS.eq_1 (And.intro la (And.intro lb (And.intro wa (And.intro hqq ll))))) ?_ | refine DWop.no (And.intro divideS.eq_1 (And.intro la (And.intro lb (And.intro wa (And.intro hqq ll))))) ?_)
  repeat' first
    | refine W.seq ?_ | (refine W.regS G ?_; dsimp only) | refine SW.nil ?_ | refine thenQ_normal ?_ | refine W.skip ?_ | refine W.exit ?_ | refine thenQ_exit ?_ | refine inBlockQ_exit ?_ | refine inBlockQ_normal ?_ | refine W.block ?_
    | (apply SW.toC; refine SWcall.go (And.intro divideS.eq_1 (And.intro la (And.intro lb (And.intro wa (And.intro hqq ll))))) ?_) | (apply SW.toOp; refine SWop.go (And.intro divideS.eq_1 (And.intro la (And.intro lb (And.intro wa (And.intro hqq ll))))) ?_) | (apply SW.toCG; first | refine SWcall.yes (And.intro divideS.eq_1 (And.intro la (And.intro lb (And.intro wa (And.intro hqq ll))))) ?_ | refine SWcall.no (And.intro divideS.eq_1 (And.intro la (And.intro lb (And.intro wa (And.intro hqq ll))))) ?_) | (apply SW.toG; first | refine SWop.yes (And.intro divideS.eq_1 (And.intro la (And.intro lb (And.intro wa (And.intro hqq ll))))) ?_ | refine SWop.no (And.intro divideS.eq_1 (And.intro la (And.intro lb (And.intro wa (And.intro hqq ll))))) ?_)
  refine W.ret ?_
  repeat' first
    | refine thenQ_ret ?_
    | refine inBlockQ_ret ?_
  refine fin2Z (And.intro divideS.eq_1 (And.intro la (And.intro lb (And.intro wa (And.intro hqq ll))))) ?_ ?_
  · exact leV_refl
  · exact leV_refl
end Go.Vm.C01

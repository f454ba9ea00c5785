/- What some functions of the program compute, walked through once. -/
import Derived.Test.YthjgpkaamgoodaaCCL
namespace Go.Vm.C01
open Go Go.Proofs
set_option linter.unusedVariables false
set_option linter.unusedSimpArgs false
set_option maxRecDepth 100000
set_option maxHeartbeats 8000000

/-! ### sums and products modulo a word -/
theorem sub_whole {α : Type} {l : List α} {n : Nat} (h : l.length = n) : subL l 0 n = l := by
  unfold subL
  rw [List.drop_zero, ← h, List.take_length]
theorem sub_take {α : Type} {l : List α} {n : Nat} : subL l 0 n = l.take n := rfl
theorem wvk_append (a b : List (BitVec 64)) : ∀ n, n ≤ a.length → wvk (a ++ b) n = wvk a n
  | 0, _ => rfl
  | n + 1, h => by
    have e1 : wvk (a ++ b) (n + 1) = wvk (a ++ b) n + B64 ^ n * ((a ++ b).getD n 0).toNat := rfl
    have e2 : wvk a (n + 1) = wvk a n + B64 ^ n * (a.getD n 0).toNat := rfl
    have e3 : (a ++ b).getD n 0 = a.getD n 0 := by
      rw [List.getD_eq_getElem?_getD, List.getD_eq_getElem?_getD, List.getElem?_append_left (by omega)]
    rw [e1, e2, e3, wvk_append a b n (by omega)]
theorem wvk_take (l : List (BitVec 64)) : ∀ m n, n ≤ m → wvk (l.take m) n = wvk l n
  | _, 0, _ => rfl
  | m, n + 1, h => by
    have e1 : wvk (l.take m) (n + 1) = wvk (l.take m) n + B64 ^ n * ((l.take m).getD n 0).toNat := rfl
    have e2 : wvk l (n + 1) = wvk l n + B64 ^ n * (l.getD n 0).toNat := rfl
    have e3 : (l.take m).getD n 0 = l.getD n 0 := by
      rw [List.getD_eq_getElem?_getD, List.getD_eq_getElem?_getD, List.getElem?_take, if_pos (by omega)]
    rw [e1, e2, e3, wvk_take l m n (by omega)]
theorem sum5 {v : Nat} (hv : v < 2 * B256) : wvk (wOf v ++ [BitVec.ofNat 64 (v / B256)]) 5 = v := by
  have l4 : (wOf v).length = 4 := wOf_len v
  have e1 : wvk (wOf v ++ [BitVec.ofNat 64 (v / B256)]) 5 = wvk (wOf v ++ [BitVec.ofNat 64 (v / B256)]) 4 + B64 ^ 4 * ((wOf v ++ [BitVec.ofNat 64 (v / B256)]).getD 4 0).toNat := rfl
  have e2 : (wOf v ++ [BitVec.ofNat 64 (v / B256)]).getD 4 0 = BitVec.ofNat 64 (v / B256) := by
    rw [List.getD_eq_getElem?_getD, List.getElem?_append_right (by omega), l4]
    rfl
  have e3 : v / B256 < 2 := by rw [Nat.div_lt_iff_lt_mul (by unfold B256; omega)]; exact hv
  have e4 : (BitVec.ofNat 64 (v / B256)).toNat = v / B256 := by
    rw [BitVec.toNat_ofNat, Nat.mod_eq_of_lt (by omega)]
  have e5 : wvk (wOf v) 4 = v % B256 := wv_wOf v
  rw [e1, e2, e4, wvk_append _ _ 4 (by omega), e5, ← B256_eq]
  exact Nat.mod_add_div v B256
noncomputable def amS : FSpec := { run := fun ins => match ins with
  | [.agg 4 (.u 64 a), .agg 4 (.u 64 b), .agg 4 (.u 64 m)] => chk (a.length = 4 ∧ b.length = 4 ∧ m.length = 4) (some (.agg 4 (.u 64 (wOf (wmod (wv a + wv b) (wv m)))), []))
  | _ => none }
theorem AddMod_sound : SoundFn Try.prog glB 39 amS.run := by
  have G := good_of (P := Try.prog) glB_ro (l := [(63, addS), (78, divideS)]) (by simp only [List.forall_mem_cons]; exact ⟨wadd_sound, divide_sound, by simp⟩)
  refine soundFn_of_W G Try.func39 (by decide) rfl (by decide) ?_
  intro ins ret outs h
  unfold amS at h
  dsimp only at h
  split at h
  rotate_left
  · cases h
  rename_i a b m
  obtain ⟨hl, h'⟩ := chk_some h
  clear h
  cases h'
  obtain ⟨la, lb, lm⟩ := hl
  refine ⟨by show 3 ≤ 31; decide, fun w0 ext av => ?_⟩
  rw [Try.ntmps39, st0_eq]
  have hM : wmod (wv a + wv b) (wv m) = if wv m = 0 then 0 else (wv a + wv b) % wv m := rfl
  have hv2 : wv a + wv b < 2 * B256 := by
    have h1 := wv_lt a
    have h2 := wv_lt b
    omega
  repeat' first
    | refine W.seq ?_ | (refine W.regS G ?_; dsimp only) | refine SW.nil ?_ | refine thenQ_normal ?_ | refine W.skip ?_ | refine W.exit ?_ | refine thenQ_exit ?_ | refine inBlockQ_exit ?_ | refine inBlockQ_normal ?_ | refine W.block ?_
    | (apply SW.toC; refine SWcall.go True.intro ?_) | (apply SW.toOp; refine SWop.go True.intro ?_) | (apply SW.toCG; first | refine SWcall.yes True.intro ?_ | refine SWcall.no True.intro ?_) | (apply SW.toG; first | refine SWop.yes True.intro ?_ | refine SWop.no True.intro ?_)
  refine W.condZ G True.intro ?_ ?_
  all_goals intro h1
  · have e : m = zeros 64 4 := yes_of h1
    have q1 : wOf (wmod (wv a + wv b) (wv m)) = m := by rw [hM, if_pos (by rw [e, wv_zero4]), e, zeros_wOf]
    rw [q1]
    repeat' first
      | refine W.seq ?_ | (refine W.regS G ?_; dsimp only) | refine SW.nil ?_ | refine thenQ_normal ?_ | refine W.skip ?_ | refine W.exit ?_ | refine thenQ_exit ?_ | refine inBlockQ_exit ?_ | refine inBlockQ_normal ?_ | refine W.block ?_
      | (apply SW.toC; refine SWcall.go True.intro ?_) | (apply SW.toOp; refine SWop.go True.intro ?_) | (apply SW.toCG; first | refine SWcall.yes True.intro ?_ | refine SWcall.no True.intro ?_) | (apply SW.toG; first | refine SWop.yes True.intro ?_ | refine SWop.no True.intro ?_)
    refine W.ret ?_
    repeat' first
      | refine thenQ_ret ?_
      | refine inBlockQ_ret ?_
    refine fin1Z True.intro ?_
    exact leV_refl
  have hb0 : ¬ wv m = 0 := fun c => no_of h1 (by
    refine wv_inj lm rfl ?_
    rw [c]
    exact (wvk_zeros 4 4).symm)
  have hbp : 0 < wv m := Nat.pos_of_ne_zero hb0
  rw [if_neg hb0] at hM
  rw [hM]
  have h5 := sum5 hv2
  have l4 : (wOf (wv a + wv b)).length = 4 := wOf_len _
  obtain ⟨s, hs⟩ : ∃ s, wOf (wv a + wv b) = s := ⟨_, rfl⟩
  obtain ⟨c, hc⟩ : ∃ c, BitVec.ofNat 64 ((wv a + wv b) / B256) = c := ⟨_, rfl⟩
  rw [hs] at l4 h5
  rw [hc] at h5
  have e1 := sub_whole l4
  have l5 : (s ++ [c]).length = 5 := by rw [List.length_append, l4]; rfl
  have e2 := sub_whole l5
  repeat' first
    | refine W.seq ?_ | (refine W.regS G ?_; dsimp only) | refine SW.nil ?_ | refine thenQ_normal ?_ | refine W.skip ?_ | refine W.exit ?_ | refine thenQ_exit ?_ | refine inBlockQ_exit ?_ | refine inBlockQ_normal ?_
    | (apply SW.toC; refine SWcall.go (And.intro addS.eq_1 (And.intro la (And.intro hs hc))) ?_) | (apply SW.toOp; refine SWop.go (And.intro addS.eq_1 (And.intro la (And.intro hs hc))) ?_) | (apply SW.toCG; first | refine SWcall.yes (And.intro addS.eq_1 (And.intro la (And.intro hs hc))) ?_ | refine SWcall.no (And.intro addS.eq_1 (And.intro la (And.intro hs hc))) ?_) | (apply SW.toG; first | refine SWop.yes (And.intro addS.eq_1 (And.intro la (And.intro hs hc))) ?_ | refine SWop.no (And.intro addS.eq_1 (And.intro la (And.intro hs hc))) ?_)
  refine W.drawS G [[], [], [1], [0, 2, 1], [], [3, 0, 2, 1, 4], [5, 3, 0, 2, 1, 4], [6, 5, 3, 0, 2, 1, 4], [6, 5, 3, 0, 2, 1, 4], [], [7, 6, 5, 3, 0, 2, 1, 4, 9], [9, 8, 6, 5, 3, 0, 2, 1, 4, 10, 7]] hmix ?_
  dsimp only
  repeat' first
    | (apply DW.nil; (focus (decide +kernel)))
    | (apply DW.toC; refine DWcall.go (And.intro divideS.eq_1 (And.intro e1 (And.intro e2 (And.intro l4 (And.intro l5 (And.intro lm h5)))))) ?_) | (apply DW.toOp; refine DWop.go (And.intro divideS.eq_1 (And.intro e1 (And.intro e2 (And.intro l4 (And.intro l5 (And.intro lm h5)))))) ?_) | (apply DW.toCG; first | refine DWcall.yes (And.intro divideS.eq_1 (And.intro e1 (And.intro e2 (And.intro l4 (And.intro l5 (And.intro lm h5)))))) ?_ | refine DWcall.no (And.intro divideS.eq_1 (And.intro e1 (And.intro e2 (And.intro l4 (And.intro l5 (And.intro lm h5)))))) ?_) | (apply DW.toG; first | refine DWop.yes (And.intro divideS.eq_1 (And.intro e1 (And.intro e2 (And.intro l4 (And.intro l5 (And.intro lm h5)))))) ?_ | refine DWop.no (And.intro divideS.eq_1 (And.intro e1 (And.intro e2 (And.intro l4 (And.intro l5 (And.intro lm h5)))))) ?_)
  repeat' first
    | refine W.seq ?_ | (refine W.regS G ?_; dsimp only) | refine SW.nil ?_ | refine thenQ_normal ?_ | refine W.skip ?_ | refine W.exit ?_ | refine thenQ_exit ?_ | refine inBlockQ_exit ?_ | refine inBlockQ_normal ?_ | refine W.block ?_
    | (apply SW.toC; refine SWcall.go (And.intro divideS.eq_1 (And.intro e1 (And.intro e2 (And.intro l4 (And.intro l5 (And.intro lm h5)))))) ?_) | (apply SW.toOp; refine SWop.go (And.intro divideS.eq_1 (And.intro e1 (And.intro e2 (And.intro l4 (And.intro l5 (And.intro lm h5)))))) ?_) | (apply SW.toCG; first | refine SWcall.yes (And.intro divideS.eq_1 (And.intro e1 (And.intro e2 (And.intro l4 (And.intro l5 (And.intro lm h5)))))) ?_ | refine SWcall.no (And.intro divideS.eq_1 (And.intro e1 (And.intro e2 (And.intro l4 (And.intro l5 (And.intro lm h5)))))) ?_) | (apply SW.toG; first | refine SWop.yes (And.intro divideS.eq_1 (And.intro e1 (And.intro e2 (And.intro l4 (And.intro l5 (And.intro lm h5)))))) ?_ | refine SWop.no (And.intro divideS.eq_1 (And.intro e1 (And.intro e2 (And.intro l4 (And.intro l5 (And.intro lm h5)))))) ?_)
  refine W.ret ?_
  repeat' first
    | refine thenQ_ret ?_
    | refine inBlockQ_ret ?_
  refine fin1Z (And.intro divideS.eq_1 (And.intro e1 (And.intro e2 (And.intro l4 (And.intro l5 (And.intro lm h5)))))) ?_
  exact leV_refl
end Go.Vm.C01

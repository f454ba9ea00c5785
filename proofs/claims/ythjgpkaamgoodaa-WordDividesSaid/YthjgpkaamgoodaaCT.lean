/- What some functions of the program compute, walked through once. -/
import Derived.Test.YthjgpkaamgoodaaCS
import Derived.Test.YthjgpkaamgoodaaCQ0
import Derived.Test.YthjgpkaamgoodaaCP
namespace Go.Vm.C01
open Go Go.Proofs
set_option linter.unusedVariables false
set_option linter.unusedSimpArgs false
set_option maxRecDepth 100000
set_option maxHeartbeats 8000000

noncomputable def bitS : FSpec := { run := fun ins => match ins with
  | [.agg 4 (.u 64 a), .i n] => chk (0 ≤ n ∧ n < 256) (some (.u 64 ((a.getD (n.toNat / 64) 0 >>> (n.toNat % 64)) &&& 1#64), []))
  | _ => none }
theorem bit_sound : SoundFn Try.prog glB 66 bitS.run := by
  have G := good_of (P := Try.prog) glB_ro (l := []) (by simp)
  refine soundFn_of_W G Try.func66 (by decide) rfl (by decide) ?_
  intro ins ret outs h
  unfold bitS at h
  dsimp only at h
  split at h
  rotate_left
  · cases h
  rename_i a n
  obtain ⟨hn, h'⟩ := chk_some h
  clear h
  cases h'
  obtain ⟨k, rfl⟩ := Int.eq_ofNat_of_zero_le hn.1
  have hk : k < 256 := by omega
  refine ⟨by show 2 ≤ 14; decide, fun w0 ext av => ?_⟩
  rw [Try.ntmps66, st0_eq]
  have e1 : ((k : Int) / 64) = ((k / 64 : Nat) : Int) := by omega
  have e2 : ((k : Int) % 64) = ((k % 64 : Nat) : Int) := by omega
  have e3 : (BitVec.ofInt 64 ((k % 64 : Nat) : Int)).toNat = k % 64 := by rw [BitVec.toNat_ofInt]; omega
  repeat' first
    | refine W.seq ?_ | (refine W.regS G ?_; dsimp only) | refine SW.nil ?_ | refine thenQ_normal ?_ | refine W.skip ?_ | refine W.exit ?_ | refine thenQ_exit ?_ | refine inBlockQ_exit ?_ | refine inBlockQ_normal ?_ | refine W.block ?_
    | (apply SW.toC; refine SWcall.go (And.intro e1 (And.intro e2 e3)) ?_) | (apply SW.toOp; refine SWop.go (And.intro e1 (And.intro e2 e3)) ?_) | (apply SW.toCG; first | refine SWcall.yes (And.intro e1 (And.intro e2 e3)) ?_ | refine SWcall.no (And.intro e1 (And.intro e2 e3)) ?_) | (apply SW.toG; first | refine SWop.yes (And.intro e1 (And.intro e2 e3)) ?_ | refine SWop.no (And.intro e1 (And.intro e2 e3)) ?_)
  refine W.ret ?_
  repeat' first
    | refine thenQ_ret ?_
    | refine inBlockQ_ret ?_
  refine fin1Z (And.intro e1 (And.intro e2 e3)) ?_
  exact leV_refl
noncomputable def rExpS : FSpec := { run := fun ins => match ins with
  | [.agg 4 (.u 64 a), .agg 4 (.u 64 b)] => some (.agg 4 (.u 64 (wOf (wv a ^ wv b))), [])
  | _ => none }
theorem rExp_sound : SoundFn Try.prog glB 44 rExpS.run := by
  have G := good_of (P := Try.prog) glB_ro (l := [(66, bitS), (38, rMulS)]) (by simp only [List.forall_mem_cons]; exact ⟨bit_sound, rMul_sound, by simp⟩)
  refine soundFn_of_W G Try.func44 (by decide) rfl (by decide) ?_
  intro ins ret outs h
  unfold rExpS at h
  dsimp only at h
  split at h
  rotate_left
  · cases h
  rename_i a b
  cases h
  refine ⟨by show 2 ≤ 23; decide, fun w0 ext av => ?_⟩
  rw [Try.ntmps44, st0_eq]
  have h0 : wv b / 2 ^ 256 = 0 := Nat.div_eq_of_lt (wv_lt b)
  repeat' first
    | refine W.seq ?_ | (refine W.regS G ?_; dsimp only) | refine SW.nil ?_ | refine thenQ_normal ?_ | refine W.skip ?_ | refine W.exit ?_ | refine thenQ_exit ?_ | refine inBlockQ_exit ?_ | refine inBlockQ_normal ?_ | refine W.block ?_
    | (apply SW.toC; refine SWcall.go one_wOf ?_) | (apply SW.toOp; refine SWop.go one_wOf ?_) | (apply SW.toCG; first | refine SWcall.yes one_wOf ?_ | refine SWcall.no one_wOf ?_) | (apply SW.toG; first | refine SWop.yes one_wOf ?_ | refine SWop.no one_wOf ?_)
  refine W.loopI (ι := {k : Nat // k ≤ 256}) (fun k => sL [(2, .p 2 0 0 0), (3, .p 3 0 0 0), (4, .p 4 0 0 0), (5, .p 5 0 0 0), (6, .i ((k.1 : Int) - 1))] [(2, .agg 4 (.u 64 a)), (3, .agg 4 (.u 64 b)), (4, .agg 4 (.u 64 (zeros 64 4))), (5, .agg 4 (.u 64 (wOf (wv a ^ (wv b / 2 ^ k.1)))))] 23) (fun k => k.1) ⟨256, Nat.le_refl _⟩ (Imp.le ?_) ?_
  · have h1 : wOf (wv a ^ (wv b / 2 ^ 256)) = wOf 1 := by rw [h0, Nat.pow_zero]
    exact sL_leZ (And.intro h1 one_wOf)
  rintro ⟨k, hk⟩
  repeat' first
    | refine W.seq ?_ | (refine W.regS G ?_; dsimp only) | refine SW.nil ?_ | refine thenQ_normal ?_ | refine W.skip ?_ | refine W.exit ?_ | refine thenQ_exit ?_ | refine inBlockQ_exit ?_ | refine inBlockQ_normal ?_ | refine W.block ?_
    | (apply SW.toC; refine SWcall.go True.intro ?_) | (apply SW.toOp; refine SWop.go True.intro ?_) | (apply SW.toCG; first | refine SWcall.yes True.intro ?_ | refine SWcall.no True.intro ?_) | (apply SW.toG; first | refine SWop.yes True.intro ?_ | refine SWop.no True.intro ?_)
  refine W.condZ G True.intro ?_ ?_
  all_goals intro ht
  · have ht' := of_decide_eq_true ht
    obtain ⟨j, rfl⟩ : ∃ j, k = j + 1 := ⟨k - 1, by omega⟩
    have ej : (((j + 1 : Nat) : Int) - 1) = (j : Int) := by omega
    have hS := pow_step (wv a) (wv b) j
    have hB := wv_bit b j (by omega)
    have hm := wOf_mul (wv a ^ (wv b / 2 ^ (j + 1))) (wv a ^ (wv b / 2 ^ (j + 1)))
    rw [hB] at hS
    generalize wv a ^ (wv b / 2 ^ (j + 1)) = p at hS hm ⊢
    have hr := wOf_mulr (p * p) a
    repeat' first
      | refine W.seq ?_ | (refine W.regS G ?_; dsimp only) | refine SW.nil ?_ | refine thenQ_normal ?_ | refine W.skip ?_ | refine W.exit ?_ | refine thenQ_exit ?_ | refine inBlockQ_exit ?_ | refine inBlockQ_normal ?_
      | (apply SW.toC; refine SWcall.go (And.intro ej (And.intro rMulS.eq_1 (And.intro bitS.eq_1 (And.intro hm hr)))) ?_) | (apply SW.toOp; refine SWop.go (And.intro ej (And.intro rMulS.eq_1 (And.intro bitS.eq_1 (And.intro hm hr)))) ?_) | (apply SW.toCG; first | refine SWcall.yes (And.intro ej (And.intro rMulS.eq_1 (And.intro bitS.eq_1 (And.intro hm hr)))) ?_ | refine SWcall.no (And.intro ej (And.intro rMulS.eq_1 (And.intro bitS.eq_1 (And.intro hm hr)))) ?_) | (apply SW.toG; first | refine SWop.yes (And.intro ej (And.intro rMulS.eq_1 (And.intro bitS.eq_1 (And.intro hm hr)))) ?_ | refine SWop.no (And.intro ej (And.intro rMulS.eq_1 (And.intro bitS.eq_1 (And.intro hm hr)))) ?_)
    refine W.block ?_
    repeat' first
      | refine W.seq ?_ | (refine W.regS G ?_; dsimp only) | refine SW.nil ?_ | refine thenQ_normal ?_ | refine W.skip ?_ | refine W.exit ?_ | refine thenQ_exit ?_ | refine inBlockQ_exit ?_ | refine inBlockQ_normal ?_ | refine W.block ?_
      | (apply SW.toC; refine SWcall.go (And.intro ej (And.intro rMulS.eq_1 (And.intro bitS.eq_1 (And.intro hm hr)))) ?_) | (apply SW.toOp; refine SWop.go (And.intro ej (And.intro rMulS.eq_1 (And.intro bitS.eq_1 (And.intro hm hr)))) ?_) | (apply SW.toCG; first | refine SWcall.yes (And.intro ej (And.intro rMulS.eq_1 (And.intro bitS.eq_1 (And.intro hm hr)))) ?_ | refine SWcall.no (And.intro ej (And.intro rMulS.eq_1 (And.intro bitS.eq_1 (And.intro hm hr)))) ?_) | (apply SW.toG; first | refine SWop.yes (And.intro ej (And.intro rMulS.eq_1 (And.intro bitS.eq_1 (And.intro hm hr)))) ?_ | refine SWop.no (And.intro ej (And.intro rMulS.eq_1 (And.intro bitS.eq_1 (And.intro hm hr)))) ?_)
    refine W.condZ G (And.intro ej (And.intro rMulS.eq_1 (And.intro bitS.eq_1 (And.intro hm hr)))) ?_ ?_
    all_goals intro hc
    · have hc1 := yes_of hc
      rw [hc1, show (1#64).toNat = 1 from rfl, Nat.pow_one] at hS
      have hSw := congrArg wOf hS
      repeat' first
        | refine W.seq ?_ | (refine W.regS G ?_; dsimp only) | refine SW.nil ?_ | refine thenQ_normal ?_ | refine W.skip ?_ | refine W.exit ?_ | refine thenQ_exit ?_ | refine inBlockQ_exit ?_ | refine inBlockQ_normal ?_ | refine W.block ?_
        | (apply SW.toC; refine SWcall.go (And.intro ej (And.intro rMulS.eq_1 (And.intro bitS.eq_1 (And.intro hm hr)))) ?_) | (apply SW.toOp; refine SWop.go (And.intro ej (And.intro rMulS.eq_1 (And.intro bitS.eq_1 (And.intro hm hr)))) ?_) | (apply SW.toCG; first | refine SWcall.yes (And.intro ej (And.intro rMulS.eq_1 (And.intro bitS.eq_1 (And.intro hm hr)))) ?_ | refine SWcall.no (And.intro ej (And.intro rMulS.eq_1 (And.intro bitS.eq_1 (And.intro hm hr)))) ?_) | (apply SW.toG; first | refine SWop.yes (And.intro ej (And.intro rMulS.eq_1 (And.intro bitS.eq_1 (And.intro hm hr)))) ?_ | refine SWop.no (And.intro ej (And.intro rMulS.eq_1 (And.intro bitS.eq_1 (And.intro hm hr)))) ?_)
      refine ⟨⟨j, by omega⟩, Imp.le ?_, by show j < j + 1; omega⟩
      exact sL_leZ (And.intro hSw (And.intro ej (And.intro rMulS.eq_1 (And.intro bitS.eq_1 (And.intro hm hr)))))
    · have hc1 := no_of hc
      have hz : ((b.getD (j / 64) 0 >>> (j % 64)) &&& 1#64).toNat = 0 := by
        have h2 : wv b / 2 ^ j % 2 < 2 := Nat.mod_lt _ (by decide)
        rw [hB] at h2
        have h3 : ¬ ((b.getD (j / 64) 0 >>> (j % 64)) &&& 1#64).toNat = 1 := fun c => hc1 (BitVec.eq_of_toNat_eq c)
        omega
      rw [hz, Nat.pow_zero, Nat.mul_one] at hS
      have hSw := congrArg wOf hS
      repeat' first
        | refine W.seq ?_ | (refine W.regS G ?_; dsimp only) | refine SW.nil ?_ | refine thenQ_normal ?_ | refine W.skip ?_ | refine W.exit ?_ | refine thenQ_exit ?_ | refine inBlockQ_exit ?_ | refine inBlockQ_normal ?_ | refine W.block ?_
        | (apply SW.toC; refine SWcall.go (And.intro ej (And.intro rMulS.eq_1 (And.intro bitS.eq_1 (And.intro hm hr)))) ?_) | (apply SW.toOp; refine SWop.go (And.intro ej (And.intro rMulS.eq_1 (And.intro bitS.eq_1 (And.intro hm hr)))) ?_) | (apply SW.toCG; first | refine SWcall.yes (And.intro ej (And.intro rMulS.eq_1 (And.intro bitS.eq_1 (And.intro hm hr)))) ?_ | refine SWcall.no (And.intro ej (And.intro rMulS.eq_1 (And.intro bitS.eq_1 (And.intro hm hr)))) ?_) | (apply SW.toG; first | refine SWop.yes (And.intro ej (And.intro rMulS.eq_1 (And.intro bitS.eq_1 (And.intro hm hr)))) ?_ | refine SWop.no (And.intro ej (And.intro rMulS.eq_1 (And.intro bitS.eq_1 (And.intro hm hr)))) ?_)
      refine ⟨⟨j, by omega⟩, Imp.le ?_, by show j < j + 1; omega⟩
      exact sL_leZ (And.intro hSw (And.intro ej (And.intro rMulS.eq_1 (And.intro bitS.eq_1 (And.intro hm hr)))))
  have ht' := of_decide_eq_false ht
  obtain rfl : k = 0 := by omega
  have hf : wv b / 2 ^ 0 = wv b := by rw [Nat.pow_zero, Nat.div_one]
  rw [hf]
  repeat' first
    | refine W.seq ?_ | (refine W.regS G ?_; dsimp only) | refine SW.nil ?_ | refine thenQ_normal ?_ | refine W.skip ?_ | refine W.exit ?_ | refine thenQ_exit ?_ | refine inBlockQ_exit ?_ | refine inBlockQ_normal ?_ | refine W.block ?_
    | (apply SW.toC; refine SWcall.go True.intro ?_) | (apply SW.toOp; refine SWop.go True.intro ?_) | (apply SW.toCG; first | refine SWcall.yes True.intro ?_ | refine SWcall.no True.intro ?_) | (apply SW.toG; first | refine SWop.yes True.intro ?_ | refine SWop.no True.intro ?_)
  refine W.ret ?_
  repeat' first
    | refine thenQ_ret ?_
    | refine inBlockQ_ret ?_
  refine fin1Z True.intro ?_
  exact leV_refl
noncomputable def powersS : FSpec := { run := fun ins => match ins with
  | [.agg 4 (.u 64 a), .agg 4 (.u 64 b), .agg 4 (.u 64 c)] => chk (a.length = 4 ∧ b.length = 4 ∧ c.length = 4) (some (.b true, []))
  | _ => none }
theorem cmpI_lt (x y : Nat) : decide (cmpI x y < 0) = decide (x < y) := decide_eq_decide.2 (by unfold cmpI; split <;> (try split) <;> omega)
theorem powers_sound : SoundFn Try.prog glB 9 powersS.run := by
  have G := good_of (P := Try.prog) glB_ro (l := [(43, ExpS), (44, rExpS), (14, AddS), (31, CmpS), (15, MulS), (19, livesS)]) (by simp only [List.forall_mem_cons]; exact ⟨Exp_sound, rExp_sound, Add_sound, Cmp_sound, Mul_sound, lives_sound, by simp⟩)
  refine soundFn_of_W G Try.func9 (by decide) rfl (by decide) ?_
  intro ins ret outs h
  unfold powersS at h
  dsimp only at h
  split at h
  rotate_left
  · cases h
  rename_i a b c
  obtain ⟨hl, h'⟩ := chk_some h
  clear h
  cases h'
  obtain ⟨la, lb, lc⟩ := hl
  refine ⟨by show 3 ≤ 37; decide, fun w0 ext av => ?_⟩
  rw [Try.ntmps9, st0_eq]
  obtain ⟨s, hs⟩ : ∃ s, wOf (wv b + wv c) = s := ⟨_, rfl⟩
  have hv : wv s = (wv b + wv c) % B256 := by rw [← hs, wv_wOf]
  have hlt := cmpI_lt (wv s) (wv b)
  have hg := cmpI_range (wv s) (wv b)
  repeat' first
    | refine W.seq ?_ | (refine W.regS G ?_; dsimp only) | refine SW.nil ?_ | refine thenQ_normal ?_ | refine W.skip ?_ | refine W.exit ?_ | refine thenQ_exit ?_ | refine inBlockQ_exit ?_ | refine inBlockQ_normal ?_
    | (apply SW.toC; refine SWcall.go (And.intro ExpS.eq_1 (And.intro rExpS.eq_1 (And.intro AddS.eq_1 (And.intro MulS.eq_1 (And.intro CmpS.eq_1 (And.intro livesS.eq_1 (And.intro la (And.intro lb (And.intro lc (And.intro hs hlt)))))))))) ?_) | (apply SW.toOp; refine SWop.go (And.intro ExpS.eq_1 (And.intro rExpS.eq_1 (And.intro AddS.eq_1 (And.intro MulS.eq_1 (And.intro CmpS.eq_1 (And.intro livesS.eq_1 (And.intro la (And.intro lb (And.intro lc (And.intro hs hlt)))))))))) ?_) | (apply SW.toCG; first | refine SWcall.yes (And.intro ExpS.eq_1 (And.intro rExpS.eq_1 (And.intro AddS.eq_1 (And.intro MulS.eq_1 (And.intro CmpS.eq_1 (And.intro livesS.eq_1 (And.intro la (And.intro lb (And.intro lc (And.intro hs hlt)))))))))) ?_ | refine SWcall.no (And.intro ExpS.eq_1 (And.intro rExpS.eq_1 (And.intro AddS.eq_1 (And.intro MulS.eq_1 (And.intro CmpS.eq_1 (And.intro livesS.eq_1 (And.intro la (And.intro lb (And.intro lc (And.intro hs hlt)))))))))) ?_) | (apply SW.toG; first | refine SWop.yes (And.intro ExpS.eq_1 (And.intro rExpS.eq_1 (And.intro AddS.eq_1 (And.intro MulS.eq_1 (And.intro CmpS.eq_1 (And.intro livesS.eq_1 (And.intro la (And.intro lb (And.intro lc (And.intro hs hlt)))))))))) ?_ | refine SWop.no (And.intro ExpS.eq_1 (And.intro rExpS.eq_1 (And.intro AddS.eq_1 (And.intro MulS.eq_1 (And.intro CmpS.eq_1 (And.intro livesS.eq_1 (And.intro la (And.intro lb (And.intro lc (And.intro hs hlt)))))))))) ?_)
  refine W.drawS G [[], [], [0, 1], [], [], [3, 4, 2, 0, 1], [2, 0, 1, 5, 3, 4]] hmix ?_
  dsimp only
  repeat' first
    | (apply DW.nil; (focus (decide +kernel)))
    | (apply DW.toC; refine DWcall.go (And.intro ExpS.eq_1 (And.intro rExpS.eq_1 (And.intro AddS.eq_1 (And.intro MulS.eq_1 (And.intro CmpS.eq_1 (And.intro livesS.eq_1 (And.intro la (And.intro lb (And.intro lc (And.intro hs hlt)))))))))) ?_) | (apply DW.toOp; refine DWop.go (And.intro ExpS.eq_1 (And.intro rExpS.eq_1 (And.intro AddS.eq_1 (And.intro MulS.eq_1 (And.intro CmpS.eq_1 (And.intro livesS.eq_1 (And.intro la (And.intro lb (And.intro lc (And.intro hs hlt)))))))))) ?_) | (apply DW.toCG; first | refine DWcall.yes (And.intro ExpS.eq_1 (And.intro rExpS.eq_1 (And.intro AddS.eq_1 (And.intro MulS.eq_1 (And.intro CmpS.eq_1 (And.intro livesS.eq_1 (And.intro la (And.intro lb (And.intro lc (And.intro hs hlt)))))))))) ?_ | refine DWcall.no (And.intro ExpS.eq_1 (And.intro rExpS.eq_1 (And.intro AddS.eq_1 (And.intro MulS.eq_1 (And.intro CmpS.eq_1 (And.intro livesS.eq_1 (And.intro la (And.intro lb (And.intro lc (And.intro hs hlt)))))))))) ?_) | (apply DW.toG; first | refine DWop.yes (And.intro ExpS.eq_1 (And.intro rExpS.eq_1 (And.intro AddS.eq_1 (And.intro MulS.eq_1 (And.intro CmpS.eq_1 (And.intro livesS.eq_1 (And.intro la (And.intro lb (And.intro lc (And.intro hs hlt)))))))))) ?_ | refine DWop.no (And.intro ExpS.eq_1 (And.intro rExpS.eq_1 (And.intro AddS.eq_1 (And.intro MulS.eq_1 (And.intro CmpS.eq_1 (And.intro livesS.eq_1 (And.intro la (And.intro lb (And.intro lc (And.intro hs hlt)))))))))) ?_)
  repeat' first
    | refine W.seq ?_ | (refine W.regS G ?_; dsimp only) | refine SW.nil ?_ | refine thenQ_normal ?_ | refine W.skip ?_ | refine W.exit ?_ | refine thenQ_exit ?_ | refine inBlockQ_exit ?_ | refine inBlockQ_normal ?_ | refine W.block ?_
    | (apply SW.toC; refine SWcall.go (And.intro ExpS.eq_1 (And.intro rExpS.eq_1 (And.intro AddS.eq_1 (And.intro MulS.eq_1 (And.intro CmpS.eq_1 (And.intro livesS.eq_1 (And.intro la (And.intro lb (And.intro lc (And.intro hs hlt)))))))))) ?_) | (apply SW.toOp; refine SWop.go (And.intro ExpS.eq_1 (And.intro rExpS.eq_1 (And.intro AddS.eq_1 (And.intro MulS.eq_1 (And.intro CmpS.eq_1 (And.intro livesS.eq_1 (And.intro la (And.intro lb (And.intro lc (And.intro hs hlt)))))))))) ?_) | (apply SW.toCG; first | refine SWcall.yes (And.intro ExpS.eq_1 (And.intro rExpS.eq_1 (And.intro AddS.eq_1 (And.intro MulS.eq_1 (And.intro CmpS.eq_1 (And.intro livesS.eq_1 (And.intro la (And.intro lb (And.intro lc (And.intro hs hlt)))))))))) ?_ | refine SWcall.no (And.intro ExpS.eq_1 (And.intro rExpS.eq_1 (And.intro AddS.eq_1 (And.intro MulS.eq_1 (And.intro CmpS.eq_1 (And.intro livesS.eq_1 (And.intro la (And.intro lb (And.intro lc (And.intro hs hlt)))))))))) ?_) | (apply SW.toG; first | refine SWop.yes (And.intro ExpS.eq_1 (And.intro rExpS.eq_1 (And.intro AddS.eq_1 (And.intro MulS.eq_1 (And.intro CmpS.eq_1 (And.intro livesS.eq_1 (And.intro la (And.intro lb (And.intro lc (And.intro hs hlt)))))))))) ?_ | refine SWop.no (And.intro ExpS.eq_1 (And.intro rExpS.eq_1 (And.intro AddS.eq_1 (And.intro MulS.eq_1 (And.intro CmpS.eq_1 (And.intro livesS.eq_1 (And.intro la (And.intro lb (And.intro lc (And.intro hs hlt)))))))))) ?_)
  refine W.condZ G (And.intro ExpS.eq_1 (And.intro rExpS.eq_1 (And.intro AddS.eq_1 (And.intro MulS.eq_1 (And.intro CmpS.eq_1 (And.intro livesS.eq_1 (And.intro la (And.intro lb (And.intro lc (And.intro hs hlt)))))))))) ?_ ?_
  all_goals intro k1
  · exact absurd k1 (by decide)
  repeat' first
    | refine W.seq ?_ | (refine W.regS G ?_; dsimp only) | refine SW.nil ?_ | refine thenQ_normal ?_ | refine W.skip ?_ | refine W.exit ?_ | refine thenQ_exit ?_ | refine inBlockQ_exit ?_ | refine inBlockQ_normal ?_ | refine W.block ?_
    | (apply SW.toC; refine SWcall.go (And.intro ExpS.eq_1 (And.intro rExpS.eq_1 (And.intro AddS.eq_1 (And.intro MulS.eq_1 (And.intro CmpS.eq_1 (And.intro livesS.eq_1 (And.intro la (And.intro lb (And.intro lc (And.intro hs hlt)))))))))) ?_) | (apply SW.toOp; refine SWop.go (And.intro ExpS.eq_1 (And.intro rExpS.eq_1 (And.intro AddS.eq_1 (And.intro MulS.eq_1 (And.intro CmpS.eq_1 (And.intro livesS.eq_1 (And.intro la (And.intro lb (And.intro lc (And.intro hs hlt)))))))))) ?_) | (apply SW.toCG; first | refine SWcall.yes (And.intro ExpS.eq_1 (And.intro rExpS.eq_1 (And.intro AddS.eq_1 (And.intro MulS.eq_1 (And.intro CmpS.eq_1 (And.intro livesS.eq_1 (And.intro la (And.intro lb (And.intro lc (And.intro hs hlt)))))))))) ?_ | refine SWcall.no (And.intro ExpS.eq_1 (And.intro rExpS.eq_1 (And.intro AddS.eq_1 (And.intro MulS.eq_1 (And.intro CmpS.eq_1 (And.intro livesS.eq_1 (And.intro la (And.intro lb (And.intro lc (And.intro hs hlt)))))))))) ?_) | (apply SW.toG; first | refine SWop.yes (And.intro ExpS.eq_1 (And.intro rExpS.eq_1 (And.intro AddS.eq_1 (And.intro MulS.eq_1 (And.intro CmpS.eq_1 (And.intro livesS.eq_1 (And.intro la (And.intro lb (And.intro lc (And.intro hs hlt)))))))))) ?_ | refine SWop.no (And.intro ExpS.eq_1 (And.intro rExpS.eq_1 (And.intro AddS.eq_1 (And.intro MulS.eq_1 (And.intro CmpS.eq_1 (And.intro livesS.eq_1 (And.intro la (And.intro lb (And.intro lc (And.intro hs hlt)))))))))) ?_)
  refine W.condZ G (And.intro ExpS.eq_1 (And.intro rExpS.eq_1 (And.intro AddS.eq_1 (And.intro MulS.eq_1 (And.intro CmpS.eq_1 (And.intro livesS.eq_1 (And.intro la (And.intro lb (And.intro lc (And.intro hs hlt)))))))))) ?_ ?_
  all_goals intro k2
  · repeat' first
      | refine W.seq ?_ | (refine W.regS G ?_; dsimp only) | refine SW.nil ?_ | refine thenQ_normal ?_ | refine W.skip ?_ | refine W.exit ?_ | refine thenQ_exit ?_ | refine inBlockQ_exit ?_ | refine inBlockQ_normal ?_ | refine W.block ?_
      | (apply SW.toC; refine SWcall.go (And.intro ExpS.eq_1 (And.intro rExpS.eq_1 (And.intro AddS.eq_1 (And.intro MulS.eq_1 (And.intro CmpS.eq_1 (And.intro livesS.eq_1 (And.intro la (And.intro lb (And.intro lc (And.intro hs hlt)))))))))) ?_) | (apply SW.toOp; refine SWop.go (And.intro ExpS.eq_1 (And.intro rExpS.eq_1 (And.intro AddS.eq_1 (And.intro MulS.eq_1 (And.intro CmpS.eq_1 (And.intro livesS.eq_1 (And.intro la (And.intro lb (And.intro lc (And.intro hs hlt)))))))))) ?_) | (apply SW.toCG; first | refine SWcall.yes (And.intro ExpS.eq_1 (And.intro rExpS.eq_1 (And.intro AddS.eq_1 (And.intro MulS.eq_1 (And.intro CmpS.eq_1 (And.intro livesS.eq_1 (And.intro la (And.intro lb (And.intro lc (And.intro hs hlt)))))))))) ?_ | refine SWcall.no (And.intro ExpS.eq_1 (And.intro rExpS.eq_1 (And.intro AddS.eq_1 (And.intro MulS.eq_1 (And.intro CmpS.eq_1 (And.intro livesS.eq_1 (And.intro la (And.intro lb (And.intro lc (And.intro hs hlt)))))))))) ?_) | (apply SW.toG; first | refine SWop.yes (And.intro ExpS.eq_1 (And.intro rExpS.eq_1 (And.intro AddS.eq_1 (And.intro MulS.eq_1 (And.intro CmpS.eq_1 (And.intro livesS.eq_1 (And.intro la (And.intro lb (And.intro lc (And.intro hs hlt)))))))))) ?_ | refine SWop.no (And.intro ExpS.eq_1 (And.intro rExpS.eq_1 (And.intro AddS.eq_1 (And.intro MulS.eq_1 (And.intro CmpS.eq_1 (And.intro livesS.eq_1 (And.intro la (And.intro lb (And.intro lc (And.intro hs hlt)))))))))) ?_)
    refine W.ret ?_
    repeat' first
      | refine thenQ_ret ?_
      | refine inBlockQ_ret ?_
    refine fin1Z (And.intro ExpS.eq_1 (And.intro rExpS.eq_1 (And.intro AddS.eq_1 (And.intro MulS.eq_1 (And.intro CmpS.eq_1 (And.intro livesS.eq_1 (And.intro la (And.intro lb (And.intro lc (And.intro hs hlt)))))))))) ?_
    exact leV_refl
  · have k3 : ¬ wv s < wv b := of_decide_eq_false k2
    have hv2 : wv s = wv b + wv c := by
      have h1 := wv_lt b
      have h2 := wv_lt c
      rw [hv] at k3 ⊢
      by_cases h : wv b + wv c < B256
      · exact Nat.mod_eq_of_lt h
      · exfalso
        refine k3 ?_
        rw [Nat.mod_eq_sub_mod (by omega), Nat.mod_eq_of_lt (by omega)]
        omega
    have f9 : wOf (wv (wOf (wv a ^ wv b)) * wv (wOf (wv a ^ wv c))) = wOf (wv a ^ wv s) := by rw [wOf_mul, hv2, Nat.pow_add]
    repeat' first
      | refine W.seq ?_ | (refine W.regS G ?_; dsimp only) | refine SW.nil ?_ | refine thenQ_normal ?_ | refine W.skip ?_ | refine W.exit ?_ | refine thenQ_exit ?_ | refine inBlockQ_exit ?_ | refine inBlockQ_normal ?_
      | (apply SW.toC; refine SWcall.go (And.intro ExpS.eq_1 (And.intro MulS.eq_1 (And.intro livesS.eq_1 f9))) ?_) | (apply SW.toOp; refine SWop.go (And.intro ExpS.eq_1 (And.intro MulS.eq_1 (And.intro livesS.eq_1 f9))) ?_) | (apply SW.toCG; first | refine SWcall.yes (And.intro ExpS.eq_1 (And.intro MulS.eq_1 (And.intro livesS.eq_1 f9))) ?_ | refine SWcall.no (And.intro ExpS.eq_1 (And.intro MulS.eq_1 (And.intro livesS.eq_1 f9))) ?_) | (apply SW.toG; first | refine SWop.yes (And.intro ExpS.eq_1 (And.intro MulS.eq_1 (And.intro livesS.eq_1 f9))) ?_ | refine SWop.no (And.intro ExpS.eq_1 (And.intro MulS.eq_1 (And.intro livesS.eq_1 f9))) ?_)
    refine W.drawS G [[], [], [0, 1], [], [], [3, 4, 2, 0, 1], [], [], [6, 7, 5, 3, 4, 2, 0, 1], [5, 3, 4, 2, 0, 1, 8, 6, 7], [2, 0, 1, 9, 5, 3, 4, 8, 6, 7], [10, 2, 0, 1, 9, 5, 3, 4, 8, 6, 7], [11, 10, 2, 0, 1, 9, 5, 3, 4, 8, 6, 7], [11, 10, 2, 0, 1, 9, 5, 3, 4, 8, 6, 7, 12], [13, 11, 10, 2, 0, 1, 9, 5, 3, 4, 8, 6, 7, 12]] hmix ?_
    dsimp only
    repeat' first
      | (apply DW.nil; (focus (decide +kernel)))
      | (apply DW.toC; refine DWcall.go (And.intro ExpS.eq_1 (And.intro MulS.eq_1 (And.intro livesS.eq_1 f9))) ?_) | (apply DW.toOp; refine DWop.go (And.intro ExpS.eq_1 (And.intro MulS.eq_1 (And.intro livesS.eq_1 f9))) ?_) | (apply DW.toCG; first | refine DWcall.yes (And.intro ExpS.eq_1 (And.intro MulS.eq_1 (And.intro livesS.eq_1 f9))) ?_ | refine DWcall.no (And.intro ExpS.eq_1 (And.intro MulS.eq_1 (And.intro livesS.eq_1 f9))) ?_) | (apply DW.toG; first | refine DWop.yes (And.intro ExpS.eq_1 (And.intro MulS.eq_1 (And.intro livesS.eq_1 f9))) ?_ | refine DWop.no (And.intro ExpS.eq_1 (And.intro MulS.eq_1 (And.intro livesS.eq_1 f9))) ?_)
    repeat' first
      | refine W.seq ?_ | (refine W.regS G ?_; dsimp only) | refine SW.nil ?_ | refine thenQ_normal ?_ | refine W.skip ?_ | refine W.exit ?_ | refine thenQ_exit ?_ | refine inBlockQ_exit ?_ | refine inBlockQ_normal ?_ | refine W.block ?_
      | (apply SW.toC; refine SWcall.go (And.intro ExpS.eq_1 (And.intro MulS.eq_1 (And.intro livesS.eq_1 f9))) ?_) | (apply SW.toOp; refine SWop.go (And.intro ExpS.eq_1 (And.intro MulS.eq_1 (And.intro livesS.eq_1 f9))) ?_) | (apply SW.toCG; first | refine SWcall.yes (And.intro ExpS.eq_1 (And.intro MulS.eq_1 (And.intro livesS.eq_1 f9))) ?_ | refine SWcall.no (And.intro ExpS.eq_1 (And.intro MulS.eq_1 (And.intro livesS.eq_1 f9))) ?_) | (apply SW.toG; first | refine SWop.yes (And.intro ExpS.eq_1 (And.intro MulS.eq_1 (And.intro livesS.eq_1 f9))) ?_ | refine SWop.no (And.intro ExpS.eq_1 (And.intro MulS.eq_1 (And.intro livesS.eq_1 f9))) ?_)
    refine W.ret ?_
    repeat' first
      | refine thenQ_ret ?_
      | refine inBlockQ_ret ?_
    refine fin1Z (And.intro ExpS.eq_1 (And.intro MulS.eq_1 (And.intro livesS.eq_1 f9))) ?_
    exact leV_refl
end Go.Vm.C01

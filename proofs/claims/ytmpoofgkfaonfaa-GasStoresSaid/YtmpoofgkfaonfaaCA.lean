/- What some functions of the program compute, walked through once. -/
import Derived.Test.YtmpoofgkfaonfaaVd
import Derived.KernelRfl
import Derived.Test.YtmpoofgkfaonfaaProg
import Derived.Test.YtmpoofgkfaonfaaCTy
namespace Go.Vm.C19
open Go Go.Proofs
set_option linter.unusedVariables false
set_option linter.unusedSimpArgs false
set_option maxRecDepth 100000
set_option maxHeartbeats 8000000
def glB : Nat → Option Row := fun _ => none
theorem glB_ro : ∀ g r, glB g = some r → r.ro = r := fun g r h => by cases h

theorem x86_sound : SoundFn Try.prog glB 38 add64S.run := add64_sound Try.func38 (by kernel_rfl) (by kernel_rfl) (by kernel_rfl) (by kernel_rfl)
theorem x90_sound : SoundFn Try.prog glB 83 sub64S.run := sub64_sound Try.func83 (by kernel_rfl) (by kernel_rfl) (by kernel_rfl) (by kernel_rfl)
noncomputable def mul64S : FSpec := { run := fun ins => match ins with
  | [.u 64 x, .u 64 y] => some (.tup [.u 64 (hiF x y), .u 64 (x * y)], [])
  | _ => none }
theorem mul64_sound : SoundFn Try.prog glB 37 mul64S.run := by
  have G := good_of (P := Try.prog) glB_ro (l := []) (by simp)
  refine soundFn_of_W G Try.func37 (by decide) rfl (by decide) ?_
  intro ins ret outs h
  unfold mul64S at h
  dsimp only at h
  split at h
  rotate_left
  · cases h
  rename_i x y
  cases h
  refine ⟨by show 2 ≤ 51; decide, fun w0 ext av => ?_⟩
  rw [Try.ntmps37, st0_eq]
  repeat' first
    | refine W.seq ?_ | (refine W.regS G ?_; dsimp only) | refine SW.nil ?_ | refine thenQ_normal ?_ | refine W.skip ?_ | refine W.exit ?_ | refine thenQ_exit ?_ | refine inBlockQ_exit ?_ | refine inBlockQ_normal ?_ | refine W.block ?_
    | (apply SW.toC; refine SWcall.go True.intro ?_) | (apply SW.toOp; refine SWop.go True.intro ?_) | (apply SW.toCG; first | refine SWcall.yes True.intro ?_ | refine SWcall.no True.intro ?_) | (apply SW.toG; first | refine SWop.yes True.intro ?_ | refine SWop.no True.intro ?_)
  refine W.ret ?_
  repeat' first
    | refine thenQ_ret ?_
    | refine inBlockQ_ret ?_
  refine fin2Z True.intro ?_ ?_
  · exact leV_refl
  · exact leV_refl

/-! ### sums, differences, products -/
noncomputable def addS : FSpec := { run := fun ins => match ins with
  | [.agg 4 (.u 64 a), .agg 4 (.u 64 b)] => chk (a.length = 4) (some (.tup [.agg 4 (.u 64 (wOf (wv a + wv b))), .u 64 (BitVec.ofNat 64 ((wv a + wv b) / B256))], []))
  | _ => none }
theorem wadd_sound : SoundFn Try.prog glB 63 addS.run := by
  have G := good_of (P := Try.prog) glB_ro (l := [(38, add64S)]) (by simp only [List.forall_mem_cons]; exact ⟨x86_sound, by simp⟩)
  refine soundFn_of_W G Try.func63 (by decide) rfl (by decide) ?_
  intro ins ret outs h
  unfold addS at h
  dsimp only at h
  split at h
  rotate_left
  · cases h
  rename_i a b
  obtain ⟨hl, h'⟩ := chk_some h
  clear h
  cases h'
  refine ⟨by show 2 ≤ 27; decide, fun w0 ext av => ?_⟩
  rw [Try.ntmps63, st0_eq]
  obtain ⟨q1, q2⟩ := addL_eq a b hl
  rw [← q1, ← q2]
  have z0 : addL a b 0 = (a, 0#64) := rfl
  repeat' first
    | refine W.seq ?_ | (refine W.regS G ?_; dsimp only) | refine SW.nil ?_ | refine thenQ_normal ?_ | refine W.skip ?_ | refine W.exit ?_ | refine thenQ_exit ?_ | refine inBlockQ_exit ?_ | refine inBlockQ_normal ?_ | refine W.block ?_
    | (apply SW.toC; refine SWcall.go True.intro ?_) | (apply SW.toOp; refine SWop.go True.intro ?_) | (apply SW.toCG; first | refine SWcall.yes True.intro ?_ | refine SWcall.no True.intro ?_) | (apply SW.toG; first | refine SWop.yes True.intro ?_ | refine SWop.no True.intro ?_)
  refine W.loopI (ι := {i : Nat // i ≤ 4}) (fun i => sL [(2, .p 2 0 0 0), (3, .p 3 0 0 0), (4, .p 4 0 0 0), (6, .u 64 (addL a b i.1).2), (8, .i i.1)] [(2, .agg 4 (.u 64 (addL a b i.1).1)), (3, .agg 4 (.u 64 b)), (4, .agg 4 (.u 64 (zeros 64 4)))] 27) (fun i => 4 - i.1) ⟨0, Nat.zero_le _⟩ (Imp.le ?_) ?_
  · exact sL_leZ z0
  rintro ⟨i, hi⟩
  have e : addL a b (i + 1) = addStep b i (addL a b i) := itN_succ _ _ _
  obtain ⟨k1, k2, _, _⟩ := addL_ok a b hl i hi
  have hend : i = 4 → addL a b 4 = addL a b i := by rintro rfl; rfl
  generalize addL a b i = p at e k1 k2 hend ⊢
  obtain ⟨l, c⟩ := p
  dsimp only at e k1 k2 hend ⊢
  have hs2 : addStep b i (l, c) = (l.set i (addF (l.getD i 0) (b.getD i 0) c).1, (addF (l.getD i 0) (b.getD i 0) c).2) := rfl
  repeat' first
    | refine W.seq ?_ | (refine W.regS G ?_; dsimp only) | refine SW.nil ?_ | refine thenQ_normal ?_ | refine W.skip ?_ | refine W.exit ?_ | refine thenQ_exit ?_ | refine inBlockQ_exit ?_ | refine inBlockQ_normal ?_ | refine W.block ?_
    | (apply SW.toC; refine SWcall.go True.intro ?_) | (apply SW.toOp; refine SWop.go True.intro ?_) | (apply SW.toCG; first | refine SWcall.yes True.intro ?_ | refine SWcall.no True.intro ?_) | (apply SW.toG; first | refine SWop.yes True.intro ?_ | refine SWop.no True.intro ?_)
  refine W.condZ G True.intro ?_ ?_
  all_goals intro ht
  · have ht' := of_decide_eq_true ht
    repeat' first
      | refine W.seq ?_ | (refine W.regS G ?_; dsimp only) | refine SW.nil ?_ | refine thenQ_normal ?_ | refine W.skip ?_ | refine W.exit ?_ | refine thenQ_exit ?_ | refine inBlockQ_exit ?_ | refine inBlockQ_normal ?_ | refine W.block ?_
      | (apply SW.toC; refine SWcall.go add64S.eq_1 ?_) | (apply SW.toOp; refine SWop.go add64S.eq_1 ?_) | (apply SW.toCG; first | refine SWcall.yes add64S.eq_1 ?_ | refine SWcall.no add64S.eq_1 ?_) | (apply SW.toG; first | refine SWop.yes add64S.eq_1 ?_ | refine SWop.no add64S.eq_1 ?_)
    refine W.drawS G [[], [], [1], [2, 1], [], [4], [5, 4], [], [3, 2, 1, 6, 5, 4, 7], [8, 3, 2, 1, 6, 5, 4, 7], [9, 8, 3, 2, 1, 6, 5, 4, 7], [9, 8, 3, 2, 1, 6, 5, 4, 7], [0, 1, 2, 3, 4, 5, 6, 7, 8, 9, 10], [12, 0, 1, 2, 3, 4, 5, 6, 7, 8, 9, 10], [11, 9, 8, 3, 2, 1, 6, 5, 4, 7, 13, 12, 0, 10]] hmix ?_
    dsimp only
    repeat' first
      | (apply DW.nil; (focus (decide +kernel)))
      | (apply DW.toC; refine DWcall.go add64S.eq_1 ?_) | (apply DW.toOp; refine DWop.go add64S.eq_1 ?_) | (apply DW.toCG; first | refine DWcall.yes add64S.eq_1 ?_ | refine DWcall.no add64S.eq_1 ?_) | (apply DW.toG; first | refine DWop.yes add64S.eq_1 ?_ | refine DWop.no add64S.eq_1 ?_)
    repeat' first
      | refine W.seq ?_ | (refine W.regS G ?_; dsimp only) | refine SW.nil ?_ | refine thenQ_normal ?_ | refine W.skip ?_ | refine W.exit ?_ | refine thenQ_exit ?_ | refine inBlockQ_exit ?_ | refine inBlockQ_normal ?_ | refine W.block ?_
      | (apply SW.toC; refine SWcall.go add64S.eq_1 ?_) | (apply SW.toOp; refine SWop.go add64S.eq_1 ?_) | (apply SW.toCG; first | refine SWcall.yes add64S.eq_1 ?_ | refine SWcall.no add64S.eq_1 ?_) | (apply SW.toG; first | refine SWop.yes add64S.eq_1 ?_ | refine SWop.no add64S.eq_1 ?_)
    refine ⟨⟨i + 1, by omega⟩, Imp.le ?_, by show _ - (i + 1) < _ - i; omega⟩
    exact sL_leZ (And.intro e (And.intro hs2 add64S.eq_1))
  have ht' := of_decide_eq_false ht
  obtain rfl : i = 4 := by omega
  have hh := hend rfl
  rw [hh]
  repeat' first
    | refine W.seq ?_ | (refine W.regS G ?_; dsimp only) | refine SW.nil ?_ | refine thenQ_normal ?_ | refine W.skip ?_ | refine W.exit ?_ | refine thenQ_exit ?_ | refine inBlockQ_exit ?_ | refine inBlockQ_normal ?_ | refine W.block ?_
    | (apply SW.toC; refine SWcall.go True.intro ?_) | (apply SW.toOp; refine SWop.go True.intro ?_) | (apply SW.toCG; first | refine SWcall.yes True.intro ?_ | refine SWcall.no True.intro ?_) | (apply SW.toG; first | refine SWop.yes True.intro ?_ | refine SWop.no True.intro ?_)
  refine W.ret ?_
  repeat' first
    | refine thenQ_ret ?_
    | refine inBlockQ_ret ?_
  refine fin2Z True.intro ?_ ?_
  · exact leV_refl
  · exact leV_refl
noncomputable def subS : FSpec := { run := fun ins => match ins with
  | [.agg 4 (.u 64 a), .agg 4 (.u 64 b)] => chk (a.length = 4) (some (.tup [.agg 4 (.u 64 (wOf (wv a + B256 - wv b))), .u 64 (if wv a < wv b then 1#64 else 0#64)], []))
  | _ => none }
theorem wsub_sound : SoundFn Try.prog glB 62 subS.run := by
  have G := good_of (P := Try.prog) glB_ro (l := [(83, sub64S)]) (by simp only [List.forall_mem_cons]; exact ⟨x90_sound, by simp⟩)
  refine soundFn_of_W G Try.func62 (by decide) rfl (by decide) ?_
  intro ins ret outs h
  unfold subS at h
  dsimp only at h
  split at h
  rotate_left
  · cases h
  rename_i a b
  obtain ⟨hl, h'⟩ := chk_some h
  clear h
  cases h'
  refine ⟨by show 2 ≤ 27; decide, fun w0 ext av => ?_⟩
  rw [Try.ntmps62, st0_eq]
  obtain ⟨q1, q2⟩ := subL_eq a b hl
  rw [← q1, ← q2]
  have z0 : subLw a b 0 = (a, 0#64) := rfl
  repeat' first
    | refine W.seq ?_ | (refine W.regS G ?_; dsimp only) | refine SW.nil ?_ | refine thenQ_normal ?_ | refine W.skip ?_ | refine W.exit ?_ | refine thenQ_exit ?_ | refine inBlockQ_exit ?_ | refine inBlockQ_normal ?_ | refine W.block ?_
    | (apply SW.toC; refine SWcall.go True.intro ?_) | (apply SW.toOp; refine SWop.go True.intro ?_) | (apply SW.toCG; first | refine SWcall.yes True.intro ?_ | refine SWcall.no True.intro ?_) | (apply SW.toG; first | refine SWop.yes True.intro ?_ | refine SWop.no True.intro ?_)
  refine W.loopI (ι := {i : Nat // i ≤ 4}) (fun i => sL [(2, .p 2 0 0 0), (3, .p 3 0 0 0), (4, .p 4 0 0 0), (6, .u 64 (subLw a b i.1).2), (8, .i i.1)] [(2, .agg 4 (.u 64 (subLw a b i.1).1)), (3, .agg 4 (.u 64 b)), (4, .agg 4 (.u 64 (zeros 64 4)))] 27) (fun i => 4 - i.1) ⟨0, Nat.zero_le _⟩ (Imp.le ?_) ?_
  · exact sL_leZ z0
  rintro ⟨i, hi⟩
  have e : subLw a b (i + 1) = subStep b i (subLw a b i) := itN_succ _ _ _
  obtain ⟨k1, k2, _, _⟩ := subL_ok a b hl i hi
  have hend : i = 4 → subLw a b 4 = subLw a b i := by rintro rfl; rfl
  generalize subLw a b i = p at e k1 k2 hend ⊢
  obtain ⟨l, c⟩ := p
  dsimp only at e k1 k2 hend ⊢
  have hs2 : subStep b i (l, c) = (l.set i (subF (l.getD i 0) (b.getD i 0) c).1, (subF (l.getD i 0) (b.getD i 0) c).2) := rfl
  repeat' first
    | refine W.seq ?_ | (refine W.regS G ?_; dsimp only) | refine SW.nil ?_ | refine thenQ_normal ?_ | refine W.skip ?_ | refine W.exit ?_ | refine thenQ_exit ?_ | refine inBlockQ_exit ?_ | refine inBlockQ_normal ?_ | refine W.block ?_
    | (apply SW.toC; refine SWcall.go True.intro ?_) | (apply SW.toOp; refine SWop.go True.intro ?_) | (apply SW.toCG; first | refine SWcall.yes True.intro ?_ | refine SWcall.no True.intro ?_) | (apply SW.toG; first | refine SWop.yes True.intro ?_ | refine SWop.no True.intro ?_)
  refine W.condZ G True.intro ?_ ?_
  all_goals intro ht
  · have ht' := of_decide_eq_true ht
    repeat' first
      | refine W.seq ?_ | (refine W.regS G ?_; dsimp only) | refine SW.nil ?_ | refine thenQ_normal ?_ | refine W.skip ?_ | refine W.exit ?_ | refine thenQ_exit ?_ | refine inBlockQ_exit ?_ | refine inBlockQ_normal ?_ | refine W.block ?_
      | (apply SW.toC; refine SWcall.go sub64S.eq_1 ?_) | (apply SW.toOp; refine SWop.go sub64S.eq_1 ?_) | (apply SW.toCG; first | refine SWcall.yes sub64S.eq_1 ?_ | refine SWcall.no sub64S.eq_1 ?_) | (apply SW.toG; first | refine SWop.yes sub64S.eq_1 ?_ | refine SWop.no sub64S.eq_1 ?_)
    refine W.drawS G [[], [], [1], [2, 1], [], [4], [5, 4], [], [3, 2, 1, 6, 5, 4, 7], [8, 3, 2, 1, 6, 5, 4, 7], [9, 8, 3, 2, 1, 6, 5, 4, 7], [9, 8, 3, 2, 1, 6, 5, 4, 7], [0, 1, 2, 3, 4, 5, 6, 7, 8, 9, 10], [12, 0, 1, 2, 3, 4, 5, 6, 7, 8, 9, 10], [11, 9, 8, 3, 2, 1, 6, 5, 4, 7, 13, 12, 0, 10]] hmix ?_
    dsimp only
    repeat' first
      | (apply DW.nil; (focus (decide +kernel)))
      | (apply DW.toC; refine DWcall.go sub64S.eq_1 ?_) | (apply DW.toOp; refine DWop.go sub64S.eq_1 ?_) | (apply DW.toCG; first | refine DWcall.yes sub64S.eq_1 ?_ | refine DWcall.no sub64S.eq_1 ?_) | (apply DW.toG; first | refine DWop.yes sub64S.eq_1 ?_ | refine DWop.no sub64S.eq_1 ?_)
    repeat' first
      | refine W.seq ?_ | (refine W.regS G ?_; dsimp only) | refine SW.nil ?_ | refine thenQ_normal ?_ | refine W.skip ?_ | refine W.exit ?_ | refine thenQ_exit ?_ | refine inBlockQ_exit ?_ | refine inBlockQ_normal ?_ | refine W.block ?_
      | (apply SW.toC; refine SWcall.go sub64S.eq_1 ?_) | (apply SW.toOp; refine SWop.go sub64S.eq_1 ?_) | (apply SW.toCG; first | refine SWcall.yes sub64S.eq_1 ?_ | refine SWcall.no sub64S.eq_1 ?_) | (apply SW.toG; first | refine SWop.yes sub64S.eq_1 ?_ | refine SWop.no sub64S.eq_1 ?_)
    refine ⟨⟨i + 1, by omega⟩, Imp.le ?_, by show _ - (i + 1) < _ - i; omega⟩
    exact sL_leZ (And.intro e (And.intro hs2 sub64S.eq_1))
  have ht' := of_decide_eq_false ht
  obtain rfl : i = 4 := by omega
  have hh := hend rfl
  rw [hh]
  repeat' first
    | refine W.seq ?_ | (refine W.regS G ?_; dsimp only) | refine SW.nil ?_ | refine thenQ_normal ?_ | refine W.skip ?_ | refine W.exit ?_ | refine thenQ_exit ?_ | refine inBlockQ_exit ?_ | refine inBlockQ_normal ?_ | refine W.block ?_
    | (apply SW.toC; refine SWcall.go True.intro ?_) | (apply SW.toOp; refine SWop.go True.intro ?_) | (apply SW.toCG; first | refine SWcall.yes True.intro ?_ | refine SWcall.no True.intro ?_) | (apply SW.toG; first | refine SWop.yes True.intro ?_ | refine SWop.no True.intro ?_)
  refine W.ret ?_
  repeat' first
    | refine thenQ_ret ?_
    | refine inBlockQ_ret ?_
  refine fin2Z True.intro ?_ ?_
  · exact leV_refl
  · exact leV_refl
noncomputable def wideS : FSpec := { run := fun ins => match ins with
  | [.agg 4 (.u 64 a), .agg 4 (.u 64 b)] => some (.agg 8 (.u 64 (wideF a b 4)), [])
  | _ => none }
noncomputable def AddS : FSpec := { run := fun ins => match ins with
  | [.agg 4 (.u 64 a), .agg 4 (.u 64 b)] => chk (a.length = 4) (some (.agg 4 (.u 64 (wOf (wv a + wv b))), []))
  | _ => none }
theorem Add_sound : SoundFn Try.prog glB 43 AddS.run := by
  have G := good_of (P := Try.prog) glB_ro (l := [(63, addS)]) (by simp only [List.forall_mem_cons]; exact ⟨wadd_sound, by simp⟩)
  refine soundFn_of_W G Try.func43 (by decide) rfl (by decide) ?_
  intro ins ret outs h
  unfold AddS at h
  dsimp only at h
  split at h
  rotate_left
  · cases h
  rename_i a b
  obtain ⟨hl, h'⟩ := chk_some h
  clear h
  cases h'
  refine ⟨by show 2 ≤ 14; decide, fun w0 ext av => ?_⟩
  rw [Try.ntmps43, st0_eq]
  repeat' first
    | refine W.seq ?_ | (refine W.regS G ?_; dsimp only) | refine SW.nil ?_ | refine thenQ_normal ?_ | refine W.skip ?_ | refine W.exit ?_ | refine thenQ_exit ?_ | refine inBlockQ_exit ?_ | refine inBlockQ_normal ?_ | refine W.block ?_
    | (apply SW.toC; refine SWcall.go (And.intro addS.eq_1 hl) ?_) | (apply SW.toOp; refine SWop.go (And.intro addS.eq_1 hl) ?_) | (apply SW.toCG; first | refine SWcall.yes (And.intro addS.eq_1 hl) ?_ | refine SWcall.no (And.intro addS.eq_1 hl) ?_) | (apply SW.toG; first | refine SWop.yes (And.intro addS.eq_1 hl) ?_ | refine SWop.no (And.intro addS.eq_1 hl) ?_)
  refine W.ret ?_
  repeat' first
    | refine thenQ_ret ?_
    | refine inBlockQ_ret ?_
  refine fin1Z (And.intro addS.eq_1 hl) ?_
  exact leV_refl
noncomputable def SubS : FSpec := { run := fun ins => match ins with
  | [.agg 4 (.u 64 a), .agg 4 (.u 64 b)] => chk (a.length = 4) (some (.agg 4 (.u 64 (wOf (wv a + B256 - wv b))), []))
  | _ => none }
theorem Sub_sound : SoundFn Try.prog glB 42 SubS.run := by
  have G := good_of (P := Try.prog) glB_ro (l := [(62, subS)]) (by simp only [List.forall_mem_cons]; exact ⟨wsub_sound, by simp⟩)
  refine soundFn_of_W G Try.func42 (by decide) rfl (by decide) ?_
  intro ins ret outs h
  unfold SubS at h
  dsimp only at h
  split at h
  rotate_left
  · cases h
  rename_i a b
  obtain ⟨hl, h'⟩ := chk_some h
  clear h
  cases h'
  refine ⟨by show 2 ≤ 14; decide, fun w0 ext av => ?_⟩
  rw [Try.ntmps42, st0_eq]
  repeat' first
    | refine W.seq ?_ | (refine W.regS G ?_; dsimp only) | refine SW.nil ?_ | refine thenQ_normal ?_ | refine W.skip ?_ | refine W.exit ?_ | refine thenQ_exit ?_ | refine inBlockQ_exit ?_ | refine inBlockQ_normal ?_ | refine W.block ?_
    | (apply SW.toC; refine SWcall.go (And.intro subS.eq_1 hl) ?_) | (apply SW.toOp; refine SWop.go (And.intro subS.eq_1 hl) ?_) | (apply SW.toCG; first | refine SWcall.yes (And.intro subS.eq_1 hl) ?_ | refine SWcall.no (And.intro subS.eq_1 hl) ?_) | (apply SW.toG; first | refine SWop.yes (And.intro subS.eq_1 hl) ?_ | refine SWop.no (And.intro subS.eq_1 hl) ?_)
  refine W.ret ?_
  repeat' first
    | refine thenQ_ret ?_
    | refine inBlockQ_ret ?_
  refine fin1Z (And.intro subS.eq_1 hl) ?_
  exact leV_refl
noncomputable def MulS : FSpec := { run := fun ins => match ins with
  | [.agg 4 (.u 64 a), .agg 4 (.u 64 b)] => some (.agg 4 (.u 64 (wOf (wv a * wv b))), [])
  | _ => none }
noncomputable def OfS : FSpec := { run := fun ins => match ins with
  | [.u 64 n] => some (.agg 4 (.u 64 (wOf n.toNat)), [])
  | _ => none }
end Go.Vm.C19

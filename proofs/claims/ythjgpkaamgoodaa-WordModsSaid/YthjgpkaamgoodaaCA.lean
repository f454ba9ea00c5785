/- What some functions of the program compute, walked through once. -/
import Derived.Test.YthjgpkaamgoodaaVd
import Derived.KernelRfl
import Derived.Test.YthjgpkaamgoodaaProg
import Derived.Test.YthjgpkaamgoodaaCTy
namespace Go.Vm.C01
open Go Go.Proofs
set_option linter.unusedVariables false
set_option linter.unusedSimpArgs false
set_option maxRecDepth 100000
set_option maxHeartbeats 8000000
def glB : Nat → Option Row := fun _ => none
theorem glB_ro : ∀ g r, glB g = some r → r.ro = r := fun g r h => by cases h

theorem x86_sound : SoundFn Try.prog glB 86 add64S.run := add64_sound Try.func86 (by kernel_rfl) (by kernel_rfl) (by kernel_rfl) (by kernel_rfl)
theorem x90_sound : SoundFn Try.prog glB 90 sub64S.run := sub64_sound Try.func90 (by kernel_rfl) (by kernel_rfl) (by kernel_rfl) (by kernel_rfl)
noncomputable def mul64S : FSpec := { run := fun ins => match ins with
  | [.u 64 x, .u 64 y] => some (.tup [.u 64 (hiF x y), .u 64 (x * y)], [])
  | _ => none }
theorem mul64_sound : SoundFn Try.prog glB 87 mul64S.run := by
  have G := good_of (P := Try.prog) glB_ro (l := []) (by simp)
  refine soundFn_of_W G Try.func87 (by decide) rfl (by decide) ?_
  intro ins ret outs h
  unfold mul64S at h
  dsimp only at h
  split at h
  rotate_left
  · cases h
  rename_i x y
  cases h
  refine ⟨by show 2 ≤ 51; decide, fun w0 ext av => ?_⟩
  rw [Try.ntmps87, st0_eq]
  repeat' first
    | refine W.seq ?_ | (refine W.regS G ?_; dsimp only) | refine SW.nil ?_ | refine thenQ_normal ?_ | refine W.skip ?_ | refine W.exit ?_ | refine thenQ_exit ?_ | refine inBlockQ_exit ?_ | refine inBlockQ_normal ?_ | refine W.block ?_
    | (apply SW.toC; refine SWcall.go True.intro ?_) | (apply SW.toOp; refine SWop.go True.intro ?_) | (apply SW.toCG; first | refine SWcall.yes True.intro ?_ | refine SWcall.no True.intro ?_) | (apply SW.toG; first | refine SWop.yes True.intro ?_ | refine SWop.no True.intro ?_)
  refine W.ret ?_
  repeat' first
    | refine thenQ_ret ?_
    | refine inBlockQ_ret ?_
  refine fin2Z True.intro ?_ ?_
  · exact leV_refl
  · exact leV_refl

/-! ### sums, differences, products -/
noncomputable def addS : FSpec := { run := fun ins => match ins with
  | [.agg 4 (.u 64 a), .agg 4 (.u 64 b)] => chk (a.length = 4) (some (.tup [.agg 4 (.u 64 (wOf (wv a + wv b))), .u 64 (BitVec.ofNat 64 ((wv a + wv b) / B256))], []))
  | _ => none }
theorem wadd_sound : SoundFn Try.prog glB 63 addS.run := by
  have G := good_of (P := Try.prog) glB_ro (l := [(86, add64S)]) (by simp only [List.forall_mem_cons]; exact ⟨x86_sound, by simp⟩)
  refine soundFn_of_W G Try.func63 (by decide) rfl (by decide) ?_
  intro ins ret outs h
  unfold addS at h
  dsimp only at h
  split at h
  rotate_left
  · cases h
  rename_i a b
  obtain ⟨hl, h'⟩ := chk_some h
  clear h
  cases h'
  refine ⟨by show 2 ≤ 27; decide, fun w0 ext av => ?_⟩
  rw [Try.ntmps63, st0_eq]
  obtain ⟨q1, q2⟩ := addL_eq a b hl
  rw [← q1, ← q2]
  have z0 : addL a b 0 = (a, 0#64) := rfl
  repeat' first
    | refine W.seq ?_ | (refine W.regS G ?_; dsimp only) | refine SW.nil ?_ | refine thenQ_normal ?_ | refine W.skip ?_ | refine W.exit ?_ | refine thenQ_exit ?_ | refine inBlockQ_exit ?_ | refine inBlockQ_normal ?_ | refine W.block ?_
    | (apply SW.toC; refine SWcall.go True.intro ?_) | (apply SW.toOp; refine SWop.go True.intro ?_) | (apply SW.toCG; first | refine SWcall.yes True.intro ?_ | refine SWcall.no True.intro ?_) | (apply SW.toG; first | refine SWop.yes True.intro ?_ | refine SWop.no True.intro ?_)
  refine W.loopI (ι := {i : Nat // i ≤ 4}) (fun i => sL [(2, .p 2 0 0 0), (3, .p 3 0 0 0), (4, .p 4 0 0 0), (6, .u 64 (addL a b i.1).2), (8, .i i.1)] [(2, .agg 4 (.u 64 (addL a b i.1).1)), (3, .agg 4 (.u 64 b)), (4, .agg 4 (.u 64 (zeros 64 4)))] 27) (fun i => 4 - i.1) ⟨0, Nat.zero_le _⟩ (Imp.le ?_) ?_
  · exact sL_leZ z0
  rintro ⟨i, hi⟩
  have e : addL a b (i + 1) = addStep b i (addL a b i) := itN_succ _ _ _
  obtain ⟨k1, k2, _, _⟩ := addL_ok a b hl i hi
  have hend : i = 4 → addL a b 4 = addL a b i := by rintro rfl; rfl
  generalize addL a b i = p at e k1 k2 hend ⊢
  obtain ⟨l, c⟩ := p
  dsimp only at e k1 k2 hend ⊢
  have hs2 : addStep b i (l, c) = (l.set i (addF (l.getD i 0) (b.getD i 0) c).1, (addF (l.getD i 0) (b.getD i 0) c).2) := rfl
  repeat' first
    | refine W.seq ?_ | (refine W.regS G ?_; dsimp only) | refine SW.nil ?_ | refine thenQ_normal ?_ | refine W.skip ?_ | refine W.exit ?_ | refine thenQ_exit ?_ | refine inBlockQ_exit ?_ | refine inBlockQ_normal ?_ | refine W.block ?_
    | (apply SW.toC; refine SWcall.go True.intro ?_) | (apply SW.toOp; refine SWop.go True.intro ?_) | (apply SW.toCG; first | refine SWcall.yes True.intro ?_ | refine SWcall.no True.intro ?_) | (apply SW.toG; first | refine SWop.yes True.intro ?_ | refine SWop.no True.intro ?_)
  refine W.condZ G True.intro ?_ ?_
  all_goals intro ht
  · have ht' := of_decide_eq_true ht
    repeat' first
      | refine W.seq ?_ | (refine W.regS G ?_; dsimp only) | refine SW.nil ?_ | refine thenQ_normal ?_ | refine W.skip ?_ | refine W.exit ?_ | refine thenQ_exit ?_ | refine inBlockQ_exit ?_ | refine inBlockQ_normal ?_ | refine W.block ?_
      | (apply SW.toC; refine SWcall.go add64S.eq_1 ?_) | (apply SW.toOp; refine SWop.go add64S.eq_1 ?_) | (apply SW.toCG; first | refine SWcall.yes add64S.eq_1 ?_ | refine SWcall.no add64S.eq_1 ?_) | (apply SW.toG; first | refine SWop.yes add64S.eq_1 ?_ | refine SWop.no add64S.eq_1 ?_)
    refine W.drawS G [[], [], [1], [2, 1], [], [4], [5, 4], [], [3, 2, 1, 6, 5, 4, 7], [8, 3, 2, 1, 6, 5, 4, 7], [9, 8, 3, 2, 1, 6, 5, 4, 7], [9, 8, 3, 2, 1, 6, 5, 4, 7], [0, 1, 2, 3, 4, 5, 6, 7, 8, 9, 10], [12, 0, 1, 2, 3, 4, 5, 6, 7, 8, 9, 10], [11, 9, 8, 3, 2, 1, 6, 5, 4, 7, 13, 12, 0, 10]] hmix ?_
    dsimp only
    repeat' first
      | (apply DW.nil; (focus (decide +kernel)))
      | (apply DW.toC; refine DWcall.go add64S.eq_1 ?_) | (apply DW.toOp; refine DWop.go add64S.eq_1 ?_) | (apply DW.toCG; first | refine DWcall.yes add64S.eq_1 ?_ | refine DWcall.no add64S.eq_1 ?_) | (apply DW.toG; first | refine DWop.yes add64S.eq_1 ?_ | refine DWop.no add64S.eq_1 ?_)
    repeat' first
      | refine W.seq ?_ | (refine W.regS G ?_; dsimp only) | refine SW.nil ?_ | refine thenQ_normal ?_ | refine W.skip ?_ | refine W.exit ?_ | refine thenQ_exit ?_ | refine inBlockQ_exit ?_ | refine inBlockQ_normal ?_ | refine W.block ?_
      | (apply SW.toC; refine SWcall.go add64S.eq_1 ?_) | (apply SW.toOp; refine SWop.go add64S.eq_1 ?_) | (apply SW.toCG; first | refine SWcall.yes add64S.eq_1 ?_ | refine SWcall.no add64S.eq_1 ?_) | (apply SW.toG; first | refine SWop.yes add64S.eq_1 ?_ | refine SWop.no add64S.eq_1 ?_)
    refine ⟨⟨i + 1, by omega⟩, Imp.le ?_, by show _ - (i + 1) < _ - i; omega⟩
    exact sL_leZ (And.intro e (And.intro hs2 add64S.eq_1))
  have ht' := of_decide_eq_false ht
  obtain rfl : i = 4 := by omega
  have hh := hend rfl
  rw [hh]
  repeat' first
    | refine W.seq ?_ | (refine W.regS G ?_; dsimp only) | refine SW.nil ?_ | refine thenQ_normal ?_ | refine W.skip ?_ | refine W.exit ?_ | refine thenQ_exit ?_ | refine inBlockQ_exit ?_ | refine inBlockQ_normal ?_ | refine W.block ?_
    | (apply SW.toC; refine SWcall.go True.intro ?_) | (apply SW.toOp; refine SWop.go True.intro ?_) | (apply SW.toCG; first | refine SWcall.yes True.intro ?_ | refine SWcall.no True.intro ?_) | (apply SW.toG; first | refine SWop.yes True.intro ?_ | refine SWop.no True.intro ?_)
  refine W.ret ?_
  repeat' first
    | refine thenQ_ret ?_
    | refine inBlockQ_ret ?_
  refine fin2Z True.intro ?_ ?_
  · exact leV_refl
  · exact leV_refl
noncomputable def subS : FSpec := { run := fun ins => match ins with
  | [.agg 4 (.u 64 a), .agg 4 (.u 64 b)] => chk (a.length = 4) (some (.tup [.agg 4 (.u 64 (wOf (wv a + B256 - wv b))), .u 64 (if wv a < wv b then 1#64 else 0#64)], []))
  | _ => none }
theorem wsub_sound : SoundFn Try.prog glB 75 subS.run := by
  have G := good_of (P := Try.prog) glB_ro (l := [(90, sub64S)]) (by simp only [List.forall_mem_cons]; exact ⟨x90_sound, by simp⟩)
  refine soundFn_of_W G Try.func75 (by decide) rfl (by decide) ?_
  intro ins ret outs h
  unfold subS at h
  dsimp only at h
  split at h
  rotate_left
  · cases h
  rename_i a b
  obtain ⟨hl, h'⟩ := chk_some h
  clear h
  cases h'
  refine ⟨by show 2 ≤ 27; decide, fun w0 ext av => ?_⟩
  rw [Try.ntmps75, st0_eq]
  obtain ⟨q1, q2⟩ := subL_eq a b hl
  rw [← q1, ← q2]
  have z0 : subLw a b 0 = (a, 0#64) := rfl
  repeat' first
    | refine W.seq ?_ | (refine W.regS G ?_; dsimp only) | refine SW.nil ?_ | refine thenQ_normal ?_ | refine W.skip ?_ | refine W.exit ?_ | refine thenQ_exit ?_ | refine inBlockQ_exit ?_ | refine inBlockQ_normal ?_ | refine W.block ?_
    | (apply SW.toC; refine SWcall.go True.intro ?_) | (apply SW.toOp; refine SWop.go True.intro ?_) | (apply SW.toCG; first | refine SWcall.yes True.intro ?_ | refine SWcall.no True.intro ?_) | (apply SW.toG; first | refine SWop.yes True.intro ?_ | refine SWop.no True.intro ?_)
  refine W.loopI (ι := {i : Nat // i ≤ 4}) (fun i => sL [(2, .p 2 0 0 0), (3, .p 3 0 0 0), (4, .p 4 0 0 0), (6, .u 64 (subLw a b i.1).2), (8, .i i.1)] [(2, .agg 4 (.u 64 (subLw a b i.1).1)), (3, .agg 4 (.u 64 b)), (4, .agg 4 (.u 64 (zeros 64 4)))] 27) (fun i => 4 - i.1) ⟨0, Nat.zero_le _⟩ (Imp.le ?_) ?_
  · exact sL_leZ z0
  rintro ⟨i, hi⟩
  have e : subLw a b (i + 1) = subStep b i (subLw a b i) := itN_succ _ _ _
  obtain ⟨k1, k2, _, _⟩ := subL_ok a b hl i hi
  have hend : i = 4 → subLw a b 4 = subLw a b i := by rintro rfl; rfl
  generalize subLw a b i = p at e k1 k2 hend ⊢
  obtain ⟨l, c⟩ := p
  dsimp only at e k1 k2 hend ⊢
  have hs2 : subStep b i (l, c) = (l.set i (subF (l.getD i 0) (b.getD i 0) c).1, (subF (l.getD i 0) (b.getD i 0) c).2) := rfl
  repeat' first
    | refine W.seq ?_ | (refine W.regS G ?_; dsimp only) | refine SW.nil ?_ | refine thenQ_normal ?_ | refine W.skip ?_ | refine W.exit ?_ | refine thenQ_exit ?_ | refine inBlockQ_exit ?_ | refine inBlockQ_normal ?_ | refine W.block ?_
    | (apply SW.toC; refine SWcall.go True.intro ?_) | (apply SW.toOp; refine SWop.go True.intro ?_) | (apply SW.toCG; first | refine SWcall.yes True.intro ?_ | refine SWcall.no True.intro ?_) | (apply SW.toG; first | refine SWop.yes True.intro ?_ | refine SWop.no True.intro ?_)
  refine W.condZ G True.intro ?_ ?_
  all_goals intro ht
  · have ht' := of_decide_eq_true ht
    repeat' first
      | refine W.seq ?_ | (refine W.regS G ?_; dsimp only) | refine SW.nil ?_ | refine thenQ_normal ?_ | refine W.skip ?_ | refine W.exit ?_ | refine thenQ_exit ?_ | refine inBlockQ_exit ?_ | refine inBlockQ_normal ?_ | refine W.block ?_
      | (apply SW.toC; refine SWcall.go sub64S.eq_1 ?_) | (apply SW.toOp; refine SWop.go sub64S.eq_1 ?_) | (apply SW.toCG; first | refine SWcall.yes sub64S.eq_1 ?_ | refine SWcall.no sub64S.eq_1 ?_) | (apply SW.toG; first | refine SWop.yes sub64S.eq_1 ?_ | refine SWop.no sub64S.eq_1 ?_)
    refine W.drawS G [[], [], [1], [2, 1], [], [4], [5, 4], [], [3, 2, 1, 6, 5, 4, 7], [8, 3, 2, 1, 6, 5, 4, 7], [9, 8, 3, 2, 1, 6, 5, 4, 7], [9, 8, 3, 2, 1, 6, 5, 4, 7], [0, 1, 2, 3, 4, 5, 6, 7, 8, 9, 10], [12, 0, 1, 2, 3, 4, 5, 6, 7, 8, 9, 10], [11, 9, 8, 3, 2, 1, 6, 5, 4, 7, 13, 12, 0, 10]] hmix ?_
    dsimp only
    repeat' first
      | (apply DW.nil; (focus (decide +kernel)))
      | (apply DW.toC; refine DWcall.go sub64S.eq_1 ?_) | (apply DW.toOp; refine DWop.go sub64S.eq_1 ?_) | (apply DW.toCG; first | refine DWcall.yes sub64S.eq_1 ?_ | refine DWcall.no sub64S.eq_1 ?_) | (apply DW.toG; first | refine DWop.yes sub64S.eq_1 ?_ | refine DWop.no sub64S.eq_1 ?_)
    repeat' first
      | refine W.seq ?_ | (refine W.regS G ?_; dsimp only) | refine SW.nil ?_ | refine thenQ_normal ?_ | refine W.skip ?_ | refine W.exit ?_ | refine thenQ_exit ?_ | refine inBlockQ_exit ?_ | refine inBlockQ_normal ?_ | refine W.block ?_
      | (apply SW.toC; refine SWcall.go sub64S.eq_1 ?_) | (apply SW.toOp; refine SWop.go sub64S.eq_1 ?_) | (apply SW.toCG; first | refine SWcall.yes sub64S.eq_1 ?_ | refine SWcall.no sub64S.eq_1 ?_) | (apply SW.toG; first | refine SWop.yes sub64S.eq_1 ?_ | refine SWop.no sub64S.eq_1 ?_)
    refine ⟨⟨i + 1, by omega⟩, Imp.le ?_, by show _ - (i + 1) < _ - i; omega⟩
    exact sL_leZ (And.intro e (And.intro hs2 sub64S.eq_1))
  have ht' := of_decide_eq_false ht
  obtain rfl : i = 4 := by omega
  have hh := hend rfl
  rw [hh]
  repeat' first
    | refine W.seq ?_ | (refine W.regS G ?_; dsimp only) | refine SW.nil ?_ | refine thenQ_normal ?_ | refine W.skip ?_ | refine W.exit ?_ | refine thenQ_exit ?_ | refine inBlockQ_exit ?_ | refine inBlockQ_normal ?_ | refine W.block ?_
    | (apply SW.toC; refine SWcall.go True.intro ?_) | (apply SW.toOp; refine SWop.go True.intro ?_) | (apply SW.toCG; first | refine SWcall.yes True.intro ?_ | refine SWcall.no True.intro ?_) | (apply SW.toG; first | refine SWop.yes True.intro ?_ | refine SWop.no True.intro ?_)
  refine W.ret ?_
  repeat' first
    | refine thenQ_ret ?_
    | refine inBlockQ_ret ?_
  refine fin2Z True.intro ?_ ?_
  · exact leV_refl
  · exact leV_refl
noncomputable def wideS : FSpec := { run := fun ins => match ins with
  | [.agg 4 (.u 64 a), .agg 4 (.u 64 b)] => some (.agg 8 (.u 64 (wideF a b 4)), [])
  | _ => none }
theorem wide_sound : SoundFn Try.prog glB 64 wideS.run := by
  have G := good_of (P := Try.prog) glB_ro (l := [(86, add64S), (87, mul64S)]) (by simp only [List.forall_mem_cons]; exact ⟨x86_sound, mul64_sound, by simp⟩)
  refine soundFn_of_W G Try.func64 (by decide) rfl (by decide) ?_
  intro ins ret outs h
  unfold wideS at h
  dsimp only at h
  split at h
  rotate_left
  · cases h
  rename_i a b
  cases h
  refine ⟨by show 2 ≤ 64; decide, fun w0 ext av => ?_⟩
  rw [Try.ntmps64, st0_eq]
  have z0 : wideF a b 0 = zeros 64 8 := rfl
  repeat' first
    | refine W.seq ?_ | (refine W.regS G ?_; dsimp only) | refine SW.nil ?_ | refine thenQ_normal ?_ | refine W.skip ?_ | refine W.exit ?_ | refine thenQ_exit ?_ | refine inBlockQ_exit ?_ | refine inBlockQ_normal ?_ | refine W.block ?_
    | (apply SW.toC; refine SWcall.go True.intro ?_) | (apply SW.toOp; refine SWop.go True.intro ?_) | (apply SW.toCG; first | refine SWcall.yes True.intro ?_ | refine SWcall.no True.intro ?_) | (apply SW.toG; first | refine SWop.yes True.intro ?_ | refine SWop.no True.intro ?_)
  refine W.loopI (ι := {i : Nat // i ≤ 4}) (fun i => sL [(3, .p 3 0 0 0), (4, .p 4 0 0 0), (5, .p 5 0 0 0), (14, .agg 4 (.u 64 a)), (15, .i i.1)] [(3, .agg 4 (.u 64 b)), (4, .agg 8 (.u 64 (zeros 64 8))), (5, .agg 8 (.u 64 (wideF a b i.1)))] 64) (fun i => 4 - i.1) ⟨0, Nat.zero_le _⟩ (Imp.le ?_) ?_
  · exact sL_leZ z0
  rintro ⟨i, hi⟩
  have e : wideF a b (i + 1) = wdRow a b i (wideF a b i) := itN_succ _ _ _
  have hend : i = 4 → wideF a b 4 = wideF a b i := by rintro rfl; rfl
  generalize wideF a b i = out at e hend ⊢
  repeat' first
    | refine W.seq ?_ | (refine W.regS G ?_; dsimp only) | refine SW.nil ?_ | refine thenQ_normal ?_ | refine W.skip ?_ | refine W.exit ?_ | refine thenQ_exit ?_ | refine inBlockQ_exit ?_ | refine inBlockQ_normal ?_ | refine W.block ?_
    | (apply SW.toC; refine SWcall.go True.intro ?_) | (apply SW.toOp; refine SWop.go True.intro ?_) | (apply SW.toCG; first | refine SWcall.yes True.intro ?_ | refine SWcall.no True.intro ?_) | (apply SW.toG; first | refine SWop.yes True.intro ?_ | refine SWop.no True.intro ?_)
  refine W.condZ G True.intro ?_ ?_
  all_goals intro ht
  · have ht' := of_decide_eq_true ht
    have hr2 : wdRow a b i out = (wdIn (a.getD i 0) b i 4 out).1.set (i + 4) (wdIn (a.getD i 0) b i 4 out).2 := rfl
    generalize hx : a.getD i 0 = x at hr2
    have y0 : wdIn x b i 0 out = (out, 0#64) := rfl
    repeat' first
      | refine W.seq ?_ | (refine W.regS G ?_; dsimp only) | refine SW.nil ?_ | refine thenQ_normal ?_ | refine W.skip ?_ | refine W.exit ?_ | refine thenQ_exit ?_ | refine inBlockQ_exit ?_ | refine inBlockQ_normal ?_
      | (apply SW.toC; refine SWcall.go hx ?_) | (apply SW.toOp; refine SWop.go hx ?_) | (apply SW.toCG; first | refine SWcall.yes hx ?_ | refine SWcall.no hx ?_) | (apply SW.toG; first | refine SWop.yes hx ?_ | refine SWop.no hx ?_)
    refine W.block ?_
    repeat' first
      | refine W.seq ?_ | (refine W.regS G ?_; dsimp only) | refine SW.nil ?_ | refine thenQ_normal ?_ | refine W.skip ?_ | refine W.exit ?_ | refine thenQ_exit ?_ | refine inBlockQ_exit ?_ | refine inBlockQ_normal ?_
      | (apply SW.toC; refine SWcall.go hx ?_) | (apply SW.toOp; refine SWop.go hx ?_) | (apply SW.toCG; first | refine SWcall.yes hx ?_ | refine SWcall.no hx ?_) | (apply SW.toG; first | refine SWop.yes hx ?_ | refine SWop.no hx ?_)
    refine W.mid (sL [(3, .p 3 0 0 0), (4, .p 4 0 0 0), (5, .p 5 0 0 0), (14, .agg 4 (.u 64 a)), (15, .i i), (6, .i i), (8, .u 64 (wdIn x b i 4 out).2)] [(3, .agg 4 (.u 64 b)), (4, .agg 8 (.u 64 (zeros 64 8))), (5, .agg 8 (.u 64 (wdIn x b i 4 out).1))] 64) ?_ ?_
    · repeat' first
        | refine W.seq ?_ | (refine W.regS G ?_; dsimp only) | refine SW.nil ?_ | refine thenQ_normal ?_ | refine W.skip ?_ | refine W.exit ?_ | refine thenQ_exit ?_ | refine inBlockQ_exit ?_ | refine inBlockQ_normal ?_ | refine W.block ?_
        | (apply SW.toC; refine SWcall.go hx ?_) | (apply SW.toOp; refine SWop.go hx ?_) | (apply SW.toCG; first | refine SWcall.yes hx ?_ | refine SWcall.no hx ?_) | (apply SW.toG; first | refine SWop.yes hx ?_ | refine SWop.no hx ?_)
      refine W.loopI (ι := {j : Nat // j ≤ 4}) (fun j => sL [(3, .p 3 0 0 0), (4, .p 4 0 0 0), (5, .p 5 0 0 0), (14, .agg 4 (.u 64 a)), (15, .i i), (6, .i i), (7, .u 64 x), (8, .u 64 (wdIn x b i j.1 out).2), (19, .agg 4 (.u 64 b)), (20, .i j.1)] [(3, .agg 4 (.u 64 b)), (4, .agg 8 (.u 64 (zeros 64 8))), (5, .agg 8 (.u 64 (wdIn x b i j.1 out).1))] 64) (fun j => 4 - j.1) ⟨0, Nat.zero_le _⟩ (Imp.le ?_) ?_
      · exact sL_leZ (And.intro y0 hx)
      rintro ⟨j, hj⟩
      have e2 : wdIn x b i (j + 1) out = wdStep x b i j (wdIn x b i j out) := itN_succ _ _ _
      have hend2 : j = 4 → wdIn x b i 4 out = wdIn x b i j out := by rintro rfl; rfl
      generalize wdIn x b i j out = p at e2 hend2 ⊢
      obtain ⟨q, c⟩ := p
      dsimp only at e2 hend2 ⊢
      have hw2 : wdStep x b i j (q, c) = (q.set (i + j) (addF (addF (x * b.getD j 0) (q.getD (i + j) 0) 0#64).1 c 0#64).1, hiF x (b.getD j 0) + (addF (x * b.getD j 0) (q.getD (i + j) 0) 0#64).2 + (addF (addF (x * b.getD j 0) (q.getD (i + j) 0) 0#64).1 c 0#64).2) := rfl
      have hz : (0#64).toNat ≤ 1 := by decide
      repeat' first
        | refine W.seq ?_ | (refine W.regS G ?_; dsimp only) | refine SW.nil ?_ | refine thenQ_normal ?_ | refine W.skip ?_ | refine W.exit ?_ | refine thenQ_exit ?_ | refine inBlockQ_exit ?_ | refine inBlockQ_normal ?_ | refine W.block ?_
        | (apply SW.toC; refine SWcall.go True.intro ?_) | (apply SW.toOp; refine SWop.go True.intro ?_) | (apply SW.toCG; first | refine SWcall.yes True.intro ?_ | refine SWcall.no True.intro ?_) | (apply SW.toG; first | refine SWop.yes True.intro ?_ | refine SWop.no True.intro ?_)
      refine W.condZ G True.intro ?_ ?_
      all_goals intro hu
      · have hu' := of_decide_eq_true hu
        repeat' first
          | refine W.seq ?_ | (refine W.regS G ?_; dsimp only) | refine SW.nil ?_ | refine thenQ_normal ?_ | refine W.skip ?_ | refine W.exit ?_ | refine thenQ_exit ?_ | refine inBlockQ_exit ?_ | refine inBlockQ_normal ?_ | refine W.block ?_
          | (apply SW.toC; refine SWcall.go (And.intro mul64S.eq_1 add64S.eq_1) ?_) | (apply SW.toOp; refine SWop.go (And.intro mul64S.eq_1 add64S.eq_1) ?_) | (apply SW.toCG; first | refine SWcall.yes (And.intro mul64S.eq_1 add64S.eq_1) ?_ | refine SWcall.no (And.intro mul64S.eq_1 add64S.eq_1) ?_) | (apply SW.toG; first | refine SWop.yes (And.intro mul64S.eq_1 add64S.eq_1) ?_ | refine SWop.no (And.intro mul64S.eq_1 add64S.eq_1) ?_)
        refine ⟨⟨j + 1, by omega⟩, Imp.le ?_, by show _ - (j + 1) < _ - j; omega⟩
        exact sL_leZ (And.intro e2 (And.intro hw2 (And.intro mul64S.eq_1 add64S.eq_1)))
      have hu' := of_decide_eq_false hu
      obtain rfl : j = 4 := by omega
      have hh := hend2 rfl
      repeat' first
        | refine W.seq ?_ | (refine W.regS G ?_; dsimp only) | refine SW.nil ?_ | refine thenQ_normal ?_ | refine W.skip ?_ | refine W.exit ?_ | refine thenQ_exit ?_ | refine inBlockQ_exit ?_ | refine inBlockQ_normal ?_ | refine W.block ?_
        | (apply SW.toC; refine SWcall.go True.intro ?_) | (apply SW.toOp; refine SWop.go True.intro ?_) | (apply SW.toCG; first | refine SWcall.yes True.intro ?_ | refine SWcall.no True.intro ?_) | (apply SW.toG; first | refine SWop.yes True.intro ?_ | refine SWop.no True.intro ?_)
      refine Imp.le ?_
      exact sL_leZ hh
    generalize wdIn x b i 4 out = p at hr2 ⊢
    repeat' first
      | refine W.seq ?_ | (refine W.regS G ?_; dsimp only) | refine SW.nil ?_ | refine thenQ_normal ?_ | refine W.skip ?_ | refine W.exit ?_ | refine thenQ_exit ?_ | refine inBlockQ_exit ?_ | refine inBlockQ_normal ?_ | refine W.block ?_
      | (apply SW.toC; refine SWcall.go True.intro ?_) | (apply SW.toOp; refine SWop.go True.intro ?_) | (apply SW.toCG; first | refine SWcall.yes True.intro ?_ | refine SWcall.no True.intro ?_) | (apply SW.toG; first | refine SWop.yes True.intro ?_ | refine SWop.no True.intro ?_)
    refine ⟨⟨i + 1, by omega⟩, Imp.le ?_, by show _ - (i + 1) < _ - i; omega⟩
    exact sL_leZ (And.intro e hr2)
  have ht' := of_decide_eq_false ht
  obtain rfl : i = 4 := by omega
  have hh := hend rfl
  repeat' first
    | refine W.seq ?_ | (refine W.regS G ?_; dsimp only) | refine SW.nil ?_ | refine thenQ_normal ?_ | refine W.skip ?_ | refine W.exit ?_ | refine thenQ_exit ?_ | refine inBlockQ_exit ?_ | refine inBlockQ_normal ?_ | refine W.block ?_
    | (apply SW.toC; refine SWcall.go True.intro ?_) | (apply SW.toOp; refine SWop.go True.intro ?_) | (apply SW.toCG; first | refine SWcall.yes True.intro ?_ | refine SWcall.no True.intro ?_) | (apply SW.toG; first | refine SWop.yes True.intro ?_ | refine SWop.no True.intro ?_)
  refine W.ret ?_
  repeat' first
    | refine thenQ_ret ?_
    | refine inBlockQ_ret ?_
  refine fin1Z True.intro ?_
  rw [hh]
  exact leV_refl

noncomputable def AddS : FSpec := { run := fun ins => match ins with
  | [.agg 4 (.u 64 a), .agg 4 (.u 64 b)] => chk (a.length = 4) (some (.agg 4 (.u 64 (wOf (wv a + wv b))), []))
  | _ => none }
noncomputable def SubS : FSpec := { run := fun ins => match ins with
  | [.agg 4 (.u 64 a), .agg 4 (.u 64 b)] => chk (a.length = 4) (some (.agg 4 (.u 64 (wOf (wv a + B256 - wv b))), []))
  | _ => none }
noncomputable def MulS : FSpec := { run := fun ins => match ins with
  | [.agg 4 (.u 64 a), .agg 4 (.u 64 b)] => some (.agg 4 (.u 64 (wOf (wv a * wv b))), [])
  | _ => none }
theorem Mul_sound : SoundFn Try.prog glB 15 MulS.run := by
  have G := good_of (P := Try.prog) glB_ro (l := [(64, wideS)]) (by simp only [List.forall_mem_cons]; exact ⟨wide_sound, by simp⟩)
  refine soundFn_of_W G Try.func15 (by decide) rfl (by decide) ?_
  intro ins ret outs h
  unfold MulS at h
  dsimp only at h
  split at h
  rotate_left
  · cases h
  rename_i a b
  cases h
  refine ⟨by show 2 ≤ 12; decide, fun w0 ext av => ?_⟩
  rw [Try.ntmps15, st0_eq]
  have e := wide_low a b
  have l8 := wideF_len a b 4
  repeat' first
    | refine W.seq ?_ | (refine W.regS G ?_; dsimp only) | refine SW.nil ?_ | refine thenQ_normal ?_ | refine W.skip ?_ | refine W.exit ?_ | refine thenQ_exit ?_ | refine inBlockQ_exit ?_ | refine inBlockQ_normal ?_ | refine W.block ?_
    | (apply SW.toC; refine SWcall.go (And.intro wideS.eq_1 l8) ?_) | (apply SW.toOp; refine SWop.go (And.intro wideS.eq_1 l8) ?_) | (apply SW.toCG; first | refine SWcall.yes (And.intro wideS.eq_1 l8) ?_ | refine SWcall.no (And.intro wideS.eq_1 l8) ?_) | (apply SW.toG; first | refine SWop.yes (And.intro wideS.eq_1 l8) ?_ | refine SWop.no (And.intro wideS.eq_1 l8) ?_)
  refine W.ret ?_
  repeat' first
    | refine thenQ_ret ?_
    | refine inBlockQ_ret ?_
  refine fin1Z (And.intro wideS.eq_1 l8) ?_
  rw [e]
  exact leV_refl
noncomputable def OfS : FSpec := { run := fun ins => match ins with
  | [.u 64 n] => some (.agg 4 (.u 64 (wOf n.toNat)), [])
  | _ => none }
theorem Of_sound : SoundFn Try.prog glB 16 OfS.run := by
  have G := good_of (P := Try.prog) glB_ro (l := []) (by simp)
  refine soundFn_of_W G Try.func16 (by decide) rfl (by decide) ?_
  intro ins ret outs h
  unfold OfS at h
  dsimp only at h
  split at h
  rotate_left
  · cases h
  rename_i n
  cases h
  refine ⟨by show 1 ≤ 5; decide, fun w0 ext av => ?_⟩
  rw [Try.ntmps16, st0_eq]
  have e : (zeros 64 4).set 0 n = wOf n.toNat := wOf_small n
  repeat' first
    | refine W.seq ?_ | (refine W.regS G ?_; dsimp only) | refine SW.nil ?_ | refine thenQ_normal ?_ | refine W.skip ?_ | refine W.exit ?_ | refine thenQ_exit ?_ | refine inBlockQ_exit ?_ | refine inBlockQ_normal ?_ | refine W.block ?_
    | (apply SW.toC; refine SWcall.go True.intro ?_) | (apply SW.toOp; refine SWop.go True.intro ?_) | (apply SW.toCG; first | refine SWcall.yes True.intro ?_ | refine SWcall.no True.intro ?_) | (apply SW.toG; first | refine SWop.yes True.intro ?_ | refine SWop.no True.intro ?_)
  refine W.ret ?_
  repeat' first
    | refine thenQ_ret ?_
    | refine inBlockQ_ret ?_
  refine fin1Z True.intro ?_
  rw [← e]
  exact leV_refl
end Go.Vm.C01

/- What some functions of the program compute, walked through once. -/
import Derived.Test.YthjgpkaamgoodaaCE
import Derived.Test.YthjgpkaamgoodaaVd
namespace Go.Vm.C01
open Go Go.Proofs
set_option linter.unusedVariables false
set_option linter.unusedSimpArgs false
set_option maxRecDepth 100000
set_option maxHeartbeats 8000000

/-! ### comparing -/
noncomputable def nanS : FSpec := { run := fun ins => match ins with
  | [.u 64 x] => some (.b false, [])
  | _ => none }
theorem nan_sound : SoundFn Try.prog glB 94 nanS.run := by
  have G := good_of (P := Try.prog) glB_ro (l := []) (by simp)
  refine soundFn_of_W G Try.func94 (by decide) rfl (by decide) ?_
  intro ins ret outs h
  unfold nanS at h
  dsimp only at h
  split at h
  rotate_left
  · cases h
  rename_i x
  cases h
  refine ⟨by show 1 ≤ 6; decide, fun w0 ext av => ?_⟩
  rw [Try.ntmps94, st0_eq]
  have e : (!decide (x = x)) = false := by simp
  repeat' first
    | refine W.seq ?_ | (refine W.regS G ?_; dsimp only) | refine SW.nil ?_ | refine thenQ_normal ?_ | refine W.skip ?_ | refine W.exit ?_ | refine thenQ_exit ?_ | refine inBlockQ_exit ?_ | refine inBlockQ_normal ?_ | refine W.block ?_
    | (apply SW.toC; refine SWcall.go e ?_) | (apply SW.toOp; refine SWop.go e ?_) | (apply SW.toCG; first | refine SWcall.yes e ?_ | refine SWcall.no e ?_) | (apply SW.toG; first | refine SWop.yes e ?_ | refine SWop.no e ?_)
  refine W.ret ?_
  repeat' first
    | refine thenQ_ret ?_
    | refine inBlockQ_ret ?_
  refine fin1Z e ?_
  exact leV_refl
def cmpB (x y : BitVec 64) : Int := if x < y then -1 else if y < x then 1 else 0
noncomputable def cmpS : FSpec := { run := fun ins => match ins with
  | [.u 64 x, .u 64 y] => some (.i (cmpB x y), [])
  | _ => none }
theorem cmp_sound : SoundFn Try.prog glB 89 cmpS.run := by
  have G := good_of (P := Try.prog) glB_ro (l := [(94, nanS)]) (by simp only [List.forall_mem_cons]; exact ⟨nan_sound, by simp⟩)
  refine soundFn_of_W G Try.func89 (by decide) rfl (by decide) ?_
  intro ins ret outs h
  unfold cmpS at h
  dsimp only at h
  split at h
  rotate_left
  · cases h
  rename_i x y
  cases h
  refine ⟨by show 2 ≤ 20; decide, fun w0 ext av => ?_⟩
  rw [Try.ntmps89, st0_eq]
  have hc : cmpB x y = if x < y then -1 else if y < x then 1 else 0 := rfl
  repeat' first
    | refine W.seq ?_ | (refine W.regS G ?_; dsimp only) | refine SW.nil ?_ | refine thenQ_normal ?_ | refine W.skip ?_ | refine W.exit ?_ | refine thenQ_exit ?_ | refine inBlockQ_exit ?_ | refine inBlockQ_normal ?_ | refine W.block ?_
    | (apply SW.toC; refine SWcall.go nanS.eq_1 ?_) | (apply SW.toOp; refine SWop.go nanS.eq_1 ?_) | (apply SW.toCG; first | refine SWcall.yes nanS.eq_1 ?_ | refine SWcall.no nanS.eq_1 ?_) | (apply SW.toG; first | refine SWop.yes nanS.eq_1 ?_ | refine SWop.no nanS.eq_1 ?_)
  refine W.condZ G nanS.eq_1 ?_ ?_
  all_goals intro h1
  · exact absurd h1 (by decide)
  repeat' first
    | refine W.seq ?_ | (refine W.regS G ?_; dsimp only) | refine SW.nil ?_ | refine thenQ_normal ?_ | refine W.skip ?_ | refine W.exit ?_ | refine thenQ_exit ?_ | refine inBlockQ_exit ?_ | refine inBlockQ_normal ?_ | refine W.block ?_
    | (apply SW.toC; refine SWcall.go nanS.eq_1 ?_) | (apply SW.toOp; refine SWop.go nanS.eq_1 ?_) | (apply SW.toCG; first | refine SWcall.yes nanS.eq_1 ?_ | refine SWcall.no nanS.eq_1 ?_) | (apply SW.toG; first | refine SWop.yes nanS.eq_1 ?_ | refine SWop.no nanS.eq_1 ?_)
  refine W.condZ G nanS.eq_1 ?_ ?_
  all_goals intro h2
  · exact absurd h2 (by decide)
  repeat' first
    | refine W.seq ?_ | (refine W.regS G ?_; dsimp only) | refine SW.nil ?_ | refine thenQ_normal ?_ | refine W.skip ?_ | refine W.exit ?_ | refine thenQ_exit ?_ | refine inBlockQ_exit ?_ | refine inBlockQ_normal ?_ | refine W.block ?_
    | (apply SW.toC; refine SWcall.go nanS.eq_1 ?_) | (apply SW.toOp; refine SWop.go nanS.eq_1 ?_) | (apply SW.toCG; first | refine SWcall.yes nanS.eq_1 ?_ | refine SWcall.no nanS.eq_1 ?_) | (apply SW.toG; first | refine SWop.yes nanS.eq_1 ?_ | refine SWop.no nanS.eq_1 ?_)
  refine W.condZ G nanS.eq_1 ?_ ?_
  all_goals intro h3
  · have h3' := of_decide_eq_true h3
    rw [if_pos h3'] at hc
    repeat' first
      | refine W.seq ?_ | (refine W.regS G ?_; dsimp only) | refine SW.nil ?_ | refine thenQ_normal ?_ | refine W.skip ?_ | refine W.exit ?_ | refine thenQ_exit ?_ | refine inBlockQ_exit ?_ | refine inBlockQ_normal ?_ | refine W.block ?_
      | (apply SW.toC; refine SWcall.go nanS.eq_1 ?_) | (apply SW.toOp; refine SWop.go nanS.eq_1 ?_) | (apply SW.toCG; first | refine SWcall.yes nanS.eq_1 ?_ | refine SWcall.no nanS.eq_1 ?_) | (apply SW.toG; first | refine SWop.yes nanS.eq_1 ?_ | refine SWop.no nanS.eq_1 ?_)
    refine W.ret ?_
    repeat' first
      | refine thenQ_ret ?_
      | refine inBlockQ_ret ?_
    refine fin1Z nanS.eq_1 ?_
    rw [hc]
    exact leV_refl
  have h3' := of_decide_eq_false h3
  rw [if_neg h3'] at hc
  repeat' first
    | refine W.seq ?_ | (refine W.regS G ?_; dsimp only) | refine SW.nil ?_ | refine thenQ_normal ?_ | refine W.skip ?_ | refine W.exit ?_ | refine thenQ_exit ?_ | refine inBlockQ_exit ?_ | refine inBlockQ_normal ?_ | refine W.block ?_
    | (apply SW.toC; refine SWcall.go nanS.eq_1 ?_) | (apply SW.toOp; refine SWop.go nanS.eq_1 ?_) | (apply SW.toCG; first | refine SWcall.yes nanS.eq_1 ?_ | refine SWcall.no nanS.eq_1 ?_) | (apply SW.toG; first | refine SWop.yes nanS.eq_1 ?_ | refine SWop.no nanS.eq_1 ?_)
  refine W.condZ G nanS.eq_1 ?_ ?_
  all_goals intro h4
  · have h4' := of_decide_eq_true h4
    rw [if_pos h4'] at hc
    repeat' first
      | refine W.seq ?_ | (refine W.regS G ?_; dsimp only) | refine SW.nil ?_ | refine thenQ_normal ?_ | refine W.skip ?_ | refine W.exit ?_ | refine thenQ_exit ?_ | refine inBlockQ_exit ?_ | refine inBlockQ_normal ?_ | refine W.block ?_
      | (apply SW.toC; refine SWcall.go nanS.eq_1 ?_) | (apply SW.toOp; refine SWop.go nanS.eq_1 ?_) | (apply SW.toCG; first | refine SWcall.yes nanS.eq_1 ?_ | refine SWcall.no nanS.eq_1 ?_) | (apply SW.toG; first | refine SWop.yes nanS.eq_1 ?_ | refine SWop.no nanS.eq_1 ?_)
    refine W.ret ?_
    repeat' first
      | refine thenQ_ret ?_
      | refine inBlockQ_ret ?_
    refine fin1Z nanS.eq_1 ?_
    rw [hc]
    exact leV_refl
  have h4' := of_decide_eq_false h4
  rw [if_neg h4'] at hc
  repeat' first
    | refine W.seq ?_ | (refine W.regS G ?_; dsimp only) | refine SW.nil ?_ | refine thenQ_normal ?_ | refine W.skip ?_ | refine W.exit ?_ | refine thenQ_exit ?_ | refine inBlockQ_exit ?_ | refine inBlockQ_normal ?_ | refine W.block ?_
    | (apply SW.toC; refine SWcall.go nanS.eq_1 ?_) | (apply SW.toOp; refine SWop.go nanS.eq_1 ?_) | (apply SW.toCG; first | refine SWcall.yes nanS.eq_1 ?_ | refine SWcall.no nanS.eq_1 ?_) | (apply SW.toG; first | refine SWop.yes nanS.eq_1 ?_ | refine SWop.no nanS.eq_1 ?_)
  refine W.ret ?_
  repeat' first
    | refine thenQ_ret ?_
    | refine inBlockQ_ret ?_
  refine fin1Z nanS.eq_1 ?_
  rw [hc]
  exact leV_refl
def cmpI (x y : Nat) : Int := if x < y then -1 else if y < x then 1 else 0
def cw (a b : List (BitVec 64)) : Nat → Int
  | 0 => 0
  | k + 1 => if cmpB (a.getD k 0) (b.getD k 0) = 0 then cw a b k else cmpB (a.getD k 0) (b.getD k 0)
theorem cmpI_add (m n p : Nat) : cmpI (m + p) (n + p) = cmpI m n := by unfold cmpI; simp only [Nat.add_lt_add_iff_right]
theorem cw_val (a b : List (BitVec 64)) : ∀ k, cw a b k = cmpI (wvk a k) (wvk b k)
  | 0 => by simp [cw, cmpI, wvk]
  | k + 1 => by
    have ih := cw_val a b k
    have h1 := wvk_lt a k
    have h2 := wvk_lt b k
    simp only [cw, wvk]
    rw [ih]
    have hl : ∀ x y, (x : BitVec 64) < y → B64 ^ k * x.toNat + B64 ^ k ≤ B64 ^ k * y.toNat := fun x y h => by
      rw [← Nat.mul_succ]
      exact Nat.mul_le_mul_left _ h
    generalize a.getD k 0 = x at *
    generalize b.getD k 0 = y at *
    unfold cmpB cmpI
    rcases Nat.lt_trichotomy x.toNat y.toNat with h | h | h
    · have := hl x y h
      rw [if_pos (show x < y from h), if_neg (by decide), if_pos (by omega)]
    · have hxy : ¬ x < y := fun (c : x.toNat < y.toNat) => by omega
      have hyx : ¬ y < x := fun (c : y.toNat < x.toNat) => by omega
      have hc : (if x < y then -1 else if y < x then 1 else 0 : Int) = 0 := by rw [if_neg hxy, if_neg hyx]
      rw [hc, if_pos rfl, h]
      exact (cmpI_add _ _ _).symm
    · have := hl y x h
      have hxy : ¬ x < y := fun (c : x.toNat < y.toNat) => by omega
      rw [if_neg hxy, if_pos (show y < x from h), if_neg (by decide), if_neg (by omega), if_pos (by omega)]
noncomputable def cmprS : FSpec := { run := fun ins => match ins with
  | [.agg 4 (.u 64 a), .agg 4 (.u 64 b)] => some (.i (cmpI (wv a) (wv b)), [])
  | _ => none }
theorem cmpr_sound : SoundFn Try.prog glB 69 cmprS.run := by
  have G := good_of (P := Try.prog) glB_ro (l := [(89, cmpS)]) (by simp only [List.forall_mem_cons]; exact ⟨cmp_sound, by simp⟩)
  refine soundFn_of_W G Try.func69 (by decide) rfl (by decide) ?_
  intro ins ret outs h
  unfold cmprS at h
  dsimp only at h
  split at h
  rotate_left
  · cases h
  rename_i a b
  cases h
  refine ⟨by show 2 ≤ 21; decide, fun w0 ext av => ?_⟩
  rw [Try.ntmps69, st0_eq]
  have hv : cmpI (wv a) (wv b) = cw a b 4 := (cw_val a b 4).symm
  rw [hv]
  repeat' first
    | refine W.seq ?_ | (refine W.regS G ?_; dsimp only) | refine SW.nil ?_ | refine thenQ_normal ?_ | refine W.skip ?_ | refine W.exit ?_ | refine thenQ_exit ?_ | refine inBlockQ_exit ?_ | refine inBlockQ_normal ?_ | refine W.block ?_
    | (apply SW.toC; refine SWcall.go True.intro ?_) | (apply SW.toOp; refine SWop.go True.intro ?_) | (apply SW.toCG; first | refine SWcall.yes True.intro ?_ | refine SWcall.no True.intro ?_) | (apply SW.toG; first | refine SWop.yes True.intro ?_ | refine SWop.no True.intro ?_)
  refine W.loopI (ι := {k : Nat // k ≤ 4 ∧ cw a b 4 = cw a b k}) (fun k => sL [(2, .p 2 0 0 0), (3, .p 3 0 0 0), (5, .i ((k.1 : Int) - 1))] [(2, .agg 4 (.u 64 a)), (3, .agg 4 (.u 64 b))] 21) (fun k => k.1) ⟨4, Nat.le_refl _, rfl⟩ (Imp.le ?_) ?_
  · exact sL_leZ True.intro
  rintro ⟨k, hk, hR⟩
  repeat' first
    | refine W.seq ?_ | (refine W.regS G ?_; dsimp only) | refine SW.nil ?_ | refine thenQ_normal ?_ | refine W.skip ?_ | refine W.exit ?_ | refine thenQ_exit ?_ | refine inBlockQ_exit ?_ | refine inBlockQ_normal ?_ | refine W.block ?_
    | (apply SW.toC; refine SWcall.go True.intro ?_) | (apply SW.toOp; refine SWop.go True.intro ?_) | (apply SW.toCG; first | refine SWcall.yes True.intro ?_ | refine SWcall.no True.intro ?_) | (apply SW.toG; first | refine SWop.yes True.intro ?_ | refine SWop.no True.intro ?_)
  refine W.condZ G True.intro ?_ ?_
  all_goals intro ht
  · have ht' := of_decide_eq_true ht
    obtain ⟨j, rfl⟩ : ∃ j, k = j + 1 := ⟨k - 1, by omega⟩
    have ej : (((j + 1 : Nat) : Int) - 1) = (j : Int) := by omega
    have hS : cw a b (j + 1) = if cmpB (a.getD j 0) (b.getD j 0) = 0 then cw a b j else cmpB (a.getD j 0) (b.getD j 0) := rfl
    have hr : -1 ≤ cmpB (a.getD j 0) (b.getD j 0) ∧ cmpB (a.getD j 0) (b.getD j 0) ≤ 1 := by unfold cmpB; split <;> (try split) <;> omega
    repeat' first
      | refine W.seq ?_ | (refine W.regS G ?_; dsimp only) | refine SW.nil ?_ | refine thenQ_normal ?_ | refine W.skip ?_ | refine W.exit ?_ | refine thenQ_exit ?_ | refine inBlockQ_exit ?_ | refine inBlockQ_normal ?_
      | (apply SW.toC; refine SWcall.go (And.intro ej cmpS.eq_1) ?_) | (apply SW.toOp; refine SWop.go (And.intro ej cmpS.eq_1) ?_) | (apply SW.toCG; first | refine SWcall.yes (And.intro ej cmpS.eq_1) ?_ | refine SWcall.no (And.intro ej cmpS.eq_1) ?_) | (apply SW.toG; first | refine SWop.yes (And.intro ej cmpS.eq_1) ?_ | refine SWop.no (And.intro ej cmpS.eq_1) ?_)
    refine W.block ?_
    repeat' first
      | refine W.seq ?_ | (refine W.regS G ?_; dsimp only) | refine SW.nil ?_ | refine thenQ_normal ?_ | refine W.skip ?_ | refine W.exit ?_ | refine thenQ_exit ?_ | refine inBlockQ_exit ?_ | refine inBlockQ_normal ?_
      | (apply SW.toC; refine SWcall.go (And.intro ej cmpS.eq_1) ?_) | (apply SW.toOp; refine SWop.go (And.intro ej cmpS.eq_1) ?_) | (apply SW.toCG; first | refine SWcall.yes (And.intro ej cmpS.eq_1) ?_ | refine SWcall.no (And.intro ej cmpS.eq_1) ?_) | (apply SW.toG; first | refine SWop.yes (And.intro ej cmpS.eq_1) ?_ | refine SWop.no (And.intro ej cmpS.eq_1) ?_)
    refine W.drawS G [[], [0], [1, 0], [], [3], [4, 3], [2, 1, 0, 5, 4, 3], [6, 2, 1, 0, 5, 4, 3]] hmix ?_
    dsimp only
    repeat' first
      | (apply DW.nil; (focus (decide +kernel)))
      | (apply DW.toC; refine DWcall.go (And.intro ej cmpS.eq_1) ?_) | (apply DW.toOp; refine DWop.go (And.intro ej cmpS.eq_1) ?_) | (apply DW.toCG; first | refine DWcall.yes (And.intro ej cmpS.eq_1) ?_ | refine DWcall.no (And.intro ej cmpS.eq_1) ?_) | (apply DW.toG; first | refine DWop.yes (And.intro ej cmpS.eq_1) ?_ | refine DWop.no (And.intro ej cmpS.eq_1) ?_)
    generalize cmpB (a.getD j 0) (b.getD j 0) = c at hS hr ⊢
    repeat' first
      | refine W.seq ?_ | (refine W.regS G ?_; dsimp only) | refine SW.nil ?_ | refine thenQ_normal ?_ | refine W.skip ?_ | refine W.exit ?_ | refine thenQ_exit ?_ | refine inBlockQ_exit ?_ | refine inBlockQ_normal ?_ | refine W.block ?_
      | (apply SW.toC; refine SWcall.go (And.intro ej cmpS.eq_1) ?_) | (apply SW.toOp; refine SWop.go (And.intro ej cmpS.eq_1) ?_) | (apply SW.toCG; first | refine SWcall.yes (And.intro ej cmpS.eq_1) ?_ | refine SWcall.no (And.intro ej cmpS.eq_1) ?_) | (apply SW.toG; first | refine SWop.yes (And.intro ej cmpS.eq_1) ?_ | refine SWop.no (And.intro ej cmpS.eq_1) ?_)
    refine W.condZ G (And.intro ej cmpS.eq_1) ?_ ?_
    all_goals intro hc
    · have hne : ¬ c = 0 := ne_of_nd hc
      rw [if_neg hne] at hS
      repeat' first
        | refine W.seq ?_ | (refine W.regS G ?_; dsimp only) | refine SW.nil ?_ | refine thenQ_normal ?_ | refine W.skip ?_ | refine W.exit ?_ | refine thenQ_exit ?_ | refine inBlockQ_exit ?_ | refine inBlockQ_normal ?_ | refine W.block ?_
        | (apply SW.toC; refine SWcall.go (And.intro ej cmpS.eq_1) ?_) | (apply SW.toOp; refine SWop.go (And.intro ej cmpS.eq_1) ?_) | (apply SW.toCG; first | refine SWcall.yes (And.intro ej cmpS.eq_1) ?_ | refine SWcall.no (And.intro ej cmpS.eq_1) ?_) | (apply SW.toG; first | refine SWop.yes (And.intro ej cmpS.eq_1) ?_ | refine SWop.no (And.intro ej cmpS.eq_1) ?_)
      refine W.ret ?_
      repeat' first
        | refine thenQ_ret ?_
        | refine inBlockQ_ret ?_
      refine fin1Z (And.intro ej cmpS.eq_1) ?_
      rw [hR, hS]
      exact leV_refl
    · have he : c = 0 := eq_of_nd hc
      rw [if_pos he] at hS
      repeat' first
        | refine W.seq ?_ | (refine W.regS G ?_; dsimp only) | refine SW.nil ?_ | refine thenQ_normal ?_ | refine W.skip ?_ | refine W.exit ?_ | refine thenQ_exit ?_ | refine inBlockQ_exit ?_ | refine inBlockQ_normal ?_ | refine W.block ?_
        | (apply SW.toC; refine SWcall.go (And.intro ej cmpS.eq_1) ?_) | (apply SW.toOp; refine SWop.go (And.intro ej cmpS.eq_1) ?_) | (apply SW.toCG; first | refine SWcall.yes (And.intro ej cmpS.eq_1) ?_ | refine SWcall.no (And.intro ej cmpS.eq_1) ?_) | (apply SW.toG; first | refine SWop.yes (And.intro ej cmpS.eq_1) ?_ | refine SWop.no (And.intro ej cmpS.eq_1) ?_)
      refine ⟨⟨j, by omega, hR.trans hS⟩, Imp.le ?_, by show j < j + 1; omega⟩
      exact sL_leZ (And.intro ej cmpS.eq_1)
  have ht' := of_decide_eq_false ht
  obtain rfl : k = 0 := by omega
  have z : cw a b 0 = 0 := rfl
  repeat' first
    | refine W.seq ?_ | (refine W.regS G ?_; dsimp only) | refine SW.nil ?_ | refine thenQ_normal ?_ | refine W.skip ?_ | refine W.exit ?_ | refine thenQ_exit ?_ | refine inBlockQ_exit ?_ | refine inBlockQ_normal ?_ | refine W.block ?_
    | (apply SW.toC; refine SWcall.go True.intro ?_) | (apply SW.toOp; refine SWop.go True.intro ?_) | (apply SW.toCG; first | refine SWcall.yes True.intro ?_ | refine SWcall.no True.intro ?_) | (apply SW.toG; first | refine SWop.yes True.intro ?_ | refine SWop.no True.intro ?_)
  refine W.ret ?_
  repeat' first
    | refine thenQ_ret ?_
    | refine inBlockQ_ret ?_
  refine fin1Z True.intro ?_
  rw [hR, z]
  exact leV_refl
noncomputable def CmpS : FSpec := { run := fun ins => match ins with
  | [.agg 4 (.u 64 a), .agg 4 (.u 64 b)] => some (.i (cmpI (wv a) (wv b)), [])
  | _ => none }
theorem Cmp_sound : SoundFn Try.prog glB 31 CmpS.run := by
  have G := good_of (P := Try.prog) glB_ro (l := [(69, cmprS)]) (by simp only [List.forall_mem_cons]; exact ⟨cmpr_sound, by simp⟩)
  refine soundFn_of_W G Try.func31 (by decide) rfl (by decide) ?_
  intro ins ret outs h
  unfold CmpS at h
  dsimp only at h
  split at h
  rotate_left
  · cases h
  rename_i a b
  cases h
  refine ⟨by show 2 ≤ 8; decide, fun w0 ext av => ?_⟩
  rw [Try.ntmps31, st0_eq]
  have hr : -1 ≤ cmpI (wv a) (wv b) ∧ cmpI (wv a) (wv b) ≤ 1 := by unfold cmpI; split <;> (try split) <;> omega
  repeat' first
    | refine W.seq ?_ | (refine W.regS G ?_; dsimp only) | refine SW.nil ?_ | refine thenQ_normal ?_ | refine W.skip ?_ | refine W.exit ?_ | refine thenQ_exit ?_ | refine inBlockQ_exit ?_ | refine inBlockQ_normal ?_ | refine W.block ?_
    | (apply SW.toC; refine SWcall.go cmprS.eq_1 ?_) | (apply SW.toOp; refine SWop.go cmprS.eq_1 ?_) | (apply SW.toCG; first | refine SWcall.yes cmprS.eq_1 ?_ | refine SWcall.no cmprS.eq_1 ?_) | (apply SW.toG; first | refine SWop.yes cmprS.eq_1 ?_ | refine SWop.no cmprS.eq_1 ?_)
  refine W.ret ?_
  repeat' first
    | refine thenQ_ret ?_
    | refine inBlockQ_ret ?_
  refine fin1Z cmprS.eq_1 ?_
  exact leV_refl
end Go.Vm.C01

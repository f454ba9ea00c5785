/- What some functions of the program compute, walked through once. -/
import Derived.Test.YthjgpkaamgoodaaCQ0
import Derived.Test.YthjgpkaamgoodaaCP
namespace Go.Vm.C01
open Go Go.Proofs
set_option linter.unusedVariables false
set_option linter.unusedSimpArgs false
set_option maxRecDepth 100000
set_option maxHeartbeats 8000000

noncomputable def ordersS : FSpec := { run := fun ins => match ins with
  | [.agg 4 (.u 64 a), .agg 4 (.u 64 b), .agg 4 (.u 64 c)] => chk (a.length = 4 ∧ b.length = 4 ∧ c.length = 4) (some (.b true, []))
  | _ => none }
/-- comparing, by an order that is not told -/
noncomputable def ordS (F : List (BitVec 64) → List (BitVec 64) → Int) : FSpec := { run := fun ins => match ins with
  | [.agg 4 (.u 64 a), .agg 4 (.u 64 b)] => chk (a.length = 4 ∧ b.length = 4) (some (.i (F a b), []))
  | _ => none }
theorem ord_of {f : Nat} {S : FSpec} {F : List (BitVec 64) → List (BitVec 64) → Int} (h : SoundFn Try.prog glB f S.run) (hs : ∀ a b, a.length = 4 → b.length = 4 → S.run [.agg 4 (.u 64 a), .agg 4 (.u 64 b)] = some (.i (F a b), [])) : SoundFn Try.prog glB f (ordS F).run := by
  intro ins ret outs h'
  unfold ordS at h'
  dsimp only at h'
  split at h'
  rotate_left
  · cases h'
  rename_i a b
  obtain ⟨hl, h2⟩ := chk_some h'
  exact h _ _ _ ((hs a b hl.1 hl.2).trans h2)
/-- an order either way -/
structure Ord (F : List (BitVec 64) → List (BitVec 64) → Int) : Prop where
  range : ∀ a b, -1 ≤ F a b ∧ F a b ≤ 1
  neg : ∀ a b, F b a = -F a b
  zero : ∀ a b, a.length = 4 → b.length = 4 → (F a b = 0 ↔ a = b)
  trans : ∀ a b c, F b c = F a b → F a c = F a b
theorem ord1 : Ord (fun a b => cmpI (wv a) (wv b)) := ⟨fun a b => cmpI_range _ _, fun a b => cmpI_neg _ _, fun a b la lb => ⟨fun h => wv_inj la lb ((cmpI_zero _ _).1 h), fun h => by rw [h]; exact (cmpI_zero _ _).2 rfl⟩, fun a b c h => cmpI_trans _ _ _ h⟩
theorem ord2 : Ord (fun a b => cmpI (sg a) (sg b)) := ⟨fun a b => cmpI_range _ _, fun a b => cmpI_neg _ _, fun a b la lb => ⟨fun h => sg_inj la lb ((cmpI_zero _ _).1 h), fun h => by rw [h]; exact (cmpI_zero _ _).2 rfl⟩, fun a b c h => cmpI_trans _ _ _ h⟩
theorem orders_any (F S : List (BitVec 64) → List (BitVec 64) → Int) (o1 : Ord F) (o2 : Ord S) (s31 : SoundFn Try.prog glB 31 (ordS F).run) (s33 : SoundFn Try.prog glB 33 (ordS F).run) (s32 : SoundFn Try.prog glB 32 (ordS S).run) (s34 : SoundFn Try.prog glB 34 (ordS S).run) : SoundFn Try.prog glB 5 ordersS.run := by
  have G := good_of (P := Try.prog) glB_ro (l := [(31, ordS F), (32, ordS S), (33, ordS F), (34, ordS S), (19, livesS)]) (by simp only [List.forall_mem_cons]; exact ⟨s31, s32, s33, s34, lives_sound, by simp⟩)
  refine soundFn_of_W G Try.func5 (by decide) rfl (by decide) ?_
  intro ins ret outs h
  unfold ordersS at h
  dsimp only at h
  split at h
  rotate_left
  · cases h
  rename_i a b c
  obtain ⟨hl, h'⟩ := chk_some h
  clear h
  cases h'
  obtain ⟨la, lb, lc⟩ := hl
  refine ⟨by show 3 ≤ 86; decide, fun w0 ext av => ?_⟩
  rw [Try.ntmps5, st0_eq]
  have f1 := o1.neg a b
  have f2 := o2.neg a b
  have f3' : decide (F a b = 0) = decide (a = b) := decide_eq_decide.2 (o1.zero a b la lb)
  have f4' : decide (S a b = 0) = decide (a = b) := decide_eq_decide.2 (o2.zero a b la lb)
  have g1 := o1.range a b
  have g2 := o2.range a b
  have t1 := o1.trans a b c
  have t2 := o2.trans a b c
  obtain ⟨d, f7⟩ : ∃ d, ∀ i : Decidable (a = b), @decide (a = b) i = d := ⟨decide (a = b), fun i => by congr⟩
  have f8 : (!(d == d)) = false := by cases d <;> rfl
  have f3 := f3'.trans (f7 _)
  have f4 := f4'.trans (f7 _)
  clear f3' f4'
  have f9 : @decide (a = b) (instDecidableEqList a (castL rfl b)) = d := f7 _
  generalize hq : (F b c = F a b → F a c = F a b) = Q1 at t1
  generalize hq2 : (S b c = S a b → S a c = S a b) = Q2 at t2
  repeat' first
    | refine W.seq ?_ | (refine W.regS G ?_; dsimp only) | refine SW.nil ?_ | refine thenQ_normal ?_ | refine W.skip ?_ | refine W.exit ?_ | refine thenQ_exit ?_ | refine inBlockQ_exit ?_ | refine inBlockQ_normal ?_
    | (apply SW.toC; refine SWcall.go (And.intro ordS.eq_1 (And.intro livesS.eq_1 (And.intro la (And.intro lb (And.intro lc (And.intro f1 (And.intro f2 (And.intro f3 (And.intro f4 (And.intro f9 f8)))))))))) ?_) | (apply SW.toOp; refine SWop.go (And.intro ordS.eq_1 (And.intro livesS.eq_1 (And.intro la (And.intro lb (And.intro lc (And.intro f1 (And.intro f2 (And.intro f3 (And.intro f4 (And.intro f9 f8)))))))))) ?_) | (apply SW.toCG; first | refine SWcall.yes (And.intro ordS.eq_1 (And.intro livesS.eq_1 (And.intro la (And.intro lb (And.intro lc (And.intro f1 (And.intro f2 (And.intro f3 (And.intro f4 (And.intro f9 f8)))))))))) ?_ | refine SWcall.no (And.intro ordS.eq_1 (And.intro livesS.eq_1 (And.intro la (And.intro lb (And.intro lc (And.intro f1 (And.intro f2 (And.intro f3 (And.intro f4 (And.intro f9 f8)))))))))) ?_) | (apply SW.toG; first | refine SWop.yes (And.intro ordS.eq_1 (And.intro livesS.eq_1 (And.intro la (And.intro lb (And.intro lc (And.intro f1 (And.intro f2 (And.intro f3 (And.intro f4 (And.intro f9 f8)))))))))) ?_ | refine SWop.no (And.intro ordS.eq_1 (And.intro livesS.eq_1 (And.intro la (And.intro lb (And.intro lc (And.intro f1 (And.intro f2 (And.intro f3 (And.intro f4 (And.intro f9 f8)))))))))) ?_)
  refine W.drawS G [[], [], [0, 1], [], [], [3, 4, 2, 0, 1], [2, 0, 1, 5, 3, 4], [5, 3, 4, 2, 0, 1, 6]] hmix ?_
  dsimp only
  repeat' first
    | (apply DW.nil; (focus (decide +kernel)))
    | (apply DW.toC; refine DWcall.go (And.intro ordS.eq_1 (And.intro livesS.eq_1 (And.intro la (And.intro lb (And.intro lc (And.intro f1 (And.intro f2 (And.intro f3 (And.intro f4 (And.intro f9 f8)))))))))) ?_) | (apply DW.toOp; refine DWop.go (And.intro ordS.eq_1 (And.intro livesS.eq_1 (And.intro la (And.intro lb (And.intro lc (And.intro f1 (And.intro f2 (And.intro f3 (And.intro f4 (And.intro f9 f8)))))))))) ?_) | (apply DW.toCG; first | refine DWcall.yes (And.intro ordS.eq_1 (And.intro livesS.eq_1 (And.intro la (And.intro lb (And.intro lc (And.intro f1 (And.intro f2 (And.intro f3 (And.intro f4 (And.intro f9 f8)))))))))) ?_ | refine DWcall.no (And.intro ordS.eq_1 (And.intro livesS.eq_1 (And.intro la (And.intro lb (And.intro lc (And.intro f1 (And.intro f2 (And.intro f3 (And.intro f4 (And.intro f9 f8)))))))))) ?_) | (apply DW.toG; first | refine DWop.yes (And.intro ordS.eq_1 (And.intro livesS.eq_1 (And.intro la (And.intro lb (And.intro lc (And.intro f1 (And.intro f2 (And.intro f3 (And.intro f4 (And.intro f9 f8)))))))))) ?_ | refine DWop.no (And.intro ordS.eq_1 (And.intro livesS.eq_1 (And.intro la (And.intro lb (And.intro lc (And.intro f1 (And.intro f2 (And.intro f3 (And.intro f4 (And.intro f9 f8)))))))))) ?_)
  repeat' first
    | refine W.seq ?_ | (refine W.regS G ?_; dsimp only) | refine SW.nil ?_ | refine thenQ_normal ?_ | refine W.skip ?_ | refine W.exit ?_ | refine thenQ_exit ?_ | refine inBlockQ_exit ?_ | refine inBlockQ_normal ?_ | refine W.block ?_
    | (apply SW.toC; refine SWcall.go (And.intro ordS.eq_1 (And.intro livesS.eq_1 (And.intro la (And.intro lb (And.intro lc (And.intro f1 (And.intro f2 (And.intro f3 (And.intro f4 (And.intro f9 f8)))))))))) ?_) | (apply SW.toOp; refine SWop.go (And.intro ordS.eq_1 (And.intro livesS.eq_1 (And.intro la (And.intro lb (And.intro lc (And.intro f1 (And.intro f2 (And.intro f3 (And.intro f4 (And.intro f9 f8)))))))))) ?_) | (apply SW.toCG; first | refine SWcall.yes (And.intro ordS.eq_1 (And.intro livesS.eq_1 (And.intro la (And.intro lb (And.intro lc (And.intro f1 (And.intro f2 (And.intro f3 (And.intro f4 (And.intro f9 f8)))))))))) ?_ | refine SWcall.no (And.intro ordS.eq_1 (And.intro livesS.eq_1 (And.intro la (And.intro lb (And.intro lc (And.intro f1 (And.intro f2 (And.intro f3 (And.intro f4 (And.intro f9 f8)))))))))) ?_) | (apply SW.toG; first | refine SWop.yes (And.intro ordS.eq_1 (And.intro livesS.eq_1 (And.intro la (And.intro lb (And.intro lc (And.intro f1 (And.intro f2 (And.intro f3 (And.intro f4 (And.intro f9 f8)))))))))) ?_ | refine SWop.no (And.intro ordS.eq_1 (And.intro livesS.eq_1 (And.intro la (And.intro lb (And.intro lc (And.intro f1 (And.intro f2 (And.intro f3 (And.intro f4 (And.intro f9 f8)))))))))) ?_)
  refine W.condZ G (And.intro ordS.eq_1 (And.intro livesS.eq_1 (And.intro la (And.intro lb (And.intro lc (And.intro f1 (And.intro f2 (And.intro f3 (And.intro f4 (And.intro f9 f8)))))))))) ?_ ?_
  all_goals intro k1
  · exact absurd k1 (by decide)
  subst hq
  subst hq2
  by_cases q1 : F b c = F a b
  · have d1 := decide_eq_true q1
    have z1 := t1 q1
    by_cases q2 : S b c = S a b
    · have d2 := decide_eq_true q2
      have z2 := t2 q2
      clear t1 t2
      repeat' first
        | refine W.seq ?_ | (refine W.regS G ?_; dsimp only) | refine SW.nil ?_ | refine thenQ_normal ?_ | refine W.skip ?_ | refine W.exit ?_ | refine thenQ_exit ?_ | refine inBlockQ_exit ?_ | refine inBlockQ_normal ?_ | refine W.block ?_
        | (apply SW.toC; refine SWcall.go (And.intro ordS.eq_1 (And.intro livesS.eq_1 (And.intro la (And.intro lb (And.intro lc (And.intro d1 (And.intro z1 (And.intro d2 z2)))))))) ?_) | (apply SW.toOp; refine SWop.go (And.intro ordS.eq_1 (And.intro livesS.eq_1 (And.intro la (And.intro lb (And.intro lc (And.intro d1 (And.intro z1 (And.intro d2 z2)))))))) ?_) | (apply SW.toCG; first | refine SWcall.yes (And.intro ordS.eq_1 (And.intro livesS.eq_1 (And.intro la (And.intro lb (And.intro lc (And.intro d1 (And.intro z1 (And.intro d2 z2)))))))) ?_ | refine SWcall.no (And.intro ordS.eq_1 (And.intro livesS.eq_1 (And.intro la (And.intro lb (And.intro lc (And.intro d1 (And.intro z1 (And.intro d2 z2)))))))) ?_) | (apply SW.toG; first | refine SWop.yes (And.intro ordS.eq_1 (And.intro livesS.eq_1 (And.intro la (And.intro lb (And.intro lc (And.intro d1 (And.intro z1 (And.intro d2 z2)))))))) ?_ | refine SWop.no (And.intro ordS.eq_1 (And.intro livesS.eq_1 (And.intro la (And.intro lb (And.intro lc (And.intro d1 (And.intro z1 (And.intro d2 z2)))))))) ?_)
      refine W.condZ G (And.intro ordS.eq_1 (And.intro livesS.eq_1 (And.intro la (And.intro lb (And.intro lc (And.intro d1 (And.intro z1 (And.intro d2 z2)))))))) ?_ ?_
      all_goals intro k2
      · exact absurd k2 (by decide)
      repeat' first
        | refine W.seq ?_ | (refine W.regS G ?_; dsimp only) | refine SW.nil ?_ | refine thenQ_normal ?_ | refine W.skip ?_ | refine W.exit ?_ | refine thenQ_exit ?_ | refine inBlockQ_exit ?_ | refine inBlockQ_normal ?_ | refine W.block ?_
        | (apply SW.toC; refine SWcall.go (And.intro ordS.eq_1 (And.intro livesS.eq_1 (And.intro la (And.intro lb (And.intro lc (And.intro d1 (And.intro z1 (And.intro d2 z2)))))))) ?_) | (apply SW.toOp; refine SWop.go (And.intro ordS.eq_1 (And.intro livesS.eq_1 (And.intro la (And.intro lb (And.intro lc (And.intro d1 (And.intro z1 (And.intro d2 z2)))))))) ?_) | (apply SW.toCG; first | refine SWcall.yes (And.intro ordS.eq_1 (And.intro livesS.eq_1 (And.intro la (And.intro lb (And.intro lc (And.intro d1 (And.intro z1 (And.intro d2 z2)))))))) ?_ | refine SWcall.no (And.intro ordS.eq_1 (And.intro livesS.eq_1 (And.intro la (And.intro lb (And.intro lc (And.intro d1 (And.intro z1 (And.intro d2 z2)))))))) ?_) | (apply SW.toG; first | refine SWop.yes (And.intro ordS.eq_1 (And.intro livesS.eq_1 (And.intro la (And.intro lb (And.intro lc (And.intro d1 (And.intro z1 (And.intro d2 z2)))))))) ?_ | refine SWop.no (And.intro ordS.eq_1 (And.intro livesS.eq_1 (And.intro la (And.intro lb (And.intro lc (And.intro d1 (And.intro z1 (And.intro d2 z2)))))))) ?_)
      refine W.ret ?_
      repeat' first
        | refine thenQ_ret ?_
        | refine inBlockQ_ret ?_
      refine fin1Z (And.intro ordS.eq_1 (And.intro livesS.eq_1 (And.intro la (And.intro lb (And.intro lc (And.intro d1 (And.intro z1 (And.intro d2 z2)))))))) ?_
      exact leV_refl
    have d2 := decide_eq_false q2
    clear t1 t2
    repeat' first
      | refine W.seq ?_ | (refine W.regS G ?_; dsimp only) | refine SW.nil ?_ | refine thenQ_normal ?_ | refine W.skip ?_ | refine W.exit ?_ | refine thenQ_exit ?_ | refine inBlockQ_exit ?_ | refine inBlockQ_normal ?_ | refine W.block ?_
      | (apply SW.toC; refine SWcall.go (And.intro ordS.eq_1 (And.intro livesS.eq_1 (And.intro la (And.intro lb (And.intro lc (And.intro d1 (And.intro z1 d2))))))) ?_) | (apply SW.toOp; refine SWop.go (And.intro ordS.eq_1 (And.intro livesS.eq_1 (And.intro la (And.intro lb (And.intro lc (And.intro d1 (And.intro z1 d2))))))) ?_) | (apply SW.toCG; first | refine SWcall.yes (And.intro ordS.eq_1 (And.intro livesS.eq_1 (And.intro la (And.intro lb (And.intro lc (And.intro d1 (And.intro z1 d2))))))) ?_ | refine SWcall.no (And.intro ordS.eq_1 (And.intro livesS.eq_1 (And.intro la (And.intro lb (And.intro lc (And.intro d1 (And.intro z1 d2))))))) ?_) | (apply SW.toG; first | refine SWop.yes (And.intro ordS.eq_1 (And.intro livesS.eq_1 (And.intro la (And.intro lb (And.intro lc (And.intro d1 (And.intro z1 d2))))))) ?_ | refine SWop.no (And.intro ordS.eq_1 (And.intro livesS.eq_1 (And.intro la (And.intro lb (And.intro lc (And.intro d1 (And.intro z1 d2))))))) ?_)
    refine W.condZ G (And.intro ordS.eq_1 (And.intro livesS.eq_1 (And.intro la (And.intro lb (And.intro lc (And.intro d1 (And.intro z1 d2))))))) ?_ ?_
    all_goals intro k2
    · exact absurd k2 (by decide)
    repeat' first
      | refine W.seq ?_ | (refine W.regS G ?_; dsimp only) | refine SW.nil ?_ | refine thenQ_normal ?_ | refine W.skip ?_ | refine W.exit ?_ | refine thenQ_exit ?_ | refine inBlockQ_exit ?_ | refine inBlockQ_normal ?_ | refine W.block ?_
      | (apply SW.toC; refine SWcall.go (And.intro ordS.eq_1 (And.intro livesS.eq_1 (And.intro la (And.intro lb (And.intro lc (And.intro d1 (And.intro z1 d2))))))) ?_) | (apply SW.toOp; refine SWop.go (And.intro ordS.eq_1 (And.intro livesS.eq_1 (And.intro la (And.intro lb (And.intro lc (And.intro d1 (And.intro z1 d2))))))) ?_) | (apply SW.toCG; first | refine SWcall.yes (And.intro ordS.eq_1 (And.intro livesS.eq_1 (And.intro la (And.intro lb (And.intro lc (And.intro d1 (And.intro z1 d2))))))) ?_ | refine SWcall.no (And.intro ordS.eq_1 (And.intro livesS.eq_1 (And.intro la (And.intro lb (And.intro lc (And.intro d1 (And.intro z1 d2))))))) ?_) | (apply SW.toG; first | refine SWop.yes (And.intro ordS.eq_1 (And.intro livesS.eq_1 (And.intro la (And.intro lb (And.intro lc (And.intro d1 (And.intro z1 d2))))))) ?_ | refine SWop.no (And.intro ordS.eq_1 (And.intro livesS.eq_1 (And.intro la (And.intro lb (And.intro lc (And.intro d1 (And.intro z1 d2))))))) ?_)
    refine W.ret ?_
    repeat' first
      | refine thenQ_ret ?_
      | refine inBlockQ_ret ?_
    refine fin1Z (And.intro ordS.eq_1 (And.intro livesS.eq_1 (And.intro la (And.intro lb (And.intro lc (And.intro d1 (And.intro z1 d2))))))) ?_
    exact leV_refl
  have d1 := decide_eq_false q1
  by_cases q2 : S b c = S a b
  · have d2 := decide_eq_true q2
    have z2 := t2 q2
    clear t1 t2
    repeat' first
      | refine W.seq ?_ | (refine W.regS G ?_; dsimp only) | refine SW.nil ?_ | refine thenQ_normal ?_ | refine W.skip ?_ | refine W.exit ?_ | refine thenQ_exit ?_ | refine inBlockQ_exit ?_ | refine inBlockQ_normal ?_ | refine W.block ?_
      | (apply SW.toC; refine SWcall.go (And.intro ordS.eq_1 (And.intro livesS.eq_1 (And.intro la (And.intro lb (And.intro lc (And.intro d1 (And.intro d2 z2))))))) ?_) | (apply SW.toOp; refine SWop.go (And.intro ordS.eq_1 (And.intro livesS.eq_1 (And.intro la (And.intro lb (And.intro lc (And.intro d1 (And.intro d2 z2))))))) ?_) | (apply SW.toCG; first | refine SWcall.yes (And.intro ordS.eq_1 (And.intro livesS.eq_1 (And.intro la (And.intro lb (And.intro lc (And.intro d1 (And.intro d2 z2))))))) ?_ | refine SWcall.no (And.intro ordS.eq_1 (And.intro livesS.eq_1 (And.intro la (And.intro lb (And.intro lc (And.intro d1 (And.intro d2 z2))))))) ?_) | (apply SW.toG; first | refine SWop.yes (And.intro ordS.eq_1 (And.intro livesS.eq_1 (And.intro la (And.intro lb (And.intro lc (And.intro d1 (And.intro d2 z2))))))) ?_ | refine SWop.no (And.intro ordS.eq_1 (And.intro livesS.eq_1 (And.intro la (And.intro lb (And.intro lc (And.intro d1 (And.intro d2 z2))))))) ?_)
    refine W.condZ G (And.intro ordS.eq_1 (And.intro livesS.eq_1 (And.intro la (And.intro lb (And.intro lc (And.intro d1 (And.intro d2 z2))))))) ?_ ?_
    all_goals intro k2
    · exact absurd k2 (by decide)
    repeat' first
      | refine W.seq ?_ | (refine W.regS G ?_; dsimp only) | refine SW.nil ?_ | refine thenQ_normal ?_ | refine W.skip ?_ | refine W.exit ?_ | refine thenQ_exit ?_ | refine inBlockQ_exit ?_ | refine inBlockQ_normal ?_ | refine W.block ?_
      | (apply SW.toC; refine SWcall.go (And.intro ordS.eq_1 (And.intro livesS.eq_1 (And.intro la (And.intro lb (And.intro lc (And.intro d1 (And.intro d2 z2))))))) ?_) | (apply SW.toOp; refine SWop.go (And.intro ordS.eq_1 (And.intro livesS.eq_1 (And.intro la (And.intro lb (And.intro lc (And.intro d1 (And.intro d2 z2))))))) ?_) | (apply SW.toCG; first | refine SWcall.yes (And.intro ordS.eq_1 (And.intro livesS.eq_1 (And.intro la (And.intro lb (And.intro lc (And.intro d1 (And.intro d2 z2))))))) ?_ | refine SWcall.no (And.intro ordS.eq_1 (And.intro livesS.eq_1 (And.intro la (And.intro lb (And.intro lc (And.intro d1 (And.intro d2 z2))))))) ?_) | (apply SW.toG; first | refine SWop.yes (And.intro ordS.eq_1 (And.intro livesS.eq_1 (And.intro la (And.intro lb (And.intro lc (And.intro d1 (And.intro d2 z2))))))) ?_ | refine SWop.no (And.intro ordS.eq_1 (And.intro livesS.eq_1 (And.intro la (And.intro lb (And.intro lc (And.intro d1 (And.intro d2 z2))))))) ?_)
    refine W.ret ?_
    repeat' first
      | refine thenQ_ret ?_
      | refine inBlockQ_ret ?_
    refine fin1Z (And.intro ordS.eq_1 (And.intro livesS.eq_1 (And.intro la (And.intro lb (And.intro lc (And.intro d1 (And.intro d2 z2))))))) ?_
    exact leV_refl
  have d2 := decide_eq_false q2
  clear t1 t2
  repeat' first
    | refine W.seq ?_ | (refine W.regS G ?_; dsimp only) | refine SW.nil ?_ | refine thenQ_normal ?_ | refine W.skip ?_ | refine W.exit ?_ | refine thenQ_exit ?_ | refine inBlockQ_exit ?_ | refine inBlockQ_normal ?_ | refine W.block ?_
    | (apply SW.toC; refine SWcall.go (And.intro ordS.eq_1 (And.intro livesS.eq_1 (And.intro la (And.intro lb (And.intro lc (And.intro d1 d2)))))) ?_) | (apply SW.toOp; refine SWop.go (And.intro ordS.eq_1 (And.intro livesS.eq_1 (And.intro la (And.intro lb (And.intro lc (And.intro d1 d2)))))) ?_) | (apply SW.toCG; first | refine SWcall.yes (And.intro ordS.eq_1 (And.intro livesS.eq_1 (And.intro la (And.intro lb (And.intro lc (And.intro d1 d2)))))) ?_ | refine SWcall.no (And.intro ordS.eq_1 (And.intro livesS.eq_1 (And.intro la (And.intro lb (And.intro lc (And.intro d1 d2)))))) ?_) | (apply SW.toG; first | refine SWop.yes (And.intro ordS.eq_1 (And.intro livesS.eq_1 (And.intro la (And.intro lb (And.intro lc (And.intro d1 d2)))))) ?_ | refine SWop.no (And.intro ordS.eq_1 (And.intro livesS.eq_1 (And.intro la (And.intro lb (And.intro lc (And.intro d1 d2)))))) ?_)
  refine W.condZ G (And.intro ordS.eq_1 (And.intro livesS.eq_1 (And.intro la (And.intro lb (And.intro lc (And.intro d1 d2)))))) ?_ ?_
  all_goals intro k2
  · exact absurd k2 (by decide)
  repeat' first
    | refine W.seq ?_ | (refine W.regS G ?_; dsimp only) | refine SW.nil ?_ | refine thenQ_normal ?_ | refine W.skip ?_ | refine W.exit ?_ | refine thenQ_exit ?_ | refine inBlockQ_exit ?_ | refine inBlockQ_normal ?_ | refine W.block ?_
    | (apply SW.toC; refine SWcall.go (And.intro ordS.eq_1 (And.intro livesS.eq_1 (And.intro la (And.intro lb (And.intro lc (And.intro d1 d2)))))) ?_) | (apply SW.toOp; refine SWop.go (And.intro ordS.eq_1 (And.intro livesS.eq_1 (And.intro la (And.intro lb (And.intro lc (And.intro d1 d2)))))) ?_) | (apply SW.toCG; first | refine SWcall.yes (And.intro ordS.eq_1 (And.intro livesS.eq_1 (And.intro la (And.intro lb (And.intro lc (And.intro d1 d2)))))) ?_ | refine SWcall.no (And.intro ordS.eq_1 (And.intro livesS.eq_1 (And.intro la (And.intro lb (And.intro lc (And.intro d1 d2)))))) ?_) | (apply SW.toG; first | refine SWop.yes (And.intro ordS.eq_1 (And.intro livesS.eq_1 (And.intro la (And.intro lb (And.intro lc (And.intro d1 d2)))))) ?_ | refine SWop.no (And.intro ordS.eq_1 (And.intro livesS.eq_1 (And.intro la (And.intro lb (And.intro lc (And.intro d1 d2)))))) ?_)
  refine W.ret ?_
  repeat' first
    | refine thenQ_ret ?_
    | refine inBlockQ_ret ?_
  refine fin1Z (And.intro ordS.eq_1 (And.intro livesS.eq_1 (And.intro la (And.intro lb (And.intro lc (And.intro d1 d2)))))) ?_
  exact leV_refl
theorem orders_sound : SoundFn Try.prog glB 5 ordersS.run := by
  refine orders_any _ _ ord1 ord2 (ord_of Cmp_sound fun a b la lb => rfl) (ord_of rCmp_sound fun a b la lb => chk_ok ⟨la, lb⟩) (ord_of SCmp_sound fun a b la lb => chk_ok ⟨la, lb⟩) (ord_of rSCmp_sound fun a b la lb => chk_ok ⟨la, lb⟩)
end Go.Vm.C01

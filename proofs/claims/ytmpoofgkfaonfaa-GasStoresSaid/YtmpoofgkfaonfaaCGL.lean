/- What some functions of the program compute, walked through once. -/
import Derived.Test.YtmpoofgkfaonfaaCGK
namespace Go.Vm.C19
open Go Go.Proofs
set_option linter.unusedVariables false
set_option linter.unusedSimpArgs false
set_option maxRecDepth 100000
set_option maxHeartbeats 8000000

theorem Touch_sound : SoundFn Try.prog glB 33 touchS.run := by
  have G := good_of (P := Try.prog) glB_ro (l := [(56, touchS)]) (by simp only [List.forall_mem_cons]; exact ⟨touch_sound, by simp⟩)
  refine soundFn_of_W G Try.func33 (by decide) rfl (by decide) ?_
  intro ins ret outs h
  unfold touchS at h
  dsimp only at h
  split at h
  rotate_left
  · cases h
  rename_i w
  cases h
  refine ⟨by show 1 ≤ 5; decide, fun w0 ext av => ?_⟩
  rw [Try.ntmps33, st0_eq]
  repeat' first
    | refine W.seq ?_ | (refine W.regS G ?_; dsimp only) | refine SW.nil ?_ | refine thenQ_normal ?_ | refine W.skip ?_ | refine W.exit ?_ | refine thenQ_exit ?_ | refine inBlockQ_exit ?_ | refine inBlockQ_normal ?_ | refine W.block ?_
    | (apply SW.toC; refine SWcall.go touchS.eq_1 ?_) | (apply SW.toOp; refine SWop.go touchS.eq_1 ?_) | (apply SW.toCG; first | refine SWcall.yes touchS.eq_1 ?_ | refine SWcall.no touchS.eq_1 ?_) | (apply SW.toG; first | refine SWop.yes touchS.eq_1 ?_ | refine SWop.no touchS.eq_1 ?_)
  refine W.ret ?_
  repeat' first
    | refine thenQ_ret ?_
    | refine inBlockQ_ret ?_
  refine fin1Z touchS.eq_1 ?_
  exact leV_refl
def ldU : Bool → BitVec 64
  | true => 100#64
  | false => 2100#64
noncomputable def loadS : FSpec := { run := fun ins => match ins with
  | [.b w] => some (.u 64 (ldU w), [])
  | _ => none }
theorem Load_sound : SoundFn Try.prog glB 35 loadS.run := by
  have G := good_of (P := Try.prog) glB_ro (l := []) (by simp)
  refine soundFn_of_W G Try.func35 (by decide) rfl (by decide) ?_
  intro ins ret outs h
  unfold loadS at h
  dsimp only at h
  split at h
  rotate_left
  · cases h
  rename_i w
  cases h
  refine ⟨by show 1 ≤ 4; decide, fun w0 ext av => ?_⟩
  rw [Try.ntmps35, st0_eq]
  repeat' first
    | refine W.seq ?_ | (refine W.regS G ?_; dsimp only) | refine SW.nil ?_ | refine thenQ_normal ?_ | refine W.skip ?_ | refine W.exit ?_ | refine thenQ_exit ?_ | refine inBlockQ_exit ?_ | refine inBlockQ_normal ?_ | refine W.block ?_
    | (apply SW.toC; refine SWcall.go True.intro ?_) | (apply SW.toOp; refine SWop.go True.intro ?_) | (apply SW.toCG; first | refine SWcall.yes True.intro ?_ | refine SWcall.no True.intro ?_) | (apply SW.toG; first | refine SWop.yes True.intro ?_ | refine SWop.no True.intro ?_)
  refine W.condZ G True.intro ?_ ?_
  all_goals intro hc
  · have hc' : w = true := hc
    rw [hc']
    repeat' first
      | refine W.seq ?_ | (refine W.regS G ?_; dsimp only) | refine SW.nil ?_ | refine thenQ_normal ?_ | refine W.skip ?_ | refine W.exit ?_ | refine thenQ_exit ?_ | refine inBlockQ_exit ?_ | refine inBlockQ_normal ?_ | refine W.block ?_
      | (apply SW.toC; refine SWcall.go True.intro ?_) | (apply SW.toOp; refine SWop.go True.intro ?_) | (apply SW.toCG; first | refine SWcall.yes True.intro ?_ | refine SWcall.no True.intro ?_) | (apply SW.toG; first | refine SWop.yes True.intro ?_ | refine SWop.no True.intro ?_)
    refine W.ret ?_
    repeat' first
      | refine thenQ_ret ?_
      | refine inBlockQ_ret ?_
    refine fin1Z True.intro ?_
    exact leV_refl
  · have hc' : w = false := hc
    rw [hc']
    repeat' first
      | refine W.seq ?_ | (refine W.regS G ?_; dsimp only) | refine SW.nil ?_ | refine thenQ_normal ?_ | refine W.skip ?_ | refine W.exit ?_ | refine thenQ_exit ?_ | refine inBlockQ_exit ?_ | refine inBlockQ_normal ?_ | refine W.block ?_
      | (apply SW.toC; refine SWcall.go True.intro ?_) | (apply SW.toOp; refine SWop.go True.intro ?_) | (apply SW.toCG; first | refine SWcall.yes True.intro ?_ | refine SWcall.no True.intro ?_) | (apply SW.toG; first | refine SWop.yes True.intro ?_ | refine SWop.no True.intro ?_)
    refine W.ret ?_
    repeat' first
      | refine thenQ_ret ?_
      | refine inBlockQ_ret ?_
    refine fin1Z True.intro ?_
    exact leV_refl
noncomputable def storesS : FSpec := { run := fun ins => match ins with
  | [.agg 12 (.u 64 l), .b w] => chk (l.length = 12) (some (.b true, []))
  | _ => none }
theorem stI_bd (e1 e2 z1 z2 z3 e3 : Bool) : -100000 ≤ stI e1 e2 z1 z2 z3 e3 ∧ stI e1 e2 z1 z2 z3 e3 ≤ 100000 := by
  cases e1 <;> cases e2 <;> cases z1 <;> cases z2 <;> cases z3 <;> cases e3 <;> decide
theorem stores_sound : SoundFn Try.prog glB 8 storesS.run := by
  have G := good_of (P := Try.prog) glB_ro (l := [(31, storeS), (32, storeS), (33, touchS), (34, touchS), (35, loadS), (11, glivesS)]) (by simp only [List.forall_mem_cons]; exact ⟨store_sound, rStore_sound, Touch_sound, rTouch_sound, Load_sound, lives_sound, by simp⟩)
  refine soundFn_of_W G Try.func8 (by decide) rfl (by decide) ?_
  intro ins ret outs h
  unfold storesS at h
  dsimp only at h
  split at h
  rotate_left
  · cases h
  rename_i l w
  obtain ⟨ll, h'⟩ := chk_some h
  clear h
  cases h'
  refine ⟨by show 2 ≤ 100; decide, fun w0 ext av => ?_⟩
  rw [Try.ntmps8, st0_eq]
  have lw : (subL l 0 4).length = 4 := by simp [subL, ll]
  have ln : (subL l 4 4).length = 4 := by simp [subL, ll]
  have lx : (subL l 8 4).length = 4 := by simp [subL, ll]
  obtain ⟨a, ha⟩ : ∃ a, subL l 0 4 = a := ⟨_, rfl⟩
  obtain ⟨b, hb⟩ : ∃ b, subL l 4 4 = b := ⟨_, rfl⟩
  obtain ⟨c, hc⟩ : ∃ c, subL l 8 4 = c := ⟨_, rfl⟩
  rw [ha] at lw
  rw [hb] at ln
  rw [hc] at lx
  refine W.seq ?_
  refine W.mid (sL [(1, .b w), (2, .p 2 0 0 0)] [(2, .agg 12 (.u 64 l))] 100) ?_ ?_
  · repeat' first
      | refine W.seq ?_ | (refine W.regS G ?_; dsimp only) | refine SW.nil ?_ | refine thenQ_normal ?_ | refine W.skip ?_ | refine W.exit ?_ | refine thenQ_exit ?_ | refine inBlockQ_exit ?_ | refine inBlockQ_normal ?_ | refine W.block ?_
      | (apply SW.toC; refine SWcall.go True.intro ?_) | (apply SW.toOp; refine SWop.go True.intro ?_) | (apply SW.toCG; first | refine SWcall.yes True.intro ?_ | refine SWcall.no True.intro ?_) | (apply SW.toG; first | refine SWop.yes True.intro ?_ | refine SWop.no True.intro ?_)
    refine Imp.le ?_
    exact sL_leZ True.intro
  refine W.seq ?_
  refine W.mid (sL [(1, .b w), (5, .p 5 0 0 0), (6, .p 6 0 0 0), (7, .p 7 0 0 0)] [(5, .agg 4 (.u 64 a)), (6, .agg 4 (.u 64 b)), (7, .agg 4 (.u 64 c))] 100) ?_ ?_
  · skip
    repeat' first
      | refine W.seq ?_ | (refine W.regS G ?_; dsimp only) | refine SW.nil ?_ | refine thenQ_normal ?_ | refine W.skip ?_ | refine W.exit ?_ | refine thenQ_exit ?_ | refine inBlockQ_exit ?_ | refine inBlockQ_normal ?_
      | (apply SW.toC; refine SWcall.go (And.intro ll (And.intro ha (And.intro hb hc))) ?_) | (apply SW.toOp; refine SWop.go (And.intro ll (And.intro ha (And.intro hb hc))) ?_) | (apply SW.toCG; first | refine SWcall.yes (And.intro ll (And.intro ha (And.intro hb hc))) ?_ | refine SWcall.no (And.intro ll (And.intro ha (And.intro hb hc))) ?_) | (apply SW.toG; first | refine SWop.yes (And.intro ll (And.intro ha (And.intro hb hc))) ?_ | refine SWop.no (And.intro ll (And.intro ha (And.intro hb hc))) ?_)
    refine W.drawS G [[], [0], [], [2], [], [4], [], [], [], [6, 1, 0, 7, 8], [7, 3, 2, 9, 6, 1, 0, 8], [8, 5, 4, 10, 7, 3, 2, 9, 6, 1, 0]] hmix ?_
    dsimp only
    repeat' first
      | (apply DW.nil; (focus (decide +kernel)))
      | (apply DW.toC; refine DWcall.go (And.intro ll (And.intro ha (And.intro hb hc))) ?_) | (apply DW.toOp; refine DWop.go (And.intro ll (And.intro ha (And.intro hb hc))) ?_) | (apply DW.toCG; first | refine DWcall.yes (And.intro ll (And.intro ha (And.intro hb hc))) ?_ | refine DWcall.no (And.intro ll (And.intro ha (And.intro hb hc))) ?_) | (apply DW.toG; first | refine DWop.yes (And.intro ll (And.intro ha (And.intro hb hc))) ?_ | refine DWop.no (And.intro ll (And.intro ha (And.intro hb hc))) ?_)
    refine Imp.le ?_
    exact sL_leZ (And.intro ll (And.intro ha (And.intro hb hc)))
  have l1 : ldU true = 100#64 := rfl
  have l2 : ldU false = 2100#64 := rfl
  have n1 : ((2100#64 : BitVec 64) = 100#64) = False := eq_false (by decide)
  have n2 : ((100#64 : BitVec 64) = 2100#64) = False := eq_false (by decide)
  have hbd := fun e1 e2 z1 z2 z3 e3 => stI_bd e1 e2 z1 z2 z3 e3
  obtain ⟨s, hs⟩ : ∃ s, stU w (decide (c = b)) (decide (b = a)) (decide (a = zeros 64 4)) = s := ⟨_, rfl⟩
  obtain ⟨v, hv⟩ : ∃ v, stI (decide (c = b)) (decide (b = a)) (decide (a = zeros 64 4)) (decide (c = zeros 64 4)) (decide (b = zeros 64 4)) (decide (c = a)) = v := ⟨_, rfl⟩
  refine W.seq ?_
  refine W.mid (sL [(1, .b w), (5, .p 5 0 0 0), (6, .p 6 0 0 0), (7, .p 7 0 0 0), (8, .u 64 s), (9, .i v)] [(5, .agg 4 (.u 64 a)), (6, .agg 4 (.u 64 b)), (7, .agg 4 (.u 64 c))] 100) ?_ ?_
  · skip
    repeat' first
      | refine W.seq ?_ | (refine W.regS G ?_; dsimp only) | refine SW.nil ?_ | refine thenQ_normal ?_ | refine W.skip ?_ | refine W.exit ?_ | refine thenQ_exit ?_ | refine inBlockQ_exit ?_ | refine inBlockQ_normal ?_ | refine W.block ?_
      | (apply SW.toC; refine SWcall.go (And.intro storeS.eq_1 (And.intro hs hv)) ?_) | (apply SW.toOp; refine SWop.go (And.intro storeS.eq_1 (And.intro hs hv)) ?_) | (apply SW.toCG; first | refine SWcall.yes (And.intro storeS.eq_1 (And.intro hs hv)) ?_ | refine SWcall.no (And.intro storeS.eq_1 (And.intro hs hv)) ?_) | (apply SW.toG; first | refine SWop.yes (And.intro storeS.eq_1 (And.intro hs hv)) ?_ | refine SWop.no (And.intro storeS.eq_1 (And.intro hs hv)) ?_)
    refine Imp.le ?_
    exact sL_leZ (And.intro storeS.eq_1 (And.intro hs hv))
  refine W.seq ?_
  refine W.mid (sL [(1, .b w), (5, .p 5 0 0 0), (6, .p 6 0 0 0), (7, .p 7 0 0 0), (8, .u 64 s), (9, .i v), (10, .u 64 s), (11, .i v)] [(5, .agg 4 (.u 64 a)), (6, .agg 4 (.u 64 b)), (7, .agg 4 (.u 64 c))] 100) ?_ ?_
  · skip
    repeat' first
      | refine W.seq ?_ | (refine W.regS G ?_; dsimp only) | refine SW.nil ?_ | refine thenQ_normal ?_ | refine W.skip ?_ | refine W.exit ?_ | refine thenQ_exit ?_ | refine inBlockQ_exit ?_ | refine inBlockQ_normal ?_ | refine W.block ?_
      | (apply SW.toC; refine SWcall.go (And.intro storeS.eq_1 (And.intro hs hv)) ?_) | (apply SW.toOp; refine SWop.go (And.intro storeS.eq_1 (And.intro hs hv)) ?_) | (apply SW.toCG; first | refine SWcall.yes (And.intro storeS.eq_1 (And.intro hs hv)) ?_ | refine SWcall.no (And.intro storeS.eq_1 (And.intro hs hv)) ?_) | (apply SW.toG; first | refine SWop.yes (And.intro storeS.eq_1 (And.intro hs hv)) ?_ | refine SWop.no (And.intro storeS.eq_1 (And.intro hs hv)) ?_)
    refine Imp.le ?_
    exact sL_leZ (And.intro storeS.eq_1 (And.intro hs hv))
  clear hs hv
  refine W.seq ?_
  refine W.mid (sL [(1, .b w), (5, .p 5 0 0 0), (6, .p 6 0 0 0), (7, .p 7 0 0 0)] [(5, .agg 4 (.u 64 a)), (6, .agg 4 (.u 64 b)), (7, .agg 4 (.u 64 c))] 100) ?_ ?_
  · cases w
    · skip
      repeat' first
        | refine W.seq ?_ | (refine W.regS G ?_; dsimp only) | refine SW.nil ?_ | refine thenQ_normal ?_ | refine W.skip ?_ | refine W.exit ?_ | refine thenQ_exit ?_ | refine inBlockQ_exit ?_ | refine inBlockQ_normal ?_ | refine W.block ?_
        | (apply SW.toC; refine SWcall.go (And.intro touchS.eq_1 (And.intro loadS.eq_1 (And.intro l1 (And.intro l2 (And.intro n1 n2))))) ?_) | (apply SW.toOp; refine SWop.go (And.intro touchS.eq_1 (And.intro loadS.eq_1 (And.intro l1 (And.intro l2 (And.intro n1 n2))))) ?_) | (apply SW.toCG; first | refine SWcall.yes (And.intro touchS.eq_1 (And.intro loadS.eq_1 (And.intro l1 (And.intro l2 (And.intro n1 n2))))) ?_ | refine SWcall.no (And.intro touchS.eq_1 (And.intro loadS.eq_1 (And.intro l1 (And.intro l2 (And.intro n1 n2))))) ?_) | (apply SW.toG; first | refine SWop.yes (And.intro touchS.eq_1 (And.intro loadS.eq_1 (And.intro l1 (And.intro l2 (And.intro n1 n2))))) ?_ | refine SWop.no (And.intro touchS.eq_1 (And.intro loadS.eq_1 (And.intro l1 (And.intro l2 (And.intro n1 n2))))) ?_)
      refine W.condZ G (And.intro touchS.eq_1 (And.intro loadS.eq_1 (And.intro l1 (And.intro l2 (And.intro n1 n2))))) ?_ ?_
      all_goals intro hcc
      · exact absurd hcc (by decide)
      clear hcc
      repeat' first
        | refine W.seq ?_ | (refine W.regS G ?_; dsimp only) | refine SW.nil ?_ | refine thenQ_normal ?_ | refine W.skip ?_ | refine W.exit ?_ | refine thenQ_exit ?_ | refine inBlockQ_exit ?_ | refine inBlockQ_normal ?_ | refine W.block ?_
        | (apply SW.toC; refine SWcall.go (And.intro touchS.eq_1 (And.intro loadS.eq_1 (And.intro l1 (And.intro l2 (And.intro n1 n2))))) ?_) | (apply SW.toOp; refine SWop.go (And.intro touchS.eq_1 (And.intro loadS.eq_1 (And.intro l1 (And.intro l2 (And.intro n1 n2))))) ?_) | (apply SW.toCG; first | refine SWcall.yes (And.intro touchS.eq_1 (And.intro loadS.eq_1 (And.intro l1 (And.intro l2 (And.intro n1 n2))))) ?_ | refine SWcall.no (And.intro touchS.eq_1 (And.intro loadS.eq_1 (And.intro l1 (And.intro l2 (And.intro n1 n2))))) ?_) | (apply SW.toG; first | refine SWop.yes (And.intro touchS.eq_1 (And.intro loadS.eq_1 (And.intro l1 (And.intro l2 (And.intro n1 n2))))) ?_ | refine SWop.no (And.intro touchS.eq_1 (And.intro loadS.eq_1 (And.intro l1 (And.intro l2 (And.intro n1 n2))))) ?_)
      refine Imp.le ?_
      exact sL_leZ (And.intro touchS.eq_1 (And.intro loadS.eq_1 (And.intro l1 (And.intro l2 (And.intro n1 n2)))))
    · skip
      repeat' first
        | refine W.seq ?_ | (refine W.regS G ?_; dsimp only) | refine SW.nil ?_ | refine thenQ_normal ?_ | refine W.skip ?_ | refine W.exit ?_ | refine thenQ_exit ?_ | refine inBlockQ_exit ?_ | refine inBlockQ_normal ?_ | refine W.block ?_
        | (apply SW.toC; refine SWcall.go (And.intro touchS.eq_1 (And.intro loadS.eq_1 (And.intro l1 (And.intro l2 (And.intro n1 n2))))) ?_) | (apply SW.toOp; refine SWop.go (And.intro touchS.eq_1 (And.intro loadS.eq_1 (And.intro l1 (And.intro l2 (And.intro n1 n2))))) ?_) | (apply SW.toCG; first | refine SWcall.yes (And.intro touchS.eq_1 (And.intro loadS.eq_1 (And.intro l1 (And.intro l2 (And.intro n1 n2))))) ?_ | refine SWcall.no (And.intro touchS.eq_1 (And.intro loadS.eq_1 (And.intro l1 (And.intro l2 (And.intro n1 n2))))) ?_) | (apply SW.toG; first | refine SWop.yes (And.intro touchS.eq_1 (And.intro loadS.eq_1 (And.intro l1 (And.intro l2 (And.intro n1 n2))))) ?_ | refine SWop.no (And.intro touchS.eq_1 (And.intro loadS.eq_1 (And.intro l1 (And.intro l2 (And.intro n1 n2))))) ?_)
      refine W.condZ G (And.intro touchS.eq_1 (And.intro loadS.eq_1 (And.intro l1 (And.intro l2 (And.intro n1 n2))))) ?_ ?_
      all_goals intro hcc
      · exact absurd hcc (by decide)
      clear hcc
      repeat' first
        | refine W.seq ?_ | (refine W.regS G ?_; dsimp only) | refine SW.nil ?_ | refine thenQ_normal ?_ | refine W.skip ?_ | refine W.exit ?_ | refine thenQ_exit ?_ | refine inBlockQ_exit ?_ | refine inBlockQ_normal ?_ | refine W.block ?_
        | (apply SW.toC; refine SWcall.go (And.intro touchS.eq_1 (And.intro loadS.eq_1 (And.intro l1 (And.intro l2 (And.intro n1 n2))))) ?_) | (apply SW.toOp; refine SWop.go (And.intro touchS.eq_1 (And.intro loadS.eq_1 (And.intro l1 (And.intro l2 (And.intro n1 n2))))) ?_) | (apply SW.toCG; first | refine SWcall.yes (And.intro touchS.eq_1 (And.intro loadS.eq_1 (And.intro l1 (And.intro l2 (And.intro n1 n2))))) ?_ | refine SWcall.no (And.intro touchS.eq_1 (And.intro loadS.eq_1 (And.intro l1 (And.intro l2 (And.intro n1 n2))))) ?_) | (apply SW.toG; first | refine SWop.yes (And.intro touchS.eq_1 (And.intro loadS.eq_1 (And.intro l1 (And.intro l2 (And.intro n1 n2))))) ?_ | refine SWop.no (And.intro touchS.eq_1 (And.intro loadS.eq_1 (And.intro l1 (And.intro l2 (And.intro n1 n2))))) ?_)
      refine Imp.le ?_
      exact sL_leZ (And.intro touchS.eq_1 (And.intro loadS.eq_1 (And.intro l1 (And.intro l2 (And.intro n1 n2)))))
  by_cases h1 : c = a
  · have q1 := eq_true h1
    repeat' first
      | refine W.seq ?_ | (refine W.regS G ?_; dsimp only) | refine SW.nil ?_ | refine thenQ_normal ?_ | refine W.skip ?_ | refine W.exit ?_ | refine thenQ_exit ?_ | refine inBlockQ_exit ?_ | refine inBlockQ_normal ?_ | refine W.block ?_
      | (apply SW.toC; refine SWcall.go (And.intro q1 glivesS.eq_1) ?_) | (apply SW.toOp; refine SWop.go (And.intro q1 glivesS.eq_1) ?_) | (apply SW.toCG; first | refine SWcall.yes (And.intro q1 glivesS.eq_1) ?_ | refine SWcall.no (And.intro q1 glivesS.eq_1) ?_) | (apply SW.toG; first | refine SWop.yes (And.intro q1 glivesS.eq_1) ?_ | refine SWop.no (And.intro q1 glivesS.eq_1) ?_)
    refine W.condZ G (And.intro q1 glivesS.eq_1) ?_ ?_
    all_goals intro hcc
    rotate_left
    · exact absurd hcc (by decide)
    clear hcc
    repeat' first
      | refine W.seq ?_ | (refine W.regS G ?_; dsimp only) | refine SW.nil ?_ | refine thenQ_normal ?_ | refine W.skip ?_ | refine W.exit ?_ | refine thenQ_exit ?_ | refine inBlockQ_exit ?_ | refine inBlockQ_normal ?_ | refine W.block ?_
      | (apply SW.toC; refine SWcall.go (And.intro q1 glivesS.eq_1) ?_) | (apply SW.toOp; refine SWop.go (And.intro q1 glivesS.eq_1) ?_) | (apply SW.toCG; first | refine SWcall.yes (And.intro q1 glivesS.eq_1) ?_ | refine SWcall.no (And.intro q1 glivesS.eq_1) ?_) | (apply SW.toG; first | refine SWop.yes (And.intro q1 glivesS.eq_1) ?_ | refine SWop.no (And.intro q1 glivesS.eq_1) ?_)
    refine W.ret ?_
    repeat' first
      | refine thenQ_ret ?_
      | refine inBlockQ_ret ?_
    refine fin1Z (And.intro q1 glivesS.eq_1) ?_
    exact leV_refl
  have q1 := eq_false h1
  have q2 := eq_false (fun e : a = c => h1 e.symm)
  repeat' first
    | refine W.seq ?_ | (refine W.regS G ?_; dsimp only) | refine SW.nil ?_ | refine thenQ_normal ?_ | refine W.skip ?_ | refine W.exit ?_ | refine thenQ_exit ?_ | refine inBlockQ_exit ?_ | refine inBlockQ_normal ?_ | refine W.block ?_
    | (apply SW.toC; refine SWcall.go q1 ?_) | (apply SW.toOp; refine SWop.go q1 ?_) | (apply SW.toCG; first | refine SWcall.yes q1 ?_ | refine SWcall.no q1 ?_) | (apply SW.toG; first | refine SWop.yes q1 ?_ | refine SWop.no q1 ?_)
  refine W.condZ G q1 ?_ ?_
  all_goals intro hcc
  · exact absurd hcc (by decide)
  clear hcc
  have x1 : (20000#64 : BitVec 64) + 100#64 = 20100#64 := by decide
  have x2 : (2900#64 : BitVec 64) + 100#64 = 3000#64 := by decide
  have k1 : ((20100 : Nat) : Int) = 20100 := rfl
  have k2 : ((3000 : Nat) : Int) = 3000 := rfl
  by_cases h3 : a = zeros 64 4
  · have q3 := eq_true h3
    have h4 : ¬ c = zeros 64 4 := fun e => h1 (e.trans h3.symm)
    have q4 := eq_false h4
    have w1 : stU true false true true = 20000#64 := by decide
    have w2 : stU true false false true = 100#64 := by decide
    have v1 : stI false true true false true false = 0 := by decide
    have v2 : stI false false true true false true = 19900 := by decide
    repeat' first
      | refine W.seq ?_ | (refine W.regS G ?_; dsimp only) | refine SW.nil ?_ | refine thenQ_normal ?_ | refine W.skip ?_ | refine W.exit ?_ | refine thenQ_exit ?_ | refine inBlockQ_exit ?_ | refine inBlockQ_normal ?_ | refine W.block ?_
      | (apply SW.toC; refine SWcall.go (And.intro storeS.eq_1 (And.intro q1 (And.intro q2 (And.intro q3 (And.intro q4 (And.intro w1 (And.intro w2 (And.intro v1 (And.intro v2 (And.intro x1 (And.intro k1 glivesS.eq_1))))))))))) ?_) | (apply SW.toOp; refine SWop.go (And.intro storeS.eq_1 (And.intro q1 (And.intro q2 (And.intro q3 (And.intro q4 (And.intro w1 (And.intro w2 (And.intro v1 (And.intro v2 (And.intro x1 (And.intro k1 glivesS.eq_1))))))))))) ?_) | (apply SW.toCG; first | refine SWcall.yes (And.intro storeS.eq_1 (And.intro q1 (And.intro q2 (And.intro q3 (And.intro q4 (And.intro w1 (And.intro w2 (And.intro v1 (And.intro v2 (And.intro x1 (And.intro k1 glivesS.eq_1))))))))))) ?_ | refine SWcall.no (And.intro storeS.eq_1 (And.intro q1 (And.intro q2 (And.intro q3 (And.intro q4 (And.intro w1 (And.intro w2 (And.intro v1 (And.intro v2 (And.intro x1 (And.intro k1 glivesS.eq_1))))))))))) ?_) | (apply SW.toG; first | refine SWop.yes (And.intro storeS.eq_1 (And.intro q1 (And.intro q2 (And.intro q3 (And.intro q4 (And.intro w1 (And.intro w2 (And.intro v1 (And.intro v2 (And.intro x1 (And.intro k1 glivesS.eq_1))))))))))) ?_ | refine SWop.no (And.intro storeS.eq_1 (And.intro q1 (And.intro q2 (And.intro q3 (And.intro q4 (And.intro w1 (And.intro w2 (And.intro v1 (And.intro v2 (And.intro x1 (And.intro k1 glivesS.eq_1))))))))))) ?_)
    refine W.ret ?_
    repeat' first
      | refine thenQ_ret ?_
      | refine inBlockQ_ret ?_
    refine fin1Z (And.intro storeS.eq_1 (And.intro q1 (And.intro q2 (And.intro q3 (And.intro q4 (And.intro w1 (And.intro w2 (And.intro v1 (And.intro v2 (And.intro x1 (And.intro k1 glivesS.eq_1))))))))))) ?_
    exact leV_refl
  have q3 := eq_false h3
  by_cases h4 : c = zeros 64 4
  · have q4 := eq_true h4
    have w1 : stU true false true false = 2900#64 := by decide
    have w2 : stU true false false false = 100#64 := by decide
    have v1 : stI false true false true false false = 4800 := by decide
    have v2 : stI false false false false true true = -2000 := by decide
    repeat' first
      | refine W.seq ?_ | (refine W.regS G ?_; dsimp only) | refine SW.nil ?_ | refine thenQ_normal ?_ | refine W.skip ?_ | refine W.exit ?_ | refine thenQ_exit ?_ | refine inBlockQ_exit ?_ | refine inBlockQ_normal ?_ | refine W.block ?_
      | (apply SW.toC; refine SWcall.go (And.intro storeS.eq_1 (And.intro q1 (And.intro q2 (And.intro q3 (And.intro q4 (And.intro w1 (And.intro w2 (And.intro v1 (And.intro v2 (And.intro x2 (And.intro k2 glivesS.eq_1))))))))))) ?_) | (apply SW.toOp; refine SWop.go (And.intro storeS.eq_1 (And.intro q1 (And.intro q2 (And.intro q3 (And.intro q4 (And.intro w1 (And.intro w2 (And.intro v1 (And.intro v2 (And.intro x2 (And.intro k2 glivesS.eq_1))))))))))) ?_) | (apply SW.toCG; first | refine SWcall.yes (And.intro storeS.eq_1 (And.intro q1 (And.intro q2 (And.intro q3 (And.intro q4 (And.intro w1 (And.intro w2 (And.intro v1 (And.intro v2 (And.intro x2 (And.intro k2 glivesS.eq_1))))))))))) ?_ | refine SWcall.no (And.intro storeS.eq_1 (And.intro q1 (And.intro q2 (And.intro q3 (And.intro q4 (And.intro w1 (And.intro w2 (And.intro v1 (And.intro v2 (And.intro x2 (And.intro k2 glivesS.eq_1))))))))))) ?_) | (apply SW.toG; first | refine SWop.yes (And.intro storeS.eq_1 (And.intro q1 (And.intro q2 (And.intro q3 (And.intro q4 (And.intro w1 (And.intro w2 (And.intro v1 (And.intro v2 (And.intro x2 (And.intro k2 glivesS.eq_1))))))))))) ?_ | refine SWop.no (And.intro storeS.eq_1 (And.intro q1 (And.intro q2 (And.intro q3 (And.intro q4 (And.intro w1 (And.intro w2 (And.intro v1 (And.intro v2 (And.intro x2 (And.intro k2 glivesS.eq_1))))))))))) ?_)
    refine W.ret ?_
    repeat' first
      | refine thenQ_ret ?_
      | refine inBlockQ_ret ?_
    refine fin1Z (And.intro storeS.eq_1 (And.intro q1 (And.intro q2 (And.intro q3 (And.intro q4 (And.intro w1 (And.intro w2 (And.intro v1 (And.intro v2 (And.intro x2 (And.intro k2 glivesS.eq_1))))))))))) ?_
    exact leV_refl
  have q4 := eq_false h4
  have w1 : stU true false true false = 2900#64 := by decide
  have w2 : stU true false false false = 100#64 := by decide
  have v1 : stI false true false false false false = 0 := by decide
  have v2 : stI false false false false false true = 2800 := by decide
  repeat' first
    | refine W.seq ?_ | (refine W.regS G ?_; dsimp only) | refine SW.nil ?_ | refine thenQ_normal ?_ | refine W.skip ?_ | refine W.exit ?_ | refine thenQ_exit ?_ | refine inBlockQ_exit ?_ | refine inBlockQ_normal ?_ | refine W.block ?_
    | (apply SW.toC; refine SWcall.go (And.intro storeS.eq_1 (And.intro q1 (And.intro q2 (And.intro q3 (And.intro q4 (And.intro w1 (And.intro w2 (And.intro v1 (And.intro v2 (And.intro x2 (And.intro k2 glivesS.eq_1))))))))))) ?_) | (apply SW.toOp; refine SWop.go (And.intro storeS.eq_1 (And.intro q1 (And.intro q2 (And.intro q3 (And.intro q4 (And.intro w1 (And.intro w2 (And.intro v1 (And.intro v2 (And.intro x2 (And.intro k2 glivesS.eq_1))))))))))) ?_) | (apply SW.toCG; first | refine SWcall.yes (And.intro storeS.eq_1 (And.intro q1 (And.intro q2 (And.intro q3 (And.intro q4 (And.intro w1 (And.intro w2 (And.intro v1 (And.intro v2 (And.intro x2 (And.intro k2 glivesS.eq_1))))))))))) ?_ | refine SWcall.no (And.intro storeS.eq_1 (And.intro q1 (And.intro q2 (And.intro q3 (And.intro q4 (And.intro w1 (And.intro w2 (And.intro v1 (And.intro v2 (And.intro x2 (And.intro k2 glivesS.eq_1))))))))))) ?_) | (apply SW.toG; first | refine SWop.yes (And.intro storeS.eq_1 (And.intro q1 (And.intro q2 (And.intro q3 (And.intro q4 (And.intro w1 (And.intro w2 (And.intro v1 (And.intro v2 (And.intro x2 (And.intro k2 glivesS.eq_1))))))))))) ?_ | refine SWop.no (And.intro storeS.eq_1 (And.intro q1 (And.intro q2 (And.intro q3 (And.intro q4 (And.intro w1 (And.intro w2 (And.intro v1 (And.intro v2 (And.intro x2 (And.intro k2 glivesS.eq_1))))))))))) ?_)
  refine W.ret ?_
  repeat' first
    | refine thenQ_ret ?_
    | refine inBlockQ_ret ?_
  refine fin1Z (And.intro storeS.eq_1 (And.intro q1 (And.intro q2 (And.intro q3 (And.intro q4 (And.intro w1 (And.intro w2 (And.intro v1 (And.intro v2 (And.intro x2 (And.intro k2 glivesS.eq_1))))))))))) ?_
  exact leV_refl
end Go.Vm.C19

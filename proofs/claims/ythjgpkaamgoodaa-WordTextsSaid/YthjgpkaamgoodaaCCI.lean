/- What some functions of the program compute, walked through once. -/
import Derived.Test.YthjgpkaamgoodaaCCH
namespace Go.Vm.C01
open Go Go.Proofs
set_option linter.unusedVariables false
set_option linter.unusedSimpArgs false
set_option maxRecDepth 100000
set_option maxHeartbeats 8000000

/-! ### quotients and rests, with and without signs -/
theorem zeros_wOf : zeros 64 4 = wOf 0 := by decide
theorem wv_zero4 : wv (zeros 64 4) = 0 := wvk_zeros 4 4
theorem min16 : ∀ n, n ≤ 16 → min 16 n = n := fun n h => by omega
theorem word_dOf {n v : Nat} (hn : n ≤ 16 ∨ v < 65536 ^ 16) (hv : v < 65536 ^ n) : wordF (dOf n v) (min 16 (dOf n v).length) = wOf v := by
  rw [wordF_eq (dOf_ok n v), dOf_len, dOf_val' hv]
noncomputable def rDMS : FSpec := { run := fun ins => match ins with
  | [.agg 4 (.u 64 a), .agg 4 (.u 64 b)] => chk (a.length = 4 ∧ b.length = 4) (some (.tup [.agg 4 (.u 64 (wOf (wv a / wv b))), .agg 4 (.u 64 (wOf (wmod (wv a) (wv b))))], []))
  | _ => none }
theorem rDM_sound : SoundFn Try.prog glB 54 rDMS.run := by
  have G := good_of (P := Try.prog) glB_ro (l := [(71, digS), (79, rDivideS), (73, wordS)]) (by simp only [List.forall_mem_cons]; exact ⟨dig_sound, rDivide_sound, word_sound, by simp⟩)
  refine soundFn_of_W G Try.func54 (by decide) rfl (by decide) ?_
  intro ins ret outs h
  unfold rDMS at h
  dsimp only at h
  split at h
  rotate_left
  · cases h
  rename_i a b
  obtain ⟨hl, h'⟩ := chk_some h
  clear h
  cases h'
  obtain ⟨la, lb⟩ := hl
  refine ⟨by show 2 ≤ 25; decide, fun w0 ext av => ?_⟩
  rw [Try.ntmps54, st0_eq]
  have hM : wmod (wv a) (wv b) = if wv b = 0 then 0 else wv a % wv b := rfl
  repeat' first
    | refine W.seq ?_ | (refine W.regS G ?_; dsimp only) | refine SW.nil ?_ | refine thenQ_normal ?_ | refine W.skip ?_ | refine W.exit ?_ | refine thenQ_exit ?_ | refine inBlockQ_exit ?_ | refine inBlockQ_normal ?_ | refine W.block ?_
    | (apply SW.toC; refine SWcall.go True.intro ?_) | (apply SW.toOp; refine SWop.go True.intro ?_) | (apply SW.toCG; first | refine SWcall.yes True.intro ?_ | refine SWcall.no True.intro ?_) | (apply SW.toG; first | refine SWop.yes True.intro ?_ | refine SWop.no True.intro ?_)
  refine W.condZ G True.intro ?_ ?_
  all_goals intro h1
  · have e : b = zeros 64 4 := yes_of h1
    have q1 : wOf (wv a / wv b) = b := by rw [e, wv_zero4, Nat.div_zero, zeros_wOf]
    have q2 : wOf (wmod (wv a) (wv b)) = b := by rw [hM, if_pos (by rw [e, wv_zero4]), e, zeros_wOf]
    rw [q1, q2]
    repeat' first
      | refine W.seq ?_ | (refine W.regS G ?_; dsimp only) | refine SW.nil ?_ | refine thenQ_normal ?_ | refine W.skip ?_ | refine W.exit ?_ | refine thenQ_exit ?_ | refine inBlockQ_exit ?_ | refine inBlockQ_normal ?_
      | (apply SW.toC; refine SWcall.go True.intro ?_) | (apply SW.toOp; refine SWop.go True.intro ?_) | (apply SW.toCG; first | refine SWcall.yes True.intro ?_ | refine SWcall.no True.intro ?_) | (apply SW.toG; first | refine SWop.yes True.intro ?_ | refine SWop.no True.intro ?_)
    refine W.drawS G [[], [], [0], [1, 2, 0]] hmix ?_
    dsimp only
    repeat' first
      | (apply DW.nil; (focus (decide +kernel)))
      | (apply DW.toC; refine DWcall.go True.intro ?_) | (apply DW.toOp; refine DWop.go True.intro ?_) | (apply DW.toCG; first | refine DWcall.yes True.intro ?_ | refine DWcall.no True.intro ?_) | (apply DW.toG; first | refine DWop.yes True.intro ?_ | refine DWop.no True.intro ?_)
    repeat' first
      | refine W.seq ?_ | (refine W.regS G ?_; dsimp only) | refine SW.nil ?_ | refine thenQ_normal ?_ | refine W.skip ?_ | refine W.exit ?_ | refine thenQ_exit ?_ | refine inBlockQ_exit ?_ | refine inBlockQ_normal ?_ | refine W.block ?_
      | (apply SW.toC; refine SWcall.go True.intro ?_) | (apply SW.toOp; refine SWop.go True.intro ?_) | (apply SW.toCG; first | refine SWcall.yes True.intro ?_ | refine SWcall.no True.intro ?_) | (apply SW.toG; first | refine SWop.yes True.intro ?_ | refine SWop.no True.intro ?_)
    refine W.ret ?_
    repeat' first
      | refine thenQ_ret ?_
      | refine inBlockQ_ret ?_
    refine fin2Z True.intro ?_ ?_
    · exact leV_refl
    · exact leV_refl
  have hb0 : ¬ wv b = 0 := fun c => no_of h1 (by
    refine wv_inj lb rfl ?_
    rw [c]
    exact (wvk_zeros 4 4).symm)
  have hbp : 0 < wv b := Nat.pos_of_ne_zero hb0
  rw [if_neg hb0] at hM
  rw [hM]
  have da : dvk (digF a 16) 16 = wv a := digF_val a
  have db : dvk (digF b 16) 16 = wv b := digF_val b
  have oa := digF_ok a 16
  have ob := digF_ok b 16
  have l1 := digF_len a 16
  have l2 := digF_len b 16
  have hA : wv a < 65536 ^ 16 := wv_lt a
  have hQ : wv a / wv b < 65536 ^ 16 := Nat.lt_of_le_of_lt (Nat.div_le_self _ _) hA
  have hR : wv a % wv b < 65536 ^ 16 := Nat.lt_of_le_of_lt (Nat.mod_le _ _) hA
  have q1 := word_dOf (.inr hQ) hQ
  have q2 := word_dOf (.inr hR) hR
  have l3 : (dOf 16 (wv a / wv b)).length = 16 := dOf_len _ _
  have l4 : (dOf 16 (wv a % wv b)).length = 16 := dOf_len _ _
  rw [l3] at q1
  rw [l4] at q2
  have m1 : min 16 17 = 16 := rfl
  have m2 : min 16 16 = 16 := rfl
  rw [m2] at q1 q2
  rw [← q1, ← q2]
  repeat' first
    | refine W.seq ?_ | (refine W.regS G ?_; dsimp only) | refine SW.nil ?_ | refine thenQ_normal ?_ | refine W.skip ?_ | refine W.exit ?_ | refine thenQ_exit ?_ | refine inBlockQ_exit ?_ | refine inBlockQ_normal ?_
    | (apply SW.toC; refine SWcall.go (And.intro digS.eq_1 (And.intro rDivideS.eq_1 (And.intro wordS.eq_1 (And.intro l1 (And.intro l2 (And.intro da (And.intro db (And.intro oa (And.intro ob (And.intro l3 (And.intro l4 (And.intro m1 m2)))))))))))) ?_) | (apply SW.toOp; refine SWop.go (And.intro digS.eq_1 (And.intro rDivideS.eq_1 (And.intro wordS.eq_1 (And.intro l1 (And.intro l2 (And.intro da (And.intro db (And.intro oa (And.intro ob (And.intro l3 (And.intro l4 (And.intro m1 m2)))))))))))) ?_) | (apply SW.toCG; first | refine SWcall.yes (And.intro digS.eq_1 (And.intro rDivideS.eq_1 (And.intro wordS.eq_1 (And.intro l1 (And.intro l2 (And.intro da (And.intro db (And.intro oa (And.intro ob (And.intro l3 (And.intro l4 (And.intro m1 m2)))))))))))) ?_ | refine SWcall.no (And.intro digS.eq_1 (And.intro rDivideS.eq_1 (And.intro wordS.eq_1 (And.intro l1 (And.intro l2 (And.intro da (And.intro db (And.intro oa (And.intro ob (And.intro l3 (And.intro l4 (And.intro m1 m2)))))))))))) ?_) | (apply SW.toG; first | refine SWop.yes (And.intro digS.eq_1 (And.intro rDivideS.eq_1 (And.intro wordS.eq_1 (And.intro l1 (And.intro l2 (And.intro da (And.intro db (And.intro oa (And.intro ob (And.intro l3 (And.intro l4 (And.intro m1 m2)))))))))))) ?_ | refine SWop.no (And.intro digS.eq_1 (And.intro rDivideS.eq_1 (And.intro wordS.eq_1 (And.intro l1 (And.intro l2 (And.intro da (And.intro db (And.intro oa (And.intro ob (And.intro l3 (And.intro l4 (And.intro m1 m2)))))))))))) ?_)
  refine W.drawS G [[], [0], [], [2, 1, 0], [1, 0, 3, 2], [4, 1, 0, 3, 2], [5, 4, 1, 0, 3, 2], [5, 4, 1, 0, 3, 2], [6, 5, 4, 1, 0, 3, 2], [7, 5, 4, 1, 0, 3, 2, 8, 6]] hmix ?_
  dsimp only
  repeat' first
    | (apply DW.nil; (focus (decide +kernel)))
    | (apply DW.toC; refine DWcall.go (And.intro digS.eq_1 (And.intro rDivideS.eq_1 (And.intro wordS.eq_1 (And.intro l1 (And.intro l2 (And.intro da (And.intro db (And.intro oa (And.intro ob (And.intro l3 (And.intro l4 (And.intro m1 m2)))))))))))) ?_) | (apply DW.toOp; refine DWop.go (And.intro digS.eq_1 (And.intro rDivideS.eq_1 (And.intro wordS.eq_1 (And.intro l1 (And.intro l2 (And.intro da (And.intro db (And.intro oa (And.intro ob (And.intro l3 (And.intro l4 (And.intro m1 m2)))))))))))) ?_) | (apply DW.toCG; first | refine DWcall.yes (And.intro digS.eq_1 (And.intro rDivideS.eq_1 (And.intro wordS.eq_1 (And.intro l1 (And.intro l2 (And.intro da (And.intro db (And.intro oa (And.intro ob (And.intro l3 (And.intro l4 (And.intro m1 m2)))))))))))) ?_ | refine DWcall.no (And.intro digS.eq_1 (And.intro rDivideS.eq_1 (And.intro wordS.eq_1 (And.intro l1 (And.intro l2 (And.intro da (And.intro db (And.intro oa (And.intro ob (And.intro l3 (And.intro l4 (And.intro m1 m2)))))))))))) ?_) | (apply DW.toG; first | refine DWop.yes (And.intro digS.eq_1 (And.intro rDivideS.eq_1 (And.intro wordS.eq_1 (And.intro l1 (And.intro l2 (And.intro da (And.intro db (And.intro oa (And.intro ob (And.intro l3 (And.intro l4 (And.intro m1 m2)))))))))))) ?_ | refine DWop.no (And.intro digS.eq_1 (And.intro rDivideS.eq_1 (And.intro wordS.eq_1 (And.intro l1 (And.intro l2 (And.intro da (And.intro db (And.intro oa (And.intro ob (And.intro l3 (And.intro l4 (And.intro m1 m2)))))))))))) ?_)
  repeat' first
    | refine W.seq ?_ | (refine W.regS G ?_; dsimp only) | refine SW.nil ?_ | refine thenQ_normal ?_ | refine W.skip ?_ | refine W.exit ?_ | refine thenQ_exit ?_ | refine inBlockQ_exit ?_ | refine inBlockQ_normal ?_ | refine W.block ?_
    | (apply SW.toC; refine SWcall.go (And.intro digS.eq_1 (And.intro rDivideS.eq_1 (And.intro wordS.eq_1 (And.intro l1 (And.intro l2 (And.intro da (And.intro db (And.intro oa (And.intro ob (And.intro l3 (And.intro l4 (And.intro m1 m2)))))))))))) ?_) | (apply SW.toOp; refine SWop.go (And.intro digS.eq_1 (And.intro rDivideS.eq_1 (And.intro wordS.eq_1 (And.intro l1 (And.intro l2 (And.intro da (And.intro db (And.intro oa (And.intro ob (And.intro l3 (And.intro l4 (And.intro m1 m2)))))))))))) ?_) | (apply SW.toCG; first | refine SWcall.yes (And.intro digS.eq_1 (And.intro rDivideS.eq_1 (And.intro wordS.eq_1 (And.intro l1 (And.intro l2 (And.intro da (And.intro db (And.intro oa (And.intro ob (And.intro l3 (And.intro l4 (And.intro m1 m2)))))))))))) ?_ | refine SWcall.no (And.intro digS.eq_1 (And.intro rDivideS.eq_1 (And.intro wordS.eq_1 (And.intro l1 (And.intro l2 (And.intro da (And.intro db (And.intro oa (And.intro ob (And.intro l3 (And.intro l4 (And.intro m1 m2)))))))))))) ?_) | (apply SW.toG; first | refine SWop.yes (And.intro digS.eq_1 (And.intro rDivideS.eq_1 (And.intro wordS.eq_1 (And.intro l1 (And.intro l2 (And.intro da (And.intro db (And.intro oa (And.intro ob (And.intro l3 (And.intro l4 (And.intro m1 m2)))))))))))) ?_ | refine SWop.no (And.intro digS.eq_1 (And.intro rDivideS.eq_1 (And.intro wordS.eq_1 (And.intro l1 (And.intro l2 (And.intro da (And.intro db (And.intro oa (And.intro ob (And.intro l3 (And.intro l4 (And.intro m1 m2)))))))))))) ?_)
  refine W.ret ?_
  repeat' first
    | refine thenQ_ret ?_
    | refine inBlockQ_ret ?_
  refine fin2Z (And.intro digS.eq_1 (And.intro rDivideS.eq_1 (And.intro wordS.eq_1 (And.intro l1 (And.intro l2 (And.intro da (And.intro db (And.intro oa (And.intro ob (And.intro l3 (And.intro l4 (And.intro m1 m2)))))))))))) ?_ ?_
  · exact leV_refl
  · exact leV_refl
end Go.Vm.C01

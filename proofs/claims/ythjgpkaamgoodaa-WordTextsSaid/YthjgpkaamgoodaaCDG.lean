/- What some functions of the program compute, walked through once. -/
import Derived.Test.YthjgpkaamgoodaaCDF
namespace Go.Vm.C01
open Go Go.Proofs
set_option linter.unusedVariables false
set_option linter.unusedSimpArgs false
set_option maxRecDepth 100000
set_option maxHeartbeats 8000000

/-! ### WordTexts -/
noncomputable def smA (a : List (BitVec 64)) (z : Bool) (n : BitVec 64) : FSpec := { run := fun ins => match ins with
  | [.agg 4 (.u 64 x)] => chk (x = a) (some (.tup [.u 64 n, .b z], []))
  | _ => none }
theorem smA_yes (a : List (BitVec 64)) (h : a.getD 1 0 ||| a.getD 2 0 ||| a.getD 3 0 = 0) : SoundFn Try.prog glB 47 (smA a true (a.getD 0 0)).run := by
  intro ins ret outs h'
  unfold smA at h'
  dsimp only at h'
  split at h'
  rotate_left
  · cases h'
  rename_i x
  obtain ⟨rfl, h2⟩ := chk_some h'
  refine small_sound _ _ _ ?_
  rw [← h2]
  exact congrArg (fun t => some (t, ([] : List V))) (if_pos h)
theorem smA_no (a : List (BitVec 64)) (h : ¬ a.getD 1 0 ||| a.getD 2 0 ||| a.getD 3 0 = 0) : SoundFn Try.prog glB 47 (smA a false 0#64).run := by
  intro ins ret outs h'
  unfold smA at h'
  dsimp only at h'
  split at h'
  rotate_left
  · cases h'
  rename_i x
  obtain ⟨rfl, h2⟩ := chk_some h'
  refine small_sound _ _ _ ?_
  rw [← h2]
  exact congrArg (fun t => some (t, ([] : List V))) (if_neg h)
theorem decD_len {x : Nat} (hx : x < B256) : (decD x).length ≤ 80 := by
  obtain ⟨h1, h2, h3, h4, h5, h6⟩ := dec_facts 80 x (Nat.lt_trans hx pow80) (by omega)
  have h7 := h6 80 (by omega) (Nat.lt_trans hx pow80)
  have hl : (decD x).length = (decR 80 x).length := List.length_reverse
  omega
noncomputable def txA (a : List (BitVec 64)) : FSpec := { run := fun ins => match ins with
  | [.agg 4 (.u 64 x), .sl false (.u 8 b), .s s] => chk (x = a ∧ x.length = 4 ∧ b.length ≤ 140737488355328 ∧ s.length ≤ 140737488355328) (some (.b true, []))
  | _ => none }
theorem texts_at (a : List (BitVec 64)) (z : Bool) (n : BitVec 64) (hsm : SoundFn Try.prog glB 47 (smA a z n).run)
    (hyes : z = true → a.getD 1 0 = 0 ∧ a.getD 2 0 = 0 ∧ a.getD 3 0 = 0 ∧ n = a.getD 0 0) (hno : z = false → ¬ (a.getD 1 0 = 0 ∧ a.getD 2 0 = 0 ∧ a.getD 3 0 = 0) ∧ n = 0#64) : SoundFn Try.prog glB 10 (txA a).run := by
  have G := good_of (P := Try.prog) glB_ro (l := [(45, BytesS), (46, rBytesS), (47, smA a z n), (48, FromS), (49, FromS), (50, decS), (51, decS), (16, OfS), (52, parseS), (53, parseS), (19, livesS)]) (by simp only [List.forall_mem_cons]; exact ⟨Bytes_sound, rBytes_sound, hsm, From_sound, rFrom_sound, dec_sound, rDec_sound, Of_sound, parse_sound, rParse_sound, lives_sound, by simp⟩)
  refine soundFn_of_W G Try.func10 (by decide) rfl (by decide) ?_
  intro ins ret outs h
  unfold txA at h
  dsimp only at h
  split at h
  rotate_left
  · cases h
  rename_i x b s
  obtain ⟨⟨rfl, la, lb, lt⟩, h'⟩ := chk_some h
  clear h
  cases h'
  refine ⟨by show 3 ≤ 130; decide, fun w0 ext av => ?_⟩
  rw [Try.ntmps10, st0_eq]
  have hX := wv_lt x
  have lQ : (bytesL (wv x)).length = 32 := bytesL_len _
  have hQ : wOf (bvk (bytesL (wv x)) 32) = x := by rw [bvk_bytes _ hX, wOf_wv x la]
  obtain ⟨pw, pe⟩ := par_dec hX
  rw [wOf_wv x la] at pw
  have ldl := decD_len hX
  obtain ⟨q, hq⟩ : ∃ q, bytesL (wv x) = q := ⟨_, rfl⟩
  obtain ⟨t, htt⟩ : ∃ t, decD (wv x) = t := ⟨_, rfl⟩
  rw [hq] at lQ hQ
  rw [htt] at pw pe ldl
  have hsq : subL q 0 32 = q := by rw [← lQ]; exact subL_all q
  refine W.seq ?_
  refine W.mid (sL [(1, .sl false (.u 8 b)), (2, .s s), (3, .p 3 0 0 0)] [(3, .agg 4 (.u 64 x))] 130) ?_ ?_
  · repeat' first
      | refine W.seq ?_ | (refine W.regS G ?_; dsimp only) | refine SW.nil ?_ | refine thenQ_normal ?_ | refine W.skip ?_ | refine W.exit ?_ | refine thenQ_exit ?_ | refine inBlockQ_exit ?_ | refine inBlockQ_normal ?_ | refine W.block ?_
      | (apply SW.toC; refine SWcall.go True.intro ?_) | (apply SW.toOp; refine SWop.go True.intro ?_) | (apply SW.toCG; first | refine SWcall.yes True.intro ?_ | refine SWcall.no True.intro ?_) | (apply SW.toG; first | refine SWop.yes True.intro ?_ | refine SWop.no True.intro ?_)
    refine Imp.le ?_
    exact sL_leZ True.intro
  refine W.seq ?_
  refine W.mid (sL [(1, .sl false (.u 8 b)), (2, .s s), (3, .p 3 0 0 0), (7, .p 7 0 0 0), (8, .p 8 0 0 0)] [(3, .agg 4 (.u 64 x)), (7, .agg 32 (.u 8 q)), (8, .agg 32 (.u 8 q))] 130) ?_ ?_
  · skip
    repeat' first
      | refine W.seq ?_ | (refine W.regS G ?_; dsimp only) | refine SW.nil ?_ | refine thenQ_normal ?_ | refine W.skip ?_ | refine W.exit ?_ | refine thenQ_exit ?_ | refine inBlockQ_exit ?_ | refine inBlockQ_normal ?_
      | (apply SW.toC; refine SWcall.go (And.intro BytesS.eq_1 (And.intro rBytesS.eq_1 hq)) ?_) | (apply SW.toOp; refine SWop.go (And.intro BytesS.eq_1 (And.intro rBytesS.eq_1 hq)) ?_) | (apply SW.toCG; first | refine SWcall.yes (And.intro BytesS.eq_1 (And.intro rBytesS.eq_1 hq)) ?_ | refine SWcall.no (And.intro BytesS.eq_1 (And.intro rBytesS.eq_1 hq)) ?_) | (apply SW.toG; first | refine SWop.yes (And.intro BytesS.eq_1 (And.intro rBytesS.eq_1 hq)) ?_ | refine SWop.no (And.intro BytesS.eq_1 (And.intro rBytesS.eq_1 hq)) ?_)
    refine W.drawS G [[], [0], [], [2, 1, 0], [], [], [4, 1, 0, 3, 2, 5], [5, 3, 2, 1, 0, 6, 4]] hmix ?_
    dsimp only
    repeat' first
      | (apply DW.nil; (focus (decide +kernel)))
      | (apply DW.toC; refine DWcall.go (And.intro BytesS.eq_1 (And.intro rBytesS.eq_1 hq)) ?_) | (apply DW.toOp; refine DWop.go (And.intro BytesS.eq_1 (And.intro rBytesS.eq_1 hq)) ?_) | (apply DW.toCG; first | refine DWcall.yes (And.intro BytesS.eq_1 (And.intro rBytesS.eq_1 hq)) ?_ | refine DWcall.no (And.intro BytesS.eq_1 (And.intro rBytesS.eq_1 hq)) ?_) | (apply DW.toG; first | refine DWop.yes (And.intro BytesS.eq_1 (And.intro rBytesS.eq_1 hq)) ?_ | refine DWop.no (And.intro BytesS.eq_1 (And.intro rBytesS.eq_1 hq)) ?_)
    refine Imp.le ?_
    exact sL_leZ (And.intro BytesS.eq_1 (And.intro rBytesS.eq_1 hq))
  refine W.seq ?_
  refine W.mid (sL [(1, .sl false (.u 8 b)), (2, .s s), (3, .p 3 0 0 0), (7, .p 7 0 0 0), (8, .p 8 0 0 0), (9, .u 64 n), (10, .b z)] [(3, .agg 4 (.u 64 x)), (7, .agg 32 (.u 8 q)), (8, .agg 32 (.u 8 q))] 130) ?_ ?_
  · skip
    repeat' first
      | refine W.seq ?_ | (refine W.regS G ?_; dsimp only) | refine SW.nil ?_ | refine thenQ_normal ?_ | refine W.skip ?_ | refine W.exit ?_ | refine thenQ_exit ?_ | refine inBlockQ_exit ?_ | refine inBlockQ_normal ?_ | refine W.block ?_
      | (apply SW.toC; refine SWcall.go smA.eq_1 ?_) | (apply SW.toOp; refine SWop.go smA.eq_1 ?_) | (apply SW.toCG; first | refine SWcall.yes smA.eq_1 ?_ | refine SWcall.no smA.eq_1 ?_) | (apply SW.toG; first | refine SWop.yes smA.eq_1 ?_ | refine SWop.no smA.eq_1 ?_)
    refine Imp.le ?_
    exact sL_leZ smA.eq_1
  refine W.seq ?_
  refine W.mid (sL [(1, .sl false (.u 8 b)), (2, .s s), (3, .p 3 0 0 0), (9, .u 64 n), (10, .b z)] [(3, .agg 4 (.u 64 x))] 130) ?_ ?_
  · skip
    repeat' first
      | refine W.seq ?_ | (refine W.regS G ?_; dsimp only) | refine SW.nil ?_ | refine thenQ_normal ?_ | refine W.skip ?_ | refine W.exit ?_ | refine thenQ_exit ?_ | refine inBlockQ_exit ?_ | refine inBlockQ_normal ?_
      | (apply SW.toC; refine SWcall.go (And.intro FromS.eq_1 (And.intro decS.eq_1 (And.intro la (And.intro lQ (And.intro hQ (And.intro hsq htt)))))) ?_) | (apply SW.toOp; refine SWop.go (And.intro FromS.eq_1 (And.intro decS.eq_1 (And.intro la (And.intro lQ (And.intro hQ (And.intro hsq htt)))))) ?_) | (apply SW.toCG; first | refine SWcall.yes (And.intro FromS.eq_1 (And.intro decS.eq_1 (And.intro la (And.intro lQ (And.intro hQ (And.intro hsq htt)))))) ?_ | refine SWcall.no (And.intro FromS.eq_1 (And.intro decS.eq_1 (And.intro la (And.intro lQ (And.intro hQ (And.intro hsq htt)))))) ?_) | (apply SW.toG; first | refine SWop.yes (And.intro FromS.eq_1 (And.intro decS.eq_1 (And.intro la (And.intro lQ (And.intro hQ (And.intro hsq htt)))))) ?_ | refine SWop.no (And.intro FromS.eq_1 (And.intro decS.eq_1 (And.intro la (And.intro lQ (And.intro hQ (And.intro hsq htt)))))) ?_)
    refine W.drawS G [[], [], [0, 1], [2, 0, 1], [3, 2, 0, 1], [3, 2, 0, 1], [4, 3, 2, 0, 1, 5], [6, 4, 3, 2, 0, 1, 5], [3, 2, 0, 1], [8, 3, 2, 0, 1, 7, 6, 4, 5], [7, 6, 4, 3, 2, 0, 1, 5, 9, 8], [3, 2, 0, 1, 10, 7, 6, 4, 5, 9, 8], [11, 3, 2, 0, 1, 10, 7, 6, 4, 5, 9, 8], [12, 11, 3, 2, 0, 1, 10, 7, 6, 4, 5, 9, 8], [13, 12, 11, 3, 2, 0, 1, 10, 7, 6, 4, 5, 9, 8], [12, 11, 3, 2, 0, 1, 10, 7, 6, 4, 5, 9, 8], [14, 13, 12, 11, 3, 2, 0, 1, 10, 7, 6, 4, 5, 9, 8, 15], [12, 11, 3, 2, 0, 1, 10, 7, 6, 4, 5, 9, 8, 16, 14, 13, 15], [17, 12, 11, 3, 2, 0, 1, 10, 7, 6, 4, 5, 9, 8, 16, 14, 13, 15], [18, 17, 12, 11, 3, 2, 0, 1, 10, 7, 6, 4, 5, 9, 8, 16, 14, 13, 15], [19, 18, 17, 12, 11, 3, 2, 0, 1, 10, 7, 6, 4, 5, 9, 8, 16, 14, 13, 15], [18, 17, 12, 11, 3, 2, 0, 1, 10, 7, 6, 4, 5, 9, 8, 16, 14, 13, 15], [21, 18, 17, 12, 11, 3, 2, 0, 1, 10, 7, 6, 4, 5, 9, 8, 16, 14, 13, 15, 20, 19], [20, 19, 18, 17, 12, 11, 3, 2, 0, 1, 10, 7, 6, 4, 5, 9, 8, 16, 14, 13, 15, 22, 21], [18, 17, 12, 11, 3, 2, 0, 1, 10, 7, 6, 4, 5, 9, 8, 16, 14, 13, 15, 23, 20, 19, 22, 21]] hmix ?_
    dsimp only
    repeat' first
      | (apply DW.nil; (focus (decide +kernel)))
      | (apply DW.toC; refine DWcall.go (And.intro FromS.eq_1 (And.intro decS.eq_1 (And.intro la (And.intro lQ (And.intro hQ (And.intro hsq htt)))))) ?_) | (apply DW.toOp; refine DWop.go (And.intro FromS.eq_1 (And.intro decS.eq_1 (And.intro la (And.intro lQ (And.intro hQ (And.intro hsq htt)))))) ?_) | (apply DW.toCG; first | refine DWcall.yes (And.intro FromS.eq_1 (And.intro decS.eq_1 (And.intro la (And.intro lQ (And.intro hQ (And.intro hsq htt)))))) ?_ | refine DWcall.no (And.intro FromS.eq_1 (And.intro decS.eq_1 (And.intro la (And.intro lQ (And.intro hQ (And.intro hsq htt)))))) ?_) | (apply DW.toG; first | refine DWop.yes (And.intro FromS.eq_1 (And.intro decS.eq_1 (And.intro la (And.intro lQ (And.intro hQ (And.intro hsq htt)))))) ?_ | refine DWop.no (And.intro FromS.eq_1 (And.intro decS.eq_1 (And.intro la (And.intro lQ (And.intro hQ (And.intro hsq htt)))))) ?_)
    repeat' first
      | refine W.seq ?_ | (refine W.regS G ?_; dsimp only) | refine SW.nil ?_ | refine thenQ_normal ?_ | refine W.skip ?_ | refine W.exit ?_ | refine thenQ_exit ?_ | refine inBlockQ_exit ?_ | refine inBlockQ_normal ?_ | refine W.block ?_
      | (apply SW.toC; refine SWcall.go (And.intro FromS.eq_1 (And.intro decS.eq_1 (And.intro la (And.intro lQ (And.intro hQ (And.intro hsq htt)))))) ?_) | (apply SW.toOp; refine SWop.go (And.intro FromS.eq_1 (And.intro decS.eq_1 (And.intro la (And.intro lQ (And.intro hQ (And.intro hsq htt)))))) ?_) | (apply SW.toCG; first | refine SWcall.yes (And.intro FromS.eq_1 (And.intro decS.eq_1 (And.intro la (And.intro lQ (And.intro hQ (And.intro hsq htt)))))) ?_ | refine SWcall.no (And.intro FromS.eq_1 (And.intro decS.eq_1 (And.intro la (And.intro lQ (And.intro hQ (And.intro hsq htt)))))) ?_) | (apply SW.toG; first | refine SWop.yes (And.intro FromS.eq_1 (And.intro decS.eq_1 (And.intro la (And.intro lQ (And.intro hQ (And.intro hsq htt)))))) ?_ | refine SWop.no (And.intro FromS.eq_1 (And.intro decS.eq_1 (And.intro la (And.intro lQ (And.intro hQ (And.intro hsq htt)))))) ?_)
    refine W.condZ G (And.intro FromS.eq_1 (And.intro decS.eq_1 (And.intro la (And.intro lQ (And.intro hQ (And.intro hsq htt)))))) ?_ ?_
    all_goals intro hcc
    · exact absurd hcc (by decide)
    clear hcc
    repeat' first
      | refine W.seq ?_ | (refine W.regS G ?_; dsimp only) | refine SW.nil ?_ | refine thenQ_normal ?_ | refine W.skip ?_ | refine W.exit ?_ | refine thenQ_exit ?_ | refine inBlockQ_exit ?_ | refine inBlockQ_normal ?_ | refine W.block ?_
      | (apply SW.toC; refine SWcall.go (And.intro FromS.eq_1 (And.intro decS.eq_1 (And.intro la (And.intro lQ (And.intro hQ (And.intro hsq htt)))))) ?_) | (apply SW.toOp; refine SWop.go (And.intro FromS.eq_1 (And.intro decS.eq_1 (And.intro la (And.intro lQ (And.intro hQ (And.intro hsq htt)))))) ?_) | (apply SW.toCG; first | refine SWcall.yes (And.intro FromS.eq_1 (And.intro decS.eq_1 (And.intro la (And.intro lQ (And.intro hQ (And.intro hsq htt)))))) ?_ | refine SWcall.no (And.intro FromS.eq_1 (And.intro decS.eq_1 (And.intro la (And.intro lQ (And.intro hQ (And.intro hsq htt)))))) ?_) | (apply SW.toG; first | refine SWop.yes (And.intro FromS.eq_1 (And.intro decS.eq_1 (And.intro la (And.intro lQ (And.intro hQ (And.intro hsq htt)))))) ?_ | refine SWop.no (And.intro FromS.eq_1 (And.intro decS.eq_1 (And.intro la (And.intro lQ (And.intro hQ (And.intro hsq htt)))))) ?_)
    refine Imp.le ?_
    exact sL_leZ (And.intro FromS.eq_1 (And.intro decS.eq_1 (And.intro la (And.intro lQ (And.intro hQ (And.intro hsq htt))))))
  refine W.seq ?_
  refine W.mid (sL [(1, .sl false (.u 8 b)), (2, .s s), (3, .p 3 0 0 0), (9, .u 64 n), (10, .b z), (11, .b z)] [(3, .agg 4 (.u 64 x))] 130) ?_ ?_
  · cases z with
    | true =>
      obtain ⟨y1, y2, y3, _⟩ := hyes rfl
      repeat' first
        | refine W.seq ?_ | (refine W.regS G ?_; dsimp only) | refine SW.nil ?_ | refine thenQ_normal ?_ | refine W.skip ?_ | refine W.exit ?_ | refine thenQ_exit ?_ | refine inBlockQ_exit ?_ | refine inBlockQ_normal ?_ | refine W.block ?_
        | (apply SW.toC; refine SWcall.go (And.intro la (And.intro y1 (And.intro y2 y3))) ?_) | (apply SW.toOp; refine SWop.go (And.intro la (And.intro y1 (And.intro y2 y3))) ?_) | (apply SW.toCG; first | refine SWcall.yes (And.intro la (And.intro y1 (And.intro y2 y3))) ?_ | refine SWcall.no (And.intro la (And.intro y1 (And.intro y2 y3))) ?_) | (apply SW.toG; first | refine SWop.yes (And.intro la (And.intro y1 (And.intro y2 y3))) ?_ | refine SWop.no (And.intro la (And.intro y1 (And.intro y2 y3))) ?_)
      refine Imp.le ?_
      exact sL_leZ (And.intro la (And.intro y1 (And.intro y2 y3)))
    | false =>
      obtain ⟨hn, _⟩ := hno rfl
      by_cases y1 : x.getD 1 0 = 0
      · by_cases y2 : x.getD 2 0 = 0
        · have y3 : ¬ x.getD 3 0 = 0#64 := fun e => hn ⟨y1, y2, e⟩
          have d3 := eq_false y3
          repeat' first
            | refine W.seq ?_ | (refine W.regS G ?_; dsimp only) | refine SW.nil ?_ | refine thenQ_normal ?_ | refine W.skip ?_ | refine W.exit ?_ | refine thenQ_exit ?_ | refine inBlockQ_exit ?_ | refine inBlockQ_normal ?_ | refine W.block ?_
            | (apply SW.toC; refine SWcall.go (And.intro la (And.intro y1 (And.intro y2 d3))) ?_) | (apply SW.toOp; refine SWop.go (And.intro la (And.intro y1 (And.intro y2 d3))) ?_) | (apply SW.toCG; first | refine SWcall.yes (And.intro la (And.intro y1 (And.intro y2 d3))) ?_ | refine SWcall.no (And.intro la (And.intro y1 (And.intro y2 d3))) ?_) | (apply SW.toG; first | refine SWop.yes (And.intro la (And.intro y1 (And.intro y2 d3))) ?_ | refine SWop.no (And.intro la (And.intro y1 (And.intro y2 d3))) ?_)
          refine Imp.le ?_
          exact sL_leZ (And.intro la (And.intro y1 (And.intro y2 d3)))
        · have d2 := eq_false (show ¬ x.getD 2 0 = 0#64 from y2)
          repeat' first
            | refine W.seq ?_ | (refine W.regS G ?_; dsimp only) | refine SW.nil ?_ | refine thenQ_normal ?_ | refine W.skip ?_ | refine W.exit ?_ | refine thenQ_exit ?_ | refine inBlockQ_exit ?_ | refine inBlockQ_normal ?_ | refine W.block ?_
            | (apply SW.toC; refine SWcall.go (And.intro la (And.intro y1 d2)) ?_) | (apply SW.toOp; refine SWop.go (And.intro la (And.intro y1 d2)) ?_) | (apply SW.toCG; first | refine SWcall.yes (And.intro la (And.intro y1 d2)) ?_ | refine SWcall.no (And.intro la (And.intro y1 d2)) ?_) | (apply SW.toG; first | refine SWop.yes (And.intro la (And.intro y1 d2)) ?_ | refine SWop.no (And.intro la (And.intro y1 d2)) ?_)
          refine Imp.le ?_
          exact sL_leZ (And.intro la (And.intro y1 d2))
      · have d1 := eq_false (show ¬ x.getD 1 0 = 0#64 from y1)
        repeat' first
          | refine W.seq ?_ | (refine W.regS G ?_; dsimp only) | refine SW.nil ?_ | refine thenQ_normal ?_ | refine W.skip ?_ | refine W.exit ?_ | refine thenQ_exit ?_ | refine inBlockQ_exit ?_ | refine inBlockQ_normal ?_ | refine W.block ?_
          | (apply SW.toC; refine SWcall.go (And.intro la d1) ?_) | (apply SW.toOp; refine SWop.go (And.intro la d1) ?_) | (apply SW.toCG; first | refine SWcall.yes (And.intro la d1) ?_ | refine SWcall.no (And.intro la d1) ?_) | (apply SW.toG; first | refine SWop.yes (And.intro la d1) ?_ | refine SWop.no (And.intro la d1) ?_)
        refine Imp.le ?_
        exact sL_leZ (And.intro la d1)
  refine W.seq ?_
  refine W.mid (sL [(1, .sl false (.u 8 b)), (2, .s s), (3, .p 3 0 0 0)] [(3, .agg 4 (.u 64 x))] 130) ?_ ?_
  · obtain ⟨X0, hx0⟩ : ∃ X0, x.getD 0 0 = X0 := ⟨_, rfl⟩
    have hof : wOf X0.toNat = (zeros 64 4).set 0 X0 := (wOf_small X0).symm
    cases z with
    | true =>
      obtain ⟨_, _, _, hn⟩ := hyes rfl
      rw [hx0] at hn
      rw [hn]
      repeat' first
        | refine W.seq ?_ | (refine W.regS G ?_; dsimp only) | refine SW.nil ?_ | refine thenQ_normal ?_ | refine W.skip ?_ | refine W.exit ?_ | refine thenQ_exit ?_ | refine inBlockQ_exit ?_ | refine inBlockQ_normal ?_
        | (apply SW.toC; refine SWcall.go (And.intro la (And.intro hx0 (And.intro OfS.eq_1 hof))) ?_) | (apply SW.toOp; refine SWop.go (And.intro la (And.intro hx0 (And.intro OfS.eq_1 hof))) ?_) | (apply SW.toCG; first | refine SWcall.yes (And.intro la (And.intro hx0 (And.intro OfS.eq_1 hof))) ?_ | refine SWcall.no (And.intro la (And.intro hx0 (And.intro OfS.eq_1 hof))) ?_) | (apply SW.toG; first | refine SWop.yes (And.intro la (And.intro hx0 (And.intro OfS.eq_1 hof))) ?_ | refine SWop.no (And.intro la (And.intro hx0 (And.intro OfS.eq_1 hof))) ?_)
      refine W.drawS G [[], [], [0, 1], [2, 0, 1], [3, 2, 0, 1], [4, 3, 2, 0, 1], [5, 4, 3, 2, 0, 1], [5, 4, 3, 2, 0, 1], [7, 5, 4, 3, 2, 0, 1], [6, 5, 4, 3, 2, 0, 1, 8, 7], [5, 4, 3, 2, 0, 1, 9, 6, 8, 7], [3, 2, 0, 1, 10, 5, 4, 9, 6, 8, 7], [11, 3, 2, 0, 1, 10, 5, 4, 9, 6, 8, 7], [12, 11, 3, 2, 0, 1, 10, 5, 4, 9, 6, 8, 7], [13, 12, 11, 3, 2, 0, 1, 10, 5, 4, 9, 6, 8, 7], [14, 13, 12, 11, 3, 2, 0, 1, 10, 5, 4, 9, 6, 8, 7], [15, 14, 13, 12, 11, 3, 2, 0, 1, 10, 5, 4, 9, 6, 8, 7], [16, 15, 14, 13, 12, 11, 3, 2, 0, 1, 10, 5, 4, 9, 6, 8, 7], [15, 14, 13, 12, 11, 3, 2, 0, 1, 10, 5, 4, 9, 6, 8, 7, 17, 16], [12, 11, 3, 2, 0, 1, 10, 5, 4, 9, 6, 8, 7, 18, 15, 14, 13, 17, 16], [19, 12, 11, 3, 2, 0, 1, 10, 5, 4, 9, 6, 8, 7, 18, 15, 14, 13, 17, 16], [20, 19, 12, 11, 3, 2, 0, 1, 10, 5, 4, 9, 6, 8, 7, 18, 15, 14, 13, 17, 16], [21, 20, 19, 12, 11, 3, 2, 0, 1, 10, 5, 4, 9, 6, 8, 7, 18, 15, 14, 13, 17, 16], [22, 21, 20, 19, 12, 11, 3, 2, 0, 1, 10, 5, 4, 9, 6, 8, 7, 18, 15, 14, 13, 17, 16], [20, 19, 12, 11, 3, 2, 0, 1, 10, 5, 4, 9, 6, 8, 7, 18, 15, 14, 13, 17, 16], [24, 20, 19, 12, 11, 3, 2, 0, 1, 10, 5, 4, 9, 6, 8, 7, 18, 15, 14, 13, 17, 16], [25, 24, 20, 19, 12, 11, 3, 2, 0, 1, 10, 5, 4, 9, 6, 8, 7, 18, 15, 14, 13, 17, 16], [23, 22, 21, 20, 19, 12, 11, 3, 2, 0, 1, 10, 5, 4, 9, 6, 8, 7, 18, 15, 14, 13, 17, 16, 26, 25, 24], [20, 19, 12, 11, 3, 2, 0, 1, 10, 5, 4, 9, 6, 8, 7, 18, 15, 14, 13, 17, 16, 27, 23, 22, 21, 26, 25, 24]] hmix ?_
      dsimp only
      repeat' first
        | (apply DW.nil; (focus (decide +kernel)))
        | (apply DW.toC; refine DWcall.go (And.intro la (And.intro hx0 (And.intro OfS.eq_1 hof))) ?_) | (apply DW.toOp; refine DWop.go (And.intro la (And.intro hx0 (And.intro OfS.eq_1 hof))) ?_) | (apply DW.toCG; first | refine DWcall.yes (And.intro la (And.intro hx0 (And.intro OfS.eq_1 hof))) ?_ | refine DWcall.no (And.intro la (And.intro hx0 (And.intro OfS.eq_1 hof))) ?_) | (apply DW.toG; first | refine DWop.yes (And.intro la (And.intro hx0 (And.intro OfS.eq_1 hof))) ?_ | refine DWop.no (And.intro la (And.intro hx0 (And.intro OfS.eq_1 hof))) ?_)
      repeat' first
        | refine W.seq ?_ | (refine W.regS G ?_; dsimp only) | refine SW.nil ?_ | refine thenQ_normal ?_ | refine W.skip ?_ | refine W.exit ?_ | refine thenQ_exit ?_ | refine inBlockQ_exit ?_ | refine inBlockQ_normal ?_ | refine W.block ?_
        | (apply SW.toC; refine SWcall.go (And.intro la (And.intro hx0 (And.intro OfS.eq_1 hof))) ?_) | (apply SW.toOp; refine SWop.go (And.intro la (And.intro hx0 (And.intro OfS.eq_1 hof))) ?_) | (apply SW.toCG; first | refine SWcall.yes (And.intro la (And.intro hx0 (And.intro OfS.eq_1 hof))) ?_ | refine SWcall.no (And.intro la (And.intro hx0 (And.intro OfS.eq_1 hof))) ?_) | (apply SW.toG; first | refine SWop.yes (And.intro la (And.intro hx0 (And.intro OfS.eq_1 hof))) ?_ | refine SWop.no (And.intro la (And.intro hx0 (And.intro OfS.eq_1 hof))) ?_)
      refine W.condZ G (And.intro la (And.intro hx0 (And.intro OfS.eq_1 hof))) ?_ ?_
      all_goals intro hcc
      · exact absurd hcc (by decide)
      clear hcc
      repeat' first
        | refine W.seq ?_ | (refine W.regS G ?_; dsimp only) | refine SW.nil ?_ | refine thenQ_normal ?_ | refine W.skip ?_ | refine W.exit ?_ | refine thenQ_exit ?_ | refine inBlockQ_exit ?_ | refine inBlockQ_normal ?_ | refine W.block ?_
        | (apply SW.toC; refine SWcall.go (And.intro la (And.intro hx0 (And.intro OfS.eq_1 hof))) ?_) | (apply SW.toOp; refine SWop.go (And.intro la (And.intro hx0 (And.intro OfS.eq_1 hof))) ?_) | (apply SW.toCG; first | refine SWcall.yes (And.intro la (And.intro hx0 (And.intro OfS.eq_1 hof))) ?_ | refine SWcall.no (And.intro la (And.intro hx0 (And.intro OfS.eq_1 hof))) ?_) | (apply SW.toG; first | refine SWop.yes (And.intro la (And.intro hx0 (And.intro OfS.eq_1 hof))) ?_ | refine SWop.no (And.intro la (And.intro hx0 (And.intro OfS.eq_1 hof))) ?_)
      refine Imp.le ?_
      exact sL_leZ (And.intro la (And.intro hx0 (And.intro OfS.eq_1 hof)))
    | false =>
      obtain ⟨_, hn⟩ := hno rfl
      rw [hn]
      repeat' first
        | refine W.seq ?_ | (refine W.regS G ?_; dsimp only) | refine SW.nil ?_ | refine thenQ_normal ?_ | refine W.skip ?_ | refine W.exit ?_ | refine thenQ_exit ?_ | refine inBlockQ_exit ?_ | refine inBlockQ_normal ?_
        | (apply SW.toC; refine SWcall.go (And.intro la (And.intro hx0 (And.intro OfS.eq_1 hof))) ?_) | (apply SW.toOp; refine SWop.go (And.intro la (And.intro hx0 (And.intro OfS.eq_1 hof))) ?_) | (apply SW.toCG; first | refine SWcall.yes (And.intro la (And.intro hx0 (And.intro OfS.eq_1 hof))) ?_ | refine SWcall.no (And.intro la (And.intro hx0 (And.intro OfS.eq_1 hof))) ?_) | (apply SW.toG; first | refine SWop.yes (And.intro la (And.intro hx0 (And.intro OfS.eq_1 hof))) ?_ | refine SWop.no (And.intro la (And.intro hx0 (And.intro OfS.eq_1 hof))) ?_)
      refine W.drawS G [[], [], [0, 1], [2, 0, 1], [3, 2, 0, 1], [4, 3, 2, 0, 1], [5, 4, 3, 2, 0, 1], [5, 4, 3, 2, 0, 1], [7, 5, 4, 3, 2, 0, 1], [6, 5, 4, 3, 2, 0, 1, 8, 7], [5, 4, 3, 2, 0, 1, 9, 6, 8, 7], [3, 2, 0, 1, 10, 5, 4, 9, 6, 8, 7], [11, 3, 2, 0, 1, 10, 5, 4, 9, 6, 8, 7], [12, 11, 3, 2, 0, 1, 10, 5, 4, 9, 6, 8, 7], [13, 12, 11, 3, 2, 0, 1, 10, 5, 4, 9, 6, 8, 7], [14, 13, 12, 11, 3, 2, 0, 1, 10, 5, 4, 9, 6, 8, 7], [15, 14, 13, 12, 11, 3, 2, 0, 1, 10, 5, 4, 9, 6, 8, 7], [16, 15, 14, 13, 12, 11, 3, 2, 0, 1, 10, 5, 4, 9, 6, 8, 7], [15, 14, 13, 12, 11, 3, 2, 0, 1, 10, 5, 4, 9, 6, 8, 7, 17, 16], [12, 11, 3, 2, 0, 1, 10, 5, 4, 9, 6, 8, 7, 18, 15, 14, 13, 17, 16], [19, 12, 11, 3, 2, 0, 1, 10, 5, 4, 9, 6, 8, 7, 18, 15, 14, 13, 17, 16], [20, 19, 12, 11, 3, 2, 0, 1, 10, 5, 4, 9, 6, 8, 7, 18, 15, 14, 13, 17, 16], [21, 20, 19, 12, 11, 3, 2, 0, 1, 10, 5, 4, 9, 6, 8, 7, 18, 15, 14, 13, 17, 16], [22, 21, 20, 19, 12, 11, 3, 2, 0, 1, 10, 5, 4, 9, 6, 8, 7, 18, 15, 14, 13, 17, 16], [20, 19, 12, 11, 3, 2, 0, 1, 10, 5, 4, 9, 6, 8, 7, 18, 15, 14, 13, 17, 16], [24, 20, 19, 12, 11, 3, 2, 0, 1, 10, 5, 4, 9, 6, 8, 7, 18, 15, 14, 13, 17, 16], [25, 24, 20, 19, 12, 11, 3, 2, 0, 1, 10, 5, 4, 9, 6, 8, 7, 18, 15, 14, 13, 17, 16], [23, 22, 21, 20, 19, 12, 11, 3, 2, 0, 1, 10, 5, 4, 9, 6, 8, 7, 18, 15, 14, 13, 17, 16, 26, 25, 24], [20, 19, 12, 11, 3, 2, 0, 1, 10, 5, 4, 9, 6, 8, 7, 18, 15, 14, 13, 17, 16, 27, 23, 22, 21, 26, 25, 24]] hmix ?_
      dsimp only
      repeat' first
        | (apply DW.nil; (focus (decide +kernel)))
        | (apply DW.toC; refine DWcall.go (And.intro la (And.intro hx0 (And.intro OfS.eq_1 hof))) ?_) | (apply DW.toOp; refine DWop.go (And.intro la (And.intro hx0 (And.intro OfS.eq_1 hof))) ?_) | (apply DW.toCG; first | refine DWcall.yes (And.intro la (And.intro hx0 (And.intro OfS.eq_1 hof))) ?_ | refine DWcall.no (And.intro la (And.intro hx0 (And.intro OfS.eq_1 hof))) ?_) | (apply DW.toG; first | refine DWop.yes (And.intro la (And.intro hx0 (And.intro OfS.eq_1 hof))) ?_ | refine DWop.no (And.intro la (And.intro hx0 (And.intro OfS.eq_1 hof))) ?_)
      repeat' first
        | refine W.seq ?_ | (refine W.regS G ?_; dsimp only) | refine SW.nil ?_ | refine thenQ_normal ?_ | refine W.skip ?_ | refine W.exit ?_ | refine thenQ_exit ?_ | refine inBlockQ_exit ?_ | refine inBlockQ_normal ?_ | refine W.block ?_
        | (apply SW.toC; refine SWcall.go (And.intro la (And.intro hx0 (And.intro OfS.eq_1 hof))) ?_) | (apply SW.toOp; refine SWop.go (And.intro la (And.intro hx0 (And.intro OfS.eq_1 hof))) ?_) | (apply SW.toCG; first | refine SWcall.yes (And.intro la (And.intro hx0 (And.intro OfS.eq_1 hof))) ?_ | refine SWcall.no (And.intro la (And.intro hx0 (And.intro OfS.eq_1 hof))) ?_) | (apply SW.toG; first | refine SWop.yes (And.intro la (And.intro hx0 (And.intro OfS.eq_1 hof))) ?_ | refine SWop.no (And.intro la (And.intro hx0 (And.intro OfS.eq_1 hof))) ?_)
      refine W.condZ G (And.intro la (And.intro hx0 (And.intro OfS.eq_1 hof))) ?_ ?_
      all_goals intro hcc
      · exact absurd hcc (by decide)
      clear hcc
      repeat' first
        | refine W.seq ?_ | (refine W.regS G ?_; dsimp only) | refine SW.nil ?_ | refine thenQ_normal ?_ | refine W.skip ?_ | refine W.exit ?_ | refine thenQ_exit ?_ | refine inBlockQ_exit ?_ | refine inBlockQ_normal ?_ | refine W.block ?_
        | (apply SW.toC; refine SWcall.go (And.intro la (And.intro hx0 (And.intro OfS.eq_1 hof))) ?_) | (apply SW.toOp; refine SWop.go (And.intro la (And.intro hx0 (And.intro OfS.eq_1 hof))) ?_) | (apply SW.toCG; first | refine SWcall.yes (And.intro la (And.intro hx0 (And.intro OfS.eq_1 hof))) ?_ | refine SWcall.no (And.intro la (And.intro hx0 (And.intro OfS.eq_1 hof))) ?_) | (apply SW.toG; first | refine SWop.yes (And.intro la (And.intro hx0 (And.intro OfS.eq_1 hof))) ?_ | refine SWop.no (And.intro la (And.intro hx0 (And.intro OfS.eq_1 hof))) ?_)
      refine Imp.le ?_
      exact sL_leZ (And.intro la (And.intro hx0 (And.intro OfS.eq_1 hof)))
  repeat' first
    | refine W.seq ?_ | (refine W.regS G ?_; dsimp only) | refine SW.nil ?_ | refine thenQ_normal ?_ | refine W.skip ?_ | refine W.exit ?_ | refine thenQ_exit ?_ | refine inBlockQ_exit ?_ | refine inBlockQ_normal ?_ | refine W.block ?_
    | (apply SW.toC; refine SWcall.go (And.intro parseS.eq_1 (And.intro decS.eq_1 (And.intro la (And.intro htt (And.intro pw (And.intro pe livesS.eq_1)))))) ?_) | (apply SW.toOp; refine SWop.go (And.intro parseS.eq_1 (And.intro decS.eq_1 (And.intro la (And.intro htt (And.intro pw (And.intro pe livesS.eq_1)))))) ?_) | (apply SW.toCG; first | refine SWcall.yes (And.intro parseS.eq_1 (And.intro decS.eq_1 (And.intro la (And.intro htt (And.intro pw (And.intro pe livesS.eq_1)))))) ?_ | refine SWcall.no (And.intro parseS.eq_1 (And.intro decS.eq_1 (And.intro la (And.intro htt (And.intro pw (And.intro pe livesS.eq_1)))))) ?_) | (apply SW.toG; first | refine SWop.yes (And.intro parseS.eq_1 (And.intro decS.eq_1 (And.intro la (And.intro htt (And.intro pw (And.intro pe livesS.eq_1)))))) ?_ | refine SWop.no (And.intro parseS.eq_1 (And.intro decS.eq_1 (And.intro la (And.intro htt (And.intro pw (And.intro pe livesS.eq_1)))))) ?_)
  refine W.ret ?_
  repeat' first
    | refine thenQ_ret ?_
    | refine inBlockQ_ret ?_
  refine fin1Z (And.intro parseS.eq_1 (And.intro decS.eq_1 (And.intro la (And.intro htt (And.intro pw (And.intro pe livesS.eq_1)))))) ?_
  exact leV_refl
noncomputable def textsS : FSpec := { run := fun ins => match ins with
  | [.agg 4 (.u 64 x), .sl false (.u 8 b), .s s] => chk (x.length = 4 ∧ b.length ≤ 140737488355328 ∧ s.length ≤ 140737488355328) (some (.b true, []))
  | _ => none }
theorem texts_sound : SoundFn Try.prog glB 10 textsS.run := by
  intro ins ret outs h
  unfold textsS at h
  dsimp only at h
  split at h
  rotate_left
  · cases h
  rename_i a b s
  obtain ⟨⟨la, lb, ls⟩, h2⟩ := chk_some h
  have key : (txA a).run [.agg 4 (.u 64 a), .sl false (.u 8 b), .s s] = some (ret, outs) := (chk_ok ⟨rfl, la, lb, ls⟩).trans h2
  by_cases hz : a.getD 1 0 ||| a.getD 2 0 ||| a.getD 3 0 = 0
  · refine texts_at a true (a.getD 0 0) (smA_yes a hz) (fun _ => ?_) (fun c => by cases c) _ _ _ key
    obtain ⟨h12, h3⟩ := or_z hz
    obtain ⟨h1, h2⟩ := or_z h12
    exact ⟨h1, h2, h3, rfl⟩
  · refine texts_at a false 0#64 (smA_no a hz) (fun c => by cases c) (fun _ => ⟨fun c => hz ?_, rfl⟩) _ _ _ key
    rw [c.1, c.2.1, c.2.2]
    decide
end Go.Vm.C01

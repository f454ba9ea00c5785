/- What some functions of the program compute, walked through once. -/
import Derived.Test.YtmanmhalbfbdmaaDoorCF
namespace Go.Vm.C05
open Go Go.Proofs
set_option linter.unusedVariables false
set_option linter.unusedSimpArgs false
set_option maxRecDepth 100000
set_option maxHeartbeats 8000000

noncomputable def sumsS : FSpec := { run := fun ins => match ins with
  | [.sl false (.u 8 b)] => chk (b.length ≤ 140737488351232) (some (.b true, []))
  | _ => none }
theorem sums_sound : SoundFn Tryd.prog glB 3 sumsS.run := by
  have G := good_of (P := Tryd.prog) glB_ro (l := [(6, sumS), (7, rsumS), (8, liveS)]) (by simp only [List.forall_mem_cons]; exact ⟨sum_sound, rsum_sound, lives_sound, by simp⟩)
  refine soundFn_of_W G Tryd.func3 (by decide) rfl (by decide) ?_
  intro ins ret outs h
  unfold sumsS at h
  dsimp only at h
  split at h
  rotate_left
  · cases h
  rename_i b
  obtain ⟨hb, h'⟩ := chk_some h
  clear h
  cases h'
  refine ⟨by show 1 ≤ 13; decide, fun w0 ext av => ?_⟩
  rw [Tryd.ntmps3, st0_eq]
  have e1 := sum_eq b
  repeat' first
    | refine W.seq ?_ | (refine W.regS G ?_; dsimp only) | refine SW.nil ?_ | refine thenQ_normal ?_ | refine W.skip ?_ | refine W.exit ?_ | refine thenQ_exit ?_ | refine inBlockQ_exit ?_ | refine inBlockQ_normal ?_ | refine W.block ?_
    | (apply SW.toC; refine SWcall.go (And.intro sumS.eq_1 (And.intro rsumS.eq_1 (And.intro e1 liveS.eq_1))) ?_) | (apply SW.toOp; refine SWop.go (And.intro sumS.eq_1 (And.intro rsumS.eq_1 (And.intro e1 liveS.eq_1))) ?_) | (apply SW.toCG; first | refine SWcall.yes (And.intro sumS.eq_1 (And.intro rsumS.eq_1 (And.intro e1 liveS.eq_1))) ?_ | refine SWcall.no (And.intro sumS.eq_1 (And.intro rsumS.eq_1 (And.intro e1 liveS.eq_1))) ?_) | (apply SW.toG; first | refine SWop.yes (And.intro sumS.eq_1 (And.intro rsumS.eq_1 (And.intro e1 liveS.eq_1))) ?_ | refine SWop.no (And.intro sumS.eq_1 (And.intro rsumS.eq_1 (And.intro e1 liveS.eq_1))) ?_)
  refine W.ret ?_
  repeat' first
    | refine thenQ_ret ?_
    | refine inBlockQ_ret ?_
  refine fin1Z (And.intro sumS.eq_1 (And.intro rsumS.eq_1 (And.intro e1 liveS.eq_1))) ?_
  exact leV_refl

def bx (b : List (BitVec 8)) (k : Nat) : List (BitVec 8) := itN (fun i x => x.set i (b.getD i 0)) k (zeros 8 64)
theorem bx_len (b : List (BitVec 8)) (k : Nat) : (bx b k).length = 64 := itN_inv (p := fun (t : List (BitVec 8)) => t.length = 64) (fun _ _ h => by simpa using h) k rfl
noncomputable def blocksS : FSpec := { run := fun ins => match ins with
  | [.agg 5 (.u 32 h), .sl false (.u 8 b)] => chk (b.length ≤ 140737488351232) (some (.b true, []))
  | _ => none }
theorem blocks_sound : SoundFn Tryd.prog glB 4 blocksS.run := by
  have G := good_of (P := Tryd.prog) glB_ro (l := [(9, blockS), (10, rblockS), (8, liveS)]) (by simp only [List.forall_mem_cons]; exact ⟨block_sound, rblock_sound, lives_sound, by simp⟩)
  refine soundFn_of_W G Tryd.func4 (by decide) rfl (by decide) ?_
  intro ins ret outs h
  unfold blocksS at h
  dsimp only at h
  split at h
  rotate_left
  · cases h
  rename_i h b
  obtain ⟨hb, h'⟩ := chk_some h
  clear h
  cases h'
  refine ⟨by show 2 ≤ 34; decide, fun w0 ext av => ?_⟩
  rw [Tryd.ntmps4, st0_eq]
  obtain ⟨N, hN⟩ : ∃ N, min b.length 64 = N := ⟨_, rfl⟩
  repeat' first
    | refine W.seq ?_ | (refine W.regS G ?_; dsimp only) | refine SW.nil ?_ | refine thenQ_normal ?_ | refine W.skip ?_ | refine W.exit ?_ | refine thenQ_exit ?_ | refine inBlockQ_exit ?_ | refine inBlockQ_normal ?_
    | (apply SW.toC; refine SWcall.go True.intro ?_) | (apply SW.toOp; refine SWop.go True.intro ?_) | (apply SW.toCG; first | refine SWcall.yes True.intro ?_ | refine SWcall.no True.intro ?_) | (apply SW.toG; first | refine SWop.yes True.intro ?_ | refine SWop.no True.intro ?_)
  refine W.mid (sL [(2, .p 2 0 0 0), (5, .p 5 0 0 0)] [(2, .agg 5 (.u 32 h)), (5, .agg 64 (.u 8 (bx b N)))] 34) ?_ ?_
  · repeat' first
      | refine W.seq ?_ | (refine W.regS G ?_; dsimp only) | refine SW.nil ?_ | refine thenQ_normal ?_ | refine W.skip ?_ | refine W.exit ?_ | refine thenQ_exit ?_ | refine inBlockQ_exit ?_ | refine inBlockQ_normal ?_ | refine W.block ?_
      | (apply SW.toC; refine SWcall.go True.intro ?_) | (apply SW.toOp; refine SWop.go True.intro ?_) | (apply SW.toCG; first | refine SWcall.yes True.intro ?_ | refine SWcall.no True.intro ?_) | (apply SW.toG; first | refine SWop.yes True.intro ?_ | refine SWop.no True.intro ?_)
    refine W.loopI (ι := {i : Nat // i ≤ N}) (fun i => sL [(1, .sl false (.u 8 b)), (2, .p 2 0 0 0), (5, .p 5 0 0 0), (6, .i i.1)] [(2, .agg 5 (.u 32 h)), (5, .agg 64 (.u 8 (bx b i.1)))] 34) (fun i => N - i.1) ⟨0, Nat.zero_le _⟩ (Imp.le ?_) ?_
    · exact sL_leZ True.intro
    rintro ⟨i, hi⟩
    have e : bx b (i + 1) = (bx b i).set i (b.getD i 0) := itN_succ _ _ _
    have hend : i = N → bx b N = bx b i := by rintro rfl; rfl
    generalize bx b i = x at e hend ⊢
    by_cases h1 : i < b.length
    · have h1' : ((i : Int) < b.length) = True := eq_true (by omega)
      by_cases h2 : i < 64
      · have h2' : ((i : Int) < 64) = True := eq_true (by omega)
        repeat' first
          | refine W.seq ?_ | (refine W.regS G ?_; dsimp only) | refine SW.nil ?_ | refine thenQ_normal ?_ | refine W.skip ?_ | refine W.exit ?_ | refine thenQ_exit ?_ | refine inBlockQ_exit ?_ | refine inBlockQ_normal ?_ | refine W.block ?_
          | (apply SW.toC; refine SWcall.go (And.intro h1' h2') ?_) | (apply SW.toOp; refine SWop.go (And.intro h1' h2') ?_) | (apply SW.toCG; first | refine SWcall.yes (And.intro h1' h2') ?_ | refine SWcall.no (And.intro h1' h2') ?_) | (apply SW.toG; first | refine SWop.yes (And.intro h1' h2') ?_ | refine SWop.no (And.intro h1' h2') ?_)
        refine W.condZ G (And.intro h1' h2') ?_ ?_
        all_goals intro hc
        · repeat' first
            | refine W.seq ?_ | (refine W.regS G ?_; dsimp only) | refine SW.nil ?_ | refine thenQ_normal ?_ | refine W.skip ?_ | refine W.exit ?_ | refine thenQ_exit ?_ | refine inBlockQ_exit ?_ | refine inBlockQ_normal ?_ | refine W.block ?_
            | (apply SW.toC; refine SWcall.go (And.intro h1' h2') ?_) | (apply SW.toOp; refine SWop.go (And.intro h1' h2') ?_) | (apply SW.toCG; first | refine SWcall.yes (And.intro h1' h2') ?_ | refine SWcall.no (And.intro h1' h2') ?_) | (apply SW.toG; first | refine SWop.yes (And.intro h1' h2') ?_ | refine SWop.no (And.intro h1' h2') ?_)
          refine ⟨⟨i + 1, by omega⟩, Imp.le ?_, by show _ - (i + 1) < _ - i; omega⟩
          exact sL_leZ (And.intro e (And.intro h1' h2'))
        · cases hc
      · have h2' : ((i : Int) < 64) = False := eq_false (by omega)
        have hh := hend (by omega)
        repeat' first
          | refine W.seq ?_ | (refine W.regS G ?_; dsimp only) | refine SW.nil ?_ | refine thenQ_normal ?_ | refine W.skip ?_ | refine W.exit ?_ | refine thenQ_exit ?_ | refine inBlockQ_exit ?_ | refine inBlockQ_normal ?_ | refine W.block ?_
          | (apply SW.toC; refine SWcall.go (And.intro h1' h2') ?_) | (apply SW.toOp; refine SWop.go (And.intro h1' h2') ?_) | (apply SW.toCG; first | refine SWcall.yes (And.intro h1' h2') ?_ | refine SWcall.no (And.intro h1' h2') ?_) | (apply SW.toG; first | refine SWop.yes (And.intro h1' h2') ?_ | refine SWop.no (And.intro h1' h2') ?_)
        refine W.condZ G (And.intro h1' h2') ?_ ?_
        all_goals intro hc
        · cases hc
        repeat' first
          | refine W.seq ?_ | (refine W.regS G ?_; dsimp only) | refine SW.nil ?_ | refine thenQ_normal ?_ | refine W.skip ?_ | refine W.exit ?_ | refine thenQ_exit ?_ | refine inBlockQ_exit ?_ | refine inBlockQ_normal ?_ | refine W.block ?_
          | (apply SW.toC; refine SWcall.go (And.intro h1' h2') ?_) | (apply SW.toOp; refine SWop.go (And.intro h1' h2') ?_) | (apply SW.toCG; first | refine SWcall.yes (And.intro h1' h2') ?_ | refine SWcall.no (And.intro h1' h2') ?_) | (apply SW.toG; first | refine SWop.yes (And.intro h1' h2') ?_ | refine SWop.no (And.intro h1' h2') ?_)
        refine Imp.le ?_
        exact sL_leZ (And.intro hh (And.intro h1' h2'))
    · have h1' : ((i : Int) < b.length) = False := eq_false (by omega)
      have hh := hend (by omega)
      repeat' first
        | refine W.seq ?_ | (refine W.regS G ?_; dsimp only) | refine SW.nil ?_ | refine thenQ_normal ?_ | refine W.skip ?_ | refine W.exit ?_ | refine thenQ_exit ?_ | refine inBlockQ_exit ?_ | refine inBlockQ_normal ?_ | refine W.block ?_
        | (apply SW.toC; refine SWcall.go h1' ?_) | (apply SW.toOp; refine SWop.go h1' ?_) | (apply SW.toCG; first | refine SWcall.yes h1' ?_ | refine SWcall.no h1' ?_) | (apply SW.toG; first | refine SWop.yes h1' ?_ | refine SWop.no h1' ?_)
      refine W.condZ G h1' ?_ ?_
      all_goals intro hc
      · cases hc
      repeat' first
        | refine W.seq ?_ | (refine W.regS G ?_; dsimp only) | refine SW.nil ?_ | refine thenQ_normal ?_ | refine W.skip ?_ | refine W.exit ?_ | refine thenQ_exit ?_ | refine inBlockQ_exit ?_ | refine inBlockQ_normal ?_ | refine W.block ?_
        | (apply SW.toC; refine SWcall.go h1' ?_) | (apply SW.toOp; refine SWop.go h1' ?_) | (apply SW.toCG; first | refine SWcall.yes h1' ?_ | refine SWcall.no h1' ?_) | (apply SW.toG; first | refine SWop.yes h1' ?_ | refine SWop.no h1' ?_)
      refine Imp.le ?_
      exact sL_leZ (And.intro hh h1')
  have lx := bx_len b N
  generalize bx b N = x at lx ⊢
  have eb := (block_eq h x).symm
  repeat' first
    | refine W.seq ?_ | (refine W.regS G ?_; dsimp only) | refine SW.nil ?_ | refine thenQ_normal ?_ | refine W.skip ?_ | refine W.exit ?_ | refine thenQ_exit ?_ | refine inBlockQ_exit ?_ | refine inBlockQ_normal ?_
    | (apply SW.toC; refine SWcall.go True.intro ?_) | (apply SW.toOp; refine SWop.go True.intro ?_) | (apply SW.toCG; first | refine SWcall.yes True.intro ?_ | refine SWcall.no True.intro ?_) | (apply SW.toG; first | refine SWop.yes True.intro ?_ | refine SWop.no True.intro ?_)
  refine W.drawS G [[], [], [0, 1], [], [], [3, 4, 2, 0, 1], [2, 0, 1, 5, 3, 4], [6, 2, 0, 1, 5, 3, 4], [7, 6, 2, 0, 1, 5, 3, 4], [7, 6, 2, 0, 1, 5, 3, 4, 8], [9, 7, 6, 2, 0, 1, 5, 3, 4, 8]] hmix ?_
  dsimp only
  repeat' first
    | (apply DW.nil; (focus (decide +kernel)))
    | (apply DW.toC; refine DWcall.go (And.intro blockS.eq_1 (And.intro rblockS.eq_1 (And.intro lx (And.intro eb liveS.eq_1)))) ?_) | (apply DW.toOp; refine DWop.go (And.intro blockS.eq_1 (And.intro rblockS.eq_1 (And.intro lx (And.intro eb liveS.eq_1)))) ?_) | (apply DW.toCG; first | refine DWcall.yes (And.intro blockS.eq_1 (And.intro rblockS.eq_1 (And.intro lx (And.intro eb liveS.eq_1)))) ?_ | refine DWcall.no (And.intro blockS.eq_1 (And.intro rblockS.eq_1 (And.intro lx (And.intro eb liveS.eq_1)))) ?_) | (apply DW.toG; first | refine DWop.yes (And.intro blockS.eq_1 (And.intro rblockS.eq_1 (And.intro lx (And.intro eb liveS.eq_1)))) ?_ | refine DWop.no (And.intro blockS.eq_1 (And.intro rblockS.eq_1 (And.intro lx (And.intro eb liveS.eq_1)))) ?_)
  repeat' first
    | refine W.seq ?_ | (refine W.regS G ?_; dsimp only) | refine SW.nil ?_ | refine thenQ_normal ?_ | refine W.skip ?_ | refine W.exit ?_ | refine thenQ_exit ?_ | refine inBlockQ_exit ?_ | refine inBlockQ_normal ?_ | refine W.block ?_
    | (apply SW.toC; refine SWcall.go True.intro ?_) | (apply SW.toOp; refine SWop.go True.intro ?_) | (apply SW.toCG; first | refine SWcall.yes True.intro ?_ | refine SWcall.no True.intro ?_) | (apply SW.toG; first | refine SWop.yes True.intro ?_ | refine SWop.no True.intro ?_)
  refine W.ret ?_
  repeat' first
    | refine thenQ_ret ?_
    | refine inBlockQ_ret ?_
  refine fin1Z True.intro ?_
  exact leV_refl
end Go.Vm.C05

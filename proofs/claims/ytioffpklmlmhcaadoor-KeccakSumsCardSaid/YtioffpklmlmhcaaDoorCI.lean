/- What some functions of the program compute, walked through once. -/
import Derived.Test.YtioffpklmlmhcaaDoorCH
namespace Go.Vm.C03
open Go Go.Proofs
set_option linter.unusedVariables false
set_option linter.unusedSimpArgs false
set_option maxRecDepth 100000
set_option maxHeartbeats 8000000

noncomputable def liveS : FSpec := { run := fun ins => match ins with
  | [] => some (.b true, [])
  | _ => none }
theorem live_h : (sumF []).getD 0 0 = 197#8 ∧ (sumF []).getD 1 0 = 210#8 ∧ (sumF []).getD 31 0 = 112#8 := by decide +kernel
theorem lives_sound : SoundFn Tryd.prog glB 11 liveS.run := by
  have G := good_of (P := Tryd.prog) glB_ro (l := [(7, sumS)]) (by simp only [List.forall_mem_cons]; exact ⟨sum_sound, by simp⟩)
  refine soundFn_of_W G Tryd.func11 (by decide) rfl (by decide) ?_
  intro ins ret outs h
  unfold liveS at h
  dsimp only at h
  split at h
  rotate_left
  · cases h
  cases h
  refine ⟨by show 0 ≤ 16; decide, fun w0 ext av => ?_⟩
  rw [Tryd.ntmps11, st0_eq]
  have h1 := live_h
  generalize hs0 : sumF [] = S at h1
  repeat' first
    | refine W.seq ?_ | (refine W.regS G ?_; dsimp only) | refine SW.nil ?_ | refine thenQ_normal ?_ | refine W.skip ?_ | refine W.exit ?_ | refine thenQ_exit ?_ | refine inBlockQ_exit ?_ | refine inBlockQ_normal ?_ | refine W.block ?_
    | (apply SW.toC; refine SWcall.go (And.intro sumS.eq_1 (And.intro hs0 h1)) ?_) | (apply SW.toOp; refine SWop.go (And.intro sumS.eq_1 (And.intro hs0 h1)) ?_) | (apply SW.toCG; first | refine SWcall.yes (And.intro sumS.eq_1 (And.intro hs0 h1)) ?_ | refine SWcall.no (And.intro sumS.eq_1 (And.intro hs0 h1)) ?_) | (apply SW.toG; first | refine SWop.yes (And.intro sumS.eq_1 (And.intro hs0 h1)) ?_ | refine SWop.no (And.intro sumS.eq_1 (And.intro hs0 h1)) ?_)
  refine W.ret ?_
  repeat' first
    | refine thenQ_ret ?_
    | refine inBlockQ_ret ?_
  refine fin1Z (And.intro sumS.eq_1 (And.intro hs0 h1)) ?_
  exact leV_refl

/-! ### the hash of bytes, the document's way -/
def padK (L : Nat) : Nat := (136 - (L + 1) % 136) % 136
def padM (b : List (BitVec 8)) (k : Nat) : List (BitVec 8) := itN (fun _ m => m ++ [0#8]) k (b ++ [1#8])
theorem padM_len (b : List (BitVec 8)) (k : Nat) : (padM b k).length = b.length + 1 + k := by
  induction k with
  | zero => simp [padM, itN]
  | succ k ih => show (padM b k ++ [0#8]).length = _; simp [ih]; omega
def msgF (b : List (BitVec 8)) : List (BitVec 8) := (padM b (padK b.length)).set ((padM b (padK b.length)).length - 1) ((padM b (padK b.length)).getD ((padM b (padK b.length)).length - 1) 0 ^^^ 128#8)
def absB (m : List (BitVec 8)) (i : Nat) (s : List (BitVec 64)) : List (BitVec 64) := if i % 136 = 135 then refPerm (putF s (i % 136) (m.getD i 0)) else putF s (i % 136) (m.getD i 0)
def absF (m : List (BitVec 8)) (k : Nat) : List (BitVec 64) := itN (absB m) k (zeros 64 25)
def refHash (s : List (BitVec 64)) (k : Nat) : List (BitVec 8) := itN (fun i h => h.set i (BitVec.setWidth 8 (s.getD (i / 8) 0 >>> (8 * (i % 8))))) k (zeros 8 32)
def refSumF (b : List (BitVec 8)) : List (BitVec 8) := refHash (absF (msgF b) (msgF b).length) 32
noncomputable def refSumS : FSpec := { run := fun ins => match ins with
  | [.sl false (.u 8 b)] => chk (b.length ≤ 140737488351232) (some (.agg 32 (.u 8 (refSumF b)), []))
  | _ => none }
theorem refSum_sound : SoundFn Tryd.prog glB 5 refSumS.run := by
  have G := good_of (P := Tryd.prog) glB_ro (l := [(13, refPermS)]) (by simp only [List.forall_mem_cons]; exact ⟨refPerm_sound glB_ro, by simp⟩)
  refine soundFn_of_W G Tryd.func5 (by decide) rfl (by decide) ?_
  intro ins ret outs h
  unfold refSumS at h
  dsimp only at h
  split at h
  rotate_left
  · cases h
  rename_i b
  obtain ⟨hb, h'⟩ := chk_some h
  clear h
  cases h'
  refine ⟨by show 1 ≤ 82; decide, fun w0 ext av => ?_⟩
  rw [Tryd.ntmps5, st0_eq]
  generalize hK : padK b.length = K
  have hK' : K = (136 - (b.length + 1) % 136) % 136 := hK.symm
  have hM : msgF b = (padM b K).set ((padM b K).length - 1) ((padM b K).getD ((padM b K).length - 1) 0 ^^^ 128#8) := by rw [← hK]; rfl
  repeat' first
    | refine W.seq ?_ | (refine W.regS G ?_; dsimp only) | refine SW.nil ?_ | refine thenQ_normal ?_ | refine W.skip ?_ | refine W.exit ?_ | refine thenQ_exit ?_ | refine inBlockQ_exit ?_ | refine inBlockQ_normal ?_
    | (apply SW.toC; refine SWcall.go True.intro ?_) | (apply SW.toOp; refine SWop.go True.intro ?_) | (apply SW.toCG; first | refine SWcall.yes True.intro ?_ | refine SWcall.no True.intro ?_) | (apply SW.toG; first | refine SWop.yes True.intro ?_ | refine SWop.no True.intro ?_)
  refine W.mid (sL [(2, .p 2 0 0 0), (3, .gr 9 (b.length + 1 + K))] [(2, .agg 32 (.u 8 (zeros 8 32))), (9, .row (.u 8 (padM b K)))] 82) ?_ ?_
  · repeat' first
      | refine W.seq ?_ | (refine W.regS G ?_; dsimp only) | refine SW.nil ?_ | refine thenQ_normal ?_ | refine W.skip ?_ | refine W.exit ?_ | refine thenQ_exit ?_ | refine inBlockQ_exit ?_ | refine inBlockQ_normal ?_ | refine W.block ?_
      | (apply SW.toC; refine SWcall.go True.intro ?_) | (apply SW.toOp; refine SWop.go True.intro ?_) | (apply SW.toCG; first | refine SWcall.yes True.intro ?_ | refine SWcall.no True.intro ?_) | (apply SW.toG; first | refine SWop.yes True.intro ?_ | refine SWop.no True.intro ?_)
    refine W.loopI (ι := {k : Nat // k ≤ K}) (fun k => sL [(2, .p 2 0 0 0), (3, .gr 9 (b.length + 1 + k.1))] [(2, .agg 32 (.u 8 (zeros 8 32))), (9, .row (.u 8 (padM b k.1)))] 82) (fun k => K - k.1) ⟨0, Nat.zero_le _⟩ (Imp.le ?_) ?_
    · exact sL_leZ True.intro
    rintro ⟨k, hk⟩
    have lm := padM_len b k
    repeat' first
      | refine W.seq ?_ | (refine W.regS G ?_; dsimp only) | refine SW.nil ?_ | refine thenQ_normal ?_ | refine W.skip ?_ | refine W.exit ?_ | refine thenQ_exit ?_ | refine inBlockQ_exit ?_ | refine inBlockQ_normal ?_ | refine W.block ?_
      | (apply SW.toC; refine SWcall.go lm ?_) | (apply SW.toOp; refine SWop.go lm ?_) | (apply SW.toCG; first | refine SWcall.yes lm ?_ | refine SWcall.no lm ?_) | (apply SW.toG; first | refine SWop.yes lm ?_ | refine SWop.no lm ?_)
    refine W.condZ G lm ?_ ?_
    all_goals intro ht
    · have ht' : ¬ ((b.length + 1 + k : Nat) : Int) % 136 = 0 := by simpa using ht
      repeat' first
        | refine W.seq ?_ | (refine W.regS G ?_; dsimp only) | refine SW.nil ?_ | refine thenQ_normal ?_ | refine W.skip ?_ | refine W.exit ?_ | refine thenQ_exit ?_ | refine inBlockQ_exit ?_ | refine inBlockQ_normal ?_ | refine W.block ?_
        | (apply SW.toC; refine SWcall.go lm ?_) | (apply SW.toOp; refine SWop.go lm ?_) | (apply SW.toCG; first | refine SWcall.yes lm ?_ | refine SWcall.no lm ?_) | (apply SW.toG; first | refine SWop.yes lm ?_ | refine SWop.no lm ?_)
      refine ⟨⟨k + 1, by omega⟩, Imp.le ?_, by show _ - (k + 1) < _ - k; omega⟩
      exact sL_leZ lm
    have ht' : ((b.length + 1 + k : Nat) : Int) % 136 = 0 := by simpa using ht
    obtain rfl : k = K := by omega
    repeat' first
      | refine W.seq ?_ | (refine W.regS G ?_; dsimp only) | refine SW.nil ?_ | refine thenQ_normal ?_ | refine W.skip ?_ | refine W.exit ?_ | refine thenQ_exit ?_ | refine inBlockQ_exit ?_ | refine inBlockQ_normal ?_ | refine W.block ?_
      | (apply SW.toC; refine SWcall.go True.intro ?_) | (apply SW.toOp; refine SWop.go True.intro ?_) | (apply SW.toCG; first | refine SWcall.yes True.intro ?_ | refine SWcall.no True.intro ?_) | (apply SW.toG; first | refine SWop.yes True.intro ?_ | refine SWop.no True.intro ?_)
    refine Imp.le ?_
    exact sL_leZ True.intro
  have lm := padM_len b K
  have e1 : ((b.length + 1 + K : Nat) : Int) - 1 = ((b.length + 1 + K - 1 : Nat) : Int) := by omega
  have lmsg : (msgF b).length = b.length + 1 + K := by rw [hM]; simp [lm]
  have hMs : (padM b K).set (b.length + 1 + K - 1) ((padM b K).getD (b.length + 1 + K - 1) 0 ^^^ 128#8) = msgF b := by rw [hM, lm]
  repeat' first
    | refine W.seq ?_ | (refine W.regS G ?_; dsimp only) | refine SW.nil ?_ | refine thenQ_normal ?_ | refine W.skip ?_ | refine W.exit ?_ | refine thenQ_exit ?_ | refine inBlockQ_exit ?_ | refine inBlockQ_normal ?_
    | (apply SW.toC; refine SWcall.go (And.intro lm e1) ?_) | (apply SW.toOp; refine SWop.go (And.intro lm e1) ?_) | (apply SW.toCG; first | refine SWcall.yes (And.intro lm e1) ?_ | refine SWcall.no (And.intro lm e1) ?_) | (apply SW.toG; first | refine SWop.yes (And.intro lm e1) ?_ | refine SWop.no (And.intro lm e1) ?_)
  refine W.imp (s := sL [(2, .p 2 0 0 0), (3, .gr 9 (b.length + 1 + K)), (4, .p 4 0 0 0), (5, .i 0)] [(2, .agg 32 (.u 8 (zeros 8 32))), (9, .row (.u 8 (msgF b))), (4, .agg 25 (.u 64 (zeros 64 25)))] 82) ?_ (Imp.le ?_)
  rotate_left
  · exact sL_leZ (And.intro hMs (And.intro lm e1))
  have hF : refSumF b = refHash (absF (msgF b) (msgF b).length) 32 := rfl
  rw [lmsg] at hF
  generalize msgF b = m at lmsg hF ⊢
  generalize hN : b.length + 1 + K = N at lmsg hF ⊢
  have hNl : N ≤ 140737488352000 := by omega
  refine W.mid (sL [(2, .p 2 0 0 0), (4, .p 4 0 0 0)] [(2, .agg 32 (.u 8 (zeros 8 32))), (4, .agg 25 (.u 64 (absF m N)))] 82) ?_ ?_
  · repeat' first
      | refine W.seq ?_ | (refine W.regS G ?_; dsimp only) | refine SW.nil ?_ | refine thenQ_normal ?_ | refine W.skip ?_ | refine W.exit ?_ | refine thenQ_exit ?_ | refine inBlockQ_exit ?_ | refine inBlockQ_normal ?_ | refine W.block ?_
      | (apply SW.toC; refine SWcall.go True.intro ?_) | (apply SW.toOp; refine SWop.go True.intro ?_) | (apply SW.toCG; first | refine SWcall.yes True.intro ?_ | refine SWcall.no True.intro ?_) | (apply SW.toG; first | refine SWop.yes True.intro ?_ | refine SWop.no True.intro ?_)
    refine W.loopI (ι := {i : Nat // i ≤ N}) (fun i => sL [(2, .p 2 0 0 0), (3, .gr 9 N), (4, .p 4 0 0 0), (5, .i i.1)] [(2, .agg 32 (.u 8 (zeros 8 32))), (9, .row (.u 8 m)), (4, .agg 25 (.u 64 (absF m i.1)))] 82) (fun i => N - i.1) ⟨0, Nat.zero_le _⟩ (Imp.le ?_) ?_
    · exact sL_leZ True.intro
    rintro ⟨i, hi⟩
    have e : absF m (i + 1) = absB m i (absF m i) := by rw [absF, itN_succ]; rfl
    have hend : i = N → absF m N = absF m i := by rintro rfl; rfl
    generalize absF m i = s at e hend ⊢
    repeat' first
      | refine W.seq ?_ | (refine W.regS G ?_; dsimp only) | refine SW.nil ?_ | refine thenQ_normal ?_ | refine W.skip ?_ | refine W.exit ?_ | refine thenQ_exit ?_ | refine inBlockQ_exit ?_ | refine inBlockQ_normal ?_ | refine W.block ?_
      | (apply SW.toC; refine SWcall.go True.intro ?_) | (apply SW.toOp; refine SWop.go True.intro ?_) | (apply SW.toCG; first | refine SWcall.yes True.intro ?_ | refine SWcall.no True.intro ?_) | (apply SW.toG; first | refine SWop.yes True.intro ?_ | refine SWop.no True.intro ?_)
    refine W.condZ G True.intro ?_ ?_
    all_goals intro ht
    · have ht' := of_decide_eq_true ht
      have e2 : ((i : Int) % 136) = ((i % 136 : Nat) : Int) := by omega
      generalize hk : i % 136 = k at e2
      have hk2 : k < 136 := by omega
      have e3 : ((k : Int) / 8) = ((k / 8 : Nat) : Int) := by omega
      have e4 : ((k : Int) % 8) = ((k % 8 : Nat) : Int) := by omega
      have e5 : (8 * ((k % 8 : Nat) : Int)) = ((8 * (k % 8) : Nat) : Int) := by omega
      have e6 : (BitVec.ofInt 64 ((8 * (k % 8) : Nat) : Int)).toNat = 8 * (k % 8) := by rw [BitVec.toNat_ofInt]; omega
      repeat' first
        | refine W.seq ?_ | (refine W.regS G ?_; dsimp only) | refine SW.nil ?_ | refine thenQ_normal ?_ | refine W.skip ?_ | refine W.exit ?_ | refine thenQ_exit ?_ | refine inBlockQ_exit ?_ | refine inBlockQ_normal ?_ | refine W.block ?_
        | (apply SW.toC; refine SWcall.go (And.intro e2 (And.intro e3 (And.intro e4 (And.intro e5 (And.intro e6 lmsg))))) ?_) | (apply SW.toOp; refine SWop.go (And.intro e2 (And.intro e3 (And.intro e4 (And.intro e5 (And.intro e6 lmsg))))) ?_) | (apply SW.toCG; first | refine SWcall.yes (And.intro e2 (And.intro e3 (And.intro e4 (And.intro e5 (And.intro e6 lmsg))))) ?_ | refine SWcall.no (And.intro e2 (And.intro e3 (And.intro e4 (And.intro e5 (And.intro e6 lmsg))))) ?_) | (apply SW.toG; first | refine SWop.yes (And.intro e2 (And.intro e3 (And.intro e4 (And.intro e5 (And.intro e6 lmsg))))) ?_ | refine SWop.no (And.intro e2 (And.intro e3 (And.intro e4 (And.intro e5 (And.intro e6 lmsg))))) ?_)
      refine W.drawS G [[], [0], [], [2], [3, 2], [4, 3, 2], [], [], [6, 7], [8, 6, 7], [9, 8, 6, 7], [], [11], [12, 11], [13, 12, 11], [10, 9, 8, 6, 7, 14, 13, 12, 11], [5, 4, 3, 2, 15, 10, 9, 8, 6, 7, 14, 13, 12, 11], [1, 0, 2, 3, 4, 5, 6, 7, 8, 9, 10, 11, 12, 13, 14, 15, 16], [17, 1, 0, 2, 3, 4, 5, 6, 7, 8, 9, 10, 11, 12, 13, 14, 15, 16]] hmix ?_
      dsimp only
      repeat' first
        | (apply DW.nil; (focus (decide +kernel)))
        | (apply DW.toC; refine DWcall.go (And.intro e2 (And.intro e3 (And.intro e4 (And.intro e5 (And.intro e6 lmsg))))) ?_) | (apply DW.toOp; refine DWop.go (And.intro e2 (And.intro e3 (And.intro e4 (And.intro e5 (And.intro e6 lmsg))))) ?_) | (apply DW.toCG; first | refine DWcall.yes (And.intro e2 (And.intro e3 (And.intro e4 (And.intro e5 (And.intro e6 lmsg))))) ?_ | refine DWcall.no (And.intro e2 (And.intro e3 (And.intro e4 (And.intro e5 (And.intro e6 lmsg))))) ?_) | (apply DW.toG; first | refine DWop.yes (And.intro e2 (And.intro e3 (And.intro e4 (And.intro e5 (And.intro e6 lmsg))))) ?_ | refine DWop.no (And.intro e2 (And.intro e3 (And.intro e4 (And.intro e5 (And.intro e6 lmsg))))) ?_)
      repeat' first
        | refine W.seq ?_ | (refine W.regS G ?_; dsimp only) | refine SW.nil ?_ | refine thenQ_normal ?_ | refine W.skip ?_ | refine W.exit ?_ | refine thenQ_exit ?_ | refine inBlockQ_exit ?_ | refine inBlockQ_normal ?_ | refine W.block ?_
        | (apply SW.toC; refine SWcall.go (And.intro e2 (And.intro e3 (And.intro e4 (And.intro e5 (And.intro e6 lmsg))))) ?_) | (apply SW.toOp; refine SWop.go (And.intro e2 (And.intro e3 (And.intro e4 (And.intro e5 (And.intro e6 lmsg))))) ?_) | (apply SW.toCG; first | refine SWcall.yes (And.intro e2 (And.intro e3 (And.intro e4 (And.intro e5 (And.intro e6 lmsg))))) ?_ | refine SWcall.no (And.intro e2 (And.intro e3 (And.intro e4 (And.intro e5 (And.intro e6 lmsg))))) ?_) | (apply SW.toG; first | refine SWop.yes (And.intro e2 (And.intro e3 (And.intro e4 (And.intro e5 (And.intro e6 lmsg))))) ?_ | refine SWop.no (And.intro e2 (And.intro e3 (And.intro e4 (And.intro e5 (And.intro e6 lmsg))))) ?_)
      refine W.condZ G (And.intro e2 (And.intro e3 (And.intro e4 (And.intro e5 (And.intro e6 lmsg))))) ?_ ?_
      all_goals intro hu
      · have hu' := of_decide_eq_true hu
        have e7 : absB m i s = refPerm (putF s k (m.getD i 0)) := by unfold absB; rw [hk, if_pos (by omega)]
        have e8 : s.set (k / 8) (s.getD (k / 8) 0 ^^^ BitVec.setWidth 64 (m.getD i 0) <<< (8 * (k % 8))) = putF s k (m.getD i 0) := rfl
        repeat' first
          | refine W.seq ?_ | (refine W.regS G ?_; dsimp only) | refine SW.nil ?_ | refine thenQ_normal ?_ | refine W.skip ?_ | refine W.exit ?_ | refine thenQ_exit ?_ | refine inBlockQ_exit ?_ | refine inBlockQ_normal ?_ | refine W.block ?_
          | (apply SW.toC; refine SWcall.go (And.intro refPermS.eq_1 e8) ?_) | (apply SW.toOp; refine SWop.go (And.intro refPermS.eq_1 e8) ?_) | (apply SW.toCG; first | refine SWcall.yes (And.intro refPermS.eq_1 e8) ?_ | refine SWcall.no (And.intro refPermS.eq_1 e8) ?_) | (apply SW.toG; first | refine SWop.yes (And.intro refPermS.eq_1 e8) ?_ | refine SWop.no (And.intro refPermS.eq_1 e8) ?_)
        refine ⟨⟨i + 1, by omega⟩, Imp.le ?_, by show _ - (i + 1) < _ - i; omega⟩
        exact sL_leZ (And.intro e (And.intro e7 (And.intro refPermS.eq_1 e8)))
      · have hu' := of_decide_eq_false hu
        have e7 : absB m i s = putF s k (m.getD i 0) := by unfold absB; rw [hk, if_neg (by omega)]
        have e8 : s.set (k / 8) (s.getD (k / 8) 0 ^^^ BitVec.setWidth 64 (m.getD i 0) <<< (8 * (k % 8))) = putF s k (m.getD i 0) := rfl
        repeat' first
          | refine W.seq ?_ | (refine W.regS G ?_; dsimp only) | refine SW.nil ?_ | refine thenQ_normal ?_ | refine W.skip ?_ | refine W.exit ?_ | refine thenQ_exit ?_ | refine inBlockQ_exit ?_ | refine inBlockQ_normal ?_ | refine W.block ?_
          | (apply SW.toC; refine SWcall.go e8 ?_) | (apply SW.toOp; refine SWop.go e8 ?_) | (apply SW.toCG; first | refine SWcall.yes e8 ?_ | refine SWcall.no e8 ?_) | (apply SW.toG; first | refine SWop.yes e8 ?_ | refine SWop.no e8 ?_)
        refine ⟨⟨i + 1, by omega⟩, Imp.le ?_, by show _ - (i + 1) < _ - i; omega⟩
        exact sL_leZ (And.intro e (And.intro e7 e8))
    have ht' := of_decide_eq_false ht
    have hh := hend (by omega)
    repeat' first
      | refine W.seq ?_ | (refine W.regS G ?_; dsimp only) | refine SW.nil ?_ | refine thenQ_normal ?_ | refine W.skip ?_ | refine W.exit ?_ | refine thenQ_exit ?_ | refine inBlockQ_exit ?_ | refine inBlockQ_normal ?_ | refine W.block ?_
      | (apply SW.toC; refine SWcall.go True.intro ?_) | (apply SW.toOp; refine SWop.go True.intro ?_) | (apply SW.toCG; first | refine SWcall.yes True.intro ?_ | refine SWcall.no True.intro ?_) | (apply SW.toG; first | refine SWop.yes True.intro ?_ | refine SWop.no True.intro ?_)
    refine Imp.le ?_
    exact sL_leZ hh
  generalize absF m N = s at hF ⊢
  repeat' first
    | refine W.seq ?_ | (refine W.regS G ?_; dsimp only) | refine SW.nil ?_ | refine thenQ_normal ?_ | refine W.skip ?_ | refine W.exit ?_ | refine thenQ_exit ?_ | refine inBlockQ_exit ?_ | refine inBlockQ_normal ?_ | refine W.block ?_
    | (apply SW.toC; refine SWcall.go True.intro ?_) | (apply SW.toOp; refine SWop.go True.intro ?_) | (apply SW.toCG; first | refine SWcall.yes True.intro ?_ | refine SWcall.no True.intro ?_) | (apply SW.toG; first | refine SWop.yes True.intro ?_ | refine SWop.no True.intro ?_)
  refine W.loopI (ι := {i : Nat // i ≤ 32}) (fun i => sL [(2, .p 2 0 0 0), (4, .p 4 0 0 0), (7, .p 7 0 0 0), (8, .i i.1)] [(2, .agg 32 (.u 8 (zeros 8 32))), (4, .agg 25 (.u 64 s)), (7, .agg 32 (.u 8 (refHash s i.1)))] 82) (fun i => 32 - i.1) ⟨0, Nat.zero_le _⟩ (Imp.le ?_) ?_
  · exact sL_leZ True.intro
  rintro ⟨i, hi⟩
  repeat' first
    | refine W.seq ?_ | (refine W.regS G ?_; dsimp only) | refine SW.nil ?_ | refine thenQ_normal ?_ | refine W.skip ?_ | refine W.exit ?_ | refine thenQ_exit ?_ | refine inBlockQ_exit ?_ | refine inBlockQ_normal ?_ | refine W.block ?_
    | (apply SW.toC; refine SWcall.go True.intro ?_) | (apply SW.toOp; refine SWop.go True.intro ?_) | (apply SW.toCG; first | refine SWcall.yes True.intro ?_ | refine SWcall.no True.intro ?_) | (apply SW.toG; first | refine SWop.yes True.intro ?_ | refine SWop.no True.intro ?_)
  refine W.condZ G True.intro ?_ ?_
  all_goals intro ht
  · have ht' := of_decide_eq_true ht
    have e1 : ((i : Int) / 8) = ((i / 8 : Nat) : Int) := by omega
    have e2 : ((i : Int) % 8) = ((i % 8 : Nat) : Int) := by omega
    have e3 : (8 * ((i % 8 : Nat) : Int)) = ((8 * (i % 8) : Nat) : Int) := by omega
    have e4 : (BitVec.ofInt 64 ((8 * (i % 8) : Nat) : Int)).toNat = 8 * (i % 8) := by rw [BitVec.toNat_ofInt]; omega
    repeat' first
      | refine W.seq ?_ | (refine W.regS G ?_; dsimp only) | refine SW.nil ?_ | refine thenQ_normal ?_ | refine W.skip ?_ | refine W.exit ?_ | refine thenQ_exit ?_ | refine inBlockQ_exit ?_ | refine inBlockQ_normal ?_ | refine W.block ?_
      | (apply SW.toC; refine SWcall.go (And.intro e1 (And.intro e2 (And.intro e3 e4))) ?_) | (apply SW.toOp; refine SWop.go (And.intro e1 (And.intro e2 (And.intro e3 e4))) ?_) | (apply SW.toCG; first | refine SWcall.yes (And.intro e1 (And.intro e2 (And.intro e3 e4))) ?_ | refine SWcall.no (And.intro e1 (And.intro e2 (And.intro e3 e4))) ?_) | (apply SW.toG; first | refine SWop.yes (And.intro e1 (And.intro e2 (And.intro e3 e4))) ?_ | refine SWop.no (And.intro e1 (And.intro e2 (And.intro e3 e4))) ?_)
    refine ⟨⟨i + 1, by omega⟩, Imp.le ?_, by show _ - (i + 1) < _ - i; omega⟩
    exact sL_leZ (And.intro e1 (And.intro e2 (And.intro e3 e4)))
  have ht' := of_decide_eq_false ht
  obtain rfl : i = 32 := by omega
  repeat' first
    | refine W.seq ?_ | (refine W.regS G ?_; dsimp only) | refine SW.nil ?_ | refine thenQ_normal ?_ | refine W.skip ?_ | refine W.exit ?_ | refine thenQ_exit ?_ | refine inBlockQ_exit ?_ | refine inBlockQ_normal ?_ | refine W.block ?_
    | (apply SW.toC; refine SWcall.go True.intro ?_) | (apply SW.toOp; refine SWop.go True.intro ?_) | (apply SW.toCG; first | refine SWcall.yes True.intro ?_ | refine SWcall.no True.intro ?_) | (apply SW.toG; first | refine SWop.yes True.intro ?_ | refine SWop.no True.intro ?_)
  refine W.ret ?_
  repeat' first
    | refine thenQ_ret ?_
    | refine inBlockQ_ret ?_
  refine fin1Z True.intro ?_
  rw [hF]
  exact leV_refl
end Go.Vm.C03

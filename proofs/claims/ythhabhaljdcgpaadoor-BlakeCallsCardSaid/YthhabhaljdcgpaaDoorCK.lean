/- What some functions of the program compute, walked through once. -/
import Derived.Test.YthhabhaljdcgpaaDoorCJ
namespace Go.Vm.C06
open Go Go.Proofs
set_option linter.unusedVariables false
set_option linter.unusedSimpArgs false
set_option maxRecDepth 100000
set_option maxHeartbeats 8000000

/-- a row that grows out of nothing: what is told of it -/
noncomputable def accV (k : Nat) : List (BitVec 8) → V
  | [] => .nils
  | a :: l => .gr k (l.length + 1)
noncomputable def accM (k : Nat) : List (BitVec 8) → List (Nat × V)
  | [] => []
  | a :: l => [(k, .row (.u 8 (a :: l)))]
attribute [go_sem] accV accM

theorem numsIn_len (b : List (BitVec 8)) (i k : Nat) (v : List (BitVec 64)) : (numsIn b i k v).length = v.length :=
  itN_inv (p := fun (s : List (BitVec 64)) => s.length = v.length) (fun j s hs => by simp [hs]) k rfl
theorem numsTo_len (b : List (BitVec 8)) (n : Nat) (v : List (BitVec 64)) : (numsTo b n v).length = v.length :=
  itN_inv (p := fun (s : List (BitVec 64)) => s.length = v.length) (fun j s hs => by rw [numsIn_len, hs]) n rfl
def cb1 (b : List (BitVec 8)) : List (BitVec 8) := subL b 4 209
def cb2 (b : List (BitVec 8)) : List (BitVec 8) := subL (cb1 b) 64 145
def cb3 (b : List (BitVec 8)) : List (BitVec 8) := subL (cb2 b) 128 17
def cb4 (b : List (BitVec 8)) : List (BitVec 8) := subL (cb3 b) 16 1
noncomputable def blakeH2 (b : List (BitVec 8)) : List (BitVec 64) := blakeF (callR b) (numsTo (cb1 b) 8 (zeros 64 8)) (numsTo (cb2 b) 16 (zeros 64 16)) (numsTo (cb3 b) 2 (zeros 64 2)) (decide ((cb4 b).getD 0 0 = 1#8))
def bytesIn (H : List (BitVec 64)) (i k : Nat) (o : List (BitVec 8)) : List (BitVec 8) := itN (fun k o => o ++ [BitVec.setWidth 8 (H.getD i 0 >>> (8 * (k : Int)).toNat)]) k o
def bytesTo (H : List (BitVec 64)) (i : Nat) : List (BitVec 8) := itN (fun i o => bytesIn H i 8 o) i []
theorem bytesIn_len (H : List (BitVec 64)) (i k : Nat) (o : List (BitVec 8)) : (bytesIn H i k o).length = o.length + k := by
  induction k with
  | zero => rfl
  | succ k ih => show (bytesIn H i k o ++ _).length = _; simp [ih]; omega
theorem bytesTo_len (H : List (BitVec 64)) (i : Nat) : (bytesTo H i).length = 8 * i := by
  induction i with
  | zero => rfl
  | succ i ih => show (bytesIn H i 8 (bytesTo H i)).length = _; rw [bytesIn_len, ih]; omega
noncomputable def callS : FSpec := { run := fun ins => match ins with
  | [.sl false (.u 8 b)] => if b.length = 213 ∧ ¬ 1#8 < b.getD 212 0 then some (.tup [.sl true (.u 8 (bytesTo (blakeH2 b) 8)), .i 0], []) else some (.tup [.sl true (.u 8 []), .i 4], [])
  | _ => none }
theorem call_sound : SoundFn Tryd.prog glB 9 callS.run := by
  have G := good_of (P := Tryd.prog) glB_ro (l := [(11, blakeFS), (16, numsS)]) (by simp only [List.forall_mem_cons]; exact ⟨mixed_sound, nums_sound glB_ro, by simp⟩)
  refine soundFn_of_W G Tryd.func9 (by decide) rfl (by decide) ?_
  intro ins ret outs h
  unfold callS at h
  dsimp only at h
  split at h
  rotate_left
  · cases h
  rename_i b
  by_cases hL : b.length = 213
  · by_cases hX : 1#8 < b.getD 212 0
    · rw [if_neg (fun hh => hh.2 hX)] at h
      cases h
      refine ⟨by show 1 ≤ 79; decide, fun w0 ext av => ?_⟩
      rw [Tryd.ntmps9, st0_eq]
      repeat' first
        | refine W.seq ?_ | (refine W.regS G ?_; dsimp only) | refine SW.nil ?_ | refine thenQ_normal ?_ | refine W.skip ?_ | refine W.exit ?_ | refine thenQ_exit ?_ | refine inBlockQ_exit ?_ | refine inBlockQ_normal ?_ | refine W.block ?_
        | (apply SW.toC; refine SWcall.go (And.intro hL hX) ?_) | (apply SW.toOp; refine SWop.go (And.intro hL hX) ?_) | (apply SW.toCG; first | refine SWcall.yes (And.intro hL hX) ?_ | refine SWcall.no (And.intro hL hX) ?_) | (apply SW.toG; first | refine SWop.yes (And.intro hL hX) ?_ | refine SWop.no (And.intro hL hX) ?_)
      refine W.condZ G (And.intro hL hX) ?_ ?_
      all_goals intro ht
      · repeat' first
          | refine W.seq ?_ | (refine W.regS G ?_; dsimp only) | refine SW.nil ?_ | refine thenQ_normal ?_ | refine W.skip ?_ | refine W.exit ?_ | refine thenQ_exit ?_ | refine inBlockQ_exit ?_ | refine inBlockQ_normal ?_ | refine W.block ?_
          | (apply SW.toC; refine SWcall.go (And.intro hL hX) ?_) | (apply SW.toOp; refine SWop.go (And.intro hL hX) ?_) | (apply SW.toCG; first | refine SWcall.yes (And.intro hL hX) ?_ | refine SWcall.no (And.intro hL hX) ?_) | (apply SW.toG; first | refine SWop.yes (And.intro hL hX) ?_ | refine SWop.no (And.intro hL hX) ?_)
        refine W.ret ?_
        repeat' first
          | refine thenQ_ret ?_
          | refine inBlockQ_ret ?_
        refine fin2Z (And.intro hL hX) ?_ ?_
        · exact .inr (.inl ⟨rfl, _, _, rfl, rfl, by unfold okR okW; omega⟩)
        · exact leV_refl
      · simp at ht
    · rw [if_pos ⟨hL, hX⟩] at h
      cases h
      refine ⟨by show 1 ≤ 79; decide, fun w0 ext av => ?_⟩
      rw [Tryd.ntmps9, st0_eq]
      repeat' first
        | refine W.seq ?_ | (refine W.regS G ?_; dsimp only) | refine SW.nil ?_ | refine thenQ_normal ?_ | refine W.skip ?_ | refine W.exit ?_ | refine thenQ_exit ?_ | refine inBlockQ_exit ?_ | refine inBlockQ_normal ?_ | refine W.block ?_
        | (apply SW.toC; refine SWcall.go (And.intro hL hX) ?_) | (apply SW.toOp; refine SWop.go (And.intro hL hX) ?_) | (apply SW.toCG; first | refine SWcall.yes (And.intro hL hX) ?_ | refine SWcall.no (And.intro hL hX) ?_) | (apply SW.toG; first | refine SWop.yes (And.intro hL hX) ?_ | refine SWop.no (And.intro hL hX) ?_)
      refine W.condZ G (And.intro hL hX) ?_ ?_
      all_goals intro ht
      · simp at ht
      repeat' first
        | refine W.seq ?_ | (refine W.regS G ?_; dsimp only) | refine SW.nil ?_ | refine thenQ_normal ?_ | refine W.skip ?_ | refine W.exit ?_ | refine thenQ_exit ?_ | refine inBlockQ_exit ?_ | refine inBlockQ_normal ?_ | refine W.block ?_
        | (apply SW.toC; refine SWcall.go (And.intro hL hX) ?_) | (apply SW.toOp; refine SWop.go (And.intro hL hX) ?_) | (apply SW.toCG; first | refine SWcall.yes (And.intro hL hX) ?_ | refine SWcall.no (And.intro hL hX) ?_) | (apply SW.toG; first | refine SWop.yes (And.intro hL hX) ?_ | refine SWop.no (And.intro hL hX) ?_)
      refine W.drawS G [[], [0], [1, 0], [2, 1, 0], [3, 2, 1, 0], [], [5], [6, 5], [7, 6, 5], [8, 7, 6, 5], [4, 3, 2, 1, 0, 9, 8, 7, 6, 5], [], [11], [12, 11], [13, 12, 11], [14, 13, 12, 11], [10, 4, 3, 2, 1, 0, 9, 8, 7, 6, 5, 15, 14, 13, 12, 11], [], [17], [18, 17], [19, 18, 17], [16, 10, 4, 3, 2, 1, 0, 9, 8, 7, 6, 5, 15, 14, 13, 12, 11, 20, 19, 18, 17], [21, 16, 10, 4, 3, 2, 1, 0, 9, 8, 7, 6, 5, 15, 14, 13, 12, 11, 20, 19, 18, 17]] hmix ?_
      dsimp only
      repeat' first
        | (apply DW.nil; (focus (decide +kernel)))
        | (apply DW.toC; refine DWcall.go (And.intro hL hX) ?_) | (apply DW.toOp; refine DWop.go (And.intro hL hX) ?_) | (apply DW.toCG; first | refine DWcall.yes (And.intro hL hX) ?_ | refine DWcall.no (And.intro hL hX) ?_) | (apply DW.toG; first | refine DWop.yes (And.intro hL hX) ?_ | refine DWop.no (And.intro hL hX) ?_)
      repeat' first
        | refine W.seq ?_ | (refine W.regS G ?_; dsimp only) | refine SW.nil ?_ | refine thenQ_normal ?_ | refine W.skip ?_ | refine W.exit ?_ | refine thenQ_exit ?_ | refine inBlockQ_exit ?_ | refine inBlockQ_normal ?_ | refine W.block ?_
        | (apply SW.toC; refine SWcall.go (And.intro hL hX) ?_) | (apply SW.toOp; refine SWop.go (And.intro hL hX) ?_) | (apply SW.toCG; first | refine SWcall.yes (And.intro hL hX) ?_ | refine SWcall.no (And.intro hL hX) ?_) | (apply SW.toG; first | refine SWop.yes (And.intro hL hX) ?_ | refine SWop.no (And.intro hL hX) ?_)
      have e1 : subL b 4 209 = cb1 b := rfl
      have l1 : (cb1 b).length = 209 := by rw [cb1, subL_len, hL]; rfl
      have e2 : subL (cb1 b) 64 145 = cb2 b := rfl
      have l2 : (cb2 b).length = 145 := by rw [cb2, subL_len, l1]; rfl
      have e3 : subL (cb2 b) 128 17 = cb3 b := rfl
      have l3 : (cb3 b).length = 17 := by rw [cb3, subL_len, l2]; rfl
      have e4 : subL (cb3 b) 16 1 = cb4 b := rfl
      have l4 : (cb4 b).length = 1 := by rw [cb4, subL_len, l3]; rfl
      have lh : (numsTo (cb1 b) 8 (zeros 64 8)).length = 8 := by rw [numsTo_len]; rfl
      refine W.drawS G [[], [0], [], [1, 0, 2], [], [3, 1, 0, 2, 4], [], [5, 3, 1, 0, 2, 4, 6], [7, 5, 3, 1, 0, 2, 4, 6]] hmix ?_
      dsimp only
      repeat' first
        | (apply DW.nil; (focus (decide +kernel)))
        | (apply DW.toC; refine DWcall.go (And.intro hL (And.intro e1 (And.intro e2 (And.intro e3 (And.intro e4 (And.intro l1 (And.intro l2 (And.intro l3 (And.intro l4 numsS.eq_1))))))))) ?_) | (apply DW.toOp; refine DWop.go (And.intro hL (And.intro e1 (And.intro e2 (And.intro e3 (And.intro e4 (And.intro l1 (And.intro l2 (And.intro l3 (And.intro l4 numsS.eq_1))))))))) ?_) | (apply DW.toCG; first | refine DWcall.yes (And.intro hL (And.intro e1 (And.intro e2 (And.intro e3 (And.intro e4 (And.intro l1 (And.intro l2 (And.intro l3 (And.intro l4 numsS.eq_1))))))))) ?_ | refine DWcall.no (And.intro hL (And.intro e1 (And.intro e2 (And.intro e3 (And.intro e4 (And.intro l1 (And.intro l2 (And.intro l3 (And.intro l4 numsS.eq_1))))))))) ?_) | (apply DW.toG; first | refine DWop.yes (And.intro hL (And.intro e1 (And.intro e2 (And.intro e3 (And.intro e4 (And.intro l1 (And.intro l2 (And.intro l3 (And.intro l4 numsS.eq_1))))))))) ?_ | refine DWop.no (And.intro hL (And.intro e1 (And.intro e2 (And.intro e3 (And.intro e4 (And.intro l1 (And.intro l2 (And.intro l3 (And.intro l4 numsS.eq_1))))))))) ?_)
      repeat' first
        | refine W.seq ?_ | (refine W.regS G ?_; dsimp only) | refine SW.nil ?_ | refine thenQ_normal ?_ | refine W.skip ?_ | refine W.exit ?_ | refine thenQ_exit ?_ | refine inBlockQ_exit ?_ | refine inBlockQ_normal ?_ | refine W.block ?_
        | (apply SW.toC; refine SWcall.go (And.intro hL (And.intro e1 (And.intro e2 (And.intro e3 (And.intro e4 (And.intro l1 (And.intro l2 (And.intro l3 (And.intro l4 numsS.eq_1))))))))) ?_) | (apply SW.toOp; refine SWop.go (And.intro hL (And.intro e1 (And.intro e2 (And.intro e3 (And.intro e4 (And.intro l1 (And.intro l2 (And.intro l3 (And.intro l4 numsS.eq_1))))))))) ?_) | (apply SW.toCG; first | refine SWcall.yes (And.intro hL (And.intro e1 (And.intro e2 (And.intro e3 (And.intro e4 (And.intro l1 (And.intro l2 (And.intro l3 (And.intro l4 numsS.eq_1))))))))) ?_ | refine SWcall.no (And.intro hL (And.intro e1 (And.intro e2 (And.intro e3 (And.intro e4 (And.intro l1 (And.intro l2 (And.intro l3 (And.intro l4 numsS.eq_1))))))))) ?_) | (apply SW.toG; first | refine SWop.yes (And.intro hL (And.intro e1 (And.intro e2 (And.intro e3 (And.intro e4 (And.intro l1 (And.intro l2 (And.intro l3 (And.intro l4 numsS.eq_1))))))))) ?_ | refine SWop.no (And.intro hL (And.intro e1 (And.intro e2 (And.intro e3 (And.intro e4 (And.intro l1 (And.intro l2 (And.intro l3 (And.intro l4 numsS.eq_1))))))))) ?_)
      refine W.drawS G [[], [], [], [], [], [4], [5, 4], [6, 5, 4], [0, 1, 2, 3, 7, 6, 5, 4], [8, 0, 1, 2, 3, 7, 6, 5, 4]] hmix ?_
      dsimp only
      repeat' first
        | (apply DW.nil; (focus (decide +kernel)))
        | (apply DW.toC; refine DWcall.go (And.intro l4 (And.intro lh blakeFS.eq_1)) ?_) | (apply DW.toOp; refine DWop.go (And.intro l4 (And.intro lh blakeFS.eq_1)) ?_) | (apply DW.toCG; first | refine DWcall.yes (And.intro l4 (And.intro lh blakeFS.eq_1)) ?_ | refine DWcall.no (And.intro l4 (And.intro lh blakeFS.eq_1)) ?_) | (apply DW.toG; first | refine DWop.yes (And.intro l4 (And.intro lh blakeFS.eq_1)) ?_ | refine DWop.no (And.intro l4 (And.intro lh blakeFS.eq_1)) ?_)
      repeat' first
        | refine W.seq ?_ | (refine W.regS G ?_; dsimp only) | refine SW.nil ?_ | refine thenQ_normal ?_ | refine W.skip ?_ | refine W.exit ?_ | refine thenQ_exit ?_ | refine inBlockQ_exit ?_ | refine inBlockQ_normal ?_ | refine W.block ?_
        | (apply SW.toC; refine SWcall.go (And.intro l4 (And.intro lh blakeFS.eq_1)) ?_) | (apply SW.toOp; refine SWop.go (And.intro l4 (And.intro lh blakeFS.eq_1)) ?_) | (apply SW.toCG; first | refine SWcall.yes (And.intro l4 (And.intro lh blakeFS.eq_1)) ?_ | refine SWcall.no (And.intro l4 (And.intro lh blakeFS.eq_1)) ?_) | (apply SW.toG; first | refine SWop.yes (And.intro l4 (And.intro lh blakeFS.eq_1)) ?_ | refine SWop.no (And.intro l4 (And.intro lh blakeFS.eq_1)) ?_)
      have hH2 : blakeF (callR b) (numsTo (cb1 b) 8 (zeros 64 8)) (numsTo (cb2 b) 16 (zeros 64 16)) (numsTo (cb3 b) 2 (zeros 64 2)) (decide ((cb4 b).getD 0 0 = 1#8)) = blakeH2 b := rfl
      refine W.imp (s := sL [(9, .nils), (61, .agg 8 (.u 64 (blakeH2 b))), (62, .i 0)] [] 79) ?_ (Imp.le ?_)
      rotate_left
      · exact sL_leZ (And.intro hH2 (And.intro l4 (And.intro lh blakeFS.eq_1)))
      generalize blakeH2 b = H
      refine W.loopI (ι := {i : Nat // i ≤ 8}) (fun i => sL [(9, accV 75 (bytesTo H i.1)), (61, .agg 8 (.u 64 H)), (62, .i i.1)] (accM 75 (bytesTo H i.1)) 79) (fun i => 8 - i.1) ⟨0, Nat.zero_le _⟩ (Imp.le ?_) ?_
      · have h0 : bytesTo H 0 = [] := rfl
        exact sL_leZ (And.intro h0 (And.intro l4 (And.intro lh blakeFS.eq_1)))
      rintro ⟨i, hi⟩
      have L1 := bytesTo_len H i
      have hs : bytesTo H (i + 1) = bytesIn H i 8 (bytesTo H i) := by rw [bytesTo, itN_succ]; rfl
      have hend : i = 8 → bytesTo H 8 = bytesTo H i := by rintro rfl; rfl
      generalize bytesTo H i = o0 at L1 hs hend ⊢
      have step : ∀ o : List (BitVec 8), o = o0 → True := fun _ _ => trivial
      repeat' first
        | refine W.seq ?_ | (refine W.regS G ?_; dsimp only) | refine SW.nil ?_ | refine thenQ_normal ?_ | refine W.skip ?_ | refine W.exit ?_ | refine thenQ_exit ?_ | refine inBlockQ_exit ?_ | refine inBlockQ_normal ?_ | refine W.block ?_
        | (apply SW.toC; refine SWcall.go (And.intro l4 (And.intro lh blakeFS.eq_1)) ?_) | (apply SW.toOp; refine SWop.go (And.intro l4 (And.intro lh blakeFS.eq_1)) ?_) | (apply SW.toCG; first | refine SWcall.yes (And.intro l4 (And.intro lh blakeFS.eq_1)) ?_ | refine SWcall.no (And.intro l4 (And.intro lh blakeFS.eq_1)) ?_) | (apply SW.toG; first | refine SWop.yes (And.intro l4 (And.intro lh blakeFS.eq_1)) ?_ | refine SWop.no (And.intro l4 (And.intro lh blakeFS.eq_1)) ?_)
      refine W.condZ G (And.intro l4 (And.intro lh blakeFS.eq_1)) ?_ ?_
      all_goals intro hw
      · have hw' := of_decide_eq_true hw
        repeat' first
          | refine W.seq ?_ | (refine W.regS G ?_; dsimp only) | refine SW.nil ?_ | refine thenQ_normal ?_ | refine W.skip ?_ | refine W.exit ?_ | refine thenQ_exit ?_ | refine inBlockQ_exit ?_ | refine inBlockQ_normal ?_ | refine W.block ?_
          | (apply SW.toC; refine SWcall.go (And.intro l4 (And.intro lh blakeFS.eq_1)) ?_) | (apply SW.toOp; refine SWop.go (And.intro l4 (And.intro lh blakeFS.eq_1)) ?_) | (apply SW.toCG; first | refine SWcall.yes (And.intro l4 (And.intro lh blakeFS.eq_1)) ?_ | refine SWcall.no (And.intro l4 (And.intro lh blakeFS.eq_1)) ?_) | (apply SW.toG; first | refine SWop.yes (And.intro l4 (And.intro lh blakeFS.eq_1)) ?_ | refine SWop.no (And.intro l4 (And.intro lh blakeFS.eq_1)) ?_)
        refine W.imp (s := sL [(9, accV 75 o0), (11, .u 64 (H.getD i 0)), (61, .agg 8 (.u 64 H)), (62, .i i), (65, .i 0)] (accM 75 o0) 79) ?_ (Imp.le ?_)
        rotate_left
        · rcases o0 with _ | ⟨a, l⟩
          · exact sL_leZ (And.intro l4 (And.intro lh blakeFS.eq_1))
          · exact sL_leZ (And.intro l4 (And.intro lh blakeFS.eq_1))
        refine W.loopI (ι := {k : Nat // k ≤ 8}) (fun k => sL [(9, accV 75 (bytesIn H i k.1 o0)), (11, .u 64 (H.getD i 0)), (61, .agg 8 (.u 64 H)), (62, .i i), (65, .i k.1)] (accM 75 (bytesIn H i k.1 o0)) 79) (fun k => 8 - k.1) ⟨0, Nat.zero_le _⟩ (Imp.le ?_) ?_
        · exact Le_refl _
        rintro ⟨k, hk⟩
        have L2 := bytesIn_len H i k o0
        have hs2 : bytesIn H i (k + 1) o0 = bytesIn H i k o0 ++ [BitVec.setWidth 8 (H.getD i 0 >>> (8 * (k : Int)).toNat)] := rfl
        have hend2 : k = 8 → bytesIn H i 8 o0 = bytesIn H i k o0 := by rintro rfl; rfl
        generalize bytesIn H i k o0 = o at L2 hs2 hend2 ⊢
        repeat' first
          | refine W.seq ?_ | (refine W.regS G ?_; dsimp only) | refine SW.nil ?_ | refine thenQ_normal ?_ | refine W.skip ?_ | refine W.exit ?_ | refine thenQ_exit ?_ | refine inBlockQ_exit ?_ | refine inBlockQ_normal ?_ | refine W.block ?_
          | (apply SW.toC; refine SWcall.go (And.intro l4 (And.intro lh blakeFS.eq_1)) ?_) | (apply SW.toOp; refine SWop.go (And.intro l4 (And.intro lh blakeFS.eq_1)) ?_) | (apply SW.toCG; first | refine SWcall.yes (And.intro l4 (And.intro lh blakeFS.eq_1)) ?_ | refine SWcall.no (And.intro l4 (And.intro lh blakeFS.eq_1)) ?_) | (apply SW.toG; first | refine SWop.yes (And.intro l4 (And.intro lh blakeFS.eq_1)) ?_ | refine SWop.no (And.intro l4 (And.intro lh blakeFS.eq_1)) ?_)
        refine W.condZ G (And.intro l4 (And.intro lh blakeFS.eq_1)) ?_ ?_
        all_goals intro hv
        · have hv' := of_decide_eq_true hv
          rcases o with _ | ⟨a, l⟩
          · repeat' first
              | refine W.seq ?_ | (refine W.regS G ?_; dsimp only) | refine SW.nil ?_ | refine thenQ_normal ?_ | refine W.skip ?_ | refine W.exit ?_ | refine thenQ_exit ?_ | refine inBlockQ_exit ?_ | refine inBlockQ_normal ?_ | refine W.block ?_
              | (apply SW.toC; refine SWcall.go (And.intro l4 (And.intro lh blakeFS.eq_1)) ?_) | (apply SW.toOp; refine SWop.go (And.intro l4 (And.intro lh blakeFS.eq_1)) ?_) | (apply SW.toCG; first | refine SWcall.yes (And.intro l4 (And.intro lh blakeFS.eq_1)) ?_ | refine SWcall.no (And.intro l4 (And.intro lh blakeFS.eq_1)) ?_) | (apply SW.toG; first | refine SWop.yes (And.intro l4 (And.intro lh blakeFS.eq_1)) ?_ | refine SWop.no (And.intro l4 (And.intro lh blakeFS.eq_1)) ?_)
            refine ⟨⟨k + 1, by omega⟩, Imp.le ?_, by show _ - (k + 1) < _ - k; omega⟩
            rw [hs2]
            exact sL_leZ (And.intro l4 (And.intro lh blakeFS.eq_1))
          · have L3 : l.length + 1 = o0.length + k := L2
            repeat' first
              | refine W.seq ?_ | (refine W.regS G ?_; dsimp only) | refine SW.nil ?_ | refine thenQ_normal ?_ | refine W.skip ?_ | refine W.exit ?_ | refine thenQ_exit ?_ | refine inBlockQ_exit ?_ | refine inBlockQ_normal ?_ | refine W.block ?_
              | (apply SW.toC; refine SWcall.go (And.intro l4 (And.intro lh blakeFS.eq_1)) ?_) | (apply SW.toOp; refine SWop.go (And.intro l4 (And.intro lh blakeFS.eq_1)) ?_) | (apply SW.toCG; first | refine SWcall.yes (And.intro l4 (And.intro lh blakeFS.eq_1)) ?_ | refine SWcall.no (And.intro l4 (And.intro lh blakeFS.eq_1)) ?_) | (apply SW.toG; first | refine SWop.yes (And.intro l4 (And.intro lh blakeFS.eq_1)) ?_ | refine SWop.no (And.intro l4 (And.intro lh blakeFS.eq_1)) ?_)
            refine ⟨⟨k + 1, by omega⟩, Imp.le ?_, by show _ - (k + 1) < _ - k; omega⟩
            rw [hs2]
            exact sL_leZ (And.intro l4 (And.intro lh blakeFS.eq_1))
        have hv' := of_decide_eq_false hv
        have hk8 : k = 8 := by omega
        repeat' first
          | refine W.seq ?_ | (refine W.regS G ?_; dsimp only) | refine SW.nil ?_ | refine thenQ_normal ?_ | refine W.skip ?_ | refine W.exit ?_ | refine thenQ_exit ?_ | refine inBlockQ_exit ?_ | refine inBlockQ_normal ?_ | refine W.block ?_
          | (apply SW.toC; refine SWcall.go (And.intro l4 (And.intro lh blakeFS.eq_1)) ?_) | (apply SW.toOp; refine SWop.go (And.intro l4 (And.intro lh blakeFS.eq_1)) ?_) | (apply SW.toCG; first | refine SWcall.yes (And.intro l4 (And.intro lh blakeFS.eq_1)) ?_ | refine SWcall.no (And.intro l4 (And.intro lh blakeFS.eq_1)) ?_) | (apply SW.toG; first | refine SWop.yes (And.intro l4 (And.intro lh blakeFS.eq_1)) ?_ | refine SWop.no (And.intro l4 (And.intro lh blakeFS.eq_1)) ?_)
        refine ⟨⟨i + 1, by omega⟩, Imp.le ?_, by show _ - (i + 1) < _ - i; omega⟩
        rw [hs, hend2 hk8]
        rcases o with _ | ⟨a, l⟩
        · exact sL_leZ (And.intro l4 (And.intro lh blakeFS.eq_1))
        · exact sL_leZ (And.intro l4 (And.intro lh blakeFS.eq_1))
      have hw' := of_decide_eq_false hw
      have hi8 : i = 8 := by omega
      rw [hend hi8]
      rcases o0 with _ | ⟨a, l⟩
      · simp at L1; omega
      have L3 : l.length + 1 = 8 * i := L1
      repeat' first
        | refine W.seq ?_ | (refine W.regS G ?_; dsimp only) | refine SW.nil ?_ | refine thenQ_normal ?_ | refine W.skip ?_ | refine W.exit ?_ | refine thenQ_exit ?_ | refine inBlockQ_exit ?_ | refine inBlockQ_normal ?_ | refine W.block ?_
        | (apply SW.toC; refine SWcall.go (And.intro l4 (And.intro lh blakeFS.eq_1)) ?_) | (apply SW.toOp; refine SWop.go (And.intro l4 (And.intro lh blakeFS.eq_1)) ?_) | (apply SW.toCG; first | refine SWcall.yes (And.intro l4 (And.intro lh blakeFS.eq_1)) ?_ | refine SWcall.no (And.intro l4 (And.intro lh blakeFS.eq_1)) ?_) | (apply SW.toG; first | refine SWop.yes (And.intro l4 (And.intro lh blakeFS.eq_1)) ?_ | refine SWop.no (And.intro l4 (And.intro lh blakeFS.eq_1)) ?_)
      refine W.ret ?_
      repeat' first
        | refine thenQ_ret ?_
        | refine inBlockQ_ret ?_
      refine fin2Z (And.intro l4 (And.intro lh blakeFS.eq_1)) ?_ ?_
      · exact leV_refl
      · exact leV_refl
  · rw [if_neg (fun hh => hL hh.1)] at h
    cases h
    have hL' : ¬ (b.length : Int) = 213 := by omega
    refine ⟨by show 1 ≤ 79; decide, fun w0 ext av => ?_⟩
    rw [Tryd.ntmps9, st0_eq]
    repeat' first
      | refine W.seq ?_ | (refine W.regS G ?_; dsimp only) | refine SW.nil ?_ | refine thenQ_normal ?_ | refine W.skip ?_ | refine W.exit ?_ | refine thenQ_exit ?_ | refine inBlockQ_exit ?_ | refine inBlockQ_normal ?_ | refine W.block ?_
      | (apply SW.toC; refine SWcall.go hL' ?_) | (apply SW.toOp; refine SWop.go hL' ?_) | (apply SW.toCG; first | refine SWcall.yes hL' ?_ | refine SWcall.no hL' ?_) | (apply SW.toG; first | refine SWop.yes hL' ?_ | refine SWop.no hL' ?_)
    refine W.condZ G hL' ?_ ?_
    all_goals intro ht
    · repeat' first
        | refine W.seq ?_ | (refine W.regS G ?_; dsimp only) | refine SW.nil ?_ | refine thenQ_normal ?_ | refine W.skip ?_ | refine W.exit ?_ | refine thenQ_exit ?_ | refine inBlockQ_exit ?_ | refine inBlockQ_normal ?_ | refine W.block ?_
        | (apply SW.toC; refine SWcall.go hL' ?_) | (apply SW.toOp; refine SWop.go hL' ?_) | (apply SW.toCG; first | refine SWcall.yes hL' ?_ | refine SWcall.no hL' ?_) | (apply SW.toG; first | refine SWop.yes hL' ?_ | refine SWop.no hL' ?_)
      refine W.ret ?_
      repeat' first
        | refine thenQ_ret ?_
        | refine inBlockQ_ret ?_
      refine fin2Z hL' ?_ ?_
      · exact .inr (.inl ⟨rfl, _, _, rfl, rfl, by unfold okR okW; omega⟩)
      · exact leV_refl
    · simp at ht
end Go.Vm.C06

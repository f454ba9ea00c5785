/- What some functions of the program compute, walked through once. -/
import Derived.Test.YtioffpklmlmhcaaDoorCN
namespace Go.Vm.C03
open Go Go.Proofs
set_option linter.unusedVariables false
set_option linter.unusedSimpArgs false
set_option maxRecDepth 100000
set_option maxHeartbeats 8000000

/-- how far the parts go -/
def atF (L : Nat) (cuts : List (BitVec 16)) (i : Nat) : Nat := itN (fun i at' => at' + (cuts.getD i 0).toNat % (L - at' + 1)) i 0
theorem atF_le (L : Nat) (cuts : List (BitVec 16)) (i : Nat) : atF L cuts i ≤ L := by
  refine itN_inv (p := fun a => a ≤ L) (fun i a h => ?_) i (Nat.zero_le _)
  have := Nat.mod_lt (cuts.getD i 0).toNat (show 0 < L - a + 1 by omega)
  omega
/-- the sponge, when so many bytes are in it -/
noncomputable def spo (b : List (BitVec 8)) (k : Nat) : List (BitVec 64) × Nat := takes (b.take k) (b.take k).length (zeros 64 25, 0)
theorem spo_ok (b : List (BitVec 8)) (k : Nat) : (spo b k).1.length = 25 ∧ (spo b k).2 < 136 := takes_ok _ _ ⟨rfl, by decide⟩
theorem spo_step (b : List (BitVec 8)) (k n : Nat) (h : k + n ≤ b.length) : takes (subL b k n) n (spo b k) = spo b (k + n) := by
  have e : b.take (k + n) = b.take k ++ subL b k n := by unfold subL; rw [List.take_add]
  have l : (subL b k n).length = n := by simp [subL]; omega
  unfold spo
  rw [e, takes_add, l]
theorem spo_zero (b : List (BitVec 8)) : spo b 0 = (zeros 64 25, 0) := by
  unfold spo
  rw [List.take_zero]
  rfl
theorem spo_hash (b : List (BitVec 8)) (k : Nat) : hashF (spo b k) = sumF (b.take k) := rfl
theorem spo_all (b : List (BitVec 8)) : hashF (spo b b.length) = sumF b := by rw [spo_hash, List.take_length]
noncomputable def sumsS : FSpec := { run := fun ins => match ins with
  | [.sl false (.u 8 b), .sl false (.u 16 cuts)] => chk (b.length ≤ 140737488351232 ∧ cuts.length ≤ 140737488351232) (some (.b true, []))
  | _ => none }
theorem sums_sound : SoundFn Tryd.prog glB 3 sumsS.run := by
  have G := good_of (P := Tryd.prog) glB_ro (l := [(5, refSumS), (6, newS), (7, sumS), (8, takesS), (9, resetS), (10, ssumS), (11, liveS)]) (by simp only [List.forall_mem_cons]; exact ⟨refSum_sound, new_sound, sum_sound, write_sound, reset_sound, ssum_sound, lives_sound, by simp⟩)
  refine soundFn_of_W G Tryd.func3 (by decide) rfl (by decide) ?_
  intro ins ret outs h
  unfold sumsS at h
  dsimp only at h
  split at h
  rotate_left
  · cases h
  rename_i b cuts
  obtain ⟨hb, h'⟩ := chk_some h
  clear h
  cases h'
  refine ⟨by show 2 ≤ 96; decide, fun w0 ext av => ?_⟩
  rw [Tryd.ntmps3, st0_eq]
  have e1 := refSum_eq b
  have l0 : (zeros 64 25).length = 25 := rfl
  have ok6 := takes_ok [98#8, 101#8, 102#8, 111#8, 114#8, 101#8] 6 (p := (zeros 64 25, 0)) ⟨rfl, by decide⟩
  repeat' first
    | refine W.seq ?_ | (refine W.regS G ?_; dsimp only) | refine SW.nil ?_ | refine thenQ_normal ?_ | refine W.skip ?_ | refine W.exit ?_ | refine thenQ_exit ?_ | refine inBlockQ_exit ?_ | refine inBlockQ_normal ?_ | refine W.block ?_
    | (apply SW.toC; refine SWcall.go (And.intro refSumS.eq_1 (And.intro e1 (And.intro newS.eq_1 sumS.eq_1))) ?_) | (apply SW.toOp; refine SWop.go (And.intro refSumS.eq_1 (And.intro e1 (And.intro newS.eq_1 sumS.eq_1))) ?_) | (apply SW.toCG; first | refine SWcall.yes (And.intro refSumS.eq_1 (And.intro e1 (And.intro newS.eq_1 sumS.eq_1))) ?_ | refine SWcall.no (And.intro refSumS.eq_1 (And.intro e1 (And.intro newS.eq_1 sumS.eq_1))) ?_) | (apply SW.toG; first | refine SWop.yes (And.intro refSumS.eq_1 (And.intro e1 (And.intro newS.eq_1 sumS.eq_1))) ?_ | refine SWop.no (And.intro refSumS.eq_1 (And.intro e1 (And.intro newS.eq_1 sumS.eq_1))) ?_)
  refine W.drawS G [[], [0], [1, 0], [2, 1, 0], [2, 1, 0], [3, 2, 1, 0, 4], [5, 3, 2, 1, 0, 4], [2, 1, 0], [6, 5, 3, 2, 1, 0, 4, 7], [2, 1, 0, 8, 6, 5, 3, 4, 7]] hmix ?_
  dsimp only
  repeat' first
    | (apply DW.nil; (focus (decide +kernel)))
    | (apply DW.toC; refine DWcall.go (And.intro refSumS.eq_1 (And.intro e1 (And.intro newS.eq_1 sumS.eq_1))) ?_) | (apply DW.toOp; refine DWop.go (And.intro refSumS.eq_1 (And.intro e1 (And.intro newS.eq_1 sumS.eq_1))) ?_) | (apply DW.toCG; first | refine DWcall.yes (And.intro refSumS.eq_1 (And.intro e1 (And.intro newS.eq_1 sumS.eq_1))) ?_ | refine DWcall.no (And.intro refSumS.eq_1 (And.intro e1 (And.intro newS.eq_1 sumS.eq_1))) ?_) | (apply DW.toG; first | refine DWop.yes (And.intro refSumS.eq_1 (And.intro e1 (And.intro newS.eq_1 sumS.eq_1))) ?_ | refine DWop.no (And.intro refSumS.eq_1 (And.intro e1 (And.intro newS.eq_1 sumS.eq_1))) ?_)
  repeat' first
    | refine W.seq ?_ | (refine W.regS G ?_; dsimp only) | refine SW.nil ?_ | refine thenQ_normal ?_ | refine W.skip ?_ | refine W.exit ?_ | refine thenQ_exit ?_ | refine inBlockQ_exit ?_ | refine inBlockQ_normal ?_ | refine W.block ?_
    | (apply SW.toC; refine SWcall.go (And.intro refSumS.eq_1 (And.intro e1 (And.intro newS.eq_1 sumS.eq_1))) ?_) | (apply SW.toOp; refine SWop.go (And.intro refSumS.eq_1 (And.intro e1 (And.intro newS.eq_1 sumS.eq_1))) ?_) | (apply SW.toCG; first | refine SWcall.yes (And.intro refSumS.eq_1 (And.intro e1 (And.intro newS.eq_1 sumS.eq_1))) ?_ | refine SWcall.no (And.intro refSumS.eq_1 (And.intro e1 (And.intro newS.eq_1 sumS.eq_1))) ?_) | (apply SW.toG; first | refine SWop.yes (And.intro refSumS.eq_1 (And.intro e1 (And.intro newS.eq_1 sumS.eq_1))) ?_ | refine SWop.no (And.intro refSumS.eq_1 (And.intro e1 (And.intro newS.eq_1 sumS.eq_1))) ?_)
  refine W.condZ G (And.intro refSumS.eq_1 (And.intro e1 (And.intro newS.eq_1 sumS.eq_1))) ?_ ?_
  all_goals intro hc
  · simp at hc
  repeat' first
    | refine W.seq ?_ | (refine W.regS G ?_; dsimp only) | refine SW.nil ?_ | refine thenQ_normal ?_ | refine W.skip ?_ | refine W.exit ?_ | refine thenQ_exit ?_ | refine inBlockQ_exit ?_ | refine inBlockQ_normal ?_
    | (apply SW.toC; refine SWcall.go (And.intro takesS.eq_1 (And.intro l0 (And.intro resetS.eq_1 ok6))) ?_) | (apply SW.toOp; refine SWop.go (And.intro takesS.eq_1 (And.intro l0 (And.intro resetS.eq_1 ok6))) ?_) | (apply SW.toCG; first | refine SWcall.yes (And.intro takesS.eq_1 (And.intro l0 (And.intro resetS.eq_1 ok6))) ?_ | refine SWcall.no (And.intro takesS.eq_1 (And.intro l0 (And.intro resetS.eq_1 ok6))) ?_) | (apply SW.toG; first | refine SWop.yes (And.intro takesS.eq_1 (And.intro l0 (And.intro resetS.eq_1 ok6))) ?_ | refine SWop.no (And.intro takesS.eq_1 (And.intro l0 (And.intro resetS.eq_1 ok6))) ?_)
  have hF : ∀ k, k ≤ b.length → hashF (spo b k) = refSumF (b.take k) := fun k _ => by rw [refSum_eq]; rfl
  have z := spo_zero b
  have z1 : zeros 64 25 = (spo b 0).1 := by rw [z]
  have z2 : (0 : Int) = ((spo b 0).2 : Int) := by rw [z]; rfl
  refine W.midI (ι := {k : Nat // k ≤ b.length}) (fun k => sL [(0, .sl false (.u 8 b)), (4, .b false), (5, .p 5 0 0 0), (6, .p 12 0 0 0), (7, .i (k.1 : Nat))] [(5, .agg 32 (.u 8 (sumF b))), (12, .st [.agg 25 (.u 64 (spo b (k.1)).1), .i ((spo b (k.1)).2 : Int)])] 96) ?_ ?_
  · repeat' first
      | refine W.seq ?_ | (refine W.regS G ?_; dsimp only) | refine SW.nil ?_ | refine thenQ_normal ?_ | refine W.skip ?_ | refine W.exit ?_ | refine thenQ_exit ?_ | refine inBlockQ_exit ?_ | refine inBlockQ_normal ?_ | refine W.block ?_
      | (apply SW.toC; refine SWcall.go (And.intro takesS.eq_1 (And.intro l0 (And.intro resetS.eq_1 ok6))) ?_) | (apply SW.toOp; refine SWop.go (And.intro takesS.eq_1 (And.intro l0 (And.intro resetS.eq_1 ok6))) ?_) | (apply SW.toCG; first | refine SWcall.yes (And.intro takesS.eq_1 (And.intro l0 (And.intro resetS.eq_1 ok6))) ?_ | refine SWcall.no (And.intro takesS.eq_1 (And.intro l0 (And.intro resetS.eq_1 ok6))) ?_) | (apply SW.toG; first | refine SWop.yes (And.intro takesS.eq_1 (And.intro l0 (And.intro resetS.eq_1 ok6))) ?_ | refine SWop.no (And.intro takesS.eq_1 (And.intro l0 (And.intro resetS.eq_1 ok6))) ?_)
    refine W.loopI (ι := {i : Nat // i ≤ cuts.length}) (fun i => sL [(0, .sl false (.u 8 b)), (1, .sl false (.u 16 cuts)), (4, .b false), (5, .p 5 0 0 0), (6, .p 12 0 0 0), (7, .i (atF b.length cuts i.1 : Nat)), (8, .i i.1)] [(5, .agg 32 (.u 8 (sumF b))), (12, .st [.agg 25 (.u 64 (spo b (atF b.length cuts i.1)).1), .i ((spo b (atF b.length cuts i.1)).2 : Int)])] 96) (fun i => cuts.length - i.1) ⟨0, Nat.zero_le _⟩ (Imp.le ?_) ?_
    · exact sL_leZ (And.intro takesS.eq_1 (And.intro l0 (And.intro resetS.eq_1 ok6)))
    rintro ⟨i, hi⟩
    have e : atF b.length cuts (i + 1) = atF b.length cuts i + (cuts.getD i 0).toNat % (b.length - atF b.length cuts i + 1) := by rw [atF, itN_succ]; rfl
    have ha := atF_le b.length cuts i
    generalize atF b.length cuts i = a at e ha ⊢
    generalize hx : (cuts.getD i 0) = x at e
    by_cases h1 : i < cuts.length
    · by_cases h2 : a < b.length
      · have h1' : ((i : Int) < cuts.length) = True := eq_true (by omega)
        have h2' : ((a : Int) < b.length) = True := eq_true (by omega)
        obtain ⟨n, hn⟩ : ∃ n : Nat, n = x.toNat % (b.length - a + 1) := ⟨_, rfl⟩
        have hn2 : n < b.length - a + 1 := by rw [hn]; exact Nat.mod_lt _ (by omega)
        have hc : ((b.length : Int) - a + 1) = ((b.length - a + 1 : Nat) : Int) := by omega
        have hn3 : ((x.toNat : Int) % ((b.length : Int) - a + 1)) = (n : Int) := by rw [hn, hc]; rfl
        rw [← hn] at e
        have e2 : a + n - a = n := by omega
        have e3 := spo_step b a n (by omega)
        have l2 := subL_len b a n (by omega)
        have ok := spo_ok b a
        generalize hp : spo b a = p at e3 ok ⊢
        obtain ⟨s, m⟩ := p
        dsimp only at e3 ok ⊢
        repeat' first
          | refine W.seq ?_ | (refine W.regS G ?_; dsimp only) | refine SW.nil ?_ | refine thenQ_normal ?_ | refine W.skip ?_ | refine W.exit ?_ | refine thenQ_exit ?_ | refine inBlockQ_exit ?_ | refine inBlockQ_normal ?_ | refine W.block ?_
          | (apply SW.toC; refine SWcall.go (And.intro h1' h2') ?_) | (apply SW.toOp; refine SWop.go (And.intro h1' h2') ?_) | (apply SW.toCG; first | refine SWcall.yes (And.intro h1' h2') ?_ | refine SWcall.no (And.intro h1' h2') ?_) | (apply SW.toG; first | refine SWop.yes (And.intro h1' h2') ?_ | refine SWop.no (And.intro h1' h2') ?_)
        refine W.condZ G (And.intro h1' h2') ?_ ?_
        all_goals intro hc
        · skip
          have ok2 := spo_ok b (a + n)
          repeat' first
            | refine W.seq ?_ | (refine W.regS G ?_; dsimp only) | refine SW.nil ?_ | refine thenQ_normal ?_ | refine W.skip ?_ | refine W.exit ?_ | refine thenQ_exit ?_ | refine inBlockQ_exit ?_ | refine inBlockQ_normal ?_
            | (apply SW.toC; refine SWcall.go (And.intro hx (And.intro hn3 (And.intro e2 (And.intro l2 (And.intro takesS.eq_1 (And.intro ok e3)))))) ?_) | (apply SW.toOp; refine SWop.go (And.intro hx (And.intro hn3 (And.intro e2 (And.intro l2 (And.intro takesS.eq_1 (And.intro ok e3)))))) ?_) | (apply SW.toCG; first | refine SWcall.yes (And.intro hx (And.intro hn3 (And.intro e2 (And.intro l2 (And.intro takesS.eq_1 (And.intro ok e3)))))) ?_ | refine SWcall.no (And.intro hx (And.intro hn3 (And.intro e2 (And.intro l2 (And.intro takesS.eq_1 (And.intro ok e3)))))) ?_) | (apply SW.toG; first | refine SWop.yes (And.intro hx (And.intro hn3 (And.intro e2 (And.intro l2 (And.intro takesS.eq_1 (And.intro ok e3)))))) ?_ | refine SWop.no (And.intro hx (And.intro hn3 (And.intro e2 (And.intro l2 (And.intro takesS.eq_1 (And.intro ok e3)))))) ?_)
          refine W.block ?_
          repeat' first
            | refine W.seq ?_ | (refine W.regS G ?_; dsimp only) | refine SW.nil ?_ | refine thenQ_normal ?_ | refine W.skip ?_ | refine W.exit ?_ | refine thenQ_exit ?_ | refine inBlockQ_exit ?_ | refine inBlockQ_normal ?_
            | (apply SW.toC; refine SWcall.go (And.intro hx (And.intro hn3 (And.intro e2 (And.intro l2 (And.intro takesS.eq_1 (And.intro ok e3)))))) ?_) | (apply SW.toOp; refine SWop.go (And.intro hx (And.intro hn3 (And.intro e2 (And.intro l2 (And.intro takesS.eq_1 (And.intro ok e3)))))) ?_) | (apply SW.toCG; first | refine SWcall.yes (And.intro hx (And.intro hn3 (And.intro e2 (And.intro l2 (And.intro takesS.eq_1 (And.intro ok e3)))))) ?_ | refine SWcall.no (And.intro hx (And.intro hn3 (And.intro e2 (And.intro l2 (And.intro takesS.eq_1 (And.intro ok e3)))))) ?_) | (apply SW.toG; first | refine SWop.yes (And.intro hx (And.intro hn3 (And.intro e2 (And.intro l2 (And.intro takesS.eq_1 (And.intro ok e3)))))) ?_ | refine SWop.no (And.intro hx (And.intro hn3 (And.intro e2 (And.intro l2 (And.intro takesS.eq_1 (And.intro ok e3)))))) ?_)
          have hq : hashF ((spo b (a + n)).1, (spo b (a + n)).2) = refSumF (b.take (a + n)) := hF _ (by omega)
          have e4 : ((a : Int) + n) = ((a + n : Nat) : Int) := by omega
          have l3 : (subL b 0 (a + n)).length = a + n := subL_len b 0 (a + n) (by omega)
          have e5 : subL b 0 (a + n) = b.take (a + n) := subL_zero b (a + n)
          have l5 : (b.take (a + n)).length = a + n := by rw [List.length_take]; omega
          by_cases hi0 : i = 0
          · have h3' : ((i : Int) = 0) = True := eq_true (by omega)
            refine W.drawS G [[], [0], [1, 0], [2, 1, 0], [3, 2, 1, 0], [2, 1, 0], [2, 1, 0], [5, 2, 1, 0, 6], [7, 5, 2, 1, 0, 6, 4, 3], [4, 3, 2, 1, 0, 8, 7, 5, 6], [2, 1, 0, 9, 4, 3, 8, 7, 5, 6]] hmix ?_
            dsimp only
            repeat' first
              | (apply DW.nil; (focus (decide +kernel)))
              | (apply DW.toC; refine DWcall.go (And.intro hx (And.intro hn3 (And.intro e2 (And.intro l2 (And.intro takesS.eq_1 (And.intro ok (And.intro e3 (And.intro h3' (And.intro eqI (And.intro ssumS.eq_1 (And.intro ok2 (And.intro e4 (And.intro l3 (And.intro refSumS.eq_1 (And.intro hq (And.intro e5 l5)))))))))))))))) ?_) | (apply DW.toOp; refine DWop.go (And.intro hx (And.intro hn3 (And.intro e2 (And.intro l2 (And.intro takesS.eq_1 (And.intro ok (And.intro e3 (And.intro h3' (And.intro eqI (And.intro ssumS.eq_1 (And.intro ok2 (And.intro e4 (And.intro l3 (And.intro refSumS.eq_1 (And.intro hq (And.intro e5 l5)))))))))))))))) ?_) | (apply DW.toCG; first | refine DWcall.yes (And.intro hx (And.intro hn3 (And.intro e2 (And.intro l2 (And.intro takesS.eq_1 (And.intro ok (And.intro e3 (And.intro h3' (And.intro eqI (And.intro ssumS.eq_1 (And.intro ok2 (And.intro e4 (And.intro l3 (And.intro refSumS.eq_1 (And.intro hq (And.intro e5 l5)))))))))))))))) ?_ | refine DWcall.no (And.intro hx (And.intro hn3 (And.intro e2 (And.intro l2 (And.intro takesS.eq_1 (And.intro ok (And.intro e3 (And.intro h3' (And.intro eqI (And.intro ssumS.eq_1 (And.intro ok2 (And.intro e4 (And.intro l3 (And.intro refSumS.eq_1 (And.intro hq (And.intro e5 l5)))))))))))))))) ?_) | (apply DW.toG; first | refine DWop.yes (And.intro hx (And.intro hn3 (And.intro e2 (And.intro l2 (And.intro takesS.eq_1 (And.intro ok (And.intro e3 (And.intro h3' (And.intro eqI (And.intro ssumS.eq_1 (And.intro ok2 (And.intro e4 (And.intro l3 (And.intro refSumS.eq_1 (And.intro hq (And.intro e5 l5)))))))))))))))) ?_ | refine DWop.no (And.intro hx (And.intro hn3 (And.intro e2 (And.intro l2 (And.intro takesS.eq_1 (And.intro ok (And.intro e3 (And.intro h3' (And.intro eqI (And.intro ssumS.eq_1 (And.intro ok2 (And.intro e4 (And.intro l3 (And.intro refSumS.eq_1 (And.intro hq (And.intro e5 l5)))))))))))))))) ?_)
            repeat' first
              | refine W.seq ?_ | (refine W.regS G ?_; dsimp only) | refine SW.nil ?_ | refine thenQ_normal ?_ | refine W.skip ?_ | refine W.exit ?_ | refine thenQ_exit ?_ | refine inBlockQ_exit ?_ | refine inBlockQ_normal ?_ | refine W.block ?_
              | (apply SW.toC; refine SWcall.go (And.intro hx (And.intro hn3 (And.intro e2 (And.intro l2 (And.intro takesS.eq_1 (And.intro ok e3)))))) ?_) | (apply SW.toOp; refine SWop.go (And.intro hx (And.intro hn3 (And.intro e2 (And.intro l2 (And.intro takesS.eq_1 (And.intro ok e3)))))) ?_) | (apply SW.toCG; first | refine SWcall.yes (And.intro hx (And.intro hn3 (And.intro e2 (And.intro l2 (And.intro takesS.eq_1 (And.intro ok e3)))))) ?_ | refine SWcall.no (And.intro hx (And.intro hn3 (And.intro e2 (And.intro l2 (And.intro takesS.eq_1 (And.intro ok e3)))))) ?_) | (apply SW.toG; first | refine SWop.yes (And.intro hx (And.intro hn3 (And.intro e2 (And.intro l2 (And.intro takesS.eq_1 (And.intro ok e3)))))) ?_ | refine SWop.no (And.intro hx (And.intro hn3 (And.intro e2 (And.intro l2 (And.intro takesS.eq_1 (And.intro ok e3)))))) ?_)
            refine W.condZ G (And.intro hx (And.intro hn3 (And.intro e2 (And.intro l2 (And.intro takesS.eq_1 (And.intro ok e3)))))) ?_ ?_
            all_goals intro hd
            · simp [e5] at hd
            repeat' first
              | refine W.seq ?_ | (refine W.regS G ?_; dsimp only) | refine SW.nil ?_ | refine thenQ_normal ?_ | refine W.skip ?_ | refine W.exit ?_ | refine thenQ_exit ?_ | refine inBlockQ_exit ?_ | refine inBlockQ_normal ?_ | refine W.block ?_
              | (apply SW.toC; refine SWcall.go (And.intro hx (And.intro hn3 (And.intro e2 (And.intro l2 (And.intro takesS.eq_1 (And.intro ok e3)))))) ?_) | (apply SW.toOp; refine SWop.go (And.intro hx (And.intro hn3 (And.intro e2 (And.intro l2 (And.intro takesS.eq_1 (And.intro ok e3)))))) ?_) | (apply SW.toCG; first | refine SWcall.yes (And.intro hx (And.intro hn3 (And.intro e2 (And.intro l2 (And.intro takesS.eq_1 (And.intro ok e3)))))) ?_ | refine SWcall.no (And.intro hx (And.intro hn3 (And.intro e2 (And.intro l2 (And.intro takesS.eq_1 (And.intro ok e3)))))) ?_) | (apply SW.toG; first | refine SWop.yes (And.intro hx (And.intro hn3 (And.intro e2 (And.intro l2 (And.intro takesS.eq_1 (And.intro ok e3)))))) ?_ | refine SWop.no (And.intro hx (And.intro hn3 (And.intro e2 (And.intro l2 (And.intro takesS.eq_1 (And.intro ok e3)))))) ?_)
            refine ⟨⟨i + 1, by omega⟩, Imp.le ?_, by show _ - (i + 1) < _ - i; omega⟩
            exact sL_leZ (And.intro e (And.intro e4 (And.intro hx (And.intro hn3 (And.intro e2 (And.intro l2 (And.intro takesS.eq_1 (And.intro ok e3))))))))
          · have h3' : ((i : Int) = 0) = False := eq_false (by omega)
            refine W.drawS G [[], [0], [1, 0], [2, 1, 0], [3, 2, 1, 0], [2, 1, 0], [2, 1, 0], [5, 2, 1, 0, 6], [7, 5, 2, 1, 0, 6, 4, 3], [4, 3, 2, 1, 0, 8, 7, 5, 6], [2, 1, 0, 9, 4, 3, 8, 7, 5, 6]] hmix ?_
            dsimp only
            repeat' first
              | (apply DW.nil; (focus (decide +kernel)))
              | (apply DW.toC; refine DWcall.go (And.intro hx (And.intro hn3 (And.intro e2 (And.intro l2 (And.intro takesS.eq_1 (And.intro ok (And.intro e3 h3'))))))) ?_) | (apply DW.toOp; refine DWop.go (And.intro hx (And.intro hn3 (And.intro e2 (And.intro l2 (And.intro takesS.eq_1 (And.intro ok (And.intro e3 h3'))))))) ?_) | (apply DW.toCG; first | refine DWcall.yes (And.intro hx (And.intro hn3 (And.intro e2 (And.intro l2 (And.intro takesS.eq_1 (And.intro ok (And.intro e3 h3'))))))) ?_ | refine DWcall.no (And.intro hx (And.intro hn3 (And.intro e2 (And.intro l2 (And.intro takesS.eq_1 (And.intro ok (And.intro e3 h3'))))))) ?_) | (apply DW.toG; first | refine DWop.yes (And.intro hx (And.intro hn3 (And.intro e2 (And.intro l2 (And.intro takesS.eq_1 (And.intro ok (And.intro e3 h3'))))))) ?_ | refine DWop.no (And.intro hx (And.intro hn3 (And.intro e2 (And.intro l2 (And.intro takesS.eq_1 (And.intro ok (And.intro e3 h3'))))))) ?_)
            repeat' first
              | refine W.seq ?_ | (refine W.regS G ?_; dsimp only) | refine SW.nil ?_ | refine thenQ_normal ?_ | refine W.skip ?_ | refine W.exit ?_ | refine thenQ_exit ?_ | refine inBlockQ_exit ?_ | refine inBlockQ_normal ?_ | refine W.block ?_
              | (apply SW.toC; refine SWcall.go (And.intro hx (And.intro hn3 (And.intro e2 (And.intro l2 (And.intro takesS.eq_1 (And.intro ok e3)))))) ?_) | (apply SW.toOp; refine SWop.go (And.intro hx (And.intro hn3 (And.intro e2 (And.intro l2 (And.intro takesS.eq_1 (And.intro ok e3)))))) ?_) | (apply SW.toCG; first | refine SWcall.yes (And.intro hx (And.intro hn3 (And.intro e2 (And.intro l2 (And.intro takesS.eq_1 (And.intro ok e3)))))) ?_ | refine SWcall.no (And.intro hx (And.intro hn3 (And.intro e2 (And.intro l2 (And.intro takesS.eq_1 (And.intro ok e3)))))) ?_) | (apply SW.toG; first | refine SWop.yes (And.intro hx (And.intro hn3 (And.intro e2 (And.intro l2 (And.intro takesS.eq_1 (And.intro ok e3)))))) ?_ | refine SWop.no (And.intro hx (And.intro hn3 (And.intro e2 (And.intro l2 (And.intro takesS.eq_1 (And.intro ok e3)))))) ?_)
            refine W.condZ G (And.intro hx (And.intro hn3 (And.intro e2 (And.intro l2 (And.intro takesS.eq_1 (And.intro ok e3)))))) ?_ ?_
            all_goals intro hd
            · simp at hd
            repeat' first
              | refine W.seq ?_ | (refine W.regS G ?_; dsimp only) | refine SW.nil ?_ | refine thenQ_normal ?_ | refine W.skip ?_ | refine W.exit ?_ | refine thenQ_exit ?_ | refine inBlockQ_exit ?_ | refine inBlockQ_normal ?_ | refine W.block ?_
              | (apply SW.toC; refine SWcall.go (And.intro hx (And.intro hn3 (And.intro e2 (And.intro l2 (And.intro takesS.eq_1 (And.intro ok e3)))))) ?_) | (apply SW.toOp; refine SWop.go (And.intro hx (And.intro hn3 (And.intro e2 (And.intro l2 (And.intro takesS.eq_1 (And.intro ok e3)))))) ?_) | (apply SW.toCG; first | refine SWcall.yes (And.intro hx (And.intro hn3 (And.intro e2 (And.intro l2 (And.intro takesS.eq_1 (And.intro ok e3)))))) ?_ | refine SWcall.no (And.intro hx (And.intro hn3 (And.intro e2 (And.intro l2 (And.intro takesS.eq_1 (And.intro ok e3)))))) ?_) | (apply SW.toG; first | refine SWop.yes (And.intro hx (And.intro hn3 (And.intro e2 (And.intro l2 (And.intro takesS.eq_1 (And.intro ok e3)))))) ?_ | refine SWop.no (And.intro hx (And.intro hn3 (And.intro e2 (And.intro l2 (And.intro takesS.eq_1 (And.intro ok e3)))))) ?_)
            refine ⟨⟨i + 1, by omega⟩, Imp.le ?_, by show _ - (i + 1) < _ - i; omega⟩
            exact sL_leZ (And.intro e (And.intro e4 (And.intro hx (And.intro hn3 (And.intro e2 (And.intro l2 (And.intro takesS.eq_1 (And.intro ok e3))))))))
        · simp at hc
      · have h1' : ((i : Int) < cuts.length) = True := eq_true (by omega)
        have h2' : ((a : Int) < b.length) = False := eq_false (by omega)
        repeat' first
          | refine W.seq ?_ | (refine W.regS G ?_; dsimp only) | refine SW.nil ?_ | refine thenQ_normal ?_ | refine W.skip ?_ | refine W.exit ?_ | refine thenQ_exit ?_ | refine inBlockQ_exit ?_ | refine inBlockQ_normal ?_ | refine W.block ?_
          | (apply SW.toC; refine SWcall.go (And.intro h1' h2') ?_) | (apply SW.toOp; refine SWop.go (And.intro h1' h2') ?_) | (apply SW.toCG; first | refine SWcall.yes (And.intro h1' h2') ?_ | refine SWcall.no (And.intro h1' h2') ?_) | (apply SW.toG; first | refine SWop.yes (And.intro h1' h2') ?_ | refine SWop.no (And.intro h1' h2') ?_)
        refine W.condZ G (And.intro h1' h2') ?_ ?_
        all_goals intro hc
        · simp at hc
        repeat' first
          | refine W.seq ?_ | (refine W.regS G ?_; dsimp only) | refine SW.nil ?_ | refine thenQ_normal ?_ | refine W.skip ?_ | refine W.exit ?_ | refine thenQ_exit ?_ | refine inBlockQ_exit ?_ | refine inBlockQ_normal ?_ | refine W.block ?_
          | (apply SW.toC; refine SWcall.go (And.intro h1' h2') ?_) | (apply SW.toOp; refine SWop.go (And.intro h1' h2') ?_) | (apply SW.toCG; first | refine SWcall.yes (And.intro h1' h2') ?_ | refine SWcall.no (And.intro h1' h2') ?_) | (apply SW.toG; first | refine SWop.yes (And.intro h1' h2') ?_ | refine SWop.no (And.intro h1' h2') ?_)
        refine ⟨⟨a, ha⟩, Imp.le ?_⟩
        exact sL_leZ (And.intro h1' h2')
    · have h1' : ((i : Int) < cuts.length) = False := eq_false (by omega)
      repeat' first
        | refine W.seq ?_ | (refine W.regS G ?_; dsimp only) | refine SW.nil ?_ | refine thenQ_normal ?_ | refine W.skip ?_ | refine W.exit ?_ | refine thenQ_exit ?_ | refine inBlockQ_exit ?_ | refine inBlockQ_normal ?_ | refine W.block ?_
        | (apply SW.toC; refine SWcall.go h1' ?_) | (apply SW.toOp; refine SWop.go h1' ?_) | (apply SW.toCG; first | refine SWcall.yes h1' ?_ | refine SWcall.no h1' ?_) | (apply SW.toG; first | refine SWop.yes h1' ?_ | refine SWop.no h1' ?_)
      refine W.condZ G h1' ?_ ?_
      all_goals intro hc
      · simp at hc
      repeat' first
        | refine W.seq ?_ | (refine W.regS G ?_; dsimp only) | refine SW.nil ?_ | refine thenQ_normal ?_ | refine W.skip ?_ | refine W.exit ?_ | refine thenQ_exit ?_ | refine inBlockQ_exit ?_ | refine inBlockQ_normal ?_ | refine W.block ?_
        | (apply SW.toC; refine SWcall.go h1' ?_) | (apply SW.toOp; refine SWop.go h1' ?_) | (apply SW.toCG; first | refine SWcall.yes h1' ?_ | refine SWcall.no h1' ?_) | (apply SW.toG; first | refine SWop.yes h1' ?_ | refine SWop.no h1' ?_)
      refine ⟨⟨a, ha⟩, Imp.le ?_⟩
      exact sL_leZ h1'
  rintro ⟨a, ha⟩
  have e6 : (b.length : Int) - a = ((b.length - a : Nat) : Int) := by omega
  have l4 := subL_len b a (b.length - a) (by omega)
  have e7 := spo_step b a (b.length - a) (by omega)
  have e8 : a + (b.length - a) = b.length := by omega
  rw [e8] at e7
  have ok := spo_ok b a
  have ok2 := spo_ok b b.length
  have hq := spo_all b
  generalize hp : spo b a = p at e7 ok ⊢
  generalize spo b b.length = p2 at e7 ok2 hq ⊢
  obtain ⟨s, m⟩ := p
  obtain ⟨s2, m2⟩ := p2
  dsimp only at e7 ok ok2 hq ⊢
  generalize sumF b = H at hq ⊢
  repeat' first
    | refine W.seq ?_ | (refine W.regS G ?_; dsimp only) | refine SW.nil ?_ | refine thenQ_normal ?_ | refine W.skip ?_ | refine W.exit ?_ | refine thenQ_exit ?_ | refine inBlockQ_exit ?_ | refine inBlockQ_normal ?_ | refine W.block ?_
    | (apply SW.toC; refine SWcall.go (And.intro l4 (And.intro takesS.eq_1 (And.intro ok e7))) ?_) | (apply SW.toOp; refine SWop.go (And.intro l4 (And.intro takesS.eq_1 (And.intro ok e7))) ?_) | (apply SW.toCG; first | refine SWcall.yes (And.intro l4 (And.intro takesS.eq_1 (And.intro ok e7))) ?_ | refine SWcall.no (And.intro l4 (And.intro takesS.eq_1 (And.intro ok e7))) ?_) | (apply SW.toG; first | refine SWop.yes (And.intro l4 (And.intro takesS.eq_1 (And.intro ok e7))) ?_ | refine SWop.no (And.intro l4 (And.intro takesS.eq_1 (And.intro ok e7))) ?_)
  refine W.drawS G [[], [0], [], [1, 0, 2], [3, 1, 0, 2], [4, 3, 1, 0, 2], [5, 4, 3, 1, 0, 2], [4, 3, 1, 0, 2], [6, 5, 4, 3, 1, 0, 2, 7], [4, 3, 1, 0, 2, 8, 6, 5, 7], [9, 4, 3, 1, 0, 2, 8, 6, 5, 7], [10, 9, 4, 3, 1, 0, 2, 8, 6, 5, 7], [10, 9, 4, 3, 1, 0, 2, 8, 6, 5, 7, 11], [12, 10, 9, 4, 3, 1, 0, 2, 8, 6, 5, 7, 11]] hmix ?_
  dsimp only
  repeat' first
    | (apply DW.nil; (focus (decide +kernel)))
    | (apply DW.toC; refine DWcall.go (And.intro l4 (And.intro takesS.eq_1 (And.intro ok (And.intro e7 (And.intro ssumS.eq_1 (And.intro ok2 (And.intro hq liveS.eq_1))))))) ?_) | (apply DW.toOp; refine DWop.go (And.intro l4 (And.intro takesS.eq_1 (And.intro ok (And.intro e7 (And.intro ssumS.eq_1 (And.intro ok2 (And.intro hq liveS.eq_1))))))) ?_) | (apply DW.toCG; first | refine DWcall.yes (And.intro l4 (And.intro takesS.eq_1 (And.intro ok (And.intro e7 (And.intro ssumS.eq_1 (And.intro ok2 (And.intro hq liveS.eq_1))))))) ?_ | refine DWcall.no (And.intro l4 (And.intro takesS.eq_1 (And.intro ok (And.intro e7 (And.intro ssumS.eq_1 (And.intro ok2 (And.intro hq liveS.eq_1))))))) ?_) | (apply DW.toG; first | refine DWop.yes (And.intro l4 (And.intro takesS.eq_1 (And.intro ok (And.intro e7 (And.intro ssumS.eq_1 (And.intro ok2 (And.intro hq liveS.eq_1))))))) ?_ | refine DWop.no (And.intro l4 (And.intro takesS.eq_1 (And.intro ok (And.intro e7 (And.intro ssumS.eq_1 (And.intro ok2 (And.intro hq liveS.eq_1))))))) ?_)
  repeat' first
    | refine W.seq ?_ | (refine W.regS G ?_; dsimp only) | refine SW.nil ?_ | refine thenQ_normal ?_ | refine W.skip ?_ | refine W.exit ?_ | refine thenQ_exit ?_ | refine inBlockQ_exit ?_ | refine inBlockQ_normal ?_ | refine W.block ?_
    | (apply SW.toC; refine SWcall.go (And.intro l4 (And.intro takesS.eq_1 (And.intro ok e7))) ?_) | (apply SW.toOp; refine SWop.go (And.intro l4 (And.intro takesS.eq_1 (And.intro ok e7))) ?_) | (apply SW.toCG; first | refine SWcall.yes (And.intro l4 (And.intro takesS.eq_1 (And.intro ok e7))) ?_ | refine SWcall.no (And.intro l4 (And.intro takesS.eq_1 (And.intro ok e7))) ?_) | (apply SW.toG; first | refine SWop.yes (And.intro l4 (And.intro takesS.eq_1 (And.intro ok e7))) ?_ | refine SWop.no (And.intro l4 (And.intro takesS.eq_1 (And.intro ok e7))) ?_)
  refine W.ret ?_
  repeat' first
    | refine thenQ_ret ?_
    | refine inBlockQ_ret ?_
  refine fin1Z (And.intro l4 (And.intro takesS.eq_1 (And.intro ok e7))) ?_
  exact leV_refl
end Go.Vm.C03

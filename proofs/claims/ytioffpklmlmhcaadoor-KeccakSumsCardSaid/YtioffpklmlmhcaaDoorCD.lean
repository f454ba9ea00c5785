/- What some functions of the program compute, walked through once. -/
import Derived.Test.YtioffpklmlmhcaaDoorCC
namespace Go.Vm.C03
open Go Go.Proofs
set_option linter.unusedVariables false
set_option linter.unusedSimpArgs false
set_option maxRecDepth 100000
set_option maxHeartbeats 8000000

/-! ### the program's variables -/
def constB : List (BitVec 64) := [1, 32898, 9223372036854808714, 9223372039002292224, 32907, 2147483649, 9223372039002292353, 9223372036854808585, 138, 136, 2147516425, 2147483658, 2147516555, 9223372036854775947, 9223372036854808713, 9223372036854808579, 9223372036854808578, 9223372036854775936, 32778, 9223372039002259466, 9223372039002292353, 9223372036854808704, 2147483649, 9223372039002292232]
def turnsB : List Int := [1, 3, 6, 10, 15, 21, 28, 36, 45, 55, 2, 14, 27, 41, 56, 8, 25, 43, 62, 18, 39, 61, 20, 44]
def placesB : List Int := [10, 7, 11, 17, 18, 3, 5, 16, 8, 21, 24, 4, 15, 23, 19, 13, 12, 2, 20, 14, 22, 9, 6, 1]
def glB : Nat → Option Row := fun g => if g = 0 then some (.u 64 constB) else if g = 1 then some (.i placesB) else if g = 2 then some (.i turnsB) else none
theorem glB_ro : ∀ g r, glB g = some r → r.ro = r := by
  intro g r h
  unfold glB at h
  split at h
  · cases h; rfl
  split at h
  · cases h; rfl
  split at h
  · cases h; rfl
  cases h
theorem glB0 : glB 0 = some (.u 64 constB) := rfl
theorem glB1 : glB 1 = some (.i placesB) := rfl
theorem glB2 : glB 2 = some (.i turnsB) := rfl
theorem constB_len : constB.length = 24 := rfl
theorem placesB_len : placesB.length = 24 := rfl
theorem turnsB_len : turnsB.length = 24 := rfl
theorem placesB_in : ∀ i, i < 24 → 0 ≤ placesB.getD i 0 ∧ placesB.getD i 0 < 25 := by decide

/-! ### the permutation, the program's way -/
def pC (s : List (BitVec 64)) (k : Nat) (c : List (BitVec 64)) : List (BitVec 64) :=
  itN (fun x c => c.set x (s.getD x 0 ^^^ s.getD ((x : Int) + 5).toNat 0 ^^^ s.getD ((x : Int) + 10).toNat 0 ^^^ s.getD ((x : Int) + 15).toNat 0 ^^^ s.getD ((x : Int) + 20).toNat 0)) k c
def pdIn (d : BitVec 64) (x k : Nat) (s : List (BitVec 64)) : List (BitVec 64) := itN (fun k s => s.set (x + 5 * k) (s.getD (x + 5 * k) 0 ^^^ d)) k s
def pT (c : List (BitVec 64)) (k : Nat) (s : List (BitVec 64)) : List (BitVec 64) :=
  itN (fun x s => pdIn (c.getD (((x : Int) + 4) % 5).toNat 0 ^^^ rotF (c.getD (((x : Int) + 1) % 5).toNat 0) 1) x 5 s) k s
def pR (s : List (BitVec 64)) (k : Nat) : List (BitVec 64) × BitVec 64 :=
  itN (fun i (p : List (BitVec 64) × BitVec 64) => (p.1.set (placesB.getD i 0).toNat (rotF p.2 (turnsB.getD i 0)), p.1.getD (placesB.getD i 0).toNat 0)) k (s, s.getD 1 0)
def pkIn (c : List (BitVec 64)) (y k : Nat) (s : List (BitVec 64)) : List (BitVec 64) :=
  itN (fun x s => s.set (y + x) (s.getD (y + x) 0 ^^^ (~~~ c.getD (((x : Int) + 1) % 5).toNat 0 &&& c.getD (((x : Int) + 2) % 5).toNat 0))) k s
noncomputable def pkStep (k : Nat) (p : List (BitVec 64) × List (BitVec 64)) : List (BitVec 64) × List (BitVec 64) := (pkIn (splL p.2 0 (subL p.1 (5 * k) 5)) (5 * k) 5 p.1, splL p.2 0 (subL p.1 (5 * k) 5))
noncomputable def pK (k : Nat) (p : List (BitVec 64) × List (BitVec 64)) : List (BitVec 64) × List (BitVec 64) := itN pkStep k p
noncomputable def pRound (i : Nat) (p : List (BitVec 64) × List (BitVec 64)) : List (BitVec 64) × List (BitVec 64) :=
  let c := pC p.1 5 p.2
  let q := pK 5 ((pR (pT c 5 p.1) 24).1, c)
  (q.1.set 0 (q.1.getD 0 0 ^^^ constB.getD i 0), q.2)
noncomputable def permF (s : List (BitVec 64)) : List (BitVec 64) := (itN pRound 24 (s, zeros 64 5)).1

theorem pC_len (s : List (BitVec 64)) (k : Nat) (c : List (BitVec 64)) : (pC s k c).length = c.length := itN_inv (p := fun (t : List (BitVec 64)) => t.length = c.length) (fun _ _ h => by simpa using h) k rfl
theorem pdIn_len (d : BitVec 64) (x k : Nat) (s : List (BitVec 64)) : (pdIn d x k s).length = s.length := itN_inv (p := fun (t : List (BitVec 64)) => t.length = s.length) (fun _ _ h => by simpa using h) k rfl
theorem pT_len (c : List (BitVec 64)) (k : Nat) (s : List (BitVec 64)) : (pT c k s).length = s.length := itN_inv (p := fun (t : List (BitVec 64)) => t.length = s.length) (fun _ _ h => by rw [pdIn_len]; exact h) k rfl
theorem pR_len (s : List (BitVec 64)) (k : Nat) : (pR s k).1.length = s.length := itN_inv (p := fun (t : List (BitVec 64) × BitVec 64) => t.1.length = s.length) (fun _ _ h => by simpa using h) k rfl
theorem pkIn_len (c : List (BitVec 64)) (y k : Nat) (s : List (BitVec 64)) : (pkIn c y k s).length = s.length := itN_inv (p := fun (t : List (BitVec 64)) => t.length = s.length) (fun _ _ h => by simpa using h) k rfl
theorem pK_len (k : Nat) (p : List (BitVec 64) × List (BitVec 64)) : (pK k p).1.length = p.1.length := itN_inv (p := fun (t : List (BitVec 64) × List (BitVec 64)) => t.1.length = p.1.length) (fun _ _ h => by simp only [pkStep, pkIn_len]; exact h) k rfl
theorem pRound_len (i : Nat) (p : List (BitVec 64) × List (BitVec 64)) : (pRound i p).1.length = p.1.length := by
  simp only [pRound, List.length_set, pK_len, pR_len, pT_len]
theorem perm_to_len (s : List (BitVec 64)) (k : Nat) : (itN pRound k (s, zeros 64 5)).1.length = s.length :=
  itN_inv (p := fun (t : List (BitVec 64) × List (BitVec 64)) => t.1.length = s.length) (fun _ _ h => by rw [pRound_len]; exact h) k rfl

noncomputable def permS : FSpec := { run := fun ins => match ins with
  | [.ref 0 0 (.agg 25 (.u 64 s))] => chk (s.length = 25) (some (.tup [], [.agg 25 (.u 64 (permF s))]))
  | [.ref 1 0 (.st [.agg 25 (.u 64 s), .i n])] => chk (s.length = 25) (some (.tup [], [.st [.agg 25 (.u 64 (permF s)), .i n]]))
  | _ => none }
noncomputable def permS1 : FSpec := { run := fun ins => match ins with
  | [.ref 0 0 (.agg 25 (.u 64 s))] => chk (s.length = 25) (some (.tup [], [.agg 25 (.u 64 (permF s))]))
  | _ => none }
noncomputable def permS2 : FSpec := { run := fun ins => match ins with
  | [.ref 1 0 (.st [.agg 25 (.u 64 s), .i n])] => chk (s.length = 25) (some (.tup [], [.st [.agg 25 (.u 64 (permF s)), .i n]]))
  | _ => none }

/-- the round's walk, 1 -/
theorem perm_1 : SoundFn Tryd.prog glB 16 permS1.run := by
  have G := good_of (P := Tryd.prog) glB_ro (l := [(20, rotS)]) (by simp only [List.forall_mem_cons]; exact ⟨rot_sound glB_ro, by simp⟩)
  refine soundFn_of_W G Tryd.func16 (by decide) rfl (by decide) ?_
  intro ins ret outs h
  unfold permS1 at h
  dsimp only at h
  split at h
  rotate_left
  · cases h
  rename_i s
  obtain ⟨hl, h'⟩ := chk_some h
  clear h
  cases h'
  refine ⟨by show 1 ≤ 158; decide, fun w0 ext av => ?_⟩
  rw [Tryd.ntmps16, st0_eq]
  repeat' first
    | refine W.seq ?_ | (refine W.regS G ?_; dsimp only) | refine SW.nil ?_ | refine thenQ_normal ?_ | refine W.skip ?_ | refine W.exit ?_ | refine thenQ_exit ?_ | refine inBlockQ_exit ?_ | refine inBlockQ_normal ?_ | refine W.block ?_
    | (apply SW.toC; refine SWcall.go (And.intro glB0 (And.intro glB1 (And.intro glB2 (And.intro constB_len (And.intro placesB_len turnsB_len))))) ?_) | (apply SW.toOp; refine SWop.go (And.intro glB0 (And.intro glB1 (And.intro glB2 (And.intro constB_len (And.intro placesB_len turnsB_len))))) ?_) | (apply SW.toCG; first | refine SWcall.yes (And.intro glB0 (And.intro glB1 (And.intro glB2 (And.intro constB_len (And.intro placesB_len turnsB_len))))) ?_ | refine SWcall.no (And.intro glB0 (And.intro glB1 (And.intro glB2 (And.intro constB_len (And.intro placesB_len turnsB_len))))) ?_) | (apply SW.toG; first | refine SWop.yes (And.intro glB0 (And.intro glB1 (And.intro glB2 (And.intro constB_len (And.intro placesB_len turnsB_len))))) ?_ | refine SWop.no (And.intro glB0 (And.intro glB1 (And.intro glB2 (And.intro constB_len (And.intro placesB_len turnsB_len))))) ?_)
  have hF : permF s = (itN pRound 24 (s, zeros 64 5)).1 := rfl
  refine W.loopI (ι := {i : Nat // i ≤ 24}) (fun i => sL [(0, .p 1000 0 0 0), (2, .p 2 0 0 0), (14, .agg 24 (.u 64 constB)), (15, .i i.1)] [(1000, .agg 25 (.u 64 (itN pRound i.1 (s, zeros 64 5)).1)), (2, .agg 5 (.u 64 (itN pRound i.1 (s, zeros 64 5)).2))] 158) (fun i => 24 - i.1) ⟨0, Nat.zero_le _⟩ (Imp.le ?_) ?_
  · exact sL_leZ (And.intro glB0 (And.intro glB1 (And.intro glB2 (And.intro constB_len (And.intro placesB_len turnsB_len)))))
  rintro ⟨i, hi⟩
  have e : itN pRound (i + 1) (s, zeros 64 5) = pRound i (itN pRound i (s, zeros 64 5)) := itN_succ _ _ _
  have hend : i = 24 → permF s = (itN pRound i (s, zeros 64 5)).1 := by rintro rfl; rfl
  have l0 : (itN pRound i (s, zeros 64 5)).1.length = 25 := by rw [perm_to_len, hl]
  generalize itN pRound i (s, zeros 64 5) = p at e hend l0 ⊢
  obtain ⟨s0, c0⟩ := p
  dsimp only at e hend l0 ⊢
  repeat' first
    | refine W.seq ?_ | (refine W.regS G ?_; dsimp only) | refine SW.nil ?_ | refine thenQ_normal ?_ | refine W.skip ?_ | refine W.exit ?_ | refine thenQ_exit ?_ | refine inBlockQ_exit ?_ | refine inBlockQ_normal ?_ | refine W.block ?_
    | (apply SW.toC; refine SWcall.go constB_len ?_) | (apply SW.toOp; refine SWop.go constB_len ?_) | (apply SW.toCG; first | refine SWcall.yes constB_len ?_ | refine SWcall.no constB_len ?_) | (apply SW.toG; first | refine SWop.yes constB_len ?_ | refine SWop.no constB_len ?_)
  refine W.condZ G constB_len ?_ ?_
  all_goals intro ht
  · have ht' := of_decide_eq_true ht
    repeat' first
      | refine W.seq ?_ | (refine W.regS G ?_; dsimp only) | refine SW.nil ?_ | refine thenQ_normal ?_ | refine W.skip ?_ | refine W.exit ?_ | refine thenQ_exit ?_ | refine inBlockQ_exit ?_ | refine inBlockQ_normal ?_
      | (apply SW.toC; refine SWcall.go constB_len ?_) | (apply SW.toOp; refine SWop.go constB_len ?_) | (apply SW.toCG; first | refine SWcall.yes constB_len ?_ | refine SWcall.no constB_len ?_) | (apply SW.toG; first | refine SWop.yes constB_len ?_ | refine SWop.no constB_len ?_)
    refine W.block ?_
    repeat' first
      | refine W.seq ?_ | (refine W.regS G ?_; dsimp only) | refine SW.nil ?_ | refine thenQ_normal ?_ | refine W.skip ?_ | refine W.exit ?_ | refine thenQ_exit ?_ | refine inBlockQ_exit ?_ | refine inBlockQ_normal ?_
      | (apply SW.toC; refine SWcall.go constB_len ?_) | (apply SW.toOp; refine SWop.go constB_len ?_) | (apply SW.toCG; first | refine SWcall.yes constB_len ?_ | refine SWcall.no constB_len ?_) | (apply SW.toG; first | refine SWop.yes constB_len ?_ | refine SWop.no constB_len ?_)
    refine W.mid (sL [(0, .p 1000 0 0 0), (2, .p 2 0 0 0), (14, .agg 24 (.u 64 constB)), (15, .i i), (4, .u 64 (constB.getD i 0))] [(1000, .agg 25 (.u 64 s0)), (2, .agg 5 (.u 64 (pC s0 5 c0)))] 158) ?_ ?_
    · repeat' first
        | refine W.seq ?_ | (refine W.regS G ?_; dsimp only) | refine SW.nil ?_ | refine thenQ_normal ?_ | refine W.skip ?_ | refine W.exit ?_ | refine thenQ_exit ?_ | refine inBlockQ_exit ?_ | refine inBlockQ_normal ?_ | refine W.block ?_
        | (apply SW.toC; refine SWcall.go constB_len ?_) | (apply SW.toOp; refine SWop.go constB_len ?_) | (apply SW.toCG; first | refine SWcall.yes constB_len ?_ | refine SWcall.no constB_len ?_) | (apply SW.toG; first | refine SWop.yes constB_len ?_ | refine SWop.no constB_len ?_)
      refine W.loopI (ι := {x : Nat // x ≤ 5}) (fun x => sL [(0, .p 1000 0 0 0), (2, .p 2 0 0 0), (14, .agg 24 (.u 64 constB)), (15, .i i), (4, .u 64 (constB.getD i 0)), (18, .i x.1)] [(1000, .agg 25 (.u 64 s0)), (2, .agg 5 (.u 64 (pC s0 x.1 c0)))] 158) (fun x => 5 - x.1) ⟨0, Nat.zero_le _⟩ (Imp.le ?_) ?_
      · exact sL_leZ constB_len
      rintro ⟨x, hx⟩
      repeat' first
        | refine W.seq ?_ | (refine W.regS G ?_; dsimp only) | refine SW.nil ?_ | refine thenQ_normal ?_ | refine W.skip ?_ | refine W.exit ?_ | refine thenQ_exit ?_ | refine inBlockQ_exit ?_ | refine inBlockQ_normal ?_ | refine W.block ?_
        | (apply SW.toC; refine SWcall.go True.intro ?_) | (apply SW.toOp; refine SWop.go True.intro ?_) | (apply SW.toCG; first | refine SWcall.yes True.intro ?_ | refine SWcall.no True.intro ?_) | (apply SW.toG; first | refine SWop.yes True.intro ?_ | refine SWop.no True.intro ?_)
      refine W.condZ G True.intro ?_ ?_
      all_goals intro hu
      · have hu' := of_decide_eq_true hu
        repeat' first
          | refine W.seq ?_ | (refine W.regS G ?_; dsimp only) | refine SW.nil ?_ | refine thenQ_normal ?_ | refine W.skip ?_ | refine W.exit ?_ | refine thenQ_exit ?_ | refine inBlockQ_exit ?_ | refine inBlockQ_normal ?_ | refine W.block ?_
          | (apply SW.toC; refine SWcall.go True.intro ?_) | (apply SW.toOp; refine SWop.go True.intro ?_) | (apply SW.toCG; first | refine SWcall.yes True.intro ?_ | refine SWcall.no True.intro ?_) | (apply SW.toG; first | refine SWop.yes True.intro ?_ | refine SWop.no True.intro ?_)
        refine W.drawS G [[], [], [], [1], [3, 1, 2], [4, 3, 1, 2], [], [], [7], [6], [9, 6, 8, 7], [10, 9, 6, 8, 7], [5, 4, 3, 1, 2, 11, 10, 9, 6, 8, 7], [], [], [14], [13], [16, 13, 15, 14], [17, 16, 13, 15, 14], [12, 5, 4, 3, 1, 2, 11, 10, 9, 6, 8, 7, 18, 17, 16, 13, 15, 14], [], [], [21], [20], [23, 20, 22, 21], [24, 23, 20, 22, 21], [19, 12, 5, 4, 3, 1, 2, 11, 10, 9, 6, 8, 7, 18, 17, 16, 13, 15, 14, 25, 24, 23, 20, 22, 21], [], [], [28], [27], [30, 27, 29, 28], [31, 30, 27, 29, 28], [26, 19, 12, 5, 4, 3, 1, 2, 11, 10, 9, 6, 8, 7, 18, 17, 16, 13, 15, 14, 25, 24, 23, 20, 22, 21, 32, 31, 30, 27, 29, 28], [0, 1, 2, 3, 4, 5, 6, 7, 8, 9, 10, 11, 12, 13, 14, 15, 16, 17, 18, 19, 20, 21, 22, 23, 24, 25, 26, 27, 28, 29, 30, 31, 32, 33], [34, 0, 1, 2, 3, 4, 5, 6, 7, 8, 9, 10, 11, 12, 13, 14, 15, 16, 17, 18, 19, 20, 21, 22, 23, 24, 25, 26, 27, 28, 29, 30, 31, 32, 33]] hmix ?_
        dsimp only
        repeat' first
          | (apply DW.nil; (focus (decide +kernel)))
          | (apply DW.toC; refine DWcall.go True.intro ?_) | (apply DW.toOp; refine DWop.go True.intro ?_) | (apply DW.toCG; first | refine DWcall.yes True.intro ?_ | refine DWcall.no True.intro ?_) | (apply DW.toG; first | refine DWop.yes True.intro ?_ | refine DWop.no True.intro ?_)
        repeat' first
          | refine W.seq ?_ | (refine W.regS G ?_; dsimp only) | refine SW.nil ?_ | refine thenQ_normal ?_ | refine W.skip ?_ | refine W.exit ?_ | refine thenQ_exit ?_ | refine inBlockQ_exit ?_ | refine inBlockQ_normal ?_ | refine W.block ?_
          | (apply SW.toC; refine SWcall.go True.intro ?_) | (apply SW.toOp; refine SWop.go True.intro ?_) | (apply SW.toCG; first | refine SWcall.yes True.intro ?_ | refine SWcall.no True.intro ?_) | (apply SW.toG; first | refine SWop.yes True.intro ?_ | refine SWop.no True.intro ?_)
        refine ⟨⟨x + 1, by omega⟩, Imp.le ?_, by show _ - (x + 1) < _ - x; omega⟩
        exact sL_leZ True.intro
      have hu' := of_decide_eq_false hu
      obtain rfl : x = 5 := by omega
      repeat' first
        | refine W.seq ?_ | (refine W.regS G ?_; dsimp only) | refine SW.nil ?_ | refine thenQ_normal ?_ | refine W.skip ?_ | refine W.exit ?_ | refine thenQ_exit ?_ | refine inBlockQ_exit ?_ | refine inBlockQ_normal ?_ | refine W.block ?_
        | (apply SW.toC; refine SWcall.go True.intro ?_) | (apply SW.toOp; refine SWop.go True.intro ?_) | (apply SW.toCG; first | refine SWcall.yes True.intro ?_ | refine SWcall.no True.intro ?_) | (apply SW.toG; first | refine SWop.yes True.intro ?_ | refine SWop.no True.intro ?_)
      refine Imp.le ?_
      exact sL_leZ True.intro
    have e2 : pRound i (s0, c0) = ((pK 5 ((pR (pT (pC s0 5 c0) 5 s0) 24).1, pC s0 5 c0)).1.set 0 ((pK 5 ((pR (pT (pC s0 5 c0) 5 s0) 24).1, pC s0 5 c0)).1.getD 0 0 ^^^ constB.getD i 0), (pK 5 ((pR (pT (pC s0 5 c0) 5 s0) 24).1, pC s0 5 c0)).2) := rfl
    generalize pC s0 5 c0 = c at e2 ⊢
    repeat' first
      | refine W.seq ?_ | (refine W.regS G ?_; dsimp only) | refine SW.nil ?_ | refine thenQ_normal ?_ | refine W.skip ?_ | refine W.exit ?_ | refine thenQ_exit ?_ | refine inBlockQ_exit ?_ | refine inBlockQ_normal ?_
      | (apply SW.toC; refine SWcall.go True.intro ?_) | (apply SW.toOp; refine SWop.go True.intro ?_) | (apply SW.toCG; first | refine SWcall.yes True.intro ?_ | refine SWcall.no True.intro ?_) | (apply SW.toG; first | refine SWop.yes True.intro ?_ | refine SWop.no True.intro ?_)
    refine W.mid (sL [(0, .p 1000 0 0 0), (2, .p 2 0 0 0), (14, .agg 24 (.u 64 constB)), (15, .i i), (4, .u 64 (constB.getD i 0))] [(1000, .agg 25 (.u 64 (pT c 5 s0))), (2, .agg 5 (.u 64 c))] 158) ?_ ?_
    · repeat' first
        | refine W.seq ?_ | (refine W.regS G ?_; dsimp only) | refine SW.nil ?_ | refine thenQ_normal ?_ | refine W.skip ?_ | refine W.exit ?_ | refine thenQ_exit ?_ | refine inBlockQ_exit ?_ | refine inBlockQ_normal ?_ | refine W.block ?_
        | (apply SW.toC; refine SWcall.go True.intro ?_) | (apply SW.toOp; refine SWop.go True.intro ?_) | (apply SW.toCG; first | refine SWcall.yes True.intro ?_ | refine SWcall.no True.intro ?_) | (apply SW.toG; first | refine SWop.yes True.intro ?_ | refine SWop.no True.intro ?_)
      refine W.loopI (ι := {x : Nat // x ≤ 5}) (fun x => sL [(0, .p 1000 0 0 0), (2, .p 2 0 0 0), (14, .agg 24 (.u 64 constB)), (15, .i i), (4, .u 64 (constB.getD i 0)), (57, .i x.1)] [(1000, .agg 25 (.u 64 (pT c x.1 s0))), (2, .agg 5 (.u 64 c))] 158) (fun x => 5 - x.1) ⟨0, Nat.zero_le _⟩ (Imp.le ?_) ?_
      · exact sL_leZ True.intro
      rintro ⟨x, hx⟩
      have e3 : pT c (x + 1) s0 = pdIn (c.getD (((x : Int) + 4) % 5).toNat 0 ^^^ rotF (c.getD (((x : Int) + 1) % 5).toNat 0) 1) x 5 (pT c x s0) := by rw [pT, itN_succ]; rfl
      have hend2 : x = 5 → pT c 5 s0 = pT c x s0 := by rintro rfl; rfl
      generalize pT c x s0 = s1 at e3 hend2 ⊢
      repeat' first
        | refine W.seq ?_ | (refine W.regS G ?_; dsimp only) | refine SW.nil ?_ | refine thenQ_normal ?_ | refine W.skip ?_ | refine W.exit ?_ | refine thenQ_exit ?_ | refine inBlockQ_exit ?_ | refine inBlockQ_normal ?_ | refine W.block ?_
        | (apply SW.toC; refine SWcall.go True.intro ?_) | (apply SW.toOp; refine SWop.go True.intro ?_) | (apply SW.toCG; first | refine SWcall.yes True.intro ?_ | refine SWcall.no True.intro ?_) | (apply SW.toG; first | refine SWop.yes True.intro ?_ | refine SWop.no True.intro ?_)
      refine W.condZ G True.intro ?_ ?_
      all_goals intro hu
      · have hu' := of_decide_eq_true hu
        repeat' first
          | refine W.seq ?_ | (refine W.regS G ?_; dsimp only) | refine SW.nil ?_ | refine thenQ_normal ?_ | refine W.skip ?_ | refine W.exit ?_ | refine thenQ_exit ?_ | refine inBlockQ_exit ?_ | refine inBlockQ_normal ?_ | refine W.block ?_
          | (apply SW.toC; refine SWcall.go rotS.eq_1 ?_) | (apply SW.toOp; refine SWop.go rotS.eq_1 ?_) | (apply SW.toCG; first | refine SWcall.yes rotS.eq_1 ?_ | refine SWcall.no rotS.eq_1 ?_) | (apply SW.toG; first | refine SWop.yes rotS.eq_1 ?_ | refine SWop.no rotS.eq_1 ?_)
        refine W.drawS G [[], [0], [1, 0], [2, 1, 0], [3, 2, 1, 0], [], [5], [6, 5], [7, 6, 5], [8, 7, 6, 5], [9, 8, 7, 6, 5], [4, 3, 2, 1, 0, 10, 9, 8, 7, 6, 5], [11, 4, 3, 2, 1, 0, 10, 9, 8, 7, 6, 5]] hmix ?_
        dsimp only
        repeat' first
          | (apply DW.nil; (focus (decide +kernel)))
          | (apply DW.toC; refine DWcall.go rotS.eq_1 ?_) | (apply DW.toOp; refine DWop.go rotS.eq_1 ?_) | (apply DW.toCG; first | refine DWcall.yes rotS.eq_1 ?_ | refine DWcall.no rotS.eq_1 ?_) | (apply DW.toG; first | refine DWop.yes rotS.eq_1 ?_ | refine DWop.no rotS.eq_1 ?_)
        repeat' first
          | refine W.seq ?_ | (refine W.regS G ?_; dsimp only) | refine SW.nil ?_ | refine thenQ_normal ?_ | refine W.skip ?_ | refine W.exit ?_ | refine thenQ_exit ?_ | refine inBlockQ_exit ?_ | refine inBlockQ_normal ?_ | refine W.block ?_
          | (apply SW.toC; refine SWcall.go rotS.eq_1 ?_) | (apply SW.toOp; refine SWop.go rotS.eq_1 ?_) | (apply SW.toCG; first | refine SWcall.yes rotS.eq_1 ?_ | refine SWcall.no rotS.eq_1 ?_) | (apply SW.toG; first | refine SWop.yes rotS.eq_1 ?_ | refine SWop.no rotS.eq_1 ?_)
        generalize (c.getD (((x : Int) + 4) % 5).toNat 0 ^^^ rotF (c.getD (((x : Int) + 1) % 5).toNat 0) 1) = d at e3 ⊢
        refine W.loopI (ι := {k : Nat // k ≤ 5}) (fun k => sL [(0, .p 1000 0 0 0), (2, .p 2 0 0 0), (14, .agg 24 (.u 64 constB)), (15, .i i), (4, .u 64 (constB.getD i 0)), (57, .i x), (7, .u 64 d), (8, .i ((x : Int) + 5 * (k.1 : Int)))] [(1000, .agg 25 (.u 64 (pdIn d x k.1 s1))), (2, .agg 5 (.u 64 c))] 158) (fun k => 5 - k.1) ⟨0, Nat.zero_le _⟩ (Imp.le ?_) ?_
        · exact sL_leZ rotS.eq_1
        rintro ⟨k, hk⟩
        repeat' first
          | refine W.seq ?_ | (refine W.regS G ?_; dsimp only) | refine SW.nil ?_ | refine thenQ_normal ?_ | refine W.skip ?_ | refine W.exit ?_ | refine thenQ_exit ?_ | refine inBlockQ_exit ?_ | refine inBlockQ_normal ?_ | refine W.block ?_
          | (apply SW.toC; refine SWcall.go True.intro ?_) | (apply SW.toOp; refine SWop.go True.intro ?_) | (apply SW.toCG; first | refine SWcall.yes True.intro ?_ | refine SWcall.no True.intro ?_) | (apply SW.toG; first | refine SWop.yes True.intro ?_ | refine SWop.no True.intro ?_)
        refine W.condZ G True.intro ?_ ?_
        all_goals intro hv
        · have hv' := of_decide_eq_true hv
          have e4 : ((x : Int) + 5 * (k : Int)) = ((x + 5 * k : Nat) : Int) := by omega
          repeat' first
            | refine W.seq ?_ | (refine W.regS G ?_; dsimp only) | refine SW.nil ?_ | refine thenQ_normal ?_ | refine W.skip ?_ | refine W.exit ?_ | refine thenQ_exit ?_ | refine inBlockQ_exit ?_ | refine inBlockQ_normal ?_ | refine W.block ?_
            | (apply SW.toC; refine SWcall.go e4 ?_) | (apply SW.toOp; refine SWop.go e4 ?_) | (apply SW.toCG; first | refine SWcall.yes e4 ?_ | refine SWcall.no e4 ?_) | (apply SW.toG; first | refine SWop.yes e4 ?_ | refine SWop.no e4 ?_)
          refine W.drawS G [[], [], [0], [2, 0, 1], [3, 2, 0, 1], [], [4, 3, 2, 0, 1, 5], [0], [7, 0, 1, 2, 3, 4, 5, 6], [8, 7, 0, 1, 2, 3, 4, 5, 6]] hmix ?_
          dsimp only
          repeat' first
            | (apply DW.nil; (focus (decide +kernel)))
            | (apply DW.toC; refine DWcall.go e4 ?_) | (apply DW.toOp; refine DWop.go e4 ?_) | (apply DW.toCG; first | refine DWcall.yes e4 ?_ | refine DWcall.no e4 ?_) | (apply DW.toG; first | refine DWop.yes e4 ?_ | refine DWop.no e4 ?_)
          repeat' first
            | refine W.seq ?_ | (refine W.regS G ?_; dsimp only) | refine SW.nil ?_ | refine thenQ_normal ?_ | refine W.skip ?_ | refine W.exit ?_ | refine thenQ_exit ?_ | refine inBlockQ_exit ?_ | refine inBlockQ_normal ?_ | refine W.block ?_
            | (apply SW.toC; refine SWcall.go e4 ?_) | (apply SW.toOp; refine SWop.go e4 ?_) | (apply SW.toCG; first | refine SWcall.yes e4 ?_ | refine SWcall.no e4 ?_) | (apply SW.toG; first | refine SWop.yes e4 ?_ | refine SWop.no e4 ?_)
          refine ⟨⟨k + 1, by omega⟩, Imp.le ?_, by show _ - (k + 1) < _ - k; omega⟩
          exact sL_leZ e4
        have hv' := of_decide_eq_false hv
        obtain rfl : k = 5 := by omega
        repeat' first
          | refine W.seq ?_ | (refine W.regS G ?_; dsimp only) | refine SW.nil ?_ | refine thenQ_normal ?_ | refine W.skip ?_ | refine W.exit ?_ | refine thenQ_exit ?_ | refine inBlockQ_exit ?_ | refine inBlockQ_normal ?_ | refine W.block ?_
          | (apply SW.toC; refine SWcall.go e3 ?_) | (apply SW.toOp; refine SWop.go e3 ?_) | (apply SW.toCG; first | refine SWcall.yes e3 ?_ | refine SWcall.no e3 ?_) | (apply SW.toG; first | refine SWop.yes e3 ?_ | refine SWop.no e3 ?_)
        refine ⟨⟨x + 1, by omega⟩, Imp.le ?_, by show _ - (x + 1) < _ - x; omega⟩
        exact sL_leZ e3
      have hu' := of_decide_eq_false hu
      have hh := hend2 (by omega)
      repeat' first
        | refine W.seq ?_ | (refine W.regS G ?_; dsimp only) | refine SW.nil ?_ | refine thenQ_normal ?_ | refine W.skip ?_ | refine W.exit ?_ | refine thenQ_exit ?_ | refine inBlockQ_exit ?_ | refine inBlockQ_normal ?_ | refine W.block ?_
        | (apply SW.toC; refine SWcall.go True.intro ?_) | (apply SW.toOp; refine SWop.go True.intro ?_) | (apply SW.toCG; first | refine SWcall.yes True.intro ?_ | refine SWcall.no True.intro ?_) | (apply SW.toG; first | refine SWop.yes True.intro ?_ | refine SWop.no True.intro ?_)
      refine Imp.le ?_
      exact sL_leZ hh
    have l1 : (pT c 5 s0).length = 25 := by rw [pT_len, l0]
    generalize pT c 5 s0 = s1 at e2 l1 ⊢
    repeat' first
      | refine W.seq ?_ | (refine W.regS G ?_; dsimp only) | refine SW.nil ?_ | refine thenQ_normal ?_ | refine W.skip ?_ | refine W.exit ?_ | refine thenQ_exit ?_ | refine inBlockQ_exit ?_ | refine inBlockQ_normal ?_
      | (apply SW.toC; refine SWcall.go (And.intro glB1 placesB_len) ?_) | (apply SW.toOp; refine SWop.go (And.intro glB1 placesB_len) ?_) | (apply SW.toCG; first | refine SWcall.yes (And.intro glB1 placesB_len) ?_ | refine SWcall.no (And.intro glB1 placesB_len) ?_) | (apply SW.toG; first | refine SWop.yes (And.intro glB1 placesB_len) ?_ | refine SWop.no (And.intro glB1 placesB_len) ?_)
    refine W.mid (sL [(0, .p 1000 0 0 0), (2, .p 2 0 0 0), (14, .agg 24 (.u 64 constB)), (15, .i i), (4, .u 64 (constB.getD i 0))] [(1000, .agg 25 (.u 64 (pR s1 24).1)), (2, .agg 5 (.u 64 c))] 158) ?_ ?_
    · repeat' first
        | refine W.seq ?_ | (refine W.regS G ?_; dsimp only) | refine SW.nil ?_ | refine thenQ_normal ?_ | refine W.skip ?_ | refine W.exit ?_ | refine thenQ_exit ?_ | refine inBlockQ_exit ?_ | refine inBlockQ_normal ?_ | refine W.block ?_
        | (apply SW.toC; refine SWcall.go (And.intro glB1 placesB_len) ?_) | (apply SW.toOp; refine SWop.go (And.intro glB1 placesB_len) ?_) | (apply SW.toCG; first | refine SWcall.yes (And.intro glB1 placesB_len) ?_ | refine SWcall.no (And.intro glB1 placesB_len) ?_) | (apply SW.toG; first | refine SWop.yes (And.intro glB1 placesB_len) ?_ | refine SWop.no (And.intro glB1 placesB_len) ?_)
      refine W.loopI (ι := {t : Nat // t ≤ 24}) (fun t => sL [(0, .p 1000 0 0 0), (2, .p 2 0 0 0), (14, .agg 24 (.u 64 constB)), (15, .i i), (4, .u 64 (constB.getD i 0)), (9, .u 64 (pR s1 t.1).2), (91, .agg 24 (.i placesB)), (92, .i t.1)] [(1000, .agg 25 (.u 64 (pR s1 t.1).1)), (2, .agg 5 (.u 64 c))] 158) (fun t => 24 - t.1) ⟨0, Nat.zero_le _⟩ (Imp.le ?_) ?_
      · exact sL_leZ (And.intro glB1 placesB_len)
      rintro ⟨t, ht0⟩
      have e3 : pR s1 (t + 1) = ((pR s1 t).1.set (placesB.getD t 0).toNat (rotF (pR s1 t).2 (turnsB.getD t 0)), (pR s1 t).1.getD (placesB.getD t 0).toNat 0) := by rw [pR, itN_succ]; rfl
      have hend2 : t = 24 → (pR s1 24).1 = (pR s1 t).1 := by rintro rfl; rfl
      generalize pR s1 t = q at e3 hend2 ⊢
      obtain ⟨s2, r2⟩ := q
      dsimp only at e3 hend2 ⊢
      repeat' first
        | refine W.seq ?_ | (refine W.regS G ?_; dsimp only) | refine SW.nil ?_ | refine thenQ_normal ?_ | refine W.skip ?_ | refine W.exit ?_ | refine thenQ_exit ?_ | refine inBlockQ_exit ?_ | refine inBlockQ_normal ?_ | refine W.block ?_
        | (apply SW.toC; refine SWcall.go placesB_len ?_) | (apply SW.toOp; refine SWop.go placesB_len ?_) | (apply SW.toCG; first | refine SWcall.yes placesB_len ?_ | refine SWcall.no placesB_len ?_) | (apply SW.toG; first | refine SWop.yes placesB_len ?_ | refine SWop.no placesB_len ?_)
      refine W.condZ G placesB_len ?_ ?_
      all_goals intro hu
      · have hu' := of_decide_eq_true hu
        have hp := placesB_in t (by omega)
        repeat' first
          | refine W.seq ?_ | (refine W.regS G ?_; dsimp only) | refine SW.nil ?_ | refine thenQ_normal ?_ | refine W.skip ?_ | refine W.exit ?_ | refine thenQ_exit ?_ | refine inBlockQ_exit ?_ | refine inBlockQ_normal ?_ | refine W.block ?_
          | (apply SW.toC; refine SWcall.go (And.intro placesB_len (And.intro glB2 (And.intro turnsB_len rotS.eq_1))) ?_) | (apply SW.toOp; refine SWop.go (And.intro placesB_len (And.intro glB2 (And.intro turnsB_len rotS.eq_1))) ?_) | (apply SW.toCG; first | refine SWcall.yes (And.intro placesB_len (And.intro glB2 (And.intro turnsB_len rotS.eq_1))) ?_ | refine SWcall.no (And.intro placesB_len (And.intro glB2 (And.intro turnsB_len rotS.eq_1))) ?_) | (apply SW.toG; first | refine SWop.yes (And.intro placesB_len (And.intro glB2 (And.intro turnsB_len rotS.eq_1))) ?_ | refine SWop.no (And.intro placesB_len (And.intro glB2 (And.intro turnsB_len rotS.eq_1))) ?_)
        refine W.drawS G [[], [], [], [], [2], [4, 2, 3], [5, 4, 2, 3], [], [], [8], [9, 8], [7, 10, 9, 8], [6, 5, 4, 2, 3, 11, 7, 10, 9, 8], [0], [13, 0, 1, 2, 3, 4, 5, 6, 7, 8, 9, 10, 11, 12], [14, 13, 0, 1, 2, 3, 4, 5, 6, 7, 8, 9, 10, 11, 12]] hmix ?_
        dsimp only
        repeat' first
          | (apply DW.nil; (focus (decide +kernel)))
          | (apply DW.toC; refine DWcall.go (And.intro placesB_len (And.intro glB2 (And.intro turnsB_len rotS.eq_1))) ?_) | (apply DW.toOp; refine DWop.go (And.intro placesB_len (And.intro glB2 (And.intro turnsB_len rotS.eq_1))) ?_) | (apply DW.toCG; first | refine DWcall.yes (And.intro placesB_len (And.intro glB2 (And.intro turnsB_len rotS.eq_1))) ?_ | refine DWcall.no (And.intro placesB_len (And.intro glB2 (And.intro turnsB_len rotS.eq_1))) ?_) | (apply DW.toG; first | refine DWop.yes (And.intro placesB_len (And.intro glB2 (And.intro turnsB_len rotS.eq_1))) ?_ | refine DWop.no (And.intro placesB_len (And.intro glB2 (And.intro turnsB_len rotS.eq_1))) ?_)
        repeat' first
          | refine W.seq ?_ | (refine W.regS G ?_; dsimp only) | refine SW.nil ?_ | refine thenQ_normal ?_ | refine W.skip ?_ | refine W.exit ?_ | refine thenQ_exit ?_ | refine inBlockQ_exit ?_ | refine inBlockQ_normal ?_ | refine W.block ?_
          | (apply SW.toC; refine SWcall.go e3 ?_) | (apply SW.toOp; refine SWop.go e3 ?_) | (apply SW.toCG; first | refine SWcall.yes e3 ?_ | refine SWcall.no e3 ?_) | (apply SW.toG; first | refine SWop.yes e3 ?_ | refine SWop.no e3 ?_)
        refine ⟨⟨t + 1, by omega⟩, Imp.le ?_, by show _ - (t + 1) < _ - t; omega⟩
        exact sL_leZ e3
      have hu' := of_decide_eq_false hu
      have hh := hend2 (by omega)
      repeat' first
        | refine W.seq ?_ | (refine W.regS G ?_; dsimp only) | refine SW.nil ?_ | refine thenQ_normal ?_ | refine W.skip ?_ | refine W.exit ?_ | refine thenQ_exit ?_ | refine inBlockQ_exit ?_ | refine inBlockQ_normal ?_ | refine W.block ?_
        | (apply SW.toC; refine SWcall.go True.intro ?_) | (apply SW.toOp; refine SWop.go True.intro ?_) | (apply SW.toCG; first | refine SWcall.yes True.intro ?_ | refine SWcall.no True.intro ?_) | (apply SW.toG; first | refine SWop.yes True.intro ?_ | refine SWop.no True.intro ?_)
      refine Imp.le ?_
      exact sL_leZ hh
    have l2 : (pR s1 24).1.length = 25 := by rw [pR_len, l1]
    generalize (pR s1 24).1 = s2 at e2 l2 ⊢
    repeat' first
      | refine W.seq ?_ | (refine W.regS G ?_; dsimp only) | refine SW.nil ?_ | refine thenQ_normal ?_ | refine W.skip ?_ | refine W.exit ?_ | refine thenQ_exit ?_ | refine inBlockQ_exit ?_ | refine inBlockQ_normal ?_
      | (apply SW.toC; refine SWcall.go True.intro ?_) | (apply SW.toOp; refine SWop.go True.intro ?_) | (apply SW.toCG; first | refine SWcall.yes True.intro ?_ | refine SWcall.no True.intro ?_) | (apply SW.toG; first | refine SWop.yes True.intro ?_ | refine SWop.no True.intro ?_)
    refine W.mid (sL [(0, .p 1000 0 0 0), (2, .p 2 0 0 0), (14, .agg 24 (.u 64 constB)), (15, .i i), (4, .u 64 (constB.getD i 0))] [(1000, .agg 25 (.u 64 (pK 5 (s2, c)).1)), (2, .agg 5 (.u 64 (pK 5 (s2, c)).2))] 158) ?_ ?_
    · repeat' first
        | refine W.seq ?_ | (refine W.regS G ?_; dsimp only) | refine SW.nil ?_ | refine thenQ_normal ?_ | refine W.skip ?_ | refine W.exit ?_ | refine thenQ_exit ?_ | refine inBlockQ_exit ?_ | refine inBlockQ_normal ?_ | refine W.block ?_
        | (apply SW.toC; refine SWcall.go True.intro ?_) | (apply SW.toOp; refine SWop.go True.intro ?_) | (apply SW.toCG; first | refine SWcall.yes True.intro ?_ | refine SWcall.no True.intro ?_) | (apply SW.toG; first | refine SWop.yes True.intro ?_ | refine SWop.no True.intro ?_)
      refine W.loopI (ι := {k : Nat // k ≤ 5}) (fun k => sL [(0, .p 1000 0 0 0), (2, .p 2 0 0 0), (14, .agg 24 (.u 64 constB)), (15, .i i), (4, .u 64 (constB.getD i 0)), (12, .i (5 * (k.1 : Int)))] [(1000, .agg 25 (.u 64 (pK k.1 (s2, c)).1)), (2, .agg 5 (.u 64 (pK k.1 (s2, c)).2))] 158) (fun k => 5 - k.1) ⟨0, Nat.zero_le _⟩ (Imp.le ?_) ?_
      · exact sL_leZ True.intro
      rintro ⟨k, hk⟩
      have e3 : pK (k + 1) (s2, c) = pkStep k (pK k (s2, c)) := by rw [pK, itN_succ]; rfl
      have hend2 : k = 5 → pK 5 (s2, c) = pK k (s2, c) := by rintro rfl; rfl
      have l3 : (pK k (s2, c)).1.length = 25 := by rw [pK_len, l2]
      generalize pK k (s2, c) = q at e3 hend2 l3 ⊢
      obtain ⟨s3, c3⟩ := q
      dsimp only at e3 hend2 l3 ⊢
      repeat' first
        | refine W.seq ?_ | (refine W.regS G ?_; dsimp only) | refine SW.nil ?_ | refine thenQ_normal ?_ | refine W.skip ?_ | refine W.exit ?_ | refine thenQ_exit ?_ | refine inBlockQ_exit ?_ | refine inBlockQ_normal ?_ | refine W.block ?_
        | (apply SW.toC; refine SWcall.go True.intro ?_) | (apply SW.toOp; refine SWop.go True.intro ?_) | (apply SW.toCG; first | refine SWcall.yes True.intro ?_ | refine SWcall.no True.intro ?_) | (apply SW.toG; first | refine SWop.yes True.intro ?_ | refine SWop.no True.intro ?_)
      refine W.condZ G True.intro ?_ ?_
      all_goals intro hu
      · have hu' := of_decide_eq_true hu
        have e4 : (5 * (k : Int)) = ((5 * k : Nat) : Int) := by omega
        have e5 : (((5 * k : Nat) : Int) + 5) = ((5 * k + 5 : Nat) : Int) := by omega
        have e6 : 5 * k + 5 - 5 * k = 5 := by omega
        have e7 : (subL s3 (5 * k) 5).length = 5 := by simp only [subL, List.length_take, List.length_drop]; omega
        have e8 : ¬ ((5 : Nat) = 25) := by decide
        repeat' first
          | refine W.seq ?_ | (refine W.regS G ?_; dsimp only) | refine SW.nil ?_ | refine thenQ_normal ?_ | refine W.skip ?_ | refine W.exit ?_ | refine thenQ_exit ?_ | refine inBlockQ_exit ?_ | refine inBlockQ_normal ?_ | refine W.block ?_
          | (apply SW.toC; refine SWcall.go (And.intro e4 (And.intro e5 (And.intro e6 (And.intro e7 (And.intro l3 Nat.min_self))))) ?_) | (apply SW.toOp; refine SWop.go (And.intro e4 (And.intro e5 (And.intro e6 (And.intro e7 (And.intro l3 Nat.min_self))))) ?_) | (apply SW.toCG; first | refine SWcall.yes (And.intro e4 (And.intro e5 (And.intro e6 (And.intro e7 (And.intro l3 Nat.min_self))))) ?_ | refine SWcall.no (And.intro e4 (And.intro e5 (And.intro e6 (And.intro e7 (And.intro l3 Nat.min_self))))) ?_) | (apply SW.toG; first | refine SWop.yes (And.intro e4 (And.intro e5 (And.intro e6 (And.intro e7 (And.intro l3 Nat.min_self))))) ?_ | refine SWop.no (And.intro e4 (And.intro e5 (And.intro e6 (And.intro e7 (And.intro l3 Nat.min_self))))) ?_)
        refine W.drawS G [[], [], [1], [], [], [4], [2, 1, 3, 5, 4], [0, 6, 2, 1, 3, 5, 4]] hmix ?_
        dsimp only
        repeat' first
          | (apply DW.nil; (focus (decide +kernel)))
          | (apply DW.toC; refine DWcall.go (And.intro e4 (And.intro e5 (And.intro e6 (And.intro e7 (And.intro l3 Nat.min_self))))) ?_) | (apply DW.toOp; refine DWop.go (And.intro e4 (And.intro e5 (And.intro e6 (And.intro e7 (And.intro l3 Nat.min_self))))) ?_) | (apply DW.toCG; first | refine DWcall.yes (And.intro e4 (And.intro e5 (And.intro e6 (And.intro e7 (And.intro l3 Nat.min_self))))) ?_ | refine DWcall.no (And.intro e4 (And.intro e5 (And.intro e6 (And.intro e7 (And.intro l3 Nat.min_self))))) ?_) | (apply DW.toG; first | refine DWop.yes (And.intro e4 (And.intro e5 (And.intro e6 (And.intro e7 (And.intro l3 Nat.min_self))))) ?_ | refine DWop.no (And.intro e4 (And.intro e5 (And.intro e6 (And.intro e7 (And.intro l3 Nat.min_self))))) ?_)
        have e9 : pkStep k (s3, c3) = (pkIn (splL c3 0 (subL s3 (5 * k) 5)) (5 * k) 5 s3, splL c3 0 (subL s3 (5 * k) 5)) := rfl
        generalize splL c3 0 (subL s3 (5 * k) 5) = c4 at e9 ⊢
        repeat' first
          | refine W.seq ?_ | (refine W.regS G ?_; dsimp only) | refine SW.nil ?_ | refine thenQ_normal ?_ | refine W.skip ?_ | refine W.exit ?_ | refine thenQ_exit ?_ | refine inBlockQ_exit ?_ | refine inBlockQ_normal ?_ | refine W.block ?_
          | (apply SW.toC; refine SWcall.go (And.intro e4 (And.intro e5 (And.intro e6 (And.intro e7 (And.intro l3 Nat.min_self))))) ?_) | (apply SW.toOp; refine SWop.go (And.intro e4 (And.intro e5 (And.intro e6 (And.intro e7 (And.intro l3 Nat.min_self))))) ?_) | (apply SW.toCG; first | refine SWcall.yes (And.intro e4 (And.intro e5 (And.intro e6 (And.intro e7 (And.intro l3 Nat.min_self))))) ?_ | refine SWcall.no (And.intro e4 (And.intro e5 (And.intro e6 (And.intro e7 (And.intro l3 Nat.min_self))))) ?_) | (apply SW.toG; first | refine SWop.yes (And.intro e4 (And.intro e5 (And.intro e6 (And.intro e7 (And.intro l3 Nat.min_self))))) ?_ | refine SWop.no (And.intro e4 (And.intro e5 (And.intro e6 (And.intro e7 (And.intro l3 Nat.min_self))))) ?_)
        refine W.loopI (ι := {x : Nat // x ≤ 5}) (fun x => sL [(0, .p 1000 0 0 0), (2, .p 2 0 0 0), (14, .agg 24 (.u 64 constB)), (15, .i i), (4, .u 64 (constB.getD i 0)), (12, .i (5 * (k : Int))), (123, .i x.1)] [(1000, .agg 25 (.u 64 (pkIn c4 (5 * k) x.1 s3))), (2, .agg 5 (.u 64 c4))] 158) (fun x => 5 - x.1) ⟨0, Nat.zero_le _⟩ (Imp.le ?_) ?_
        · exact sL_leZ (And.intro e4 (And.intro e5 (And.intro e6 (And.intro e7 (And.intro l3 Nat.min_self)))))
        rintro ⟨x, hx⟩
        repeat' first
          | refine W.seq ?_ | (refine W.regS G ?_; dsimp only) | refine SW.nil ?_ | refine thenQ_normal ?_ | refine W.skip ?_ | refine W.exit ?_ | refine thenQ_exit ?_ | refine inBlockQ_exit ?_ | refine inBlockQ_normal ?_ | refine W.block ?_
          | (apply SW.toC; refine SWcall.go e4 ?_) | (apply SW.toOp; refine SWop.go e4 ?_) | (apply SW.toCG; first | refine SWcall.yes e4 ?_ | refine SWcall.no e4 ?_) | (apply SW.toG; first | refine SWop.yes e4 ?_ | refine SWop.no e4 ?_)
        refine W.condZ G e4 ?_ ?_
        all_goals intro hv
        · have hv' := of_decide_eq_true hv
          repeat' first
            | refine W.seq ?_ | (refine W.regS G ?_; dsimp only) | refine SW.nil ?_ | refine thenQ_normal ?_ | refine W.skip ?_ | refine W.exit ?_ | refine thenQ_exit ?_ | refine inBlockQ_exit ?_ | refine inBlockQ_normal ?_ | refine W.block ?_
            | (apply SW.toC; refine SWcall.go e4 ?_) | (apply SW.toOp; refine SWop.go e4 ?_) | (apply SW.toCG; first | refine SWcall.yes e4 ?_ | refine SWcall.no e4 ?_) | (apply SW.toG; first | refine SWop.yes e4 ?_ | refine SWop.no e4 ?_)
          refine W.drawS G [[], [], [], [1, 2], [0], [4, 0, 3, 1, 2], [5, 4, 0, 3, 1, 2], [], [7], [8, 7], [9, 8, 7], [10, 9, 8, 7], [11, 10, 9, 8, 7], [], [13], [14, 13], [15, 14, 13], [16, 15, 14, 13], [12, 11, 10, 9, 8, 7, 17, 16, 15, 14, 13], [6, 5, 4, 0, 3, 1, 2, 18, 12, 11, 10, 9, 8, 7, 17, 16, 15, 14, 13], [0], [20, 0, 3, 1, 2, 4, 5, 6, 7, 8, 9, 10, 11, 12, 13, 14, 15, 16, 17, 18, 19], [21, 20, 0, 3, 1, 2, 4, 5, 6, 7, 8, 9, 10, 11, 12, 13, 14, 15, 16, 17, 18, 19]] hmix ?_
          dsimp only
          repeat' first
            | (apply DW.nil; (focus (decide +kernel)))
            | (apply DW.toC; refine DWcall.go e4 ?_) | (apply DW.toOp; refine DWop.go e4 ?_) | (apply DW.toCG; first | refine DWcall.yes e4 ?_ | refine DWcall.no e4 ?_) | (apply DW.toG; first | refine DWop.yes e4 ?_ | refine DWop.no e4 ?_)
          repeat' first
            | refine W.seq ?_ | (refine W.regS G ?_; dsimp only) | refine SW.nil ?_ | refine thenQ_normal ?_ | refine W.skip ?_ | refine W.exit ?_ | refine thenQ_exit ?_ | refine inBlockQ_exit ?_ | refine inBlockQ_normal ?_ | refine W.block ?_
            | (apply SW.toC; refine SWcall.go e4 ?_) | (apply SW.toOp; refine SWop.go e4 ?_) | (apply SW.toCG; first | refine SWcall.yes e4 ?_ | refine SWcall.no e4 ?_) | (apply SW.toG; first | refine SWop.yes e4 ?_ | refine SWop.no e4 ?_)
          refine ⟨⟨x + 1, by omega⟩, Imp.le ?_, by show _ - (x + 1) < _ - x; omega⟩
          exact sL_leZ e4
        have hv' := of_decide_eq_false hv
        obtain rfl : x = 5 := by omega
        repeat' first
          | refine W.seq ?_ | (refine W.regS G ?_; dsimp only) | refine SW.nil ?_ | refine thenQ_normal ?_ | refine W.skip ?_ | refine W.exit ?_ | refine thenQ_exit ?_ | refine inBlockQ_exit ?_ | refine inBlockQ_normal ?_ | refine W.block ?_
          | (apply SW.toC; refine SWcall.go (And.intro e3 e9) ?_) | (apply SW.toOp; refine SWop.go (And.intro e3 e9) ?_) | (apply SW.toCG; first | refine SWcall.yes (And.intro e3 e9) ?_ | refine SWcall.no (And.intro e3 e9) ?_) | (apply SW.toG; first | refine SWop.yes (And.intro e3 e9) ?_ | refine SWop.no (And.intro e3 e9) ?_)
        refine ⟨⟨k + 1, by omega⟩, Imp.le ?_, by show _ - (k + 1) < _ - k; omega⟩
        exact sL_leZ (And.intro e3 e9)
      have hu' := of_decide_eq_false hu
      have hh := hend2 (by omega)
      repeat' first
        | refine W.seq ?_ | (refine W.regS G ?_; dsimp only) | refine SW.nil ?_ | refine thenQ_normal ?_ | refine W.skip ?_ | refine W.exit ?_ | refine thenQ_exit ?_ | refine inBlockQ_exit ?_ | refine inBlockQ_normal ?_ | refine W.block ?_
        | (apply SW.toC; refine SWcall.go True.intro ?_) | (apply SW.toOp; refine SWop.go True.intro ?_) | (apply SW.toCG; first | refine SWcall.yes True.intro ?_ | refine SWcall.no True.intro ?_) | (apply SW.toG; first | refine SWop.yes True.intro ?_ | refine SWop.no True.intro ?_)
      refine Imp.le ?_
      exact sL_leZ hh
    generalize pK 5 (s2, c) = q at e2 ⊢
    obtain ⟨s4, c4⟩ := q
    dsimp only at e2 ⊢
    repeat' first
      | refine W.seq ?_ | (refine W.regS G ?_; dsimp only) | refine SW.nil ?_ | refine thenQ_normal ?_ | refine W.skip ?_ | refine W.exit ?_ | refine thenQ_exit ?_ | refine inBlockQ_exit ?_ | refine inBlockQ_normal ?_ | refine W.block ?_
      | (apply SW.toC; refine SWcall.go True.intro ?_) | (apply SW.toOp; refine SWop.go True.intro ?_) | (apply SW.toCG; first | refine SWcall.yes True.intro ?_ | refine SWcall.no True.intro ?_) | (apply SW.toG; first | refine SWop.yes True.intro ?_ | refine SWop.no True.intro ?_)
    refine W.drawS G [[], [0], [1, 0], [2, 1, 0], [], [3, 2, 1, 0, 4], [0], [6, 0, 1, 2, 3, 4, 5], [7, 6, 0, 1, 2, 3, 4, 5]] hmix ?_
    dsimp only
    repeat' first
      | (apply DW.nil; (focus (decide +kernel)))
      | (apply DW.toC; refine DWcall.go True.intro ?_) | (apply DW.toOp; refine DWop.go True.intro ?_) | (apply DW.toCG; first | refine DWcall.yes True.intro ?_ | refine DWcall.no True.intro ?_) | (apply DW.toG; first | refine DWop.yes True.intro ?_ | refine DWop.no True.intro ?_)
    repeat' first
      | refine W.seq ?_ | (refine W.regS G ?_; dsimp only) | refine SW.nil ?_ | refine thenQ_normal ?_ | refine W.skip ?_ | refine W.exit ?_ | refine thenQ_exit ?_ | refine inBlockQ_exit ?_ | refine inBlockQ_normal ?_ | refine W.block ?_
      | (apply SW.toC; refine SWcall.go True.intro ?_) | (apply SW.toOp; refine SWop.go True.intro ?_) | (apply SW.toCG; first | refine SWcall.yes True.intro ?_ | refine SWcall.no True.intro ?_) | (apply SW.toG; first | refine SWop.yes True.intro ?_ | refine SWop.no True.intro ?_)
    refine ⟨⟨i + 1, by omega⟩, Imp.le ?_, by show _ - (i + 1) < _ - i; omega⟩
    exact sL_leZ (And.intro e e2)
  have ht' := of_decide_eq_false ht
  have hh := hend (by omega)
  repeat' first
    | refine W.seq ?_ | (refine W.regS G ?_; dsimp only) | refine SW.nil ?_ | refine thenQ_normal ?_ | refine W.skip ?_ | refine W.exit ?_ | refine thenQ_exit ?_ | refine inBlockQ_exit ?_ | refine inBlockQ_normal ?_ | refine W.block ?_
    | (apply SW.toC; refine SWcall.go True.intro ?_) | (apply SW.toOp; refine SWop.go True.intro ?_) | (apply SW.toCG; first | refine SWcall.yes True.intro ?_ | refine SWcall.no True.intro ?_) | (apply SW.toG; first | refine SWop.yes True.intro ?_ | refine SWop.no True.intro ?_)
  exact fin0Z hh
end Go.Vm.C03

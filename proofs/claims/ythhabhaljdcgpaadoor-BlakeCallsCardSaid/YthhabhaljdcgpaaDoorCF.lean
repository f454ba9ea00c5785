/- What some functions of the program compute, walked through once. -/
import Derived.Test.YthhabhaljdcgpaaDoorCE
namespace Go.Vm.C06
open Go Go.Proofs
set_option linter.unusedVariables false
set_option linter.unusedSimpArgs false
set_option maxRecDepth 100000
set_option maxHeartbeats 8000000
variable {gl : Nat → Option Row}

/-! ### the document's F -/
def rowNums : List (List Int) := [[0, 1, 2, 3, 4, 5, 6, 7, 8, 9, 10, 11, 12, 13, 14, 15], [14, 10, 4, 8, 9, 15, 13, 6, 1, 12, 0, 2, 11, 7, 5, 3], [11, 8, 12, 0, 5, 2, 15, 13, 10, 14, 3, 6, 7, 1, 9, 4],
  [7, 9, 3, 1, 13, 12, 11, 14, 2, 6, 5, 10, 4, 0, 15, 8], [9, 0, 5, 7, 2, 4, 10, 15, 14, 1, 11, 12, 6, 8, 3, 13], [2, 12, 6, 10, 0, 11, 8, 3, 4, 13, 7, 5, 15, 14, 1, 9], [12, 5, 1, 15, 14, 13, 4, 10, 0, 7, 6, 3, 9, 2, 8, 11],
  [13, 11, 7, 14, 12, 1, 3, 9, 5, 0, 15, 4, 8, 6, 2, 10], [6, 15, 14, 9, 11, 3, 0, 8, 12, 2, 13, 7, 1, 4, 10, 5], [10, 2, 8, 4, 7, 6, 1, 5, 15, 11, 9, 14, 3, 12, 13, 0]]
theorem rowNums_eq : ∀ j, j < 10 → rowTo j 16 = rowNums.getD j [] := by decide +kernel
theorem rowTo_eq (i : Nat) : rowTo i 16 = rowNums.getD (i % 10) [] := by
  rw [← rowNums_eq (i % 10) (by omega)]
  have : ((i : Int) % 10).toNat = (((i % 10 : Nat) : Int) % 10).toNat := by omega
  unfold rowTo
  rw [this]
theorem rowNums_in : ∀ j, j < 10 → ∀ k, k < 16 → 0 ≤ (rowNums.getD j []).getD k 0 ∧ (rowNums.getD j []).getD k 0 < 16 := by decide +kernel
theorem rowTo_in (i k : Nat) (hk : k < 16) : 0 ≤ (rowTo i 16).getD k 0 ∧ (rowTo i 16).getD k 0 < 16 := by
  rw [rowTo_eq]; exact rowNums_in _ (by omega) k hk

def P8 : List (BitVec 64) := (primesIt 18).1
theorem P8_ok : PrimesOK 8 18 := ⟨by decide +kernel, by decide +kernel, by decide +kernel⟩
theorem P8_len : P8.length = 8 := P8_ok.len

def refBegin (h : List (BitVec 64)) (k : Nat) : List (BitVec 64) := itN (fun i v => (v.set i (h.getD i 0)).set (8 + (i : Int)).toNat (fracF (P8.getD i 0) 2 64)) k (zeros 64 16)
def refTied (v t : List (BitVec 64)) : List (BitVec 64) := (v.set 12 (v.getD 12 0 ^^^ t.getD 0 0)).set 13 (v.getD 13 0 ^^^ t.getD 1 0)
def refLast (v : List (BitVec 64)) (last : Bool) : List (BitVec 64) := if last = true then v.set 14 (~~~ v.getD 14 0) else v
def refQ1 (m : List (BitVec 64)) (S : List Int) (k : Nat) (v : List (BitVec 64)) : List (BitVec 64) := itN (fun k v => mixRF v k (4 + (k : Int)).toNat (8 + (k : Int)).toNat (12 + (k : Int)).toNat
  (m.getD (S.getD (2 * (k : Int)).toNat 0).toNat 0) (m.getD (S.getD (2 * (k : Int) + 1).toNat 0).toNat 0)) k v
def refQ2 (m : List (BitVec 64)) (S : List Int) (k : Nat) (v : List (BitVec 64)) : List (BitVec 64) := itN (fun k v => mixRF v k (4 + ((k : Int) + 1) % 4).toNat (8 + ((k : Int) + 2) % 4).toNat (12 + ((k : Int) + 3) % 4).toNat
  (m.getD (S.getD (8 + 2 * (k : Int)).toNat 0).toNat 0) (m.getD (S.getD (9 + 2 * (k : Int)).toNat 0).toNat 0)) k v
def refRound (m : List (BitVec 64)) (i : Nat) (v : List (BitVec 64)) : List (BitVec 64) := refQ2 m (rowTo i 16) 4 (refQ1 m (rowTo i 16) 4 v)
def refOut (v : List (BitVec 64)) (k : Nat) (h : List (BitVec 64)) : List (BitVec 64) := itN (fun i h => h.set i (h.getD i 0 ^^^ v.getD i 0 ^^^ v.getD (8 + (i : Int)).toNat 0)) k h
def refF (r : BitVec 32) (h m t : List (BitVec 64)) (last : Bool) : List (BitVec 64) :=
  refOut (itN (refRound m) (min r.toNat 65536) (refLast (refTied (refBegin h 8) t) last)) 8 h
noncomputable def refFS : FSpec := { run := fun ins => match ins with
  | [.u 32 r, .agg 8 (.u 64 h), .agg 16 (.u 64 m), .agg 2 (.u 64 t), .b last] => some (.agg 8 (.u 64 (refF r h m t last)), [])
  | _ => none }

theorem refF_sound (hro : ∀ g r, gl g = some r → r.ro = r) : SoundFn Tryd.prog gl 7 refFS.run := by
  have G := good_of (P := Tryd.prog) hro (l := [(12, primesS 8 18), (13, fracS), (14, rowS), (15, mixRS)]) (by simp only [List.forall_mem_cons]; exact ⟨primes_sound hro P8_ok (by decide), frac_sound hro, row_sound hro, mixR_sound hro, by simp⟩)
  refine soundFn_of_W G Tryd.func7 (by decide) rfl (by decide) ?_
  intro ins ret outs h
  unfold refFS at h
  dsimp only at h
  split at h
  rotate_left
  · cases h
  rename_i r h0 m t last
  cases h
  refine ⟨by show 5 ≤ 151; decide, fun w0 ext av => ?_⟩
  rw [Tryd.ntmps7, st0_eq]
  have L8 := P8_len
  have hP8 : (primesIt 18).1 = P8 := rfl
  repeat' first
    | refine W.seq ?_ | (refine W.regS G ?_; dsimp only) | refine SW.nil ?_ | refine thenQ_normal ?_ | refine W.skip ?_ | refine W.exit ?_ | refine thenQ_exit ?_ | refine inBlockQ_exit ?_ | refine inBlockQ_normal ?_ | refine W.block ?_
    | (apply SW.toC; refine SWcall.go (And.intro primesS.eq_1 hP8) ?_) | (apply SW.toOp; refine SWop.go (And.intro primesS.eq_1 hP8) ?_) | (apply SW.toCG; first | refine SWcall.yes (And.intro primesS.eq_1 hP8) ?_ | refine SWcall.no (And.intro primesS.eq_1 hP8) ?_) | (apply SW.toG; first | refine SWop.yes (And.intro primesS.eq_1 hP8) ?_ | refine SWop.no (And.intro primesS.eq_1 hP8) ?_)
  refine W.loopI (ι := {k : Nat // k ≤ 8}) (fun k => sL [(0, .u 32 r), (4, .b last), (6, .p 6 0 0 0), (7, .p 7 0 0 0), (8, .p 8 0 0 0), (10, .p 10 0 0 0), (11, .p 11 0 0 0), (12, .sl true (.u 64 P8)), (13, .i k.1)]
    [(6, .agg 8 (.u 64 h0)), (7, .agg 16 (.u 64 m)), (8, .agg 2 (.u 64 t)), (10, .agg 8 (.u 64 (zeros 64 8))), (11, .agg 16 (.u 64 (refBegin h0 k.1)))] 151) (fun k => 8 - k.1) ⟨0, Nat.zero_le _⟩ (Imp.le ?_) ?_
  · exact sL_leZ (And.intro primesS.eq_1 hP8)
  rintro ⟨k, hk⟩
  repeat' first
    | refine W.seq ?_ | (refine W.regS G ?_; dsimp only) | refine SW.nil ?_ | refine thenQ_normal ?_ | refine W.skip ?_ | refine W.exit ?_ | refine thenQ_exit ?_ | refine inBlockQ_exit ?_ | refine inBlockQ_normal ?_ | refine W.block ?_
    | (apply SW.toC; refine SWcall.go (And.intro primesS.eq_1 hP8) ?_) | (apply SW.toOp; refine SWop.go (And.intro primesS.eq_1 hP8) ?_) | (apply SW.toCG; first | refine SWcall.yes (And.intro primesS.eq_1 hP8) ?_ | refine SWcall.no (And.intro primesS.eq_1 hP8) ?_) | (apply SW.toG; first | refine SWop.yes (And.intro primesS.eq_1 hP8) ?_ | refine SWop.no (And.intro primesS.eq_1 hP8) ?_)
  refine W.condZ G (And.intro primesS.eq_1 hP8) ?_ ?_
  all_goals intro ht
  · have ht' := of_decide_eq_true ht
    repeat' first
      | refine W.seq ?_ | (refine W.regS G ?_; dsimp only) | refine SW.nil ?_ | refine thenQ_normal ?_ | refine W.skip ?_ | refine W.exit ?_ | refine thenQ_exit ?_ | refine inBlockQ_exit ?_ | refine inBlockQ_normal ?_ | refine W.block ?_
      | (apply SW.toC; refine SWcall.go (And.intro fracS.eq_1 L8) ?_) | (apply SW.toOp; refine SWop.go (And.intro fracS.eq_1 L8) ?_) | (apply SW.toCG; first | refine SWcall.yes (And.intro fracS.eq_1 L8) ?_ | refine SWcall.no (And.intro fracS.eq_1 L8) ?_) | (apply SW.toG; first | refine SWop.yes (And.intro fracS.eq_1 L8) ?_ | refine SWop.no (And.intro fracS.eq_1 L8) ?_)
    refine W.drawS G [[], [], [1], [], [3], [4, 3], [], [], [6, 7], [8, 6, 7], [9, 8, 6, 7], [0, 3, 4, 5], [11, 0, 3, 4, 5, 10, 9, 8, 6, 7], [2, 1, 0, 3, 4, 5, 6, 7, 8, 9, 10, 11, 12], [13, 2, 1, 0, 3, 4, 5, 6, 7, 8, 9, 10, 11, 12]] hmix ?_
    dsimp only
    repeat' first
      | (apply DW.nil; (focus (decide +kernel)))
      | (apply DW.toC; refine DWcall.go (And.intro fracS.eq_1 L8) ?_) | (apply DW.toOp; refine DWop.go (And.intro fracS.eq_1 L8) ?_) | (apply DW.toCG; first | refine DWcall.yes (And.intro fracS.eq_1 L8) ?_ | refine DWcall.no (And.intro fracS.eq_1 L8) ?_) | (apply DW.toG; first | refine DWop.yes (And.intro fracS.eq_1 L8) ?_ | refine DWop.no (And.intro fracS.eq_1 L8) ?_)
    repeat' first
      | refine W.seq ?_ | (refine W.regS G ?_; dsimp only) | refine SW.nil ?_ | refine thenQ_normal ?_ | refine W.skip ?_ | refine W.exit ?_ | refine thenQ_exit ?_ | refine inBlockQ_exit ?_ | refine inBlockQ_normal ?_ | refine W.block ?_
      | (apply SW.toC; refine SWcall.go (And.intro fracS.eq_1 L8) ?_) | (apply SW.toOp; refine SWop.go (And.intro fracS.eq_1 L8) ?_) | (apply SW.toCG; first | refine SWcall.yes (And.intro fracS.eq_1 L8) ?_ | refine SWcall.no (And.intro fracS.eq_1 L8) ?_) | (apply SW.toG; first | refine SWop.yes (And.intro fracS.eq_1 L8) ?_ | refine SWop.no (And.intro fracS.eq_1 L8) ?_)
    refine ⟨⟨k + 1, by omega⟩, Imp.le ?_, by show _ - (k + 1) < _ - k; omega⟩
    exact sL_leZ (And.intro fracS.eq_1 L8)
  · have ht' := of_decide_eq_false ht
    obtain rfl : k = 8 := by omega
    repeat' first
      | refine W.seq ?_ | (refine W.regS G ?_; dsimp only) | refine SW.nil ?_ | refine thenQ_normal ?_ | refine W.skip ?_ | refine W.exit ?_ | refine thenQ_exit ?_ | refine inBlockQ_exit ?_ | refine inBlockQ_normal ?_ | refine W.block ?_
      | (apply SW.toC; refine SWcall.go True.intro ?_) | (apply SW.toOp; refine SWop.go True.intro ?_) | (apply SW.toCG; first | refine SWcall.yes True.intro ?_ | refine SWcall.no True.intro ?_) | (apply SW.toG; first | refine SWop.yes True.intro ?_ | refine SWop.no True.intro ?_)
    refine W.drawS G [[], [0], [], [2], [1, 0, 3, 2], [], [5], [], [7], [6, 5, 8, 7], [0, 1, 2, 3, 4, 5, 6], [10, 0, 1, 2, 3, 4, 5, 6], [0, 1, 2, 3, 4, 5, 6, 7, 8, 9, 10, 11], [12, 0, 1, 2, 3, 4, 5, 6, 7, 8, 9, 10, 11]] hmix ?_
    dsimp only
    repeat' first
      | (apply DW.nil; (focus (decide +kernel)))
      | (apply DW.toC; refine DWcall.go True.intro ?_) | (apply DW.toOp; refine DWop.go True.intro ?_) | (apply DW.toCG; first | refine DWcall.yes True.intro ?_ | refine DWcall.no True.intro ?_) | (apply DW.toG; first | refine DWop.yes True.intro ?_ | refine DWop.no True.intro ?_)
    repeat' first
      | refine W.seq ?_ | (refine W.regS G ?_; dsimp only) | refine SW.nil ?_ | refine thenQ_normal ?_ | refine W.skip ?_ | refine W.exit ?_ | refine thenQ_exit ?_ | refine inBlockQ_exit ?_ | refine inBlockQ_normal ?_ | refine W.block ?_
      | (apply SW.toC; refine SWcall.go True.intro ?_) | (apply SW.toOp; refine SWop.go True.intro ?_) | (apply SW.toCG; first | refine SWcall.yes True.intro ?_ | refine SWcall.no True.intro ?_) | (apply SW.toG; first | refine SWop.yes True.intro ?_ | refine SWop.no True.intro ?_)
    have hF : refF r h0 m t last = refOut (itN (refRound m) (min r.toNat 65536) (refLast (refTied (refBegin h0 8) t) last)) 8 h0 := rfl
    generalize refBegin h0 8 = v0 at hF ⊢
    refine W.mid (sL [(0, .u 32 r), (6, .p 6 0 0 0), (7, .p 7 0 0 0), (10, .p 10 0 0 0), (11, .p 11 0 0 0)] [(6, .agg 8 (.u 64 h0)), (7, .agg 16 (.u 64 m)), (10, .agg 8 (.u 64 (zeros 64 8))), (11, .agg 16 (.u 64 (refLast (refTied v0 t) last)))] 151) ?_ ?_
    · refine W.condZ G True.intro ?_ ?_
      all_goals intro hl
      · subst hl
        repeat' first
          | refine W.seq ?_ | (refine W.regS G ?_; dsimp only) | refine SW.nil ?_ | refine thenQ_normal ?_ | refine W.skip ?_ | refine W.exit ?_ | refine thenQ_exit ?_ | refine inBlockQ_exit ?_ | refine inBlockQ_normal ?_ | refine W.block ?_
          | (apply SW.toC; refine SWcall.go True.intro ?_) | (apply SW.toOp; refine SWop.go True.intro ?_) | (apply SW.toCG; first | refine SWcall.yes True.intro ?_ | refine SWcall.no True.intro ?_) | (apply SW.toG; first | refine SWop.yes True.intro ?_ | refine SWop.no True.intro ?_)
        refine Imp.le ?_
        exact sL_leZ True.intro
      · subst hl
        repeat' first
          | refine W.seq ?_ | (refine W.regS G ?_; dsimp only) | refine SW.nil ?_ | refine thenQ_normal ?_ | refine W.skip ?_ | refine W.exit ?_ | refine thenQ_exit ?_ | refine inBlockQ_exit ?_ | refine inBlockQ_normal ?_ | refine W.block ?_
          | (apply SW.toC; refine SWcall.go True.intro ?_) | (apply SW.toOp; refine SWop.go True.intro ?_) | (apply SW.toCG; first | refine SWcall.yes True.intro ?_ | refine SWcall.no True.intro ?_) | (apply SW.toG; first | refine SWop.yes True.intro ?_ | refine SWop.no True.intro ?_)
        refine Imp.le ?_
        exact sL_leZ True.intro
    generalize refLast (refTied v0 t) last = v1 at hF ⊢
    repeat' first
      | refine W.seq ?_ | (refine W.regS G ?_; dsimp only) | refine SW.nil ?_ | refine thenQ_normal ?_ | refine W.skip ?_ | refine W.exit ?_ | refine thenQ_exit ?_ | refine inBlockQ_exit ?_ | refine inBlockQ_normal ?_
      | (apply SW.toC; refine SWcall.go True.intro ?_) | (apply SW.toOp; refine SWop.go True.intro ?_) | (apply SW.toCG; first | refine SWcall.yes True.intro ?_ | refine SWcall.no True.intro ?_) | (apply SW.toG; first | refine SWop.yes True.intro ?_ | refine SWop.no True.intro ?_)
    refine W.mid (sL [(6, .p 6 0 0 0), (10, .p 10 0 0 0), (11, .p 11 0 0 0)] [(6, .agg 8 (.u 64 h0)), (10, .agg 8 (.u 64 (zeros 64 8))), (11, .agg 16 (.u 64 (itN (refRound m) (min r.toNat 65536) v1)))] 151) ?_ ?_
    rotate_left
    · skip
      generalize itN (refRound m) (min r.toNat 65536) v1 = v4 at hF ⊢
      repeat' first
        | refine W.seq ?_ | (refine W.regS G ?_; dsimp only) | refine SW.nil ?_ | refine thenQ_normal ?_ | refine W.skip ?_ | refine W.exit ?_ | refine thenQ_exit ?_ | refine inBlockQ_exit ?_ | refine inBlockQ_normal ?_ | refine W.block ?_
        | (apply SW.toC; refine SWcall.go True.intro ?_) | (apply SW.toOp; refine SWop.go True.intro ?_) | (apply SW.toCG; first | refine SWcall.yes True.intro ?_ | refine SWcall.no True.intro ?_) | (apply SW.toG; first | refine SWop.yes True.intro ?_ | refine SWop.no True.intro ?_)
      refine W.loopI (ι := {k : Nat // k ≤ 8}) (fun k => sL [(6, .p 6 0 0 0), (10, .p 10 0 0 0), (11, .p 11 0 0 0), (18, .i k.1)] [(6, .agg 8 (.u 64 (refOut v4 k.1 h0))), (10, .agg 8 (.u 64 (zeros 64 8))), (11, .agg 16 (.u 64 v4))] 151) (fun k => 8 - k.1) ⟨0, Nat.zero_le _⟩ (Imp.le ?_) ?_
      · exact sL_leZ True.intro
      rintro ⟨k, hk⟩
      repeat' first
        | refine W.seq ?_ | (refine W.regS G ?_; dsimp only) | refine SW.nil ?_ | refine thenQ_normal ?_ | refine W.skip ?_ | refine W.exit ?_ | refine thenQ_exit ?_ | refine inBlockQ_exit ?_ | refine inBlockQ_normal ?_ | refine W.block ?_
        | (apply SW.toC; refine SWcall.go True.intro ?_) | (apply SW.toOp; refine SWop.go True.intro ?_) | (apply SW.toCG; first | refine SWcall.yes True.intro ?_ | refine SWcall.no True.intro ?_) | (apply SW.toG; first | refine SWop.yes True.intro ?_ | refine SWop.no True.intro ?_)
      refine W.condZ G True.intro ?_ ?_
      all_goals intro hu
      · have hu' := of_decide_eq_true hu
        repeat' first
          | refine W.seq ?_ | (refine W.regS G ?_; dsimp only) | refine SW.nil ?_ | refine thenQ_normal ?_ | refine W.skip ?_ | refine W.exit ?_ | refine thenQ_exit ?_ | refine inBlockQ_exit ?_ | refine inBlockQ_normal ?_ | refine W.block ?_
          | (apply SW.toC; refine SWcall.go True.intro ?_) | (apply SW.toOp; refine SWop.go True.intro ?_) | (apply SW.toCG; first | refine SWcall.yes True.intro ?_ | refine SWcall.no True.intro ?_) | (apply SW.toG; first | refine SWop.yes True.intro ?_ | refine SWop.no True.intro ?_)
        refine W.drawS G [[], [], [1], [2, 1], [], [4], [5, 4], [3, 2, 1, 6, 5, 4], [], [8], [9, 8], [10, 9, 8], [7, 3, 2, 1, 6, 5, 4, 11, 10, 9, 8], [0, 1, 2, 3, 4, 5, 6, 7, 8, 9, 10, 11, 12], [13, 0, 1, 2, 3, 4, 5, 6, 7, 8, 9, 10, 11, 12]] hmix ?_
        dsimp only
        repeat' first
          | (apply DW.nil; (focus (decide +kernel)))
          | (apply DW.toC; refine DWcall.go True.intro ?_) | (apply DW.toOp; refine DWop.go True.intro ?_) | (apply DW.toCG; first | refine DWcall.yes True.intro ?_ | refine DWcall.no True.intro ?_) | (apply DW.toG; first | refine DWop.yes True.intro ?_ | refine DWop.no True.intro ?_)
        repeat' first
          | refine W.seq ?_ | (refine W.regS G ?_; dsimp only) | refine SW.nil ?_ | refine thenQ_normal ?_ | refine W.skip ?_ | refine W.exit ?_ | refine thenQ_exit ?_ | refine inBlockQ_exit ?_ | refine inBlockQ_normal ?_ | refine W.block ?_
          | (apply SW.toC; refine SWcall.go True.intro ?_) | (apply SW.toOp; refine SWop.go True.intro ?_) | (apply SW.toCG; first | refine SWcall.yes True.intro ?_ | refine SWcall.no True.intro ?_) | (apply SW.toG; first | refine SWop.yes True.intro ?_ | refine SWop.no True.intro ?_)
        refine ⟨⟨k + 1, by omega⟩, Imp.le ?_, by show _ - (k + 1) < _ - k; omega⟩
        exact sL_leZ True.intro
      have hu' := of_decide_eq_false hu
      obtain rfl : k = 8 := by omega
      repeat' first
        | refine W.seq ?_ | (refine W.regS G ?_; dsimp only) | refine SW.nil ?_ | refine thenQ_normal ?_ | refine W.skip ?_ | refine W.exit ?_ | refine thenQ_exit ?_ | refine inBlockQ_exit ?_ | refine inBlockQ_normal ?_ | refine W.block ?_
        | (apply SW.toC; refine SWcall.go True.intro ?_) | (apply SW.toOp; refine SWop.go True.intro ?_) | (apply SW.toCG; first | refine SWcall.yes True.intro ?_ | refine SWcall.no True.intro ?_) | (apply SW.toG; first | refine SWop.yes True.intro ?_ | refine SWop.no True.intro ?_)
      refine W.ret ?_
      repeat' first
        | refine thenQ_ret ?_
        | refine inBlockQ_ret ?_
      refine fin1Z True.intro ?_
      rw [hF]
      exact leV_refl
    repeat' first
      | refine W.seq ?_ | (refine W.regS G ?_; dsimp only) | refine SW.nil ?_ | refine thenQ_normal ?_ | refine W.skip ?_ | refine W.exit ?_ | refine thenQ_exit ?_ | refine inBlockQ_exit ?_ | refine inBlockQ_normal ?_ | refine W.block ?_
      | (apply SW.toC; refine SWcall.go True.intro ?_) | (apply SW.toOp; refine SWop.go True.intro ?_) | (apply SW.toCG; first | refine SWcall.yes True.intro ?_ | refine SWcall.no True.intro ?_) | (apply SW.toG; first | refine SWop.yes True.intro ?_ | refine SWop.no True.intro ?_)
    refine W.loopI (ι := {i : Nat // i ≤ min r.toNat 65536}) (fun i => sL [(0, .u 32 r), (6, .p 6 0 0 0), (7, .p 7 0 0 0), (10, .p 10 0 0 0), (11, .p 11 0 0 0), (14, .i i.1)] [(6, .agg 8 (.u 64 h0)), (7, .agg 16 (.u 64 m)), (10, .agg 8 (.u 64 (zeros 64 8))), (11, .agg 16 (.u 64 (itN (refRound m) i.1 v1)))] 151) (fun i => 65536 - i.1) ⟨0, Nat.zero_le _⟩ (Imp.le ?_) ?_
    · exact sL_leZ True.intro
    rintro ⟨i, hi⟩
    have hr := r.isLt
    by_cases hir : (i : Int) < (r.toNat : Int)
    · have hir' : decide ((i : Int) < (r.toNat : Int)) = true := decide_eq_true hir
      repeat' first
        | refine W.seq ?_ | (refine W.regS G ?_; dsimp only) | refine SW.nil ?_ | refine thenQ_normal ?_ | refine W.skip ?_ | refine W.exit ?_ | refine thenQ_exit ?_ | refine inBlockQ_exit ?_ | refine inBlockQ_normal ?_ | refine W.block ?_
        | (apply SW.toC; refine SWcall.go hir' ?_) | (apply SW.toOp; refine SWop.go hir' ?_) | (apply SW.toCG; first | refine SWcall.yes hir' ?_ | refine SWcall.no hir' ?_) | (apply SW.toG; first | refine SWop.yes hir' ?_ | refine SWop.no hir' ?_)
      refine W.condZ G hir' ?_ ?_
      all_goals intro hu
      · have hu' := of_decide_eq_true hu
        have hV : itN (refRound m) (i + 1) v1 = refQ2 m (rowTo i 16) 4 (refQ1 m (rowTo i 16) 4 (itN (refRound m) i v1)) := by rw [itN_succ, refRound]
        have hS := rowTo_in i
        have hSl := rowTo_len i 16
        generalize itN (refRound m) i v1 = v2 at hV ⊢
        repeat' first
          | refine W.seq ?_ | (refine W.regS G ?_; dsimp only) | refine SW.nil ?_ | refine thenQ_normal ?_ | refine W.skip ?_ | refine W.exit ?_ | refine thenQ_exit ?_ | refine inBlockQ_exit ?_ | refine inBlockQ_normal ?_ | refine W.block ?_
          | (apply SW.toC; refine SWcall.go rowS.eq_1 ?_) | (apply SW.toOp; refine SWop.go rowS.eq_1 ?_) | (apply SW.toCG; first | refine SWcall.yes rowS.eq_1 ?_ | refine SWcall.no rowS.eq_1 ?_) | (apply SW.toG; first | refine SWop.yes rowS.eq_1 ?_ | refine SWop.no rowS.eq_1 ?_)
        generalize rowTo i 16 = S at hV hS hSl ⊢
        refine W.loopI (ι := {k : Nat // k ≤ 4}) (fun k => sL [(0, .u 32 r), (6, .p 6 0 0 0), (7, .p 7 0 0 0), (10, .p 10 0 0 0), (11, .p 11 0 0 0), (14, .i i), (15, .sl true (.i S)), (16, .i k.1)] [(6, .agg 8 (.u 64 h0)), (7, .agg 16 (.u 64 m)), (10, .agg 8 (.u 64 (zeros 64 8))), (11, .agg 16 (.u 64 (refQ1 m S k.1 v2)))] 151) (fun k => 4 - k.1) ⟨0, Nat.zero_le _⟩ (Imp.le ?_) ?_
        · exact sL_leZ (And.intro hSl mixRS.eq_1)
        rintro ⟨k, hk⟩
        repeat' first
          | refine W.seq ?_ | (refine W.regS G ?_; dsimp only) | refine SW.nil ?_ | refine thenQ_normal ?_ | refine W.skip ?_ | refine W.exit ?_ | refine thenQ_exit ?_ | refine inBlockQ_exit ?_ | refine inBlockQ_normal ?_ | refine W.block ?_
          | (apply SW.toC; refine SWcall.go (And.intro hSl mixRS.eq_1) ?_) | (apply SW.toOp; refine SWop.go (And.intro hSl mixRS.eq_1) ?_) | (apply SW.toCG; first | refine SWcall.yes (And.intro hSl mixRS.eq_1) ?_ | refine SWcall.no (And.intro hSl mixRS.eq_1) ?_) | (apply SW.toG; first | refine SWop.yes (And.intro hSl mixRS.eq_1) ?_ | refine SWop.no (And.intro hSl mixRS.eq_1) ?_)
        refine W.condZ G (And.intro hSl mixRS.eq_1) ?_ ?_
        all_goals intro hw
        · have hw' := of_decide_eq_true hw
          have b1 := hS (2 * (k : Int)).toNat (by omega)
          have b2 := hS (2 * (k : Int) + 1).toNat (by omega)
          repeat' first
            | refine W.seq ?_ | (refine W.regS G ?_; dsimp only) | refine SW.nil ?_ | refine thenQ_normal ?_ | refine W.skip ?_ | refine W.exit ?_ | refine thenQ_exit ?_ | refine inBlockQ_exit ?_ | refine inBlockQ_normal ?_ | refine W.block ?_
            | (apply SW.toC; refine SWcall.go (And.intro hSl mixRS.eq_1) ?_) | (apply SW.toOp; refine SWop.go (And.intro hSl mixRS.eq_1) ?_) | (apply SW.toCG; first | refine SWcall.yes (And.intro hSl mixRS.eq_1) ?_ | refine SWcall.no (And.intro hSl mixRS.eq_1) ?_) | (apply SW.toG; first | refine SWop.yes (And.intro hSl mixRS.eq_1) ?_ | refine SWop.no (And.intro hSl mixRS.eq_1) ?_)
          refine W.drawS G [[], [], [], [2], [], [4], [], [6], [1, 3, 2, 5, 4, 7, 6], [], [], [10], [9, 11, 10], [12, 9, 11, 10], [13, 12, 9, 11, 10], [14, 13, 12, 9, 11, 10], [], [], [17], [18, 17], [16, 19, 18, 17], [20, 16, 19, 18, 17], [21, 20, 16, 19, 18, 17], [22, 21, 20, 16, 19, 18, 17], [0, 8, 1, 3, 2, 5, 4, 7, 6, 15, 14, 13, 12, 9, 11, 10, 23, 22, 21, 20, 16, 19, 18, 17], [24, 0, 8, 1, 3, 2, 5, 4, 7, 6, 15, 14, 13, 12, 9, 11, 10, 23, 22, 21, 20, 16, 19, 18, 17]] hmix ?_
          dsimp only
          repeat' first
            | (apply DW.nil; (focus (decide +kernel)))
            | (apply DW.toC; refine DWcall.go (And.intro hSl mixRS.eq_1) ?_) | (apply DW.toOp; refine DWop.go (And.intro hSl mixRS.eq_1) ?_) | (apply DW.toCG; first | refine DWcall.yes (And.intro hSl mixRS.eq_1) ?_ | refine DWcall.no (And.intro hSl mixRS.eq_1) ?_) | (apply DW.toG; first | refine DWop.yes (And.intro hSl mixRS.eq_1) ?_ | refine DWop.no (And.intro hSl mixRS.eq_1) ?_)
          repeat' first
            | refine W.seq ?_ | (refine W.regS G ?_; dsimp only) | refine SW.nil ?_ | refine thenQ_normal ?_ | refine W.skip ?_ | refine W.exit ?_ | refine thenQ_exit ?_ | refine inBlockQ_exit ?_ | refine inBlockQ_normal ?_ | refine W.block ?_
            | (apply SW.toC; refine SWcall.go (And.intro hSl mixRS.eq_1) ?_) | (apply SW.toOp; refine SWop.go (And.intro hSl mixRS.eq_1) ?_) | (apply SW.toCG; first | refine SWcall.yes (And.intro hSl mixRS.eq_1) ?_ | refine SWcall.no (And.intro hSl mixRS.eq_1) ?_) | (apply SW.toG; first | refine SWop.yes (And.intro hSl mixRS.eq_1) ?_ | refine SWop.no (And.intro hSl mixRS.eq_1) ?_)
          refine ⟨⟨k + 1, by omega⟩, Imp.le ?_, by show _ - (k + 1) < _ - k; omega⟩
          exact sL_leZ (And.intro hSl mixRS.eq_1)
        have hw' := of_decide_eq_false hw
        obtain rfl : k = 4 := by omega
        generalize refQ1 m S 4 v2 = v3 at hV ⊢
        repeat' first
          | refine W.seq ?_ | (refine W.regS G ?_; dsimp only) | refine SW.nil ?_ | refine thenQ_normal ?_ | refine W.skip ?_ | refine W.exit ?_ | refine thenQ_exit ?_ | refine inBlockQ_exit ?_ | refine inBlockQ_normal ?_ | refine W.block ?_
          | (apply SW.toC; refine SWcall.go (And.intro hSl mixRS.eq_1) ?_) | (apply SW.toOp; refine SWop.go (And.intro hSl mixRS.eq_1) ?_) | (apply SW.toCG; first | refine SWcall.yes (And.intro hSl mixRS.eq_1) ?_ | refine SWcall.no (And.intro hSl mixRS.eq_1) ?_) | (apply SW.toG; first | refine SWop.yes (And.intro hSl mixRS.eq_1) ?_ | refine SWop.no (And.intro hSl mixRS.eq_1) ?_)
        refine W.loopI (ι := {k : Nat // k ≤ 4}) (fun k => sL [(0, .u 32 r), (6, .p 6 0 0 0), (7, .p 7 0 0 0), (10, .p 10 0 0 0), (11, .p 11 0 0 0), (14, .i i), (15, .sl true (.i S)), (17, .i k.1)] [(6, .agg 8 (.u 64 h0)), (7, .agg 16 (.u 64 m)), (10, .agg 8 (.u 64 (zeros 64 8))), (11, .agg 16 (.u 64 (refQ2 m S k.1 v3)))] 151) (fun k => 4 - k.1) ⟨0, Nat.zero_le _⟩ (Imp.le ?_) ?_
        · exact sL_leZ (And.intro hSl mixRS.eq_1)
        rintro ⟨k, hk⟩
        repeat' first
          | refine W.seq ?_ | (refine W.regS G ?_; dsimp only) | refine SW.nil ?_ | refine thenQ_normal ?_ | refine W.skip ?_ | refine W.exit ?_ | refine thenQ_exit ?_ | refine inBlockQ_exit ?_ | refine inBlockQ_normal ?_ | refine W.block ?_
          | (apply SW.toC; refine SWcall.go (And.intro hSl mixRS.eq_1) ?_) | (apply SW.toOp; refine SWop.go (And.intro hSl mixRS.eq_1) ?_) | (apply SW.toCG; first | refine SWcall.yes (And.intro hSl mixRS.eq_1) ?_ | refine SWcall.no (And.intro hSl mixRS.eq_1) ?_) | (apply SW.toG; first | refine SWop.yes (And.intro hSl mixRS.eq_1) ?_ | refine SWop.no (And.intro hSl mixRS.eq_1) ?_)
        refine W.condZ G (And.intro hSl mixRS.eq_1) ?_ ?_
        all_goals intro hx
        · have hx' := of_decide_eq_true hx
          have b1 := hS (8 + 2 * (k : Int)).toNat (by omega)
          have b2 := hS (9 + 2 * (k : Int)).toNat (by omega)
          repeat' first
            | refine W.seq ?_ | (refine W.regS G ?_; dsimp only) | refine SW.nil ?_ | refine thenQ_normal ?_ | refine W.skip ?_ | refine W.exit ?_ | refine thenQ_exit ?_ | refine inBlockQ_exit ?_ | refine inBlockQ_normal ?_ | refine W.block ?_
            | (apply SW.toC; refine SWcall.go (And.intro hSl mixRS.eq_1) ?_) | (apply SW.toOp; refine SWop.go (And.intro hSl mixRS.eq_1) ?_) | (apply SW.toCG; first | refine SWcall.yes (And.intro hSl mixRS.eq_1) ?_ | refine SWcall.no (And.intro hSl mixRS.eq_1) ?_) | (apply SW.toG; first | refine SWop.yes (And.intro hSl mixRS.eq_1) ?_ | refine SWop.no (And.intro hSl mixRS.eq_1) ?_)
          refine W.drawS G [[], [], [], [2], [3, 2], [4, 3, 2], [], [6], [7, 6], [8, 7, 6], [], [10], [11, 10], [12, 11, 10], [1, 5, 4, 3, 2, 9, 8, 7, 6, 13, 12, 11, 10], [], [], [16], [17, 16], [15, 18, 17, 16], [19, 15, 18, 17, 16], [20, 19, 15, 18, 17, 16], [21, 20, 19, 15, 18, 17, 16], [], [], [24], [25, 24], [23, 26, 25, 24], [27, 23, 26, 25, 24], [28, 27, 23, 26, 25, 24], [29, 28, 27, 23, 26, 25, 24], [0, 14, 1, 5, 4, 3, 2, 9, 8, 7, 6, 13, 12, 11, 10, 22, 21, 20, 19, 15, 18, 17, 16, 30, 29, 28, 27, 23, 26, 25, 24], [31, 0, 14, 1, 5, 4, 3, 2, 9, 8, 7, 6, 13, 12, 11, 10, 22, 21, 20, 19, 15, 18, 17, 16, 30, 29, 28, 27, 23, 26, 25, 24]] hmix ?_
          dsimp only
          repeat' first
            | (apply DW.nil; (focus (decide +kernel)))
            | (apply DW.toC; refine DWcall.go (And.intro hSl mixRS.eq_1) ?_) | (apply DW.toOp; refine DWop.go (And.intro hSl mixRS.eq_1) ?_) | (apply DW.toCG; first | refine DWcall.yes (And.intro hSl mixRS.eq_1) ?_ | refine DWcall.no (And.intro hSl mixRS.eq_1) ?_) | (apply DW.toG; first | refine DWop.yes (And.intro hSl mixRS.eq_1) ?_ | refine DWop.no (And.intro hSl mixRS.eq_1) ?_)
          repeat' first
            | refine W.seq ?_ | (refine W.regS G ?_; dsimp only) | refine SW.nil ?_ | refine thenQ_normal ?_ | refine W.skip ?_ | refine W.exit ?_ | refine thenQ_exit ?_ | refine inBlockQ_exit ?_ | refine inBlockQ_normal ?_ | refine W.block ?_
            | (apply SW.toC; refine SWcall.go (And.intro hSl mixRS.eq_1) ?_) | (apply SW.toOp; refine SWop.go (And.intro hSl mixRS.eq_1) ?_) | (apply SW.toCG; first | refine SWcall.yes (And.intro hSl mixRS.eq_1) ?_ | refine SWcall.no (And.intro hSl mixRS.eq_1) ?_) | (apply SW.toG; first | refine SWop.yes (And.intro hSl mixRS.eq_1) ?_ | refine SWop.no (And.intro hSl mixRS.eq_1) ?_)
          refine ⟨⟨k + 1, by omega⟩, Imp.le ?_, by show _ - (k + 1) < _ - k; omega⟩
          exact sL_leZ (And.intro hSl mixRS.eq_1)
        have hx' := of_decide_eq_false hx
        obtain rfl : k = 4 := by omega
        repeat' first
          | refine W.seq ?_ | (refine W.regS G ?_; dsimp only) | refine SW.nil ?_ | refine thenQ_normal ?_ | refine W.skip ?_ | refine W.exit ?_ | refine thenQ_exit ?_ | refine inBlockQ_exit ?_ | refine inBlockQ_normal ?_ | refine W.block ?_
          | (apply SW.toC; refine SWcall.go hV ?_) | (apply SW.toOp; refine SWop.go hV ?_) | (apply SW.toCG; first | refine SWcall.yes hV ?_ | refine SWcall.no hV ?_) | (apply SW.toG; first | refine SWop.yes hV ?_ | refine SWop.no hV ?_)
        refine ⟨⟨i + 1, by omega⟩, Imp.le ?_, by show _ - (i + 1) < _ - i; omega⟩
        exact sL_leZ hV
      have hu' := of_decide_eq_false hu
      obtain rfl : i = min r.toNat 65536 := by omega
      repeat' first
        | refine W.seq ?_ | (refine W.regS G ?_; dsimp only) | refine SW.nil ?_ | refine thenQ_normal ?_ | refine W.skip ?_ | refine W.exit ?_ | refine thenQ_exit ?_ | refine inBlockQ_exit ?_ | refine inBlockQ_normal ?_ | refine W.block ?_
        | (apply SW.toC; refine SWcall.go True.intro ?_) | (apply SW.toOp; refine SWop.go True.intro ?_) | (apply SW.toCG; first | refine SWcall.yes True.intro ?_ | refine SWcall.no True.intro ?_) | (apply SW.toG; first | refine SWop.yes True.intro ?_ | refine SWop.no True.intro ?_)
      refine Imp.le ?_
      exact sL_leZ True.intro
    · have hir' : decide ((i : Int) < (r.toNat : Int)) = false := decide_eq_false hir
      obtain rfl : i = min r.toNat 65536 := by omega
      repeat' first
        | refine W.seq ?_ | (refine W.regS G ?_; dsimp only) | refine SW.nil ?_ | refine thenQ_normal ?_ | refine W.skip ?_ | refine W.exit ?_ | refine thenQ_exit ?_ | refine inBlockQ_exit ?_ | refine inBlockQ_normal ?_ | refine W.block ?_
        | (apply SW.toC; refine SWcall.go hir' ?_) | (apply SW.toOp; refine SWop.go hir' ?_) | (apply SW.toCG; first | refine SWcall.yes hir' ?_ | refine SWcall.no hir' ?_) | (apply SW.toG; first | refine SWop.yes hir' ?_ | refine SWop.no hir' ?_)
      refine W.condZ G hir' ?_ ?_
      all_goals intro hu
      · cases hu
      repeat' first
        | refine W.seq ?_ | (refine W.regS G ?_; dsimp only) | refine SW.nil ?_ | refine thenQ_normal ?_ | refine W.skip ?_ | refine W.exit ?_ | refine thenQ_exit ?_ | refine inBlockQ_exit ?_ | refine inBlockQ_normal ?_ | refine W.block ?_
        | (apply SW.toC; refine SWcall.go hir' ?_) | (apply SW.toOp; refine SWop.go hir' ?_) | (apply SW.toCG; first | refine SWcall.yes hir' ?_ | refine SWcall.no hir' ?_) | (apply SW.toG; first | refine SWop.yes hir' ?_ | refine SWop.no hir' ?_)
      refine Imp.le ?_
      exact sL_leZ hir'
end Go.Vm.C06

/- What some functions of the program compute, walked through once. -/
import Derived.Test.YthhabhaljdcgpaaDoorCH
namespace Go.Vm.C06
open Go Go.Proofs
set_option linter.unusedVariables false
set_option linter.unusedSimpArgs false
set_option maxRecDepth 100000
set_option maxHeartbeats 8000000

theorem subL_len {α : Type} (xs : List α) (i n : Nat) : (subL xs i n).length = min n (xs.length - i) := by simp [subL]
theorem subL_at {α : Type} {xs : List α} {i n j : Nat} {d : α} (h : j < n) : (subL xs i n).getD j d = xs.getD (i + j) d := by
  simp [subL, List.getD_eq_getElem?_getD, List.getElem?_take, h]

/-! ### numbers out of bytes, the program's way -/
def numsIn (b : List (BitVec 8)) (i k : Nat) (v : List (BitVec 64)) : List (BitVec 64) :=
  itN (fun k v => v.set i (v.getD i 0 ||| BitVec.setWidth 64 (b.getD (8 * (i : Int) + (k : Int)).toNat 0) <<< (8 * (k : Int)).toNat)) k v
def numsTo (b : List (BitVec 8)) (n : Nat) (v : List (BitVec 64)) : List (BitVec 64) := itN (fun i v => numsIn b i 8 v) n v
noncomputable def numsS : FSpec := { refSl := true, run := fun ins => match ins with
  | [.sl false (.u 8 b), .tup [.ref 0 0 (.agg n (.u 64 v)), .i 0, .i m]] => chk (m = n ∧ n ≤ 100 ∧ 8 * n ≤ b.length ∧ b.length < 100000)
      (some (.sl false (.u 8 (subL b (8 * n) (b.length - 8 * n))), [.agg n (.u 64 (numsTo b n v))]))
  | _ => none }
@[go_sem] theorem numsS_ref : numsS.refSl = true := rfl
theorem nums_sound {gl : Nat → Option Row} (hro : ∀ g r, gl g = some r → r.ro = r) : SoundFn Tryd.prog gl 16 numsS.run := by
  have G := good_of (P := Tryd.prog) hro (l := []) (by simp)
  refine soundFn_of_W G Tryd.func16 (by decide) rfl (by decide) ?_
  intro ins ret outs h
  unfold numsS at h
  dsimp only at h
  split at h
  rotate_left
  · cases h
  rename_i b n v m
  obtain ⟨hi, h'⟩ := chk_some h
  clear h
  obtain ⟨rfl, hn, hb, hb2⟩ := hi
  cases h'
  refine ⟨by show 2 ≤ 39; decide, fun w0 ext av => ?_⟩
  rw [Tryd.ntmps16, st0_eq]
  repeat' first
    | refine W.seq ?_ | (refine W.regS G ?_; dsimp only) | refine SW.nil ?_ | refine thenQ_normal ?_ | refine W.skip ?_ | refine W.exit ?_ | refine thenQ_exit ?_ | refine inBlockQ_exit ?_ | refine inBlockQ_normal ?_ | refine W.block ?_
    | (apply SW.toC; refine SWcall.go True.intro ?_) | (apply SW.toOp; refine SWop.go True.intro ?_) | (apply SW.toCG; first | refine SWcall.yes True.intro ?_ | refine SWcall.no True.intro ?_) | (apply SW.toG; first | refine SWop.yes True.intro ?_ | refine SWop.no True.intro ?_)
  refine W.loopI (ι := {i : Nat // i ≤ n}) (fun i => sL [(0, .sl false (.u 8 b)), (1, .os 1001 0 0 0 n), (8, .i n), (9, .i i.1)] [(1001, .agg n (.u 64 (numsTo b i.1 v)))] 39) (fun i => n - i.1) ⟨0, Nat.zero_le _⟩ (Imp.le ?_) ?_
  · exact sL_leZ True.intro
  rintro ⟨i, hi⟩
  repeat' first
    | refine W.seq ?_ | (refine W.regS G ?_; dsimp only) | refine SW.nil ?_ | refine thenQ_normal ?_ | refine W.skip ?_ | refine W.exit ?_ | refine thenQ_exit ?_ | refine inBlockQ_exit ?_ | refine inBlockQ_normal ?_ | refine W.block ?_
    | (apply SW.toC; refine SWcall.go True.intro ?_) | (apply SW.toOp; refine SWop.go True.intro ?_) | (apply SW.toCG; first | refine SWcall.yes True.intro ?_ | refine SWcall.no True.intro ?_) | (apply SW.toG; first | refine SWop.yes True.intro ?_ | refine SWop.no True.intro ?_)
  refine W.condZ G True.intro ?_ ?_
  all_goals intro ht
  · have ht' := of_decide_eq_true ht
    have hV : numsTo b (i + 1) v = numsIn b i 8 (numsTo b i v) := by rw [numsTo, itN_succ]; rfl
    generalize numsTo b i v = v1 at hV ⊢
    repeat' first
      | refine W.seq ?_ | (refine W.regS G ?_; dsimp only) | refine SW.nil ?_ | refine thenQ_normal ?_ | refine W.skip ?_ | refine W.exit ?_ | refine thenQ_exit ?_ | refine inBlockQ_exit ?_ | refine inBlockQ_normal ?_ | refine W.block ?_
      | (apply SW.toC; refine SWcall.go True.intro ?_) | (apply SW.toOp; refine SWop.go True.intro ?_) | (apply SW.toCG; first | refine SWcall.yes True.intro ?_ | refine SWcall.no True.intro ?_) | (apply SW.toG; first | refine SWop.yes True.intro ?_ | refine SWop.no True.intro ?_)
    refine W.loopI (ι := {k : Nat // k ≤ 8}) (fun k => sL [(0, .sl false (.u 8 b)), (1, .os 1001 0 0 0 n), (8, .i n), (9, .i i), (5, .i i), (12, .i k.1)] [(1001, .agg n (.u 64 (numsIn b i k.1 v1)))] 39) (fun k => 8 - k.1) ⟨0, Nat.zero_le _⟩ (Imp.le ?_) ?_
    · exact sL_leZ True.intro
    rintro ⟨k, hk⟩
    repeat' first
      | refine W.seq ?_ | (refine W.regS G ?_; dsimp only) | refine SW.nil ?_ | refine thenQ_normal ?_ | refine W.skip ?_ | refine W.exit ?_ | refine thenQ_exit ?_ | refine inBlockQ_exit ?_ | refine inBlockQ_normal ?_ | refine W.block ?_
      | (apply SW.toC; refine SWcall.go True.intro ?_) | (apply SW.toOp; refine SWop.go True.intro ?_) | (apply SW.toCG; first | refine SWcall.yes True.intro ?_ | refine SWcall.no True.intro ?_) | (apply SW.toG; first | refine SWop.yes True.intro ?_ | refine SWop.no True.intro ?_)
    refine W.condZ G True.intro ?_ ?_
    all_goals intro hu
    · have hu' := of_decide_eq_true hu
      repeat' first
        | refine W.seq ?_ | (refine W.regS G ?_; dsimp only) | refine SW.nil ?_ | refine thenQ_normal ?_ | refine W.skip ?_ | refine W.exit ?_ | refine thenQ_exit ?_ | refine inBlockQ_exit ?_ | refine inBlockQ_normal ?_ | refine W.block ?_
        | (apply SW.toC; refine SWcall.go True.intro ?_) | (apply SW.toOp; refine SWop.go True.intro ?_) | (apply SW.toCG; first | refine SWcall.yes True.intro ?_ | refine SWcall.no True.intro ?_) | (apply SW.toG; first | refine SWop.yes True.intro ?_ | refine SWop.no True.intro ?_)
      refine W.drawS G [[], [], [0, 1], [2, 0, 1], [], [], [5], [], [6, 5, 7], [4, 8, 6, 5, 7], [9, 4, 8, 6, 5, 7], [10, 9, 4, 8, 6, 5, 7], [], [12], [11, 10, 9, 4, 8, 6, 5, 7, 13, 12], [3, 2, 0, 1, 14, 11, 10, 9, 4, 8, 6, 5, 7, 13, 12], [0, 1, 2, 3, 4, 5, 6, 7, 8, 9, 10, 11, 12, 13, 14, 15], [16, 0, 1, 2, 3, 4, 5, 6, 7, 8, 9, 10, 11, 12, 13, 14, 15]] hmix ?_
      dsimp only
      repeat' first
        | (apply DW.nil; (focus (decide +kernel)))
        | (apply DW.toC; refine DWcall.go True.intro ?_) | (apply DW.toOp; refine DWop.go True.intro ?_) | (apply DW.toCG; first | refine DWcall.yes True.intro ?_ | refine DWcall.no True.intro ?_) | (apply DW.toG; first | refine DWop.yes True.intro ?_ | refine DWop.no True.intro ?_)
      repeat' first
        | refine W.seq ?_ | (refine W.regS G ?_; dsimp only) | refine SW.nil ?_ | refine thenQ_normal ?_ | refine W.skip ?_ | refine W.exit ?_ | refine thenQ_exit ?_ | refine inBlockQ_exit ?_ | refine inBlockQ_normal ?_ | refine W.block ?_
        | (apply SW.toC; refine SWcall.go True.intro ?_) | (apply SW.toOp; refine SWop.go True.intro ?_) | (apply SW.toCG; first | refine SWcall.yes True.intro ?_ | refine SWcall.no True.intro ?_) | (apply SW.toG; first | refine SWop.yes True.intro ?_ | refine SWop.no True.intro ?_)
      refine ⟨⟨k + 1, by omega⟩, Imp.le ?_, by show _ - (k + 1) < _ - k; omega⟩
      exact sL_leZ True.intro
    have hu' := of_decide_eq_false hu
    obtain rfl : k = 8 := by omega
    repeat' first
      | refine W.seq ?_ | (refine W.regS G ?_; dsimp only) | refine SW.nil ?_ | refine thenQ_normal ?_ | refine W.skip ?_ | refine W.exit ?_ | refine thenQ_exit ?_ | refine inBlockQ_exit ?_ | refine inBlockQ_normal ?_ | refine W.block ?_
      | (apply SW.toC; refine SWcall.go hV ?_) | (apply SW.toOp; refine SWop.go hV ?_) | (apply SW.toCG; first | refine SWcall.yes hV ?_ | refine SWcall.no hV ?_) | (apply SW.toG; first | refine SWop.yes hV ?_ | refine SWop.no hV ?_)
    refine ⟨⟨i + 1, by omega⟩, Imp.le ?_, by show _ - (i + 1) < _ - i; omega⟩
    exact sL_leZ hV
  have ht' := of_decide_eq_false ht
  obtain rfl : i = n := by omega
  have e1 : (8 * (i : Int)) = ((8 * i : Nat) : Int) := by omega
  have e2 : ((8 * i = 0) ∧ (b.length - 8 * i = b.length)) → subL b (8 * i) (b.length - 8 * i) = b := by rintro ⟨h1, h2⟩; rw [h1]; simp [subL]
  repeat' first
    | refine W.seq ?_ | (refine W.regS G ?_; dsimp only) | refine SW.nil ?_ | refine thenQ_normal ?_ | refine W.skip ?_ | refine W.exit ?_ | refine thenQ_exit ?_ | refine inBlockQ_exit ?_ | refine inBlockQ_normal ?_ | refine W.block ?_
    | (apply SW.toC; refine SWcall.go e1 ?_) | (apply SW.toOp; refine SWop.go e1 ?_) | (apply SW.toCG; first | refine SWcall.yes e1 ?_ | refine SWcall.no e1 ?_) | (apply SW.toG; first | refine SWop.yes e1 ?_ | refine SWop.no e1 ?_)
  refine W.ret ?_
  repeat' first
    | refine thenQ_ret ?_
    | refine inBlockQ_ret ?_
  refine fin1Z e1 ?_
  left
  by_cases h1 : 8 * i = 0 ∧ b.length - 8 * i = b.length
  · exact congrArg _ ((if_pos h1).trans (by rw [e2 h1]))
  · exact congrArg _ (if_neg h1)

/-! ### the document's call -/
def refCallOK (b : List (BitVec 8)) : Prop := b.length = 213 ∧ ¬ 1#8 < b.getD 212 0
def refH (b : List (BitVec 8)) (k : Nat) : List (BitVec 64) := itN (fun i h => h.set i (numF (subL b (4 + 8 * i) (213 - (4 + 8 * i))) 8)) k (zeros 64 8)
def refM (b : List (BitVec 8)) (k : Nat) : List (BitVec 64) := itN (fun i h => h.set i (numF (subL b (68 + 8 * i) (213 - (68 + 8 * i))) 8)) k (zeros 64 16)
def refT (b : List (BitVec 8)) : List (BitVec 64) := ((zeros 64 2).set 0 (numF (subL b 196 (213 - 196)) 8)).set 1 (numF (subL b 204 (213 - 204)) 8)
def callR (b : List (BitVec 8)) : BitVec 32 := BitVec.setWidth 32 (b.getD 0 0) <<< 24 ||| BitVec.setWidth 32 (b.getD 1 0) <<< 16 ||| BitVec.setWidth 32 (b.getD 2 0) <<< 8 ||| BitVec.setWidth 32 (b.getD 3 0)
def refH2 (b : List (BitVec 8)) : List (BitVec 64) := refF (callR b) (refH b 8) (refM b 16) (refT b) (decide (b.getD 212 0 = 1#8))
def refBytes (h : List (BitVec 64)) (k : Nat) : List (BitVec 8) := itN (fun i o => o ++ [BitVec.setWidth 8 (h.getD ((i : Int) / 8).toNat 0 >>> (BitVec.ofInt 64 (8 * ((i : Int) % 8))).toNat)]) k []
theorem refBytes_len (h : List (BitVec 64)) (k : Nat) : (refBytes h k).length = k := by
  induction k with
  | zero => rfl
  | succ k ih => show (refBytes h k ++ _).length = _; simp [ih]
noncomputable def refCallS : FSpec := { run := fun ins => match ins with
  | [.sl false (.u 8 b)] => if b.length = 213 ∧ ¬ 1#8 < b.getD 212 0 then some (.tup [.sl true (.u 8 (refBytes (refH2 b) 64)), .i 0], []) else some (.tup [.sl true (.u 8 []), .i 4], [])
  | _ => none }
theorem refCall_sound {gl : Nat → Option Row} (hro : ∀ g r, gl g = some r → r.ro = r) : SoundFn Tryd.prog gl 10 refCallS.run := by
  have G := good_of (P := Tryd.prog) hro (l := [(7, refFS), (17, numS)]) (by simp only [List.forall_mem_cons]; exact ⟨refF_sound hro, num_sound hro, by simp⟩)
  refine soundFn_of_W G Tryd.func10 (by decide) rfl (by decide) ?_
  intro ins ret outs h
  unfold refCallS at h
  dsimp only at h
  split at h
  rotate_left
  · cases h
  rename_i b
  by_cases hL : b.length = 213
  · by_cases hX : 1#8 < b.getD 212 0
    · rw [if_neg (fun hh => hh.2 hX)] at h
      cases h
      have hX' : decide (1#8 < b.getD 212 0) = true := decide_eq_true hX
      refine ⟨by show 1 ≤ 106; decide, fun w0 ext av => ?_⟩
      rw [Tryd.ntmps10, st0_eq]
      repeat' first
        | refine W.seq ?_ | (refine W.regS G ?_; dsimp only) | refine SW.nil ?_ | refine thenQ_normal ?_ | refine W.skip ?_ | refine W.exit ?_ | refine thenQ_exit ?_ | refine inBlockQ_exit ?_ | refine inBlockQ_normal ?_ | refine W.block ?_
        | (apply SW.toC; refine SWcall.go (And.intro hL hX) ?_) | (apply SW.toOp; refine SWop.go (And.intro hL hX) ?_) | (apply SW.toCG; first | refine SWcall.yes (And.intro hL hX) ?_ | refine SWcall.no (And.intro hL hX) ?_) | (apply SW.toG; first | refine SWop.yes (And.intro hL hX) ?_ | refine SWop.no (And.intro hL hX) ?_)
      refine W.condZ G (And.intro hL hX) ?_ ?_
      all_goals intro ht
      · repeat' first
          | refine W.seq ?_ | (refine W.regS G ?_; dsimp only) | refine SW.nil ?_ | refine thenQ_normal ?_ | refine W.skip ?_ | refine W.exit ?_ | refine thenQ_exit ?_ | refine inBlockQ_exit ?_ | refine inBlockQ_normal ?_ | refine W.block ?_
          | (apply SW.toC; refine SWcall.go (And.intro hL hX) ?_) | (apply SW.toOp; refine SWop.go (And.intro hL hX) ?_) | (apply SW.toCG; first | refine SWcall.yes (And.intro hL hX) ?_ | refine SWcall.no (And.intro hL hX) ?_) | (apply SW.toG; first | refine SWop.yes (And.intro hL hX) ?_ | refine SWop.no (And.intro hL hX) ?_)
        refine W.ret ?_
        repeat' first
          | refine thenQ_ret ?_
          | refine inBlockQ_ret ?_
        refine fin2Z (And.intro hL hX) ?_ ?_
        · exact .inr (.inl ⟨rfl, _, _, rfl, rfl, by unfold okR okW; omega⟩)
        · exact leV_refl
      · simp at ht
    · rw [if_pos ⟨hL, hX⟩] at h
      cases h
      refine ⟨by show 1 ≤ 106; decide, fun w0 ext av => ?_⟩
      rw [Tryd.ntmps10, st0_eq]
      repeat' first
        | refine W.seq ?_ | (refine W.regS G ?_; dsimp only) | refine SW.nil ?_ | refine thenQ_normal ?_ | refine W.skip ?_ | refine W.exit ?_ | refine thenQ_exit ?_ | refine inBlockQ_exit ?_ | refine inBlockQ_normal ?_ | refine W.block ?_
        | (apply SW.toC; refine SWcall.go (And.intro hL hX) ?_) | (apply SW.toOp; refine SWop.go (And.intro hL hX) ?_) | (apply SW.toCG; first | refine SWcall.yes (And.intro hL hX) ?_ | refine SWcall.no (And.intro hL hX) ?_) | (apply SW.toG; first | refine SWop.yes (And.intro hL hX) ?_ | refine SWop.no (And.intro hL hX) ?_)
      refine W.condZ G (And.intro hL hX) ?_ ?_
      all_goals intro ht
      · simp at ht
      repeat' first
        | refine W.seq ?_ | (refine W.regS G ?_; dsimp only) | refine SW.nil ?_ | refine thenQ_normal ?_ | refine W.skip ?_ | refine W.exit ?_ | refine thenQ_exit ?_ | refine inBlockQ_exit ?_ | refine inBlockQ_normal ?_ | refine W.block ?_
        | (apply SW.toC; refine SWcall.go (And.intro hL hX) ?_) | (apply SW.toOp; refine SWop.go (And.intro hL hX) ?_) | (apply SW.toCG; first | refine SWcall.yes (And.intro hL hX) ?_ | refine SWcall.no (And.intro hL hX) ?_) | (apply SW.toG; first | refine SWop.yes (And.intro hL hX) ?_ | refine SWop.no (And.intro hL hX) ?_)
      refine W.loopI (ι := {k : Nat // k ≤ 8}) (fun k => sL [(0, .sl false (.u 8 b)), (4, .p 4 0 0 0), (5, .p 5 0 0 0), (6, .p 6 0 0 0), (7, .i k.1)] [(4, .agg 8 (.u 64 (refH b k.1))), (5, .agg 16 (.u 64 (zeros 64 16))), (6, .agg 2 (.u 64 (zeros 64 2)))] 106) (fun k => 8 - k.1) ⟨0, Nat.zero_le _⟩ (Imp.le ?_) ?_
      · exact sL_leZ (And.intro hL hX)
      rintro ⟨k, hk⟩
      repeat' first
        | refine W.seq ?_ | (refine W.regS G ?_; dsimp only) | refine SW.nil ?_ | refine thenQ_normal ?_ | refine W.skip ?_ | refine W.exit ?_ | refine thenQ_exit ?_ | refine inBlockQ_exit ?_ | refine inBlockQ_normal ?_ | refine W.block ?_
        | (apply SW.toC; refine SWcall.go (And.intro hL hX) ?_) | (apply SW.toOp; refine SWop.go (And.intro hL hX) ?_) | (apply SW.toCG; first | refine SWcall.yes (And.intro hL hX) ?_ | refine SWcall.no (And.intro hL hX) ?_) | (apply SW.toG; first | refine SWop.yes (And.intro hL hX) ?_ | refine SWop.no (And.intro hL hX) ?_)
      refine W.condZ G (And.intro hL hX) ?_ ?_
      all_goals intro hu
      · have hu' := of_decide_eq_true hu
        have e1 : (4 + 8 * (k : Int)) = ((4 + 8 * k : Nat) : Int) := by omega
        have e2 : ¬ (4 + 8 * k = 0) := by omega
        have e3 : (subL b (4 + 8 * k) (213 - (4 + 8 * k))).length = 213 - (4 + 8 * k) := by rw [subL_len, hL]; omega
        repeat' first
          | refine W.seq ?_ | (refine W.regS G ?_; dsimp only) | refine SW.nil ?_ | refine thenQ_normal ?_ | refine W.skip ?_ | refine W.exit ?_ | refine thenQ_exit ?_ | refine inBlockQ_exit ?_ | refine inBlockQ_normal ?_ | refine W.block ?_
          | (apply SW.toC; refine SWcall.go (And.intro hL (And.intro e1 (And.intro e2 (And.intro e3 numS.eq_1)))) ?_) | (apply SW.toOp; refine SWop.go (And.intro hL (And.intro e1 (And.intro e2 (And.intro e3 numS.eq_1)))) ?_) | (apply SW.toCG; first | refine SWcall.yes (And.intro hL (And.intro e1 (And.intro e2 (And.intro e3 numS.eq_1)))) ?_ | refine SWcall.no (And.intro hL (And.intro e1 (And.intro e2 (And.intro e3 numS.eq_1)))) ?_) | (apply SW.toG; first | refine SWop.yes (And.intro hL (And.intro e1 (And.intro e2 (And.intro e3 numS.eq_1)))) ?_ | refine SWop.no (And.intro hL (And.intro e1 (And.intro e2 (And.intro e3 numS.eq_1)))) ?_)
        refine ⟨⟨k + 1, by omega⟩, Imp.le ?_, by show _ - (k + 1) < _ - k; omega⟩
        exact sL_leZ (And.intro hL (And.intro e1 (And.intro e2 (And.intro e3 numS.eq_1))))
      have hu' := of_decide_eq_false hu
      obtain rfl : k = 8 := by omega
      repeat' first
        | refine W.seq ?_ | (refine W.regS G ?_; dsimp only) | refine SW.nil ?_ | refine thenQ_normal ?_ | refine W.skip ?_ | refine W.exit ?_ | refine thenQ_exit ?_ | refine inBlockQ_exit ?_ | refine inBlockQ_normal ?_ | refine W.block ?_
        | (apply SW.toC; refine SWcall.go hL ?_) | (apply SW.toOp; refine SWop.go hL ?_) | (apply SW.toCG; first | refine SWcall.yes hL ?_ | refine SWcall.no hL ?_) | (apply SW.toG; first | refine SWop.yes hL ?_ | refine SWop.no hL ?_)
      refine W.loopI (ι := {k : Nat // k ≤ 16}) (fun k => sL [(0, .sl false (.u 8 b)), (4, .p 4 0 0 0), (5, .p 5 0 0 0), (6, .p 6 0 0 0), (8, .i k.1)] [(4, .agg 8 (.u 64 (refH b 8))), (5, .agg 16 (.u 64 (refM b k.1))), (6, .agg 2 (.u 64 (zeros 64 2)))] 106) (fun k => 16 - k.1) ⟨0, Nat.zero_le _⟩ (Imp.le ?_) ?_
      · exact sL_leZ hL
      rintro ⟨k, hk⟩
      repeat' first
        | refine W.seq ?_ | (refine W.regS G ?_; dsimp only) | refine SW.nil ?_ | refine thenQ_normal ?_ | refine W.skip ?_ | refine W.exit ?_ | refine thenQ_exit ?_ | refine inBlockQ_exit ?_ | refine inBlockQ_normal ?_ | refine W.block ?_
        | (apply SW.toC; refine SWcall.go hL ?_) | (apply SW.toOp; refine SWop.go hL ?_) | (apply SW.toCG; first | refine SWcall.yes hL ?_ | refine SWcall.no hL ?_) | (apply SW.toG; first | refine SWop.yes hL ?_ | refine SWop.no hL ?_)
      refine W.condZ G hL ?_ ?_
      all_goals intro hv
      · have hv' := of_decide_eq_true hv
        have e1 : (68 + 8 * (k : Int)) = ((68 + 8 * k : Nat) : Int) := by omega
        have e2 : ¬ (68 + 8 * k = 0) := by omega
        have e3 : (subL b (68 + 8 * k) (213 - (68 + 8 * k))).length = 213 - (68 + 8 * k) := by rw [subL_len, hL]; omega
        repeat' first
          | refine W.seq ?_ | (refine W.regS G ?_; dsimp only) | refine SW.nil ?_ | refine thenQ_normal ?_ | refine W.skip ?_ | refine W.exit ?_ | refine thenQ_exit ?_ | refine inBlockQ_exit ?_ | refine inBlockQ_normal ?_ | refine W.block ?_
          | (apply SW.toC; refine SWcall.go (And.intro hL (And.intro e1 (And.intro e2 (And.intro e3 numS.eq_1)))) ?_) | (apply SW.toOp; refine SWop.go (And.intro hL (And.intro e1 (And.intro e2 (And.intro e3 numS.eq_1)))) ?_) | (apply SW.toCG; first | refine SWcall.yes (And.intro hL (And.intro e1 (And.intro e2 (And.intro e3 numS.eq_1)))) ?_ | refine SWcall.no (And.intro hL (And.intro e1 (And.intro e2 (And.intro e3 numS.eq_1)))) ?_) | (apply SW.toG; first | refine SWop.yes (And.intro hL (And.intro e1 (And.intro e2 (And.intro e3 numS.eq_1)))) ?_ | refine SWop.no (And.intro hL (And.intro e1 (And.intro e2 (And.intro e3 numS.eq_1)))) ?_)
        refine ⟨⟨k + 1, by omega⟩, Imp.le ?_, by show _ - (k + 1) < _ - k; omega⟩
        exact sL_leZ (And.intro hL (And.intro e1 (And.intro e2 (And.intro e3 numS.eq_1))))
      have hv' := of_decide_eq_false hv
      obtain rfl : k = 16 := by omega
      have e3 : (subL b 196 17).length = 17 := by rw [subL_len, hL]; rfl
      have e4 : (subL b 204 9).length = 9 := by rw [subL_len, hL]; rfl
      repeat' first
        | refine W.seq ?_ | (refine W.regS G ?_; dsimp only) | refine SW.nil ?_ | refine thenQ_normal ?_ | refine W.skip ?_ | refine W.exit ?_ | refine thenQ_exit ?_ | refine inBlockQ_exit ?_ | refine inBlockQ_normal ?_ | refine W.block ?_
        | (apply SW.toC; refine SWcall.go (And.intro hL (And.intro e3 (And.intro e4 numS.eq_1))) ?_) | (apply SW.toOp; refine SWop.go (And.intro hL (And.intro e3 (And.intro e4 numS.eq_1))) ?_) | (apply SW.toCG; first | refine SWcall.yes (And.intro hL (And.intro e3 (And.intro e4 numS.eq_1))) ?_ | refine SWcall.no (And.intro hL (And.intro e3 (And.intro e4 numS.eq_1))) ?_) | (apply SW.toG; first | refine SWop.yes (And.intro hL (And.intro e3 (And.intro e4 numS.eq_1))) ?_ | refine SWop.no (And.intro hL (And.intro e3 (And.intro e4 numS.eq_1))) ?_)
      refine W.drawS G [[], [0], [1, 0], [], [3], [4, 3, 2, 1, 0], [0, 1, 2], [6, 0, 1, 2, 5, 4, 3], [0, 1, 2, 3, 4, 5, 6, 7], [8, 0, 1, 2, 3, 4, 5, 6, 7]] hmix ?_
      dsimp only
      repeat' first
        | (apply DW.nil; (focus (decide +kernel)))
        | (apply DW.toC; refine DWcall.go (And.intro hL (And.intro e3 (And.intro e4 numS.eq_1))) ?_) | (apply DW.toOp; refine DWop.go (And.intro hL (And.intro e3 (And.intro e4 numS.eq_1))) ?_) | (apply DW.toCG; first | refine DWcall.yes (And.intro hL (And.intro e3 (And.intro e4 numS.eq_1))) ?_ | refine DWcall.no (And.intro hL (And.intro e3 (And.intro e4 numS.eq_1))) ?_) | (apply DW.toG; first | refine DWop.yes (And.intro hL (And.intro e3 (And.intro e4 numS.eq_1))) ?_ | refine DWop.no (And.intro hL (And.intro e3 (And.intro e4 numS.eq_1))) ?_)
      repeat' first
        | refine W.seq ?_ | (refine W.regS G ?_; dsimp only) | refine SW.nil ?_ | refine thenQ_normal ?_ | refine W.skip ?_ | refine W.exit ?_ | refine thenQ_exit ?_ | refine inBlockQ_exit ?_ | refine inBlockQ_normal ?_ | refine W.block ?_
        | (apply SW.toC; refine SWcall.go (And.intro hL (And.intro e3 (And.intro e4 numS.eq_1))) ?_) | (apply SW.toOp; refine SWop.go (And.intro hL (And.intro e3 (And.intro e4 numS.eq_1))) ?_) | (apply SW.toCG; first | refine SWcall.yes (And.intro hL (And.intro e3 (And.intro e4 numS.eq_1))) ?_ | refine SWcall.no (And.intro hL (And.intro e3 (And.intro e4 numS.eq_1))) ?_) | (apply SW.toG; first | refine SWop.yes (And.intro hL (And.intro e3 (And.intro e4 numS.eq_1))) ?_ | refine SWop.no (And.intro hL (And.intro e3 (And.intro e4 numS.eq_1))) ?_)
      refine W.drawS G [[], [0], [1, 0], [2, 1, 0], [3, 2, 1, 0], [], [5], [6, 5], [7, 6, 5], [8, 7, 6, 5], [4, 3, 2, 1, 0, 9, 8, 7, 6, 5], [], [11], [12, 11], [13, 12, 11], [14, 13, 12, 11], [10, 4, 3, 2, 1, 0, 9, 8, 7, 6, 5, 15, 14, 13, 12, 11], [], [17], [18, 17], [19, 18, 17], [16, 10, 4, 3, 2, 1, 0, 9, 8, 7, 6, 5, 15, 14, 13, 12, 11, 20, 19, 18, 17], [21, 16, 10, 4, 3, 2, 1, 0, 9, 8, 7, 6, 5, 15, 14, 13, 12, 11, 20, 19, 18, 17]] hmix ?_
      dsimp only
      repeat' first
        | (apply DW.nil; (focus (decide +kernel)))
        | (apply DW.toC; refine DWcall.go (And.intro hL (And.intro e3 (And.intro e4 numS.eq_1))) ?_) | (apply DW.toOp; refine DWop.go (And.intro hL (And.intro e3 (And.intro e4 numS.eq_1))) ?_) | (apply DW.toCG; first | refine DWcall.yes (And.intro hL (And.intro e3 (And.intro e4 numS.eq_1))) ?_ | refine DWcall.no (And.intro hL (And.intro e3 (And.intro e4 numS.eq_1))) ?_) | (apply DW.toG; first | refine DWop.yes (And.intro hL (And.intro e3 (And.intro e4 numS.eq_1))) ?_ | refine DWop.no (And.intro hL (And.intro e3 (And.intro e4 numS.eq_1))) ?_)
      repeat' first
        | refine W.seq ?_ | (refine W.regS G ?_; dsimp only) | refine SW.nil ?_ | refine thenQ_normal ?_ | refine W.skip ?_ | refine W.exit ?_ | refine thenQ_exit ?_ | refine inBlockQ_exit ?_ | refine inBlockQ_normal ?_ | refine W.block ?_
        | (apply SW.toC; refine SWcall.go (And.intro hL refFS.eq_1) ?_) | (apply SW.toOp; refine SWop.go (And.intro hL refFS.eq_1) ?_) | (apply SW.toCG; first | refine SWcall.yes (And.intro hL refFS.eq_1) ?_ | refine SWcall.no (And.intro hL refFS.eq_1) ?_) | (apply SW.toG; first | refine SWop.yes (And.intro hL refFS.eq_1) ?_ | refine SWop.no (And.intro hL refFS.eq_1) ?_)
      refine W.drawS G [[], [], [], [], [], [4], [5, 4], [6, 5, 4], [0, 1, 2, 3, 7, 6, 5, 4], [8, 0, 1, 2, 3, 7, 6, 5, 4]] hmix ?_
      dsimp only
      repeat' first
        | (apply DW.nil; (focus (decide +kernel)))
        | (apply DW.toC; refine DWcall.go (And.intro hL refFS.eq_1) ?_) | (apply DW.toOp; refine DWop.go (And.intro hL refFS.eq_1) ?_) | (apply DW.toCG; first | refine DWcall.yes (And.intro hL refFS.eq_1) ?_ | refine DWcall.no (And.intro hL refFS.eq_1) ?_) | (apply DW.toG; first | refine DWop.yes (And.intro hL refFS.eq_1) ?_ | refine DWop.no (And.intro hL refFS.eq_1) ?_)
      repeat' first
        | refine W.seq ?_ | (refine W.regS G ?_; dsimp only) | refine SW.nil ?_ | refine thenQ_normal ?_ | refine W.skip ?_ | refine W.exit ?_ | refine thenQ_exit ?_ | refine inBlockQ_exit ?_ | refine inBlockQ_normal ?_ | refine W.block ?_
        | (apply SW.toC; refine SWcall.go (And.intro hL refFS.eq_1) ?_) | (apply SW.toOp; refine SWop.go (And.intro hL refFS.eq_1) ?_) | (apply SW.toCG; first | refine SWcall.yes (And.intro hL refFS.eq_1) ?_ | refine SWcall.no (And.intro hL refFS.eq_1) ?_) | (apply SW.toG; first | refine SWop.yes (And.intro hL refFS.eq_1) ?_ | refine SWop.no (And.intro hL refFS.eq_1) ?_)
      refine W.imp (s := sL [(4, .p 4 0 0 0), (10, .gr 87 0), (11, .i 0)] [(4, .agg 8 (.u 64 (refH2 b))), (87, .row (.u 8 []))] 106) ?_ (Imp.le ?_)
      rotate_left
      · exact sL_leZ (And.intro hL refFS.eq_1)
      generalize refH2 b = H
      refine W.loopI (ι := {k : Nat // k ≤ 64}) (fun k => sL [(4, .p 4 0 0 0), (10, .gr 87 k.1), (11, .i k.1)] [(4, .agg 8 (.u 64 H)), (87, .row (.u 8 (refBytes H k.1)))] 106) (fun k => 64 - k.1) ⟨0, Nat.zero_le _⟩ (Imp.le ?_) ?_
      · exact sL_leZ (And.intro hL refFS.eq_1)
      rintro ⟨k, hk⟩
      have L1 := refBytes_len H k
      repeat' first
        | refine W.seq ?_ | (refine W.regS G ?_; dsimp only) | refine SW.nil ?_ | refine thenQ_normal ?_ | refine W.skip ?_ | refine W.exit ?_ | refine thenQ_exit ?_ | refine inBlockQ_exit ?_ | refine inBlockQ_normal ?_ | refine W.block ?_
        | (apply SW.toC; refine SWcall.go L1 ?_) | (apply SW.toOp; refine SWop.go L1 ?_) | (apply SW.toCG; first | refine SWcall.yes L1 ?_ | refine SWcall.no L1 ?_) | (apply SW.toG; first | refine SWop.yes L1 ?_ | refine SWop.no L1 ?_)
      refine W.condZ G L1 ?_ ?_
      all_goals intro hw
      · have hw' := of_decide_eq_true hw
        repeat' first
          | refine W.seq ?_ | (refine W.regS G ?_; dsimp only) | refine SW.nil ?_ | refine thenQ_normal ?_ | refine W.skip ?_ | refine W.exit ?_ | refine thenQ_exit ?_ | refine inBlockQ_exit ?_ | refine inBlockQ_normal ?_ | refine W.block ?_
          | (apply SW.toC; refine SWcall.go L1 ?_) | (apply SW.toOp; refine SWop.go L1 ?_) | (apply SW.toCG; first | refine SWcall.yes L1 ?_ | refine SWcall.no L1 ?_) | (apply SW.toG; first | refine SWop.yes L1 ?_ | refine SWop.no L1 ?_)
        refine ⟨⟨k + 1, by omega⟩, Imp.le ?_, by show _ - (k + 1) < _ - k; omega⟩
        exact sL_leZ L1
      have hw' := of_decide_eq_false hw
      obtain rfl : k = 64 := by omega
      repeat' first
        | refine W.seq ?_ | (refine W.regS G ?_; dsimp only) | refine SW.nil ?_ | refine thenQ_normal ?_ | refine W.skip ?_ | refine W.exit ?_ | refine thenQ_exit ?_ | refine inBlockQ_exit ?_ | refine inBlockQ_normal ?_ | refine W.block ?_
        | (apply SW.toC; refine SWcall.go L1 ?_) | (apply SW.toOp; refine SWop.go L1 ?_) | (apply SW.toCG; first | refine SWcall.yes L1 ?_ | refine SWcall.no L1 ?_) | (apply SW.toG; first | refine SWop.yes L1 ?_ | refine SWop.no L1 ?_)
      refine W.ret ?_
      repeat' first
        | refine thenQ_ret ?_
        | refine inBlockQ_ret ?_
      refine fin2Z L1 ?_ ?_
      · exact leV_refl
      · exact leV_refl
  · rw [if_neg (fun hh => hL hh.1)] at h
    cases h
    have hL' : ¬ (b.length : Int) = 213 := by omega
    refine ⟨by show 1 ≤ 106; decide, fun w0 ext av => ?_⟩
    rw [Tryd.ntmps10, st0_eq]
    repeat' first
      | refine W.seq ?_ | (refine W.regS G ?_; dsimp only) | refine SW.nil ?_ | refine thenQ_normal ?_ | refine W.skip ?_ | refine W.exit ?_ | refine thenQ_exit ?_ | refine inBlockQ_exit ?_ | refine inBlockQ_normal ?_ | refine W.block ?_
      | (apply SW.toC; refine SWcall.go hL' ?_) | (apply SW.toOp; refine SWop.go hL' ?_) | (apply SW.toCG; first | refine SWcall.yes hL' ?_ | refine SWcall.no hL' ?_) | (apply SW.toG; first | refine SWop.yes hL' ?_ | refine SWop.no hL' ?_)
    refine W.condZ G hL' ?_ ?_
    all_goals intro ht
    · repeat' first
        | refine W.seq ?_ | (refine W.regS G ?_; dsimp only) | refine SW.nil ?_ | refine thenQ_normal ?_ | refine W.skip ?_ | refine W.exit ?_ | refine thenQ_exit ?_ | refine inBlockQ_exit ?_ | refine inBlockQ_normal ?_ | refine W.block ?_
        | (apply SW.toC; refine SWcall.go hL' ?_) | (apply SW.toOp; refine SWop.go hL' ?_) | (apply SW.toCG; first | refine SWcall.yes hL' ?_ | refine SWcall.no hL' ?_) | (apply SW.toG; first | refine SWop.yes hL' ?_ | refine SWop.no hL' ?_)
      refine W.ret ?_
      repeat' first
        | refine thenQ_ret ?_
        | refine inBlockQ_ret ?_
      refine fin2Z hL' ?_ ?_
      · exact .inr (.inl ⟨rfl, _, _, rfl, rfl, by unfold okR okW; omega⟩)
      · exact leV_refl
    · simp at ht
end Go.Vm.C06

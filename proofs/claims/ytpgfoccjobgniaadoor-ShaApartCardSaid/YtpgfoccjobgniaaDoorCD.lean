/- What some functions of the program compute, walked through once. -/
import Derived.Test.YtpgfoccjobgniaaDoorCC
namespace Go.Vm.C04
open Go Go.Proofs
set_option linter.unusedVariables false
set_option linter.unusedSimpArgs false
set_option maxRecDepth 100000
set_option maxHeartbeats 8000000

def glB : Nat → Option Row := fun g => if g = 0 then some (.u 32 begunB) else if g = 1 then some (.u 32 kB) else none
theorem glB_ro : ∀ g r, glB g = some r → r.ro = r := by
  intro g r h
  unfold glB at h
  split at h
  · cases h; rfl
  split at h
  · cases h; rfl
  cases h
theorem glB0 : glB 0 = some (.u 32 begunB) := rfl
theorem glB1 : glB 1 = some (.u 32 kB) := rfl
theorem kB_len : kB.length = 64 := rfl
theorem begunB_len : begunB.length = 8 := rfl

/-! ### a block, the program's way -/
def rotF (x : BitVec 32) (k : Int) : BitVec 32 := (x <<< ((BitVec.ofInt 64 k &&& 31#64).toNat)) ||| (x >>> ((32#64 - (BitVec.ofInt 64 k &&& 31#64)).toNat))
noncomputable def rotS : FSpec := { run := fun ins => match ins with
  | [.u 32 x, .i k] => some (.u 32 (rotF x k), [])
  | _ => none }
theorem rot_sound : SoundFn Tryd.prog glB 27 rotS.run := by
  have G := good_of (P := Tryd.prog) glB_ro (l := []) (by simp)
  refine soundFn_of_W G Tryd.func27 (by decide) rfl (by decide) ?_
  intro ins ret outs h
  unfold rotS at h
  dsimp only at h
  split at h
  rotate_left
  · cases h
  rename_i x k
  cases h
  refine ⟨by show 2 ≤ 17; decide, fun w0 ext av => ?_⟩
  rw [Tryd.ntmps27, st0_eq]
  repeat' first
    | refine W.seq ?_ | (refine W.regS G ?_; dsimp only) | refine SW.nil ?_ | refine thenQ_normal ?_ | refine W.skip ?_ | refine W.exit ?_ | refine thenQ_exit ?_ | refine inBlockQ_exit ?_ | refine inBlockQ_normal ?_ | refine W.block ?_
    | (apply SW.toC; refine SWcall.go True.intro ?_) | (apply SW.toOp; refine SWop.go True.intro ?_) | (apply SW.toCG; first | refine SWcall.yes True.intro ?_ | refine SWcall.no True.intro ?_) | (apply SW.toG; first | refine SWop.yes True.intro ?_ | refine SWop.no True.intro ?_)
  refine W.ret ?_
  repeat' first
    | refine thenQ_ret ?_
    | refine inBlockQ_ret ?_
  refine fin1Z True.intro ?_
  exact leV_refl
def downF (x : BitVec 32) (n : Int) : BitVec 32 := rotF x (-n)
noncomputable def downS : FSpec := { run := fun ins => match ins with
  | [.u 32 x, .i n] => chk (0 ≤ n ∧ n ≤ 31) (some (.u 32 (downF x n), []))
  | _ => none }
theorem down_sound : SoundFn Tryd.prog glB 26 downS.run := by
  have G := good_of (P := Tryd.prog) glB_ro (l := [(27, rotS)]) (by simp only [List.forall_mem_cons]; exact ⟨rot_sound, by simp⟩)
  refine soundFn_of_W G Tryd.func26 (by decide) rfl (by decide) ?_
  intro ins ret outs h
  unfold downS at h
  dsimp only at h
  split at h
  rotate_left
  · cases h
  rename_i x n
  obtain ⟨hn, h'⟩ := chk_some h
  clear h
  cases h'
  refine ⟨by show 2 ≤ 9; decide, fun w0 ext av => ?_⟩
  rw [Tryd.ntmps26, st0_eq]
  repeat' first
    | refine W.seq ?_ | (refine W.regS G ?_; dsimp only) | refine SW.nil ?_ | refine thenQ_normal ?_ | refine W.skip ?_ | refine W.exit ?_ | refine thenQ_exit ?_ | refine inBlockQ_exit ?_ | refine inBlockQ_normal ?_ | refine W.block ?_
    | (apply SW.toC; refine SWcall.go rotS.eq_1 ?_) | (apply SW.toOp; refine SWop.go rotS.eq_1 ?_) | (apply SW.toCG; first | refine SWcall.yes rotS.eq_1 ?_ | refine SWcall.no rotS.eq_1 ?_) | (apply SW.toG; first | refine SWop.yes rotS.eq_1 ?_ | refine SWop.no rotS.eq_1 ?_)
  refine W.ret ?_
  repeat' first
    | refine thenQ_ret ?_
    | refine inBlockQ_ret ?_
  refine fin1Z rotS.eq_1 ?_
  exact leV_refl

def beF (b : List (BitVec 8)) (i : Nat) : BitVec 32 := BitVec.setWidth 32 (b.getD (4 * i) 0) <<< 24 ||| BitVec.setWidth 32 (b.getD (4 * i + 1) 0) <<< 16 ||| BitVec.setWidth 32 (b.getD (4 * i + 2) 0) <<< 8 ||| BitVec.setWidth 32 (b.getD (4 * i + 3) 0)
def wA (b : List (BitVec 8)) (k : Nat) : List (BitVec 32) := itN (fun i w => w.set i (beF b i)) k (zeros 32 64)
def wN (w : List (BitVec 32)) (j : Nat) : BitVec 32 := w.getD j 0 + w.getD (j + 9) 0 + (downF (w.getD (j + 1) 0) 7 ^^^ downF (w.getD (j + 1) 0) 18 ^^^ w.getD (j + 1) 0 >>> 3) + (downF (w.getD (j + 14) 0) 17 ^^^ downF (w.getD (j + 14) 0) 19 ^^^ w.getD (j + 14) 0 >>> 10)
def wB (k : Nat) (w : List (BitVec 32)) : List (BitVec 32) := itN (fun j w => w.set (16 + j) (wN w j)) k w
def tF (w : List (BitVec 32)) (i : Nat) (v : List (BitVec 32)) : BitVec 32 :=
  v.getD 7 0 + (downF (v.getD 4 0) 6 ^^^ downF (v.getD 4 0) 11 ^^^ downF (v.getD 4 0) 25) + (v.getD 4 0 &&& v.getD 5 0 ^^^ ~~~ v.getD 4 0 &&& v.getD 6 0) + kB.getD i 0 + w.getD i 0
def uF (v : List (BitVec 32)) : BitVec 32 := (downF (v.getD 0 0) 2 ^^^ downF (v.getD 0 0) 13 ^^^ downF (v.getD 0 0) 22) + (v.getD 0 0 &&& v.getD 1 0 ^^^ v.getD 0 0 &&& v.getD 2 0 ^^^ v.getD 1 0 &&& v.getD 2 0)
noncomputable def vF (w : List (BitVec 32)) (i : Nat) (v : List (BitVec 32)) : List (BitVec 32) :=
  ((splL v 1 (subL v 0 7)).set 4 ((splL v 1 (subL v 0 7)).getD 4 0 + tF w i v)).set 0 (tF w i v + uF v)
def hAdd (v : List (BitVec 32)) (k : Nat) (h : List (BitVec 32)) : List (BitVec 32) := itN (fun i h => h.set i (h.getD i 0 + v.getD i 0)) k h
noncomputable def takesF (h : List (BitVec 32)) (b : List (BitVec 8)) : List (BitVec 32) := hAdd (itN (vF (wB 48 (wA b 16))) 64 h) 8 h
theorem splL_len {α : Type} (v : List α) (i : Nat) (x : List α) (h : i + x.length ≤ v.length) : (splL v i x).length = v.length := by
  simp only [splL, List.length_append, List.length_take, List.length_drop]
  omega
theorem vF_len (w : List (BitVec 32)) (i : Nat) (v : List (BitVec 32)) (h : v.length = 8) : (vF w i v).length = 8 := by
  simp only [vF, List.length_set]
  rw [splL_len _ _ _ (by simp [subL]; omega), h]
theorem vTo_len (w : List (BitVec 32)) (k : Nat) (h : List (BitVec 32)) (hl : h.length = 8) : (itN (vF w) k h).length = 8 := itN_inv (p := fun (t : List (BitVec 32)) => t.length = 8) (fun i s hs => vF_len w i s hs) k hl
theorem hAdd_len (v : List (BitVec 32)) (k : Nat) (h : List (BitVec 32)) : (hAdd v k h).length = h.length := itN_inv (p := fun (t : List (BitVec 32)) => t.length = h.length) (fun _ _ hh => by simpa using hh) k rfl
theorem takesF_len (h : List (BitVec 32)) (b : List (BitVec 8)) : (takesF h b).length = h.length := hAdd_len _ _ _

noncomputable def takesS : FSpec := { run := fun ins => match ins with
  | [.ref 0 0 (.st [.agg 8 (.u 32 h), .agg 64 (.u 8 b), .i m, .u 64 n])] => chk (h.length = 8 ∧ b.length = 64) (some (.tup [], [.st [.agg 8 (.u 32 (takesF h b)), .agg 64 (.u 8 b), .i m, .u 64 n]]))
  | _ => none }
theorem takes_sound : SoundFn Tryd.prog glB 25 takesS.run := by
  have G := good_of (P := Tryd.prog) glB_ro (l := [(26, downS)]) (by simp only [List.forall_mem_cons]; exact ⟨down_sound, by simp⟩)
  refine soundFn_of_W G Tryd.func25 (by decide) rfl (by decide) ?_
  intro ins ret outs h
  unfold takesS at h
  dsimp only at h
  split at h
  rotate_left
  · cases h
  rename_i h0 b m n
  obtain ⟨hl, h'⟩ := chk_some h
  clear h
  cases h'
  obtain ⟨lh, lb⟩ := hl
  refine ⟨by show 1 ≤ 203; decide, fun w0 ext av => ?_⟩
  rw [Tryd.ntmps25, st0_eq]
  repeat' first
    | refine W.seq ?_ | (refine W.regS G ?_; dsimp only) | refine SW.nil ?_ | refine thenQ_normal ?_ | refine W.skip ?_ | refine W.exit ?_ | refine thenQ_exit ?_ | refine inBlockQ_exit ?_ | refine inBlockQ_normal ?_
    | (apply SW.toC; refine SWcall.go True.intro ?_) | (apply SW.toOp; refine SWop.go True.intro ?_) | (apply SW.toCG; first | refine SWcall.yes True.intro ?_ | refine SWcall.no True.intro ?_) | (apply SW.toG; first | refine SWop.yes True.intro ?_ | refine SWop.no True.intro ?_)
  refine W.mid (sL [(0, .p 1000 0 0 0), (2, .p 2 0 0 0)] [(1000, .st [.agg 8 (.u 32 h0), .agg 64 (.u 8 b), .i m, .u 64 n]), (2, .agg 64 (.u 32 (wA b 16)))] 203) ?_ ?_
  · repeat' first
      | refine W.seq ?_ | (refine W.regS G ?_; dsimp only) | refine SW.nil ?_ | refine thenQ_normal ?_ | refine W.skip ?_ | refine W.exit ?_ | refine thenQ_exit ?_ | refine inBlockQ_exit ?_ | refine inBlockQ_normal ?_ | refine W.block ?_
      | (apply SW.toC; refine SWcall.go True.intro ?_) | (apply SW.toOp; refine SWop.go True.intro ?_) | (apply SW.toCG; first | refine SWcall.yes True.intro ?_ | refine SWcall.no True.intro ?_) | (apply SW.toG; first | refine SWop.yes True.intro ?_ | refine SWop.no True.intro ?_)
    refine W.loopI (ι := {i : Nat // i ≤ 16}) (fun i => sL [(0, .p 1000 0 0 0), (2, .p 2 0 0 0), (18, .i i.1)] [(1000, .st [.agg 8 (.u 32 h0), .agg 64 (.u 8 b), .i m, .u 64 n]), (2, .agg 64 (.u 32 (wA b i.1)))] 203) (fun i => 16 - i.1) ⟨0, Nat.zero_le _⟩ (Imp.le ?_) ?_
    · exact sL_leZ True.intro
    rintro ⟨i, hi⟩
    have e : wA b (i + 1) = (wA b i).set i (beF b i) := itN_succ _ _ _
    have hend : i = 16 → wA b 16 = wA b i := by rintro rfl; rfl
    generalize wA b i = w at e hend ⊢
    repeat' first
      | refine W.seq ?_ | (refine W.regS G ?_; dsimp only) | refine SW.nil ?_ | refine thenQ_normal ?_ | refine W.skip ?_ | refine W.exit ?_ | refine thenQ_exit ?_ | refine inBlockQ_exit ?_ | refine inBlockQ_normal ?_ | refine W.block ?_
      | (apply SW.toC; refine SWcall.go True.intro ?_) | (apply SW.toOp; refine SWop.go True.intro ?_) | (apply SW.toCG; first | refine SWcall.yes True.intro ?_ | refine SWcall.no True.intro ?_) | (apply SW.toG; first | refine SWop.yes True.intro ?_ | refine SWop.no True.intro ?_)
    refine W.condZ G True.intro ?_ ?_
    all_goals intro ht
    · have ht' := of_decide_eq_true ht
      have e0 : (4 * (i : Int)) = ((4 * i : Nat) : Int) := by omega
      have e1 : (((4 * i : Nat) : Int) + 1) = ((4 * i + 1 : Nat) : Int) := by omega
      have e2 : (((4 * i : Nat) : Int) + 2) = ((4 * i + 2 : Nat) : Int) := by omega
      have e3 : (((4 * i : Nat) : Int) + 3) = ((4 * i + 3 : Nat) : Int) := by omega
      have hb : beF b i = BitVec.setWidth 32 (b.getD (4 * i) 0) <<< 24 ||| BitVec.setWidth 32 (b.getD (4 * i + 1) 0) <<< 16 ||| BitVec.setWidth 32 (b.getD (4 * i + 2) 0) <<< 8 ||| BitVec.setWidth 32 (b.getD (4 * i + 3) 0) := rfl
      repeat' first
        | refine W.seq ?_ | (refine W.regS G ?_; dsimp only) | refine SW.nil ?_ | refine thenQ_normal ?_ | refine W.skip ?_ | refine W.exit ?_ | refine thenQ_exit ?_ | refine inBlockQ_exit ?_ | refine inBlockQ_normal ?_ | refine W.block ?_
        | (apply SW.toC; refine SWcall.go (And.intro e0 (And.intro e1 (And.intro e2 e3))) ?_) | (apply SW.toOp; refine SWop.go (And.intro e0 (And.intro e1 (And.intro e2 e3))) ?_) | (apply SW.toCG; first | refine SWcall.yes (And.intro e0 (And.intro e1 (And.intro e2 e3))) ?_ | refine SWcall.no (And.intro e0 (And.intro e1 (And.intro e2 e3))) ?_) | (apply SW.toG; first | refine SWop.yes (And.intro e0 (And.intro e1 (And.intro e2 e3))) ?_ | refine SWop.no (And.intro e0 (And.intro e1 (And.intro e2 e3))) ?_)
      refine W.drawS G [[], [], [], [2], [1], [4, 1], [5, 4, 1, 3, 2], [6, 5, 4, 1, 3, 2], [7, 6, 5, 4, 1, 3, 2], [8, 7, 6, 5, 4, 1, 3, 2], [], [], [11], [12, 11], [10], [14, 10], [15, 14, 10, 13, 12, 11], [16, 15, 14, 10, 13, 12, 11], [17, 16, 15, 14, 10, 13, 12, 11], [18, 17, 16, 15, 14, 10, 13, 12, 11], [9, 8, 7, 6, 5, 4, 1, 3, 2, 19, 18, 17, 16, 15, 14, 10, 13, 12, 11], [], [], [22], [23, 22], [21], [25, 21], [26, 25, 21, 24, 23, 22], [27, 26, 25, 21, 24, 23, 22], [28, 27, 26, 25, 21, 24, 23, 22], [29, 28, 27, 26, 25, 21, 24, 23, 22], [20, 9, 8, 7, 6, 5, 4, 1, 3, 2, 19, 18, 17, 16, 15, 14, 10, 13, 12, 11, 30, 29, 28, 27, 26, 25, 21, 24, 23, 22], [], [], [33], [34, 33], [32], [36, 32], [37, 36, 32, 35, 34, 33], [38, 37, 36, 32, 35, 34, 33], [39, 38, 37, 36, 32, 35, 34, 33], [31, 20, 9, 8, 7, 6, 5, 4, 1, 3, 2, 19, 18, 17, 16, 15, 14, 10, 13, 12, 11, 30, 29, 28, 27, 26, 25, 21, 24, 23, 22, 40, 39, 38, 37, 36, 32, 35, 34, 33], [0, 1, 2, 3, 4, 5, 6, 7, 8, 9, 10, 11, 12, 13, 14, 15, 16, 17, 18, 19, 20, 21, 22, 23, 24, 25, 26, 27, 28, 29, 30, 31, 32, 33, 34, 35, 36, 37, 38, 39, 40, 41], [42, 0, 1, 2, 3, 4, 5, 6, 7, 8, 9, 10, 11, 12, 13, 14, 15, 16, 17, 18, 19, 20, 21, 22, 23, 24, 25, 26, 27, 28, 29, 30, 31, 32, 33, 34, 35, 36, 37, 38, 39, 40, 41]] hmix ?_
      dsimp only
      repeat' first
        | (apply DW.nil; (focus (decide +kernel)))
        | (apply DW.toC; refine DWcall.go (And.intro e0 (And.intro e1 (And.intro e2 e3))) ?_) | (apply DW.toOp; refine DWop.go (And.intro e0 (And.intro e1 (And.intro e2 e3))) ?_) | (apply DW.toCG; first | refine DWcall.yes (And.intro e0 (And.intro e1 (And.intro e2 e3))) ?_ | refine DWcall.no (And.intro e0 (And.intro e1 (And.intro e2 e3))) ?_) | (apply DW.toG; first | refine DWop.yes (And.intro e0 (And.intro e1 (And.intro e2 e3))) ?_ | refine DWop.no (And.intro e0 (And.intro e1 (And.intro e2 e3))) ?_)
      repeat' first
        | refine W.seq ?_ | (refine W.regS G ?_; dsimp only) | refine SW.nil ?_ | refine thenQ_normal ?_ | refine W.skip ?_ | refine W.exit ?_ | refine thenQ_exit ?_ | refine inBlockQ_exit ?_ | refine inBlockQ_normal ?_ | refine W.block ?_
        | (apply SW.toC; refine SWcall.go (And.intro e0 (And.intro e1 (And.intro e2 e3))) ?_) | (apply SW.toOp; refine SWop.go (And.intro e0 (And.intro e1 (And.intro e2 e3))) ?_) | (apply SW.toCG; first | refine SWcall.yes (And.intro e0 (And.intro e1 (And.intro e2 e3))) ?_ | refine SWcall.no (And.intro e0 (And.intro e1 (And.intro e2 e3))) ?_) | (apply SW.toG; first | refine SWop.yes (And.intro e0 (And.intro e1 (And.intro e2 e3))) ?_ | refine SWop.no (And.intro e0 (And.intro e1 (And.intro e2 e3))) ?_)
      refine ⟨⟨i + 1, by omega⟩, Imp.le ?_, by show _ - (i + 1) < _ - i; omega⟩
      exact sL_leZ (And.intro e (And.intro hb (And.intro e0 (And.intro e1 (And.intro e2 e3)))))
    have ht' := of_decide_eq_false ht
    obtain rfl : i = 16 := by omega
    have hh := hend rfl
    repeat' first
      | refine W.seq ?_ | (refine W.regS G ?_; dsimp only) | refine SW.nil ?_ | refine thenQ_normal ?_ | refine W.skip ?_ | refine W.exit ?_ | refine thenQ_exit ?_ | refine inBlockQ_exit ?_ | refine inBlockQ_normal ?_ | refine W.block ?_
      | (apply SW.toC; refine SWcall.go True.intro ?_) | (apply SW.toOp; refine SWop.go True.intro ?_) | (apply SW.toCG; first | refine SWcall.yes True.intro ?_ | refine SWcall.no True.intro ?_) | (apply SW.toG; first | refine SWop.yes True.intro ?_ | refine SWop.no True.intro ?_)
    refine Imp.le ?_
    exact sL_leZ hh
  have hT : takesF h0 b = hAdd (itN (vF (wB 48 (wA b 16))) 64 h0) 8 h0 := rfl
  generalize wA b 16 = w0' at hT ⊢
  repeat' first
    | refine W.seq ?_ | (refine W.regS G ?_; dsimp only) | refine SW.nil ?_ | refine thenQ_normal ?_ | refine W.skip ?_ | refine W.exit ?_ | refine thenQ_exit ?_ | refine inBlockQ_exit ?_ | refine inBlockQ_normal ?_
    | (apply SW.toC; refine SWcall.go True.intro ?_) | (apply SW.toOp; refine SWop.go True.intro ?_) | (apply SW.toCG; first | refine SWcall.yes True.intro ?_ | refine SWcall.no True.intro ?_) | (apply SW.toG; first | refine SWop.yes True.intro ?_ | refine SWop.no True.intro ?_)
  refine W.mid (sL [(0, .p 1000 0 0 0), (2, .p 2 0 0 0)] [(1000, .st [.agg 8 (.u 32 h0), .agg 64 (.u 8 b), .i m, .u 64 n]), (2, .agg 64 (.u 32 (wB 48 w0')))] 203) ?_ ?_
  · repeat' first
      | refine W.seq ?_ | (refine W.regS G ?_; dsimp only) | refine SW.nil ?_ | refine thenQ_normal ?_ | refine W.skip ?_ | refine W.exit ?_ | refine thenQ_exit ?_ | refine inBlockQ_exit ?_ | refine inBlockQ_normal ?_ | refine W.block ?_
      | (apply SW.toC; refine SWcall.go True.intro ?_) | (apply SW.toOp; refine SWop.go True.intro ?_) | (apply SW.toCG; first | refine SWcall.yes True.intro ?_ | refine SWcall.no True.intro ?_) | (apply SW.toG; first | refine SWop.yes True.intro ?_ | refine SWop.no True.intro ?_)
    refine W.loopI (ι := {j : Nat // j ≤ 48}) (fun j => sL [(0, .p 1000 0 0 0), (2, .p 2 0 0 0), (4, .i ((16 + j.1 : Nat) : Int))] [(1000, .st [.agg 8 (.u 32 h0), .agg 64 (.u 8 b), .i m, .u 64 n]), (2, .agg 64 (.u 32 (wB j.1 w0')))] 203) (fun j => 48 - j.1) ⟨0, Nat.zero_le _⟩ (Imp.le ?_) ?_
    · exact sL_leZ True.intro
    rintro ⟨j, hj⟩
    have e : wB (j + 1) w0' = (wB j w0').set (16 + j) (wN (wB j w0') j) := itN_succ _ _ _
    have hend : j = 48 → wB 48 w0' = wB j w0' := by rintro rfl; rfl
    generalize wB j w0' = w at e hend ⊢
    repeat' first
      | refine W.seq ?_ | (refine W.regS G ?_; dsimp only) | refine SW.nil ?_ | refine thenQ_normal ?_ | refine W.skip ?_ | refine W.exit ?_ | refine thenQ_exit ?_ | refine inBlockQ_exit ?_ | refine inBlockQ_normal ?_ | refine W.block ?_
      | (apply SW.toC; refine SWcall.go True.intro ?_) | (apply SW.toOp; refine SWop.go True.intro ?_) | (apply SW.toCG; first | refine SWcall.yes True.intro ?_ | refine SWcall.no True.intro ?_) | (apply SW.toG; first | refine SWop.yes True.intro ?_ | refine SWop.no True.intro ?_)
    refine W.condZ G True.intro ?_ ?_
    all_goals intro ht
    · have ht' := of_decide_eq_true ht
      have e0 : (((16 + j : Nat) : Int) - 15) = ((j + 1 : Nat) : Int) := by omega
      have e1 : (((16 + j : Nat) : Int) - 2) = ((j + 14 : Nat) : Int) := by omega
      have e2 : (((16 + j : Nat) : Int) - 16) = ((j : Nat) : Int) := by omega
      have e3 : (((16 + j : Nat) : Int) - 7) = ((j + 9 : Nat) : Int) := by omega
      have hb : wN w j = w.getD j 0 + w.getD (j + 9) 0 + (downF (w.getD (j + 1) 0) 7 ^^^ downF (w.getD (j + 1) 0) 18 ^^^ w.getD (j + 1) 0 >>> 3) + (downF (w.getD (j + 14) 0) 17 ^^^ downF (w.getD (j + 14) 0) 19 ^^^ w.getD (j + 14) 0 >>> 10) := rfl
      repeat' first
        | refine W.seq ?_ | (refine W.regS G ?_; dsimp only) | refine SW.nil ?_ | refine thenQ_normal ?_ | refine W.skip ?_ | refine W.exit ?_ | refine thenQ_exit ?_ | refine inBlockQ_exit ?_ | refine inBlockQ_normal ?_
        | (apply SW.toC; refine SWcall.go (And.intro e0 (And.intro e1 (And.intro e2 (And.intro e3 downS.eq_1)))) ?_) | (apply SW.toOp; refine SWop.go (And.intro e0 (And.intro e1 (And.intro e2 (And.intro e3 downS.eq_1)))) ?_) | (apply SW.toCG; first | refine SWcall.yes (And.intro e0 (And.intro e1 (And.intro e2 (And.intro e3 downS.eq_1)))) ?_ | refine SWcall.no (And.intro e0 (And.intro e1 (And.intro e2 (And.intro e3 downS.eq_1)))) ?_) | (apply SW.toG; first | refine SWop.yes (And.intro e0 (And.intro e1 (And.intro e2 (And.intro e3 downS.eq_1)))) ?_ | refine SWop.no (And.intro e0 (And.intro e1 (And.intro e2 (And.intro e3 downS.eq_1)))) ?_)
      refine W.block ?_
      repeat' first
        | refine W.seq ?_ | (refine W.regS G ?_; dsimp only) | refine SW.nil ?_ | refine thenQ_normal ?_ | refine W.skip ?_ | refine W.exit ?_ | refine thenQ_exit ?_ | refine inBlockQ_exit ?_ | refine inBlockQ_normal ?_
        | (apply SW.toC; refine SWcall.go (And.intro e0 (And.intro e1 (And.intro e2 (And.intro e3 downS.eq_1)))) ?_) | (apply SW.toOp; refine SWop.go (And.intro e0 (And.intro e1 (And.intro e2 (And.intro e3 downS.eq_1)))) ?_) | (apply SW.toCG; first | refine SWcall.yes (And.intro e0 (And.intro e1 (And.intro e2 (And.intro e3 downS.eq_1)))) ?_ | refine SWcall.no (And.intro e0 (And.intro e1 (And.intro e2 (And.intro e3 downS.eq_1)))) ?_) | (apply SW.toG; first | refine SWop.yes (And.intro e0 (And.intro e1 (And.intro e2 (And.intro e3 downS.eq_1)))) ?_ | refine SWop.no (And.intro e0 (And.intro e1 (And.intro e2 (And.intro e3 downS.eq_1)))) ?_)
      refine W.drawS G [[], [0], [1, 0], [2, 1, 0], [], [4], [5, 4], [6, 5, 4], [3, 2, 1, 0], [7, 6, 5, 4, 8, 3, 2, 1, 0]] hmix ?_
      dsimp only
      repeat' first
        | (apply DW.nil; (focus (decide +kernel)))
        | (apply DW.toC; refine DWcall.go (And.intro e0 (And.intro e1 (And.intro e2 (And.intro e3 downS.eq_1)))) ?_) | (apply DW.toOp; refine DWop.go (And.intro e0 (And.intro e1 (And.intro e2 (And.intro e3 downS.eq_1)))) ?_) | (apply DW.toCG; first | refine DWcall.yes (And.intro e0 (And.intro e1 (And.intro e2 (And.intro e3 downS.eq_1)))) ?_ | refine DWcall.no (And.intro e0 (And.intro e1 (And.intro e2 (And.intro e3 downS.eq_1)))) ?_) | (apply DW.toG; first | refine DWop.yes (And.intro e0 (And.intro e1 (And.intro e2 (And.intro e3 downS.eq_1)))) ?_ | refine DWop.no (And.intro e0 (And.intro e1 (And.intro e2 (And.intro e3 downS.eq_1)))) ?_)
      repeat' first
        | refine W.seq ?_ | (refine W.regS G ?_; dsimp only) | refine SW.nil ?_ | refine thenQ_normal ?_ | refine W.skip ?_ | refine W.exit ?_ | refine thenQ_exit ?_ | refine inBlockQ_exit ?_ | refine inBlockQ_normal ?_
        | (apply SW.toC; refine SWcall.go (And.intro e0 (And.intro e1 (And.intro e2 (And.intro e3 downS.eq_1)))) ?_) | (apply SW.toOp; refine SWop.go (And.intro e0 (And.intro e1 (And.intro e2 (And.intro e3 downS.eq_1)))) ?_) | (apply SW.toCG; first | refine SWcall.yes (And.intro e0 (And.intro e1 (And.intro e2 (And.intro e3 downS.eq_1)))) ?_ | refine SWcall.no (And.intro e0 (And.intro e1 (And.intro e2 (And.intro e3 downS.eq_1)))) ?_) | (apply SW.toG; first | refine SWop.yes (And.intro e0 (And.intro e1 (And.intro e2 (And.intro e3 downS.eq_1)))) ?_ | refine SWop.no (And.intro e0 (And.intro e1 (And.intro e2 (And.intro e3 downS.eq_1)))) ?_)
      refine W.drawS G [[], [], [1], [2, 1], [3, 2, 1], [], [5], [6, 5], [7, 6, 5], [4, 3, 2, 1, 8, 7, 6, 5], [], [10], [], [12, 11, 10], [11, 10, 13, 12], [], [15], [14, 11, 10, 13, 12, 16, 15], [9, 4, 3, 2, 1, 8, 7, 6, 5, 17, 14, 11, 10, 13, 12, 16, 15], [], [19, 13, 12, 11, 10], [], [21, 20, 19, 13, 12, 11, 10], [20, 19, 13, 12, 11, 10, 22, 21], [], [24], [23, 20, 19, 13, 12, 11, 10, 22, 21, 25, 24], [18, 9, 4, 3, 2, 1, 8, 7, 6, 5, 17, 14, 11, 10, 13, 12, 16, 15, 26, 23, 20, 19, 22, 21, 25, 24], [0, 1, 2, 3, 4, 5, 6, 7, 8, 9, 10, 11, 12, 13, 14, 15, 16, 17, 18, 19, 20, 21, 22, 23, 24, 25, 26, 27], [28, 0, 1, 2, 3, 4, 5, 6, 7, 8, 9, 10, 11, 12, 13, 14, 15, 16, 17, 18, 19, 20, 21, 22, 23, 24, 25, 26, 27]] hmix ?_
      dsimp only
      repeat' first
        | (apply DW.nil; (focus (decide +kernel)))
        | (apply DW.toC; refine DWcall.go (And.intro e0 (And.intro e1 (And.intro e2 (And.intro e3 downS.eq_1)))) ?_) | (apply DW.toOp; refine DWop.go (And.intro e0 (And.intro e1 (And.intro e2 (And.intro e3 downS.eq_1)))) ?_) | (apply DW.toCG; first | refine DWcall.yes (And.intro e0 (And.intro e1 (And.intro e2 (And.intro e3 downS.eq_1)))) ?_ | refine DWcall.no (And.intro e0 (And.intro e1 (And.intro e2 (And.intro e3 downS.eq_1)))) ?_) | (apply DW.toG; first | refine DWop.yes (And.intro e0 (And.intro e1 (And.intro e2 (And.intro e3 downS.eq_1)))) ?_ | refine DWop.no (And.intro e0 (And.intro e1 (And.intro e2 (And.intro e3 downS.eq_1)))) ?_)
      repeat' first
        | refine W.seq ?_ | (refine W.regS G ?_; dsimp only) | refine SW.nil ?_ | refine thenQ_normal ?_ | refine W.skip ?_ | refine W.exit ?_ | refine thenQ_exit ?_ | refine inBlockQ_exit ?_ | refine inBlockQ_normal ?_ | refine W.block ?_
        | (apply SW.toC; refine SWcall.go (And.intro e0 (And.intro e1 (And.intro e2 (And.intro e3 downS.eq_1)))) ?_) | (apply SW.toOp; refine SWop.go (And.intro e0 (And.intro e1 (And.intro e2 (And.intro e3 downS.eq_1)))) ?_) | (apply SW.toCG; first | refine SWcall.yes (And.intro e0 (And.intro e1 (And.intro e2 (And.intro e3 downS.eq_1)))) ?_ | refine SWcall.no (And.intro e0 (And.intro e1 (And.intro e2 (And.intro e3 downS.eq_1)))) ?_) | (apply SW.toG; first | refine SWop.yes (And.intro e0 (And.intro e1 (And.intro e2 (And.intro e3 downS.eq_1)))) ?_ | refine SWop.no (And.intro e0 (And.intro e1 (And.intro e2 (And.intro e3 downS.eq_1)))) ?_)
      refine ⟨⟨j + 1, by omega⟩, Imp.le ?_, by show _ - (j + 1) < _ - j; omega⟩
      exact sL_leZ (And.intro e (And.intro hb (And.intro e0 (And.intro e1 (And.intro e2 (And.intro e3 downS.eq_1))))))
    have ht' := of_decide_eq_false ht
    obtain rfl : j = 48 := by omega
    have hh := hend rfl
    repeat' first
      | refine W.seq ?_ | (refine W.regS G ?_; dsimp only) | refine SW.nil ?_ | refine thenQ_normal ?_ | refine W.skip ?_ | refine W.exit ?_ | refine thenQ_exit ?_ | refine inBlockQ_exit ?_ | refine inBlockQ_normal ?_ | refine W.block ?_
      | (apply SW.toC; refine SWcall.go True.intro ?_) | (apply SW.toOp; refine SWop.go True.intro ?_) | (apply SW.toCG; first | refine SWcall.yes True.intro ?_ | refine SWcall.no True.intro ?_) | (apply SW.toG; first | refine SWop.yes True.intro ?_ | refine SWop.no True.intro ?_)
    refine Imp.le ?_
    exact sL_leZ hh
  generalize wB 48 w0' = w at hT ⊢
  repeat' first
    | refine W.seq ?_ | (refine W.regS G ?_; dsimp only) | refine SW.nil ?_ | refine thenQ_normal ?_ | refine W.skip ?_ | refine W.exit ?_ | refine thenQ_exit ?_ | refine inBlockQ_exit ?_ | refine inBlockQ_normal ?_
    | (apply SW.toC; refine SWcall.go True.intro ?_) | (apply SW.toOp; refine SWop.go True.intro ?_) | (apply SW.toCG; first | refine SWcall.yes True.intro ?_ | refine SWcall.no True.intro ?_) | (apply SW.toG; first | refine SWop.yes True.intro ?_ | refine SWop.no True.intro ?_)
  refine W.mid (sL [(0, .p 1000 0 0 0), (7, .p 7 0 0 0)] [(1000, .st [.agg 8 (.u 32 h0), .agg 64 (.u 8 b), .i m, .u 64 n]), (7, .agg 8 (.u 32 (itN (vF w) 64 h0)))] 203) ?_ ?_
  · repeat' first
      | refine W.seq ?_ | (refine W.regS G ?_; dsimp only) | refine SW.nil ?_ | refine thenQ_normal ?_ | refine W.skip ?_ | refine W.exit ?_ | refine thenQ_exit ?_ | refine inBlockQ_exit ?_ | refine inBlockQ_normal ?_ | refine W.block ?_
      | (apply SW.toC; refine SWcall.go True.intro ?_) | (apply SW.toOp; refine SWop.go True.intro ?_) | (apply SW.toCG; first | refine SWcall.yes True.intro ?_ | refine SWcall.no True.intro ?_) | (apply SW.toG; first | refine SWop.yes True.intro ?_ | refine SWop.no True.intro ?_)
    refine W.loopI (ι := {i : Nat // i ≤ 64}) (fun i => sL [(0, .p 1000 0 0 0), (2, .p 2 0 0 0), (7, .p 7 0 0 0), (110, .i i.1)] [(1000, .st [.agg 8 (.u 32 h0), .agg 64 (.u 8 b), .i m, .u 64 n]), (2, .agg 64 (.u 32 w)), (7, .agg 8 (.u 32 (itN (vF w) i.1 h0)))] 203) (fun i => 64 - i.1) ⟨0, Nat.zero_le _⟩ (Imp.le ?_) ?_
    · exact sL_leZ True.intro
    rintro ⟨i, hi⟩
    have e : itN (vF w) (i + 1) h0 = vF w i (itN (vF w) i h0) := itN_succ _ _ _
    have hend : i = 64 → itN (vF w) 64 h0 = itN (vF w) i h0 := by rintro rfl; rfl
    have lv := vTo_len w i h0 lh
    generalize itN (vF w) i h0 = v at e hend lv ⊢
    repeat' first
      | refine W.seq ?_ | (refine W.regS G ?_; dsimp only) | refine SW.nil ?_ | refine thenQ_normal ?_ | refine W.skip ?_ | refine W.exit ?_ | refine thenQ_exit ?_ | refine inBlockQ_exit ?_ | refine inBlockQ_normal ?_ | refine W.block ?_
      | (apply SW.toC; refine SWcall.go True.intro ?_) | (apply SW.toOp; refine SWop.go True.intro ?_) | (apply SW.toCG; first | refine SWcall.yes True.intro ?_ | refine SWcall.no True.intro ?_) | (apply SW.toG; first | refine SWop.yes True.intro ?_ | refine SWop.no True.intro ?_)
    refine W.condZ G True.intro ?_ ?_
    all_goals intro ht
    · have ht' := of_decide_eq_true ht
      have hb : vF w i v = ((splL v 1 (subL v 0 7)).set 4 ((splL v 1 (subL v 0 7)).getD 4 0 + tF w i v)).set 0 (tF w i v + uF v) := rfl
      have ht2 : tF w i v = v.getD 7 0 + (downF (v.getD 4 0) 6 ^^^ downF (v.getD 4 0) 11 ^^^ downF (v.getD 4 0) 25) + (v.getD 4 0 &&& v.getD 5 0 ^^^ ~~~ v.getD 4 0 &&& v.getD 6 0) + kB.getD i 0 + w.getD i 0 := rfl
      have hu2 : uF v = (downF (v.getD 0 0) 2 ^^^ downF (v.getD 0 0) 13 ^^^ downF (v.getD 0 0) 22) + (v.getD 0 0 &&& v.getD 1 0 ^^^ v.getD 0 0 &&& v.getD 2 0 ^^^ v.getD 1 0 &&& v.getD 2 0) := rfl
      repeat' first
        | refine W.seq ?_ | (refine W.regS G ?_; dsimp only) | refine SW.nil ?_ | refine thenQ_normal ?_ | refine W.skip ?_ | refine W.exit ?_ | refine thenQ_exit ?_ | refine inBlockQ_exit ?_ | refine inBlockQ_normal ?_
        | (apply SW.toC; refine SWcall.go (And.intro downS.eq_1 (And.intro glB1 (And.intro kB_len lv))) ?_) | (apply SW.toOp; refine SWop.go (And.intro downS.eq_1 (And.intro glB1 (And.intro kB_len lv))) ?_) | (apply SW.toCG; first | refine SWcall.yes (And.intro downS.eq_1 (And.intro glB1 (And.intro kB_len lv))) ?_ | refine SWcall.no (And.intro downS.eq_1 (And.intro glB1 (And.intro kB_len lv))) ?_) | (apply SW.toG; first | refine SWop.yes (And.intro downS.eq_1 (And.intro glB1 (And.intro kB_len lv))) ?_ | refine SWop.no (And.intro downS.eq_1 (And.intro glB1 (And.intro kB_len lv))) ?_)
      refine W.block ?_
      repeat' first
        | refine W.seq ?_ | (refine W.regS G ?_; dsimp only) | refine SW.nil ?_ | refine thenQ_normal ?_ | refine W.skip ?_ | refine W.exit ?_ | refine thenQ_exit ?_ | refine inBlockQ_exit ?_ | refine inBlockQ_normal ?_
        | (apply SW.toC; refine SWcall.go (And.intro downS.eq_1 (And.intro glB1 (And.intro kB_len lv))) ?_) | (apply SW.toOp; refine SWop.go (And.intro downS.eq_1 (And.intro glB1 (And.intro kB_len lv))) ?_) | (apply SW.toCG; first | refine SWcall.yes (And.intro downS.eq_1 (And.intro glB1 (And.intro kB_len lv))) ?_ | refine SWcall.no (And.intro downS.eq_1 (And.intro glB1 (And.intro kB_len lv))) ?_) | (apply SW.toG; first | refine SWop.yes (And.intro downS.eq_1 (And.intro glB1 (And.intro kB_len lv))) ?_ | refine SWop.no (And.intro downS.eq_1 (And.intro glB1 (And.intro kB_len lv))) ?_)
      refine W.drawS G [[], [0], [], [2], [], [4], [], [6], [], [8], [], [10], [1, 0], [3, 2, 12, 1, 0], [5, 4, 13, 3, 2, 12, 1, 0], [7, 6, 14, 5, 4, 13, 3, 2, 12, 1, 0], [9, 8, 15, 7, 6, 14, 5, 4, 13, 3, 2, 12, 1, 0], [11, 10, 16, 9, 8, 15, 7, 6, 14, 5, 4, 13, 3, 2, 12, 1, 0]] hmix ?_
      dsimp only
      repeat' first
        | (apply DW.nil; (focus (decide +kernel)))
        | (apply DW.toC; refine DWcall.go (And.intro downS.eq_1 (And.intro glB1 (And.intro kB_len lv))) ?_) | (apply DW.toOp; refine DWop.go (And.intro downS.eq_1 (And.intro glB1 (And.intro kB_len lv))) ?_) | (apply DW.toCG; first | refine DWcall.yes (And.intro downS.eq_1 (And.intro glB1 (And.intro kB_len lv))) ?_ | refine DWcall.no (And.intro downS.eq_1 (And.intro glB1 (And.intro kB_len lv))) ?_) | (apply DW.toG; first | refine DWop.yes (And.intro downS.eq_1 (And.intro glB1 (And.intro kB_len lv))) ?_ | refine DWop.no (And.intro downS.eq_1 (And.intro glB1 (And.intro kB_len lv))) ?_)
      repeat' first
        | refine W.seq ?_ | (refine W.regS G ?_; dsimp only) | refine SW.nil ?_ | refine thenQ_normal ?_ | refine W.skip ?_ | refine W.exit ?_ | refine thenQ_exit ?_ | refine inBlockQ_exit ?_ | refine inBlockQ_normal ?_
        | (apply SW.toC; refine SWcall.go (And.intro downS.eq_1 (And.intro glB1 (And.intro kB_len lv))) ?_) | (apply SW.toOp; refine SWop.go (And.intro downS.eq_1 (And.intro glB1 (And.intro kB_len lv))) ?_) | (apply SW.toCG; first | refine SWcall.yes (And.intro downS.eq_1 (And.intro glB1 (And.intro kB_len lv))) ?_ | refine SWcall.no (And.intro downS.eq_1 (And.intro glB1 (And.intro kB_len lv))) ?_) | (apply SW.toG; first | refine SWop.yes (And.intro downS.eq_1 (And.intro glB1 (And.intro kB_len lv))) ?_ | refine SWop.no (And.intro downS.eq_1 (And.intro glB1 (And.intro kB_len lv))) ?_)
      refine W.drawS G [[], [0], [], [2], [], [4, 3, 2], [3, 2, 5, 4], [], [7, 5, 4, 3, 2], [6, 3, 2, 5, 4, 8, 7], [1, 0, 9, 6, 3, 2, 5, 4, 8, 7], [], [], [11, 12], [], [14], [], [15, 14, 16], [13, 11, 12, 17, 15, 14, 16], [10, 1, 0, 9, 6, 3, 2, 5, 4, 8, 7, 18, 13, 11, 12, 17, 15, 14, 16], [], [20], [21, 20], [19, 10, 1, 0, 9, 6, 3, 2, 5, 4, 8, 7, 18, 13, 11, 12, 17, 15, 14, 16, 22, 21, 20], [], [24], [25, 24], [23, 19, 10, 1, 0, 9, 6, 3, 2, 5, 4, 8, 7, 18, 13, 11, 12, 17, 15, 14, 16, 22, 21, 20, 26, 25, 24], [27, 23, 19, 10, 1, 0, 9, 6, 3, 2, 5, 4, 8, 7, 18, 13, 11, 12, 17, 15, 14, 16, 22, 21, 20, 26, 25, 24]] hmix ?_
      dsimp only
      repeat' first
        | (apply DW.nil; (focus (decide +kernel)))
        | (apply DW.toC; refine DWcall.go (And.intro downS.eq_1 (And.intro glB1 (And.intro kB_len lv))) ?_) | (apply DW.toOp; refine DWop.go (And.intro downS.eq_1 (And.intro glB1 (And.intro kB_len lv))) ?_) | (apply DW.toCG; first | refine DWcall.yes (And.intro downS.eq_1 (And.intro glB1 (And.intro kB_len lv))) ?_ | refine DWcall.no (And.intro downS.eq_1 (And.intro glB1 (And.intro kB_len lv))) ?_) | (apply DW.toG; first | refine DWop.yes (And.intro downS.eq_1 (And.intro glB1 (And.intro kB_len lv))) ?_ | refine DWop.no (And.intro downS.eq_1 (And.intro glB1 (And.intro kB_len lv))) ?_)
      repeat' first
        | refine W.seq ?_ | (refine W.regS G ?_; dsimp only) | refine SW.nil ?_ | refine thenQ_normal ?_ | refine W.skip ?_ | refine W.exit ?_ | refine thenQ_exit ?_ | refine inBlockQ_exit ?_ | refine inBlockQ_normal ?_
        | (apply SW.toC; refine SWcall.go (And.intro downS.eq_1 (And.intro glB1 (And.intro kB_len lv))) ?_) | (apply SW.toOp; refine SWop.go (And.intro downS.eq_1 (And.intro glB1 (And.intro kB_len lv))) ?_) | (apply SW.toCG; first | refine SWcall.yes (And.intro downS.eq_1 (And.intro glB1 (And.intro kB_len lv))) ?_ | refine SWcall.no (And.intro downS.eq_1 (And.intro glB1 (And.intro kB_len lv))) ?_) | (apply SW.toG; first | refine SWop.yes (And.intro downS.eq_1 (And.intro glB1 (And.intro kB_len lv))) ?_ | refine SWop.no (And.intro downS.eq_1 (And.intro glB1 (And.intro kB_len lv))) ?_)
      refine W.drawS G [[], [], [0, 1]] hmix ?_
      dsimp only
      repeat' first
        | (apply DW.nil; (focus (decide +kernel)))
        | (apply DW.toC; refine DWcall.go (And.intro downS.eq_1 (And.intro glB1 (And.intro kB_len lv))) ?_) | (apply DW.toOp; refine DWop.go (And.intro downS.eq_1 (And.intro glB1 (And.intro kB_len lv))) ?_) | (apply DW.toCG; first | refine DWcall.yes (And.intro downS.eq_1 (And.intro glB1 (And.intro kB_len lv))) ?_ | refine DWcall.no (And.intro downS.eq_1 (And.intro glB1 (And.intro kB_len lv))) ?_) | (apply DW.toG; first | refine DWop.yes (And.intro downS.eq_1 (And.intro glB1 (And.intro kB_len lv))) ?_ | refine DWop.no (And.intro downS.eq_1 (And.intro glB1 (And.intro kB_len lv))) ?_)
      repeat' first
        | refine W.seq ?_ | (refine W.regS G ?_; dsimp only) | refine SW.nil ?_ | refine thenQ_normal ?_ | refine W.skip ?_ | refine W.exit ?_ | refine thenQ_exit ?_ | refine inBlockQ_exit ?_ | refine inBlockQ_normal ?_ | refine W.block ?_
        | (apply SW.toC; refine SWcall.go (And.intro downS.eq_1 (And.intro glB1 (And.intro kB_len lv))) ?_) | (apply SW.toOp; refine SWop.go (And.intro downS.eq_1 (And.intro glB1 (And.intro kB_len lv))) ?_) | (apply SW.toCG; first | refine SWcall.yes (And.intro downS.eq_1 (And.intro glB1 (And.intro kB_len lv))) ?_ | refine SWcall.no (And.intro downS.eq_1 (And.intro glB1 (And.intro kB_len lv))) ?_) | (apply SW.toG; first | refine SWop.yes (And.intro downS.eq_1 (And.intro glB1 (And.intro kB_len lv))) ?_ | refine SWop.no (And.intro downS.eq_1 (And.intro glB1 (And.intro kB_len lv))) ?_)
      refine ⟨⟨i + 1, by omega⟩, Imp.le ?_, by show _ - (i + 1) < _ - i; omega⟩
      exact sL_leZ (And.intro e (And.intro hb (And.intro ht2 (And.intro hu2 (And.intro lv (And.intro downS.eq_1 (And.intro glB1 (And.intro kB_len lv))))))))
    have ht' := of_decide_eq_false ht
    obtain rfl : i = 64 := by omega
    have hh := hend rfl
    repeat' first
      | refine W.seq ?_ | (refine W.regS G ?_; dsimp only) | refine SW.nil ?_ | refine thenQ_normal ?_ | refine W.skip ?_ | refine W.exit ?_ | refine thenQ_exit ?_ | refine inBlockQ_exit ?_ | refine inBlockQ_normal ?_ | refine W.block ?_
      | (apply SW.toC; refine SWcall.go True.intro ?_) | (apply SW.toOp; refine SWop.go True.intro ?_) | (apply SW.toCG; first | refine SWcall.yes True.intro ?_ | refine SWcall.no True.intro ?_) | (apply SW.toG; first | refine SWop.yes True.intro ?_ | refine SWop.no True.intro ?_)
    refine Imp.le ?_
    exact sL_leZ hh
  generalize itN (vF w) 64 h0 = v at hT ⊢
  repeat' first
    | refine W.seq ?_ | (refine W.regS G ?_; dsimp only) | refine SW.nil ?_ | refine thenQ_normal ?_ | refine W.skip ?_ | refine W.exit ?_ | refine thenQ_exit ?_ | refine inBlockQ_exit ?_ | refine inBlockQ_normal ?_ | refine W.block ?_
    | (apply SW.toC; refine SWcall.go True.intro ?_) | (apply SW.toOp; refine SWop.go True.intro ?_) | (apply SW.toCG; first | refine SWcall.yes True.intro ?_ | refine SWcall.no True.intro ?_) | (apply SW.toG; first | refine SWop.yes True.intro ?_ | refine SWop.no True.intro ?_)
  refine W.loopI (ι := {i : Nat // i ≤ 8}) (fun i => sL [(0, .p 1000 0 0 0), (7, .p 7 0 0 0), (186, .i i.1)] [(1000, .st [.agg 8 (.u 32 (hAdd v i.1 h0)), .agg 64 (.u 8 b), .i m, .u 64 n]), (7, .agg 8 (.u 32 v))] 203) (fun i => 8 - i.1) ⟨0, Nat.zero_le _⟩ (Imp.le ?_) ?_
  · exact sL_leZ True.intro
  rintro ⟨i, hi⟩
  have e : hAdd v (i + 1) h0 = (hAdd v i h0).set i ((hAdd v i h0).getD i 0 + v.getD i 0) := itN_succ _ _ _
  have hend : i = 8 → hAdd v 8 h0 = hAdd v i h0 := by rintro rfl; rfl
  generalize hAdd v i h0 = q at e hend ⊢
  repeat' first
    | refine W.seq ?_ | (refine W.regS G ?_; dsimp only) | refine SW.nil ?_ | refine thenQ_normal ?_ | refine W.skip ?_ | refine W.exit ?_ | refine thenQ_exit ?_ | refine inBlockQ_exit ?_ | refine inBlockQ_normal ?_ | refine W.block ?_
    | (apply SW.toC; refine SWcall.go True.intro ?_) | (apply SW.toOp; refine SWop.go True.intro ?_) | (apply SW.toCG; first | refine SWcall.yes True.intro ?_ | refine SWcall.no True.intro ?_) | (apply SW.toG; first | refine SWop.yes True.intro ?_ | refine SWop.no True.intro ?_)
  refine W.condZ G True.intro ?_ ?_
  all_goals intro ht
  · have ht' := of_decide_eq_true ht
    repeat' first
      | refine W.seq ?_ | (refine W.regS G ?_; dsimp only) | refine SW.nil ?_ | refine thenQ_normal ?_ | refine W.skip ?_ | refine W.exit ?_ | refine thenQ_exit ?_ | refine inBlockQ_exit ?_ | refine inBlockQ_normal ?_ | refine W.block ?_
      | (apply SW.toC; refine SWcall.go True.intro ?_) | (apply SW.toOp; refine SWop.go True.intro ?_) | (apply SW.toCG; first | refine SWcall.yes True.intro ?_ | refine SWcall.no True.intro ?_) | (apply SW.toG; first | refine SWop.yes True.intro ?_ | refine SWop.no True.intro ?_)
    refine W.drawS G [[], [], [0], [2, 0], [3, 2, 0, 1], [4, 3, 2, 0, 1], [], [6], [7, 6], [5, 4, 3, 2, 0, 1, 8, 7, 6], [0], [10, 0], [11, 10, 0, 1, 2, 3, 4, 5, 6, 7, 8, 9], [12, 11, 10, 0, 1, 2, 3, 4, 5, 6, 7, 8, 9]] hmix ?_
    dsimp only
    repeat' first
      | (apply DW.nil; (focus (decide +kernel)))
      | (apply DW.toC; refine DWcall.go True.intro ?_) | (apply DW.toOp; refine DWop.go True.intro ?_) | (apply DW.toCG; first | refine DWcall.yes True.intro ?_ | refine DWcall.no True.intro ?_) | (apply DW.toG; first | refine DWop.yes True.intro ?_ | refine DWop.no True.intro ?_)
    repeat' first
      | refine W.seq ?_ | (refine W.regS G ?_; dsimp only) | refine SW.nil ?_ | refine thenQ_normal ?_ | refine W.skip ?_ | refine W.exit ?_ | refine thenQ_exit ?_ | refine inBlockQ_exit ?_ | refine inBlockQ_normal ?_ | refine W.block ?_
      | (apply SW.toC; refine SWcall.go True.intro ?_) | (apply SW.toOp; refine SWop.go True.intro ?_) | (apply SW.toCG; first | refine SWcall.yes True.intro ?_ | refine SWcall.no True.intro ?_) | (apply SW.toG; first | refine SWop.yes True.intro ?_ | refine SWop.no True.intro ?_)
    refine ⟨⟨i + 1, by omega⟩, Imp.le ?_, by show _ - (i + 1) < _ - i; omega⟩
    exact sL_leZ e
  have ht' := of_decide_eq_false ht
  obtain rfl : i = 8 := by omega
  have hh := hend rfl
  repeat' first
    | refine W.seq ?_ | (refine W.regS G ?_; dsimp only) | refine SW.nil ?_ | refine thenQ_normal ?_ | refine W.skip ?_ | refine W.exit ?_ | refine thenQ_exit ?_ | refine inBlockQ_exit ?_ | refine inBlockQ_normal ?_ | refine W.block ?_
    | (apply SW.toC; refine SWcall.go True.intro ?_) | (apply SW.toOp; refine SWop.go True.intro ?_) | (apply SW.toCG; first | refine SWcall.yes True.intro ?_ | refine SWcall.no True.intro ?_) | (apply SW.toG; first | refine SWop.yes True.intro ?_ | refine SWop.no True.intro ?_)
  rw [hT, hh]
  exact fin0Z True.intro
end Go.Vm.C04

/- What some functions of the program compute, walked through once. -/
import Derived.Test.YthhabhaljdcgpaaDoorCF
namespace Go.Vm.C06
open Go Go.Proofs
set_option linter.unusedVariables false
set_option linter.unusedSimpArgs false
set_option maxRecDepth 100000
set_option maxHeartbeats 8000000

/-! ### the program's variables -/
def begunB : List (BitVec 64) := [7640891576956012808, 13503953896175478587, 4354685564936845355, 11912009170470909681, 5840696475078001361, 11170449401992604703, 2270897969802886507, 6620516959819538809]
def rowsB : List Int := [0, 1, 2, 3, 4, 5, 6, 7, 8, 9, 10, 11, 12, 13, 14, 15, 14, 10, 4, 8, 9, 15, 13, 6, 1, 12, 0, 2, 11, 7, 5, 3, 11, 8, 12, 0, 5, 2, 15, 13, 10, 14, 3, 6, 7, 1, 9, 4, 7, 9, 3, 1, 13, 12, 11, 14, 2, 6, 5, 10, 4, 0, 15, 8, 9, 0, 5, 7, 2, 4, 10, 15, 14, 1, 11, 12, 6, 8, 3, 13, 2, 12, 6, 10, 0, 11, 8, 3, 4, 13, 7, 5, 15, 14, 1, 9, 12, 5, 1, 15, 14, 13, 4, 10, 0, 7, 6, 3, 9, 2, 8, 11, 13, 11, 7, 14, 12, 1, 3, 9, 5, 0, 15, 4, 8, 6, 2, 10, 6, 15, 14, 9, 11, 3, 0, 8, 12, 2, 13, 7, 1, 4, 10, 5, 10, 2, 8, 4, 7, 6, 1, 5, 15, 11, 9, 14, 3, 12, 13, 0]
def linesB : List Int := [0, 4, 8, 12, 1, 5, 9, 13, 2, 6, 10, 14, 3, 7, 11, 15, 0, 5, 10, 15, 1, 6, 11, 12, 2, 7, 8, 13, 3, 4, 9, 14]
def glB : Nat → Option Row := fun g => if g = 0 then some (.u 64 begunB) else if g = 1 then some (.i rowsB) else if g = 2 then some (.i linesB) else none
theorem glB_ro : ∀ g r, glB g = some r → r.ro = r := by
  intro g r h
  unfold glB at h
  split at h
  · cases h; rfl
  split at h
  · cases h; rfl
  split at h
  · cases h; rfl
  cases h
theorem glB0 : glB 0 = some (.u 64 begunB) := rfl
theorem glB1 : glB 1 = some (.i rowsB) := rfl
theorem glB2 : glB 2 = some (.i linesB) := rfl
theorem begunB_len : begunB.length = 8 := rfl
theorem rowsB_len : rowsB.length = 160 := rfl
theorem linesB_len : linesB.length = 32 := rfl

/-! ### the program's mixing -/
def mA (v : List (BitVec 64)) (p q : Nat) (x : BitVec 64) : List (BitVec 64) := v.set p (v.getD p 0 + (v.getD q 0 + x))
def mX (v : List (BitVec 64)) (p s : Nat) (n : Int) : List (BitVec 64) := v.set s (rotF (v.getD s 0 ^^^ v.getD p 0) (-n))
def mC (v : List (BitVec 64)) (r s : Nat) : List (BitVec 64) := v.set r (v.getD r 0 + v.getD s 0)
def mixB (v : List (BitVec 64)) (p q r s : Nat) (x y : BitVec 64) : List (BitVec 64) := mX (mC (mX (mA (mX (mC (mX (mA v p q x) p s 32) r s) r q 24) p q y) p s 16) r s) r q 63
noncomputable def mixBS : FSpec := { run := fun ins => match ins with
  | [.ref 0 0 (.agg 16 (.u 64 v)), .agg 4 (.i l), .u 64 x, .u 64 y] => chk (0 ≤ l.getD 0 0 ∧ l.getD 0 0 < 16 ∧ 0 ≤ l.getD 1 0 ∧ l.getD 1 0 < 16 ∧ 0 ≤ l.getD 2 0 ∧ l.getD 2 0 < 16 ∧ 0 ≤ l.getD 3 0 ∧ l.getD 3 0 < 16)
      (some (.tup [], [.agg 16 (.u 64 (mixB v (l.getD 0 0).toNat (l.getD 1 0).toNat (l.getD 2 0).toNat (l.getD 3 0).toNat x y))]))
  | _ => none }
theorem mixB_sound {gl : Nat → Option Row} (hro : ∀ g r, gl g = some r → r.ro = r) : SoundFn Tryd.prog gl 18 mixBS.run := by
  have G := good_of (P := Tryd.prog) hro (l := [(22, downS)]) (by simp only [List.forall_mem_cons]; exact ⟨down_sound hro, by simp⟩)
  refine soundFn_of_W G Tryd.func18 (by decide) rfl (by decide) ?_
  intro ins ret outs h
  unfold mixBS at h
  dsimp only at h
  split at h
  rotate_left
  · cases h
  rename_i v l x y
  obtain ⟨hi, h'⟩ := chk_some h
  clear h
  cases h'
  refine ⟨by show 4 ≤ 108; decide, fun w0 ext av => ?_⟩
  rw [Tryd.ntmps18, st0_eq]
  repeat' first
    | refine W.seq ?_ | (refine W.regS G ?_; dsimp only) | refine SW.nil ?_ | refine thenQ_normal ?_ | refine W.skip ?_ | refine W.exit ?_ | refine thenQ_exit ?_ | refine inBlockQ_exit ?_ | refine inBlockQ_normal ?_ | refine W.block ?_
    | (apply SW.toC; refine SWcall.go True.intro ?_) | (apply SW.toOp; refine SWop.go True.intro ?_) | (apply SW.toCG; first | refine SWcall.yes True.intro ?_ | refine SWcall.no True.intro ?_) | (apply SW.toG; first | refine SWop.yes True.intro ?_ | refine SWop.no True.intro ?_)
  refine W.drawS G [[], [], [1], [0], [3, 0, 2, 1], [], [], [6], [5], [8, 5, 7, 6], [], [], [11], [10], [13, 10, 12, 11], [], [], [16], [15], [18, 15, 17, 16], [4, 3, 0, 2, 1], [9, 8, 5, 7, 6, 20, 4, 3, 0, 2, 1], [14, 13, 10, 12, 11, 21, 9, 8, 5, 7, 6, 20, 4, 3, 0, 2, 1], [19, 18, 15, 17, 16, 22, 14, 13, 10, 12, 11, 21, 9, 8, 5, 7, 6, 20, 4, 3, 0, 2, 1]] hmix ?_
  dsimp only
  repeat' first
    | (apply DW.nil; (focus (decide +kernel)))
    | (apply DW.toC; refine DWcall.go True.intro ?_) | (apply DW.toOp; refine DWop.go True.intro ?_) | (apply DW.toCG; first | refine DWcall.yes True.intro ?_ | refine DWcall.no True.intro ?_) | (apply DW.toG; first | refine DWop.yes True.intro ?_ | refine DWop.no True.intro ?_)
  generalize hp : (l.getD 0 0).toNat = P
  generalize hq : (l.getD 1 0).toNat = Q
  generalize hr : (l.getD 2 0).toNat = R
  generalize hs : (l.getD 3 0).toNat = S
  have hP : P < 16 := by omega
  have hQ : Q < 16 := by omega
  have hR : R < 16 := by omega
  have hS : S < 16 := by omega
  generalize hv : v = v0
  repeat' first
    | refine W.seq ?_ | (refine W.regS G ?_; dsimp only) | refine SW.nil ?_ | refine thenQ_normal ?_ | refine W.skip ?_ | refine W.exit ?_ | refine thenQ_exit ?_ | refine inBlockQ_exit ?_ | refine inBlockQ_normal ?_ | refine W.block ?_
    | (apply SW.toC; refine SWcall.go (And.intro hp (And.intro hq (And.intro hr hs))) ?_) | (apply SW.toOp; refine SWop.go (And.intro hp (And.intro hq (And.intro hr hs))) ?_) | (apply SW.toCG; first | refine SWcall.yes (And.intro hp (And.intro hq (And.intro hr hs))) ?_ | refine SWcall.no (And.intro hp (And.intro hq (And.intro hr hs))) ?_) | (apply SW.toG; first | refine SWop.yes (And.intro hp (And.intro hq (And.intro hr hs))) ?_ | refine SWop.no (And.intro hp (And.intro hq (And.intro hr hs))) ?_)
  refine W.imp (s := sL [(8, .p 1000 0 0 P), (9, .p 1000 0 0 Q), (10, .p 1000 0 0 R), (11, .p 1000 0 0 S), (2, .u 64 x), (3, .u 64 y)] [(1000, .agg 16 (.u 64 v0))] 108) ?_ (Imp.le ?_)
  rotate_left
  · exact sL_leZ (And.intro hp (And.intro hq (And.intro hr hs)))
  refine W.drawS G [[], [0], [1, 0], [], [3], [4, 3], [], [5, 4, 3, 6], [2, 1, 0, 7, 5, 4, 3, 6], [0, 1, 2, 3, 4, 5, 6, 7, 8], [9, 0, 1, 2, 3, 4, 5, 6, 7, 8]] hmix ?_
  dsimp only
  repeat' first
    | (apply DW.nil; (focus (decide +kernel)))
    | (apply DW.toC; refine DWcall.go (And.intro hp (And.intro hq (And.intro hr (And.intro hs downS.eq_1)))) ?_) | (apply DW.toOp; refine DWop.go (And.intro hp (And.intro hq (And.intro hr (And.intro hs downS.eq_1)))) ?_) | (apply DW.toCG; first | refine DWcall.yes (And.intro hp (And.intro hq (And.intro hr (And.intro hs downS.eq_1)))) ?_ | refine DWcall.no (And.intro hp (And.intro hq (And.intro hr (And.intro hs downS.eq_1)))) ?_) | (apply DW.toG; first | refine DWop.yes (And.intro hp (And.intro hq (And.intro hr (And.intro hs downS.eq_1)))) ?_ | refine DWop.no (And.intro hp (And.intro hq (And.intro hr (And.intro hs downS.eq_1)))) ?_)
  repeat' first
    | refine W.seq ?_ | (refine W.regS G ?_; dsimp only) | refine SW.nil ?_ | refine thenQ_normal ?_ | refine W.skip ?_ | refine W.exit ?_ | refine thenQ_exit ?_ | refine inBlockQ_exit ?_ | refine inBlockQ_normal ?_ | refine W.block ?_
    | (apply SW.toC; refine SWcall.go (And.intro hp (And.intro hq (And.intro hr hs))) ?_) | (apply SW.toOp; refine SWop.go (And.intro hp (And.intro hq (And.intro hr hs))) ?_) | (apply SW.toCG; first | refine SWcall.yes (And.intro hp (And.intro hq (And.intro hr hs))) ?_ | refine SWcall.no (And.intro hp (And.intro hq (And.intro hr hs))) ?_) | (apply SW.toG; first | refine SWop.yes (And.intro hp (And.intro hq (And.intro hr hs))) ?_ | refine SWop.no (And.intro hp (And.intro hq (And.intro hr hs))) ?_)
  refine W.imp (s := sL [(8, .p 1000 0 0 P), (9, .p 1000 0 0 Q), (10, .p 1000 0 0 R), (11, .p 1000 0 0 S), (2, .u 64 x), (3, .u 64 y)] [(1000, .agg 16 (.u 64 (mA v0 P Q x)))] 108) ?_ (Imp.le ?_)
  rotate_left
  · exact sL_leZ (And.intro hp (And.intro hq (And.intro hr hs)))
  generalize hv1 : mA v0 P Q x = v1
  refine W.drawS G [[], [], [1], [2, 1], [], [4], [5, 4], [3, 2, 1, 6, 5, 4], [7, 3, 2, 1, 6, 5, 4], [0, 1, 2, 3, 4, 5, 6, 7, 8], [9, 0, 1, 2, 3, 4, 5, 6, 7, 8]] hmix ?_
  dsimp only
  repeat' first
    | (apply DW.nil; (focus (decide +kernel)))
    | (apply DW.toC; refine DWcall.go (And.intro hp (And.intro hq (And.intro hr (And.intro hs downS.eq_1)))) ?_) | (apply DW.toOp; refine DWop.go (And.intro hp (And.intro hq (And.intro hr (And.intro hs downS.eq_1)))) ?_) | (apply DW.toCG; first | refine DWcall.yes (And.intro hp (And.intro hq (And.intro hr (And.intro hs downS.eq_1)))) ?_ | refine DWcall.no (And.intro hp (And.intro hq (And.intro hr (And.intro hs downS.eq_1)))) ?_) | (apply DW.toG; first | refine DWop.yes (And.intro hp (And.intro hq (And.intro hr (And.intro hs downS.eq_1)))) ?_ | refine DWop.no (And.intro hp (And.intro hq (And.intro hr (And.intro hs downS.eq_1)))) ?_)
  repeat' first
    | refine W.seq ?_ | (refine W.regS G ?_; dsimp only) | refine SW.nil ?_ | refine thenQ_normal ?_ | refine W.skip ?_ | refine W.exit ?_ | refine thenQ_exit ?_ | refine inBlockQ_exit ?_ | refine inBlockQ_normal ?_ | refine W.block ?_
    | (apply SW.toC; refine SWcall.go (And.intro hp (And.intro hq (And.intro hr hs))) ?_) | (apply SW.toOp; refine SWop.go (And.intro hp (And.intro hq (And.intro hr hs))) ?_) | (apply SW.toCG; first | refine SWcall.yes (And.intro hp (And.intro hq (And.intro hr hs))) ?_ | refine SWcall.no (And.intro hp (And.intro hq (And.intro hr hs))) ?_) | (apply SW.toG; first | refine SWop.yes (And.intro hp (And.intro hq (And.intro hr hs))) ?_ | refine SWop.no (And.intro hp (And.intro hq (And.intro hr hs))) ?_)
  refine W.imp (s := sL [(8, .p 1000 0 0 P), (9, .p 1000 0 0 Q), (10, .p 1000 0 0 R), (11, .p 1000 0 0 S), (2, .u 64 x), (3, .u 64 y)] [(1000, .agg 16 (.u 64 (mX v1 P S 32)))] 108) ?_ (Imp.le ?_)
  rotate_left
  · exact sL_leZ (And.intro hp (And.intro hq (And.intro hr hs)))
  generalize hv2 : mX v1 P S 32 = v2
  refine W.drawS G [[], [0], [1, 0], [], [3], [4, 3], [2, 1, 0, 5, 4, 3], [0, 1, 2, 3, 4, 5, 6], [7, 0, 1, 2, 3, 4, 5, 6]] hmix ?_
  dsimp only
  repeat' first
    | (apply DW.nil; (focus (decide +kernel)))
    | (apply DW.toC; refine DWcall.go (And.intro hp (And.intro hq (And.intro hr (And.intro hs downS.eq_1)))) ?_) | (apply DW.toOp; refine DWop.go (And.intro hp (And.intro hq (And.intro hr (And.intro hs downS.eq_1)))) ?_) | (apply DW.toCG; first | refine DWcall.yes (And.intro hp (And.intro hq (And.intro hr (And.intro hs downS.eq_1)))) ?_ | refine DWcall.no (And.intro hp (And.intro hq (And.intro hr (And.intro hs downS.eq_1)))) ?_) | (apply DW.toG; first | refine DWop.yes (And.intro hp (And.intro hq (And.intro hr (And.intro hs downS.eq_1)))) ?_ | refine DWop.no (And.intro hp (And.intro hq (And.intro hr (And.intro hs downS.eq_1)))) ?_)
  repeat' first
    | refine W.seq ?_ | (refine W.regS G ?_; dsimp only) | refine SW.nil ?_ | refine thenQ_normal ?_ | refine W.skip ?_ | refine W.exit ?_ | refine thenQ_exit ?_ | refine inBlockQ_exit ?_ | refine inBlockQ_normal ?_ | refine W.block ?_
    | (apply SW.toC; refine SWcall.go (And.intro hp (And.intro hq (And.intro hr hs))) ?_) | (apply SW.toOp; refine SWop.go (And.intro hp (And.intro hq (And.intro hr hs))) ?_) | (apply SW.toCG; first | refine SWcall.yes (And.intro hp (And.intro hq (And.intro hr hs))) ?_ | refine SWcall.no (And.intro hp (And.intro hq (And.intro hr hs))) ?_) | (apply SW.toG; first | refine SWop.yes (And.intro hp (And.intro hq (And.intro hr hs))) ?_ | refine SWop.no (And.intro hp (And.intro hq (And.intro hr hs))) ?_)
  refine W.imp (s := sL [(8, .p 1000 0 0 P), (9, .p 1000 0 0 Q), (10, .p 1000 0 0 R), (11, .p 1000 0 0 S), (2, .u 64 x), (3, .u 64 y)] [(1000, .agg 16 (.u 64 (mC v2 R S)))] 108) ?_ (Imp.le ?_)
  rotate_left
  · exact sL_leZ (And.intro hp (And.intro hq (And.intro hr hs)))
  generalize hv3 : mC v2 R S = v3
  refine W.drawS G [[], [], [1], [2, 1], [], [4], [5, 4], [3, 2, 1, 6, 5, 4], [7, 3, 2, 1, 6, 5, 4], [0, 1, 2, 3, 4, 5, 6, 7, 8], [9, 0, 1, 2, 3, 4, 5, 6, 7, 8]] hmix ?_
  dsimp only
  repeat' first
    | (apply DW.nil; (focus (decide +kernel)))
    | (apply DW.toC; refine DWcall.go (And.intro hp (And.intro hq (And.intro hr (And.intro hs downS.eq_1)))) ?_) | (apply DW.toOp; refine DWop.go (And.intro hp (And.intro hq (And.intro hr (And.intro hs downS.eq_1)))) ?_) | (apply DW.toCG; first | refine DWcall.yes (And.intro hp (And.intro hq (And.intro hr (And.intro hs downS.eq_1)))) ?_ | refine DWcall.no (And.intro hp (And.intro hq (And.intro hr (And.intro hs downS.eq_1)))) ?_) | (apply DW.toG; first | refine DWop.yes (And.intro hp (And.intro hq (And.intro hr (And.intro hs downS.eq_1)))) ?_ | refine DWop.no (And.intro hp (And.intro hq (And.intro hr (And.intro hs downS.eq_1)))) ?_)
  repeat' first
    | refine W.seq ?_ | (refine W.regS G ?_; dsimp only) | refine SW.nil ?_ | refine thenQ_normal ?_ | refine W.skip ?_ | refine W.exit ?_ | refine thenQ_exit ?_ | refine inBlockQ_exit ?_ | refine inBlockQ_normal ?_ | refine W.block ?_
    | (apply SW.toC; refine SWcall.go (And.intro hp (And.intro hq (And.intro hr hs))) ?_) | (apply SW.toOp; refine SWop.go (And.intro hp (And.intro hq (And.intro hr hs))) ?_) | (apply SW.toCG; first | refine SWcall.yes (And.intro hp (And.intro hq (And.intro hr hs))) ?_ | refine SWcall.no (And.intro hp (And.intro hq (And.intro hr hs))) ?_) | (apply SW.toG; first | refine SWop.yes (And.intro hp (And.intro hq (And.intro hr hs))) ?_ | refine SWop.no (And.intro hp (And.intro hq (And.intro hr hs))) ?_)
  refine W.imp (s := sL [(8, .p 1000 0 0 P), (9, .p 1000 0 0 Q), (10, .p 1000 0 0 R), (11, .p 1000 0 0 S), (2, .u 64 x), (3, .u 64 y)] [(1000, .agg 16 (.u 64 (mX v3 R Q 24)))] 108) ?_ (Imp.le ?_)
  rotate_left
  · exact sL_leZ (And.intro hp (And.intro hq (And.intro hr hs)))
  generalize hv4 : mX v3 R Q 24 = v4
  refine W.drawS G [[], [0], [1, 0], [], [3], [4, 3], [], [5, 4, 3, 6], [2, 1, 0, 7, 5, 4, 3, 6], [0, 1, 2, 3, 4, 5, 6, 7, 8], [9, 0, 1, 2, 3, 4, 5, 6, 7, 8]] hmix ?_
  dsimp only
  repeat' first
    | (apply DW.nil; (focus (decide +kernel)))
    | (apply DW.toC; refine DWcall.go (And.intro hp (And.intro hq (And.intro hr (And.intro hs downS.eq_1)))) ?_) | (apply DW.toOp; refine DWop.go (And.intro hp (And.intro hq (And.intro hr (And.intro hs downS.eq_1)))) ?_) | (apply DW.toCG; first | refine DWcall.yes (And.intro hp (And.intro hq (And.intro hr (And.intro hs downS.eq_1)))) ?_ | refine DWcall.no (And.intro hp (And.intro hq (And.intro hr (And.intro hs downS.eq_1)))) ?_) | (apply DW.toG; first | refine DWop.yes (And.intro hp (And.intro hq (And.intro hr (And.intro hs downS.eq_1)))) ?_ | refine DWop.no (And.intro hp (And.intro hq (And.intro hr (And.intro hs downS.eq_1)))) ?_)
  repeat' first
    | refine W.seq ?_ | (refine W.regS G ?_; dsimp only) | refine SW.nil ?_ | refine thenQ_normal ?_ | refine W.skip ?_ | refine W.exit ?_ | refine thenQ_exit ?_ | refine inBlockQ_exit ?_ | refine inBlockQ_normal ?_ | refine W.block ?_
    | (apply SW.toC; refine SWcall.go (And.intro hp (And.intro hq (And.intro hr hs))) ?_) | (apply SW.toOp; refine SWop.go (And.intro hp (And.intro hq (And.intro hr hs))) ?_) | (apply SW.toCG; first | refine SWcall.yes (And.intro hp (And.intro hq (And.intro hr hs))) ?_ | refine SWcall.no (And.intro hp (And.intro hq (And.intro hr hs))) ?_) | (apply SW.toG; first | refine SWop.yes (And.intro hp (And.intro hq (And.intro hr hs))) ?_ | refine SWop.no (And.intro hp (And.intro hq (And.intro hr hs))) ?_)
  refine W.imp (s := sL [(8, .p 1000 0 0 P), (9, .p 1000 0 0 Q), (10, .p 1000 0 0 R), (11, .p 1000 0 0 S), (2, .u 64 x), (3, .u 64 y)] [(1000, .agg 16 (.u 64 (mA v4 P Q y)))] 108) ?_ (Imp.le ?_)
  rotate_left
  · exact sL_leZ (And.intro hp (And.intro hq (And.intro hr hs)))
  generalize hv5 : mA v4 P Q y = v5
  refine W.drawS G [[], [], [1], [2, 1], [], [4], [5, 4], [3, 2, 1, 6, 5, 4], [7, 3, 2, 1, 6, 5, 4], [0, 1, 2, 3, 4, 5, 6, 7, 8], [9, 0, 1, 2, 3, 4, 5, 6, 7, 8]] hmix ?_
  dsimp only
  repeat' first
    | (apply DW.nil; (focus (decide +kernel)))
    | (apply DW.toC; refine DWcall.go (And.intro hp (And.intro hq (And.intro hr (And.intro hs downS.eq_1)))) ?_) | (apply DW.toOp; refine DWop.go (And.intro hp (And.intro hq (And.intro hr (And.intro hs downS.eq_1)))) ?_) | (apply DW.toCG; first | refine DWcall.yes (And.intro hp (And.intro hq (And.intro hr (And.intro hs downS.eq_1)))) ?_ | refine DWcall.no (And.intro hp (And.intro hq (And.intro hr (And.intro hs downS.eq_1)))) ?_) | (apply DW.toG; first | refine DWop.yes (And.intro hp (And.intro hq (And.intro hr (And.intro hs downS.eq_1)))) ?_ | refine DWop.no (And.intro hp (And.intro hq (And.intro hr (And.intro hs downS.eq_1)))) ?_)
  repeat' first
    | refine W.seq ?_ | (refine W.regS G ?_; dsimp only) | refine SW.nil ?_ | refine thenQ_normal ?_ | refine W.skip ?_ | refine W.exit ?_ | refine thenQ_exit ?_ | refine inBlockQ_exit ?_ | refine inBlockQ_normal ?_ | refine W.block ?_
    | (apply SW.toC; refine SWcall.go (And.intro hp (And.intro hq (And.intro hr hs))) ?_) | (apply SW.toOp; refine SWop.go (And.intro hp (And.intro hq (And.intro hr hs))) ?_) | (apply SW.toCG; first | refine SWcall.yes (And.intro hp (And.intro hq (And.intro hr hs))) ?_ | refine SWcall.no (And.intro hp (And.intro hq (And.intro hr hs))) ?_) | (apply SW.toG; first | refine SWop.yes (And.intro hp (And.intro hq (And.intro hr hs))) ?_ | refine SWop.no (And.intro hp (And.intro hq (And.intro hr hs))) ?_)
  refine W.imp (s := sL [(8, .p 1000 0 0 P), (9, .p 1000 0 0 Q), (10, .p 1000 0 0 R), (11, .p 1000 0 0 S), (2, .u 64 x), (3, .u 64 y)] [(1000, .agg 16 (.u 64 (mX v5 P S 16)))] 108) ?_ (Imp.le ?_)
  rotate_left
  · exact sL_leZ (And.intro hp (And.intro hq (And.intro hr hs)))
  generalize hv6 : mX v5 P S 16 = v6
  refine W.drawS G [[], [0], [1, 0], [], [3], [4, 3], [2, 1, 0, 5, 4, 3], [0, 1, 2, 3, 4, 5, 6], [7, 0, 1, 2, 3, 4, 5, 6]] hmix ?_
  dsimp only
  repeat' first
    | (apply DW.nil; (focus (decide +kernel)))
    | (apply DW.toC; refine DWcall.go (And.intro hp (And.intro hq (And.intro hr (And.intro hs downS.eq_1)))) ?_) | (apply DW.toOp; refine DWop.go (And.intro hp (And.intro hq (And.intro hr (And.intro hs downS.eq_1)))) ?_) | (apply DW.toCG; first | refine DWcall.yes (And.intro hp (And.intro hq (And.intro hr (And.intro hs downS.eq_1)))) ?_ | refine DWcall.no (And.intro hp (And.intro hq (And.intro hr (And.intro hs downS.eq_1)))) ?_) | (apply DW.toG; first | refine DWop.yes (And.intro hp (And.intro hq (And.intro hr (And.intro hs downS.eq_1)))) ?_ | refine DWop.no (And.intro hp (And.intro hq (And.intro hr (And.intro hs downS.eq_1)))) ?_)
  repeat' first
    | refine W.seq ?_ | (refine W.regS G ?_; dsimp only) | refine SW.nil ?_ | refine thenQ_normal ?_ | refine W.skip ?_ | refine W.exit ?_ | refine thenQ_exit ?_ | refine inBlockQ_exit ?_ | refine inBlockQ_normal ?_ | refine W.block ?_
    | (apply SW.toC; refine SWcall.go (And.intro hp (And.intro hq (And.intro hr hs))) ?_) | (apply SW.toOp; refine SWop.go (And.intro hp (And.intro hq (And.intro hr hs))) ?_) | (apply SW.toCG; first | refine SWcall.yes (And.intro hp (And.intro hq (And.intro hr hs))) ?_ | refine SWcall.no (And.intro hp (And.intro hq (And.intro hr hs))) ?_) | (apply SW.toG; first | refine SWop.yes (And.intro hp (And.intro hq (And.intro hr hs))) ?_ | refine SWop.no (And.intro hp (And.intro hq (And.intro hr hs))) ?_)
  refine W.imp (s := sL [(8, .p 1000 0 0 P), (9, .p 1000 0 0 Q), (10, .p 1000 0 0 R), (11, .p 1000 0 0 S), (2, .u 64 x), (3, .u 64 y)] [(1000, .agg 16 (.u 64 (mC v6 R S)))] 108) ?_ (Imp.le ?_)
  rotate_left
  · exact sL_leZ (And.intro hp (And.intro hq (And.intro hr hs)))
  generalize hv7 : mC v6 R S = v7
  refine W.drawS G [[], [], [1], [2, 1], [], [4], [5, 4], [3, 2, 1, 6, 5, 4], [7, 3, 2, 1, 6, 5, 4], [0, 1, 2, 3, 4, 5, 6, 7, 8], [9, 0, 1, 2, 3, 4, 5, 6, 7, 8]] hmix ?_
  dsimp only
  repeat' first
    | (apply DW.nil; (focus (decide +kernel)))
    | (apply DW.toC; refine DWcall.go (And.intro hp (And.intro hq (And.intro hr (And.intro hs downS.eq_1)))) ?_) | (apply DW.toOp; refine DWop.go (And.intro hp (And.intro hq (And.intro hr (And.intro hs downS.eq_1)))) ?_) | (apply DW.toCG; first | refine DWcall.yes (And.intro hp (And.intro hq (And.intro hr (And.intro hs downS.eq_1)))) ?_ | refine DWcall.no (And.intro hp (And.intro hq (And.intro hr (And.intro hs downS.eq_1)))) ?_) | (apply DW.toG; first | refine DWop.yes (And.intro hp (And.intro hq (And.intro hr (And.intro hs downS.eq_1)))) ?_ | refine DWop.no (And.intro hp (And.intro hq (And.intro hr (And.intro hs downS.eq_1)))) ?_)
  have e : mixB v0 P Q R S x y = mX v7 R Q 63 := by rw [← hv7, ← hv6, ← hv5, ← hv4, ← hv3, ← hv2, ← hv1]; rfl
  rw [e]
  exact fin0Z (And.intro hp (And.intro hq (And.intro hr hs)))


/-! ### the program's F -/
noncomputable def blakeBegin (h : List (BitVec 64)) : List (BitVec 64) := splL (splL (zeros 64 16) 0 h) 8 begunB
def blakeTied (v t : List (BitVec 64)) : List (BitVec 64) := (v.set 12 (v.getD 12 0 ^^^ t.getD 0 0)).set 13 ((v.set 12 (v.getD 12 0 ^^^ t.getD 0 0)).getD 13 0 ^^^ t.getD 1 0)
noncomputable def placesB (i : Nat) : List Int := subL rowsB (((i : Int) % 10).toNat * 16) 16
noncomputable def lineB (k : Nat) : List Int := subL linesB (k * 4) 4
noncomputable def blakeQ (m : List (BitVec 64)) (S : List Int) (k : Nat) (v : List (BitVec 64)) : List (BitVec 64) := itN (fun k v => mixB v ((lineB k).getD 0 0).toNat ((lineB k).getD 1 0).toNat ((lineB k).getD 2 0).toNat ((lineB k).getD 3 0).toNat
  (m.getD (S.getD (2 * (k : Int)).toNat 0).toNat 0) (m.getD (S.getD (2 * (k : Int) + 1).toNat 0).toNat 0)) k v
noncomputable def blakeRound (m : List (BitVec 64)) (i : Nat) (v : List (BitVec 64)) : List (BitVec 64) := blakeQ m (placesB i) 8 v
noncomputable def blakeOut (v : List (BitVec 64)) (k : Nat) (h : List (BitVec 64)) : List (BitVec 64) := itN (fun i h => h.set i (h.getD i 0 ^^^ (v.getD i 0 ^^^ v.getD (8 + (i : Int)).toNat 0))) k h
noncomputable def blakeF (r : BitVec 32) (h m t : List (BitVec 64)) (last : Bool) : List (BitVec 64) :=
  blakeOut (itN (blakeRound m) (min r.toNat 65536) (refLast (blakeTied (blakeBegin h) t) last)) 8 h
noncomputable def blakeFS : FSpec := { run := fun ins => match ins with
  | [.u 32 r, .agg 8 (.u 64 h), .agg 16 (.u 64 m), .agg 2 (.u 64 t), .b last] => chk (h.length = 8) (some (.agg 8 (.u 64 (blakeF r h m t last)), []))
  | _ => none }
theorem placesB_in : ∀ j, j < 10 → ∀ k, k < 16 → 0 ≤ (subL rowsB (j * 16) 16).getD k 0 ∧ (subL rowsB (j * 16) 16).getD k 0 < 16 := by decide +kernel
theorem placesB_len : ∀ j, j < 10 → (subL rowsB (j * 16) 16).length = 16 := by decide +kernel
theorem lineB_in : ∀ k, k < 8 → 0 ≤ (lineB k).getD 0 0 ∧ (lineB k).getD 0 0 < 16 ∧ 0 ≤ (lineB k).getD 1 0 ∧ (lineB k).getD 1 0 < 16 ∧ 0 ≤ (lineB k).getD 2 0 ∧ (lineB k).getD 2 0 < 16 ∧ 0 ≤ (lineB k).getD 3 0 ∧ (lineB k).getD 3 0 < 16 := by decide +kernel
theorem blakeBegin_len {h : List (BitVec 64)} (hh : h.length = 8) : (blakeBegin h).length = 16 := by simp [blakeBegin, splL, zeros, hh, begunB_len]

theorem mixed_sound : SoundFn Tryd.prog glB 11 blakeFS.run := by
  have G := good_of (P := Tryd.prog) glB_ro (l := [(18, mixBS)]) (by simp only [List.forall_mem_cons]; exact ⟨mixB_sound glB_ro, by simp⟩)
  refine soundFn_of_W G Tryd.func11 (by decide) rfl (by decide) ?_
  intro ins ret outs h
  unfold blakeFS at h
  dsimp only at h
  split at h
  rotate_left
  · cases h
  rename_i r h0 m t last
  obtain ⟨hh, h'⟩ := chk_some h
  clear h
  cases h'
  refine ⟨by show 5 ≤ 90; decide, fun w0 ext av => ?_⟩
  rw [Tryd.ntmps11, st0_eq]
  have hF : blakeF r h0 m t last = blakeOut (itN (blakeRound m) (min r.toNat 65536) (refLast (blakeTied (blakeBegin h0) t) last)) 8 h0 := rfl
  repeat' first
    | refine W.seq ?_ | (refine W.regS G ?_; dsimp only) | refine SW.nil ?_ | refine thenQ_normal ?_ | refine W.skip ?_ | refine W.exit ?_ | refine thenQ_exit ?_ | refine inBlockQ_exit ?_ | refine inBlockQ_normal ?_ | refine W.block ?_
    | (apply SW.toC; refine SWcall.go (And.intro glB0 (And.intro glB1 (And.intro glB2 (And.intro begunB_len (And.intro rowsB_len (And.intro linesB_len hh)))))) ?_) | (apply SW.toOp; refine SWop.go (And.intro glB0 (And.intro glB1 (And.intro glB2 (And.intro begunB_len (And.intro rowsB_len (And.intro linesB_len hh)))))) ?_) | (apply SW.toCG; first | refine SWcall.yes (And.intro glB0 (And.intro glB1 (And.intro glB2 (And.intro begunB_len (And.intro rowsB_len (And.intro linesB_len hh)))))) ?_ | refine SWcall.no (And.intro glB0 (And.intro glB1 (And.intro glB2 (And.intro begunB_len (And.intro rowsB_len (And.intro linesB_len hh)))))) ?_) | (apply SW.toG; first | refine SWop.yes (And.intro glB0 (And.intro glB1 (And.intro glB2 (And.intro begunB_len (And.intro rowsB_len (And.intro linesB_len hh)))))) ?_ | refine SWop.no (And.intro glB0 (And.intro glB1 (And.intro glB2 (And.intro begunB_len (And.intro rowsB_len (And.intro linesB_len hh)))))) ?_)
  refine W.drawS G [[], [], [0, 1]] hmix ?_
  dsimp only
  repeat' first
    | (apply DW.nil; (focus (decide +kernel)))
    | (apply DW.toC; refine DWcall.go (And.intro glB0 (And.intro glB1 (And.intro glB2 (And.intro begunB_len (And.intro rowsB_len (And.intro linesB_len hh)))))) ?_) | (apply DW.toOp; refine DWop.go (And.intro glB0 (And.intro glB1 (And.intro glB2 (And.intro begunB_len (And.intro rowsB_len (And.intro linesB_len hh)))))) ?_) | (apply DW.toCG; first | refine DWcall.yes (And.intro glB0 (And.intro glB1 (And.intro glB2 (And.intro begunB_len (And.intro rowsB_len (And.intro linesB_len hh)))))) ?_ | refine DWcall.no (And.intro glB0 (And.intro glB1 (And.intro glB2 (And.intro begunB_len (And.intro rowsB_len (And.intro linesB_len hh)))))) ?_) | (apply DW.toG; first | refine DWop.yes (And.intro glB0 (And.intro glB1 (And.intro glB2 (And.intro begunB_len (And.intro rowsB_len (And.intro linesB_len hh)))))) ?_ | refine DWop.no (And.intro glB0 (And.intro glB1 (And.intro glB2 (And.intro begunB_len (And.intro rowsB_len (And.intro linesB_len hh)))))) ?_)
  repeat' first
    | refine W.seq ?_ | (refine W.regS G ?_; dsimp only) | refine SW.nil ?_ | refine thenQ_normal ?_ | refine W.skip ?_ | refine W.exit ?_ | refine thenQ_exit ?_ | refine inBlockQ_exit ?_ | refine inBlockQ_normal ?_ | refine W.block ?_
    | (apply SW.toC; refine SWcall.go (And.intro glB0 (And.intro glB1 (And.intro glB2 (And.intro begunB_len (And.intro rowsB_len (And.intro linesB_len hh)))))) ?_) | (apply SW.toOp; refine SWop.go (And.intro glB0 (And.intro glB1 (And.intro glB2 (And.intro begunB_len (And.intro rowsB_len (And.intro linesB_len hh)))))) ?_) | (apply SW.toCG; first | refine SWcall.yes (And.intro glB0 (And.intro glB1 (And.intro glB2 (And.intro begunB_len (And.intro rowsB_len (And.intro linesB_len hh)))))) ?_ | refine SWcall.no (And.intro glB0 (And.intro glB1 (And.intro glB2 (And.intro begunB_len (And.intro rowsB_len (And.intro linesB_len hh)))))) ?_) | (apply SW.toG; first | refine SWop.yes (And.intro glB0 (And.intro glB1 (And.intro glB2 (And.intro begunB_len (And.intro rowsB_len (And.intro linesB_len hh)))))) ?_ | refine SWop.no (And.intro glB0 (And.intro glB1 (And.intro glB2 (And.intro begunB_len (And.intro rowsB_len (And.intro linesB_len hh)))))) ?_)
  refine W.drawS G [[], [], [0, 1]] hmix ?_
  dsimp only
  repeat' first
    | (apply DW.nil; (focus (decide +kernel)))
    | (apply DW.toC; refine DWcall.go (And.intro glB0 (And.intro glB1 (And.intro glB2 (And.intro begunB_len (And.intro rowsB_len (And.intro linesB_len hh)))))) ?_) | (apply DW.toOp; refine DWop.go (And.intro glB0 (And.intro glB1 (And.intro glB2 (And.intro begunB_len (And.intro rowsB_len (And.intro linesB_len hh)))))) ?_) | (apply DW.toCG; first | refine DWcall.yes (And.intro glB0 (And.intro glB1 (And.intro glB2 (And.intro begunB_len (And.intro rowsB_len (And.intro linesB_len hh)))))) ?_ | refine DWcall.no (And.intro glB0 (And.intro glB1 (And.intro glB2 (And.intro begunB_len (And.intro rowsB_len (And.intro linesB_len hh)))))) ?_) | (apply DW.toG; first | refine DWop.yes (And.intro glB0 (And.intro glB1 (And.intro glB2 (And.intro begunB_len (And.intro rowsB_len (And.intro linesB_len hh)))))) ?_ | refine DWop.no (And.intro glB0 (And.intro glB1 (And.intro glB2 (And.intro begunB_len (And.intro rowsB_len (And.intro linesB_len hh)))))) ?_)
  refine W.imp (s := sL [(0, .u 32 r), (4, .b last), (6, .p 6 0 0 0), (7, .p 7 0 0 0), (8, .p 8 0 0 0), (10, .p 10 0 0 0), (11, .p 11 0 0 0)] [(6, .agg 8 (.u 64 h0)), (7, .agg 16 (.u 64 m)), (8, .agg 2 (.u 64 t)), (10, .agg 8 (.u 64 (zeros 64 8))), (11, .agg 16 (.u 64 (blakeBegin h0)))] 90) ?_ (Imp.le ?_)
  rotate_left
  · exact sL_leZ (And.intro glB0 (And.intro glB1 (And.intro glB2 (And.intro begunB_len (And.intro rowsB_len (And.intro linesB_len hh))))))
  generalize blakeBegin h0 = v0 at hF ⊢
  repeat' first
    | refine W.seq ?_ | (refine W.regS G ?_; dsimp only) | refine SW.nil ?_ | refine thenQ_normal ?_ | refine W.skip ?_ | refine W.exit ?_ | refine thenQ_exit ?_ | refine inBlockQ_exit ?_ | refine inBlockQ_normal ?_ | refine W.block ?_
    | (apply SW.toC; refine SWcall.go (And.intro glB0 (And.intro glB1 (And.intro glB2 (And.intro begunB_len (And.intro rowsB_len (And.intro linesB_len hh)))))) ?_) | (apply SW.toOp; refine SWop.go (And.intro glB0 (And.intro glB1 (And.intro glB2 (And.intro begunB_len (And.intro rowsB_len (And.intro linesB_len hh)))))) ?_) | (apply SW.toCG; first | refine SWcall.yes (And.intro glB0 (And.intro glB1 (And.intro glB2 (And.intro begunB_len (And.intro rowsB_len (And.intro linesB_len hh)))))) ?_ | refine SWcall.no (And.intro glB0 (And.intro glB1 (And.intro glB2 (And.intro begunB_len (And.intro rowsB_len (And.intro linesB_len hh)))))) ?_) | (apply SW.toG; first | refine SWop.yes (And.intro glB0 (And.intro glB1 (And.intro glB2 (And.intro begunB_len (And.intro rowsB_len (And.intro linesB_len hh)))))) ?_ | refine SWop.no (And.intro glB0 (And.intro glB1 (And.intro glB2 (And.intro begunB_len (And.intro rowsB_len (And.intro linesB_len hh)))))) ?_)
  refine W.mid (sL [(0, .u 32 r), (6, .p 6 0 0 0), (7, .p 7 0 0 0), (10, .p 10 0 0 0), (11, .p 11 0 0 0)] [(6, .agg 8 (.u 64 h0)), (7, .agg 16 (.u 64 m)), (10, .agg 8 (.u 64 (zeros 64 8))), (11, .agg 16 (.u 64 (refLast (blakeTied v0 t) last)))] 90) ?_ ?_
  · refine W.condZ G (And.intro glB0 (And.intro glB1 (And.intro glB2 (And.intro begunB_len (And.intro rowsB_len (And.intro linesB_len hh)))))) ?_ ?_
    all_goals intro hl
    · subst hl
      repeat' first
        | refine W.seq ?_ | (refine W.regS G ?_; dsimp only) | refine SW.nil ?_ | refine thenQ_normal ?_ | refine W.skip ?_ | refine W.exit ?_ | refine thenQ_exit ?_ | refine inBlockQ_exit ?_ | refine inBlockQ_normal ?_ | refine W.block ?_
        | (apply SW.toC; refine SWcall.go (And.intro glB0 (And.intro glB1 (And.intro glB2 (And.intro begunB_len (And.intro rowsB_len (And.intro linesB_len hh)))))) ?_) | (apply SW.toOp; refine SWop.go (And.intro glB0 (And.intro glB1 (And.intro glB2 (And.intro begunB_len (And.intro rowsB_len (And.intro linesB_len hh)))))) ?_) | (apply SW.toCG; first | refine SWcall.yes (And.intro glB0 (And.intro glB1 (And.intro glB2 (And.intro begunB_len (And.intro rowsB_len (And.intro linesB_len hh)))))) ?_ | refine SWcall.no (And.intro glB0 (And.intro glB1 (And.intro glB2 (And.intro begunB_len (And.intro rowsB_len (And.intro linesB_len hh)))))) ?_) | (apply SW.toG; first | refine SWop.yes (And.intro glB0 (And.intro glB1 (And.intro glB2 (And.intro begunB_len (And.intro rowsB_len (And.intro linesB_len hh)))))) ?_ | refine SWop.no (And.intro glB0 (And.intro glB1 (And.intro glB2 (And.intro begunB_len (And.intro rowsB_len (And.intro linesB_len hh)))))) ?_)
      refine Imp.le ?_
      exact sL_leZ (And.intro glB0 (And.intro glB1 (And.intro glB2 (And.intro begunB_len (And.intro rowsB_len (And.intro linesB_len hh))))))
    · subst hl
      repeat' first
        | refine W.seq ?_ | (refine W.regS G ?_; dsimp only) | refine SW.nil ?_ | refine thenQ_normal ?_ | refine W.skip ?_ | refine W.exit ?_ | refine thenQ_exit ?_ | refine inBlockQ_exit ?_ | refine inBlockQ_normal ?_ | refine W.block ?_
        | (apply SW.toC; refine SWcall.go (And.intro glB0 (And.intro glB1 (And.intro glB2 (And.intro begunB_len (And.intro rowsB_len (And.intro linesB_len hh)))))) ?_) | (apply SW.toOp; refine SWop.go (And.intro glB0 (And.intro glB1 (And.intro glB2 (And.intro begunB_len (And.intro rowsB_len (And.intro linesB_len hh)))))) ?_) | (apply SW.toCG; first | refine SWcall.yes (And.intro glB0 (And.intro glB1 (And.intro glB2 (And.intro begunB_len (And.intro rowsB_len (And.intro linesB_len hh)))))) ?_ | refine SWcall.no (And.intro glB0 (And.intro glB1 (And.intro glB2 (And.intro begunB_len (And.intro rowsB_len (And.intro linesB_len hh)))))) ?_) | (apply SW.toG; first | refine SWop.yes (And.intro glB0 (And.intro glB1 (And.intro glB2 (And.intro begunB_len (And.intro rowsB_len (And.intro linesB_len hh)))))) ?_ | refine SWop.no (And.intro glB0 (And.intro glB1 (And.intro glB2 (And.intro begunB_len (And.intro rowsB_len (And.intro linesB_len hh)))))) ?_)
      refine Imp.le ?_
      exact sL_leZ (And.intro glB0 (And.intro glB1 (And.intro glB2 (And.intro begunB_len (And.intro rowsB_len (And.intro linesB_len hh))))))
  generalize refLast (blakeTied v0 t) last = v1 at hF ⊢
  have hr := r.isLt
  have hN : (if (65536 : Int) < (r.toNat : Int) then (65536 : Int) else (r.toNat : Int)) = ((min r.toNat 65536 : Nat) : Int) := by split <;> omega
  generalize hNN : min r.toNat 65536 = N at hF hN ⊢
  have hNl : N ≤ 65536 := by omega
  repeat' first
    | refine W.seq ?_ | (refine W.regS G ?_; dsimp only) | refine SW.nil ?_ | refine thenQ_normal ?_ | refine W.skip ?_ | refine W.exit ?_ | refine thenQ_exit ?_ | refine inBlockQ_exit ?_ | refine inBlockQ_normal ?_
    | (apply SW.toC; refine SWcall.go hN ?_) | (apply SW.toOp; refine SWop.go hN ?_) | (apply SW.toCG; first | refine SWcall.yes hN ?_ | refine SWcall.no hN ?_) | (apply SW.toG; first | refine SWop.yes hN ?_ | refine SWop.no hN ?_)
  refine W.mid (sL [(6, .p 6 0 0 0), (10, .p 10 0 0 0), (11, .p 11 0 0 0)] [(6, .agg 8 (.u 64 h0)), (10, .agg 8 (.u 64 (zeros 64 8))), (11, .agg 16 (.u 64 (itN (blakeRound m) N v1)))] 90) ?_ ?_
  rotate_left
  · skip
    generalize itN (blakeRound m) N v1 = v4 at hF ⊢
    repeat' first
      | refine W.seq ?_ | (refine W.regS G ?_; dsimp only) | refine SW.nil ?_ | refine thenQ_normal ?_ | refine W.skip ?_ | refine W.exit ?_ | refine thenQ_exit ?_ | refine inBlockQ_exit ?_ | refine inBlockQ_normal ?_ | refine W.block ?_
      | (apply SW.toC; refine SWcall.go hN ?_) | (apply SW.toOp; refine SWop.go hN ?_) | (apply SW.toCG; first | refine SWcall.yes hN ?_ | refine SWcall.no hN ?_) | (apply SW.toG; first | refine SWop.yes hN ?_ | refine SWop.no hN ?_)
    refine W.loopI (ι := {k : Nat // k ≤ 8}) (fun k => sL [(6, .p 6 0 0 0), (10, .p 10 0 0 0), (11, .p 11 0 0 0), (72, .i k.1)] [(6, .agg 8 (.u 64 (blakeOut v4 k.1 h0))), (10, .agg 8 (.u 64 (zeros 64 8))), (11, .agg 16 (.u 64 v4))] 90) (fun k => 8 - k.1) ⟨0, Nat.zero_le _⟩ (Imp.le ?_) ?_
    · exact sL_leZ hN
    rintro ⟨k, hk⟩
    repeat' first
      | refine W.seq ?_ | (refine W.regS G ?_; dsimp only) | refine SW.nil ?_ | refine thenQ_normal ?_ | refine W.skip ?_ | refine W.exit ?_ | refine thenQ_exit ?_ | refine inBlockQ_exit ?_ | refine inBlockQ_normal ?_ | refine W.block ?_
      | (apply SW.toC; refine SWcall.go hN ?_) | (apply SW.toOp; refine SWop.go hN ?_) | (apply SW.toCG; first | refine SWcall.yes hN ?_ | refine SWcall.no hN ?_) | (apply SW.toG; first | refine SWop.yes hN ?_ | refine SWop.no hN ?_)
    refine W.condZ G hN ?_ ?_
    all_goals intro hu
    · have hu' := of_decide_eq_true hu
      repeat' first
        | refine W.seq ?_ | (refine W.regS G ?_; dsimp only) | refine SW.nil ?_ | refine thenQ_normal ?_ | refine W.skip ?_ | refine W.exit ?_ | refine thenQ_exit ?_ | refine inBlockQ_exit ?_ | refine inBlockQ_normal ?_ | refine W.block ?_
        | (apply SW.toC; refine SWcall.go hN ?_) | (apply SW.toOp; refine SWop.go hN ?_) | (apply SW.toCG; first | refine SWcall.yes hN ?_ | refine SWcall.no hN ?_) | (apply SW.toG; first | refine SWop.yes hN ?_ | refine SWop.no hN ?_)
      refine W.drawS G [[], [0], [1, 0], [], [3], [4, 3], [], [6], [7, 6], [8, 7, 6], [5, 4, 3, 9, 8, 7, 6], [2, 1, 0, 10, 5, 4, 3, 9, 8, 7, 6], [0, 1, 2, 3, 4, 5, 6, 7, 8, 9, 10, 11], [12, 0, 1, 2, 3, 4, 5, 6, 7, 8, 9, 10, 11]] hmix ?_
      dsimp only
      repeat' first
        | (apply DW.nil; (focus (decide +kernel)))
        | (apply DW.toC; refine DWcall.go hN ?_) | (apply DW.toOp; refine DWop.go hN ?_) | (apply DW.toCG; first | refine DWcall.yes hN ?_ | refine DWcall.no hN ?_) | (apply DW.toG; first | refine DWop.yes hN ?_ | refine DWop.no hN ?_)
      repeat' first
        | refine W.seq ?_ | (refine W.regS G ?_; dsimp only) | refine SW.nil ?_ | refine thenQ_normal ?_ | refine W.skip ?_ | refine W.exit ?_ | refine thenQ_exit ?_ | refine inBlockQ_exit ?_ | refine inBlockQ_normal ?_ | refine W.block ?_
        | (apply SW.toC; refine SWcall.go hN ?_) | (apply SW.toOp; refine SWop.go hN ?_) | (apply SW.toCG; first | refine SWcall.yes hN ?_ | refine SWcall.no hN ?_) | (apply SW.toG; first | refine SWop.yes hN ?_ | refine SWop.no hN ?_)
      refine ⟨⟨k + 1, by omega⟩, Imp.le ?_, by show _ - (k + 1) < _ - k; omega⟩
      exact sL_leZ hN
    have hu' := of_decide_eq_false hu
    obtain rfl : k = 8 := by omega
    repeat' first
      | refine W.seq ?_ | (refine W.regS G ?_; dsimp only) | refine SW.nil ?_ | refine thenQ_normal ?_ | refine W.skip ?_ | refine W.exit ?_ | refine thenQ_exit ?_ | refine inBlockQ_exit ?_ | refine inBlockQ_normal ?_ | refine W.block ?_
      | (apply SW.toC; refine SWcall.go hN ?_) | (apply SW.toOp; refine SWop.go hN ?_) | (apply SW.toCG; first | refine SWcall.yes hN ?_ | refine SWcall.no hN ?_) | (apply SW.toG; first | refine SWop.yes hN ?_ | refine SWop.no hN ?_)
    refine W.ret ?_
    repeat' first
      | refine thenQ_ret ?_
      | refine inBlockQ_ret ?_
    refine fin1Z hN ?_
    rw [hF]
    exact leV_refl
  repeat' first
    | refine W.seq ?_ | (refine W.regS G ?_; dsimp only) | refine SW.nil ?_ | refine thenQ_normal ?_ | refine W.skip ?_ | refine W.exit ?_ | refine thenQ_exit ?_ | refine inBlockQ_exit ?_ | refine inBlockQ_normal ?_ | refine W.block ?_
    | (apply SW.toC; refine SWcall.go hN ?_) | (apply SW.toOp; refine SWop.go hN ?_) | (apply SW.toCG; first | refine SWcall.yes hN ?_ | refine SWcall.no hN ?_) | (apply SW.toG; first | refine SWop.yes hN ?_ | refine SWop.no hN ?_)
  refine W.loopI (ι := {i : Nat // i ≤ N}) (fun i => sL [(6, .p 6 0 0 0), (7, .p 7 0 0 0), (10, .p 10 0 0 0), (11, .p 11 0 0 0), (42, .i N), (43, .i i.1)] [(6, .agg 8 (.u 64 h0)), (7, .agg 16 (.u 64 m)), (10, .agg 8 (.u 64 (zeros 64 8))), (11, .agg 16 (.u 64 (itN (blakeRound m) i.1 v1)))] 90) (fun i => N - i.1) ⟨0, Nat.zero_le _⟩ (Imp.le ?_) ?_
  · exact sL_leZ hN
  rintro ⟨i, hi⟩
  repeat' first
    | refine W.seq ?_ | (refine W.regS G ?_; dsimp only) | refine SW.nil ?_ | refine thenQ_normal ?_ | refine W.skip ?_ | refine W.exit ?_ | refine thenQ_exit ?_ | refine inBlockQ_exit ?_ | refine inBlockQ_normal ?_ | refine W.block ?_
    | (apply SW.toC; refine SWcall.go hN ?_) | (apply SW.toOp; refine SWop.go hN ?_) | (apply SW.toCG; first | refine SWcall.yes hN ?_ | refine SWcall.no hN ?_) | (apply SW.toG; first | refine SWop.yes hN ?_ | refine SWop.no hN ?_)
  refine W.condZ G hN ?_ ?_
  all_goals intro hu
  · have hu' := of_decide_eq_true hu
    have hV : itN (blakeRound m) (i + 1) v1 = blakeQ m (placesB i) 8 (itN (blakeRound m) i v1) := by rw [itN_succ, blakeRound]
    have hj : ((i : Int) % 10).toNat < 10 := by omega
    have hS : ∀ k, k < 16 → 0 ≤ (placesB i).getD k 0 ∧ (placesB i).getD k 0 < 16 := placesB_in _ hj
    generalize itN (blakeRound m) i v1 = v2 at hV ⊢
    repeat' first
      | refine W.seq ?_ | (refine W.regS G ?_; dsimp only) | refine SW.nil ?_ | refine thenQ_normal ?_ | refine W.skip ?_ | refine W.exit ?_ | refine thenQ_exit ?_ | refine inBlockQ_exit ?_ | refine inBlockQ_normal ?_ | refine W.block ?_
      | (apply SW.toC; refine SWcall.go (And.intro glB0 (And.intro glB1 (And.intro glB2 (And.intro begunB_len (And.intro rowsB_len linesB_len))))) ?_) | (apply SW.toOp; refine SWop.go (And.intro glB0 (And.intro glB1 (And.intro glB2 (And.intro begunB_len (And.intro rowsB_len linesB_len))))) ?_) | (apply SW.toCG; first | refine SWcall.yes (And.intro glB0 (And.intro glB1 (And.intro glB2 (And.intro begunB_len (And.intro rowsB_len linesB_len))))) ?_ | refine SWcall.no (And.intro glB0 (And.intro glB1 (And.intro glB2 (And.intro begunB_len (And.intro rowsB_len linesB_len))))) ?_) | (apply SW.toG; first | refine SWop.yes (And.intro glB0 (And.intro glB1 (And.intro glB2 (And.intro begunB_len (And.intro rowsB_len linesB_len))))) ?_ | refine SWop.no (And.intro glB0 (And.intro glB1 (And.intro glB2 (And.intro begunB_len (And.intro rowsB_len linesB_len))))) ?_)
    refine W.imp (s := sL [(6, .p 6 0 0 0), (7, .p 7 0 0 0), (10, .p 10 0 0 0), (11, .p 11 0 0 0), (42, .i N), (43, .i i), (13, .p 13 0 0 0), (50, .agg 32 (.i linesB)), (51, .i 0)] [(6, .agg 8 (.u 64 h0)), (7, .agg 16 (.u 64 m)), (10, .agg 8 (.u 64 (zeros 64 8))), (11, .agg 16 (.u 64 v2)), (13, .agg 16 (.i (placesB i)))] 90) ?_ (Imp.le ?_)
    rotate_left
    · exact sL_leZ (And.intro glB0 (And.intro glB1 (And.intro glB2 (And.intro begunB_len (And.intro rowsB_len linesB_len)))))
    generalize placesB i = S at hV hS ⊢
    refine W.loopI (ι := {k : Nat // k ≤ 8}) (fun k => sL [(6, .p 6 0 0 0), (7, .p 7 0 0 0), (10, .p 10 0 0 0), (11, .p 11 0 0 0), (42, .i N), (43, .i i), (13, .p 13 0 0 0), (50, .agg 32 (.i linesB)), (51, .i k.1)] [(6, .agg 8 (.u 64 h0)), (7, .agg 16 (.u 64 m)), (10, .agg 8 (.u 64 (zeros 64 8))), (11, .agg 16 (.u 64 (blakeQ m S k.1 v2))), (13, .agg 16 (.i S))] 90) (fun k => 8 - k.1) ⟨0, Nat.zero_le _⟩ (Imp.le ?_) ?_
    · exact sL_leZ (And.intro glB0 (And.intro glB1 (And.intro glB2 (And.intro begunB_len (And.intro rowsB_len linesB_len)))))
    rintro ⟨k, hk⟩
    repeat' first
      | refine W.seq ?_ | (refine W.regS G ?_; dsimp only) | refine SW.nil ?_ | refine thenQ_normal ?_ | refine W.skip ?_ | refine W.exit ?_ | refine thenQ_exit ?_ | refine inBlockQ_exit ?_ | refine inBlockQ_normal ?_ | refine W.block ?_
      | (apply SW.toC; refine SWcall.go (And.intro glB0 (And.intro glB1 (And.intro glB2 (And.intro begunB_len (And.intro rowsB_len linesB_len))))) ?_) | (apply SW.toOp; refine SWop.go (And.intro glB0 (And.intro glB1 (And.intro glB2 (And.intro begunB_len (And.intro rowsB_len linesB_len))))) ?_) | (apply SW.toCG; first | refine SWcall.yes (And.intro glB0 (And.intro glB1 (And.intro glB2 (And.intro begunB_len (And.intro rowsB_len linesB_len))))) ?_ | refine SWcall.no (And.intro glB0 (And.intro glB1 (And.intro glB2 (And.intro begunB_len (And.intro rowsB_len linesB_len))))) ?_) | (apply SW.toG; first | refine SWop.yes (And.intro glB0 (And.intro glB1 (And.intro glB2 (And.intro begunB_len (And.intro rowsB_len linesB_len))))) ?_ | refine SWop.no (And.intro glB0 (And.intro glB1 (And.intro glB2 (And.intro begunB_len (And.intro rowsB_len linesB_len))))) ?_)
    refine W.condZ G (And.intro glB0 (And.intro glB1 (And.intro glB2 (And.intro begunB_len (And.intro rowsB_len linesB_len))))) ?_ ?_
    all_goals intro hw
    · have hw' := of_decide_eq_true hw
      have b1 := hS (2 * (k : Int)).toNat (by omega)
      have b2 := hS (2 * (k : Int) + 1).toNat (by omega)
      have hL := lineB_in k (by omega)
      have eL : subL linesB (k * 4) 4 = lineB k := rfl
      repeat' first
        | refine W.seq ?_ | (refine W.regS G ?_; dsimp only) | refine SW.nil ?_ | refine thenQ_normal ?_ | refine W.skip ?_ | refine W.exit ?_ | refine thenQ_exit ?_ | refine inBlockQ_exit ?_ | refine inBlockQ_normal ?_ | refine W.block ?_
        | (apply SW.toC; refine SWcall.go (And.intro glB2 (And.intro linesB_len eL)) ?_) | (apply SW.toOp; refine SWop.go (And.intro glB2 (And.intro linesB_len eL)) ?_) | (apply SW.toCG; first | refine SWcall.yes (And.intro glB2 (And.intro linesB_len eL)) ?_ | refine SWcall.no (And.intro glB2 (And.intro linesB_len eL)) ?_) | (apply SW.toG; first | refine SWop.yes (And.intro glB2 (And.intro linesB_len eL)) ?_ | refine SWop.no (And.intro glB2 (And.intro linesB_len eL)) ?_)
      refine W.drawS G [[], [], [1], [2, 1], [3, 2, 1], [4, 3, 2, 1], [5, 4, 3, 2, 1], [], [7], [8, 7], [9, 8, 7], [10, 9, 8, 7], [11, 10, 9, 8, 7], [12, 11, 10, 9, 8, 7], [0, 6, 5, 4, 3, 2, 1, 13, 12, 11, 10, 9, 8, 7]] hmix ?_
      dsimp only
      repeat' first
        | (apply DW.nil; (focus (decide +kernel)))
        | (apply DW.toC; refine DWcall.go (And.intro glB2 (And.intro linesB_len (And.intro eL mixBS.eq_1))) ?_) | (apply DW.toOp; refine DWop.go (And.intro glB2 (And.intro linesB_len (And.intro eL mixBS.eq_1))) ?_) | (apply DW.toCG; first | refine DWcall.yes (And.intro glB2 (And.intro linesB_len (And.intro eL mixBS.eq_1))) ?_ | refine DWcall.no (And.intro glB2 (And.intro linesB_len (And.intro eL mixBS.eq_1))) ?_) | (apply DW.toG; first | refine DWop.yes (And.intro glB2 (And.intro linesB_len (And.intro eL mixBS.eq_1))) ?_ | refine DWop.no (And.intro glB2 (And.intro linesB_len (And.intro eL mixBS.eq_1))) ?_)
      repeat' first
        | refine W.seq ?_ | (refine W.regS G ?_; dsimp only) | refine SW.nil ?_ | refine thenQ_normal ?_ | refine W.skip ?_ | refine W.exit ?_ | refine thenQ_exit ?_ | refine inBlockQ_exit ?_ | refine inBlockQ_normal ?_ | refine W.block ?_
        | (apply SW.toC; refine SWcall.go (And.intro glB2 (And.intro linesB_len eL)) ?_) | (apply SW.toOp; refine SWop.go (And.intro glB2 (And.intro linesB_len eL)) ?_) | (apply SW.toCG; first | refine SWcall.yes (And.intro glB2 (And.intro linesB_len eL)) ?_ | refine SWcall.no (And.intro glB2 (And.intro linesB_len eL)) ?_) | (apply SW.toG; first | refine SWop.yes (And.intro glB2 (And.intro linesB_len eL)) ?_ | refine SWop.no (And.intro glB2 (And.intro linesB_len eL)) ?_)
      refine ⟨⟨k + 1, by omega⟩, Imp.le ?_, by show _ - (k + 1) < _ - k; omega⟩
      exact sL_leZ (And.intro glB2 (And.intro linesB_len eL))
    have hw' := of_decide_eq_false hw
    obtain rfl : k = 8 := by omega
    repeat' first
      | refine W.seq ?_ | (refine W.regS G ?_; dsimp only) | refine SW.nil ?_ | refine thenQ_normal ?_ | refine W.skip ?_ | refine W.exit ?_ | refine thenQ_exit ?_ | refine inBlockQ_exit ?_ | refine inBlockQ_normal ?_ | refine W.block ?_
      | (apply SW.toC; refine SWcall.go hV ?_) | (apply SW.toOp; refine SWop.go hV ?_) | (apply SW.toCG; first | refine SWcall.yes hV ?_ | refine SWcall.no hV ?_) | (apply SW.toG; first | refine SWop.yes hV ?_ | refine SWop.no hV ?_)
    refine ⟨⟨i + 1, by omega⟩, Imp.le ?_, by show _ - (i + 1) < _ - i; omega⟩
    exact sL_leZ hV
  have hu' := of_decide_eq_false hu
  obtain rfl : i = N := by omega
  repeat' first
    | refine W.seq ?_ | (refine W.regS G ?_; dsimp only) | refine SW.nil ?_ | refine thenQ_normal ?_ | refine W.skip ?_ | refine W.exit ?_ | refine thenQ_exit ?_ | refine inBlockQ_exit ?_ | refine inBlockQ_normal ?_ | refine W.block ?_
    | (apply SW.toC; refine SWcall.go True.intro ?_) | (apply SW.toOp; refine SWop.go True.intro ?_) | (apply SW.toCG; first | refine SWcall.yes True.intro ?_ | refine SWcall.no True.intro ?_) | (apply SW.toG; first | refine SWop.yes True.intro ?_ | refine SWop.no True.intro ?_)
  refine Imp.le ?_
  exact sL_leZ True.intro

end Go.Vm.C06

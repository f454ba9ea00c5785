/- What some functions of the program compute, walked through once. -/
import Derived.Test.YtmanmhalbfbdmaaDoorCB
namespace Go.Vm.C05
open Go Go.Proofs
set_option linter.unusedVariables false
set_option linter.unusedSimpArgs false
set_option maxRecDepth 100000
set_option maxHeartbeats 8000000

/-! ### a block, the program's way -/
def xF (b : List (BitVec 8)) (k : Nat) : List (BitVec 32) := itN (fun i x => x.set (i / 4) (x.getD (i / 4) 0 ||| BitVec.setWidth 32 (b.getD i 0) <<< (8 * (i % 4)))) k (zeros 32 16)
def mixF (h l r : List (BitVec 32)) : List (BitVec 32) :=
  [h.getD 1 0 + l.getD 2 0 + r.getD 3 0, h.getD 2 0 + l.getD 3 0 + r.getD 4 0, h.getD 3 0 + l.getD 4 0 + r.getD 0 0, h.getD 4 0 + l.getD 0 0 + r.getD 1 0, h.getD 0 0 + l.getD 1 0 + r.getD 2 0]
def takenF (h : List (BitVec 32)) (b : List (BitVec 8)) : List (BitVec 32) := mixF h (lineF h (xF b 64) firstB false) (lineF h (xF b 64) secondB true)
noncomputable def takenS : FSpec := { run := fun ins => match ins with
  | [.agg 5 (.u 32 h), .sl false (.u 8 b)] => chk (b.length = 64) (some (.agg 5 (.u 32 (takenF h b)), []))
  | _ => none }
theorem taken_sound : SoundFn Tryd.prog glB 11 takenS.run := by
  have G := good_of (P := Tryd.prog) glB_ro (l := [(16, lineS)]) (by simp only [List.forall_mem_cons]; exact ⟨line_sound, by simp⟩)
  refine soundFn_of_W G Tryd.func11 (by decide) rfl (by decide) ?_
  intro ins ret outs h
  unfold takenS at h
  dsimp only at h
  split at h
  rotate_left
  · cases h
  rename_i h b
  obtain ⟨hb, h'⟩ := chk_some h
  clear h
  cases h'
  refine ⟨by show 2 ≤ 79; decide, fun w0 ext av => ?_⟩
  rw [Tryd.ntmps11, st0_eq]
  repeat' first
    | refine W.seq ?_ | (refine W.regS G ?_; dsimp only) | refine SW.nil ?_ | refine thenQ_normal ?_ | refine W.skip ?_ | refine W.exit ?_ | refine thenQ_exit ?_ | refine inBlockQ_exit ?_ | refine inBlockQ_normal ?_
    | (apply SW.toC; refine SWcall.go hb ?_) | (apply SW.toOp; refine SWop.go hb ?_) | (apply SW.toCG; first | refine SWcall.yes hb ?_ | refine SWcall.no hb ?_) | (apply SW.toG; first | refine SWop.yes hb ?_ | refine SWop.no hb ?_)
  refine W.mid (sL [(2, .p 2 0 0 0), (4, .p 4 0 0 0), (5, .p 5 0 0 0)] [(2, .agg 5 (.u 32 h)), (4, .agg 5 (.u 32 (zeros 32 5))), (5, .agg 16 (.u 32 (xF b 64)))] 79) ?_ ?_
  · repeat' first
      | refine W.seq ?_ | (refine W.regS G ?_; dsimp only) | refine SW.nil ?_ | refine thenQ_normal ?_ | refine W.skip ?_ | refine W.exit ?_ | refine thenQ_exit ?_ | refine inBlockQ_exit ?_ | refine inBlockQ_normal ?_ | refine W.block ?_
      | (apply SW.toC; refine SWcall.go hb ?_) | (apply SW.toOp; refine SWop.go hb ?_) | (apply SW.toCG; first | refine SWcall.yes hb ?_ | refine SWcall.no hb ?_) | (apply SW.toG; first | refine SWop.yes hb ?_ | refine SWop.no hb ?_)
    refine W.loopI (ι := {i : Nat // i ≤ 64}) (fun i => sL [(1, .sl false (.u 8 b)), (2, .p 2 0 0 0), (4, .p 4 0 0 0), (5, .p 5 0 0 0), (10, .i 64), (11, .i i.1)] [(2, .agg 5 (.u 32 h)), (4, .agg 5 (.u 32 (zeros 32 5))), (5, .agg 16 (.u 32 (xF b i.1)))] 79) (fun i => 64 - i.1) ⟨0, Nat.zero_le _⟩ (Imp.le ?_) ?_
    · exact sL_leZ hb
    rintro ⟨i, hi⟩
    have e : xF b (i + 1) = (xF b i).set (i / 4) ((xF b i).getD (i / 4) 0 ||| BitVec.setWidth 32 (b.getD i 0) <<< (8 * (i % 4))) := itN_succ _ _ _
    have hend : i = 64 → xF b 64 = xF b i := by rintro rfl; rfl
    generalize xF b i = x at e hend ⊢
    repeat' first
      | refine W.seq ?_ | (refine W.regS G ?_; dsimp only) | refine SW.nil ?_ | refine thenQ_normal ?_ | refine W.skip ?_ | refine W.exit ?_ | refine thenQ_exit ?_ | refine inBlockQ_exit ?_ | refine inBlockQ_normal ?_ | refine W.block ?_
      | (apply SW.toC; refine SWcall.go True.intro ?_) | (apply SW.toOp; refine SWop.go True.intro ?_) | (apply SW.toCG; first | refine SWcall.yes True.intro ?_ | refine SWcall.no True.intro ?_) | (apply SW.toG; first | refine SWop.yes True.intro ?_ | refine SWop.no True.intro ?_)
    refine W.condZ G True.intro ?_ ?_
    all_goals intro ht
    · have ht' := of_decide_eq_true ht
      have e1 : ((i : Int) / 4) = ((i / 4 : Nat) : Int) := by omega
      have e2 : ((i : Int) % 4) = ((i % 4 : Nat) : Int) := by omega
      have e3 : (8 * ((i % 4 : Nat) : Int)) = ((8 * (i % 4) : Nat) : Int) := by omega
      repeat' first
        | refine W.seq ?_ | (refine W.regS G ?_; dsimp only) | refine SW.nil ?_ | refine thenQ_normal ?_ | refine W.skip ?_ | refine W.exit ?_ | refine thenQ_exit ?_ | refine inBlockQ_exit ?_ | refine inBlockQ_normal ?_ | refine W.block ?_
        | (apply SW.toC; refine SWcall.go (And.intro e1 (And.intro e2 (And.intro e3 hb))) ?_) | (apply SW.toOp; refine SWop.go (And.intro e1 (And.intro e2 (And.intro e3 hb))) ?_) | (apply SW.toCG; first | refine SWcall.yes (And.intro e1 (And.intro e2 (And.intro e3 hb))) ?_ | refine SWcall.no (And.intro e1 (And.intro e2 (And.intro e3 hb))) ?_) | (apply SW.toG; first | refine SWop.yes (And.intro e1 (And.intro e2 (And.intro e3 hb))) ?_ | refine SWop.no (And.intro e1 (And.intro e2 (And.intro e3 hb))) ?_)
      refine W.drawS G [[], [0], [1, 0], [2, 1, 0], [], [], [4, 5], [6, 4, 5], [7, 6, 4, 5], [], [9], [10, 9], [8, 7, 6, 4, 5, 11, 10, 9], [3, 2, 1, 0, 12, 8, 7, 6, 4, 5, 11, 10, 9], [1, 0, 2, 3, 4, 5, 6, 7, 8, 9, 10, 11, 12, 13], [14, 1, 0, 2, 3, 4, 5, 6, 7, 8, 9, 10, 11, 12, 13]] hmix ?_
      dsimp only
      repeat' first
        | (apply DW.nil; (focus (decide +kernel)))
        | (apply DW.toC; refine DWcall.go (And.intro e1 (And.intro e2 (And.intro e3 hb))) ?_) | (apply DW.toOp; refine DWop.go (And.intro e1 (And.intro e2 (And.intro e3 hb))) ?_) | (apply DW.toCG; first | refine DWcall.yes (And.intro e1 (And.intro e2 (And.intro e3 hb))) ?_ | refine DWcall.no (And.intro e1 (And.intro e2 (And.intro e3 hb))) ?_) | (apply DW.toG; first | refine DWop.yes (And.intro e1 (And.intro e2 (And.intro e3 hb))) ?_ | refine DWop.no (And.intro e1 (And.intro e2 (And.intro e3 hb))) ?_)
      repeat' first
        | refine W.seq ?_ | (refine W.regS G ?_; dsimp only) | refine SW.nil ?_ | refine thenQ_normal ?_ | refine W.skip ?_ | refine W.exit ?_ | refine thenQ_exit ?_ | refine inBlockQ_exit ?_ | refine inBlockQ_normal ?_ | refine W.block ?_
        | (apply SW.toC; refine SWcall.go (And.intro e1 (And.intro e2 (And.intro e3 hb))) ?_) | (apply SW.toOp; refine SWop.go (And.intro e1 (And.intro e2 (And.intro e3 hb))) ?_) | (apply SW.toCG; first | refine SWcall.yes (And.intro e1 (And.intro e2 (And.intro e3 hb))) ?_ | refine SWcall.no (And.intro e1 (And.intro e2 (And.intro e3 hb))) ?_) | (apply SW.toG; first | refine SWop.yes (And.intro e1 (And.intro e2 (And.intro e3 hb))) ?_ | refine SWop.no (And.intro e1 (And.intro e2 (And.intro e3 hb))) ?_)
      refine ⟨⟨i + 1, by omega⟩, Imp.le ?_, by show _ - (i + 1) < _ - i; omega⟩
      exact sL_leZ (And.intro e (And.intro e1 (And.intro e2 (And.intro e3 hb))))
    have ht' := of_decide_eq_false ht
    obtain rfl : i = 64 := by omega
    have hh := hend rfl
    repeat' first
      | refine W.seq ?_ | (refine W.regS G ?_; dsimp only) | refine SW.nil ?_ | refine thenQ_normal ?_ | refine W.skip ?_ | refine W.exit ?_ | refine thenQ_exit ?_ | refine inBlockQ_exit ?_ | refine inBlockQ_normal ?_ | refine W.block ?_
      | (apply SW.toC; refine SWcall.go True.intro ?_) | (apply SW.toOp; refine SWop.go True.intro ?_) | (apply SW.toCG; first | refine SWcall.yes True.intro ?_ | refine SWcall.no True.intro ?_) | (apply SW.toG; first | refine SWop.yes True.intro ?_ | refine SWop.no True.intro ?_)
    refine Imp.le ?_
    exact sL_leZ hh
  have hT : takenF h b = mixF h (lineF h (xF b 64) firstB false) (lineF h (xF b 64) secondB true) := rfl
  generalize xF b 64 = x at hT ⊢
  have l1 := firstB_len
  have l2 := secondB_len
  repeat' first
    | refine W.seq ?_ | (refine W.regS G ?_; dsimp only) | refine SW.nil ?_ | refine thenQ_normal ?_ | refine W.skip ?_ | refine W.exit ?_ | refine thenQ_exit ?_ | refine inBlockQ_exit ?_ | refine inBlockQ_normal ?_
    | (apply SW.toC; refine SWcall.go (And.intro glB1 (And.intro glB2 (And.intro l1 (And.intro l2 lineS.eq_1)))) ?_) | (apply SW.toOp; refine SWop.go (And.intro glB1 (And.intro glB2 (And.intro l1 (And.intro l2 lineS.eq_1)))) ?_) | (apply SW.toCG; first | refine SWcall.yes (And.intro glB1 (And.intro glB2 (And.intro l1 (And.intro l2 lineS.eq_1)))) ?_ | refine SWcall.no (And.intro glB1 (And.intro glB2 (And.intro l1 (And.intro l2 lineS.eq_1)))) ?_) | (apply SW.toG; first | refine SWop.yes (And.intro glB1 (And.intro glB2 (And.intro l1 (And.intro l2 lineS.eq_1)))) ?_ | refine SWop.no (And.intro glB1 (And.intro glB2 (And.intro l1 (And.intro l2 lineS.eq_1)))) ?_)
  refine W.drawS G [[], [], [], [0, 1, 2], [], [], [], [4, 5, 6, 3, 0, 1, 2], [], [], [8, 3, 0, 1, 2, 7, 4, 5, 6, 9], [9, 7, 4, 5, 6, 3, 0, 1, 2, 10, 8]] hmix ?_
  dsimp only
  repeat' first
    | (apply DW.nil; (focus (decide +kernel)))
    | (apply DW.toC; refine DWcall.go (And.intro glB1 (And.intro glB2 (And.intro l1 (And.intro l2 lineS.eq_1)))) ?_) | (apply DW.toOp; refine DWop.go (And.intro glB1 (And.intro glB2 (And.intro l1 (And.intro l2 lineS.eq_1)))) ?_) | (apply DW.toCG; first | refine DWcall.yes (And.intro glB1 (And.intro glB2 (And.intro l1 (And.intro l2 lineS.eq_1)))) ?_ | refine DWcall.no (And.intro glB1 (And.intro glB2 (And.intro l1 (And.intro l2 lineS.eq_1)))) ?_) | (apply DW.toG; first | refine DWop.yes (And.intro glB1 (And.intro glB2 (And.intro l1 (And.intro l2 lineS.eq_1)))) ?_ | refine DWop.no (And.intro glB1 (And.intro glB2 (And.intro l1 (And.intro l2 lineS.eq_1)))) ?_)
  generalize lineF h x firstB false = l at hT ⊢
  generalize lineF h x secondB true = r at hT ⊢
  have hm : mixF h l r = [h.getD 1 0 + l.getD 2 0 + r.getD 3 0, h.getD 2 0 + l.getD 3 0 + r.getD 4 0, h.getD 3 0 + l.getD 4 0 + r.getD 0 0, h.getD 4 0 + l.getD 0 0 + r.getD 1 0, h.getD 0 0 + l.getD 1 0 + r.getD 2 0] := rfl
  repeat' first
    | refine W.seq ?_ | (refine W.regS G ?_; dsimp only) | refine SW.nil ?_ | refine thenQ_normal ?_ | refine W.skip ?_ | refine W.exit ?_ | refine thenQ_exit ?_ | refine inBlockQ_exit ?_ | refine inBlockQ_normal ?_ | refine W.block ?_
    | (apply SW.toC; refine SWcall.go True.intro ?_) | (apply SW.toOp; refine SWop.go True.intro ?_) | (apply SW.toCG; first | refine SWcall.yes True.intro ?_ | refine SWcall.no True.intro ?_) | (apply SW.toG; first | refine SWop.yes True.intro ?_ | refine SWop.no True.intro ?_)
  refine W.ret ?_
  repeat' first
    | refine thenQ_ret ?_
    | refine inBlockQ_ret ?_
  refine fin1Z True.intro ?_
  rw [hT, hm]
  exact leV_refl
noncomputable def blockS : FSpec := { run := fun ins => match ins with
  | [.agg 5 (.u 32 h), .agg 64 (.u 8 b)] => chk (b.length = 64) (some (.agg 5 (.u 32 (takenF h b)), []))
  | _ => none }
theorem block_sound : SoundFn Tryd.prog glB 9 blockS.run := by
  have G := good_of (P := Tryd.prog) glB_ro (l := [(11, takenS)]) (by simp only [List.forall_mem_cons]; exact ⟨taken_sound, by simp⟩)
  refine soundFn_of_W G Tryd.func9 (by decide) rfl (by decide) ?_
  intro ins ret outs h
  unfold blockS at h
  dsimp only at h
  split at h
  rotate_left
  · cases h
  rename_i h b
  obtain ⟨hb, h'⟩ := chk_some h
  clear h
  cases h'
  refine ⟨by show 2 ≤ 8; decide, fun w0 ext av => ?_⟩
  rw [Tryd.ntmps9, st0_eq]
  repeat' first
    | refine W.seq ?_ | (refine W.regS G ?_; dsimp only) | refine SW.nil ?_ | refine thenQ_normal ?_ | refine W.skip ?_ | refine W.exit ?_ | refine thenQ_exit ?_ | refine inBlockQ_exit ?_ | refine inBlockQ_normal ?_
    | (apply SW.toC; refine SWcall.go (And.intro hb takenS.eq_1) ?_) | (apply SW.toOp; refine SWop.go (And.intro hb takenS.eq_1) ?_) | (apply SW.toCG; first | refine SWcall.yes (And.intro hb takenS.eq_1) ?_ | refine SWcall.no (And.intro hb takenS.eq_1) ?_) | (apply SW.toG; first | refine SWop.yes (And.intro hb takenS.eq_1) ?_ | refine SWop.no (And.intro hb takenS.eq_1) ?_)
  refine W.drawS G [[], [], [0, 1], [2, 0, 1]] hmix ?_
  dsimp only
  repeat' first
    | (apply DW.nil; (focus (decide +kernel)))
    | (apply DW.toC; refine DWcall.go (And.intro hb takenS.eq_1) ?_) | (apply DW.toOp; refine DWop.go (And.intro hb takenS.eq_1) ?_) | (apply DW.toCG; first | refine DWcall.yes (And.intro hb takenS.eq_1) ?_ | refine DWcall.no (And.intro hb takenS.eq_1) ?_) | (apply DW.toG; first | refine DWop.yes (And.intro hb takenS.eq_1) ?_ | refine DWop.no (And.intro hb takenS.eq_1) ?_)
  repeat' first
    | refine W.seq ?_ | (refine W.regS G ?_; dsimp only) | refine SW.nil ?_ | refine thenQ_normal ?_ | refine W.skip ?_ | refine W.exit ?_ | refine thenQ_exit ?_ | refine inBlockQ_exit ?_ | refine inBlockQ_normal ?_ | refine W.block ?_
    | (apply SW.toC; refine SWcall.go (And.intro hb takenS.eq_1) ?_) | (apply SW.toOp; refine SWop.go (And.intro hb takenS.eq_1) ?_) | (apply SW.toCG; first | refine SWcall.yes (And.intro hb takenS.eq_1) ?_ | refine SWcall.no (And.intro hb takenS.eq_1) ?_) | (apply SW.toG; first | refine SWop.yes (And.intro hb takenS.eq_1) ?_ | refine SWop.no (And.intro hb takenS.eq_1) ?_)
  refine W.ret ?_
  repeat' first
    | refine thenQ_ret ?_
    | refine inBlockQ_ret ?_
  refine fin1Z (And.intro hb takenS.eq_1) ?_
  exact leV_refl

/-! ### a block, the document's way -/
def leW (b : List (BitVec 8)) (i : Nat) : BitVec 32 := BitVec.setWidth 32 (b.getD (4 * i) 0) ||| BitVec.setWidth 32 (b.getD (4 * i + 1) 0) <<< 8 ||| BitVec.setWidth 32 (b.getD (4 * i + 2) 0) <<< 16 ||| BitVec.setWidth 32 (b.getD (4 * i + 3) 0) <<< 24
def rxW (b : List (BitVec 8)) (k : Nat) : List (BitVec 32) := itN (fun i l => l ++ [leW b i]) k []
def rstep (cs : List (BitVec 32)) (q : Nat) (wh p : Int) (x v : List (BitVec 32)) : List (BitVec 32) :=
  [v.getD 4 0, upF (v.getD 0 0 + fF wh (v.getD 1 0) (v.getD 2 0) (v.getD 3 0) + x.getD p.toNat 0 + cs.getD q 0) (bitF q p.toNat) + v.getD 4 0, v.getD 1 0, upF (v.getD 2 0) 10, v.getD 3 0]
def rline (back : Bool) (cs x : List (BitVec 32)) (j : Nat) (v : List (BitVec 32)) : List (BitVec 32) := itN (fun j v => rstep cs (j / 16) (whF back (j / 16)) (placeF back (j % 16) (j / 16)) x v) j v
def rblockF (h : List (BitVec 32)) (b : List (BitVec 8)) : List (BitVec 32) := mixF h (rline false firstB (rxW b 16) 80 h) (rline true secondB (rxW b 16) 80 h)
theorem rxW_len (b : List (BitVec 8)) (k : Nat) : (rxW b k).length = k := by
  induction k with
  | zero => rfl
  | succ k ih => show (rxW b k ++ _).length = _; simp [ih]
theorem bitF_in (q p : Nat) (hq : q < 5) (hp : p < 16) : 5 ≤ bitF q p ∧ bitF q p ≤ 15 := by
  rw [bit_eq q hq p hp]
  exact turnsB_in _ (by omega)
noncomputable def rblockS : FSpec := { run := fun ins => match ins with
  | [.agg 5 (.u 32 h), .agg 64 (.u 8 b)] => some (.agg 5 (.u 32 (rblockF h b)), [])
  | _ => none }
theorem rblock_sound : SoundFn Tryd.prog glB 10 rblockS.run := by
  have G := good_of (P := Tryd.prog) glB_ro (l := [(12, placeS), (13, upS), (14, fS), (15, bitS)]) (by simp only [List.forall_mem_cons]; exact ⟨place_sound, up_sound, rf_sound, bit_sound, by simp⟩)
  refine soundFn_of_W G Tryd.func10 (by decide) rfl (by decide) ?_
  intro ins ret outs h
  unfold rblockS at h
  dsimp only at h
  split at h
  rotate_left
  · cases h
  rename_i h b
  cases h
  refine ⟨by show 2 ≤ 190; decide, fun w0 ext av => ?_⟩
  rw [Tryd.ntmps10, st0_eq]
  repeat' first
    | refine W.seq ?_ | (refine W.regS G ?_; dsimp only) | refine SW.nil ?_ | refine thenQ_normal ?_ | refine W.skip ?_ | refine W.exit ?_ | refine thenQ_exit ?_ | refine inBlockQ_exit ?_ | refine inBlockQ_normal ?_
    | (apply SW.toC; refine SWcall.go True.intro ?_) | (apply SW.toOp; refine SWop.go True.intro ?_) | (apply SW.toCG; first | refine SWcall.yes True.intro ?_ | refine SWcall.no True.intro ?_) | (apply SW.toG; first | refine SWop.yes True.intro ?_ | refine SWop.no True.intro ?_)
  refine W.mid (sL [(2, .p 2 0 0 0), (4, .p 4 0 0 0), (5, .gr 15 16)] [(2, .agg 5 (.u 32 h)), (4, .agg 5 (.u 32 (zeros 32 5))), (15, .row (.u 32 (rxW b 16)))] 190) ?_ ?_
  · repeat' first
      | refine W.seq ?_ | (refine W.regS G ?_; dsimp only) | refine SW.nil ?_ | refine thenQ_normal ?_ | refine W.skip ?_ | refine W.exit ?_ | refine thenQ_exit ?_ | refine inBlockQ_exit ?_ | refine inBlockQ_normal ?_ | refine W.block ?_
      | (apply SW.toC; refine SWcall.go True.intro ?_) | (apply SW.toOp; refine SWop.go True.intro ?_) | (apply SW.toCG; first | refine SWcall.yes True.intro ?_ | refine SWcall.no True.intro ?_) | (apply SW.toG; first | refine SWop.yes True.intro ?_ | refine SWop.no True.intro ?_)
    refine W.loopI (ι := {i : Nat // i ≤ 16}) (fun i => sL [(2, .p 2 0 0 0), (3, .p 3 0 0 0), (4, .p 4 0 0 0), (5, .gr 15 i.1), (6, .i i.1)] [(2, .agg 5 (.u 32 h)), (4, .agg 5 (.u 32 (zeros 32 5))), (3, .agg 64 (.u 8 b)), (15, .row (.u 32 (rxW b i.1)))] 190) (fun i => 16 - i.1) ⟨0, Nat.zero_le _⟩ (Imp.le ?_) ?_
    · exact sL_leZ True.intro
    rintro ⟨i, hi⟩
    have e : rxW b (i + 1) = rxW b i ++ [leW b i] := itN_succ _ _ _
    have l0 := rxW_len b i
    have hend : i = 16 → rxW b 16 = rxW b i := by rintro rfl; rfl
    generalize rxW b i = x at e l0 hend ⊢
    repeat' first
      | refine W.seq ?_ | (refine W.regS G ?_; dsimp only) | refine SW.nil ?_ | refine thenQ_normal ?_ | refine W.skip ?_ | refine W.exit ?_ | refine thenQ_exit ?_ | refine inBlockQ_exit ?_ | refine inBlockQ_normal ?_ | refine W.block ?_
      | (apply SW.toC; refine SWcall.go l0 ?_) | (apply SW.toOp; refine SWop.go l0 ?_) | (apply SW.toCG; first | refine SWcall.yes l0 ?_ | refine SWcall.no l0 ?_) | (apply SW.toG; first | refine SWop.yes l0 ?_ | refine SWop.no l0 ?_)
    refine W.condZ G l0 ?_ ?_
    all_goals intro ht
    · have ht' := of_decide_eq_true ht
      have e0 : (4 * (i : Int)) = ((4 * i : Nat) : Int) := by omega
      have e1 : (((4 * i : Nat) : Int) + 1) = ((4 * i + 1 : Nat) : Int) := by omega
      have e2 : (((4 * i : Nat) : Int) + 2) = ((4 * i + 2 : Nat) : Int) := by omega
      have e3 : (((4 * i : Nat) : Int) + 3) = ((4 * i + 3 : Nat) : Int) := by omega
      have hw : leW b i = BitVec.setWidth 32 (b.getD (4 * i) 0) ||| BitVec.setWidth 32 (b.getD (4 * i + 1) 0) <<< 8 ||| BitVec.setWidth 32 (b.getD (4 * i + 2) 0) <<< 16 ||| BitVec.setWidth 32 (b.getD (4 * i + 3) 0) <<< 24 := rfl
      repeat' first
        | refine W.seq ?_ | (refine W.regS G ?_; dsimp only) | refine SW.nil ?_ | refine thenQ_normal ?_ | refine W.skip ?_ | refine W.exit ?_ | refine thenQ_exit ?_ | refine inBlockQ_exit ?_ | refine inBlockQ_normal ?_ | refine W.block ?_
        | (apply SW.toC; refine SWcall.go (And.intro l0 (And.intro e0 (And.intro e1 (And.intro e2 e3)))) ?_) | (apply SW.toOp; refine SWop.go (And.intro l0 (And.intro e0 (And.intro e1 (And.intro e2 e3)))) ?_) | (apply SW.toCG; first | refine SWcall.yes (And.intro l0 (And.intro e0 (And.intro e1 (And.intro e2 e3)))) ?_ | refine SWcall.no (And.intro l0 (And.intro e0 (And.intro e1 (And.intro e2 e3)))) ?_) | (apply SW.toG; first | refine SWop.yes (And.intro l0 (And.intro e0 (And.intro e1 (And.intro e2 e3)))) ?_ | refine SWop.no (And.intro l0 (And.intro e0 (And.intro e1 (And.intro e2 e3)))) ?_)
      refine W.drawS G [[], [], [1], [2, 1], [3, 2, 1], [4, 3, 2, 1], [], [6], [7, 6], [8, 7, 6], [9, 8, 7, 6], [10, 9, 8, 7, 6], [11, 10, 9, 8, 7, 6], [5, 4, 3, 2, 1, 12, 11, 10, 9, 8, 7, 6], [], [14], [15, 14], [16, 15, 14], [17, 16, 15, 14], [18, 17, 16, 15, 14], [19, 18, 17, 16, 15, 14], [13, 5, 4, 3, 2, 1, 12, 11, 10, 9, 8, 7, 6, 20, 19, 18, 17, 16, 15, 14], [], [22], [23, 22], [24, 23, 22], [25, 24, 23, 22], [26, 25, 24, 23, 22], [27, 26, 25, 24, 23, 22], [21, 13, 5, 4, 3, 2, 1, 12, 11, 10, 9, 8, 7, 6, 20, 19, 18, 17, 16, 15, 14, 28, 27, 26, 25, 24, 23, 22], [29, 21, 13, 5, 4, 3, 2, 1, 12, 11, 10, 9, 8, 7, 6, 20, 19, 18, 17, 16, 15, 14, 28, 27, 26, 25, 24, 23, 22], [0, 30, 29, 21, 13, 5, 4, 3, 2, 1, 12, 11, 10, 9, 8, 7, 6, 20, 19, 18, 17, 16, 15, 14, 28, 27, 26, 25, 24, 23, 22], [31, 0, 30, 29, 21, 13, 5, 4, 3, 2, 1, 12, 11, 10, 9, 8, 7, 6, 20, 19, 18, 17, 16, 15, 14, 28, 27, 26, 25, 24, 23, 22]] hmix ?_
      dsimp only
      repeat' first
        | (apply DW.nil; (focus (decide +kernel)))
        | (apply DW.toC; refine DWcall.go (And.intro l0 (And.intro e0 (And.intro e1 (And.intro e2 e3)))) ?_) | (apply DW.toOp; refine DWop.go (And.intro l0 (And.intro e0 (And.intro e1 (And.intro e2 e3)))) ?_) | (apply DW.toCG; first | refine DWcall.yes (And.intro l0 (And.intro e0 (And.intro e1 (And.intro e2 e3)))) ?_ | refine DWcall.no (And.intro l0 (And.intro e0 (And.intro e1 (And.intro e2 e3)))) ?_) | (apply DW.toG; first | refine DWop.yes (And.intro l0 (And.intro e0 (And.intro e1 (And.intro e2 e3)))) ?_ | refine DWop.no (And.intro l0 (And.intro e0 (And.intro e1 (And.intro e2 e3)))) ?_)
      repeat' first
        | refine W.seq ?_ | (refine W.regS G ?_; dsimp only) | refine SW.nil ?_ | refine thenQ_normal ?_ | refine W.skip ?_ | refine W.exit ?_ | refine thenQ_exit ?_ | refine inBlockQ_exit ?_ | refine inBlockQ_normal ?_ | refine W.block ?_
        | (apply SW.toC; refine SWcall.go (And.intro l0 (And.intro e0 (And.intro e1 (And.intro e2 e3)))) ?_) | (apply SW.toOp; refine SWop.go (And.intro l0 (And.intro e0 (And.intro e1 (And.intro e2 e3)))) ?_) | (apply SW.toCG; first | refine SWcall.yes (And.intro l0 (And.intro e0 (And.intro e1 (And.intro e2 e3)))) ?_ | refine SWcall.no (And.intro l0 (And.intro e0 (And.intro e1 (And.intro e2 e3)))) ?_) | (apply SW.toG; first | refine SWop.yes (And.intro l0 (And.intro e0 (And.intro e1 (And.intro e2 e3)))) ?_ | refine SWop.no (And.intro l0 (And.intro e0 (And.intro e1 (And.intro e2 e3)))) ?_)
      refine ⟨⟨i + 1, by omega⟩, Imp.le ?_, by show _ - (i + 1) < _ - i; omega⟩
      exact sL_leZ (And.intro e (And.intro hw (And.intro l0 (And.intro e0 (And.intro e1 (And.intro e2 e3))))))
    have ht' := of_decide_eq_false ht
    obtain rfl : i = 16 := by omega
    have hh := hend rfl
    repeat' first
      | refine W.seq ?_ | (refine W.regS G ?_; dsimp only) | refine SW.nil ?_ | refine thenQ_normal ?_ | refine W.skip ?_ | refine W.exit ?_ | refine thenQ_exit ?_ | refine inBlockQ_exit ?_ | refine inBlockQ_normal ?_ | refine W.block ?_
      | (apply SW.toC; refine SWcall.go l0 ?_) | (apply SW.toOp; refine SWop.go l0 ?_) | (apply SW.toCG; first | refine SWcall.yes l0 ?_ | refine SWcall.no l0 ?_) | (apply SW.toG; first | refine SWop.yes l0 ?_ | refine SWop.no l0 ?_)
    refine Imp.le ?_
    exact sL_leZ (And.intro hh l0)
  have hT : rblockF h b = mixF h (rline false firstB (rxW b 16) 80 h) (rline true secondB (rxW b 16) 80 h) := rfl
  have lx := rxW_len b 16
  generalize rxW b 16 = x at hT lx ⊢
  have hf : [0#32, 1518500249#32, 1859775393#32, 2400959708#32, 2840853838#32] = firstB := rfl
  have hs : [1352829926#32, 1548603684#32, 1836072691#32, 2053994217#32, 0#32] = secondB := rfl
  have l1 := firstB_len
  have l2 := secondB_len
  repeat' first
    | refine W.seq ?_ | (refine W.regS G ?_; dsimp only) | refine SW.nil ?_ | refine thenQ_normal ?_ | refine W.skip ?_ | refine W.exit ?_ | refine thenQ_exit ?_ | refine inBlockQ_exit ?_ | refine inBlockQ_normal ?_
    | (apply SW.toC; refine SWcall.go (And.intro hf hs) ?_) | (apply SW.toOp; refine SWop.go (And.intro hf hs) ?_) | (apply SW.toCG; first | refine SWcall.yes (And.intro hf hs) ?_ | refine SWcall.no (And.intro hf hs) ?_) | (apply SW.toG; first | refine SWop.yes (And.intro hf hs) ?_ | refine SWop.no (And.intro hf hs) ?_)
  refine W.drawS G [[], [], [], [], [2, 0, 3], [3, 1, 4, 2, 0]] hmix ?_
  dsimp only
  repeat' first
    | (apply DW.nil; (focus (decide +kernel)))
    | (apply DW.toC; refine DWcall.go (And.intro hf hs) ?_) | (apply DW.toOp; refine DWop.go (And.intro hf hs) ?_) | (apply DW.toCG; first | refine DWcall.yes (And.intro hf hs) ?_ | refine DWcall.no (And.intro hf hs) ?_) | (apply DW.toG; first | refine DWop.yes (And.intro hf hs) ?_ | refine DWop.no (And.intro hf hs) ?_)
  refine W.imp (s := sL [(2, .p 2 0 0 0), (4, .p 4 0 0 0), (5, .sl true (.u 32 x)), (7, .sl true (.u 32 firstB)), (8, .sl true (.u 32 secondB)), (9, .p 9 0 0 0), (10, .p 10 0 0 0)] [(2, .agg 5 (.u 32 h)), (4, .agg 5 (.u 32 (zeros 32 5))), (9, .agg 5 (.u 32 h)), (10, .agg 5 (.u 32 h))] 190) ?_ (Imp.trans (Imp.frz 15 (by decide) (Le_refl _)) (Imp.trans (Imp.frz 52 (by decide) (Le_refl _)) (Imp.frz 53 (by decide) ?_)))
  rotate_left
  · exact sL_leZ (And.intro l1 (And.intro l2 lx))
  repeat' first
    | refine W.seq ?_ | (refine W.regS G ?_; dsimp only) | refine SW.nil ?_ | refine thenQ_normal ?_ | refine W.skip ?_ | refine W.exit ?_ | refine thenQ_exit ?_ | refine inBlockQ_exit ?_ | refine inBlockQ_normal ?_
    | (apply SW.toC; refine SWcall.go (And.intro l1 (And.intro l2 lx)) ?_) | (apply SW.toOp; refine SWop.go (And.intro l1 (And.intro l2 lx)) ?_) | (apply SW.toCG; first | refine SWcall.yes (And.intro l1 (And.intro l2 lx)) ?_ | refine SWcall.no (And.intro l1 (And.intro l2 lx)) ?_) | (apply SW.toG; first | refine SWop.yes (And.intro l1 (And.intro l2 lx)) ?_ | refine SWop.no (And.intro l1 (And.intro l2 lx)) ?_)
  refine W.mid (sL [(2, .p 2 0 0 0), (4, .p 4 0 0 0), (9, .p 9 0 0 0), (10, .p 10 0 0 0)] [(2, .agg 5 (.u 32 h)), (4, .agg 5 (.u 32 (zeros 32 5))), (9, .agg 5 (.u 32 (rline false firstB x 80 h))), (10, .agg 5 (.u 32 (rline true secondB x 80 h)))] 190) ?_ ?_
  · repeat' first
      | refine W.seq ?_ | (refine W.regS G ?_; dsimp only) | refine SW.nil ?_ | refine thenQ_normal ?_ | refine W.skip ?_ | refine W.exit ?_ | refine thenQ_exit ?_ | refine inBlockQ_exit ?_ | refine inBlockQ_normal ?_ | refine W.block ?_
      | (apply SW.toC; refine SWcall.go (And.intro l1 (And.intro l2 lx)) ?_) | (apply SW.toOp; refine SWop.go (And.intro l1 (And.intro l2 lx)) ?_) | (apply SW.toCG; first | refine SWcall.yes (And.intro l1 (And.intro l2 lx)) ?_ | refine SWcall.no (And.intro l1 (And.intro l2 lx)) ?_) | (apply SW.toG; first | refine SWop.yes (And.intro l1 (And.intro l2 lx)) ?_ | refine SWop.no (And.intro l1 (And.intro l2 lx)) ?_)
    refine W.loopI (ι := {j : Nat // j ≤ 80}) (fun j => sL [(2, .p 2 0 0 0), (4, .p 4 0 0 0), (5, .sl true (.u 32 x)), (7, .sl true (.u 32 firstB)), (8, .sl true (.u 32 secondB)), (9, .p 9 0 0 0), (10, .p 10 0 0 0), (11, .i j.1)] [(2, .agg 5 (.u 32 h)), (4, .agg 5 (.u 32 (zeros 32 5))), (9, .agg 5 (.u 32 (rline false firstB x j.1 h))), (10, .agg 5 (.u 32 (rline true secondB x j.1 h)))] 190) (fun j => 80 - j.1) ⟨0, Nat.zero_le _⟩ (Imp.le ?_) ?_
    · exact sL_leZ (And.intro l1 (And.intro l2 lx))
    rintro ⟨j, hj⟩
    have ea : rline false firstB x (j + 1) h = rstep firstB (j / 16) (whF false (j / 16)) (placeF false (j % 16) (j / 16)) x (rline false firstB x j h) := itN_succ _ _ _
    have eb : rline true secondB x (j + 1) h = rstep secondB (j / 16) (whF true (j / 16)) (placeF true (j % 16) (j / 16)) x (rline true secondB x j h) := itN_succ _ _ _
    have hend : j = 80 → rline false firstB x 80 h = rline false firstB x j h ∧ rline true secondB x 80 h = rline true secondB x j h := by rintro rfl; exact ⟨rfl, rfl⟩
    generalize rline false firstB x j h = v at ea hend ⊢
    generalize rline true secondB x j h = w at eb hend ⊢
    repeat' first
      | refine W.seq ?_ | (refine W.regS G ?_; dsimp only) | refine SW.nil ?_ | refine thenQ_normal ?_ | refine W.skip ?_ | refine W.exit ?_ | refine thenQ_exit ?_ | refine inBlockQ_exit ?_ | refine inBlockQ_normal ?_ | refine W.block ?_
      | (apply SW.toC; refine SWcall.go True.intro ?_) | (apply SW.toOp; refine SWop.go True.intro ?_) | (apply SW.toCG; first | refine SWcall.yes True.intro ?_ | refine SWcall.no True.intro ?_) | (apply SW.toG; first | refine SWop.yes True.intro ?_ | refine SWop.no True.intro ?_)
    refine W.condZ G True.intro ?_ ?_
    all_goals intro ht
    · have ht' := of_decide_eq_true ht
      have e1 : ((j : Int) / 16) = ((j / 16 : Nat) : Int) := by omega
      have e2 : ((j : Int) % 16) = ((j % 16 : Nat) : Int) := by omega
      have hq : j / 16 < 5 := by omega
      have hm : j % 16 < 16 := by omega
      have hw1 : whF false (j / 16) = ((j / 16 : Nat) : Int) := rfl
      have hw2 : whF true (j / 16) = 4 - ((j / 16 : Nat) : Int) := rfl
      have p1 := placeF_in false (j % 16) (j / 16) hm
      have p2 := placeF_in true (j % 16) (j / 16) hm
      rw [hw1] at ea
      rw [hw2] at eb
      generalize j / 16 = q at e1 hq ea eb p1 p2 ⊢
      generalize j % 16 = m at e2 hm ea eb p1 p2 ⊢
      generalize hp1 : placeF false m q = a1 at ea p1
      generalize hp2 : placeF true m q = a2 at eb p2
      obtain ⟨A1, rfl⟩ : ∃ A1 : Nat, a1 = A1 := ⟨a1.toNat, by omega⟩
      obtain ⟨A2, rfl⟩ : ∃ A2 : Nat, a2 = A2 := ⟨a2.toNat, by omega⟩
      have b1 := bitF_in q A1 hq (by omega)
      have b2 := bitF_in q A2 hq (by omega)
      have hr1 : rstep firstB q (q : Int) (A1 : Int) x v = [v.getD 4 0, upF (v.getD 0 0 + fF q (v.getD 1 0) (v.getD 2 0) (v.getD 3 0) + x.getD A1 0 + firstB.getD q 0) (bitF q A1) + v.getD 4 0, v.getD 1 0, upF (v.getD 2 0) 10, v.getD 3 0] := rfl
      have hr2 : rstep secondB q (4 - (q : Int)) (A2 : Int) x w = [w.getD 4 0, upF (w.getD 0 0 + fF (4 - (q : Int)) (w.getD 1 0) (w.getD 2 0) (w.getD 3 0) + x.getD A2 0 + secondB.getD q 0) (bitF q A2) + w.getD 4 0, w.getD 1 0, upF (w.getD 2 0) 10, w.getD 3 0] := rfl
      repeat' first
        | refine W.seq ?_ | (refine W.regS G ?_; dsimp only) | refine SW.nil ?_ | refine thenQ_normal ?_ | refine W.skip ?_ | refine W.exit ?_ | refine thenQ_exit ?_ | refine inBlockQ_exit ?_ | refine inBlockQ_normal ?_
        | (apply SW.toC; refine SWcall.go (And.intro e1 (And.intro e2 (And.intro placeS.eq_1 (And.intro hp1 (And.intro hp2 (And.intro lx (And.intro l1 (And.intro l2 (And.intro fS.eq_1 (And.intro bitS.eq_1 upS.eq_1)))))))))) ?_) | (apply SW.toOp; refine SWop.go (And.intro e1 (And.intro e2 (And.intro placeS.eq_1 (And.intro hp1 (And.intro hp2 (And.intro lx (And.intro l1 (And.intro l2 (And.intro fS.eq_1 (And.intro bitS.eq_1 upS.eq_1)))))))))) ?_) | (apply SW.toCG; first | refine SWcall.yes (And.intro e1 (And.intro e2 (And.intro placeS.eq_1 (And.intro hp1 (And.intro hp2 (And.intro lx (And.intro l1 (And.intro l2 (And.intro fS.eq_1 (And.intro bitS.eq_1 upS.eq_1)))))))))) ?_ | refine SWcall.no (And.intro e1 (And.intro e2 (And.intro placeS.eq_1 (And.intro hp1 (And.intro hp2 (And.intro lx (And.intro l1 (And.intro l2 (And.intro fS.eq_1 (And.intro bitS.eq_1 upS.eq_1)))))))))) ?_) | (apply SW.toG; first | refine SWop.yes (And.intro e1 (And.intro e2 (And.intro placeS.eq_1 (And.intro hp1 (And.intro hp2 (And.intro lx (And.intro l1 (And.intro l2 (And.intro fS.eq_1 (And.intro bitS.eq_1 upS.eq_1)))))))))) ?_ | refine SWop.no (And.intro e1 (And.intro e2 (And.intro placeS.eq_1 (And.intro hp1 (And.intro hp2 (And.intro lx (And.intro l1 (And.intro l2 (And.intro fS.eq_1 (And.intro bitS.eq_1 upS.eq_1)))))))))) ?_)
      refine W.block ?_
      repeat' first
        | refine W.seq ?_ | (refine W.regS G ?_; dsimp only) | refine SW.nil ?_ | refine thenQ_normal ?_ | refine W.skip ?_ | refine W.exit ?_ | refine thenQ_exit ?_ | refine inBlockQ_exit ?_ | refine inBlockQ_normal ?_
        | (apply SW.toC; refine SWcall.go (And.intro e1 (And.intro e2 (And.intro placeS.eq_1 (And.intro hp1 (And.intro hp2 (And.intro lx (And.intro l1 (And.intro l2 (And.intro fS.eq_1 (And.intro bitS.eq_1 upS.eq_1)))))))))) ?_) | (apply SW.toOp; refine SWop.go (And.intro e1 (And.intro e2 (And.intro placeS.eq_1 (And.intro hp1 (And.intro hp2 (And.intro lx (And.intro l1 (And.intro l2 (And.intro fS.eq_1 (And.intro bitS.eq_1 upS.eq_1)))))))))) ?_) | (apply SW.toCG; first | refine SWcall.yes (And.intro e1 (And.intro e2 (And.intro placeS.eq_1 (And.intro hp1 (And.intro hp2 (And.intro lx (And.intro l1 (And.intro l2 (And.intro fS.eq_1 (And.intro bitS.eq_1 upS.eq_1)))))))))) ?_ | refine SWcall.no (And.intro e1 (And.intro e2 (And.intro placeS.eq_1 (And.intro hp1 (And.intro hp2 (And.intro lx (And.intro l1 (And.intro l2 (And.intro fS.eq_1 (And.intro bitS.eq_1 upS.eq_1)))))))))) ?_) | (apply SW.toG; first | refine SWop.yes (And.intro e1 (And.intro e2 (And.intro placeS.eq_1 (And.intro hp1 (And.intro hp2 (And.intro lx (And.intro l1 (And.intro l2 (And.intro fS.eq_1 (And.intro bitS.eq_1 upS.eq_1)))))))))) ?_ | refine SWop.no (And.intro e1 (And.intro e2 (And.intro placeS.eq_1 (And.intro hp1 (And.intro hp2 (And.intro lx (And.intro l1 (And.intro l2 (And.intro fS.eq_1 (And.intro bitS.eq_1 upS.eq_1)))))))))) ?_)
      refine W.drawS G [[], [0], [], [], [3], [], [5], [], [7], [2, 4, 3, 6, 5, 8, 7], [1, 0, 9, 2, 4, 3, 6, 5, 8, 7], [], [], [11, 12], [13, 11, 12], [10, 1, 0, 9, 2, 4, 3, 6, 5, 8, 7, 14, 13, 11, 12], [], [], [16, 17], [18, 16, 17], [15, 10, 1, 0, 9, 2, 4, 3, 6, 5, 8, 7, 14, 13, 11, 12, 19, 18, 16, 17], [], [], [21, 22, 9, 2, 4, 3, 6, 5, 8, 7], [20, 15, 10, 1, 0, 9, 2, 4, 3, 6, 5, 8, 7, 14, 13, 11, 12, 19, 18, 16, 17, 23, 21, 22], [], [25], [24, 20, 15, 10, 1, 0, 9, 2, 4, 3, 6, 5, 8, 7, 14, 13, 11, 12, 19, 18, 16, 17, 23, 21, 22, 26, 25], [27, 24, 20, 15, 10, 1, 0, 9, 2, 4, 3, 6, 5, 8, 7, 14, 13, 11, 12, 19, 18, 16, 17, 23, 21, 22, 26, 25]] hmix ?_
      dsimp only
      repeat' first
        | (apply DW.nil; (focus (decide +kernel)))
        | (apply DW.toC; refine DWcall.go (And.intro e1 (And.intro e2 (And.intro placeS.eq_1 (And.intro hp1 (And.intro hp2 (And.intro lx (And.intro l1 (And.intro l2 (And.intro fS.eq_1 (And.intro bitS.eq_1 upS.eq_1)))))))))) ?_) | (apply DW.toOp; refine DWop.go (And.intro e1 (And.intro e2 (And.intro placeS.eq_1 (And.intro hp1 (And.intro hp2 (And.intro lx (And.intro l1 (And.intro l2 (And.intro fS.eq_1 (And.intro bitS.eq_1 upS.eq_1)))))))))) ?_) | (apply DW.toCG; first | refine DWcall.yes (And.intro e1 (And.intro e2 (And.intro placeS.eq_1 (And.intro hp1 (And.intro hp2 (And.intro lx (And.intro l1 (And.intro l2 (And.intro fS.eq_1 (And.intro bitS.eq_1 upS.eq_1)))))))))) ?_ | refine DWcall.no (And.intro e1 (And.intro e2 (And.intro placeS.eq_1 (And.intro hp1 (And.intro hp2 (And.intro lx (And.intro l1 (And.intro l2 (And.intro fS.eq_1 (And.intro bitS.eq_1 upS.eq_1)))))))))) ?_) | (apply DW.toG; first | refine DWop.yes (And.intro e1 (And.intro e2 (And.intro placeS.eq_1 (And.intro hp1 (And.intro hp2 (And.intro lx (And.intro l1 (And.intro l2 (And.intro fS.eq_1 (And.intro bitS.eq_1 upS.eq_1)))))))))) ?_ | refine DWop.no (And.intro e1 (And.intro e2 (And.intro placeS.eq_1 (And.intro hp1 (And.intro hp2 (And.intro lx (And.intro l1 (And.intro l2 (And.intro fS.eq_1 (And.intro bitS.eq_1 upS.eq_1)))))))))) ?_)
      repeat' first
        | refine W.seq ?_ | (refine W.regS G ?_; dsimp only) | refine SW.nil ?_ | refine thenQ_normal ?_ | refine W.skip ?_ | refine W.exit ?_ | refine thenQ_exit ?_ | refine inBlockQ_exit ?_ | refine inBlockQ_normal ?_
        | (apply SW.toC; refine SWcall.go (And.intro e1 (And.intro e2 (And.intro placeS.eq_1 (And.intro hp1 (And.intro hp2 (And.intro lx (And.intro l1 (And.intro l2 (And.intro fS.eq_1 (And.intro bitS.eq_1 upS.eq_1)))))))))) ?_) | (apply SW.toOp; refine SWop.go (And.intro e1 (And.intro e2 (And.intro placeS.eq_1 (And.intro hp1 (And.intro hp2 (And.intro lx (And.intro l1 (And.intro l2 (And.intro fS.eq_1 (And.intro bitS.eq_1 upS.eq_1)))))))))) ?_) | (apply SW.toCG; first | refine SWcall.yes (And.intro e1 (And.intro e2 (And.intro placeS.eq_1 (And.intro hp1 (And.intro hp2 (And.intro lx (And.intro l1 (And.intro l2 (And.intro fS.eq_1 (And.intro bitS.eq_1 upS.eq_1)))))))))) ?_ | refine SWcall.no (And.intro e1 (And.intro e2 (And.intro placeS.eq_1 (And.intro hp1 (And.intro hp2 (And.intro lx (And.intro l1 (And.intro l2 (And.intro fS.eq_1 (And.intro bitS.eq_1 upS.eq_1)))))))))) ?_) | (apply SW.toG; first | refine SWop.yes (And.intro e1 (And.intro e2 (And.intro placeS.eq_1 (And.intro hp1 (And.intro hp2 (And.intro lx (And.intro l1 (And.intro l2 (And.intro fS.eq_1 (And.intro bitS.eq_1 upS.eq_1)))))))))) ?_ | refine SWop.no (And.intro e1 (And.intro e2 (And.intro placeS.eq_1 (And.intro hp1 (And.intro hp2 (And.intro lx (And.intro l1 (And.intro l2 (And.intro fS.eq_1 (And.intro bitS.eq_1 upS.eq_1)))))))))) ?_)
      refine W.drawS G [[], [0], [], [], [3], [], [5], [6, 5], [], [8], [1, 0, 2, 4, 3, 7, 6, 5, 9, 8], [10, 1, 0, 2, 4, 3, 7, 6, 5, 9, 8]] hmix ?_
      dsimp only
      repeat' first
        | (apply DW.nil; (focus (decide +kernel)))
        | (apply DW.toC; refine DWcall.go (And.intro e1 (And.intro e2 (And.intro placeS.eq_1 (And.intro hp1 (And.intro hp2 (And.intro lx (And.intro l1 (And.intro l2 (And.intro fS.eq_1 (And.intro bitS.eq_1 upS.eq_1)))))))))) ?_) | (apply DW.toOp; refine DWop.go (And.intro e1 (And.intro e2 (And.intro placeS.eq_1 (And.intro hp1 (And.intro hp2 (And.intro lx (And.intro l1 (And.intro l2 (And.intro fS.eq_1 (And.intro bitS.eq_1 upS.eq_1)))))))))) ?_) | (apply DW.toCG; first | refine DWcall.yes (And.intro e1 (And.intro e2 (And.intro placeS.eq_1 (And.intro hp1 (And.intro hp2 (And.intro lx (And.intro l1 (And.intro l2 (And.intro fS.eq_1 (And.intro bitS.eq_1 upS.eq_1)))))))))) ?_ | refine DWcall.no (And.intro e1 (And.intro e2 (And.intro placeS.eq_1 (And.intro hp1 (And.intro hp2 (And.intro lx (And.intro l1 (And.intro l2 (And.intro fS.eq_1 (And.intro bitS.eq_1 upS.eq_1)))))))))) ?_) | (apply DW.toG; first | refine DWop.yes (And.intro e1 (And.intro e2 (And.intro placeS.eq_1 (And.intro hp1 (And.intro hp2 (And.intro lx (And.intro l1 (And.intro l2 (And.intro fS.eq_1 (And.intro bitS.eq_1 upS.eq_1)))))))))) ?_ | refine DWop.no (And.intro e1 (And.intro e2 (And.intro placeS.eq_1 (And.intro hp1 (And.intro hp2 (And.intro lx (And.intro l1 (And.intro l2 (And.intro fS.eq_1 (And.intro bitS.eq_1 upS.eq_1)))))))))) ?_)
      repeat' first
        | refine W.seq ?_ | (refine W.regS G ?_; dsimp only) | refine SW.nil ?_ | refine thenQ_normal ?_ | refine W.skip ?_ | refine W.exit ?_ | refine thenQ_exit ?_ | refine inBlockQ_exit ?_ | refine inBlockQ_normal ?_
        | (apply SW.toC; refine SWcall.go (And.intro e1 (And.intro e2 (And.intro placeS.eq_1 (And.intro hp1 (And.intro hp2 (And.intro lx (And.intro l1 (And.intro l2 (And.intro fS.eq_1 (And.intro bitS.eq_1 upS.eq_1)))))))))) ?_) | (apply SW.toOp; refine SWop.go (And.intro e1 (And.intro e2 (And.intro placeS.eq_1 (And.intro hp1 (And.intro hp2 (And.intro lx (And.intro l1 (And.intro l2 (And.intro fS.eq_1 (And.intro bitS.eq_1 upS.eq_1)))))))))) ?_) | (apply SW.toCG; first | refine SWcall.yes (And.intro e1 (And.intro e2 (And.intro placeS.eq_1 (And.intro hp1 (And.intro hp2 (And.intro lx (And.intro l1 (And.intro l2 (And.intro fS.eq_1 (And.intro bitS.eq_1 upS.eq_1)))))))))) ?_ | refine SWcall.no (And.intro e1 (And.intro e2 (And.intro placeS.eq_1 (And.intro hp1 (And.intro hp2 (And.intro lx (And.intro l1 (And.intro l2 (And.intro fS.eq_1 (And.intro bitS.eq_1 upS.eq_1)))))))))) ?_) | (apply SW.toG; first | refine SWop.yes (And.intro e1 (And.intro e2 (And.intro placeS.eq_1 (And.intro hp1 (And.intro hp2 (And.intro lx (And.intro l1 (And.intro l2 (And.intro fS.eq_1 (And.intro bitS.eq_1 upS.eq_1)))))))))) ?_ | refine SWop.no (And.intro e1 (And.intro e2 (And.intro placeS.eq_1 (And.intro hp1 (And.intro hp2 (And.intro lx (And.intro l1 (And.intro l2 (And.intro fS.eq_1 (And.intro bitS.eq_1 upS.eq_1)))))))))) ?_)
      refine W.drawS G [[], [0], [], [2], [], [4], [], [6], [], [8], [3, 2, 5, 4, 7, 6, 9, 8], [1, 0, 10, 3, 2, 5, 4, 7, 6, 9, 8], [], [], [12, 13], [14, 12, 13], [11, 1, 0, 10, 3, 2, 5, 4, 7, 6, 9, 8, 15, 14, 12, 13], [], [], [17, 18], [19, 17, 18], [16, 11, 1, 0, 10, 3, 2, 5, 4, 7, 6, 9, 8, 15, 14, 12, 13, 20, 19, 17, 18], [], [], [22, 23, 10, 3, 2, 5, 4, 7, 6, 9, 8], [21, 16, 11, 1, 0, 10, 3, 2, 5, 4, 7, 6, 9, 8, 15, 14, 12, 13, 20, 19, 17, 18, 24, 22, 23], [], [26], [25, 21, 16, 11, 1, 0, 10, 3, 2, 5, 4, 7, 6, 9, 8, 15, 14, 12, 13, 20, 19, 17, 18, 24, 22, 23, 27, 26], [28, 25, 21, 16, 11, 1, 0, 10, 3, 2, 5, 4, 7, 6, 9, 8, 15, 14, 12, 13, 20, 19, 17, 18, 24, 22, 23, 27, 26]] hmix ?_
      dsimp only
      repeat' first
        | (apply DW.nil; (focus (decide +kernel)))
        | (apply DW.toC; refine DWcall.go (And.intro e1 (And.intro e2 (And.intro placeS.eq_1 (And.intro hp1 (And.intro hp2 (And.intro lx (And.intro l1 (And.intro l2 (And.intro fS.eq_1 (And.intro bitS.eq_1 upS.eq_1)))))))))) ?_) | (apply DW.toOp; refine DWop.go (And.intro e1 (And.intro e2 (And.intro placeS.eq_1 (And.intro hp1 (And.intro hp2 (And.intro lx (And.intro l1 (And.intro l2 (And.intro fS.eq_1 (And.intro bitS.eq_1 upS.eq_1)))))))))) ?_) | (apply DW.toCG; first | refine DWcall.yes (And.intro e1 (And.intro e2 (And.intro placeS.eq_1 (And.intro hp1 (And.intro hp2 (And.intro lx (And.intro l1 (And.intro l2 (And.intro fS.eq_1 (And.intro bitS.eq_1 upS.eq_1)))))))))) ?_ | refine DWcall.no (And.intro e1 (And.intro e2 (And.intro placeS.eq_1 (And.intro hp1 (And.intro hp2 (And.intro lx (And.intro l1 (And.intro l2 (And.intro fS.eq_1 (And.intro bitS.eq_1 upS.eq_1)))))))))) ?_) | (apply DW.toG; first | refine DWop.yes (And.intro e1 (And.intro e2 (And.intro placeS.eq_1 (And.intro hp1 (And.intro hp2 (And.intro lx (And.intro l1 (And.intro l2 (And.intro fS.eq_1 (And.intro bitS.eq_1 upS.eq_1)))))))))) ?_ | refine DWop.no (And.intro e1 (And.intro e2 (And.intro placeS.eq_1 (And.intro hp1 (And.intro hp2 (And.intro lx (And.intro l1 (And.intro l2 (And.intro fS.eq_1 (And.intro bitS.eq_1 upS.eq_1)))))))))) ?_)
      repeat' first
        | refine W.seq ?_ | (refine W.regS G ?_; dsimp only) | refine SW.nil ?_ | refine thenQ_normal ?_ | refine W.skip ?_ | refine W.exit ?_ | refine thenQ_exit ?_ | refine inBlockQ_exit ?_ | refine inBlockQ_normal ?_
        | (apply SW.toC; refine SWcall.go (And.intro e1 (And.intro e2 (And.intro placeS.eq_1 (And.intro hp1 (And.intro hp2 (And.intro lx (And.intro l1 (And.intro l2 (And.intro fS.eq_1 (And.intro bitS.eq_1 upS.eq_1)))))))))) ?_) | (apply SW.toOp; refine SWop.go (And.intro e1 (And.intro e2 (And.intro placeS.eq_1 (And.intro hp1 (And.intro hp2 (And.intro lx (And.intro l1 (And.intro l2 (And.intro fS.eq_1 (And.intro bitS.eq_1 upS.eq_1)))))))))) ?_) | (apply SW.toCG; first | refine SWcall.yes (And.intro e1 (And.intro e2 (And.intro placeS.eq_1 (And.intro hp1 (And.intro hp2 (And.intro lx (And.intro l1 (And.intro l2 (And.intro fS.eq_1 (And.intro bitS.eq_1 upS.eq_1)))))))))) ?_ | refine SWcall.no (And.intro e1 (And.intro e2 (And.intro placeS.eq_1 (And.intro hp1 (And.intro hp2 (And.intro lx (And.intro l1 (And.intro l2 (And.intro fS.eq_1 (And.intro bitS.eq_1 upS.eq_1)))))))))) ?_) | (apply SW.toG; first | refine SWop.yes (And.intro e1 (And.intro e2 (And.intro placeS.eq_1 (And.intro hp1 (And.intro hp2 (And.intro lx (And.intro l1 (And.intro l2 (And.intro fS.eq_1 (And.intro bitS.eq_1 upS.eq_1)))))))))) ?_ | refine SWop.no (And.intro e1 (And.intro e2 (And.intro placeS.eq_1 (And.intro hp1 (And.intro hp2 (And.intro lx (And.intro l1 (And.intro l2 (And.intro fS.eq_1 (And.intro bitS.eq_1 upS.eq_1)))))))))) ?_)
      refine W.drawS G [[], [0], [], [], [3], [], [5], [6, 5], [], [8], [1, 0, 2, 4, 3, 7, 6, 5, 9, 8], [10, 1, 0, 2, 4, 3, 7, 6, 5, 9, 8]] hmix ?_
      dsimp only
      repeat' first
        | (apply DW.nil; (focus (decide +kernel)))
        | (apply DW.toC; refine DWcall.go (And.intro e1 (And.intro e2 (And.intro placeS.eq_1 (And.intro hp1 (And.intro hp2 (And.intro lx (And.intro l1 (And.intro l2 (And.intro fS.eq_1 (And.intro bitS.eq_1 upS.eq_1)))))))))) ?_) | (apply DW.toOp; refine DWop.go (And.intro e1 (And.intro e2 (And.intro placeS.eq_1 (And.intro hp1 (And.intro hp2 (And.intro lx (And.intro l1 (And.intro l2 (And.intro fS.eq_1 (And.intro bitS.eq_1 upS.eq_1)))))))))) ?_) | (apply DW.toCG; first | refine DWcall.yes (And.intro e1 (And.intro e2 (And.intro placeS.eq_1 (And.intro hp1 (And.intro hp2 (And.intro lx (And.intro l1 (And.intro l2 (And.intro fS.eq_1 (And.intro bitS.eq_1 upS.eq_1)))))))))) ?_ | refine DWcall.no (And.intro e1 (And.intro e2 (And.intro placeS.eq_1 (And.intro hp1 (And.intro hp2 (And.intro lx (And.intro l1 (And.intro l2 (And.intro fS.eq_1 (And.intro bitS.eq_1 upS.eq_1)))))))))) ?_) | (apply DW.toG; first | refine DWop.yes (And.intro e1 (And.intro e2 (And.intro placeS.eq_1 (And.intro hp1 (And.intro hp2 (And.intro lx (And.intro l1 (And.intro l2 (And.intro fS.eq_1 (And.intro bitS.eq_1 upS.eq_1)))))))))) ?_ | refine DWop.no (And.intro e1 (And.intro e2 (And.intro placeS.eq_1 (And.intro hp1 (And.intro hp2 (And.intro lx (And.intro l1 (And.intro l2 (And.intro fS.eq_1 (And.intro bitS.eq_1 upS.eq_1)))))))))) ?_)
      repeat' first
        | refine W.seq ?_ | (refine W.regS G ?_; dsimp only) | refine SW.nil ?_ | refine thenQ_normal ?_ | refine W.skip ?_ | refine W.exit ?_ | refine thenQ_exit ?_ | refine inBlockQ_exit ?_ | refine inBlockQ_normal ?_ | refine W.block ?_
        | (apply SW.toC; refine SWcall.go (And.intro e1 (And.intro e2 (And.intro placeS.eq_1 (And.intro hp1 (And.intro hp2 (And.intro lx (And.intro l1 (And.intro l2 (And.intro fS.eq_1 (And.intro bitS.eq_1 upS.eq_1)))))))))) ?_) | (apply SW.toOp; refine SWop.go (And.intro e1 (And.intro e2 (And.intro placeS.eq_1 (And.intro hp1 (And.intro hp2 (And.intro lx (And.intro l1 (And.intro l2 (And.intro fS.eq_1 (And.intro bitS.eq_1 upS.eq_1)))))))))) ?_) | (apply SW.toCG; first | refine SWcall.yes (And.intro e1 (And.intro e2 (And.intro placeS.eq_1 (And.intro hp1 (And.intro hp2 (And.intro lx (And.intro l1 (And.intro l2 (And.intro fS.eq_1 (And.intro bitS.eq_1 upS.eq_1)))))))))) ?_ | refine SWcall.no (And.intro e1 (And.intro e2 (And.intro placeS.eq_1 (And.intro hp1 (And.intro hp2 (And.intro lx (And.intro l1 (And.intro l2 (And.intro fS.eq_1 (And.intro bitS.eq_1 upS.eq_1)))))))))) ?_) | (apply SW.toG; first | refine SWop.yes (And.intro e1 (And.intro e2 (And.intro placeS.eq_1 (And.intro hp1 (And.intro hp2 (And.intro lx (And.intro l1 (And.intro l2 (And.intro fS.eq_1 (And.intro bitS.eq_1 upS.eq_1)))))))))) ?_ | refine SWop.no (And.intro e1 (And.intro e2 (And.intro placeS.eq_1 (And.intro hp1 (And.intro hp2 (And.intro lx (And.intro l1 (And.intro l2 (And.intro fS.eq_1 (And.intro bitS.eq_1 upS.eq_1)))))))))) ?_)
      refine ⟨⟨j + 1, by omega⟩, Imp.le ?_, by show _ - (j + 1) < _ - j; omega⟩
      exact sL_leZ (And.intro ea (And.intro eb (And.intro hr1 (And.intro hr2 (And.intro e1 (And.intro e2 (And.intro placeS.eq_1 (And.intro hp1 (And.intro hp2 (And.intro lx (And.intro l1 (And.intro l2 (And.intro fS.eq_1 (And.intro bitS.eq_1 upS.eq_1))))))))))))))
    have ht' := of_decide_eq_false ht
    obtain rfl : j = 80 := by omega
    obtain ⟨hh, hh2⟩ := hend rfl
    repeat' first
      | refine W.seq ?_ | (refine W.regS G ?_; dsimp only) | refine SW.nil ?_ | refine thenQ_normal ?_ | refine W.skip ?_ | refine W.exit ?_ | refine thenQ_exit ?_ | refine inBlockQ_exit ?_ | refine inBlockQ_normal ?_ | refine W.block ?_
      | (apply SW.toC; refine SWcall.go True.intro ?_) | (apply SW.toOp; refine SWop.go True.intro ?_) | (apply SW.toCG; first | refine SWcall.yes True.intro ?_ | refine SWcall.no True.intro ?_) | (apply SW.toG; first | refine SWop.yes True.intro ?_ | refine SWop.no True.intro ?_)
    refine Imp.le ?_
    exact sL_leZ (And.intro hh hh2)
  generalize rline false firstB x 80 h = l at hT ⊢
  generalize rline true secondB x 80 h = r at hT ⊢
  have hm : mixF h l r = [h.getD 1 0 + l.getD 2 0 + r.getD 3 0, h.getD 2 0 + l.getD 3 0 + r.getD 4 0, h.getD 3 0 + l.getD 4 0 + r.getD 0 0, h.getD 4 0 + l.getD 0 0 + r.getD 1 0, h.getD 0 0 + l.getD 1 0 + r.getD 2 0] := rfl
  repeat' first
    | refine W.seq ?_ | (refine W.regS G ?_; dsimp only) | refine SW.nil ?_ | refine thenQ_normal ?_ | refine W.skip ?_ | refine W.exit ?_ | refine thenQ_exit ?_ | refine inBlockQ_exit ?_ | refine inBlockQ_normal ?_ | refine W.block ?_
    | (apply SW.toC; refine SWcall.go True.intro ?_) | (apply SW.toOp; refine SWop.go True.intro ?_) | (apply SW.toCG; first | refine SWcall.yes True.intro ?_ | refine SWcall.no True.intro ?_) | (apply SW.toG; first | refine SWop.yes True.intro ?_ | refine SWop.no True.intro ?_)
  refine W.ret ?_
  repeat' first
    | refine thenQ_ret ?_
    | refine inBlockQ_ret ?_
  refine fin1Z True.intro ?_
  rw [hT, hm]
  exact leV_refl
end Go.Vm.C05

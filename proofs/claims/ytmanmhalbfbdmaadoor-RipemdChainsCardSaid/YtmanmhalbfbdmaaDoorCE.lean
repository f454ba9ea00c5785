/- What some functions of the program compute, walked through once. -/
import Derived.Test.YtmanmhalbfbdmaaDoorCD
namespace Go.Vm.C05
open Go Go.Proofs
set_option linter.unusedVariables false
set_option linter.unusedSimpArgs false
set_option maxRecDepth 100000
set_option maxHeartbeats 8000000

/-! ### the hash, the document's way -/
def padL (m : List (BitVec 8)) (k : Nat) : List (BitVec 8) := itN (fun _ l => l ++ [0#8]) k (m ++ [128#8])
def lenL (n : BitVec 64) (k : Nat) (l : List (BitVec 8)) : List (BitVec 8) := itN (fun j l => l ++ [BitVec.setWidth 8 (n >>> (8 * j))]) k l
def padR (L : Nat) : Nat := (119 - L % 64) % 64
def msgF (m : List (BitVec 8)) : List (BitVec 8) := lenL (8#64 * BitVec.ofInt 64 (m.length : Int)) 8 (padL m (padR m.length))
theorem padL_len (m : List (BitVec 8)) (k : Nat) : (padL m k).length = m.length + 1 + k := by
  induction k with
  | zero => simp [padL, itN]
  | succ k ih => show (padL m k ++ [0#8]).length = _; simp [ih]; omega
theorem lenL_len (n : BitVec 64) (k : Nat) (l : List (BitVec 8)) : (lenL n k l).length = l.length + k := by
  induction k with
  | zero => rfl
  | succ k ih => show (lenL n k l ++ _).length = _; simp [ih]; omega
def bxF (M : List (BitVec 8)) (a k : Nat) : List (BitVec 8) := itN (fun i x => x.set i (M.getD (a + i) 0)) k (zeros 8 64)
def rhJ (M : List (BitVec 8)) (k : Nat) (h : List (BitVec 32)) : List (BitVec 32) := itN (fun a h => rblockF h (bxF M (64 * a) 64)) k h
def rsumF (m : List (BitVec 8)) : List (BitVec 8) := oF (rhJ (msgF m) ((msgF m).length / 64) begunB) 20
noncomputable def rsumS : FSpec := { run := fun ins => match ins with
  | [.sl false (.u 8 m)] => chk (m.length ≤ 140737488352000) (some (.agg 20 (.u 8 (rsumF m)), []))
  | _ => none }
theorem rsum_sound : SoundFn Tryd.prog glB 7 rsumS.run := by
  have G := good_of (P := Tryd.prog) glB_ro (l := [(10, rblockS)]) (by simp only [List.forall_mem_cons]; exact ⟨rblock_sound, by simp⟩)
  refine soundFn_of_W G Tryd.func7 (by decide) rfl (by decide) ?_
  intro ins ret outs h
  unfold rsumS at h
  dsimp only at h
  split at h
  rotate_left
  · cases h
  rename_i m
  obtain ⟨lm, h'⟩ := chk_some h
  clear h
  cases h'
  refine ⟨by show 1 ≤ 82; decide, fun w0 ext av => ?_⟩
  rw [Tryd.ntmps7, st0_eq]
  have hM : msgF m = lenL (8#64 * BitVec.ofInt 64 (m.length : Int)) 8 (padL m (padR m.length)) := rfl
  have hZ : padR m.length = (119 - m.length % 64) % 64 := rfl
  have hR : rsumF m = oF (rhJ (msgF m) ((msgF m).length / 64) begunB) 20 := rfl
  generalize padR m.length = Z at hM hZ
  generalize hN : 8#64 * BitVec.ofInt 64 (m.length : Int) = N at hM
  have hp0 : padL m 0 = m ++ [128#8] := rfl
  repeat' first
    | refine W.seq ?_ | (refine W.regS G ?_; dsimp only) | refine SW.nil ?_ | refine thenQ_normal ?_ | refine W.skip ?_ | refine W.exit ?_ | refine thenQ_exit ?_ | refine inBlockQ_exit ?_ | refine inBlockQ_normal ?_
    | (apply SW.toC; refine SWcall.go hN ?_) | (apply SW.toOp; refine SWop.go hN ?_) | (apply SW.toCG; first | refine SWcall.yes hN ?_ | refine SWcall.no hN ?_) | (apply SW.toG; first | refine SWop.yes hN ?_ | refine SWop.no hN ?_)
  refine W.mid (sL [(2, .p 2 0 0 0), (3, .gr 12 (m.length + 1 + Z)), (4, .u 64 N)] [(2, .agg 20 (.u 8 (zeros 8 20))), (12, .row (.u 8 (padL m Z)))] 82) ?_ ?_
  · repeat' first
      | refine W.seq ?_ | (refine W.regS G ?_; dsimp only) | refine SW.nil ?_ | refine thenQ_normal ?_ | refine W.skip ?_ | refine W.exit ?_ | refine thenQ_exit ?_ | refine inBlockQ_exit ?_ | refine inBlockQ_normal ?_ | refine W.block ?_
      | (apply SW.toC; refine SWcall.go hN ?_) | (apply SW.toOp; refine SWop.go hN ?_) | (apply SW.toCG; first | refine SWcall.yes hN ?_ | refine SWcall.no hN ?_) | (apply SW.toG; first | refine SWop.yes hN ?_ | refine SWop.no hN ?_)
    refine W.loopI (ι := {j : Nat // j ≤ Z}) (fun j => sL [(2, .p 2 0 0 0), (3, .gr 12 (m.length + 1 + j.1)), (4, .u 64 N)] [(2, .agg 20 (.u 8 (zeros 8 20))), (12, .row (.u 8 (padL m j.1)))] 82) (fun j => Z - j.1) ⟨0, Nat.zero_le _⟩ (Imp.le ?_) ?_
    · exact sL_leZ (And.intro hp0 hN)
    rintro ⟨j, hj⟩
    have e : padL m (j + 1) = padL m j ++ [0#8] := itN_succ _ _ _
    have l0 := padL_len m j
    have hend : j = Z → padL m Z = padL m j := by rintro rfl; rfl
    generalize padL m j = l at e l0 hend ⊢
    repeat' first
      | refine W.seq ?_ | (refine W.regS G ?_; dsimp only) | refine SW.nil ?_ | refine thenQ_normal ?_ | refine W.skip ?_ | refine W.exit ?_ | refine thenQ_exit ?_ | refine inBlockQ_exit ?_ | refine inBlockQ_normal ?_ | refine W.block ?_
      | (apply SW.toC; refine SWcall.go l0 ?_) | (apply SW.toOp; refine SWop.go l0 ?_) | (apply SW.toCG; first | refine SWcall.yes l0 ?_ | refine SWcall.no l0 ?_) | (apply SW.toG; first | refine SWop.yes l0 ?_ | refine SWop.no l0 ?_)
    refine W.condZ G l0 ?_ ?_
    all_goals intro ht
    · have ht' := ne_of_nd ht
      repeat' first
        | refine W.seq ?_ | (refine W.regS G ?_; dsimp only) | refine SW.nil ?_ | refine thenQ_normal ?_ | refine W.skip ?_ | refine W.exit ?_ | refine thenQ_exit ?_ | refine inBlockQ_exit ?_ | refine inBlockQ_normal ?_ | refine W.block ?_
        | (apply SW.toC; refine SWcall.go l0 ?_) | (apply SW.toOp; refine SWop.go l0 ?_) | (apply SW.toCG; first | refine SWcall.yes l0 ?_ | refine SWcall.no l0 ?_) | (apply SW.toG; first | refine SWop.yes l0 ?_ | refine SWop.no l0 ?_)
      refine ⟨⟨j + 1, by omega⟩, Imp.le ?_, by show _ - (j + 1) < _ - j; omega⟩
      exact sL_leZ (And.intro e l0)
    have ht' := eq_of_nd ht
    obtain rfl : j = Z := by omega
    have hh := hend rfl
    repeat' first
      | refine W.seq ?_ | (refine W.regS G ?_; dsimp only) | refine SW.nil ?_ | refine thenQ_normal ?_ | refine W.skip ?_ | refine W.exit ?_ | refine thenQ_exit ?_ | refine inBlockQ_exit ?_ | refine inBlockQ_normal ?_ | refine W.block ?_
      | (apply SW.toC; refine SWcall.go l0 ?_) | (apply SW.toOp; refine SWop.go l0 ?_) | (apply SW.toCG; first | refine SWcall.yes l0 ?_ | refine SWcall.no l0 ?_) | (apply SW.toG; first | refine SWop.yes l0 ?_ | refine SWop.no l0 ?_)
    refine Imp.le ?_
    exact sL_leZ (And.intro hh l0)
  have l1 := padL_len m Z
  generalize padL m Z = L1 at hM l1 ⊢
  repeat' first
    | refine W.seq ?_ | (refine W.regS G ?_; dsimp only) | refine SW.nil ?_ | refine thenQ_normal ?_ | refine W.skip ?_ | refine W.exit ?_ | refine thenQ_exit ?_ | refine inBlockQ_exit ?_ | refine inBlockQ_normal ?_
    | (apply SW.toC; refine SWcall.go l1 ?_) | (apply SW.toOp; refine SWop.go l1 ?_) | (apply SW.toCG; first | refine SWcall.yes l1 ?_ | refine SWcall.no l1 ?_) | (apply SW.toG; first | refine SWop.yes l1 ?_ | refine SWop.no l1 ?_)
  refine W.mid (sL [(2, .p 2 0 0 0), (3, .gr 12 (m.length + 1 + Z + 8))] [(2, .agg 20 (.u 8 (zeros 8 20))), (12, .row (.u 8 (lenL N 8 L1)))] 82) ?_ ?_
  · repeat' first
      | refine W.seq ?_ | (refine W.regS G ?_; dsimp only) | refine SW.nil ?_ | refine thenQ_normal ?_ | refine W.skip ?_ | refine W.exit ?_ | refine thenQ_exit ?_ | refine inBlockQ_exit ?_ | refine inBlockQ_normal ?_ | refine W.block ?_
      | (apply SW.toC; refine SWcall.go l1 ?_) | (apply SW.toOp; refine SWop.go l1 ?_) | (apply SW.toCG; first | refine SWcall.yes l1 ?_ | refine SWcall.no l1 ?_) | (apply SW.toG; first | refine SWop.yes l1 ?_ | refine SWop.no l1 ?_)
    refine W.loopI (ι := {j : Nat // j ≤ 8}) (fun j => sL [(2, .p 2 0 0 0), (3, .gr 12 (m.length + 1 + Z + j.1)), (4, .u 64 N), (5, .i j.1)] [(2, .agg 20 (.u 8 (zeros 8 20))), (12, .row (.u 8 (lenL N j.1 L1)))] 82) (fun j => 8 - j.1) ⟨0, Nat.zero_le _⟩ (Imp.le ?_) ?_
    · exact sL_leZ l1
    rintro ⟨j, hj⟩
    have e : lenL N (j + 1) L1 = lenL N j L1 ++ [BitVec.setWidth 8 (N >>> (8 * j))] := itN_succ _ _ _
    have l0 := lenL_len N j L1
    have hend : j = 8 → lenL N 8 L1 = lenL N j L1 := by rintro rfl; rfl
    generalize lenL N j L1 = l at e l0 hend ⊢
    have l0' : l.length = m.length + 1 + Z + j := by omega
    repeat' first
      | refine W.seq ?_ | (refine W.regS G ?_; dsimp only) | refine SW.nil ?_ | refine thenQ_normal ?_ | refine W.skip ?_ | refine W.exit ?_ | refine thenQ_exit ?_ | refine inBlockQ_exit ?_ | refine inBlockQ_normal ?_ | refine W.block ?_
      | (apply SW.toC; refine SWcall.go l0' ?_) | (apply SW.toOp; refine SWop.go l0' ?_) | (apply SW.toCG; first | refine SWcall.yes l0' ?_ | refine SWcall.no l0' ?_) | (apply SW.toG; first | refine SWop.yes l0' ?_ | refine SWop.no l0' ?_)
    refine W.condZ G l0' ?_ ?_
    all_goals intro ht
    · have ht' := of_decide_eq_true ht
      have e1 : (8 * (j : Int)) = ((8 * j : Nat) : Int) := by omega
      have e2 : (BitVec.ofInt 64 ((8 * j : Nat) : Int)).toNat = 8 * j := by rw [BitVec.toNat_ofInt]; omega
      repeat' first
        | refine W.seq ?_ | (refine W.regS G ?_; dsimp only) | refine SW.nil ?_ | refine thenQ_normal ?_ | refine W.skip ?_ | refine W.exit ?_ | refine thenQ_exit ?_ | refine inBlockQ_exit ?_ | refine inBlockQ_normal ?_ | refine W.block ?_
        | (apply SW.toC; refine SWcall.go (And.intro l0' (And.intro e1 e2)) ?_) | (apply SW.toOp; refine SWop.go (And.intro l0' (And.intro e1 e2)) ?_) | (apply SW.toCG; first | refine SWcall.yes (And.intro l0' (And.intro e1 e2)) ?_ | refine SWcall.no (And.intro l0' (And.intro e1 e2)) ?_) | (apply SW.toG; first | refine SWop.yes (And.intro l0' (And.intro e1 e2)) ?_ | refine SWop.no (And.intro l0' (And.intro e1 e2)) ?_)
      refine ⟨⟨j + 1, by omega⟩, Imp.le ?_, by show _ - (j + 1) < _ - j; omega⟩
      exact sL_leZ (And.intro e (And.intro l0' (And.intro e1 e2)))
    have ht' := of_decide_eq_false ht
    obtain rfl : j = 8 := by omega
    have hh := hend rfl
    repeat' first
      | refine W.seq ?_ | (refine W.regS G ?_; dsimp only) | refine SW.nil ?_ | refine thenQ_normal ?_ | refine W.skip ?_ | refine W.exit ?_ | refine thenQ_exit ?_ | refine inBlockQ_exit ?_ | refine inBlockQ_normal ?_ | refine W.block ?_
      | (apply SW.toC; refine SWcall.go l0' ?_) | (apply SW.toOp; refine SWop.go l0' ?_) | (apply SW.toCG; first | refine SWcall.yes l0' ?_ | refine SWcall.no l0' ?_) | (apply SW.toG; first | refine SWop.yes l0' ?_ | refine SWop.no l0' ?_)
    refine Imp.le ?_
    exact sL_leZ (And.intro hh l0')
  have l2 := lenL_len N 8 L1
  rw [← hM] at l2 ⊢
  generalize msgF m = B at l2 hR ⊢
  obtain ⟨Q, hQ⟩ : ∃ Q, B.length = 64 * Q := ⟨B.length / 64, by omega⟩
  have hQ2 : B.length / 64 = Q := by omega
  rw [hQ2] at hR
  have hQ3 : m.length + 1 + Z + 8 = 64 * Q := by omega
  have l3 : B.length = m.length + 1 + Z + 8 := by omega
  refine W.imp (s := sL [(2, .p 2 0 0 0), (3, .sl true (.u 8 B))] [(2, .agg 20 (.u 8 (zeros 8 20)))] 82) ?_ (Imp.frz 12 (by decide) ?_)
  rotate_left
  · exact sL_leZ l3
  have hbg : [1732584193#32, 4023233417#32, 2562383102#32, 271733878#32, 3285377520#32] = begunB := rfl
  have h0 : rhJ B 0 begunB = begunB := rfl
  repeat' first
    | refine W.seq ?_ | (refine W.regS G ?_; dsimp only) | refine SW.nil ?_ | refine thenQ_normal ?_ | refine W.skip ?_ | refine W.exit ?_ | refine thenQ_exit ?_ | refine inBlockQ_exit ?_ | refine inBlockQ_normal ?_
    | (apply SW.toC; refine SWcall.go hbg ?_) | (apply SW.toOp; refine SWop.go hbg ?_) | (apply SW.toCG; first | refine SWcall.yes hbg ?_ | refine SWcall.no hbg ?_) | (apply SW.toG; first | refine SWop.yes hbg ?_ | refine SWop.no hbg ?_)
  refine W.mid (sL [(2, .p 2 0 0 0), (6, .p 6 0 0 0)] [(2, .agg 20 (.u 8 (zeros 8 20))), (6, .agg 5 (.u 32 (rhJ B Q begunB)))] 82) ?_ ?_
  · repeat' first
      | refine W.seq ?_ | (refine W.regS G ?_; dsimp only) | refine SW.nil ?_ | refine thenQ_normal ?_ | refine W.skip ?_ | refine W.exit ?_ | refine thenQ_exit ?_ | refine inBlockQ_exit ?_ | refine inBlockQ_normal ?_ | refine W.block ?_
      | (apply SW.toC; refine SWcall.go hbg ?_) | (apply SW.toOp; refine SWop.go hbg ?_) | (apply SW.toCG; first | refine SWcall.yes hbg ?_ | refine SWcall.no hbg ?_) | (apply SW.toG; first | refine SWop.yes hbg ?_ | refine SWop.no hbg ?_)
    refine W.loopI (ι := {a : Nat // a ≤ Q}) (fun a => sL [(2, .p 2 0 0 0), (3, .sl true (.u 8 B)), (6, .p 6 0 0 0), (7, .i ((64 * a.1 : Nat) : Int))] [(2, .agg 20 (.u 8 (zeros 8 20))), (6, .agg 5 (.u 32 (rhJ B a.1 begunB)))] 82) (fun a => Q - a.1) ⟨0, Nat.zero_le _⟩ (Imp.le ?_) ?_
    · exact sL_leZ (And.intro h0 hbg)
    rintro ⟨a, ha⟩
    have e : rhJ B (a + 1) begunB = rblockF (rhJ B a begunB) (bxF B (64 * a) 64) := itN_succ _ _ _
    have hend : a = Q → rhJ B Q begunB = rhJ B a begunB := by rintro rfl; rfl
    generalize rhJ B a begunB = h at e hend ⊢
    repeat' first
      | refine W.seq ?_ | (refine W.regS G ?_; dsimp only) | refine SW.nil ?_ | refine thenQ_normal ?_ | refine W.skip ?_ | refine W.exit ?_ | refine thenQ_exit ?_ | refine inBlockQ_exit ?_ | refine inBlockQ_normal ?_ | refine W.block ?_
      | (apply SW.toC; refine SWcall.go hQ ?_) | (apply SW.toOp; refine SWop.go hQ ?_) | (apply SW.toCG; first | refine SWcall.yes hQ ?_ | refine SWcall.no hQ ?_) | (apply SW.toG; first | refine SWop.yes hQ ?_ | refine SWop.no hQ ?_)
    refine W.condZ G hQ ?_ ?_
    all_goals intro ht
    · have ht' := of_decide_eq_true ht
      generalize hA : 64 * a = A at e ⊢
      repeat' first
        | refine W.seq ?_ | (refine W.regS G ?_; dsimp only) | refine SW.nil ?_ | refine thenQ_normal ?_ | refine W.skip ?_ | refine W.exit ?_ | refine thenQ_exit ?_ | refine inBlockQ_exit ?_ | refine inBlockQ_normal ?_
        | (apply SW.toC; refine SWcall.go hQ ?_) | (apply SW.toOp; refine SWop.go hQ ?_) | (apply SW.toCG; first | refine SWcall.yes hQ ?_ | refine SWcall.no hQ ?_) | (apply SW.toG; first | refine SWop.yes hQ ?_ | refine SWop.no hQ ?_)
      refine W.block ?_
      repeat' first
        | refine W.seq ?_ | (refine W.regS G ?_; dsimp only) | refine SW.nil ?_ | refine thenQ_normal ?_ | refine W.skip ?_ | refine W.exit ?_ | refine thenQ_exit ?_ | refine inBlockQ_exit ?_ | refine inBlockQ_normal ?_
        | (apply SW.toC; refine SWcall.go hQ ?_) | (apply SW.toOp; refine SWop.go hQ ?_) | (apply SW.toCG; first | refine SWcall.yes hQ ?_ | refine SWcall.no hQ ?_) | (apply SW.toG; first | refine SWop.yes hQ ?_ | refine SWop.no hQ ?_)
      refine W.mid (sL [(2, .p 2 0 0 0), (3, .sl true (.u 8 B)), (6, .p 6 0 0 0), (7, .i (A : Int)), (8, .p 8 0 0 0)] [(2, .agg 20 (.u 8 (zeros 8 20))), (6, .agg 5 (.u 32 h)), (8, .agg 64 (.u 8 (bxF B A 64)))] 82) ?_ ?_
      · repeat' first
          | refine W.seq ?_ | (refine W.regS G ?_; dsimp only) | refine SW.nil ?_ | refine thenQ_normal ?_ | refine W.skip ?_ | refine W.exit ?_ | refine thenQ_exit ?_ | refine inBlockQ_exit ?_ | refine inBlockQ_normal ?_ | refine W.block ?_
          | (apply SW.toC; refine SWcall.go hQ ?_) | (apply SW.toOp; refine SWop.go hQ ?_) | (apply SW.toCG; first | refine SWcall.yes hQ ?_ | refine SWcall.no hQ ?_) | (apply SW.toG; first | refine SWop.yes hQ ?_ | refine SWop.no hQ ?_)
        refine W.loopI (ι := {i : Nat // i ≤ 64}) (fun i => sL [(2, .p 2 0 0 0), (3, .sl true (.u 8 B)), (6, .p 6 0 0 0), (7, .i (A : Int)), (8, .p 8 0 0 0), (9, .i i.1)] [(2, .agg 20 (.u 8 (zeros 8 20))), (6, .agg 5 (.u 32 h)), (8, .agg 64 (.u 8 (bxF B A i.1)))] 82) (fun i => 64 - i.1) ⟨0, Nat.zero_le _⟩ (Imp.le ?_) ?_
        · exact sL_leZ hQ
        rintro ⟨i, hi⟩
        have e2 : bxF B A (i + 1) = (bxF B A i).set i (B.getD (A + i) 0) := itN_succ _ _ _
        have hend2 : i = 64 → bxF B A 64 = bxF B A i := by rintro rfl; rfl
        generalize bxF B A i = x at e2 hend2 ⊢
        repeat' first
          | refine W.seq ?_ | (refine W.regS G ?_; dsimp only) | refine SW.nil ?_ | refine thenQ_normal ?_ | refine W.skip ?_ | refine W.exit ?_ | refine thenQ_exit ?_ | refine inBlockQ_exit ?_ | refine inBlockQ_normal ?_ | refine W.block ?_
          | (apply SW.toC; refine SWcall.go hQ ?_) | (apply SW.toOp; refine SWop.go hQ ?_) | (apply SW.toCG; first | refine SWcall.yes hQ ?_ | refine SWcall.no hQ ?_) | (apply SW.toG; first | refine SWop.yes hQ ?_ | refine SWop.no hQ ?_)
        refine W.condZ G hQ ?_ ?_
        all_goals intro hu
        · have hu' := of_decide_eq_true hu
          repeat' first
            | refine W.seq ?_ | (refine W.regS G ?_; dsimp only) | refine SW.nil ?_ | refine thenQ_normal ?_ | refine W.skip ?_ | refine W.exit ?_ | refine thenQ_exit ?_ | refine inBlockQ_exit ?_ | refine inBlockQ_normal ?_ | refine W.block ?_
            | (apply SW.toC; refine SWcall.go hQ ?_) | (apply SW.toOp; refine SWop.go hQ ?_) | (apply SW.toCG; first | refine SWcall.yes hQ ?_ | refine SWcall.no hQ ?_) | (apply SW.toG; first | refine SWop.yes hQ ?_ | refine SWop.no hQ ?_)
          refine ⟨⟨i + 1, by omega⟩, Imp.le ?_, by show _ - (i + 1) < _ - i; omega⟩
          exact sL_leZ (And.intro e2 hQ)
        have hu' := of_decide_eq_false hu
        obtain rfl : i = 64 := by omega
        have hh := hend2 rfl
        repeat' first
          | refine W.seq ?_ | (refine W.regS G ?_; dsimp only) | refine SW.nil ?_ | refine thenQ_normal ?_ | refine W.skip ?_ | refine W.exit ?_ | refine thenQ_exit ?_ | refine inBlockQ_exit ?_ | refine inBlockQ_normal ?_ | refine W.block ?_
          | (apply SW.toC; refine SWcall.go hQ ?_) | (apply SW.toOp; refine SWop.go hQ ?_) | (apply SW.toCG; first | refine SWcall.yes hQ ?_ | refine SWcall.no hQ ?_) | (apply SW.toG; first | refine SWop.yes hQ ?_ | refine SWop.no hQ ?_)
        refine Imp.le ?_
        exact sL_leZ (And.intro hh hQ)
      generalize bxF B A 64 = x at e ⊢
      have e9 : ((A : Int) + 64) = ((64 * (a + 1) : Nat) : Int) := by omega
      repeat' first
        | refine W.seq ?_ | (refine W.regS G ?_; dsimp only) | refine SW.nil ?_ | refine thenQ_normal ?_ | refine W.skip ?_ | refine W.exit ?_ | refine thenQ_exit ?_ | refine inBlockQ_exit ?_ | refine inBlockQ_normal ?_ | refine W.block ?_
        | (apply SW.toC; refine SWcall.go rblockS.eq_1 ?_) | (apply SW.toOp; refine SWop.go rblockS.eq_1 ?_) | (apply SW.toCG; first | refine SWcall.yes rblockS.eq_1 ?_ | refine SWcall.no rblockS.eq_1 ?_) | (apply SW.toG; first | refine SWop.yes rblockS.eq_1 ?_ | refine SWop.no rblockS.eq_1 ?_)
      refine ⟨⟨a + 1, by omega⟩, Imp.le ?_, by show _ - (a + 1) < _ - a; omega⟩
      exact sL_leZ (And.intro e (And.intro e9 rblockS.eq_1))
    have ht' := of_decide_eq_false ht
    obtain rfl : a = Q := by omega
    have hh := hend rfl
    repeat' first
      | refine W.seq ?_ | (refine W.regS G ?_; dsimp only) | refine SW.nil ?_ | refine thenQ_normal ?_ | refine W.skip ?_ | refine W.exit ?_ | refine thenQ_exit ?_ | refine inBlockQ_exit ?_ | refine inBlockQ_normal ?_ | refine W.block ?_
      | (apply SW.toC; refine SWcall.go hQ ?_) | (apply SW.toOp; refine SWop.go hQ ?_) | (apply SW.toCG; first | refine SWcall.yes hQ ?_ | refine SWcall.no hQ ?_) | (apply SW.toG; first | refine SWop.yes hQ ?_ | refine SWop.no hQ ?_)
    refine Imp.le ?_
    exact sL_leZ (And.intro hh hQ)
  generalize rhJ B Q begunB = h2 at hR ⊢
  repeat' first
    | refine W.seq ?_ | (refine W.regS G ?_; dsimp only) | refine SW.nil ?_ | refine thenQ_normal ?_ | refine W.skip ?_ | refine W.exit ?_ | refine thenQ_exit ?_ | refine inBlockQ_exit ?_ | refine inBlockQ_normal ?_ | refine W.block ?_
    | (apply SW.toC; refine SWcall.go True.intro ?_) | (apply SW.toOp; refine SWop.go True.intro ?_) | (apply SW.toCG; first | refine SWcall.yes True.intro ?_ | refine SWcall.no True.intro ?_) | (apply SW.toG; first | refine SWop.yes True.intro ?_ | refine SWop.no True.intro ?_)
  refine W.loopI (ι := {i : Nat // i ≤ 20}) (fun i => sL [(2, .p 2 0 0 0), (6, .p 6 0 0 0), (10, .p 10 0 0 0), (11, .i i.1)] [(2, .agg 20 (.u 8 (zeros 8 20))), (6, .agg 5 (.u 32 h2)), (10, .agg 20 (.u 8 (oF h2 i.1)))] 82) (fun i => 20 - i.1) ⟨0, Nat.zero_le _⟩ (Imp.le ?_) ?_
  · exact sL_leZ True.intro
  rintro ⟨i, hi⟩
  have e : oF h2 (i + 1) = (oF h2 i).set i (BitVec.setWidth 8 (h2.getD (i / 4) 0 >>> (8 * (i % 4)))) := itN_succ _ _ _
  have hend : i = 20 → oF h2 20 = oF h2 i := by rintro rfl; rfl
  generalize oF h2 i = o at e hend ⊢
  repeat' first
    | refine W.seq ?_ | (refine W.regS G ?_; dsimp only) | refine SW.nil ?_ | refine thenQ_normal ?_ | refine W.skip ?_ | refine W.exit ?_ | refine thenQ_exit ?_ | refine inBlockQ_exit ?_ | refine inBlockQ_normal ?_ | refine W.block ?_
    | (apply SW.toC; refine SWcall.go True.intro ?_) | (apply SW.toOp; refine SWop.go True.intro ?_) | (apply SW.toCG; first | refine SWcall.yes True.intro ?_ | refine SWcall.no True.intro ?_) | (apply SW.toG; first | refine SWop.yes True.intro ?_ | refine SWop.no True.intro ?_)
  refine W.condZ G True.intro ?_ ?_
  all_goals intro ht
  · have ht' := of_decide_eq_true ht
    have e1 : ((i : Int) / 4) = ((i / 4 : Nat) : Int) := by omega
    have e2 : ((i : Int) % 4) = ((i % 4 : Nat) : Int) := by omega
    have e3 : (8 * ((i % 4 : Nat) : Int)) = ((8 * (i % 4) : Nat) : Int) := by omega
    have e4 : (BitVec.ofInt 64 ((8 * (i % 4) : Nat) : Int)).toNat = 8 * (i % 4) := by rw [BitVec.toNat_ofInt]; omega
    repeat' first
      | refine W.seq ?_ | (refine W.regS G ?_; dsimp only) | refine SW.nil ?_ | refine thenQ_normal ?_ | refine W.skip ?_ | refine W.exit ?_ | refine thenQ_exit ?_ | refine inBlockQ_exit ?_ | refine inBlockQ_normal ?_ | refine W.block ?_
      | (apply SW.toC; refine SWcall.go (And.intro e1 (And.intro e2 (And.intro e3 e4))) ?_) | (apply SW.toOp; refine SWop.go (And.intro e1 (And.intro e2 (And.intro e3 e4))) ?_) | (apply SW.toCG; first | refine SWcall.yes (And.intro e1 (And.intro e2 (And.intro e3 e4))) ?_ | refine SWcall.no (And.intro e1 (And.intro e2 (And.intro e3 e4))) ?_) | (apply SW.toG; first | refine SWop.yes (And.intro e1 (And.intro e2 (And.intro e3 e4))) ?_ | refine SWop.no (And.intro e1 (And.intro e2 (And.intro e3 e4))) ?_)
    refine ⟨⟨i + 1, by omega⟩, Imp.le ?_, by show _ - (i + 1) < _ - i; omega⟩
    exact sL_leZ (And.intro e (And.intro e1 (And.intro e2 (And.intro e3 e4))))
  have ht' := of_decide_eq_false ht
  obtain rfl : i = 20 := by omega
  have hh := hend rfl
  repeat' first
    | refine W.seq ?_ | (refine W.regS G ?_; dsimp only) | refine SW.nil ?_ | refine thenQ_normal ?_ | refine W.skip ?_ | refine W.exit ?_ | refine thenQ_exit ?_ | refine inBlockQ_exit ?_ | refine inBlockQ_normal ?_ | refine W.block ?_
    | (apply SW.toC; refine SWcall.go True.intro ?_) | (apply SW.toOp; refine SWop.go True.intro ?_) | (apply SW.toCG; first | refine SWcall.yes True.intro ?_ | refine SWcall.no True.intro ?_) | (apply SW.toG; first | refine SWop.yes True.intro ?_ | refine SWop.no True.intro ?_)
  refine W.ret ?_
  repeat' first
    | refine thenQ_ret ?_
    | refine inBlockQ_ret ?_
  refine fin1Z True.intro ?_
  rw [hR, hh]
  exact leV_refl
noncomputable def liveS : FSpec := { run := fun ins => match ins with
  | [] => some (.b true, [])
  | _ => none }
theorem live_h : (sumF []).getD 0 0 = 156#8 ∧ (sumF []).getD 1 0 = 17#8 ∧ (sumF []).getD 19 0 = 49#8 := by decide +kernel
theorem lives_sound : SoundFn Tryd.prog glB 8 liveS.run := by
  have G := good_of (P := Tryd.prog) glB_ro (l := [(6, sumS)]) (by simp only [List.forall_mem_cons]; exact ⟨sum_sound, by simp⟩)
  refine soundFn_of_W G Tryd.func8 (by decide) rfl (by decide) ?_
  intro ins ret outs h
  unfold liveS at h
  dsimp only at h
  split at h
  rotate_left
  · cases h
  cases h
  refine ⟨by show 0 ≤ 16; decide, fun w0 ext av => ?_⟩
  rw [Tryd.ntmps8, st0_eq]
  have h1 := live_h
  generalize hs0 : sumF [] = T at h1
  repeat' first
    | refine W.seq ?_ | (refine W.regS G ?_; dsimp only) | refine SW.nil ?_ | refine thenQ_normal ?_ | refine W.skip ?_ | refine W.exit ?_ | refine thenQ_exit ?_ | refine inBlockQ_exit ?_ | refine inBlockQ_normal ?_ | refine W.block ?_
    | (apply SW.toC; refine SWcall.go (And.intro sumS.eq_1 (And.intro hs0 h1)) ?_) | (apply SW.toOp; refine SWop.go (And.intro sumS.eq_1 (And.intro hs0 h1)) ?_) | (apply SW.toCG; first | refine SWcall.yes (And.intro sumS.eq_1 (And.intro hs0 h1)) ?_ | refine SWcall.no (And.intro sumS.eq_1 (And.intro hs0 h1)) ?_) | (apply SW.toG; first | refine SWop.yes (And.intro sumS.eq_1 (And.intro hs0 h1)) ?_ | refine SWop.no (And.intro sumS.eq_1 (And.intro hs0 h1)) ?_)
  refine W.ret ?_
  repeat' first
    | refine thenQ_ret ?_
    | refine inBlockQ_ret ?_
  refine fin1Z (And.intro sumS.eq_1 (And.intro hs0 h1)) ?_
  exact leV_refl
end Go.Vm.C05

/- What some functions of the program compute, walked through once. -/
import Derived.Test.YtpgfoccjobgniaaDoorCF
namespace Go.Vm.C04
open Go Go.Proofs
set_option linter.unusedVariables false
set_option linter.unusedSimpArgs false
set_option maxRecDepth 100000
set_option maxHeartbeats 8000000

/-! ### the document's hash -/
def updF (x : BitVec 32) (n : Int) : BitVec 32 := x >>> (BitVec.ofInt 64 n).toNat ||| x <<< (BitVec.ofInt 64 (32 - n)).toNat
noncomputable def updS : FSpec := { run := fun ins => match ins with
  | [.u 32 x, .i n] => chk (0 ≤ n ∧ n ≤ 31) (some (.u 32 (updF x n), []))
  | _ => none }
theorem upd_sound : SoundFn Tryd.prog glB 21 updS.run := by
  have G := good_of (P := Tryd.prog) glB_ro (l := []) (by simp)
  refine soundFn_of_W G Tryd.func21 (by decide) rfl (by decide) ?_
  intro ins ret outs h
  unfold updS at h
  dsimp only at h
  split at h
  rotate_left
  · cases h
  rename_i x n
  obtain ⟨hn, h'⟩ := chk_some h
  clear h
  cases h'
  refine ⟨by show 2 ≤ 15; decide, fun w0 ext av => ?_⟩
  rw [Tryd.ntmps21, st0_eq]
  repeat' first
    | refine W.seq ?_ | (refine W.regS G ?_; dsimp only) | refine SW.nil ?_ | refine thenQ_normal ?_ | refine W.skip ?_ | refine W.exit ?_ | refine thenQ_exit ?_ | refine inBlockQ_exit ?_ | refine inBlockQ_normal ?_ | refine W.block ?_
    | (apply SW.toC; refine SWcall.go True.intro ?_) | (apply SW.toOp; refine SWop.go True.intro ?_) | (apply SW.toCG; first | refine SWcall.yes True.intro ?_ | refine SWcall.no True.intro ?_) | (apply SW.toG; first | refine SWop.yes True.intro ?_ | refine SWop.no True.intro ?_)
  refine W.ret ?_
  repeat' first
    | refine thenQ_ret ?_
    | refine inBlockQ_ret ?_
  refine fin1Z True.intro ?_
  exact leV_refl
def padL (m : List (BitVec 8)) (k : Nat) : List (BitVec 8) := itN (fun _ l => l ++ [0#8]) k (m ++ [128#8])
def lenL (n : BitVec 64) (k : Nat) (l : List (BitVec 8)) : List (BitVec 8) := itN (fun j l => l ++ [BitVec.setWidth 8 (n >>> (8 * (7 - j)))]) k l
def padR (L : Nat) : Nat := (119 - L % 64) % 64
def msgF (m : List (BitVec 8)) : List (BitVec 8) := lenL (8#64 * BitVec.ofInt 64 (m.length : Int)) 8 (padL m (padR m.length))
theorem padL_len (m : List (BitVec 8)) (k : Nat) : (padL m k).length = m.length + 1 + k := by
  induction k with
  | zero => simp [padL, itN]
  | succ k ih => show (padL m k ++ [0#8]).length = _; simp [ih]; omega
theorem lenL_len (n : BitVec 64) (k : Nat) (l : List (BitVec 8)) : (lenL n k l).length = l.length + k := by
  induction k with
  | zero => rfl
  | succ k ih => show (lenL n k l ++ _).length = _; simp [ih]; omega
def beAt (b : List (BitVec 8)) (at' i : Nat) : BitVec 32 :=
  BitVec.setWidth 32 ((subL b (at' + 4 * i) 4).getD 0 0) <<< 24 ||| BitVec.setWidth 32 ((subL b (at' + 4 * i) 4).getD 1 0) <<< 16 ||| BitVec.setWidth 32 ((subL b (at' + 4 * i) 4).getD 2 0) <<< 8 ||| BitVec.setWidth 32 ((subL b (at' + 4 * i) 4).getD 3 0)
def rwA (b : List (BitVec 8)) (at' k : Nat) : List (BitVec 32) := itN (fun i w => w ++ [beAt b at' i]) k []
def rwN (w : List (BitVec 32)) (j : Nat) : BitVec 32 := (updF (w.getD (j + 14) 0) 17 ^^^ updF (w.getD (j + 14) 0) 19 ^^^ w.getD (j + 14) 0 >>> 10) + w.getD (j + 9) 0 + (updF (w.getD (j + 1) 0) 7 ^^^ updF (w.getD (j + 1) 0) 18 ^^^ w.getD (j + 1) 0 >>> 3) + w.getD j 0
def rwB (k : Nat) (w : List (BitVec 32)) : List (BitVec 32) := itN (fun j w => w ++ [rwN w j]) k w
def rtF (K w : List (BitVec 32)) (i : Nat) (v : List (BitVec 32)) : BitVec 32 :=
  v.getD 7 0 + (updF (v.getD 4 0) 6 ^^^ updF (v.getD 4 0) 11 ^^^ updF (v.getD 4 0) 25) + (v.getD 4 0 &&& v.getD 5 0 ^^^ ~~~ v.getD 4 0 &&& v.getD 6 0) + K.getD i 0 + w.getD i 0
def ruF (v : List (BitVec 32)) : BitVec 32 := (updF (v.getD 0 0) 2 ^^^ updF (v.getD 0 0) 13 ^^^ updF (v.getD 0 0) 22) + (v.getD 0 0 &&& v.getD 1 0 ^^^ v.getD 0 0 &&& v.getD 2 0 ^^^ v.getD 1 0 &&& v.getD 2 0)
def rvF (K w : List (BitVec 32)) (i : Nat) (v : List (BitVec 32)) : List (BitVec 32) :=
  [rtF K w i v + ruF v, v.getD 0 0, v.getD 1 0, v.getD 2 0, v.getD 3 0 + rtF K w i v, v.getD 4 0, v.getD 5 0, v.getD 6 0]
def rblk (K : List (BitVec 32)) (b : List (BitVec 8)) (at' : Nat) (h : List (BitVec 32)) : List (BitVec 32) := hAdd (itN (rvF K (rwB 48 (rwA b at' 16))) 64 h) 8 h
def rblks (K : List (BitVec 32)) (b : List (BitVec 8)) (q : Nat) (h : List (BitVec 32)) : List (BitVec 32) := itN (fun a h => rblk K b (64 * a) h) q h
def rhash (m : List (BitVec 8)) (K h : List (BitVec 32)) : List (BitVec 8) := outF (rblks K (msgF m) ((msgF m).length / 64) h) 32
theorem rwA_len (b : List (BitVec 8)) (at' k : Nat) : (rwA b at' k).length = k := by
  induction k with
  | zero => rfl
  | succ k ih => show (rwA b at' k ++ _).length = _; simp [ih]
theorem rwB_len (k : Nat) (w : List (BitVec 32)) : (rwB k w).length = w.length + k := by
  induction k with
  | zero => rfl
  | succ k ih => show (rwB k w ++ _).length = _; simp [ih]; omega
theorem rvTo_len (K w : List (BitVec 32)) (k : Nat) (h : List (BitVec 32)) (hl : h.length = 8) : (itN (rvF K w) k h).length = 8 := itN_inv (p := fun (t : List (BitVec 32)) => t.length = 8) (fun _ _ _ => rfl) k hl
theorem rblks_len (K : List (BitVec 32)) (b : List (BitVec 8)) (q : Nat) (h : List (BitVec 32)) (hl : h.length = 8) : (rblks K b q h).length = 8 := itN_inv (p := fun (t : List (BitVec 32)) => t.length = 8) (fun _ _ hh => by simp only [rblk, hAdd_len]; exact hh) q hl
noncomputable def rhashS : FSpec := { run := fun ins => match ins with
  | [.sl false (.u 8 m), .sl false (.u 32 K), .agg 8 (.u 32 h)] => chk (m.length ≤ 140737488352000 ∧ K.length = 64 ∧ h.length = 8) (some (.agg 32 (.u 8 (rhash m K h)), []))
  | _ => none }
theorem rhash_sound : SoundFn Tryd.prog glB 15 rhashS.run := by
  have G := good_of (P := Tryd.prog) glB_ro (l := [(21, updS)]) (by simp only [List.forall_mem_cons]; exact ⟨upd_sound, by simp⟩)
  refine soundFn_of_W G Tryd.func15 (by decide) rfl (by decide) ?_
  intro ins ret outs h
  unfold rhashS at h
  dsimp only at h
  split at h
  rotate_left
  · cases h
  rename_i m K h0
  obtain ⟨hl, h'⟩ := chk_some h
  clear h
  cases h'
  obtain ⟨lm, lK, lh⟩ := hl
  refine ⟨by show 3 ≤ 269; decide, fun w0 ext av => ?_⟩
  rw [Tryd.ntmps15, st0_eq]
  have hM : msgF m = lenL (8#64 * BitVec.ofInt 64 (m.length : Int)) 8 (padL m (padR m.length)) := rfl
  have hZ : padR m.length = (119 - m.length % 64) % 64 := rfl
  have hR : rhash m K h0 = outF (rblks K (msgF m) ((msgF m).length / 64) h0) 32 := rfl
  generalize padR m.length = Z at hM hZ
  generalize hN : 8#64 * BitVec.ofInt 64 (m.length : Int) = N at hM
  have hp0 : padL m 0 = m ++ [128#8] := rfl
  repeat' first
    | refine W.seq ?_ | (refine W.regS G ?_; dsimp only) | refine SW.nil ?_ | refine thenQ_normal ?_ | refine W.skip ?_ | refine W.exit ?_ | refine thenQ_exit ?_ | refine inBlockQ_exit ?_ | refine inBlockQ_normal ?_
    | (apply SW.toC; refine SWcall.go hN ?_) | (apply SW.toOp; refine SWop.go hN ?_) | (apply SW.toCG; first | refine SWcall.yes hN ?_ | refine SWcall.no hN ?_) | (apply SW.toG; first | refine SWop.yes hN ?_ | refine SWop.no hN ?_)
  refine W.mid (sL [(1, .sl false (.u 32 K)), (5, .p 5 0 0 0), (6, .p 6 0 0 0), (7, .gr 24 (m.length + 1 + Z)), (8, .u 64 N)] [(5, .agg 8 (.u 32 h0)), (6, .agg 32 (.u 8 (zeros 8 32))), (24, .row (.u 8 (padL m Z)))] 269) ?_ ?_
  · repeat' first
      | refine W.seq ?_ | (refine W.regS G ?_; dsimp only) | refine SW.nil ?_ | refine thenQ_normal ?_ | refine W.skip ?_ | refine W.exit ?_ | refine thenQ_exit ?_ | refine inBlockQ_exit ?_ | refine inBlockQ_normal ?_ | refine W.block ?_
      | (apply SW.toC; refine SWcall.go hN ?_) | (apply SW.toOp; refine SWop.go hN ?_) | (apply SW.toCG; first | refine SWcall.yes hN ?_ | refine SWcall.no hN ?_) | (apply SW.toG; first | refine SWop.yes hN ?_ | refine SWop.no hN ?_)
    refine W.loopI (ι := {j : Nat // j ≤ Z}) (fun j => sL [(1, .sl false (.u 32 K)), (5, .p 5 0 0 0), (6, .p 6 0 0 0), (7, .gr 24 (m.length + 1 + j.1)), (8, .u 64 N)] [(5, .agg 8 (.u 32 h0)), (6, .agg 32 (.u 8 (zeros 8 32))), (24, .row (.u 8 (padL m j.1)))] 269) (fun j => Z - j.1) ⟨0, Nat.zero_le _⟩ (Imp.le ?_) ?_
    · exact sL_leZ (And.intro hp0 hN)
    rintro ⟨j, hj⟩
    have e : padL m (j + 1) = padL m j ++ [0#8] := itN_succ _ _ _
    have l0 := padL_len m j
    have hend : j = Z → padL m Z = padL m j := by rintro rfl; rfl
    generalize padL m j = l at e l0 hend ⊢
    repeat' first
      | refine W.seq ?_ | (refine W.regS G ?_; dsimp only) | refine SW.nil ?_ | refine thenQ_normal ?_ | refine W.skip ?_ | refine W.exit ?_ | refine thenQ_exit ?_ | refine inBlockQ_exit ?_ | refine inBlockQ_normal ?_ | refine W.block ?_
      | (apply SW.toC; refine SWcall.go l0 ?_) | (apply SW.toOp; refine SWop.go l0 ?_) | (apply SW.toCG; first | refine SWcall.yes l0 ?_ | refine SWcall.no l0 ?_) | (apply SW.toG; first | refine SWop.yes l0 ?_ | refine SWop.no l0 ?_)
    refine W.condZ G l0 ?_ ?_
    all_goals intro ht
    · have ht' := ne_of_nd ht
      repeat' first
        | refine W.seq ?_ | (refine W.regS G ?_; dsimp only) | refine SW.nil ?_ | refine thenQ_normal ?_ | refine W.skip ?_ | refine W.exit ?_ | refine thenQ_exit ?_ | refine inBlockQ_exit ?_ | refine inBlockQ_normal ?_ | refine W.block ?_
        | (apply SW.toC; refine SWcall.go l0 ?_) | (apply SW.toOp; refine SWop.go l0 ?_) | (apply SW.toCG; first | refine SWcall.yes l0 ?_ | refine SWcall.no l0 ?_) | (apply SW.toG; first | refine SWop.yes l0 ?_ | refine SWop.no l0 ?_)
      refine ⟨⟨j + 1, by omega⟩, Imp.le ?_, by show _ - (j + 1) < _ - j; omega⟩
      exact sL_leZ (And.intro e l0)
    have ht' := eq_of_nd ht
    obtain rfl : j = Z := by omega
    have hh := hend rfl
    repeat' first
      | refine W.seq ?_ | (refine W.regS G ?_; dsimp only) | refine SW.nil ?_ | refine thenQ_normal ?_ | refine W.skip ?_ | refine W.exit ?_ | refine thenQ_exit ?_ | refine inBlockQ_exit ?_ | refine inBlockQ_normal ?_ | refine W.block ?_
      | (apply SW.toC; refine SWcall.go l0 ?_) | (apply SW.toOp; refine SWop.go l0 ?_) | (apply SW.toCG; first | refine SWcall.yes l0 ?_ | refine SWcall.no l0 ?_) | (apply SW.toG; first | refine SWop.yes l0 ?_ | refine SWop.no l0 ?_)
    refine Imp.le ?_
    exact sL_leZ (And.intro hh l0)
  have l1 := padL_len m Z
  generalize padL m Z = L1 at hM l1 ⊢
  repeat' first
    | refine W.seq ?_ | (refine W.regS G ?_; dsimp only) | refine SW.nil ?_ | refine thenQ_normal ?_ | refine W.skip ?_ | refine W.exit ?_ | refine thenQ_exit ?_ | refine inBlockQ_exit ?_ | refine inBlockQ_normal ?_
    | (apply SW.toC; refine SWcall.go l1 ?_) | (apply SW.toOp; refine SWop.go l1 ?_) | (apply SW.toCG; first | refine SWcall.yes l1 ?_ | refine SWcall.no l1 ?_) | (apply SW.toG; first | refine SWop.yes l1 ?_ | refine SWop.no l1 ?_)
  refine W.mid (sL [(1, .sl false (.u 32 K)), (5, .p 5 0 0 0), (6, .p 6 0 0 0), (7, .gr 24 (m.length + 1 + Z + 8))] [(5, .agg 8 (.u 32 h0)), (6, .agg 32 (.u 8 (zeros 8 32))), (24, .row (.u 8 (lenL N 8 L1)))] 269) ?_ ?_
  · repeat' first
      | refine W.seq ?_ | (refine W.regS G ?_; dsimp only) | refine SW.nil ?_ | refine thenQ_normal ?_ | refine W.skip ?_ | refine W.exit ?_ | refine thenQ_exit ?_ | refine inBlockQ_exit ?_ | refine inBlockQ_normal ?_ | refine W.block ?_
      | (apply SW.toC; refine SWcall.go l1 ?_) | (apply SW.toOp; refine SWop.go l1 ?_) | (apply SW.toCG; first | refine SWcall.yes l1 ?_ | refine SWcall.no l1 ?_) | (apply SW.toG; first | refine SWop.yes l1 ?_ | refine SWop.no l1 ?_)
    refine W.loopI (ι := {j : Nat // j ≤ 8}) (fun j => sL [(1, .sl false (.u 32 K)), (5, .p 5 0 0 0), (6, .p 6 0 0 0), (7, .gr 24 (m.length + 1 + Z + j.1)), (8, .u 64 N), (9, .i (7 - (j.1 : Int)))] [(5, .agg 8 (.u 32 h0)), (6, .agg 32 (.u 8 (zeros 8 32))), (24, .row (.u 8 (lenL N j.1 L1)))] 269) (fun j => 8 - j.1) ⟨0, Nat.zero_le _⟩ (Imp.le ?_) ?_
    · exact sL_leZ l1
    rintro ⟨j, hj⟩
    have e : lenL N (j + 1) L1 = lenL N j L1 ++ [BitVec.setWidth 8 (N >>> (8 * (7 - j)))] := itN_succ _ _ _
    have l0 := lenL_len N j L1
    have hend : j = 8 → lenL N 8 L1 = lenL N j L1 := by rintro rfl; rfl
    generalize lenL N j L1 = l at e l0 hend ⊢
    have l0' : l.length = m.length + 1 + Z + j := by omega
    repeat' first
      | refine W.seq ?_ | (refine W.regS G ?_; dsimp only) | refine SW.nil ?_ | refine thenQ_normal ?_ | refine W.skip ?_ | refine W.exit ?_ | refine thenQ_exit ?_ | refine inBlockQ_exit ?_ | refine inBlockQ_normal ?_ | refine W.block ?_
      | (apply SW.toC; refine SWcall.go l0' ?_) | (apply SW.toOp; refine SWop.go l0' ?_) | (apply SW.toCG; first | refine SWcall.yes l0' ?_ | refine SWcall.no l0' ?_) | (apply SW.toG; first | refine SWop.yes l0' ?_ | refine SWop.no l0' ?_)
    refine W.condZ G l0' ?_ ?_
    all_goals intro ht
    · have ht' := of_decide_eq_true ht
      have e1 : (8 * (7 - (j : Int))) = ((8 * (7 - j) : Nat) : Int) := by omega
      have e2 : (BitVec.ofInt 64 ((8 * (7 - j) : Nat) : Int)).toNat = 8 * (7 - j) := by rw [BitVec.toNat_ofInt]; omega
      repeat' first
        | refine W.seq ?_ | (refine W.regS G ?_; dsimp only) | refine SW.nil ?_ | refine thenQ_normal ?_ | refine W.skip ?_ | refine W.exit ?_ | refine thenQ_exit ?_ | refine inBlockQ_exit ?_ | refine inBlockQ_normal ?_ | refine W.block ?_
        | (apply SW.toC; refine SWcall.go (And.intro l0' (And.intro e1 e2)) ?_) | (apply SW.toOp; refine SWop.go (And.intro l0' (And.intro e1 e2)) ?_) | (apply SW.toCG; first | refine SWcall.yes (And.intro l0' (And.intro e1 e2)) ?_ | refine SWcall.no (And.intro l0' (And.intro e1 e2)) ?_) | (apply SW.toG; first | refine SWop.yes (And.intro l0' (And.intro e1 e2)) ?_ | refine SWop.no (And.intro l0' (And.intro e1 e2)) ?_)
      refine ⟨⟨j + 1, by omega⟩, Imp.le ?_, by show _ - (j + 1) < _ - j; omega⟩
      exact sL_leZ (And.intro e (And.intro l0' (And.intro e1 e2)))
    have ht' := of_decide_eq_false ht
    obtain rfl : j = 8 := by omega
    have hh := hend rfl
    repeat' first
      | refine W.seq ?_ | (refine W.regS G ?_; dsimp only) | refine SW.nil ?_ | refine thenQ_normal ?_ | refine W.skip ?_ | refine W.exit ?_ | refine thenQ_exit ?_ | refine inBlockQ_exit ?_ | refine inBlockQ_normal ?_ | refine W.block ?_
      | (apply SW.toC; refine SWcall.go l0' ?_) | (apply SW.toOp; refine SWop.go l0' ?_) | (apply SW.toCG; first | refine SWcall.yes l0' ?_ | refine SWcall.no l0' ?_) | (apply SW.toG; first | refine SWop.yes l0' ?_ | refine SWop.no l0' ?_)
    refine Imp.le ?_
    exact sL_leZ (And.intro hh l0')
  have l2 := lenL_len N 8 L1
  rw [← hM] at l2 ⊢
  generalize msgF m = B at l2 hR ⊢
  obtain ⟨Q, hQ⟩ : ∃ Q, B.length = 64 * Q := ⟨B.length / 64, by omega⟩
  have hQ2 : B.length / 64 = Q := by omega
  rw [hQ2] at hR
  have hQ3 : m.length + 1 + Z + 8 = 64 * Q := by omega
  have l3 : B.length = m.length + 1 + Z + 8 := by omega
  refine W.imp (s := sL [(1, .sl false (.u 32 K)), (5, .p 5 0 0 0), (6, .p 6 0 0 0), (7, .sl true (.u 8 B))] [(5, .agg 8 (.u 32 h0)), (6, .agg 32 (.u 8 (zeros 8 32)))] 269) ?_ (Imp.frz 24 (by decide) ?_)
  rotate_left
  · exact sL_leZ l3
  repeat' first
    | refine W.seq ?_ | (refine W.regS G ?_; dsimp only) | refine SW.nil ?_ | refine thenQ_normal ?_ | refine W.skip ?_ | refine W.exit ?_ | refine thenQ_exit ?_ | refine inBlockQ_exit ?_ | refine inBlockQ_normal ?_
    | (apply SW.toC; refine SWcall.go hQ ?_) | (apply SW.toOp; refine SWop.go hQ ?_) | (apply SW.toCG; first | refine SWcall.yes hQ ?_ | refine SWcall.no hQ ?_) | (apply SW.toG; first | refine SWop.yes hQ ?_ | refine SWop.no hQ ?_)
  refine W.mid (sL [(5, .p 5 0 0 0), (6, .p 6 0 0 0)] [(5, .agg 8 (.u 32 (rblks K B Q h0))), (6, .agg 32 (.u 8 (zeros 8 32)))] 269) ?_ ?_
  · repeat' first
      | refine W.seq ?_ | (refine W.regS G ?_; dsimp only) | refine SW.nil ?_ | refine thenQ_normal ?_ | refine W.skip ?_ | refine W.exit ?_ | refine thenQ_exit ?_ | refine inBlockQ_exit ?_ | refine inBlockQ_normal ?_ | refine W.block ?_
      | (apply SW.toC; refine SWcall.go hQ ?_) | (apply SW.toOp; refine SWop.go hQ ?_) | (apply SW.toCG; first | refine SWcall.yes hQ ?_ | refine SWcall.no hQ ?_) | (apply SW.toG; first | refine SWop.yes hQ ?_ | refine SWop.no hQ ?_)
    refine W.loopI (ι := {a : Nat // a ≤ Q}) (fun a => sL [(1, .sl false (.u 32 K)), (5, .p 5 0 0 0), (6, .p 6 0 0 0), (7, .sl true (.u 8 B)), (10, .i ((64 * a.1 : Nat) : Int))] [(5, .agg 8 (.u 32 (rblks K B a.1 h0))), (6, .agg 32 (.u 8 (zeros 8 32)))] 269) (fun a => Q - a.1) ⟨0, Nat.zero_le _⟩ (Imp.le ?_) ?_
    · exact sL_leZ hQ
    rintro ⟨a, ha⟩
    have e : rblks K B (a + 1) h0 = rblk K B (64 * a) (rblks K B a h0) := itN_succ _ _ _
    have hend : a = Q → rblks K B Q h0 = rblks K B a h0 := by rintro rfl; rfl
    have lq := rblks_len K B a h0 lh
    generalize rblks K B a h0 = h at e hend lq ⊢
    repeat' first
      | refine W.seq ?_ | (refine W.regS G ?_; dsimp only) | refine SW.nil ?_ | refine thenQ_normal ?_ | refine W.skip ?_ | refine W.exit ?_ | refine thenQ_exit ?_ | refine inBlockQ_exit ?_ | refine inBlockQ_normal ?_ | refine W.block ?_
      | (apply SW.toC; refine SWcall.go hQ ?_) | (apply SW.toOp; refine SWop.go hQ ?_) | (apply SW.toCG; first | refine SWcall.yes hQ ?_ | refine SWcall.no hQ ?_) | (apply SW.toG; first | refine SWop.yes hQ ?_ | refine SWop.no hQ ?_)
    refine W.condZ G hQ ?_ ?_
    all_goals intro ht
    · have ht' := of_decide_eq_true ht
      have haQ : a < Q := by omega
      have hb : rblk K B (64 * a) h = hAdd (itN (rvF K (rwB 48 (rwA B (64 * a) 16))) 64 h) 8 h := rfl
      generalize hA : 64 * a = A at hb e ⊢
      repeat' first
        | refine W.seq ?_ | (refine W.regS G ?_; dsimp only) | refine SW.nil ?_ | refine thenQ_normal ?_ | refine W.skip ?_ | refine W.exit ?_ | refine thenQ_exit ?_ | refine inBlockQ_exit ?_ | refine inBlockQ_normal ?_
        | (apply SW.toC; refine SWcall.go hQ ?_) | (apply SW.toOp; refine SWop.go hQ ?_) | (apply SW.toCG; first | refine SWcall.yes hQ ?_ | refine SWcall.no hQ ?_) | (apply SW.toG; first | refine SWop.yes hQ ?_ | refine SWop.no hQ ?_)
      refine W.block ?_
      repeat' first
        | refine W.seq ?_ | (refine W.regS G ?_; dsimp only) | refine SW.nil ?_ | refine thenQ_normal ?_ | refine W.skip ?_ | refine W.exit ?_ | refine thenQ_exit ?_ | refine inBlockQ_exit ?_ | refine inBlockQ_normal ?_
        | (apply SW.toC; refine SWcall.go hQ ?_) | (apply SW.toOp; refine SWop.go hQ ?_) | (apply SW.toCG; first | refine SWcall.yes hQ ?_ | refine SWcall.no hQ ?_) | (apply SW.toG; first | refine SWop.yes hQ ?_ | refine SWop.no hQ ?_)
      refine W.mid (sL [(1, .sl false (.u 32 K)), (5, .p 5 0 0 0), (6, .p 6 0 0 0), (7, .sl true (.u 8 B)), (10, .i (A : Int)), (11, .gr 59 16)] [(5, .agg 8 (.u 32 h)), (6, .agg 32 (.u 8 (zeros 8 32))), (59, .row (.u 32 (rwA B A 16)))] 269) ?_ ?_
      · repeat' first
          | refine W.seq ?_ | (refine W.regS G ?_; dsimp only) | refine SW.nil ?_ | refine thenQ_normal ?_ | refine W.skip ?_ | refine W.exit ?_ | refine thenQ_exit ?_ | refine inBlockQ_exit ?_ | refine inBlockQ_normal ?_ | refine W.block ?_
          | (apply SW.toC; refine SWcall.go hQ ?_) | (apply SW.toOp; refine SWop.go hQ ?_) | (apply SW.toCG; first | refine SWcall.yes hQ ?_ | refine SWcall.no hQ ?_) | (apply SW.toG; first | refine SWop.yes hQ ?_ | refine SWop.no hQ ?_)
        refine W.loopI (ι := {i : Nat // i ≤ 16}) (fun i => sL [(1, .sl false (.u 32 K)), (5, .p 5 0 0 0), (6, .p 6 0 0 0), (7, .sl true (.u 8 B)), (10, .i (A : Int)), (11, .gr 59 i.1), (12, .i i.1)] [(5, .agg 8 (.u 32 h)), (6, .agg 32 (.u 8 (zeros 8 32))), (59, .row (.u 32 (rwA B A i.1)))] 269) (fun i => 16 - i.1) ⟨0, Nat.zero_le _⟩ (Imp.le ?_) ?_
        · exact sL_leZ hQ
        rintro ⟨i, hi⟩
        have e2 : rwA B A (i + 1) = rwA B A i ++ [beAt B A i] := itN_succ _ _ _
        have hend2 : i = 16 → rwA B A 16 = rwA B A i := by rintro rfl; rfl
        have l0 := rwA_len B A i
        generalize rwA B A i = w at e2 hend2 l0 ⊢
        repeat' first
          | refine W.seq ?_ | (refine W.regS G ?_; dsimp only) | refine SW.nil ?_ | refine thenQ_normal ?_ | refine W.skip ?_ | refine W.exit ?_ | refine thenQ_exit ?_ | refine inBlockQ_exit ?_ | refine inBlockQ_normal ?_ | refine W.block ?_
          | (apply SW.toC; refine SWcall.go l0 ?_) | (apply SW.toOp; refine SWop.go l0 ?_) | (apply SW.toCG; first | refine SWcall.yes l0 ?_ | refine SWcall.no l0 ?_) | (apply SW.toG; first | refine SWop.yes l0 ?_ | refine SWop.no l0 ?_)
        refine W.condZ G l0 ?_ ?_
        all_goals intro hu
        · have hu' := of_decide_eq_true hu
          have e0 : ((A : Int) + 4 * (i : Int)) = ((A + 4 * i : Nat) : Int) := by omega
          have e1 : (((A + 4 * i : Nat) : Int) + 4) = ((A + 4 * i + 4 : Nat) : Int) := by omega
          have e3 : A + 4 * i + 4 - (A + 4 * i) = 4 := by omega
          have hbe : beAt B A i = BitVec.setWidth 32 ((subL B (A + 4 * i) 4).getD 0 0) <<< 24 ||| BitVec.setWidth 32 ((subL B (A + 4 * i) 4).getD 1 0) <<< 16 ||| BitVec.setWidth 32 ((subL B (A + 4 * i) 4).getD 2 0) <<< 8 ||| BitVec.setWidth 32 ((subL B (A + 4 * i) 4).getD 3 0) := rfl
          have e6 : (4 = 64 * Q) = False := eq_false (by omega)
          repeat' first
            | refine W.seq ?_ | (refine W.regS G ?_; dsimp only) | refine SW.nil ?_ | refine thenQ_normal ?_ | refine W.skip ?_ | refine W.exit ?_ | refine thenQ_exit ?_ | refine inBlockQ_exit ?_ | refine inBlockQ_normal ?_
            | (apply SW.toC; refine SWcall.go (And.intro l0 (And.intro hQ (And.intro e0 (And.intro e1 (And.intro e3 e6))))) ?_) | (apply SW.toOp; refine SWop.go (And.intro l0 (And.intro hQ (And.intro e0 (And.intro e1 (And.intro e3 e6))))) ?_) | (apply SW.toCG; first | refine SWcall.yes (And.intro l0 (And.intro hQ (And.intro e0 (And.intro e1 (And.intro e3 e6))))) ?_ | refine SWcall.no (And.intro l0 (And.intro hQ (And.intro e0 (And.intro e1 (And.intro e3 e6))))) ?_) | (apply SW.toG; first | refine SWop.yes (And.intro l0 (And.intro hQ (And.intro e0 (And.intro e1 (And.intro e3 e6))))) ?_ | refine SWop.no (And.intro l0 (And.intro hQ (And.intro e0 (And.intro e1 (And.intro e3 e6))))) ?_)
          refine W.block ?_
          repeat' first
            | refine W.seq ?_ | (refine W.regS G ?_; dsimp only) | refine SW.nil ?_ | refine thenQ_normal ?_ | refine W.skip ?_ | refine W.exit ?_ | refine thenQ_exit ?_ | refine inBlockQ_exit ?_ | refine inBlockQ_normal ?_
            | (apply SW.toC; refine SWcall.go (And.intro l0 (And.intro hQ (And.intro e0 (And.intro e1 (And.intro e3 e6))))) ?_) | (apply SW.toOp; refine SWop.go (And.intro l0 (And.intro hQ (And.intro e0 (And.intro e1 (And.intro e3 e6))))) ?_) | (apply SW.toCG; first | refine SWcall.yes (And.intro l0 (And.intro hQ (And.intro e0 (And.intro e1 (And.intro e3 e6))))) ?_ | refine SWcall.no (And.intro l0 (And.intro hQ (And.intro e0 (And.intro e1 (And.intro e3 e6))))) ?_) | (apply SW.toG; first | refine SWop.yes (And.intro l0 (And.intro hQ (And.intro e0 (And.intro e1 (And.intro e3 e6))))) ?_ | refine SWop.no (And.intro l0 (And.intro hQ (And.intro e0 (And.intro e1 (And.intro e3 e6))))) ?_)
          have ls := subL_len B (A + 4 * i) 4 (by omega)
          generalize subL B (A + 4 * i) 4 = x at ls hbe ⊢
          refine W.drawS G [[], [], [1], [2, 1], [3, 2, 1], [4, 3, 2, 1], [], [6], [7, 6], [8, 7, 6], [9, 8, 7, 6], [5, 4, 3, 2, 1, 10, 9, 8, 7, 6], [], [12], [13, 12], [14, 13, 12], [15, 14, 13, 12], [11, 5, 4, 3, 2, 1, 10, 9, 8, 7, 6, 16, 15, 14, 13, 12], [], [18], [19, 18], [20, 19, 18], [17, 11, 5, 4, 3, 2, 1, 10, 9, 8, 7, 6, 16, 15, 14, 13, 12, 21, 20, 19, 18], [22, 17, 11, 5, 4, 3, 2, 1, 10, 9, 8, 7, 6, 16, 15, 14, 13, 12, 21, 20, 19, 18], [0, 23, 22, 17, 11, 5, 4, 3, 2, 1, 10, 9, 8, 7, 6, 16, 15, 14, 13, 12, 21, 20, 19, 18], [24, 0, 23, 22, 17, 11, 5, 4, 3, 2, 1, 10, 9, 8, 7, 6, 16, 15, 14, 13, 12, 21, 20, 19, 18]] hmix ?_
          dsimp only
          repeat' first
            | (apply DW.nil; (focus (decide +kernel)))
            | (apply DW.toC; refine DWcall.go (And.intro l0 (And.intro hQ (And.intro e0 (And.intro e1 (And.intro e3 (And.intro e6 ls)))))) ?_) | (apply DW.toOp; refine DWop.go (And.intro l0 (And.intro hQ (And.intro e0 (And.intro e1 (And.intro e3 (And.intro e6 ls)))))) ?_) | (apply DW.toCG; first | refine DWcall.yes (And.intro l0 (And.intro hQ (And.intro e0 (And.intro e1 (And.intro e3 (And.intro e6 ls)))))) ?_ | refine DWcall.no (And.intro l0 (And.intro hQ (And.intro e0 (And.intro e1 (And.intro e3 (And.intro e6 ls)))))) ?_) | (apply DW.toG; first | refine DWop.yes (And.intro l0 (And.intro hQ (And.intro e0 (And.intro e1 (And.intro e3 (And.intro e6 ls)))))) ?_ | refine DWop.no (And.intro l0 (And.intro hQ (And.intro e0 (And.intro e1 (And.intro e3 (And.intro e6 ls)))))) ?_)
          repeat' first
            | refine W.seq ?_ | (refine W.regS G ?_; dsimp only) | refine SW.nil ?_ | refine thenQ_normal ?_ | refine W.skip ?_ | refine W.exit ?_ | refine thenQ_exit ?_ | refine inBlockQ_exit ?_ | refine inBlockQ_normal ?_ | refine W.block ?_
            | (apply SW.toC; refine SWcall.go l0 ?_) | (apply SW.toOp; refine SWop.go l0 ?_) | (apply SW.toCG; first | refine SWcall.yes l0 ?_ | refine SWcall.no l0 ?_) | (apply SW.toG; first | refine SWop.yes l0 ?_ | refine SWop.no l0 ?_)
          refine ⟨⟨i + 1, by omega⟩, Imp.le ?_, by show _ - (i + 1) < _ - i; omega⟩
          exact sL_leZ (And.intro e2 (And.intro hbe l0))
        have hu' := of_decide_eq_false hu
        obtain rfl : i = 16 := by omega
        have hh := hend2 rfl
        repeat' first
          | refine W.seq ?_ | (refine W.regS G ?_; dsimp only) | refine SW.nil ?_ | refine thenQ_normal ?_ | refine W.skip ?_ | refine W.exit ?_ | refine thenQ_exit ?_ | refine inBlockQ_exit ?_ | refine inBlockQ_normal ?_ | refine W.block ?_
          | (apply SW.toC; refine SWcall.go l0 ?_) | (apply SW.toOp; refine SWop.go l0 ?_) | (apply SW.toCG; first | refine SWcall.yes l0 ?_ | refine SWcall.no l0 ?_) | (apply SW.toG; first | refine SWop.yes l0 ?_ | refine SWop.no l0 ?_)
        refine Imp.le ?_
        exact sL_leZ (And.intro hh l0)
      have l4 := rwA_len B A 16
      generalize rwA B A 16 = w0' at hb l4 ⊢
      repeat' first
        | refine W.seq ?_ | (refine W.regS G ?_; dsimp only) | refine SW.nil ?_ | refine thenQ_normal ?_ | refine W.skip ?_ | refine W.exit ?_ | refine thenQ_exit ?_ | refine inBlockQ_exit ?_ | refine inBlockQ_normal ?_
        | (apply SW.toC; refine SWcall.go l4 ?_) | (apply SW.toOp; refine SWop.go l4 ?_) | (apply SW.toCG; first | refine SWcall.yes l4 ?_ | refine SWcall.no l4 ?_) | (apply SW.toG; first | refine SWop.yes l4 ?_ | refine SWop.no l4 ?_)
      refine W.mid (sL [(1, .sl false (.u 32 K)), (5, .p 5 0 0 0), (6, .p 6 0 0 0), (7, .sl true (.u 8 B)), (10, .i (A : Int)), (11, .gr 59 64)] [(5, .agg 8 (.u 32 h)), (6, .agg 32 (.u 8 (zeros 8 32))), (59, .row (.u 32 (rwB 48 w0')))] 269) ?_ ?_
      · repeat' first
          | refine W.seq ?_ | (refine W.regS G ?_; dsimp only) | refine SW.nil ?_ | refine thenQ_normal ?_ | refine W.skip ?_ | refine W.exit ?_ | refine thenQ_exit ?_ | refine inBlockQ_exit ?_ | refine inBlockQ_normal ?_ | refine W.block ?_
          | (apply SW.toC; refine SWcall.go l4 ?_) | (apply SW.toOp; refine SWop.go l4 ?_) | (apply SW.toCG; first | refine SWcall.yes l4 ?_ | refine SWcall.no l4 ?_) | (apply SW.toG; first | refine SWop.yes l4 ?_ | refine SWop.no l4 ?_)
        refine W.loopI (ι := {j : Nat // j ≤ 48}) (fun j => sL [(1, .sl false (.u 32 K)), (5, .p 5 0 0 0), (6, .p 6 0 0 0), (7, .sl true (.u 8 B)), (10, .i (A : Int)), (11, .gr 59 (16 + j.1)), (14, .i ((16 + j.1 : Nat) : Int))] [(5, .agg 8 (.u 32 h)), (6, .agg 32 (.u 8 (zeros 8 32))), (59, .row (.u 32 (rwB j.1 w0')))] 269) (fun j => 48 - j.1) ⟨0, Nat.zero_le _⟩ (Imp.le ?_) ?_
        · exact sL_leZ l4
        rintro ⟨j, hj⟩
        have e2 : rwB (j + 1) w0' = rwB j w0' ++ [rwN (rwB j w0') j] := itN_succ _ _ _
        have hend2 : j = 48 → rwB 48 w0' = rwB j w0' := by rintro rfl; rfl
        have l0 := rwB_len j w0'
        rw [l4] at l0
        generalize rwB j w0' = w at e2 hend2 l0 ⊢
        repeat' first
          | refine W.seq ?_ | (refine W.regS G ?_; dsimp only) | refine SW.nil ?_ | refine thenQ_normal ?_ | refine W.skip ?_ | refine W.exit ?_ | refine thenQ_exit ?_ | refine inBlockQ_exit ?_ | refine inBlockQ_normal ?_ | refine W.block ?_
          | (apply SW.toC; refine SWcall.go l0 ?_) | (apply SW.toOp; refine SWop.go l0 ?_) | (apply SW.toCG; first | refine SWcall.yes l0 ?_ | refine SWcall.no l0 ?_) | (apply SW.toG; first | refine SWop.yes l0 ?_ | refine SWop.no l0 ?_)
        refine W.condZ G l0 ?_ ?_
        all_goals intro hu
        · have hu' := of_decide_eq_true hu
          have e0 : (((16 + j : Nat) : Int) - 15) = ((j + 1 : Nat) : Int) := by omega
          have e1 : (((16 + j : Nat) : Int) - 2) = ((j + 14 : Nat) : Int) := by omega
          have e3 : (((16 + j : Nat) : Int) - 16) = ((j : Nat) : Int) := by omega
          have e4 : (((16 + j : Nat) : Int) - 7) = ((j + 9 : Nat) : Int) := by omega
          have hn : rwN w j = (updF (w.getD (j + 14) 0) 17 ^^^ updF (w.getD (j + 14) 0) 19 ^^^ w.getD (j + 14) 0 >>> 10) + w.getD (j + 9) 0 + (updF (w.getD (j + 1) 0) 7 ^^^ updF (w.getD (j + 1) 0) 18 ^^^ w.getD (j + 1) 0 >>> 3) + w.getD j 0 := rfl
          repeat' first
            | refine W.seq ?_ | (refine W.regS G ?_; dsimp only) | refine SW.nil ?_ | refine thenQ_normal ?_ | refine W.skip ?_ | refine W.exit ?_ | refine thenQ_exit ?_ | refine inBlockQ_exit ?_ | refine inBlockQ_normal ?_
            | (apply SW.toC; refine SWcall.go (And.intro l0 (And.intro e0 (And.intro e1 (And.intro e3 (And.intro e4 updS.eq_1))))) ?_) | (apply SW.toOp; refine SWop.go (And.intro l0 (And.intro e0 (And.intro e1 (And.intro e3 (And.intro e4 updS.eq_1))))) ?_) | (apply SW.toCG; first | refine SWcall.yes (And.intro l0 (And.intro e0 (And.intro e1 (And.intro e3 (And.intro e4 updS.eq_1))))) ?_ | refine SWcall.no (And.intro l0 (And.intro e0 (And.intro e1 (And.intro e3 (And.intro e4 updS.eq_1))))) ?_) | (apply SW.toG; first | refine SWop.yes (And.intro l0 (And.intro e0 (And.intro e1 (And.intro e3 (And.intro e4 updS.eq_1))))) ?_ | refine SWop.no (And.intro l0 (And.intro e0 (And.intro e1 (And.intro e3 (And.intro e4 updS.eq_1))))) ?_)
          refine W.block ?_
          repeat' first
            | refine W.seq ?_ | (refine W.regS G ?_; dsimp only) | refine SW.nil ?_ | refine thenQ_normal ?_ | refine W.skip ?_ | refine W.exit ?_ | refine thenQ_exit ?_ | refine inBlockQ_exit ?_ | refine inBlockQ_normal ?_
            | (apply SW.toC; refine SWcall.go (And.intro l0 (And.intro e0 (And.intro e1 (And.intro e3 (And.intro e4 updS.eq_1))))) ?_) | (apply SW.toOp; refine SWop.go (And.intro l0 (And.intro e0 (And.intro e1 (And.intro e3 (And.intro e4 updS.eq_1))))) ?_) | (apply SW.toCG; first | refine SWcall.yes (And.intro l0 (And.intro e0 (And.intro e1 (And.intro e3 (And.intro e4 updS.eq_1))))) ?_ | refine SWcall.no (And.intro l0 (And.intro e0 (And.intro e1 (And.intro e3 (And.intro e4 updS.eq_1))))) ?_) | (apply SW.toG; first | refine SWop.yes (And.intro l0 (And.intro e0 (And.intro e1 (And.intro e3 (And.intro e4 updS.eq_1))))) ?_ | refine SWop.no (And.intro l0 (And.intro e0 (And.intro e1 (And.intro e3 (And.intro e4 updS.eq_1))))) ?_)
          refine W.drawS G [[], [], [1], [0, 2, 1], [3, 0, 2, 1], [], [], [6], [5, 7, 6], [8, 5, 7, 6], [4, 3, 0, 2, 1], [9, 8, 5, 7, 6, 10, 4, 3, 0, 2, 1]] hmix ?_
          dsimp only
          repeat' first
            | (apply DW.nil; (focus (decide +kernel)))
            | (apply DW.toC; refine DWcall.go (And.intro l0 (And.intro e0 (And.intro e1 (And.intro e3 (And.intro e4 updS.eq_1))))) ?_) | (apply DW.toOp; refine DWop.go (And.intro l0 (And.intro e0 (And.intro e1 (And.intro e3 (And.intro e4 updS.eq_1))))) ?_) | (apply DW.toCG; first | refine DWcall.yes (And.intro l0 (And.intro e0 (And.intro e1 (And.intro e3 (And.intro e4 updS.eq_1))))) ?_ | refine DWcall.no (And.intro l0 (And.intro e0 (And.intro e1 (And.intro e3 (And.intro e4 updS.eq_1))))) ?_) | (apply DW.toG; first | refine DWop.yes (And.intro l0 (And.intro e0 (And.intro e1 (And.intro e3 (And.intro e4 updS.eq_1))))) ?_ | refine DWop.no (And.intro l0 (And.intro e0 (And.intro e1 (And.intro e3 (And.intro e4 updS.eq_1))))) ?_)
          repeat' first
            | refine W.seq ?_ | (refine W.regS G ?_; dsimp only) | refine SW.nil ?_ | refine thenQ_normal ?_ | refine W.skip ?_ | refine W.exit ?_ | refine thenQ_exit ?_ | refine inBlockQ_exit ?_ | refine inBlockQ_normal ?_
            | (apply SW.toC; refine SWcall.go (And.intro l0 (And.intro e0 (And.intro e1 (And.intro e3 (And.intro e4 updS.eq_1))))) ?_) | (apply SW.toOp; refine SWop.go (And.intro l0 (And.intro e0 (And.intro e1 (And.intro e3 (And.intro e4 updS.eq_1))))) ?_) | (apply SW.toCG; first | refine SWcall.yes (And.intro l0 (And.intro e0 (And.intro e1 (And.intro e3 (And.intro e4 updS.eq_1))))) ?_ | refine SWcall.no (And.intro l0 (And.intro e0 (And.intro e1 (And.intro e3 (And.intro e4 updS.eq_1))))) ?_) | (apply SW.toG; first | refine SWop.yes (And.intro l0 (And.intro e0 (And.intro e1 (And.intro e3 (And.intro e4 updS.eq_1))))) ?_ | refine SWop.no (And.intro l0 (And.intro e0 (And.intro e1 (And.intro e3 (And.intro e4 updS.eq_1))))) ?_)
          refine W.drawS G [[], [], [1], [], [3, 2, 1], [2, 1, 4, 3], [], [6], [5, 2, 1, 4, 3, 7, 6], [], [], [10], [9, 11, 10], [12, 9, 11, 10], [8, 5, 2, 1, 4, 3, 7, 6, 13, 12, 9, 11, 10], [], [15, 4, 3, 2, 1], [], [17, 16, 15, 4, 3, 2, 1], [16, 15, 4, 3, 2, 1, 18, 17], [], [20], [19, 16, 15, 4, 3, 2, 1, 18, 17, 21, 20], [14, 8, 5, 2, 1, 4, 3, 7, 6, 13, 12, 9, 11, 10, 22, 19, 16, 15, 18, 17, 21, 20], [], [], [25], [24, 26, 25], [27, 24, 26, 25], [23, 14, 8, 5, 2, 1, 4, 3, 7, 6, 13, 12, 9, 11, 10, 22, 19, 16, 15, 18, 17, 21, 20, 28, 27, 24, 26, 25], [29, 23, 14, 8, 5, 2, 1, 4, 3, 7, 6, 13, 12, 9, 11, 10, 22, 19, 16, 15, 18, 17, 21, 20, 28, 27, 24, 26, 25], [0, 30, 29, 23, 14, 8, 5, 2, 1, 4, 3, 7, 6, 13, 12, 9, 11, 10, 22, 19, 16, 15, 18, 17, 21, 20, 28, 27, 24, 26, 25], [31, 0, 30, 29, 23, 14, 8, 5, 2, 1, 4, 3, 7, 6, 13, 12, 9, 11, 10, 22, 19, 16, 15, 18, 17, 21, 20, 28, 27, 24, 26, 25]] hmix ?_
          dsimp only
          repeat' first
            | (apply DW.nil; (focus (decide +kernel)))
            | (apply DW.toC; refine DWcall.go (And.intro l0 (And.intro e0 (And.intro e1 (And.intro e3 (And.intro e4 updS.eq_1))))) ?_) | (apply DW.toOp; refine DWop.go (And.intro l0 (And.intro e0 (And.intro e1 (And.intro e3 (And.intro e4 updS.eq_1))))) ?_) | (apply DW.toCG; first | refine DWcall.yes (And.intro l0 (And.intro e0 (And.intro e1 (And.intro e3 (And.intro e4 updS.eq_1))))) ?_ | refine DWcall.no (And.intro l0 (And.intro e0 (And.intro e1 (And.intro e3 (And.intro e4 updS.eq_1))))) ?_) | (apply DW.toG; first | refine DWop.yes (And.intro l0 (And.intro e0 (And.intro e1 (And.intro e3 (And.intro e4 updS.eq_1))))) ?_ | refine DWop.no (And.intro l0 (And.intro e0 (And.intro e1 (And.intro e3 (And.intro e4 updS.eq_1))))) ?_)
          repeat' first
            | refine W.seq ?_ | (refine W.regS G ?_; dsimp only) | refine SW.nil ?_ | refine thenQ_normal ?_ | refine W.skip ?_ | refine W.exit ?_ | refine thenQ_exit ?_ | refine inBlockQ_exit ?_ | refine inBlockQ_normal ?_ | refine W.block ?_
            | (apply SW.toC; refine SWcall.go (And.intro l0 (And.intro e0 (And.intro e1 (And.intro e3 (And.intro e4 updS.eq_1))))) ?_) | (apply SW.toOp; refine SWop.go (And.intro l0 (And.intro e0 (And.intro e1 (And.intro e3 (And.intro e4 updS.eq_1))))) ?_) | (apply SW.toCG; first | refine SWcall.yes (And.intro l0 (And.intro e0 (And.intro e1 (And.intro e3 (And.intro e4 updS.eq_1))))) ?_ | refine SWcall.no (And.intro l0 (And.intro e0 (And.intro e1 (And.intro e3 (And.intro e4 updS.eq_1))))) ?_) | (apply SW.toG; first | refine SWop.yes (And.intro l0 (And.intro e0 (And.intro e1 (And.intro e3 (And.intro e4 updS.eq_1))))) ?_ | refine SWop.no (And.intro l0 (And.intro e0 (And.intro e1 (And.intro e3 (And.intro e4 updS.eq_1))))) ?_)
          refine ⟨⟨j + 1, by omega⟩, Imp.le ?_, by show _ - (j + 1) < _ - j; omega⟩
          exact sL_leZ (And.intro e2 (And.intro hn (And.intro l0 (And.intro e0 (And.intro e1 (And.intro e3 (And.intro e4 updS.eq_1)))))))
        have hu' := of_decide_eq_false hu
        obtain rfl : j = 48 := by omega
        have hh := hend2 rfl
        repeat' first
          | refine W.seq ?_ | (refine W.regS G ?_; dsimp only) | refine SW.nil ?_ | refine thenQ_normal ?_ | refine W.skip ?_ | refine W.exit ?_ | refine thenQ_exit ?_ | refine inBlockQ_exit ?_ | refine inBlockQ_normal ?_ | refine W.block ?_
          | (apply SW.toC; refine SWcall.go l0 ?_) | (apply SW.toOp; refine SWop.go l0 ?_) | (apply SW.toCG; first | refine SWcall.yes l0 ?_ | refine SWcall.no l0 ?_) | (apply SW.toG; first | refine SWop.yes l0 ?_ | refine SWop.no l0 ?_)
        refine Imp.le ?_
        exact sL_leZ (And.intro hh l0)
      have l5 := rwB_len 48 w0'
      rw [l4] at l5
      generalize rwB 48 w0' = w at hb l5 ⊢
      have l5' : w.length = 64 := l5
      refine W.imp (s := sL [(1, .sl false (.u 32 K)), (5, .p 5 0 0 0), (6, .p 6 0 0 0), (7, .sl true (.u 8 B)), (10, .i (A : Int)), (11, .sl true (.u 32 w))] [(5, .agg 8 (.u 32 h)), (6, .agg 32 (.u 8 (zeros 8 32)))] 269) ?_ (Imp.frz 59 (by decide) ?_)
      rotate_left
      · exact sL_leZ l5'
      repeat' first
        | refine W.seq ?_ | (refine W.regS G ?_; dsimp only) | refine SW.nil ?_ | refine thenQ_normal ?_ | refine W.skip ?_ | refine W.exit ?_ | refine thenQ_exit ?_ | refine inBlockQ_exit ?_ | refine inBlockQ_normal ?_
        | (apply SW.toC; refine SWcall.go lq ?_) | (apply SW.toOp; refine SWop.go lq ?_) | (apply SW.toCG; first | refine SWcall.yes lq ?_ | refine SWcall.no lq ?_) | (apply SW.toG; first | refine SWop.yes lq ?_ | refine SWop.no lq ?_)
      refine W.mid (sL [(1, .sl false (.u 32 K)), (5, .p 5 0 0 0), (6, .p 6 0 0 0), (7, .sl true (.u 8 B)), (10, .i (A : Int)), (17, .p 17 0 0 0)] [(5, .agg 8 (.u 32 h)), (6, .agg 32 (.u 8 (zeros 8 32))), (17, .agg 8 (.u 32 (itN (rvF K w) 64 h)))] 269) ?_ ?_
      · repeat' first
          | refine W.seq ?_ | (refine W.regS G ?_; dsimp only) | refine SW.nil ?_ | refine thenQ_normal ?_ | refine W.skip ?_ | refine W.exit ?_ | refine thenQ_exit ?_ | refine inBlockQ_exit ?_ | refine inBlockQ_normal ?_ | refine W.block ?_
          | (apply SW.toC; refine SWcall.go lq ?_) | (apply SW.toOp; refine SWop.go lq ?_) | (apply SW.toCG; first | refine SWcall.yes lq ?_ | refine SWcall.no lq ?_) | (apply SW.toG; first | refine SWop.yes lq ?_ | refine SWop.no lq ?_)
        refine W.loopI (ι := {i : Nat // i ≤ 64}) (fun i => sL [(1, .sl false (.u 32 K)), (5, .p 5 0 0 0), (6, .p 6 0 0 0), (7, .sl true (.u 8 B)), (10, .i (A : Int)), (11, .sl true (.u 32 w)), (17, .p 17 0 0 0), (18, .i i.1)] [(5, .agg 8 (.u 32 h)), (6, .agg 32 (.u 8 (zeros 8 32))), (17, .agg 8 (.u 32 (itN (rvF K w) i.1 h)))] 269) (fun i => 64 - i.1) ⟨0, Nat.zero_le _⟩ (Imp.le ?_) ?_
        · exact sL_leZ lq
        rintro ⟨i, hi⟩
        have e2 : itN (rvF K w) (i + 1) h = rvF K w i (itN (rvF K w) i h) := itN_succ _ _ _
        have hend2 : i = 64 → itN (rvF K w) 64 h = itN (rvF K w) i h := by rintro rfl; rfl
        have lv := rvTo_len K w i h lq
        generalize itN (rvF K w) i h = v at e2 hend2 lv ⊢
        repeat' first
          | refine W.seq ?_ | (refine W.regS G ?_; dsimp only) | refine SW.nil ?_ | refine thenQ_normal ?_ | refine W.skip ?_ | refine W.exit ?_ | refine thenQ_exit ?_ | refine inBlockQ_exit ?_ | refine inBlockQ_normal ?_ | refine W.block ?_
          | (apply SW.toC; refine SWcall.go True.intro ?_) | (apply SW.toOp; refine SWop.go True.intro ?_) | (apply SW.toCG; first | refine SWcall.yes True.intro ?_ | refine SWcall.no True.intro ?_) | (apply SW.toG; first | refine SWop.yes True.intro ?_ | refine SWop.no True.intro ?_)
        refine W.condZ G True.intro ?_ ?_
        all_goals intro hu
        · have hu' := of_decide_eq_true hu
          have hv : rvF K w i v = [rtF K w i v + ruF v, v.getD 0 0, v.getD 1 0, v.getD 2 0, v.getD 3 0 + rtF K w i v, v.getD 4 0, v.getD 5 0, v.getD 6 0] := rfl
          have ht2 : rtF K w i v = v.getD 7 0 + (updF (v.getD 4 0) 6 ^^^ updF (v.getD 4 0) 11 ^^^ updF (v.getD 4 0) 25) + (v.getD 4 0 &&& v.getD 5 0 ^^^ ~~~ v.getD 4 0 &&& v.getD 6 0) + K.getD i 0 + w.getD i 0 := rfl
          have hu2 : ruF v = (updF (v.getD 0 0) 2 ^^^ updF (v.getD 0 0) 13 ^^^ updF (v.getD 0 0) 22) + (v.getD 0 0 &&& v.getD 1 0 ^^^ v.getD 0 0 &&& v.getD 2 0 ^^^ v.getD 1 0 &&& v.getD 2 0) := rfl
          repeat' first
            | refine W.seq ?_ | (refine W.regS G ?_; dsimp only) | refine SW.nil ?_ | refine thenQ_normal ?_ | refine W.skip ?_ | refine W.exit ?_ | refine thenQ_exit ?_ | refine inBlockQ_exit ?_ | refine inBlockQ_normal ?_
            | (apply SW.toC; refine SWcall.go (And.intro updS.eq_1 (And.intro lK (And.intro l5' lv))) ?_) | (apply SW.toOp; refine SWop.go (And.intro updS.eq_1 (And.intro lK (And.intro l5' lv))) ?_) | (apply SW.toCG; first | refine SWcall.yes (And.intro updS.eq_1 (And.intro lK (And.intro l5' lv))) ?_ | refine SWcall.no (And.intro updS.eq_1 (And.intro lK (And.intro l5' lv))) ?_) | (apply SW.toG; first | refine SWop.yes (And.intro updS.eq_1 (And.intro lK (And.intro l5' lv))) ?_ | refine SWop.no (And.intro updS.eq_1 (And.intro lK (And.intro l5' lv))) ?_)
          refine W.block ?_
          repeat' first
            | refine W.seq ?_ | (refine W.regS G ?_; dsimp only) | refine SW.nil ?_ | refine thenQ_normal ?_ | refine W.skip ?_ | refine W.exit ?_ | refine thenQ_exit ?_ | refine inBlockQ_exit ?_ | refine inBlockQ_normal ?_
            | (apply SW.toC; refine SWcall.go (And.intro updS.eq_1 (And.intro lK (And.intro l5' lv))) ?_) | (apply SW.toOp; refine SWop.go (And.intro updS.eq_1 (And.intro lK (And.intro l5' lv))) ?_) | (apply SW.toCG; first | refine SWcall.yes (And.intro updS.eq_1 (And.intro lK (And.intro l5' lv))) ?_ | refine SWcall.no (And.intro updS.eq_1 (And.intro lK (And.intro l5' lv))) ?_) | (apply SW.toG; first | refine SWop.yes (And.intro updS.eq_1 (And.intro lK (And.intro l5' lv))) ?_ | refine SWop.no (And.intro updS.eq_1 (And.intro lK (And.intro l5' lv))) ?_)
          refine W.drawS G [[], [0], [], [2], [3, 2], [], [5], [6, 5, 4, 3, 2], [4, 3, 2, 7, 6, 5], [], [9], [10, 9, 7, 6, 5, 4, 3, 2], [8, 4, 3, 2, 7, 6, 5, 11, 10, 9], [1, 0, 12, 8, 4, 3, 2, 7, 6, 5, 11, 10, 9], [], [14], [], [16], [15, 14, 17, 16], [], [19], [20, 19], [], [22], [21, 20, 19, 23, 22], [18, 15, 14, 17, 16, 24, 21, 20, 19, 23, 22], [13, 1, 0, 12, 8, 4, 3, 2, 7, 6, 5, 11, 10, 9, 25, 18, 15, 14, 17, 16, 24, 21, 20, 19, 23, 22], [], [], [27, 28], [29, 27, 28], [26, 13, 1, 0, 12, 8, 4, 3, 2, 7, 6, 5, 11, 10, 9, 25, 18, 15, 14, 17, 16, 24, 21, 20, 19, 23, 22, 30, 29, 27, 28], [], [], [32, 33], [34, 32, 33], [31, 26, 13, 1, 0, 12, 8, 4, 3, 2, 7, 6, 5, 11, 10, 9, 25, 18, 15, 14, 17, 16, 24, 21, 20, 19, 23, 22, 30, 29, 27, 28, 35, 34, 32, 33], [36, 31, 26, 13, 1, 0, 12, 8, 4, 3, 2, 7, 6, 5, 11, 10, 9, 25, 18, 15, 14, 17, 16, 24, 21, 20, 19, 23, 22, 30, 29, 27, 28, 35, 34, 32, 33]] hmix ?_
          dsimp only
          repeat' first
            | (apply DW.nil; (focus (decide +kernel)))
            | (apply DW.toC; refine DWcall.go (And.intro updS.eq_1 (And.intro lK (And.intro l5' lv))) ?_) | (apply DW.toOp; refine DWop.go (And.intro updS.eq_1 (And.intro lK (And.intro l5' lv))) ?_) | (apply DW.toCG; first | refine DWcall.yes (And.intro updS.eq_1 (And.intro lK (And.intro l5' lv))) ?_ | refine DWcall.no (And.intro updS.eq_1 (And.intro lK (And.intro l5' lv))) ?_) | (apply DW.toG; first | refine DWop.yes (And.intro updS.eq_1 (And.intro lK (And.intro l5' lv))) ?_ | refine DWop.no (And.intro updS.eq_1 (And.intro lK (And.intro l5' lv))) ?_)
          repeat' first
            | refine W.seq ?_ | (refine W.regS G ?_; dsimp only) | refine SW.nil ?_ | refine thenQ_normal ?_ | refine W.skip ?_ | refine W.exit ?_ | refine thenQ_exit ?_ | refine inBlockQ_exit ?_ | refine inBlockQ_normal ?_
            | (apply SW.toC; refine SWcall.go (And.intro updS.eq_1 (And.intro lK (And.intro l5' lv))) ?_) | (apply SW.toOp; refine SWop.go (And.intro updS.eq_1 (And.intro lK (And.intro l5' lv))) ?_) | (apply SW.toCG; first | refine SWcall.yes (And.intro updS.eq_1 (And.intro lK (And.intro l5' lv))) ?_ | refine SWcall.no (And.intro updS.eq_1 (And.intro lK (And.intro l5' lv))) ?_) | (apply SW.toG; first | refine SWop.yes (And.intro updS.eq_1 (And.intro lK (And.intro l5' lv))) ?_ | refine SWop.no (And.intro updS.eq_1 (And.intro lK (And.intro l5' lv))) ?_)
          refine W.drawS G [[], [0], [1, 0], [], [3], [4, 3, 2, 1, 0], [2, 1, 0, 5, 4, 3], [], [7], [8, 7, 5, 4, 3, 2, 1, 0], [6, 2, 1, 0, 5, 4, 3, 9, 8, 7], [], [11], [], [13], [12, 11, 14, 13], [], [16], [], [18], [17, 16, 19, 18], [15, 12, 11, 14, 13, 20, 17, 16, 19, 18], [], [22], [], [24], [23, 22, 25, 24], [21, 15, 12, 11, 14, 13, 20, 17, 16, 19, 18, 26, 23, 22, 25, 24], [10, 6, 2, 1, 0, 5, 4, 3, 9, 8, 7, 27, 21, 15, 12, 11, 14, 13, 20, 17, 16, 19, 18, 26, 23, 22, 25, 24], [28, 10, 6, 2, 1, 0, 5, 4, 3, 9, 8, 7, 27, 21, 15, 12, 11, 14, 13, 20, 17, 16, 19, 18, 26, 23, 22, 25, 24]] hmix ?_
          dsimp only
          repeat' first
            | (apply DW.nil; (focus (decide +kernel)))
            | (apply DW.toC; refine DWcall.go (And.intro updS.eq_1 (And.intro lK (And.intro l5' lv))) ?_) | (apply DW.toOp; refine DWop.go (And.intro updS.eq_1 (And.intro lK (And.intro l5' lv))) ?_) | (apply DW.toCG; first | refine DWcall.yes (And.intro updS.eq_1 (And.intro lK (And.intro l5' lv))) ?_ | refine DWcall.no (And.intro updS.eq_1 (And.intro lK (And.intro l5' lv))) ?_) | (apply DW.toG; first | refine DWop.yes (And.intro updS.eq_1 (And.intro lK (And.intro l5' lv))) ?_ | refine DWop.no (And.intro updS.eq_1 (And.intro lK (And.intro l5' lv))) ?_)
          repeat' first
            | refine W.seq ?_ | (refine W.regS G ?_; dsimp only) | refine SW.nil ?_ | refine thenQ_normal ?_ | refine W.skip ?_ | refine W.exit ?_ | refine thenQ_exit ?_ | refine inBlockQ_exit ?_ | refine inBlockQ_normal ?_ | refine W.block ?_
            | (apply SW.toC; refine SWcall.go (And.intro updS.eq_1 (And.intro lK (And.intro l5' lv))) ?_) | (apply SW.toOp; refine SWop.go (And.intro updS.eq_1 (And.intro lK (And.intro l5' lv))) ?_) | (apply SW.toCG; first | refine SWcall.yes (And.intro updS.eq_1 (And.intro lK (And.intro l5' lv))) ?_ | refine SWcall.no (And.intro updS.eq_1 (And.intro lK (And.intro l5' lv))) ?_) | (apply SW.toG; first | refine SWop.yes (And.intro updS.eq_1 (And.intro lK (And.intro l5' lv))) ?_ | refine SWop.no (And.intro updS.eq_1 (And.intro lK (And.intro l5' lv))) ?_)
          refine ⟨⟨i + 1, by omega⟩, Imp.le ?_, by show _ - (i + 1) < _ - i; omega⟩
          exact sL_leZ (And.intro e2 (And.intro hv (And.intro ht2 (And.intro hu2 (And.intro updS.eq_1 (And.intro lK (And.intro l5' lv)))))))
        have hu' := of_decide_eq_false hu
        obtain rfl : i = 64 := by omega
        have hh := hend2 rfl
        repeat' first
          | refine W.seq ?_ | (refine W.regS G ?_; dsimp only) | refine SW.nil ?_ | refine thenQ_normal ?_ | refine W.skip ?_ | refine W.exit ?_ | refine thenQ_exit ?_ | refine inBlockQ_exit ?_ | refine inBlockQ_normal ?_ | refine W.block ?_
          | (apply SW.toC; refine SWcall.go True.intro ?_) | (apply SW.toOp; refine SWop.go True.intro ?_) | (apply SW.toCG; first | refine SWcall.yes True.intro ?_ | refine SWcall.no True.intro ?_) | (apply SW.toG; first | refine SWop.yes True.intro ?_ | refine SWop.no True.intro ?_)
        refine Imp.le ?_
        exact sL_leZ hh
      generalize itN (rvF K w) 64 h = v at hb ⊢
      repeat' first
        | refine W.seq ?_ | (refine W.regS G ?_; dsimp only) | refine SW.nil ?_ | refine thenQ_normal ?_ | refine W.skip ?_ | refine W.exit ?_ | refine thenQ_exit ?_ | refine inBlockQ_exit ?_ | refine inBlockQ_normal ?_
        | (apply SW.toC; refine SWcall.go True.intro ?_) | (apply SW.toOp; refine SWop.go True.intro ?_) | (apply SW.toCG; first | refine SWcall.yes True.intro ?_ | refine SWcall.no True.intro ?_) | (apply SW.toG; first | refine SWop.yes True.intro ?_ | refine SWop.no True.intro ?_)
      repeat' first
        | refine W.seq ?_ | (refine W.regS G ?_; dsimp only) | refine SW.nil ?_ | refine thenQ_normal ?_ | refine W.skip ?_ | refine W.exit ?_ | refine thenQ_exit ?_ | refine inBlockQ_exit ?_ | refine inBlockQ_normal ?_ | refine W.block ?_
        | (apply SW.toC; refine SWcall.go True.intro ?_) | (apply SW.toOp; refine SWop.go True.intro ?_) | (apply SW.toCG; first | refine SWcall.yes True.intro ?_ | refine SWcall.no True.intro ?_) | (apply SW.toG; first | refine SWop.yes True.intro ?_ | refine SWop.no True.intro ?_)
      refine W.loopI (ι := {i : Nat // i ≤ 8}) (fun i => sL [(1, .sl false (.u 32 K)), (5, .p 5 0 0 0), (6, .p 6 0 0 0), (7, .sl true (.u 8 B)), (10, .i (A : Int)), (17, .p 17 0 0 0), (21, .i i.1)] [(5, .agg 8 (.u 32 (hAdd v i.1 h))), (6, .agg 32 (.u 8 (zeros 8 32))), (17, .agg 8 (.u 32 v))] 269) (fun i => 8 - i.1) ⟨0, Nat.zero_le _⟩ (Imp.le ?_) ?_
      · exact sL_leZ True.intro
      rintro ⟨i, hi⟩
      have e2 : hAdd v (i + 1) h = (hAdd v i h).set i ((hAdd v i h).getD i 0 + v.getD i 0) := itN_succ _ _ _
      have hend2 : i = 8 → hAdd v 8 h = hAdd v i h := by rintro rfl; rfl
      generalize hAdd v i h = q at e2 hend2 ⊢
      repeat' first
        | refine W.seq ?_ | (refine W.regS G ?_; dsimp only) | refine SW.nil ?_ | refine thenQ_normal ?_ | refine W.skip ?_ | refine W.exit ?_ | refine thenQ_exit ?_ | refine inBlockQ_exit ?_ | refine inBlockQ_normal ?_ | refine W.block ?_
        | (apply SW.toC; refine SWcall.go True.intro ?_) | (apply SW.toOp; refine SWop.go True.intro ?_) | (apply SW.toCG; first | refine SWcall.yes True.intro ?_ | refine SWcall.no True.intro ?_) | (apply SW.toG; first | refine SWop.yes True.intro ?_ | refine SWop.no True.intro ?_)
      refine W.condZ G True.intro ?_ ?_
      all_goals intro hu
      · have hu' := of_decide_eq_true hu
        repeat' first
          | refine W.seq ?_ | (refine W.regS G ?_; dsimp only) | refine SW.nil ?_ | refine thenQ_normal ?_ | refine W.skip ?_ | refine W.exit ?_ | refine thenQ_exit ?_ | refine inBlockQ_exit ?_ | refine inBlockQ_normal ?_ | refine W.block ?_
          | (apply SW.toC; refine SWcall.go True.intro ?_) | (apply SW.toOp; refine SWop.go True.intro ?_) | (apply SW.toCG; first | refine SWcall.yes True.intro ?_ | refine SWcall.no True.intro ?_) | (apply SW.toG; first | refine SWop.yes True.intro ?_ | refine SWop.no True.intro ?_)
        refine W.drawS G [[], [], [1], [2, 1], [], [4], [5, 4], [3, 2, 1, 6, 5, 4], [0, 1, 2, 3, 4, 5, 6, 7], [8, 0, 1, 2, 3, 4, 5, 6, 7]] hmix ?_
        dsimp only
        repeat' first
          | (apply DW.nil; (focus (decide +kernel)))
          | (apply DW.toC; refine DWcall.go True.intro ?_) | (apply DW.toOp; refine DWop.go True.intro ?_) | (apply DW.toCG; first | refine DWcall.yes True.intro ?_ | refine DWcall.no True.intro ?_) | (apply DW.toG; first | refine DWop.yes True.intro ?_ | refine DWop.no True.intro ?_)
        repeat' first
          | refine W.seq ?_ | (refine W.regS G ?_; dsimp only) | refine SW.nil ?_ | refine thenQ_normal ?_ | refine W.skip ?_ | refine W.exit ?_ | refine thenQ_exit ?_ | refine inBlockQ_exit ?_ | refine inBlockQ_normal ?_ | refine W.block ?_
          | (apply SW.toC; refine SWcall.go True.intro ?_) | (apply SW.toOp; refine SWop.go True.intro ?_) | (apply SW.toCG; first | refine SWcall.yes True.intro ?_ | refine SWcall.no True.intro ?_) | (apply SW.toG; first | refine SWop.yes True.intro ?_ | refine SWop.no True.intro ?_)
        refine ⟨⟨i + 1, by omega⟩, Imp.le ?_, by show _ - (i + 1) < _ - i; omega⟩
        exact sL_leZ e2
      have hu' := of_decide_eq_false hu
      obtain rfl : i = 8 := by omega
      have hh := hend2 rfl
      repeat' first
        | refine W.seq ?_ | (refine W.regS G ?_; dsimp only) | refine SW.nil ?_ | refine thenQ_normal ?_ | refine W.skip ?_ | refine W.exit ?_ | refine thenQ_exit ?_ | refine inBlockQ_exit ?_ | refine inBlockQ_normal ?_ | refine W.block ?_
        | (apply SW.toC; refine SWcall.go True.intro ?_) | (apply SW.toOp; refine SWop.go True.intro ?_) | (apply SW.toCG; first | refine SWcall.yes True.intro ?_ | refine SWcall.no True.intro ?_) | (apply SW.toG; first | refine SWop.yes True.intro ?_ | refine SWop.no True.intro ?_)
      have e9 : ((A : Int) + 64) = ((64 * (a + 1) : Nat) : Int) := by omega
      refine ⟨⟨a + 1, by omega⟩, Imp.le ?_, by show _ - (a + 1) < _ - a; omega⟩
      exact sL_leZ (And.intro e (And.intro hb (And.intro e9 hh)))
    have ht' := of_decide_eq_false ht
    obtain rfl : a = Q := by omega
    have hh := hend rfl
    repeat' first
      | refine W.seq ?_ | (refine W.regS G ?_; dsimp only) | refine SW.nil ?_ | refine thenQ_normal ?_ | refine W.skip ?_ | refine W.exit ?_ | refine thenQ_exit ?_ | refine inBlockQ_exit ?_ | refine inBlockQ_normal ?_ | refine W.block ?_
      | (apply SW.toC; refine SWcall.go hQ ?_) | (apply SW.toOp; refine SWop.go hQ ?_) | (apply SW.toCG; first | refine SWcall.yes hQ ?_ | refine SWcall.no hQ ?_) | (apply SW.toG; first | refine SWop.yes hQ ?_ | refine SWop.no hQ ?_)
    refine Imp.le ?_
    exact sL_leZ (And.intro hh hQ)
  generalize rblks K B Q h0 = h2 at hR ⊢
  repeat' first
    | refine W.seq ?_ | (refine W.regS G ?_; dsimp only) | refine SW.nil ?_ | refine thenQ_normal ?_ | refine W.skip ?_ | refine W.exit ?_ | refine thenQ_exit ?_ | refine inBlockQ_exit ?_ | refine inBlockQ_normal ?_ | refine W.block ?_
    | (apply SW.toC; refine SWcall.go True.intro ?_) | (apply SW.toOp; refine SWop.go True.intro ?_) | (apply SW.toCG; first | refine SWcall.yes True.intro ?_ | refine SWcall.no True.intro ?_) | (apply SW.toG; first | refine SWop.yes True.intro ?_ | refine SWop.no True.intro ?_)
  refine W.loopI (ι := {i : Nat // i ≤ 32}) (fun i => sL [(5, .p 5 0 0 0), (6, .p 6 0 0 0), (22, .p 22 0 0 0), (23, .i i.1)] [(5, .agg 8 (.u 32 h2)), (6, .agg 32 (.u 8 (zeros 8 32))), (22, .agg 32 (.u 8 (outF h2 i.1)))] 269) (fun i => 32 - i.1) ⟨0, Nat.zero_le _⟩ (Imp.le ?_) ?_
  · exact sL_leZ True.intro
  rintro ⟨i, hi⟩
  have e : outF h2 (i + 1) = (outF h2 i).set i (BitVec.setWidth 8 (h2.getD (i / 4) 0 >>> (24 - 8 * (i % 4)))) := itN_succ _ _ _
  have hend : i = 32 → outF h2 32 = outF h2 i := by rintro rfl; rfl
  generalize outF h2 i = o at e hend ⊢
  repeat' first
    | refine W.seq ?_ | (refine W.regS G ?_; dsimp only) | refine SW.nil ?_ | refine thenQ_normal ?_ | refine W.skip ?_ | refine W.exit ?_ | refine thenQ_exit ?_ | refine inBlockQ_exit ?_ | refine inBlockQ_normal ?_ | refine W.block ?_
    | (apply SW.toC; refine SWcall.go True.intro ?_) | (apply SW.toOp; refine SWop.go True.intro ?_) | (apply SW.toCG; first | refine SWcall.yes True.intro ?_ | refine SWcall.no True.intro ?_) | (apply SW.toG; first | refine SWop.yes True.intro ?_ | refine SWop.no True.intro ?_)
  refine W.condZ G True.intro ?_ ?_
  all_goals intro ht
  · have ht' := of_decide_eq_true ht
    have e1 : ((i : Int) / 4) = ((i / 4 : Nat) : Int) := by omega
    have e2 : ((i : Int) % 4) = ((i % 4 : Nat) : Int) := by omega
    have e3 : (24 - 8 * ((i % 4 : Nat) : Int)) = ((24 - 8 * (i % 4) : Nat) : Int) := by omega
    have e4 : (BitVec.ofInt 64 ((24 - 8 * (i % 4) : Nat) : Int)).toNat = 24 - 8 * (i % 4) := by rw [BitVec.toNat_ofInt]; omega
    repeat' first
      | refine W.seq ?_ | (refine W.regS G ?_; dsimp only) | refine SW.nil ?_ | refine thenQ_normal ?_ | refine W.skip ?_ | refine W.exit ?_ | refine thenQ_exit ?_ | refine inBlockQ_exit ?_ | refine inBlockQ_normal ?_ | refine W.block ?_
      | (apply SW.toC; refine SWcall.go (And.intro e1 (And.intro e2 (And.intro e3 e4))) ?_) | (apply SW.toOp; refine SWop.go (And.intro e1 (And.intro e2 (And.intro e3 e4))) ?_) | (apply SW.toCG; first | refine SWcall.yes (And.intro e1 (And.intro e2 (And.intro e3 e4))) ?_ | refine SWcall.no (And.intro e1 (And.intro e2 (And.intro e3 e4))) ?_) | (apply SW.toG; first | refine SWop.yes (And.intro e1 (And.intro e2 (And.intro e3 e4))) ?_ | refine SWop.no (And.intro e1 (And.intro e2 (And.intro e3 e4))) ?_)
    refine ⟨⟨i + 1, by omega⟩, Imp.le ?_, by show _ - (i + 1) < _ - i; omega⟩
    exact sL_leZ (And.intro e (And.intro e1 (And.intro e2 (And.intro e3 e4))))
  have ht' := of_decide_eq_false ht
  obtain rfl : i = 32 := by omega
  have hh := hend rfl
  repeat' first
    | refine W.seq ?_ | (refine W.regS G ?_; dsimp only) | refine SW.nil ?_ | refine thenQ_normal ?_ | refine W.skip ?_ | refine W.exit ?_ | refine thenQ_exit ?_ | refine inBlockQ_exit ?_ | refine inBlockQ_normal ?_ | refine W.block ?_
    | (apply SW.toC; refine SWcall.go True.intro ?_) | (apply SW.toOp; refine SWop.go True.intro ?_) | (apply SW.toCG; first | refine SWcall.yes True.intro ?_ | refine SWcall.no True.intro ?_) | (apply SW.toG; first | refine SWop.yes True.intro ?_ | refine SWop.no True.intro ?_)
  refine W.ret ?_
  repeat' first
    | refine thenQ_ret ?_
    | refine inBlockQ_ret ?_
  refine fin1Z True.intro ?_
  rw [hR, hh]
  exact leV_refl
end Go.Vm.C04

/- What some functions of the program compute, walked through once. -/
import Derived.Test.YtmanmhalbfbdmaaDoorCC
namespace Go.Vm.C05
open Go Go.Proofs
set_option linter.unusedVariables false
set_option linter.unusedSimpArgs false
set_option maxRecDepth 100000
set_option maxHeartbeats 8000000

theorem splL_len {α : Type} (v : List α) (i : Nat) (x : List α) (h : i + x.length ≤ v.length) : (splL v i x).length = v.length := by
  simp only [splL, List.length_append, List.length_take, List.length_drop]
  omega
/-! ### the hash, the program's way -/
noncomputable def hJ (b : List (BitVec 8)) (k : Nat) (h : List (BitVec 32)) : List (BitVec 32) := itN (fun i h => takenF h (subL b (64 * i) 64)) k h
noncomputable def c0F (r : List (BitVec 8)) : List (BitVec 8) := (splL (zeros 8 128) 0 r).set r.length 128#8
noncomputable def cF (r : List (BitVec 8)) (n : BitVec 64) (sz k : Nat) : List (BitVec 8) := itN (fun i l => l.set (sz - 8 + i) (BitVec.setWidth 8 (n >>> (8 * i)))) k (c0F r)
def oF (h : List (BitVec 32)) (k : Nat) : List (BitVec 8) := itN (fun i o => o.set i (BitVec.setWidth 8 (h.getD (i / 4) 0 >>> (8 * (i % 4))))) k (zeros 8 20)
def szF (R : Nat) : Nat := if 56 ≤ R then 128 else 64
noncomputable def sumF (b : List (BitVec 8)) : List (BitVec 8) :=
  oF (hJ (cF (b.drop (64 * (b.length / 64))) (BitVec.ofInt 64 (8 * (b.length : Int))) (szF (b.length % 64)) 8) (szF (b.length % 64) / 64) (hJ b (b.length / 64) begunB)) 20
theorem c0F_len (r : List (BitVec 8)) (h : r.length < 64) : (c0F r).length = 128 := by
  unfold c0F
  rw [List.length_set, splL_len _ _ _ (by simp [zeros]; omega)]
  simp [zeros]
theorem cF_len (r : List (BitVec 8)) (n : BitVec 64) (sz k : Nat) (h : r.length < 64) : (cF r n sz k).length = 128 :=
  itN_inv (p := fun (t : List (BitVec 8)) => t.length = 128) (fun _ _ hh => by simpa using hh) k (c0F_len r h)
noncomputable def sumS : FSpec := { run := fun ins => match ins with
  | [.sl false (.u 8 b)] => chk (b.length ≤ 140737488355328) (some (.agg 20 (.u 8 (sumF b)), []))
  | _ => none }
theorem sum_sound : SoundFn Tryd.prog glB 6 sumS.run := by
  have G := good_of (P := Tryd.prog) glB_ro (l := [(11, takenS)]) (by simp only [List.forall_mem_cons]; exact ⟨taken_sound, by simp⟩)
  refine soundFn_of_W G Tryd.func6 (by decide) rfl (by decide) ?_
  intro ins ret outs h
  unfold sumS at h
  dsimp only at h
  split at h
  rotate_left
  · cases h
  rename_i b
  obtain ⟨hl, h'⟩ := chk_some h
  clear h
  cases h'
  refine ⟨by show 1 ≤ 74; decide, fun w0 ext av => ?_⟩
  rw [Tryd.ntmps6, st0_eq]
  have hF : sumF b = oF (hJ (cF (b.drop (64 * (b.length / 64))) (BitVec.ofInt 64 (8 * (b.length : Int))) (szF (b.length % 64)) 8) (szF (b.length % 64) / 64) (hJ b (b.length / 64) begunB)) 20 := rfl
  generalize hN : BitVec.ofInt 64 (8 * (b.length : Int)) = N at hF
  obtain ⟨Q, hQ⟩ : ∃ Q, b.length / 64 = Q := ⟨_, rfl⟩
  obtain ⟨R, hR⟩ : ∃ R, b.length % 64 = R := ⟨_, rfl⟩
  rw [hQ, hR] at hF
  have hQR : b.length = 64 * Q + R := by omega
  have hR64 : R < 64 := by omega
  have l1 := begunB_len
  repeat' first
    | refine W.seq ?_ | (refine W.regS G ?_; dsimp only) | refine SW.nil ?_ | refine thenQ_normal ?_ | refine W.skip ?_ | refine W.exit ?_ | refine thenQ_exit ?_ | refine inBlockQ_exit ?_ | refine inBlockQ_normal ?_
    | (apply SW.toC; refine SWcall.go (And.intro glB0 (And.intro l1 hN)) ?_) | (apply SW.toOp; refine SWop.go (And.intro glB0 (And.intro l1 hN)) ?_) | (apply SW.toCG; first | refine SWcall.yes (And.intro glB0 (And.intro l1 hN)) ?_ | refine SWcall.no (And.intro glB0 (And.intro l1 hN)) ?_) | (apply SW.toG; first | refine SWop.yes (And.intro glB0 (And.intro l1 hN)) ?_ | refine SWop.no (And.intro glB0 (And.intro l1 hN)) ?_)
  have d0 : b.drop (64 * 0) = b := rfl
  have hj0 : hJ b 0 begunB = begunB := rfl
  refine W.mid (sL [(0, .sl false (.u 8 (b.drop (64 * Q)))), (2, .p 2 0 0 0), (3, .p 3 0 0 0), (4, .u 64 N)] [(2, .agg 20 (.u 8 (zeros 8 20))), (3, .agg 5 (.u 32 (hJ b Q begunB)))] 74) ?_ ?_
  · repeat' first
      | refine W.seq ?_ | (refine W.regS G ?_; dsimp only) | refine SW.nil ?_ | refine thenQ_normal ?_ | refine W.skip ?_ | refine W.exit ?_ | refine thenQ_exit ?_ | refine inBlockQ_exit ?_ | refine inBlockQ_normal ?_ | refine W.block ?_
      | (apply SW.toC; refine SWcall.go (And.intro glB0 (And.intro l1 hN)) ?_) | (apply SW.toOp; refine SWop.go (And.intro glB0 (And.intro l1 hN)) ?_) | (apply SW.toCG; first | refine SWcall.yes (And.intro glB0 (And.intro l1 hN)) ?_ | refine SWcall.no (And.intro glB0 (And.intro l1 hN)) ?_) | (apply SW.toG; first | refine SWop.yes (And.intro glB0 (And.intro l1 hN)) ?_ | refine SWop.no (And.intro glB0 (And.intro l1 hN)) ?_)
    refine W.loopI (ι := {j : Nat // j ≤ Q}) (fun j => sL [(0, .sl false (.u 8 (b.drop (64 * j.1)))), (2, .p 2 0 0 0), (3, .p 3 0 0 0), (4, .u 64 N)] [(2, .agg 20 (.u 8 (zeros 8 20))), (3, .agg 5 (.u 32 (hJ b j.1 begunB)))] 74) (fun j => Q - j.1) ⟨0, Nat.zero_le _⟩ (Imp.le ?_) ?_
    · exact sL_leZ (And.intro d0 (And.intro hj0 (And.intro glB0 (And.intro l1 hN))))
    rintro ⟨j, hj⟩
    have e : hJ b (j + 1) begunB = takenF (hJ b j begunB) (subL b (64 * j) 64) := itN_succ _ _ _
    have hend : j = Q → hJ b Q begunB = hJ b j begunB ∧ b.drop (64 * Q) = b.drop (64 * j) := by rintro rfl; exact ⟨rfl, rfl⟩
    have ld : (b.drop (64 * j)).length = b.length - 64 * j := List.length_drop ..
    have e1 : j < Q → subL (b.drop (64 * j)) 0 64 = subL b (64 * j) 64 := fun _ => by simp [subL]
    have e2 : subL (b.drop (64 * j)) 64 (b.length - 64 * j - 64) = b.drop (64 * (j + 1)) := by
      unfold subL
      rw [List.drop_drop, List.take_of_length_le (by rw [List.length_drop]; omega)]
      congr 1
    generalize hJ b j begunB = h at e hend ⊢
    generalize b.drop (64 * j) = bj at hend ld e1 e2 ⊢
    repeat' first
      | refine W.seq ?_ | (refine W.regS G ?_; dsimp only) | refine SW.nil ?_ | refine thenQ_normal ?_ | refine W.skip ?_ | refine W.exit ?_ | refine thenQ_exit ?_ | refine inBlockQ_exit ?_ | refine inBlockQ_normal ?_ | refine W.block ?_
      | (apply SW.toC; refine SWcall.go ld ?_) | (apply SW.toOp; refine SWop.go ld ?_) | (apply SW.toCG; first | refine SWcall.yes ld ?_ | refine SWcall.no ld ?_) | (apply SW.toG; first | refine SWop.yes ld ?_ | refine SWop.no ld ?_)
    refine W.condZ G ld ?_ ?_
    all_goals intro ht
    · have ht' := of_decide_eq_true ht
      have e3 := e1 (by omega)
      have l64 := subL_len bj 0 64 (by omega)
      repeat' first
        | refine W.seq ?_ | (refine W.regS G ?_; dsimp only) | refine SW.nil ?_ | refine thenQ_normal ?_ | refine W.skip ?_ | refine W.exit ?_ | refine thenQ_exit ?_ | refine inBlockQ_exit ?_ | refine inBlockQ_normal ?_ | refine W.block ?_
        | (apply SW.toC; refine SWcall.go (And.intro takenS.eq_1 l64) ?_) | (apply SW.toOp; refine SWop.go (And.intro takenS.eq_1 l64) ?_) | (apply SW.toCG; first | refine SWcall.yes (And.intro takenS.eq_1 l64) ?_ | refine SWcall.no (And.intro takenS.eq_1 l64) ?_) | (apply SW.toG; first | refine SWop.yes (And.intro takenS.eq_1 l64) ?_ | refine SWop.no (And.intro takenS.eq_1 l64) ?_)
      refine W.drawS G [[], [], [1], [0, 2, 1], [3, 0, 2, 1]] hmix ?_
      dsimp only
      repeat' first
        | (apply DW.nil; (focus (decide +kernel)))
        | (apply DW.toC; refine DWcall.go (And.intro takenS.eq_1 l64) ?_) | (apply DW.toOp; refine DWop.go (And.intro takenS.eq_1 l64) ?_) | (apply DW.toCG; first | refine DWcall.yes (And.intro takenS.eq_1 l64) ?_ | refine DWcall.no (And.intro takenS.eq_1 l64) ?_) | (apply DW.toG; first | refine DWop.yes (And.intro takenS.eq_1 l64) ?_ | refine DWop.no (And.intro takenS.eq_1 l64) ?_)
      repeat' first
        | refine W.seq ?_ | (refine W.regS G ?_; dsimp only) | refine SW.nil ?_ | refine thenQ_normal ?_ | refine W.skip ?_ | refine W.exit ?_ | refine thenQ_exit ?_ | refine inBlockQ_exit ?_ | refine inBlockQ_normal ?_ | refine W.block ?_
        | (apply SW.toC; refine SWcall.go (And.intro ld e2) ?_) | (apply SW.toOp; refine SWop.go (And.intro ld e2) ?_) | (apply SW.toCG; first | refine SWcall.yes (And.intro ld e2) ?_ | refine SWcall.no (And.intro ld e2) ?_) | (apply SW.toG; first | refine SWop.yes (And.intro ld e2) ?_ | refine SWop.no (And.intro ld e2) ?_)
      refine ⟨⟨j + 1, by omega⟩, Imp.le ?_, by show _ - (j + 1) < _ - j; omega⟩
      exact sL_leZ (And.intro e (And.intro e3 (And.intro ld e2)))
    have ht' := of_decide_eq_false ht
    obtain rfl : j = Q := by omega
    obtain ⟨hh, hh2⟩ := hend rfl
    repeat' first
      | refine W.seq ?_ | (refine W.regS G ?_; dsimp only) | refine SW.nil ?_ | refine thenQ_normal ?_ | refine W.skip ?_ | refine W.exit ?_ | refine thenQ_exit ?_ | refine inBlockQ_exit ?_ | refine inBlockQ_normal ?_ | refine W.block ?_
      | (apply SW.toC; refine SWcall.go True.intro ?_) | (apply SW.toOp; refine SWop.go True.intro ?_) | (apply SW.toCG; first | refine SWcall.yes True.intro ?_ | refine SWcall.no True.intro ?_) | (apply SW.toG; first | refine SWop.yes True.intro ?_ | refine SWop.no True.intro ?_)
    refine Imp.le ?_
    exact sL_leZ (And.intro hh hh2)
  have ld : (b.drop (64 * Q)).length = R := by rw [List.length_drop]; omega
  generalize hJ b Q begunB = h at hF ⊢
  generalize b.drop (64 * Q) = r at hF ld ⊢
  have e1 : min r.length 128 = R := by omega
  have e1' : min R 128 = R := by omega
  have hc0 : (splL (zeros 8 128) 0 r).set R 128#8 = c0F r := by unfold c0F; rw [ld]
  have hsz : szF R = if 56 ≤ R then 128 else 64 := rfl
  have lr64 : r.length < 64 := by omega
  have z0 : cF r N (szF R) 0 = c0F r := rfl
  repeat' first
    | refine W.seq ?_ | (refine W.regS G ?_; dsimp only) | refine SW.nil ?_ | refine thenQ_normal ?_ | refine W.skip ?_ | refine W.exit ?_ | refine thenQ_exit ?_ | refine inBlockQ_exit ?_ | refine inBlockQ_normal ?_
    | (apply SW.toC; refine SWcall.go (And.intro e1 (And.intro e1' ld)) ?_) | (apply SW.toOp; refine SWop.go (And.intro e1 (And.intro e1' ld)) ?_) | (apply SW.toCG; first | refine SWcall.yes (And.intro e1 (And.intro e1' ld)) ?_ | refine SWcall.no (And.intro e1 (And.intro e1' ld)) ?_) | (apply SW.toG; first | refine SWop.yes (And.intro e1 (And.intro e1' ld)) ?_ | refine SWop.no (And.intro e1 (And.intro e1' ld)) ?_)
  refine W.mid (sL [(2, .p 2 0 0 0), (3, .p 3 0 0 0), (4, .u 64 N), (5, .p 5 0 0 0), (7, .i (szF R : Nat))] [(2, .agg 20 (.u 8 (zeros 8 20))), (3, .agg 5 (.u 32 h)), (5, .agg 128 (.u 8 (c0F r)))] 74) ?_ ?_
  · refine W.condZ G (And.intro e1 (And.intro e1' ld)) ?_ ?_
    all_goals intro hc
    · have hc' := of_decide_eq_true hc
      rw [if_pos (by omega)] at hsz
      repeat' first
        | refine W.seq ?_ | (refine W.regS G ?_; dsimp only) | refine SW.nil ?_ | refine thenQ_normal ?_ | refine W.skip ?_ | refine W.exit ?_ | refine thenQ_exit ?_ | refine inBlockQ_exit ?_ | refine inBlockQ_normal ?_ | refine W.block ?_
        | (apply SW.toC; refine SWcall.go (And.intro e1 (And.intro e1' ld)) ?_) | (apply SW.toOp; refine SWop.go (And.intro e1 (And.intro e1' ld)) ?_) | (apply SW.toCG; first | refine SWcall.yes (And.intro e1 (And.intro e1' ld)) ?_ | refine SWcall.no (And.intro e1 (And.intro e1' ld)) ?_) | (apply SW.toG; first | refine SWop.yes (And.intro e1 (And.intro e1' ld)) ?_ | refine SWop.no (And.intro e1 (And.intro e1' ld)) ?_)
      refine Imp.le ?_
      exact sL_leZ (And.intro hc0 (And.intro hsz (And.intro e1 (And.intro e1' ld))))
    · have hc' := of_decide_eq_false hc
      rw [if_neg (by omega)] at hsz
      repeat' first
        | refine W.seq ?_ | (refine W.regS G ?_; dsimp only) | refine SW.nil ?_ | refine thenQ_normal ?_ | refine W.skip ?_ | refine W.exit ?_ | refine thenQ_exit ?_ | refine inBlockQ_exit ?_ | refine inBlockQ_normal ?_ | refine W.block ?_
        | (apply SW.toC; refine SWcall.go (And.intro e1 (And.intro e1' ld)) ?_) | (apply SW.toOp; refine SWop.go (And.intro e1 (And.intro e1' ld)) ?_) | (apply SW.toCG; first | refine SWcall.yes (And.intro e1 (And.intro e1' ld)) ?_ | refine SWcall.no (And.intro e1 (And.intro e1' ld)) ?_) | (apply SW.toG; first | refine SWop.yes (And.intro e1 (And.intro e1' ld)) ?_ | refine SWop.no (And.intro e1 (And.intro e1' ld)) ?_)
      refine Imp.le ?_
      exact sL_leZ (And.intro hc0 (And.intro hsz (And.intro e1 (And.intro e1' ld))))
  have hs2 : szF R = 64 ∨ szF R = 128 := by rw [hsz]; split <;> omega
  generalize szF R = sz at hF z0 hs2 ⊢
  repeat' first
    | refine W.seq ?_ | (refine W.regS G ?_; dsimp only) | refine SW.nil ?_ | refine thenQ_normal ?_ | refine W.skip ?_ | refine W.exit ?_ | refine thenQ_exit ?_ | refine inBlockQ_exit ?_ | refine inBlockQ_normal ?_
    | (apply SW.toC; refine SWcall.go True.intro ?_) | (apply SW.toOp; refine SWop.go True.intro ?_) | (apply SW.toCG; first | refine SWcall.yes True.intro ?_ | refine SWcall.no True.intro ?_) | (apply SW.toG; first | refine SWop.yes True.intro ?_ | refine SWop.no True.intro ?_)
  refine W.mid (sL [(2, .p 2 0 0 0), (3, .p 3 0 0 0), (5, .p 5 0 0 0), (7, .i (sz : Int))] [(2, .agg 20 (.u 8 (zeros 8 20))), (3, .agg 5 (.u 32 h)), (5, .agg 128 (.u 8 (cF r N sz 8)))] 74) ?_ ?_
  · repeat' first
      | refine W.seq ?_ | (refine W.regS G ?_; dsimp only) | refine SW.nil ?_ | refine thenQ_normal ?_ | refine W.skip ?_ | refine W.exit ?_ | refine thenQ_exit ?_ | refine inBlockQ_exit ?_ | refine inBlockQ_normal ?_ | refine W.block ?_
      | (apply SW.toC; refine SWcall.go True.intro ?_) | (apply SW.toOp; refine SWop.go True.intro ?_) | (apply SW.toCG; first | refine SWcall.yes True.intro ?_ | refine SWcall.no True.intro ?_) | (apply SW.toG; first | refine SWop.yes True.intro ?_ | refine SWop.no True.intro ?_)
    refine W.loopI (ι := {i : Nat // i ≤ 8}) (fun i => sL [(2, .p 2 0 0 0), (3, .p 3 0 0 0), (4, .u 64 N), (5, .p 5 0 0 0), (7, .i (sz : Int)), (33, .i i.1)] [(2, .agg 20 (.u 8 (zeros 8 20))), (3, .agg 5 (.u 32 h)), (5, .agg 128 (.u 8 (cF r N sz i.1)))] 74) (fun i => 8 - i.1) ⟨0, Nat.zero_le _⟩ (Imp.le ?_) ?_
    · exact sL_leZ z0
    rintro ⟨i, hi⟩
    have e : cF r N sz (i + 1) = (cF r N sz i).set (sz - 8 + i) (BitVec.setWidth 8 (N >>> (8 * i))) := itN_succ _ _ _
    have hend : i = 8 → cF r N sz 8 = cF r N sz i := by rintro rfl; rfl
    generalize cF r N sz i = c at e hend ⊢
    repeat' first
      | refine W.seq ?_ | (refine W.regS G ?_; dsimp only) | refine SW.nil ?_ | refine thenQ_normal ?_ | refine W.skip ?_ | refine W.exit ?_ | refine thenQ_exit ?_ | refine inBlockQ_exit ?_ | refine inBlockQ_normal ?_ | refine W.block ?_
      | (apply SW.toC; refine SWcall.go True.intro ?_) | (apply SW.toOp; refine SWop.go True.intro ?_) | (apply SW.toCG; first | refine SWcall.yes True.intro ?_ | refine SWcall.no True.intro ?_) | (apply SW.toG; first | refine SWop.yes True.intro ?_ | refine SWop.no True.intro ?_)
    refine W.condZ G True.intro ?_ ?_
    all_goals intro ht
    · have ht' := of_decide_eq_true ht
      have e2 : ((sz : Int) - 8 + i) = ((sz - 8 + i : Nat) : Int) := by omega
      have e3 : (8 * (i : Int)) = ((8 * i : Nat) : Int) := by omega
      repeat' first
        | refine W.seq ?_ | (refine W.regS G ?_; dsimp only) | refine SW.nil ?_ | refine thenQ_normal ?_ | refine W.skip ?_ | refine W.exit ?_ | refine thenQ_exit ?_ | refine inBlockQ_exit ?_ | refine inBlockQ_normal ?_ | refine W.block ?_
        | (apply SW.toC; refine SWcall.go (And.intro e2 e3) ?_) | (apply SW.toOp; refine SWop.go (And.intro e2 e3) ?_) | (apply SW.toCG; first | refine SWcall.yes (And.intro e2 e3) ?_ | refine SWcall.no (And.intro e2 e3) ?_) | (apply SW.toG; first | refine SWop.yes (And.intro e2 e3) ?_ | refine SWop.no (And.intro e2 e3) ?_)
      refine ⟨⟨i + 1, by omega⟩, Imp.le ?_, by show _ - (i + 1) < _ - i; omega⟩
      exact sL_leZ (And.intro e (And.intro e2 e3))
    have ht' := of_decide_eq_false ht
    obtain rfl : i = 8 := by omega
    have hh := hend rfl
    repeat' first
      | refine W.seq ?_ | (refine W.regS G ?_; dsimp only) | refine SW.nil ?_ | refine thenQ_normal ?_ | refine W.skip ?_ | refine W.exit ?_ | refine thenQ_exit ?_ | refine inBlockQ_exit ?_ | refine inBlockQ_normal ?_ | refine W.block ?_
      | (apply SW.toC; refine SWcall.go True.intro ?_) | (apply SW.toOp; refine SWop.go True.intro ?_) | (apply SW.toCG; first | refine SWcall.yes True.intro ?_ | refine SWcall.no True.intro ?_) | (apply SW.toG; first | refine SWop.yes True.intro ?_ | refine SWop.no True.intro ?_)
    refine Imp.le ?_
    exact sL_leZ hh
  have lc := cF_len r N sz 8 lr64
  generalize cF r N sz 8 = c at hF lc ⊢
  have hz0 : hJ c 0 h = h := rfl
  obtain ⟨A, hA⟩ : ∃ A, sz / 64 = A := ⟨_, rfl⟩
  have hsA : sz = 64 * A := by omega
  rw [hA] at hF
  repeat' first
    | refine W.seq ?_ | (refine W.regS G ?_; dsimp only) | refine SW.nil ?_ | refine thenQ_normal ?_ | refine W.skip ?_ | refine W.exit ?_ | refine thenQ_exit ?_ | refine inBlockQ_exit ?_ | refine inBlockQ_normal ?_
    | (apply SW.toC; refine SWcall.go True.intro ?_) | (apply SW.toOp; refine SWop.go True.intro ?_) | (apply SW.toCG; first | refine SWcall.yes True.intro ?_ | refine SWcall.no True.intro ?_) | (apply SW.toG; first | refine SWop.yes True.intro ?_ | refine SWop.no True.intro ?_)
  refine W.mid (sL [(2, .p 2 0 0 0), (3, .p 3 0 0 0)] [(2, .agg 20 (.u 8 (zeros 8 20))), (3, .agg 5 (.u 32 (hJ c A h)))] 74) ?_ ?_
  · repeat' first
      | refine W.seq ?_ | (refine W.regS G ?_; dsimp only) | refine SW.nil ?_ | refine thenQ_normal ?_ | refine W.skip ?_ | refine W.exit ?_ | refine thenQ_exit ?_ | refine inBlockQ_exit ?_ | refine inBlockQ_normal ?_ | refine W.block ?_
      | (apply SW.toC; refine SWcall.go True.intro ?_) | (apply SW.toOp; refine SWop.go True.intro ?_) | (apply SW.toCG; first | refine SWcall.yes True.intro ?_ | refine SWcall.no True.intro ?_) | (apply SW.toG; first | refine SWop.yes True.intro ?_ | refine SWop.no True.intro ?_)
    refine W.loopI (ι := {a : Nat // a ≤ A}) (fun a => sL [(2, .p 2 0 0 0), (3, .p 3 0 0 0), (5, .p 5 0 0 0), (7, .i (sz : Int)), (9, .i ((64 * a.1 : Nat) : Int))] [(2, .agg 20 (.u 8 (zeros 8 20))), (3, .agg 5 (.u 32 (hJ c a.1 h))), (5, .agg 128 (.u 8 c))] 74) (fun a => A - a.1) ⟨0, Nat.zero_le _⟩ (Imp.le ?_) ?_
    · exact sL_leZ hz0
    rintro ⟨a, ha⟩
    have e : hJ c (a + 1) h = takenF (hJ c a h) (subL c (64 * a) 64) := itN_succ _ _ _
    have hend : a = A → hJ c A h = hJ c a h := by rintro rfl; rfl
    generalize hJ c a h = g at e hend ⊢
    repeat' first
      | refine W.seq ?_ | (refine W.regS G ?_; dsimp only) | refine SW.nil ?_ | refine thenQ_normal ?_ | refine W.skip ?_ | refine W.exit ?_ | refine thenQ_exit ?_ | refine inBlockQ_exit ?_ | refine inBlockQ_normal ?_ | refine W.block ?_
      | (apply SW.toC; refine SWcall.go True.intro ?_) | (apply SW.toOp; refine SWop.go True.intro ?_) | (apply SW.toCG; first | refine SWcall.yes True.intro ?_ | refine SWcall.no True.intro ?_) | (apply SW.toG; first | refine SWop.yes True.intro ?_ | refine SWop.no True.intro ?_)
    refine W.condZ G True.intro ?_ ?_
    all_goals intro ht
    · have ht' := of_decide_eq_true ht
      have e2 : (((64 * a : Nat) : Int) + 64) = ((64 * a + 64 : Nat) : Int) := by omega
      have e3 : 64 * a + 64 - 64 * a = 64 := by omega
      have e4 : (64 = 128) = False := eq_false (by omega)
      have l64 := subL_len c (64 * a) 64 (by omega)
      have e5 : (((64 * a + 64 : Nat) : Int)) = ((64 * (a + 1) : Nat) : Int) := by omega
      repeat' first
        | refine W.seq ?_ | (refine W.regS G ?_; dsimp only) | refine SW.nil ?_ | refine thenQ_normal ?_ | refine W.skip ?_ | refine W.exit ?_ | refine thenQ_exit ?_ | refine inBlockQ_exit ?_ | refine inBlockQ_normal ?_ | refine W.block ?_
        | (apply SW.toC; refine SWcall.go (And.intro e2 (And.intro e3 (And.intro lc (And.intro l64 (And.intro takenS.eq_1 e4))))) ?_) | (apply SW.toOp; refine SWop.go (And.intro e2 (And.intro e3 (And.intro lc (And.intro l64 (And.intro takenS.eq_1 e4))))) ?_) | (apply SW.toCG; first | refine SWcall.yes (And.intro e2 (And.intro e3 (And.intro lc (And.intro l64 (And.intro takenS.eq_1 e4))))) ?_ | refine SWcall.no (And.intro e2 (And.intro e3 (And.intro lc (And.intro l64 (And.intro takenS.eq_1 e4))))) ?_) | (apply SW.toG; first | refine SWop.yes (And.intro e2 (And.intro e3 (And.intro lc (And.intro l64 (And.intro takenS.eq_1 e4))))) ?_ | refine SWop.no (And.intro e2 (And.intro e3 (And.intro lc (And.intro l64 (And.intro takenS.eq_1 e4))))) ?_)
      refine W.drawS G [[], [], [], [2], [1, 3, 2], [0, 4, 1, 3, 2], [5, 0, 4, 1, 3, 2]] hmix ?_
      dsimp only
      repeat' first
        | (apply DW.nil; (focus (decide +kernel)))
        | (apply DW.toC; refine DWcall.go (And.intro e2 (And.intro e3 (And.intro lc (And.intro l64 (And.intro takenS.eq_1 e4))))) ?_) | (apply DW.toOp; refine DWop.go (And.intro e2 (And.intro e3 (And.intro lc (And.intro l64 (And.intro takenS.eq_1 e4))))) ?_) | (apply DW.toCG; first | refine DWcall.yes (And.intro e2 (And.intro e3 (And.intro lc (And.intro l64 (And.intro takenS.eq_1 e4))))) ?_ | refine DWcall.no (And.intro e2 (And.intro e3 (And.intro lc (And.intro l64 (And.intro takenS.eq_1 e4))))) ?_) | (apply DW.toG; first | refine DWop.yes (And.intro e2 (And.intro e3 (And.intro lc (And.intro l64 (And.intro takenS.eq_1 e4))))) ?_ | refine DWop.no (And.intro e2 (And.intro e3 (And.intro lc (And.intro l64 (And.intro takenS.eq_1 e4))))) ?_)
      repeat' first
        | refine W.seq ?_ | (refine W.regS G ?_; dsimp only) | refine SW.nil ?_ | refine thenQ_normal ?_ | refine W.skip ?_ | refine W.exit ?_ | refine thenQ_exit ?_ | refine inBlockQ_exit ?_ | refine inBlockQ_normal ?_ | refine W.block ?_
        | (apply SW.toC; refine SWcall.go (And.intro e2 (And.intro e3 (And.intro lc (And.intro l64 (And.intro takenS.eq_1 e4))))) ?_) | (apply SW.toOp; refine SWop.go (And.intro e2 (And.intro e3 (And.intro lc (And.intro l64 (And.intro takenS.eq_1 e4))))) ?_) | (apply SW.toCG; first | refine SWcall.yes (And.intro e2 (And.intro e3 (And.intro lc (And.intro l64 (And.intro takenS.eq_1 e4))))) ?_ | refine SWcall.no (And.intro e2 (And.intro e3 (And.intro lc (And.intro l64 (And.intro takenS.eq_1 e4))))) ?_) | (apply SW.toG; first | refine SWop.yes (And.intro e2 (And.intro e3 (And.intro lc (And.intro l64 (And.intro takenS.eq_1 e4))))) ?_ | refine SWop.no (And.intro e2 (And.intro e3 (And.intro lc (And.intro l64 (And.intro takenS.eq_1 e4))))) ?_)
      refine ⟨⟨a + 1, by omega⟩, Imp.le ?_, by show _ - (a + 1) < _ - a; omega⟩
      exact sL_leZ (And.intro e (And.intro e5 (And.intro e2 (And.intro e3 (And.intro lc (And.intro l64 (And.intro takenS.eq_1 e4)))))))
    have ht' := of_decide_eq_false ht
    obtain rfl : a = A := by omega
    have hh := hend rfl
    repeat' first
      | refine W.seq ?_ | (refine W.regS G ?_; dsimp only) | refine SW.nil ?_ | refine thenQ_normal ?_ | refine W.skip ?_ | refine W.exit ?_ | refine thenQ_exit ?_ | refine inBlockQ_exit ?_ | refine inBlockQ_normal ?_ | refine W.block ?_
      | (apply SW.toC; refine SWcall.go True.intro ?_) | (apply SW.toOp; refine SWop.go True.intro ?_) | (apply SW.toCG; first | refine SWcall.yes True.intro ?_ | refine SWcall.no True.intro ?_) | (apply SW.toG; first | refine SWop.yes True.intro ?_ | refine SWop.no True.intro ?_)
    refine Imp.le ?_
    exact sL_leZ hh
  generalize hJ c A h = g at hF ⊢
  repeat' first
    | refine W.seq ?_ | (refine W.regS G ?_; dsimp only) | refine SW.nil ?_ | refine thenQ_normal ?_ | refine W.skip ?_ | refine W.exit ?_ | refine thenQ_exit ?_ | refine inBlockQ_exit ?_ | refine inBlockQ_normal ?_ | refine W.block ?_
    | (apply SW.toC; refine SWcall.go True.intro ?_) | (apply SW.toOp; refine SWop.go True.intro ?_) | (apply SW.toCG; first | refine SWcall.yes True.intro ?_ | refine SWcall.no True.intro ?_) | (apply SW.toG; first | refine SWop.yes True.intro ?_ | refine SWop.no True.intro ?_)
  refine W.loopI (ι := {i : Nat // i ≤ 20}) (fun i => sL [(2, .p 2 0 0 0), (3, .p 3 0 0 0), (10, .p 10 0 0 0), (58, .i i.1)] [(2, .agg 20 (.u 8 (zeros 8 20))), (3, .agg 5 (.u 32 g)), (10, .agg 20 (.u 8 (oF g i.1)))] 74) (fun i => 20 - i.1) ⟨0, Nat.zero_le _⟩ (Imp.le ?_) ?_
  · exact sL_leZ True.intro
  rintro ⟨i, hi⟩
  have e : oF g (i + 1) = (oF g i).set i (BitVec.setWidth 8 (g.getD (i / 4) 0 >>> (8 * (i % 4)))) := itN_succ _ _ _
  have hend : i = 20 → oF g 20 = oF g i := by rintro rfl; rfl
  generalize oF g i = o at e hend ⊢
  repeat' first
    | refine W.seq ?_ | (refine W.regS G ?_; dsimp only) | refine SW.nil ?_ | refine thenQ_normal ?_ | refine W.skip ?_ | refine W.exit ?_ | refine thenQ_exit ?_ | refine inBlockQ_exit ?_ | refine inBlockQ_normal ?_ | refine W.block ?_
    | (apply SW.toC; refine SWcall.go True.intro ?_) | (apply SW.toOp; refine SWop.go True.intro ?_) | (apply SW.toCG; first | refine SWcall.yes True.intro ?_ | refine SWcall.no True.intro ?_) | (apply SW.toG; first | refine SWop.yes True.intro ?_ | refine SWop.no True.intro ?_)
  refine W.condZ G True.intro ?_ ?_
  all_goals intro ht
  · have ht' := of_decide_eq_true ht
    have e1 : ((i : Int) / 4) = ((i / 4 : Nat) : Int) := by omega
    have e2 : ((i : Int) % 4) = ((i % 4 : Nat) : Int) := by omega
    have e3 : (8 * ((i % 4 : Nat) : Int)) = ((8 * (i % 4) : Nat) : Int) := by omega
    repeat' first
      | refine W.seq ?_ | (refine W.regS G ?_; dsimp only) | refine SW.nil ?_ | refine thenQ_normal ?_ | refine W.skip ?_ | refine W.exit ?_ | refine thenQ_exit ?_ | refine inBlockQ_exit ?_ | refine inBlockQ_normal ?_ | refine W.block ?_
      | (apply SW.toC; refine SWcall.go (And.intro e1 (And.intro e2 e3)) ?_) | (apply SW.toOp; refine SWop.go (And.intro e1 (And.intro e2 e3)) ?_) | (apply SW.toCG; first | refine SWcall.yes (And.intro e1 (And.intro e2 e3)) ?_ | refine SWcall.no (And.intro e1 (And.intro e2 e3)) ?_) | (apply SW.toG; first | refine SWop.yes (And.intro e1 (And.intro e2 e3)) ?_ | refine SWop.no (And.intro e1 (And.intro e2 e3)) ?_)
    refine ⟨⟨i + 1, by omega⟩, Imp.le ?_, by show _ - (i + 1) < _ - i; omega⟩
    exact sL_leZ (And.intro e (And.intro e1 (And.intro e2 e3)))
  have ht' := of_decide_eq_false ht
  obtain rfl : i = 20 := by omega
  have hh := hend rfl
  repeat' first
    | refine W.seq ?_ | (refine W.regS G ?_; dsimp only) | refine SW.nil ?_ | refine thenQ_normal ?_ | refine W.skip ?_ | refine W.exit ?_ | refine thenQ_exit ?_ | refine inBlockQ_exit ?_ | refine inBlockQ_normal ?_ | refine W.block ?_
    | (apply SW.toC; refine SWcall.go True.intro ?_) | (apply SW.toOp; refine SWop.go True.intro ?_) | (apply SW.toCG; first | refine SWcall.yes True.intro ?_ | refine SWcall.no True.intro ?_) | (apply SW.toG; first | refine SWop.yes True.intro ?_ | refine SWop.no True.intro ?_)
  refine W.ret ?_
  repeat' first
    | refine thenQ_ret ?_
    | refine inBlockQ_ret ?_
  refine fin1Z True.intro ?_
  rw [hF, hh]
  exact leV_refl
end Go.Vm.C05

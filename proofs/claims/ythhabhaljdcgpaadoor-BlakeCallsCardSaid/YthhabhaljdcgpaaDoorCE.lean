/- What some functions of the program compute, walked through once. -/
import Derived.Test.YthhabhaljdcgpaaDoorCD
namespace Go.Vm.C06
open Go Go.Proofs
set_option linter.unusedVariables false
set_option linter.unusedSimpArgs false
set_option maxRecDepth 100000
set_option maxHeartbeats 8000000
variable {gl : Nat → Option Row}

/-! ### the rows of places -/
def rowTab : List (List (BitVec 8)) := [
  [48, 49, 50, 51, 52, 53, 54, 55, 56, 57, 97, 98, 99, 100, 101, 102],
  [101, 97, 52, 56, 57, 102, 100, 54, 49, 99, 48, 50, 98, 55, 53, 51],
  [98, 56, 99, 48, 53, 50, 102, 100, 97, 101, 51, 54, 55, 49, 57, 52],
  [55, 57, 51, 49, 100, 99, 98, 101, 50, 54, 53, 97, 52, 48, 102, 56],
  [57, 48, 53, 55, 50, 52, 97, 102, 101, 49, 98, 99, 54, 56, 51, 100],
  [50, 99, 54, 97, 48, 98, 56, 51, 52, 100, 55, 53, 102, 101, 49, 57],
  [99, 53, 49, 102, 101, 100, 52, 97, 48, 55, 54, 51, 57, 50, 56, 98],
  [100, 98, 55, 101, 99, 49, 51, 57, 53, 48, 102, 52, 56, 54, 50, 97],
  [54, 102, 101, 57, 98, 51, 48, 56, 99, 50, 100, 55, 49, 52, 97, 53],
  [97, 50, 56, 52, 55, 54, 49, 53, 102, 98, 57, 101, 51, 99, 100, 48]]
def rowDigit (c : BitVec 8) : Int := if 97#8 ≤ c then ((c - 97#8).toNat : Int) + 10 else ((c - 48#8).toNat : Int)
def rowTo (i k : Nat) : List Int := itN (fun k l => l ++ [rowDigit ((rowTab.getD ((i : Int) % 10).toNat []).getD k 0)]) k []
noncomputable def rowS : FSpec := { run := fun ins => match ins with
  | [.i i] => chk (0 ≤ i) (some (.sl true (.i (rowTo i.toNat 16)), []))
  | _ => none }
theorem rowTo_len (i k : Nat) : (rowTo i k).length = k := by
  induction k with
  | zero => rfl
  | succ k ih => show (rowTo i k ++ _).length = _; simp [ih]
theorem rowTab_len : ∀ j, j < 10 → (rowTab.getD j []).length = 16 := by decide

theorem row_sound (hro : ∀ g r, gl g = some r → r.ro = r) : SoundFn Tryd.prog gl 14 rowS.run := by
  have G := good_of (P := Tryd.prog) hro (l := []) (by simp)
  refine soundFn_of_W G Tryd.func14 (by decide) rfl (by decide) ?_
  intro ins ret outs h
  unfold rowS at h
  dsimp only at h
  split at h
  rotate_left
  · cases h
  rename_i i
  obtain ⟨hi, h'⟩ := chk_some h
  clear h
  obtain ⟨I, rfl⟩ : ∃ I : Nat, i = I := ⟨i.toNat, by omega⟩
  cases h'
  simp only [Int.toNat_natCast]
  have hlen := rowTab_len ((I : Int) % 10).toNat (by omega)
  have htab : rowTab.length = 10 := rfl
  refine ⟨by show 1 ≤ 36; decide, fun w0 ext av => ?_⟩
  rw [Tryd.ntmps14, st0_eq]
  repeat' first
    | refine W.seq ?_ | (refine W.regS G ?_; dsimp only) | refine SW.nil ?_ | refine thenQ_normal ?_ | refine W.skip ?_ | refine W.exit ?_ | refine thenQ_exit ?_ | refine inBlockQ_exit ?_ | refine inBlockQ_normal ?_ | refine W.block ?_
    | (apply SW.toC; refine SWcall.go True.intro ?_) | (apply SW.toOp; refine SWop.go True.intro ?_) | (apply SW.toCG; first | refine SWcall.yes True.intro ?_ | refine SWcall.no True.intro ?_) | (apply SW.toG; first | refine SWop.yes True.intro ?_ | refine SWop.no True.intro ?_)
  refine W.loopI (ι := {k : Nat // k ≤ 16}) (fun k => sL [(0, .i I), (3, .gr 7 10), (4, .gr 8 k.1), (5, .i k.1)] [(7, .row (.s rowTab)), (8, .row (.i (rowTo I k.1)))] 36) (fun k => 16 - k.1) ⟨0, Nat.zero_le _⟩ (Imp.le ?_) ?_
  · exact sL_leZ True.intro
  rintro ⟨k, hk⟩
  have L1 := rowTo_len I k
  repeat' first
    | refine W.seq ?_ | (refine W.regS G ?_; dsimp only) | refine SW.nil ?_ | refine thenQ_normal ?_ | refine W.skip ?_ | refine W.exit ?_ | refine thenQ_exit ?_ | refine inBlockQ_exit ?_ | refine inBlockQ_normal ?_ | refine W.block ?_
    | (apply SW.toC; refine SWcall.go (And.intro htab (And.intro hlen L1)) ?_) | (apply SW.toOp; refine SWop.go (And.intro htab (And.intro hlen L1)) ?_) | (apply SW.toCG; first | refine SWcall.yes (And.intro htab (And.intro hlen L1)) ?_ | refine SWcall.no (And.intro htab (And.intro hlen L1)) ?_) | (apply SW.toG; first | refine SWop.yes (And.intro htab (And.intro hlen L1)) ?_ | refine SWop.no (And.intro htab (And.intro hlen L1)) ?_)
  refine W.condZ G (And.intro htab (And.intro hlen L1)) ?_ ?_
  all_goals intro ht
  · have ht' := of_decide_eq_true ht
    repeat' first
      | refine W.seq ?_ | (refine W.regS G ?_; dsimp only) | refine SW.nil ?_ | refine thenQ_normal ?_ | refine W.skip ?_ | refine W.exit ?_ | refine thenQ_exit ?_ | refine inBlockQ_exit ?_ | refine inBlockQ_normal ?_ | refine W.block ?_
      | (apply SW.toC; refine SWcall.go (And.intro htab (And.intro hlen L1)) ?_) | (apply SW.toOp; refine SWop.go (And.intro htab (And.intro hlen L1)) ?_) | (apply SW.toCG; first | refine SWcall.yes (And.intro htab (And.intro hlen L1)) ?_ | refine SWcall.no (And.intro htab (And.intro hlen L1)) ?_) | (apply SW.toG; first | refine SWop.yes (And.intro htab (And.intro hlen L1)) ?_ | refine SWop.no (And.intro htab (And.intro hlen L1)) ?_)
    have hs : rowTo I (k + 1) = rowTo I k ++ [rowDigit ((rowTab.getD ((I : Int) % 10).toNat []).getD k 0)] := rfl
    generalize (rowTab.getD ((I : Int) % 10).toNat []).getD k 0 = c at hs ⊢
    have b1 := (c - 97#8).isLt
    have b2 := (c - 48#8).isLt
    refine W.condZ G (And.intro htab (And.intro hlen L1)) ?_ ?_
    all_goals intro hu
    · have hu' := of_decide_eq_true hu
      have hd : rowDigit c = ((c - 97#8).toNat : Int) + 10 := by simp only [rowDigit, if_pos hu']
      repeat' first
        | refine W.seq ?_ | (refine W.regS G ?_; dsimp only) | refine SW.nil ?_ | refine thenQ_normal ?_ | refine W.skip ?_ | refine W.exit ?_ | refine thenQ_exit ?_ | refine inBlockQ_exit ?_ | refine inBlockQ_normal ?_ | refine W.block ?_
        | (apply SW.toC; refine SWcall.go (And.intro htab (And.intro hlen L1)) ?_) | (apply SW.toOp; refine SWop.go (And.intro htab (And.intro hlen L1)) ?_) | (apply SW.toCG; first | refine SWcall.yes (And.intro htab (And.intro hlen L1)) ?_ | refine SWcall.no (And.intro htab (And.intro hlen L1)) ?_) | (apply SW.toG; first | refine SWop.yes (And.intro htab (And.intro hlen L1)) ?_ | refine SWop.no (And.intro htab (And.intro hlen L1)) ?_)
      refine ⟨⟨k + 1, by omega⟩, Imp.le ?_, by show _ - (k + 1) < _ - k; omega⟩
      exact sL_leZ (And.intro hs (And.intro hd (And.intro htab (And.intro hlen L1))))
    · have hu' := of_decide_eq_false hu
      have hd : rowDigit c = ((c - 48#8).toNat : Int) := by simp only [rowDigit, if_neg hu']
      repeat' first
        | refine W.seq ?_ | (refine W.regS G ?_; dsimp only) | refine SW.nil ?_ | refine thenQ_normal ?_ | refine W.skip ?_ | refine W.exit ?_ | refine thenQ_exit ?_ | refine inBlockQ_exit ?_ | refine inBlockQ_normal ?_ | refine W.block ?_
        | (apply SW.toC; refine SWcall.go (And.intro htab (And.intro hlen L1)) ?_) | (apply SW.toOp; refine SWop.go (And.intro htab (And.intro hlen L1)) ?_) | (apply SW.toCG; first | refine SWcall.yes (And.intro htab (And.intro hlen L1)) ?_ | refine SWcall.no (And.intro htab (And.intro hlen L1)) ?_) | (apply SW.toG; first | refine SWop.yes (And.intro htab (And.intro hlen L1)) ?_ | refine SWop.no (And.intro htab (And.intro hlen L1)) ?_)
      refine ⟨⟨k + 1, by omega⟩, Imp.le ?_, by show _ - (k + 1) < _ - k; omega⟩
      exact sL_leZ (And.intro hs (And.intro hd (And.intro htab (And.intro hlen L1))))
  · have ht' := of_decide_eq_false ht
    obtain rfl : k = 16 := by omega
    repeat' first
      | refine W.seq ?_ | (refine W.regS G ?_; dsimp only) | refine SW.nil ?_ | refine thenQ_normal ?_ | refine W.skip ?_ | refine W.exit ?_ | refine thenQ_exit ?_ | refine inBlockQ_exit ?_ | refine inBlockQ_normal ?_ | refine W.block ?_
      | (apply SW.toC; refine SWcall.go (And.intro htab (And.intro hlen L1)) ?_) | (apply SW.toOp; refine SWop.go (And.intro htab (And.intro hlen L1)) ?_) | (apply SW.toCG; first | refine SWcall.yes (And.intro htab (And.intro hlen L1)) ?_ | refine SWcall.no (And.intro htab (And.intro hlen L1)) ?_) | (apply SW.toG; first | refine SWop.yes (And.intro htab (And.intro hlen L1)) ?_ | refine SWop.no (And.intro htab (And.intro hlen L1)) ?_)
    refine W.ret ?_
    repeat' first
      | refine thenQ_ret ?_
      | refine inBlockQ_ret ?_
    refine fin1Z (And.intro htab (And.intro hlen L1)) ?_
    exact leV_refl

/-! ### mixing -/
def mixRF (v : List (BitVec 64)) (p q r s : Nat) (x y : BitVec 64) : List (BitVec 64) :=
  let a := v.getD p 0 + v.getD q 0 + x
  let d := downF (v.getD s 0 ^^^ a) 32
  let c := v.getD r 0 + d
  let b := downF (v.getD q 0 ^^^ c) 24
  let a' := a + b + y
  let d' := downF (d ^^^ a') 16
  let c' := c + d'
  let b' := downF (b ^^^ c') 63
  (((v.set p a').set q b').set r c').set s d'
noncomputable def mixRS : FSpec := { run := fun ins => match ins with
  | [.agg 16 (.u 64 v), .sl false (.i [p, q, r, s]), .u 64 x, .u 64 y] => chk (0 ≤ p ∧ p < 16 ∧ 0 ≤ q ∧ q < 16 ∧ 0 ≤ r ∧ r < 16 ∧ 0 ≤ s ∧ s < 16) (some (.agg 16 (.u 64 (mixRF v p.toNat q.toNat r.toNat s.toNat x y)), []))
  | _ => none }
theorem mixR_sound (hro : ∀ g r, gl g = some r → r.ro = r) : SoundFn Tryd.prog gl 15 mixRS.run := by
  have G := good_of (P := Tryd.prog) hro (l := [(21, downRS)]) (by simp only [List.forall_mem_cons]; exact ⟨downR_sound hro, by simp⟩)
  refine soundFn_of_W G Tryd.func15 (by decide) rfl (by decide) ?_
  intro ins ret outs h
  unfold mixRS at h
  dsimp only at h
  split at h
  rotate_left
  · cases h
  rename_i v p q r s x y
  obtain ⟨hi, h'⟩ := chk_some h
  clear h
  cases h'
  refine ⟨by show 4 ≤ 86; decide, fun w0 ext av => ?_⟩
  rw [Tryd.ntmps15, st0_eq]
  repeat' first
    | refine W.seq ?_ | (refine W.regS G ?_; dsimp only) | refine SW.nil ?_ | refine thenQ_normal ?_ | refine W.skip ?_ | refine W.exit ?_ | refine thenQ_exit ?_ | refine inBlockQ_exit ?_ | refine inBlockQ_normal ?_ | refine W.block ?_
    | (apply SW.toC; refine SWcall.go downRS.eq_1 ?_) | (apply SW.toOp; refine SWop.go downRS.eq_1 ?_) | (apply SW.toCG; first | refine SWcall.yes downRS.eq_1 ?_ | refine SWcall.no downRS.eq_1 ?_) | (apply SW.toG; first | refine SWop.yes downRS.eq_1 ?_ | refine SWop.no downRS.eq_1 ?_)
  refine W.drawS G [[], [0], [1, 0], [2, 1, 0], [3, 2, 1, 0], [], [5], [6, 5], [7, 6, 5], [8, 7, 6, 5], [], [10], [11, 10], [12, 11, 10], [13, 12, 11, 10], [], [15], [16, 15], [17, 16, 15], [18, 17, 16, 15], [4, 3, 2, 1, 0], [9, 8, 7, 6, 5, 20, 4, 3, 2, 1, 0], [14, 13, 12, 11, 10, 21, 9, 8, 7, 6, 5, 20, 4, 3, 2, 1, 0], [19, 18, 17, 16, 15, 22, 14, 13, 12, 11, 10, 21, 9, 8, 7, 6, 5, 20, 4, 3, 2, 1, 0]] hmix ?_
  dsimp only
  repeat' first
    | (apply DW.nil; (focus (decide +kernel)))
    | (apply DW.toC; refine DWcall.go downRS.eq_1 ?_) | (apply DW.toOp; refine DWop.go downRS.eq_1 ?_) | (apply DW.toCG; first | refine DWcall.yes downRS.eq_1 ?_ | refine DWcall.no downRS.eq_1 ?_) | (apply DW.toG; first | refine DWop.yes downRS.eq_1 ?_ | refine DWop.no downRS.eq_1 ?_)
  repeat' first
    | refine W.seq ?_ | (refine W.regS G ?_; dsimp only) | refine SW.nil ?_ | refine thenQ_normal ?_ | refine W.skip ?_ | refine W.exit ?_ | refine thenQ_exit ?_ | refine inBlockQ_exit ?_ | refine inBlockQ_normal ?_ | refine W.block ?_
    | (apply SW.toC; refine SWcall.go downRS.eq_1 ?_) | (apply SW.toOp; refine SWop.go downRS.eq_1 ?_) | (apply SW.toCG; first | refine SWcall.yes downRS.eq_1 ?_ | refine SWcall.no downRS.eq_1 ?_) | (apply SW.toG; first | refine SWop.yes downRS.eq_1 ?_ | refine SWop.no downRS.eq_1 ?_)
  refine W.drawS G [[], [0], [1, 0], [], [3], [4, 3], [], [6], [7, 6], [], [9], [10, 9], [], [], [], [], [2, 1, 0, 12], [16, 2, 1, 0, 12], [5, 4, 3, 0, 1, 2, 12, 13, 16, 17], [18, 5, 4, 3, 0, 1, 2, 12, 13, 16, 17], [8, 7, 6, 0, 1, 2, 3, 4, 5, 12, 13, 14, 16, 17, 18, 19], [20, 8, 7, 6, 0, 1, 2, 3, 4, 5, 12, 13, 14, 16, 17, 18, 19], [11, 10, 9, 0, 1, 2, 3, 4, 5, 6, 7, 8, 12, 13, 14, 15, 16, 17, 18, 19, 20, 21], [22, 11, 10, 9, 0, 1, 2, 3, 4, 5, 6, 7, 8, 12, 13, 14, 15, 16, 17, 18, 19, 20, 21]] hmix ?_
  dsimp only
  repeat' first
    | (apply DW.nil; (focus (decide +kernel)))
    | (apply DW.toC; refine DWcall.go downRS.eq_1 ?_) | (apply DW.toOp; refine DWop.go downRS.eq_1 ?_) | (apply DW.toCG; first | refine DWcall.yes downRS.eq_1 ?_ | refine DWcall.no downRS.eq_1 ?_) | (apply DW.toG; first | refine DWop.yes downRS.eq_1 ?_ | refine DWop.no downRS.eq_1 ?_)
  repeat' first
    | refine W.seq ?_ | (refine W.regS G ?_; dsimp only) | refine SW.nil ?_ | refine thenQ_normal ?_ | refine W.skip ?_ | refine W.exit ?_ | refine thenQ_exit ?_ | refine inBlockQ_exit ?_ | refine inBlockQ_normal ?_ | refine W.block ?_
    | (apply SW.toC; refine SWcall.go downRS.eq_1 ?_) | (apply SW.toOp; refine SWop.go downRS.eq_1 ?_) | (apply SW.toCG; first | refine SWcall.yes downRS.eq_1 ?_ | refine SWcall.no downRS.eq_1 ?_) | (apply SW.toG; first | refine SWop.yes downRS.eq_1 ?_ | refine SWop.no downRS.eq_1 ?_)
  refine W.ret ?_
  repeat' first
    | refine thenQ_ret ?_
    | refine inBlockQ_ret ?_
  refine fin1Z downRS.eq_1 ?_
  exact leV_refl
end Go.Vm.C06

/- What some functions of the program compute, walked through once. -/
import Derived.Test.YtmpoofgkfaonfaaCGC
import Derived.Test.YtmpoofgkfaonfaaCP
namespace Go.Vm.C19
open Go Go.Proofs
set_option linter.unusedVariables false
set_option linter.unusedSimpArgs false
set_option maxRecDepth 100000
set_option maxHeartbeats 8000000

/-! ### what a transaction pays -/
def rN (r : Int) : Nat := (BitVec.ofInt 64 (if 0 ≤ r then r else 0)).toNat
def usN (L l : Nat) : Nat := L - min l L
def bkN (L l : Nat) (r : Int) : Nat := min (rN r) (usN L l / 5)
noncomputable def settleS : FSpec := { run := fun ins => match ins with
  | [.u 64 L, .u 64 l, .i r] => some (.tup [.u 64 (BitVec.ofNat 64 (usN L.toNat l.toNat - bkN L.toNat l.toNat r)), .u 64 (BitVec.ofNat 64 (bkN L.toNat l.toNat r))], [])
  | _ => none }
theorem settle_sound : SoundFn Try.prog glB 14 settleS.run := by
  have G := good_of (P := Try.prog) glB_ro (l := []) (by simp)
  refine soundFn_of_W G Try.func14 (by decide) rfl (by decide) ?_
  intro ins ret outs h
  unfold settleS at h
  dsimp only at h
  split at h
  rotate_left
  · cases h
  rename_i L l r
  cases h
  refine ⟨by show 3 ≤ 25; decide, fun w0 ext av => ?_⟩
  rw [Try.ntmps14, st0_eq]
  have hL := L.isLt
  have hl := l.isLt
  have hB : bkN L.toNat l.toNat r = min (rN r) (usN L.toNat l.toNat / 5) := rfl
  have hU : usN L.toNat l.toNat = L.toNat - min l.toNat L.toNat := rfl
  obtain ⟨u, hu⟩ : ∃ u, BitVec.ofNat 64 (usN L.toNat l.toNat) = u := ⟨_, rfl⟩
  have vu : u.toNat = usN L.toNat l.toNat := by rw [← hu, BitVec.toNat_ofNat]; omega
  refine W.seq ?_
  refine W.mid (sL [(0, .u 64 L), (1, .u 64 l), (2, .i r)] [] 25) ?_ ?_
  · repeat' first
      | refine W.seq ?_ | (refine W.regS G ?_; dsimp only) | refine SW.nil ?_ | refine thenQ_normal ?_ | refine W.skip ?_ | refine W.exit ?_ | refine thenQ_exit ?_ | refine inBlockQ_exit ?_ | refine inBlockQ_normal ?_ | refine W.block ?_
      | (apply SW.toC; refine SWcall.go True.intro ?_) | (apply SW.toOp; refine SWop.go True.intro ?_) | (apply SW.toCG; first | refine SWcall.yes True.intro ?_ | refine SWcall.no True.intro ?_) | (apply SW.toG; first | refine SWop.yes True.intro ?_ | refine SWop.no True.intro ?_)
    refine Imp.le ?_
    exact sL_leZ True.intro
  refine W.seq ?_
  refine W.mid (sL [(2, .i r), (8, .u 64 u)] [] 25) ?_ ?_
  · by_cases h : L < l
    · have h3 : L.toNat < l.toNat := h
      have hq := eq_true h
      have e : u = L - L := BitVec.eq_of_toNat_eq (by rw [vu, hU, BitVec.toNat_sub]; omega)
      repeat' first
        | refine W.seq ?_ | (refine W.regS G ?_; dsimp only) | refine SW.nil ?_ | refine thenQ_normal ?_ | refine W.skip ?_ | refine W.exit ?_ | refine thenQ_exit ?_ | refine inBlockQ_exit ?_ | refine inBlockQ_normal ?_ | refine W.block ?_
        | (apply SW.toC; refine SWcall.go hq ?_) | (apply SW.toOp; refine SWop.go hq ?_) | (apply SW.toCG; first | refine SWcall.yes hq ?_ | refine SWcall.no hq ?_) | (apply SW.toG; first | refine SWop.yes hq ?_ | refine SWop.no hq ?_)
      refine Imp.le ?_
      exact sL_leZ (And.intro e hq)
    · have h3 : ¬ L.toNat < l.toNat := h
      have hq := eq_false h
      have e : u = L - l := BitVec.eq_of_toNat_eq (by rw [vu, hU, BitVec.toNat_sub]; omega)
      repeat' first
        | refine W.seq ?_ | (refine W.regS G ?_; dsimp only) | refine SW.nil ?_ | refine thenQ_normal ?_ | refine W.skip ?_ | refine W.exit ?_ | refine thenQ_exit ?_ | refine inBlockQ_exit ?_ | refine inBlockQ_normal ?_ | refine W.block ?_
        | (apply SW.toC; refine SWcall.go hq ?_) | (apply SW.toOp; refine SWop.go hq ?_) | (apply SW.toCG; first | refine SWcall.yes hq ?_ | refine SWcall.no hq ?_) | (apply SW.toG; first | refine SWop.yes hq ?_ | refine SWop.no hq ?_)
      refine Imp.le ?_
      exact sL_leZ (And.intro e hq)
  generalize usN L.toNat l.toNat = U at *
  obtain ⟨w, hw⟩ : ∃ w, BitVec.ofNat 64 (bkN L.toNat l.toNat r) = w := ⟨_, rfl⟩
  have hul := u.isLt
  have vw : w.toNat = bkN L.toNat l.toNat r := by rw [← hw, BitVec.toNat_ofNat]; omega
  have n5 : ¬ (5#64 : BitVec 64) = 0 := by decide
  have v5 : (u / 5#64).toNat = u.toNat / 5 := BitVec.toNat_udiv
  refine W.seq ?_
  refine W.mid (sL [(8, .u 64 u), (9, .u 64 w)] [] 25) ?_ ?_
  · obtain ⟨R, hR⟩ : ∃ R, (if 0 ≤ r then r else 0 : Int) = R := ⟨_, rfl⟩
    have hR2 : rN r = (BitVec.ofInt 64 R).toNat := by unfold rN; rw [hR]
    have hR3 : (if r < 0 then 0 else r : Int) = R := by
      rw [← hR]
      by_cases h : 0 ≤ r
      · rw [if_pos h, if_neg (by omega)]
      · rw [if_neg h, if_pos (by omega)]
    obtain ⟨T, hT⟩ : ∃ T, BitVec.ofInt 64 R = T := ⟨_, rfl⟩
    rw [hT] at hR2
    by_cases h : u / 5#64 < T
    · have h3 : (u / 5#64).toNat < T.toNat := h
      have hq := eq_true h
      have e : w = u / 5#64 := BitVec.eq_of_toNat_eq (by rw [vw, hB, hR2]; omega)
      repeat' first
        | refine W.seq ?_ | (refine W.regS G ?_; dsimp only) | refine SW.nil ?_ | refine thenQ_normal ?_ | refine W.skip ?_ | refine W.exit ?_ | refine thenQ_exit ?_ | refine inBlockQ_exit ?_ | refine inBlockQ_normal ?_ | refine W.block ?_
        | (apply SW.toC; refine SWcall.go (And.intro n5 (And.intro hR3 (And.intro hT hq))) ?_) | (apply SW.toOp; refine SWop.go (And.intro n5 (And.intro hR3 (And.intro hT hq))) ?_) | (apply SW.toCG; first | refine SWcall.yes (And.intro n5 (And.intro hR3 (And.intro hT hq))) ?_ | refine SWcall.no (And.intro n5 (And.intro hR3 (And.intro hT hq))) ?_) | (apply SW.toG; first | refine SWop.yes (And.intro n5 (And.intro hR3 (And.intro hT hq))) ?_ | refine SWop.no (And.intro n5 (And.intro hR3 (And.intro hT hq))) ?_)
      refine Imp.le ?_
      exact sL_leZ (And.intro e (And.intro n5 (And.intro hR3 (And.intro hT hq))))
    · have h3 : ¬ (u / 5#64).toNat < T.toNat := h
      have hq := eq_false h
      have e : w = T := BitVec.eq_of_toNat_eq (by rw [vw, hB, hR2]; omega)
      repeat' first
        | refine W.seq ?_ | (refine W.regS G ?_; dsimp only) | refine SW.nil ?_ | refine thenQ_normal ?_ | refine W.skip ?_ | refine W.exit ?_ | refine thenQ_exit ?_ | refine inBlockQ_exit ?_ | refine inBlockQ_normal ?_ | refine W.block ?_
        | (apply SW.toC; refine SWcall.go (And.intro n5 (And.intro hR3 (And.intro hT hq))) ?_) | (apply SW.toOp; refine SWop.go (And.intro n5 (And.intro hR3 (And.intro hT hq))) ?_) | (apply SW.toCG; first | refine SWcall.yes (And.intro n5 (And.intro hR3 (And.intro hT hq))) ?_ | refine SWcall.no (And.intro n5 (And.intro hR3 (And.intro hT hq))) ?_) | (apply SW.toG; first | refine SWop.yes (And.intro n5 (And.intro hR3 (And.intro hT hq))) ?_ | refine SWop.no (And.intro n5 (And.intro hR3 (And.intro hT hq))) ?_)
      refine Imp.le ?_
      exact sL_leZ (And.intro e (And.intro n5 (And.intro hR3 (And.intro hT hq))))
  have e : BitVec.ofNat 64 (U - bkN L.toNat l.toNat r) = u - w := by
    refine BitVec.eq_of_toNat_eq ?_
    rw [BitVec.toNat_ofNat, BitVec.toNat_sub, vu, vw]
    omega
  rw [e, hw]
  repeat' first
    | refine W.seq ?_ | (refine W.regS G ?_; dsimp only) | refine SW.nil ?_ | refine thenQ_normal ?_ | refine W.skip ?_ | refine W.exit ?_ | refine thenQ_exit ?_ | refine inBlockQ_exit ?_ | refine inBlockQ_normal ?_ | refine W.block ?_
    | (apply SW.toC; refine SWcall.go True.intro ?_) | (apply SW.toOp; refine SWop.go True.intro ?_) | (apply SW.toCG; first | refine SWcall.yes True.intro ?_ | refine SWcall.no True.intro ?_) | (apply SW.toG; first | refine SWop.yes True.intro ?_ | refine SWop.no True.intro ?_)
  refine W.ret ?_
  repeat' first
    | refine thenQ_ret ?_
    | refine inBlockQ_ret ?_
  refine fin2Z True.intro ?_ ?_
  · exact leV_refl
  · exact leV_refl
end Go.Vm.C19

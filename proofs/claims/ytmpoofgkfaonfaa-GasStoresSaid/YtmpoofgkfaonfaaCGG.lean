/- What some functions of the program compute, walked through once. -/
import Derived.Test.YtmpoofgkfaonfaaCGF
namespace Go.Vm.C19
open Go Go.Proofs
set_option linter.unusedVariables false
set_option linter.unusedSimpArgs false
set_option maxRecDepth 100000
set_option maxHeartbeats 8000000

/-! ### calls -/
theorem rForward_sound : SoundFn Try.prog glB 19 forwardS.run := by
  have G := good_of (P := Try.prog) glB_ro (l := []) (by simp)
  refine soundFn_of_W G Try.func19 (by decide) rfl (by decide) ?_
  intro ins ret outs h
  unfold forwardS at h
  dsimp only at h
  split at h
  rotate_left
  · cases h
  rename_i l a
  cases h
  refine ⟨by show 2 ≤ 16; decide, fun w0 ext av => ?_⟩
  rw [Try.ntmps19, st0_eq]
  have n64 : ¬ (64#64 : BitVec 64) = 0 := by decide
  have hF : fwU l a = if (l - l / 64#64).toNat < a.toNat then l - l / 64#64 else a := rfl
  repeat' first
    | refine W.seq ?_ | (refine W.regS G ?_; dsimp only) | refine SW.nil ?_ | refine thenQ_normal ?_ | refine W.skip ?_ | refine W.exit ?_ | refine thenQ_exit ?_ | refine inBlockQ_exit ?_ | refine inBlockQ_normal ?_ | refine W.block ?_
    | (apply SW.toC; refine SWcall.go n64 ?_) | (apply SW.toOp; refine SWop.go n64 ?_) | (apply SW.toCG; first | refine SWcall.yes n64 ?_ | refine SWcall.no n64 ?_) | (apply SW.toG; first | refine SWop.yes n64 ?_ | refine SWop.no n64 ?_)
  refine W.condZ G n64 ?_ ?_
  all_goals intro hc
  · have hc' : a.toNat < (l - l / 64#64).toNat := yes_of hc
    rw [if_neg (by omega)] at hF
    rw [hF]
    repeat' first
      | refine W.seq ?_ | (refine W.regS G ?_; dsimp only) | refine SW.nil ?_ | refine thenQ_normal ?_ | refine W.skip ?_ | refine W.exit ?_ | refine thenQ_exit ?_ | refine inBlockQ_exit ?_ | refine inBlockQ_normal ?_ | refine W.block ?_
      | (apply SW.toC; refine SWcall.go n64 ?_) | (apply SW.toOp; refine SWop.go n64 ?_) | (apply SW.toCG; first | refine SWcall.yes n64 ?_ | refine SWcall.no n64 ?_) | (apply SW.toG; first | refine SWop.yes n64 ?_ | refine SWop.no n64 ?_)
    refine W.ret ?_
    repeat' first
      | refine thenQ_ret ?_
      | refine inBlockQ_ret ?_
    refine fin1Z n64 ?_
    exact leV_refl
  · have hc' : ¬ a.toNat < (l - l / 64#64).toNat := no_of hc
    have e : fwU l a = l - l / 64#64 := by
      rw [hF]
      by_cases h : (l - l / 64#64).toNat < a.toNat
      · rw [if_pos h]
      · rw [if_neg h]
        exact BitVec.eq_of_toNat_eq (by omega)
    rw [e]
    repeat' first
      | refine W.seq ?_ | (refine W.regS G ?_; dsimp only) | refine SW.nil ?_ | refine thenQ_normal ?_ | refine W.skip ?_ | refine W.exit ?_ | refine thenQ_exit ?_ | refine inBlockQ_exit ?_ | refine inBlockQ_normal ?_ | refine W.block ?_
      | (apply SW.toC; refine SWcall.go n64 ?_) | (apply SW.toOp; refine SWop.go n64 ?_) | (apply SW.toCG; first | refine SWcall.yes n64 ?_ | refine SWcall.no n64 ?_) | (apply SW.toG; first | refine SWop.yes n64 ?_ | refine SWop.no n64 ?_)
    refine W.ret ?_
    repeat' first
      | refine thenQ_ret ?_
      | refine inBlockQ_ret ?_
    refine fin1Z n64 ?_
    exact leV_refl
theorem rSettle_sound : SoundFn Try.prog glB 18 settleS.run := by
  have G := good_of (P := Try.prog) glB_ro (l := []) (by simp)
  refine soundFn_of_W G Try.func18 (by decide) rfl (by decide) ?_
  intro ins ret outs h
  unfold settleS at h
  dsimp only at h
  split at h
  rotate_left
  · cases h
  rename_i L l r
  cases h
  refine ⟨by show 3 ≤ 31; decide, fun w0 ext av => ?_⟩
  rw [Try.ntmps18, st0_eq]
  have hL := L.isLt
  have hl := l.isLt
  have hB : bkN L.toNat l.toNat r = min (rN r) (usN L.toNat l.toNat / 5) := rfl
  have hU : usN L.toNat l.toNat = L.toNat - min l.toNat L.toNat := rfl
  obtain ⟨u, hu⟩ : ∃ u, BitVec.ofNat 64 (usN L.toNat l.toNat) = u := ⟨_, rfl⟩
  have vu : u.toNat = usN L.toNat l.toNat := by rw [← hu, BitVec.toNat_ofNat]; omega
  refine W.seq ?_
  refine W.mid (sL [(0, .u 64 L), (1, .u 64 l), (2, .i r)] [] 31) ?_ ?_
  · repeat' first
      | refine W.seq ?_ | (refine W.regS G ?_; dsimp only) | refine SW.nil ?_ | refine thenQ_normal ?_ | refine W.skip ?_ | refine W.exit ?_ | refine thenQ_exit ?_ | refine inBlockQ_exit ?_ | refine inBlockQ_normal ?_ | refine W.block ?_
      | (apply SW.toC; refine SWcall.go True.intro ?_) | (apply SW.toOp; refine SWop.go True.intro ?_) | (apply SW.toCG; first | refine SWcall.yes True.intro ?_ | refine SWcall.no True.intro ?_) | (apply SW.toG; first | refine SWop.yes True.intro ?_ | refine SWop.no True.intro ?_)
    refine Imp.le ?_
    exact sL_leZ True.intro
  refine W.seq ?_
  refine W.midI (ι := {c : BitVec 64 // L - c = u}) (fun c => sL [(0, .u 64 L), (1, .u 64 c.1), (2, .i r)] [] 31) ?_ ?_
  · repeat' first
      | refine W.seq ?_ | (refine W.regS G ?_; dsimp only) | refine SW.nil ?_ | refine thenQ_normal ?_ | refine W.skip ?_ | refine W.exit ?_ | refine thenQ_exit ?_ | refine inBlockQ_exit ?_ | refine inBlockQ_normal ?_ | refine W.block ?_
      | (apply SW.toC; refine SWcall.go True.intro ?_) | (apply SW.toOp; refine SWop.go True.intro ?_) | (apply SW.toCG; first | refine SWcall.yes True.intro ?_ | refine SWcall.no True.intro ?_) | (apply SW.toG; first | refine SWop.yes True.intro ?_ | refine SWop.no True.intro ?_)
    refine W.condZ G True.intro ?_ ?_
    all_goals intro hc
    · have hc' : L.toNat < l.toNat := yes_of hc
      have e : L - L = u := BitVec.eq_of_toNat_eq (by rw [vu, hU, BitVec.toNat_sub]; omega)
      repeat' first
        | refine W.seq ?_ | (refine W.regS G ?_; dsimp only) | refine SW.nil ?_ | refine thenQ_normal ?_ | refine W.skip ?_ | refine W.exit ?_ | refine thenQ_exit ?_ | refine inBlockQ_exit ?_ | refine inBlockQ_normal ?_ | refine W.block ?_
        | (apply SW.toC; refine SWcall.go True.intro ?_) | (apply SW.toOp; refine SWop.go True.intro ?_) | (apply SW.toCG; first | refine SWcall.yes True.intro ?_ | refine SWcall.no True.intro ?_) | (apply SW.toG; first | refine SWop.yes True.intro ?_ | refine SWop.no True.intro ?_)
      refine ⟨⟨L, e⟩, Imp.le ?_⟩
      exact sL_leZ True.intro
    · have hc' : ¬ L.toNat < l.toNat := no_of hc
      have e : L - l = u := BitVec.eq_of_toNat_eq (by rw [vu, hU, BitVec.toNat_sub]; omega)
      repeat' first
        | refine W.seq ?_ | (refine W.regS G ?_; dsimp only) | refine SW.nil ?_ | refine thenQ_normal ?_ | refine W.skip ?_ | refine W.exit ?_ | refine thenQ_exit ?_ | refine inBlockQ_exit ?_ | refine inBlockQ_normal ?_ | refine W.block ?_
        | (apply SW.toC; refine SWcall.go True.intro ?_) | (apply SW.toOp; refine SWop.go True.intro ?_) | (apply SW.toCG; first | refine SWcall.yes True.intro ?_ | refine SWcall.no True.intro ?_) | (apply SW.toG; first | refine SWop.yes True.intro ?_ | refine SWop.no True.intro ?_)
      refine ⟨⟨l, e⟩, Imp.le ?_⟩
      exact sL_leZ True.intro
  rintro ⟨c, hcu⟩
  dsimp only
  generalize usN L.toNat l.toNat = U at *
  obtain ⟨w, hw⟩ : ∃ w, BitVec.ofNat 64 (bkN L.toNat l.toNat r) = w := ⟨_, rfl⟩
  have hul := u.isLt
  have vw : w.toNat = bkN L.toNat l.toNat r := by rw [← hw, BitVec.toNat_ofNat]; omega
  have n5 : ¬ (5#64 : BitVec 64) = 0 := by decide
  have v5 : (u / 5#64).toNat = u.toNat / 5 := BitVec.toNat_udiv
  obtain ⟨R, hR⟩ : ∃ R, (if 0 ≤ r then r else 0 : Int) = R := ⟨_, rfl⟩
  have hR2 : rN r = (BitVec.ofInt 64 R).toNat := by unfold rN; rw [hR]
  obtain ⟨T, hT⟩ : ∃ T, BitVec.ofInt 64 R = T := ⟨_, rfl⟩
  rw [hT] at hR2
  repeat' first
    | refine W.seq ?_ | (refine W.regS G ?_; dsimp only) | refine SW.nil ?_ | refine thenQ_normal ?_ | refine W.skip ?_ | refine W.exit ?_ | refine thenQ_exit ?_ | refine inBlockQ_exit ?_ | refine inBlockQ_normal ?_
    | (apply SW.toC; refine SWcall.go hcu ?_) | (apply SW.toOp; refine SWop.go hcu ?_) | (apply SW.toCG; first | refine SWcall.yes hcu ?_ | refine SWcall.no hcu ?_) | (apply SW.toG; first | refine SWop.yes hcu ?_ | refine SWop.no hcu ?_)
  refine W.mid (sL [(8, .u 64 u), (9, .u 64 T)] [] 31) ?_ ?_
  · refine W.condZ G hcu ?_ ?_
    all_goals intro hc
    · have hc' : 0 < r := yes_of hc
      have e : R = r := by rw [← hR, if_pos (by omega)]
      rw [e] at hT
      repeat' first
        | refine W.seq ?_ | (refine W.regS G ?_; dsimp only) | refine SW.nil ?_ | refine thenQ_normal ?_ | refine W.skip ?_ | refine W.exit ?_ | refine thenQ_exit ?_ | refine inBlockQ_exit ?_ | refine inBlockQ_normal ?_ | refine W.block ?_
        | (apply SW.toC; refine SWcall.go hT ?_) | (apply SW.toOp; refine SWop.go hT ?_) | (apply SW.toCG; first | refine SWcall.yes hT ?_ | refine SWcall.no hT ?_) | (apply SW.toG; first | refine SWop.yes hT ?_ | refine SWop.no hT ?_)
      refine Imp.le ?_
      exact sL_leZ hT
    · have hc' : ¬ 0 < r := no_of hc
      have e : R = 0 := by
        rw [← hR]
        by_cases h : 0 ≤ r
        · rw [if_pos h]; omega
        · rw [if_neg h]
      have e2 : T = 0#64 := by rw [← hT, e]; rfl
      repeat' first
        | refine W.seq ?_ | (refine W.regS G ?_; dsimp only) | refine SW.nil ?_ | refine thenQ_normal ?_ | refine W.skip ?_ | refine W.exit ?_ | refine thenQ_exit ?_ | refine inBlockQ_exit ?_ | refine inBlockQ_normal ?_ | refine W.block ?_
        | (apply SW.toC; refine SWcall.go True.intro ?_) | (apply SW.toOp; refine SWop.go True.intro ?_) | (apply SW.toCG; first | refine SWcall.yes True.intro ?_ | refine SWcall.no True.intro ?_) | (apply SW.toG; first | refine SWop.yes True.intro ?_ | refine SWop.no True.intro ?_)
      refine Imp.le ?_
      exact sL_leZ e2
  repeat' first
    | refine W.seq ?_ | (refine W.regS G ?_; dsimp only) | refine SW.nil ?_ | refine thenQ_normal ?_ | refine W.skip ?_ | refine W.exit ?_ | refine thenQ_exit ?_ | refine inBlockQ_exit ?_ | refine inBlockQ_normal ?_
    | (apply SW.toC; refine SWcall.go n5 ?_) | (apply SW.toOp; refine SWop.go n5 ?_) | (apply SW.toCG; first | refine SWcall.yes n5 ?_ | refine SWcall.no n5 ?_) | (apply SW.toG; first | refine SWop.yes n5 ?_ | refine SWop.no n5 ?_)
  refine W.mid (sL [(8, .u 64 u), (9, .u 64 w)] [] 31) ?_ ?_
  · refine W.condZ G n5 ?_ ?_
    all_goals intro hc
    · have hc' : (u / 5#64).toNat < T.toNat := yes_of hc
      have e : w = u / 5#64 := BitVec.eq_of_toNat_eq (by rw [vw, hB, hR2]; omega)
      repeat' first
        | refine W.seq ?_ | (refine W.regS G ?_; dsimp only) | refine SW.nil ?_ | refine thenQ_normal ?_ | refine W.skip ?_ | refine W.exit ?_ | refine thenQ_exit ?_ | refine inBlockQ_exit ?_ | refine inBlockQ_normal ?_ | refine W.block ?_
        | (apply SW.toC; refine SWcall.go n5 ?_) | (apply SW.toOp; refine SWop.go n5 ?_) | (apply SW.toCG; first | refine SWcall.yes n5 ?_ | refine SWcall.no n5 ?_) | (apply SW.toG; first | refine SWop.yes n5 ?_ | refine SWop.no n5 ?_)
      refine Imp.le ?_
      exact sL_leZ (And.intro e n5)
    · have hc' : ¬ (u / 5#64).toNat < T.toNat := no_of hc
      have e : w = T := BitVec.eq_of_toNat_eq (by rw [vw, hB, hR2]; omega)
      repeat' first
        | refine W.seq ?_ | (refine W.regS G ?_; dsimp only) | refine SW.nil ?_ | refine thenQ_normal ?_ | refine W.skip ?_ | refine W.exit ?_ | refine thenQ_exit ?_ | refine inBlockQ_exit ?_ | refine inBlockQ_normal ?_ | refine W.block ?_
        | (apply SW.toC; refine SWcall.go n5 ?_) | (apply SW.toOp; refine SWop.go n5 ?_) | (apply SW.toCG; first | refine SWcall.yes n5 ?_ | refine SWcall.no n5 ?_) | (apply SW.toG; first | refine SWop.yes n5 ?_ | refine SWop.no n5 ?_)
      refine Imp.le ?_
      exact sL_leZ (And.intro e n5)
  have e : BitVec.ofNat 64 (U - bkN L.toNat l.toNat r) = u - w := by
    refine BitVec.eq_of_toNat_eq ?_
    rw [BitVec.toNat_ofNat, BitVec.toNat_sub, vu, vw]
    omega
  rw [e, hw]
  repeat' first
    | refine W.seq ?_ | (refine W.regS G ?_; dsimp only) | refine SW.nil ?_ | refine thenQ_normal ?_ | refine W.skip ?_ | refine W.exit ?_ | refine thenQ_exit ?_ | refine inBlockQ_exit ?_ | refine inBlockQ_normal ?_ | refine W.block ?_
    | (apply SW.toC; refine SWcall.go True.intro ?_) | (apply SW.toOp; refine SWop.go True.intro ?_) | (apply SW.toCG; first | refine SWcall.yes True.intro ?_ | refine SWcall.no True.intro ?_) | (apply SW.toG; first | refine SWop.yes True.intro ?_ | refine SWop.no True.intro ?_)
  refine W.ret ?_
  repeat' first
    | refine thenQ_ret ?_
    | refine inBlockQ_ret ?_
  refine fin2Z True.intro ?_ ?_
  · exact leV_refl
  · exact leV_refl
def tcU : Bool → BitVec 64
  | true => 100#64
  | false => 2600#64
noncomputable def touchS : FSpec := { run := fun ins => match ins with
  | [.b w] => some (.u 64 (tcU w), [])
  | _ => none }
theorem touch_sound : SoundFn Try.prog glB 56 touchS.run := by
  have G := good_of (P := Try.prog) glB_ro (l := []) (by simp)
  refine soundFn_of_W G Try.func56 (by decide) rfl (by decide) ?_
  intro ins ret outs h
  unfold touchS at h
  dsimp only at h
  split at h
  rotate_left
  · cases h
  rename_i w
  cases h
  refine ⟨by show 1 ≤ 4; decide, fun w0 ext av => ?_⟩
  rw [Try.ntmps56, st0_eq]
  repeat' first
    | refine W.seq ?_ | (refine W.regS G ?_; dsimp only) | refine SW.nil ?_ | refine thenQ_normal ?_ | refine W.skip ?_ | refine W.exit ?_ | refine thenQ_exit ?_ | refine inBlockQ_exit ?_ | refine inBlockQ_normal ?_ | refine W.block ?_
    | (apply SW.toC; refine SWcall.go True.intro ?_) | (apply SW.toOp; refine SWop.go True.intro ?_) | (apply SW.toCG; first | refine SWcall.yes True.intro ?_ | refine SWcall.no True.intro ?_) | (apply SW.toG; first | refine SWop.yes True.intro ?_ | refine SWop.no True.intro ?_)
  refine W.condZ G True.intro ?_ ?_
  all_goals intro hc
  · have hc' : w = true := hc
    rw [hc']
    repeat' first
      | refine W.seq ?_ | (refine W.regS G ?_; dsimp only) | refine SW.nil ?_ | refine thenQ_normal ?_ | refine W.skip ?_ | refine W.exit ?_ | refine thenQ_exit ?_ | refine inBlockQ_exit ?_ | refine inBlockQ_normal ?_ | refine W.block ?_
      | (apply SW.toC; refine SWcall.go True.intro ?_) | (apply SW.toOp; refine SWop.go True.intro ?_) | (apply SW.toCG; first | refine SWcall.yes True.intro ?_ | refine SWcall.no True.intro ?_) | (apply SW.toG; first | refine SWop.yes True.intro ?_ | refine SWop.no True.intro ?_)
    refine W.ret ?_
    repeat' first
      | refine thenQ_ret ?_
      | refine inBlockQ_ret ?_
    refine fin1Z True.intro ?_
    exact leV_refl
  · have hc' : w = false := hc
    rw [hc']
    repeat' first
      | refine W.seq ?_ | (refine W.regS G ?_; dsimp only) | refine SW.nil ?_ | refine thenQ_normal ?_ | refine W.skip ?_ | refine W.exit ?_ | refine thenQ_exit ?_ | refine inBlockQ_exit ?_ | refine inBlockQ_normal ?_ | refine W.block ?_
      | (apply SW.toC; refine SWcall.go True.intro ?_) | (apply SW.toOp; refine SWop.go True.intro ?_) | (apply SW.toCG; first | refine SWcall.yes True.intro ?_ | refine SWcall.no True.intro ?_) | (apply SW.toG; first | refine SWop.yes True.intro ?_ | refine SWop.no True.intro ?_)
    refine W.ret ?_
    repeat' first
      | refine thenQ_ret ?_
      | refine inBlockQ_ret ?_
    refine fin1Z True.intro ?_
    exact leV_refl
theorem rTouch_sound : SoundFn Try.prog glB 34 touchS.run := by
  have G := good_of (P := Try.prog) glB_ro (l := []) (by simp)
  refine soundFn_of_W G Try.func34 (by decide) rfl (by decide) ?_
  intro ins ret outs h
  unfold touchS at h
  dsimp only at h
  split at h
  rotate_left
  · cases h
  rename_i w
  cases h
  refine ⟨by show 1 ≤ 4; decide, fun w0 ext av => ?_⟩
  rw [Try.ntmps34, st0_eq]
  repeat' first
    | refine W.seq ?_ | (refine W.regS G ?_; dsimp only) | refine SW.nil ?_ | refine thenQ_normal ?_ | refine W.skip ?_ | refine W.exit ?_ | refine thenQ_exit ?_ | refine inBlockQ_exit ?_ | refine inBlockQ_normal ?_ | refine W.block ?_
    | (apply SW.toC; refine SWcall.go True.intro ?_) | (apply SW.toOp; refine SWop.go True.intro ?_) | (apply SW.toCG; first | refine SWcall.yes True.intro ?_ | refine SWcall.no True.intro ?_) | (apply SW.toG; first | refine SWop.yes True.intro ?_ | refine SWop.no True.intro ?_)
  refine W.condZ G True.intro ?_ ?_
  all_goals intro hc
  · have hc' : w = true := hc
    rw [hc']
    repeat' first
      | refine W.seq ?_ | (refine W.regS G ?_; dsimp only) | refine SW.nil ?_ | refine thenQ_normal ?_ | refine W.skip ?_ | refine W.exit ?_ | refine thenQ_exit ?_ | refine inBlockQ_exit ?_ | refine inBlockQ_normal ?_ | refine W.block ?_
      | (apply SW.toC; refine SWcall.go True.intro ?_) | (apply SW.toOp; refine SWop.go True.intro ?_) | (apply SW.toCG; first | refine SWcall.yes True.intro ?_ | refine SWcall.no True.intro ?_) | (apply SW.toG; first | refine SWop.yes True.intro ?_ | refine SWop.no True.intro ?_)
    refine W.ret ?_
    repeat' first
      | refine thenQ_ret ?_
      | refine inBlockQ_ret ?_
    refine fin1Z True.intro ?_
    exact leV_refl
  · have hc' : w = false := hc
    rw [hc']
    repeat' first
      | refine W.seq ?_ | (refine W.regS G ?_; dsimp only) | refine SW.nil ?_ | refine thenQ_normal ?_ | refine W.skip ?_ | refine W.exit ?_ | refine thenQ_exit ?_ | refine inBlockQ_exit ?_ | refine inBlockQ_normal ?_ | refine W.block ?_
      | (apply SW.toC; refine SWcall.go True.intro ?_) | (apply SW.toOp; refine SWop.go True.intro ?_) | (apply SW.toCG; first | refine SWcall.yes True.intro ?_ | refine SWcall.no True.intro ?_) | (apply SW.toG; first | refine SWop.yes True.intro ?_ | refine SWop.no True.intro ?_)
    refine W.ret ?_
    repeat' first
      | refine thenQ_ret ?_
      | refine inBlockQ_ret ?_
    refine fin1Z True.intro ?_
    exact leV_refl
def clU (g m w : Bool) : BitVec 64 :=
  match g, m with
  | true, true => tcU w + 9000#64 + 25000#64
  | true, false => tcU w + 9000#64
  | false, _ => tcU w
noncomputable def callS : FSpec := { run := fun ins => match ins with
  | [.b g, .b m, .b w] => some (.u 64 (clU g m w), [])
  | _ => none }
theorem call_sound : SoundFn Try.prog glB 20 callS.run := by
  have G := good_of (P := Try.prog) glB_ro (l := [(56, touchS)]) (by simp only [List.forall_mem_cons]; exact ⟨touch_sound, by simp⟩)
  refine soundFn_of_W G Try.func20 (by decide) rfl (by decide) ?_
  intro ins ret outs h
  unfold callS at h
  dsimp only at h
  split at h
  rotate_left
  · cases h
  rename_i g m w
  cases h
  refine ⟨by show 3 ≤ 20; decide, fun w0 ext av => ?_⟩
  rw [Try.ntmps20, st0_eq]
  cases g
  · have e : clU false m w = tcU w := rfl
    rw [e]
    repeat' first
      | refine W.seq ?_ | (refine W.regS G ?_; dsimp only) | refine SW.nil ?_ | refine thenQ_normal ?_ | refine W.skip ?_ | refine W.exit ?_ | refine thenQ_exit ?_ | refine inBlockQ_exit ?_ | refine inBlockQ_normal ?_ | refine W.block ?_
      | (apply SW.toC; refine SWcall.go touchS.eq_1 ?_) | (apply SW.toOp; refine SWop.go touchS.eq_1 ?_) | (apply SW.toCG; first | refine SWcall.yes touchS.eq_1 ?_ | refine SWcall.no touchS.eq_1 ?_) | (apply SW.toG; first | refine SWop.yes touchS.eq_1 ?_ | refine SWop.no touchS.eq_1 ?_)
    refine W.condZ G touchS.eq_1 ?_ ?_
    all_goals intro hc
    · exact absurd hc (by decide)
    repeat' first
      | refine W.seq ?_ | (refine W.regS G ?_; dsimp only) | refine SW.nil ?_ | refine thenQ_normal ?_ | refine W.skip ?_ | refine W.exit ?_ | refine thenQ_exit ?_ | refine inBlockQ_exit ?_ | refine inBlockQ_normal ?_ | refine W.block ?_
      | (apply SW.toC; refine SWcall.go touchS.eq_1 ?_) | (apply SW.toOp; refine SWop.go touchS.eq_1 ?_) | (apply SW.toCG; first | refine SWcall.yes touchS.eq_1 ?_ | refine SWcall.no touchS.eq_1 ?_) | (apply SW.toG; first | refine SWop.yes touchS.eq_1 ?_ | refine SWop.no touchS.eq_1 ?_)
    refine W.condZ G touchS.eq_1 ?_ ?_
    all_goals intro hd
    · exact absurd hd (by decide)
    repeat' first
      | refine W.seq ?_ | (refine W.regS G ?_; dsimp only) | refine SW.nil ?_ | refine thenQ_normal ?_ | refine W.skip ?_ | refine W.exit ?_ | refine thenQ_exit ?_ | refine inBlockQ_exit ?_ | refine inBlockQ_normal ?_ | refine W.block ?_
      | (apply SW.toC; refine SWcall.go touchS.eq_1 ?_) | (apply SW.toOp; refine SWop.go touchS.eq_1 ?_) | (apply SW.toCG; first | refine SWcall.yes touchS.eq_1 ?_ | refine SWcall.no touchS.eq_1 ?_) | (apply SW.toG; first | refine SWop.yes touchS.eq_1 ?_ | refine SWop.no touchS.eq_1 ?_)
    refine W.ret ?_
    repeat' first
      | refine thenQ_ret ?_
      | refine inBlockQ_ret ?_
    refine fin1Z touchS.eq_1 ?_
    exact leV_refl
  · cases m
    · have e : clU true false w = tcU w + 9000#64 := rfl
      rw [e]
      repeat' first
        | refine W.seq ?_ | (refine W.regS G ?_; dsimp only) | refine SW.nil ?_ | refine thenQ_normal ?_ | refine W.skip ?_ | refine W.exit ?_ | refine thenQ_exit ?_ | refine inBlockQ_exit ?_ | refine inBlockQ_normal ?_ | refine W.block ?_
        | (apply SW.toC; refine SWcall.go touchS.eq_1 ?_) | (apply SW.toOp; refine SWop.go touchS.eq_1 ?_) | (apply SW.toCG; first | refine SWcall.yes touchS.eq_1 ?_ | refine SWcall.no touchS.eq_1 ?_) | (apply SW.toG; first | refine SWop.yes touchS.eq_1 ?_ | refine SWop.no touchS.eq_1 ?_)
      refine W.condZ G touchS.eq_1 ?_ ?_
      all_goals intro hc
      · repeat' first
          | refine W.seq ?_ | (refine W.regS G ?_; dsimp only) | refine SW.nil ?_ | refine thenQ_normal ?_ | refine W.skip ?_ | refine W.exit ?_ | refine thenQ_exit ?_ | refine inBlockQ_exit ?_ | refine inBlockQ_normal ?_ | refine W.block ?_
          | (apply SW.toC; refine SWcall.go touchS.eq_1 ?_) | (apply SW.toOp; refine SWop.go touchS.eq_1 ?_) | (apply SW.toCG; first | refine SWcall.yes touchS.eq_1 ?_ | refine SWcall.no touchS.eq_1 ?_) | (apply SW.toG; first | refine SWop.yes touchS.eq_1 ?_ | refine SWop.no touchS.eq_1 ?_)
        refine W.condZ G touchS.eq_1 ?_ ?_
        all_goals intro hd
        · exact absurd hd (by decide)
        repeat' first
          | refine W.seq ?_ | (refine W.regS G ?_; dsimp only) | refine SW.nil ?_ | refine thenQ_normal ?_ | refine W.skip ?_ | refine W.exit ?_ | refine thenQ_exit ?_ | refine inBlockQ_exit ?_ | refine inBlockQ_normal ?_ | refine W.block ?_
          | (apply SW.toC; refine SWcall.go touchS.eq_1 ?_) | (apply SW.toOp; refine SWop.go touchS.eq_1 ?_) | (apply SW.toCG; first | refine SWcall.yes touchS.eq_1 ?_ | refine SWcall.no touchS.eq_1 ?_) | (apply SW.toG; first | refine SWop.yes touchS.eq_1 ?_ | refine SWop.no touchS.eq_1 ?_)
        refine W.ret ?_
        repeat' first
          | refine thenQ_ret ?_
          | refine inBlockQ_ret ?_
        refine fin1Z touchS.eq_1 ?_
        exact leV_refl
      · exact absurd hc (by decide)
    · have e : clU true true w = tcU w + 9000#64 + 25000#64 := rfl
      rw [e]
      repeat' first
        | refine W.seq ?_ | (refine W.regS G ?_; dsimp only) | refine SW.nil ?_ | refine thenQ_normal ?_ | refine W.skip ?_ | refine W.exit ?_ | refine thenQ_exit ?_ | refine inBlockQ_exit ?_ | refine inBlockQ_normal ?_ | refine W.block ?_
        | (apply SW.toC; refine SWcall.go touchS.eq_1 ?_) | (apply SW.toOp; refine SWop.go touchS.eq_1 ?_) | (apply SW.toCG; first | refine SWcall.yes touchS.eq_1 ?_ | refine SWcall.no touchS.eq_1 ?_) | (apply SW.toG; first | refine SWop.yes touchS.eq_1 ?_ | refine SWop.no touchS.eq_1 ?_)
      refine W.condZ G touchS.eq_1 ?_ ?_
      all_goals intro hc
      · repeat' first
          | refine W.seq ?_ | (refine W.regS G ?_; dsimp only) | refine SW.nil ?_ | refine thenQ_normal ?_ | refine W.skip ?_ | refine W.exit ?_ | refine thenQ_exit ?_ | refine inBlockQ_exit ?_ | refine inBlockQ_normal ?_ | refine W.block ?_
          | (apply SW.toC; refine SWcall.go touchS.eq_1 ?_) | (apply SW.toOp; refine SWop.go touchS.eq_1 ?_) | (apply SW.toCG; first | refine SWcall.yes touchS.eq_1 ?_ | refine SWcall.no touchS.eq_1 ?_) | (apply SW.toG; first | refine SWop.yes touchS.eq_1 ?_ | refine SWop.no touchS.eq_1 ?_)
        refine W.condZ G touchS.eq_1 ?_ ?_
        all_goals intro hd
        · repeat' first
            | refine W.seq ?_ | (refine W.regS G ?_; dsimp only) | refine SW.nil ?_ | refine thenQ_normal ?_ | refine W.skip ?_ | refine W.exit ?_ | refine thenQ_exit ?_ | refine inBlockQ_exit ?_ | refine inBlockQ_normal ?_ | refine W.block ?_
            | (apply SW.toC; refine SWcall.go touchS.eq_1 ?_) | (apply SW.toOp; refine SWop.go touchS.eq_1 ?_) | (apply SW.toCG; first | refine SWcall.yes touchS.eq_1 ?_ | refine SWcall.no touchS.eq_1 ?_) | (apply SW.toG; first | refine SWop.yes touchS.eq_1 ?_ | refine SWop.no touchS.eq_1 ?_)
          refine W.ret ?_
          repeat' first
            | refine thenQ_ret ?_
            | refine inBlockQ_ret ?_
          refine fin1Z touchS.eq_1 ?_
          exact leV_refl
        · exact absurd hd (by decide)
      · exact absurd hc (by decide)
theorem rCall_sound : SoundFn Try.prog glB 21 callS.run := by
  have G := good_of (P := Try.prog) glB_ro (l := [(34, touchS)]) (by simp only [List.forall_mem_cons]; exact ⟨rTouch_sound, by simp⟩)
  refine soundFn_of_W G Try.func21 (by decide) rfl (by decide) ?_
  intro ins ret outs h
  unfold callS at h
  dsimp only at h
  split at h
  rotate_left
  · cases h
  rename_i g m w
  cases h
  refine ⟨by show 3 ≤ 20; decide, fun w0 ext av => ?_⟩
  rw [Try.ntmps21, st0_eq]
  cases g
  · have e : clU false m w = tcU w := rfl
    rw [e]
    repeat' first
      | refine W.seq ?_ | (refine W.regS G ?_; dsimp only) | refine SW.nil ?_ | refine thenQ_normal ?_ | refine W.skip ?_ | refine W.exit ?_ | refine thenQ_exit ?_ | refine inBlockQ_exit ?_ | refine inBlockQ_normal ?_ | refine W.block ?_
      | (apply SW.toC; refine SWcall.go touchS.eq_1 ?_) | (apply SW.toOp; refine SWop.go touchS.eq_1 ?_) | (apply SW.toCG; first | refine SWcall.yes touchS.eq_1 ?_ | refine SWcall.no touchS.eq_1 ?_) | (apply SW.toG; first | refine SWop.yes touchS.eq_1 ?_ | refine SWop.no touchS.eq_1 ?_)
    refine W.condZ G touchS.eq_1 ?_ ?_
    all_goals intro hc
    · exact absurd hc (by decide)
    repeat' first
      | refine W.seq ?_ | (refine W.regS G ?_; dsimp only) | refine SW.nil ?_ | refine thenQ_normal ?_ | refine W.skip ?_ | refine W.exit ?_ | refine thenQ_exit ?_ | refine inBlockQ_exit ?_ | refine inBlockQ_normal ?_ | refine W.block ?_
      | (apply SW.toC; refine SWcall.go touchS.eq_1 ?_) | (apply SW.toOp; refine SWop.go touchS.eq_1 ?_) | (apply SW.toCG; first | refine SWcall.yes touchS.eq_1 ?_ | refine SWcall.no touchS.eq_1 ?_) | (apply SW.toG; first | refine SWop.yes touchS.eq_1 ?_ | refine SWop.no touchS.eq_1 ?_)
    refine W.condZ G touchS.eq_1 ?_ ?_
    all_goals intro hd
    · exact absurd hd (by decide)
    repeat' first
      | refine W.seq ?_ | (refine W.regS G ?_; dsimp only) | refine SW.nil ?_ | refine thenQ_normal ?_ | refine W.skip ?_ | refine W.exit ?_ | refine thenQ_exit ?_ | refine inBlockQ_exit ?_ | refine inBlockQ_normal ?_ | refine W.block ?_
      | (apply SW.toC; refine SWcall.go touchS.eq_1 ?_) | (apply SW.toOp; refine SWop.go touchS.eq_1 ?_) | (apply SW.toCG; first | refine SWcall.yes touchS.eq_1 ?_ | refine SWcall.no touchS.eq_1 ?_) | (apply SW.toG; first | refine SWop.yes touchS.eq_1 ?_ | refine SWop.no touchS.eq_1 ?_)
    refine W.ret ?_
    repeat' first
      | refine thenQ_ret ?_
      | refine inBlockQ_ret ?_
    refine fin1Z touchS.eq_1 ?_
    exact leV_refl
  · cases m
    · have e : clU true false w = tcU w + 9000#64 := rfl
      rw [e]
      repeat' first
        | refine W.seq ?_ | (refine W.regS G ?_; dsimp only) | refine SW.nil ?_ | refine thenQ_normal ?_ | refine W.skip ?_ | refine W.exit ?_ | refine thenQ_exit ?_ | refine inBlockQ_exit ?_ | refine inBlockQ_normal ?_ | refine W.block ?_
        | (apply SW.toC; refine SWcall.go touchS.eq_1 ?_) | (apply SW.toOp; refine SWop.go touchS.eq_1 ?_) | (apply SW.toCG; first | refine SWcall.yes touchS.eq_1 ?_ | refine SWcall.no touchS.eq_1 ?_) | (apply SW.toG; first | refine SWop.yes touchS.eq_1 ?_ | refine SWop.no touchS.eq_1 ?_)
      refine W.condZ G touchS.eq_1 ?_ ?_
      all_goals intro hc
      · repeat' first
          | refine W.seq ?_ | (refine W.regS G ?_; dsimp only) | refine SW.nil ?_ | refine thenQ_normal ?_ | refine W.skip ?_ | refine W.exit ?_ | refine thenQ_exit ?_ | refine inBlockQ_exit ?_ | refine inBlockQ_normal ?_ | refine W.block ?_
          | (apply SW.toC; refine SWcall.go touchS.eq_1 ?_) | (apply SW.toOp; refine SWop.go touchS.eq_1 ?_) | (apply SW.toCG; first | refine SWcall.yes touchS.eq_1 ?_ | refine SWcall.no touchS.eq_1 ?_) | (apply SW.toG; first | refine SWop.yes touchS.eq_1 ?_ | refine SWop.no touchS.eq_1 ?_)
        refine W.condZ G touchS.eq_1 ?_ ?_
        all_goals intro hd
        · exact absurd hd (by decide)
        repeat' first
          | refine W.seq ?_ | (refine W.regS G ?_; dsimp only) | refine SW.nil ?_ | refine thenQ_normal ?_ | refine W.skip ?_ | refine W.exit ?_ | refine thenQ_exit ?_ | refine inBlockQ_exit ?_ | refine inBlockQ_normal ?_ | refine W.block ?_
          | (apply SW.toC; refine SWcall.go touchS.eq_1 ?_) | (apply SW.toOp; refine SWop.go touchS.eq_1 ?_) | (apply SW.toCG; first | refine SWcall.yes touchS.eq_1 ?_ | refine SWcall.no touchS.eq_1 ?_) | (apply SW.toG; first | refine SWop.yes touchS.eq_1 ?_ | refine SWop.no touchS.eq_1 ?_)
        refine W.ret ?_
        repeat' first
          | refine thenQ_ret ?_
          | refine inBlockQ_ret ?_
        refine fin1Z touchS.eq_1 ?_
        exact leV_refl
      · exact absurd hc (by decide)
    · have e : clU true true w = tcU w + 9000#64 + 25000#64 := rfl
      rw [e]
      repeat' first
        | refine W.seq ?_ | (refine W.regS G ?_; dsimp only) | refine SW.nil ?_ | refine thenQ_normal ?_ | refine W.skip ?_ | refine W.exit ?_ | refine thenQ_exit ?_ | refine inBlockQ_exit ?_ | refine inBlockQ_normal ?_ | refine W.block ?_
        | (apply SW.toC; refine SWcall.go touchS.eq_1 ?_) | (apply SW.toOp; refine SWop.go touchS.eq_1 ?_) | (apply SW.toCG; first | refine SWcall.yes touchS.eq_1 ?_ | refine SWcall.no touchS.eq_1 ?_) | (apply SW.toG; first | refine SWop.yes touchS.eq_1 ?_ | refine SWop.no touchS.eq_1 ?_)
      refine W.condZ G touchS.eq_1 ?_ ?_
      all_goals intro hc
      · repeat' first
          | refine W.seq ?_ | (refine W.regS G ?_; dsimp only) | refine SW.nil ?_ | refine thenQ_normal ?_ | refine W.skip ?_ | refine W.exit ?_ | refine thenQ_exit ?_ | refine inBlockQ_exit ?_ | refine inBlockQ_normal ?_ | refine W.block ?_
          | (apply SW.toC; refine SWcall.go touchS.eq_1 ?_) | (apply SW.toOp; refine SWop.go touchS.eq_1 ?_) | (apply SW.toCG; first | refine SWcall.yes touchS.eq_1 ?_ | refine SWcall.no touchS.eq_1 ?_) | (apply SW.toG; first | refine SWop.yes touchS.eq_1 ?_ | refine SWop.no touchS.eq_1 ?_)
        refine W.condZ G touchS.eq_1 ?_ ?_
        all_goals intro hd
        · repeat' first
            | refine W.seq ?_ | (refine W.regS G ?_; dsimp only) | refine SW.nil ?_ | refine thenQ_normal ?_ | refine W.skip ?_ | refine W.exit ?_ | refine thenQ_exit ?_ | refine inBlockQ_exit ?_ | refine inBlockQ_normal ?_ | refine W.block ?_
            | (apply SW.toC; refine SWcall.go touchS.eq_1 ?_) | (apply SW.toOp; refine SWop.go touchS.eq_1 ?_) | (apply SW.toCG; first | refine SWcall.yes touchS.eq_1 ?_ | refine SWcall.no touchS.eq_1 ?_) | (apply SW.toG; first | refine SWop.yes touchS.eq_1 ?_ | refine SWop.no touchS.eq_1 ?_)
          refine W.ret ?_
          repeat' first
            | refine thenQ_ret ?_
            | refine inBlockQ_ret ?_
          refine fin1Z touchS.eq_1 ?_
          exact leV_refl
        · exact absurd hd (by decide)
      · exact absurd hc (by decide)
noncomputable def callsS : FSpec := { run := fun ins => match ins with
  | [.agg 2 (.u 64 l), .i r, .u 8 how] => chk (l.length = 2) (some (.b true, []))
  | _ => none }
theorem calls_sound : SoundFn Try.prog glB 6 callsS.run := by
  have G := good_of (P := Try.prog) glB_ro (l := [(14, settleS), (15, forwardS), (18, settleS), (19, forwardS), (20, callS), (21, callS), (11, glivesS)]) (by simp only [List.forall_mem_cons]; exact ⟨settle_sound, forward_sound, rSettle_sound, rForward_sound, call_sound, rCall_sound, lives_sound, by simp⟩)
  refine soundFn_of_W G Try.func6 (by decide) rfl (by decide) ?_
  intro ins ret outs h
  unfold callsS at h
  dsimp only at h
  split at h
  rotate_left
  · cases h
  rename_i l r how
  obtain ⟨ll, h'⟩ := chk_some h
  clear h
  cases h'
  refine ⟨by show 3 ≤ 98; decide, fun w0 ext av => ?_⟩
  rw [Try.ntmps6, st0_eq]
  generalize hx0 : l.getD 0 0 = x
  generalize hx1 : l.getD 1 0 = y
  have n2 : ¬ (2#8 : BitVec 8) = 0 := by decide
  have n4 : ¬ (4#8 : BitVec 8) = 0 := by decide
  repeat' first
    | refine W.seq ?_ | (refine W.regS G ?_; dsimp only) | refine SW.nil ?_ | refine thenQ_normal ?_ | refine W.skip ?_ | refine W.exit ?_ | refine thenQ_exit ?_ | refine inBlockQ_exit ?_ | refine inBlockQ_normal ?_
    | (apply SW.toC; refine SWcall.go (And.intro ll (And.intro hx0 (And.intro hx1 (And.intro n2 n4)))) ?_) | (apply SW.toOp; refine SWop.go (And.intro ll (And.intro hx0 (And.intro hx1 (And.intro n2 n4)))) ?_) | (apply SW.toCG; first | refine SWcall.yes (And.intro ll (And.intro hx0 (And.intro hx1 (And.intro n2 n4)))) ?_ | refine SWcall.no (And.intro ll (And.intro hx0 (And.intro hx1 (And.intro n2 n4)))) ?_) | (apply SW.toG; first | refine SWop.yes (And.intro ll (And.intro hx0 (And.intro hx1 (And.intro n2 n4)))) ?_ | refine SWop.no (And.intro ll (And.intro hx0 (And.intro hx1 (And.intro n2 n4)))) ?_)
  refine W.drawS G [[], [0], [], [2], [1, 0], [3, 2, 4, 1, 0]] hmix ?_
  dsimp only
  repeat' first
    | (apply DW.nil; (focus (decide +kernel)))
    | (apply DW.toC; refine DWcall.go (And.intro ll (And.intro hx0 (And.intro hx1 (And.intro n2 n4)))) ?_) | (apply DW.toOp; refine DWop.go (And.intro ll (And.intro hx0 (And.intro hx1 (And.intro n2 n4)))) ?_) | (apply DW.toCG; first | refine DWcall.yes (And.intro ll (And.intro hx0 (And.intro hx1 (And.intro n2 n4)))) ?_ | refine DWcall.no (And.intro ll (And.intro hx0 (And.intro hx1 (And.intro n2 n4)))) ?_) | (apply DW.toG; first | refine DWop.yes (And.intro ll (And.intro hx0 (And.intro hx1 (And.intro n2 n4)))) ?_ | refine DWop.no (And.intro ll (And.intro hx0 (And.intro hx1 (And.intro n2 n4)))) ?_)
  repeat' first
    | refine W.seq ?_ | (refine W.regS G ?_; dsimp only) | refine SW.nil ?_ | refine thenQ_normal ?_ | refine W.skip ?_ | refine W.exit ?_ | refine thenQ_exit ?_ | refine inBlockQ_exit ?_ | refine inBlockQ_normal ?_
    | (apply SW.toC; refine SWcall.go (And.intro ll (And.intro hx0 (And.intro hx1 (And.intro n2 n4)))) ?_) | (apply SW.toOp; refine SWop.go (And.intro ll (And.intro hx0 (And.intro hx1 (And.intro n2 n4)))) ?_) | (apply SW.toCG; first | refine SWcall.yes (And.intro ll (And.intro hx0 (And.intro hx1 (And.intro n2 n4)))) ?_ | refine SWcall.no (And.intro ll (And.intro hx0 (And.intro hx1 (And.intro n2 n4)))) ?_) | (apply SW.toG; first | refine SWop.yes (And.intro ll (And.intro hx0 (And.intro hx1 (And.intro n2 n4)))) ?_ | refine SWop.no (And.intro ll (And.intro hx0 (And.intro hx1 (And.intro n2 n4)))) ?_)
  have hx := x.isLt
  have hy := y.isLt
  have hf := fw_val x y
  have hB : bkN x.toNat y.toNat r = min (rN r) (usN x.toNat y.toNat / 5) := rfl
  have hU : usN x.toNat y.toNat = x.toNat - min y.toNat x.toNat := rfl
  obtain ⟨f, hfe⟩ : ∃ f, fwU x y = f := ⟨_, rfl⟩
  obtain ⟨u, hue⟩ : ∃ u, BitVec.ofNat 64 (usN x.toNat y.toNat - bkN x.toNat y.toNat r) = u := ⟨_, rfl⟩
  obtain ⟨b, hbe⟩ : ∃ b, BitVec.ofNat 64 (bkN x.toNat y.toNat r) = b := ⟨_, rfl⟩
  rw [hfe] at hf
  have vu : u.toNat = usN x.toNat y.toNat - bkN x.toNat y.toNat r := by rw [← hue, BitVec.toNat_ofNat]; omega
  have vb : b.toNat = bkN x.toNat y.toNat r := by rw [← hbe, BitVec.toNat_ofNat]; omega
  have vs : ((u + b) / 5#64).toNat = usN x.toNat y.toNat / 5 := by
    rw [BitVec.toNat_udiv, BitVec.toNat_add, vu, vb]
    show _ % 2 ^ 64 / 5 = _
    omega
  have q3 := eq_true (show f ≤ y from show f.toNat ≤ y.toNat by omega)
  have q4 := eq_true (show b ≤ (u + b) / 5#64 from show b.toNat ≤ ((u + b) / 5#64).toNat by omega)
  have n5 : ¬ (5#64 : BitVec 64) = 0 := by decide
  repeat' first
    | refine W.seq ?_ | (refine W.regS G ?_; dsimp only) | refine SW.nil ?_ | refine thenQ_normal ?_ | refine W.skip ?_ | refine W.exit ?_ | refine thenQ_exit ?_ | refine inBlockQ_exit ?_ | refine inBlockQ_normal ?_ | refine W.block ?_
    | (apply SW.toC; refine SWcall.go (And.intro settleS.eq_1 (And.intro forwardS.eq_1 (And.intro callS.eq_1 (And.intro hfe (And.intro hue hbe))))) ?_) | (apply SW.toOp; refine SWop.go (And.intro settleS.eq_1 (And.intro forwardS.eq_1 (And.intro callS.eq_1 (And.intro hfe (And.intro hue hbe))))) ?_) | (apply SW.toCG; first | refine SWcall.yes (And.intro settleS.eq_1 (And.intro forwardS.eq_1 (And.intro callS.eq_1 (And.intro hfe (And.intro hue hbe))))) ?_ | refine SWcall.no (And.intro settleS.eq_1 (And.intro forwardS.eq_1 (And.intro callS.eq_1 (And.intro hfe (And.intro hue hbe))))) ?_) | (apply SW.toG; first | refine SWop.yes (And.intro settleS.eq_1 (And.intro forwardS.eq_1 (And.intro callS.eq_1 (And.intro hfe (And.intro hue hbe))))) ?_ | refine SWop.no (And.intro settleS.eq_1 (And.intro forwardS.eq_1 (And.intro callS.eq_1 (And.intro hfe (And.intro hue hbe))))) ?_)
  refine W.condZ G (And.intro settleS.eq_1 (And.intro forwardS.eq_1 (And.intro callS.eq_1 (And.intro hfe (And.intro hue hbe))))) ?_ ?_
  all_goals intro hc
  · exact absurd hc (by decide)
  by_cases h1 : x < 64#64
  · have q1 := eq_true h1
    repeat' first
      | refine W.seq ?_ | (refine W.regS G ?_; dsimp only) | refine SW.nil ?_ | refine thenQ_normal ?_ | refine W.skip ?_ | refine W.exit ?_ | refine thenQ_exit ?_ | refine inBlockQ_exit ?_ | refine inBlockQ_normal ?_ | refine W.block ?_
      | (apply SW.toC; refine SWcall.go (And.intro hfe (And.intro hue (And.intro hbe (And.intro q1 (And.intro q3 (And.intro q4 (And.intro n5 glivesS.eq_1))))))) ?_) | (apply SW.toOp; refine SWop.go (And.intro hfe (And.intro hue (And.intro hbe (And.intro q1 (And.intro q3 (And.intro q4 (And.intro n5 glivesS.eq_1))))))) ?_) | (apply SW.toCG; first | refine SWcall.yes (And.intro hfe (And.intro hue (And.intro hbe (And.intro q1 (And.intro q3 (And.intro q4 (And.intro n5 glivesS.eq_1))))))) ?_ | refine SWcall.no (And.intro hfe (And.intro hue (And.intro hbe (And.intro q1 (And.intro q3 (And.intro q4 (And.intro n5 glivesS.eq_1))))))) ?_) | (apply SW.toG; first | refine SWop.yes (And.intro hfe (And.intro hue (And.intro hbe (And.intro q1 (And.intro q3 (And.intro q4 (And.intro n5 glivesS.eq_1))))))) ?_ | refine SWop.no (And.intro hfe (And.intro hue (And.intro hbe (And.intro q1 (And.intro q3 (And.intro q4 (And.intro n5 glivesS.eq_1))))))) ?_)
    refine W.ret ?_
    repeat' first
      | refine thenQ_ret ?_
      | refine inBlockQ_ret ?_
    refine fin1Z (And.intro hfe (And.intro hue (And.intro hbe (And.intro q1 (And.intro q3 (And.intro q4 (And.intro n5 glivesS.eq_1))))))) ?_
    exact leV_refl
  · have q1 := eq_false h1
    have h2 : ¬ x.toNat < 64 := h1
    have q2 := eq_true (show f < x from show f.toNat < x.toNat by omega)
    repeat' first
      | refine W.seq ?_ | (refine W.regS G ?_; dsimp only) | refine SW.nil ?_ | refine thenQ_normal ?_ | refine W.skip ?_ | refine W.exit ?_ | refine thenQ_exit ?_ | refine inBlockQ_exit ?_ | refine inBlockQ_normal ?_ | refine W.block ?_
      | (apply SW.toC; refine SWcall.go (And.intro hfe (And.intro hue (And.intro hbe (And.intro q1 (And.intro q2 (And.intro q3 (And.intro q4 (And.intro n5 glivesS.eq_1)))))))) ?_) | (apply SW.toOp; refine SWop.go (And.intro hfe (And.intro hue (And.intro hbe (And.intro q1 (And.intro q2 (And.intro q3 (And.intro q4 (And.intro n5 glivesS.eq_1)))))))) ?_) | (apply SW.toCG; first | refine SWcall.yes (And.intro hfe (And.intro hue (And.intro hbe (And.intro q1 (And.intro q2 (And.intro q3 (And.intro q4 (And.intro n5 glivesS.eq_1)))))))) ?_ | refine SWcall.no (And.intro hfe (And.intro hue (And.intro hbe (And.intro q1 (And.intro q2 (And.intro q3 (And.intro q4 (And.intro n5 glivesS.eq_1)))))))) ?_) | (apply SW.toG; first | refine SWop.yes (And.intro hfe (And.intro hue (And.intro hbe (And.intro q1 (And.intro q2 (And.intro q3 (And.intro q4 (And.intro n5 glivesS.eq_1)))))))) ?_ | refine SWop.no (And.intro hfe (And.intro hue (And.intro hbe (And.intro q1 (And.intro q2 (And.intro q3 (And.intro q4 (And.intro n5 glivesS.eq_1)))))))) ?_)
    refine W.ret ?_
    repeat' first
      | refine thenQ_ret ?_
      | refine inBlockQ_ret ?_
    refine fin1Z (And.intro hfe (And.intro hue (And.intro hbe (And.intro q1 (And.intro q2 (And.intro q3 (And.intro q4 (And.intro n5 glivesS.eq_1)))))))) ?_
    exact leV_refl
end Go.Vm.C19

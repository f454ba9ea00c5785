/- What some functions of the program compute, walked through once. -/
import Derived.Test.YtmpoofgkfaonfaaCGD
namespace Go.Vm.C19
open Go Go.Proofs
set_option linter.unusedVariables false
set_option linter.unusedSimpArgs false
set_option maxRecDepth 100000
set_option maxHeartbeats 8000000

theorem fw_val (l a : BitVec 64) : (fwU l a).toNat = min a.toNat (l.toNat - l.toNat / 64) := by
  have h1 := l.isLt
  have e : (l - l / 64#64).toNat = l.toNat - l.toNat / 64 := by
    rw [BitVec.toNat_sub, BitVec.toNat_udiv]
    show (2 ^ 64 - l.toNat / 64 + l.toNat) % 2 ^ 64 = _
    omega
  unfold fwU
  by_cases h : (l - l / 64#64).toNat < a.toNat
  · rw [if_pos h]; omega
  · rw [if_neg h]; omega
theorem us_mono {L a b : Nat} (r : Int) (h : a ≤ b) : usN L b - bkN L b r ≤ usN L a - bkN L a r := by
  unfold bkN usN
  generalize rN r = R
  omega
noncomputable def moreS : FSpec := { run := fun ins => match ins with
  | [.agg 3 (.u 64 l), .i r] => chk (l.length = 3) (some (.b true, []))
  | _ => none }
theorem more_sound : SoundFn Try.prog glB 4 moreS.run := by
  have G := good_of (P := Try.prog) glB_ro (l := [(14, settleS), (15, forwardS), (11, glivesS)]) (by simp only [List.forall_mem_cons]; exact ⟨settle_sound, forward_sound, lives_sound, by simp⟩)
  refine soundFn_of_W G Try.func4 (by decide) rfl (by decide) ?_
  intro ins ret outs h
  unfold moreS at h
  dsimp only at h
  split at h
  rotate_left
  · cases h
  rename_i l r
  obtain ⟨ll, h'⟩ := chk_some h
  clear h
  cases h'
  refine ⟨by show 2 ≤ 52; decide, fun w0 ext av => ?_⟩
  rw [Try.ntmps4, st0_eq]
  generalize hx0 : l.getD 0 0 = x0
  generalize hx1 : l.getD 1 0 = x1
  generalize hx2 : l.getD 2 0 = q
  repeat' first
    | refine W.seq ?_ | (refine W.regS G ?_; dsimp only) | refine SW.nil ?_ | refine thenQ_normal ?_ | refine W.skip ?_ | refine W.exit ?_ | refine thenQ_exit ?_ | refine inBlockQ_exit ?_ | refine inBlockQ_normal ?_
    | (apply SW.toC; refine SWcall.go (And.intro ll (And.intro hx0 (And.intro hx1 hx2))) ?_) | (apply SW.toOp; refine SWop.go (And.intro ll (And.intro hx0 (And.intro hx1 hx2))) ?_) | (apply SW.toCG; first | refine SWcall.yes (And.intro ll (And.intro hx0 (And.intro hx1 hx2))) ?_ | refine SWcall.no (And.intro ll (And.intro hx0 (And.intro hx1 hx2))) ?_) | (apply SW.toG; first | refine SWop.yes (And.intro ll (And.intro hx0 (And.intro hx1 hx2))) ?_ | refine SWop.no (And.intro ll (And.intro hx0 (And.intro hx1 hx2))) ?_)
  refine W.drawS G [[], [0], [], [2], [], [4], [1, 0], [3, 2, 6, 1, 0], [5, 4, 7, 3, 2, 6, 1, 0]] hmix ?_
  dsimp only
  repeat' first
    | (apply DW.nil; (focus (decide +kernel)))
    | (apply DW.toC; refine DWcall.go (And.intro ll (And.intro hx0 (And.intro hx1 hx2))) ?_) | (apply DW.toOp; refine DWop.go (And.intro ll (And.intro hx0 (And.intro hx1 hx2))) ?_) | (apply DW.toCG; first | refine DWcall.yes (And.intro ll (And.intro hx0 (And.intro hx1 hx2))) ?_ | refine DWcall.no (And.intro ll (And.intro hx0 (And.intro hx1 hx2))) ?_) | (apply DW.toG; first | refine DWop.yes (And.intro ll (And.intro hx0 (And.intro hx1 hx2))) ?_ | refine DWop.no (And.intro ll (And.intro hx0 (And.intro hx1 hx2))) ?_)
  repeat' first
    | refine W.seq ?_ | (refine W.regS G ?_; dsimp only) | refine SW.nil ?_ | refine thenQ_normal ?_ | refine W.skip ?_ | refine W.exit ?_ | refine thenQ_exit ?_ | refine inBlockQ_exit ?_ | refine inBlockQ_normal ?_
    | (apply SW.toC; refine SWcall.go (And.intro ll (And.intro hx0 (And.intro hx1 hx2))) ?_) | (apply SW.toOp; refine SWop.go (And.intro ll (And.intro hx0 (And.intro hx1 hx2))) ?_) | (apply SW.toCG; first | refine SWcall.yes (And.intro ll (And.intro hx0 (And.intro hx1 hx2))) ?_ | refine SWcall.no (And.intro ll (And.intro hx0 (And.intro hx1 hx2))) ?_) | (apply SW.toG; first | refine SWop.yes (And.intro ll (And.intro hx0 (And.intro hx1 hx2))) ?_ | refine SWop.no (And.intro ll (And.intro hx0 (And.intro hx1 hx2))) ?_)
  refine W.midI (ι := {p : BitVec 64 × BitVec 64 // p.1.toNat ≤ p.2.toNat}) (fun p => sL [(1, .i r), (5, .u 64 p.1.1), (6, .u 64 p.1.2), (7, .u 64 q)] [] 52) ?_ ?_
  · refine W.condZ G (And.intro ll (And.intro hx0 (And.intro hx1 hx2))) ?_ ?_
    all_goals intro hc
    · have hc' : x1.toNat < x0.toNat := yes_of hc
      repeat' first
        | refine W.seq ?_ | (refine W.regS G ?_; dsimp only) | refine SW.nil ?_ | refine thenQ_normal ?_ | refine W.skip ?_ | refine W.exit ?_ | refine thenQ_exit ?_ | refine inBlockQ_exit ?_ | refine inBlockQ_normal ?_ | refine W.block ?_
        | (apply SW.toC; refine SWcall.go (And.intro ll (And.intro hx0 (And.intro hx1 hx2))) ?_) | (apply SW.toOp; refine SWop.go (And.intro ll (And.intro hx0 (And.intro hx1 hx2))) ?_) | (apply SW.toCG; first | refine SWcall.yes (And.intro ll (And.intro hx0 (And.intro hx1 hx2))) ?_ | refine SWcall.no (And.intro ll (And.intro hx0 (And.intro hx1 hx2))) ?_) | (apply SW.toG; first | refine SWop.yes (And.intro ll (And.intro hx0 (And.intro hx1 hx2))) ?_ | refine SWop.no (And.intro ll (And.intro hx0 (And.intro hx1 hx2))) ?_)
      refine ⟨⟨(x1, x0), Nat.le_of_lt hc'⟩, Imp.le ?_⟩
      exact sL_leZ (And.intro ll (And.intro hx0 (And.intro hx1 hx2)))
    · have hc' : ¬ x1.toNat < x0.toNat := no_of hc
      repeat' first
        | refine W.seq ?_ | (refine W.regS G ?_; dsimp only) | refine SW.nil ?_ | refine thenQ_normal ?_ | refine W.skip ?_ | refine W.exit ?_ | refine thenQ_exit ?_ | refine inBlockQ_exit ?_ | refine inBlockQ_normal ?_ | refine W.block ?_
        | (apply SW.toC; refine SWcall.go (And.intro ll (And.intro hx0 (And.intro hx1 hx2))) ?_) | (apply SW.toOp; refine SWop.go (And.intro ll (And.intro hx0 (And.intro hx1 hx2))) ?_) | (apply SW.toCG; first | refine SWcall.yes (And.intro ll (And.intro hx0 (And.intro hx1 hx2))) ?_ | refine SWcall.no (And.intro ll (And.intro hx0 (And.intro hx1 hx2))) ?_) | (apply SW.toG; first | refine SWop.yes (And.intro ll (And.intro hx0 (And.intro hx1 hx2))) ?_ | refine SWop.no (And.intro ll (And.intro hx0 (And.intro hx1 hx2))) ?_)
      refine ⟨⟨(x0, x1), Nat.le_of_not_lt hc'⟩, Imp.le ?_⟩
      exact sL_leZ (And.intro ll (And.intro hx0 (And.intro hx1 hx2)))
  rintro ⟨⟨a, b⟩, hab⟩
  dsimp only at hab ⊢
  have hf : (fwU a q).toNat ≤ (fwU b q).toNat := by
    have hbl := b.isLt
    rw [fw_val, fw_val]
    omega
  have d1 := eq_true (show fwU a q ≤ fwU b q from hf)
  have hm := us_mono (L := q.toNat) r hab
  have hql := q.isLt
  have hs : ∀ c, (BitVec.ofNat 64 (usN q.toNat c - bkN q.toNat c r)).toNat = usN q.toNat c - bkN q.toNat c r := by
    intro c
    rw [BitVec.toNat_ofNat]
    unfold usN
    omega
  have d2 := dle (x := BitVec.ofNat 64 (usN q.toNat a.toNat - bkN q.toNat a.toNat r)) (y := BitVec.ofNat 64 (usN q.toNat b.toNat - bkN q.toNat b.toNat r)) (by rw [hs, hs]; exact hm)
  simp only [castB_rfl] at d2
  repeat' first
    | refine W.seq ?_ | (refine W.regS G ?_; dsimp only) | refine SW.nil ?_ | refine thenQ_normal ?_ | refine W.skip ?_ | refine W.exit ?_ | refine thenQ_exit ?_ | refine inBlockQ_exit ?_ | refine inBlockQ_normal ?_ | refine W.block ?_
    | (apply SW.toC; refine SWcall.go (And.intro settleS.eq_1 (And.intro forwardS.eq_1 (And.intro glivesS.eq_1 (And.intro d1 d2)))) ?_) | (apply SW.toOp; refine SWop.go (And.intro settleS.eq_1 (And.intro forwardS.eq_1 (And.intro glivesS.eq_1 (And.intro d1 d2)))) ?_) | (apply SW.toCG; first | refine SWcall.yes (And.intro settleS.eq_1 (And.intro forwardS.eq_1 (And.intro glivesS.eq_1 (And.intro d1 d2)))) ?_ | refine SWcall.no (And.intro settleS.eq_1 (And.intro forwardS.eq_1 (And.intro glivesS.eq_1 (And.intro d1 d2)))) ?_) | (apply SW.toG; first | refine SWop.yes (And.intro settleS.eq_1 (And.intro forwardS.eq_1 (And.intro glivesS.eq_1 (And.intro d1 d2)))) ?_ | refine SWop.no (And.intro settleS.eq_1 (And.intro forwardS.eq_1 (And.intro glivesS.eq_1 (And.intro d1 d2)))) ?_)
  refine W.ret ?_
  repeat' first
    | refine thenQ_ret ?_
    | refine inBlockQ_ret ?_
  refine fin1Z (And.intro settleS.eq_1 (And.intro forwardS.eq_1 (And.intro glivesS.eq_1 (And.intro d1 d2)))) ?_
  exact leV_refl
end Go.Vm.C19

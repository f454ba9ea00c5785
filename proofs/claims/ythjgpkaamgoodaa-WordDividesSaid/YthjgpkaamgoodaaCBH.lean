/- What some functions of the program compute, walked through once. -/
import Derived.Test.YthjgpkaamgoodaaCBG
namespace Go.Vm.C01
open Go Go.Proofs
set_option linter.unusedVariables false
set_option linter.unusedSimpArgs false
set_option maxRecDepth 100000
set_option maxHeartbeats 8000000

theorem pick_shl (a : List (BitVec 64)) (m : Nat) : wB (pickB a (-(m : Int)) false) = wB (shlB a m) := by
  refine wB_congr fun i hi => ?_
  unfold pickB shlB
  by_cases h : m ≤ i
  · rw [if_pos (by omega), show ((i : Int) + -(m : Int)).toNat = i - m from by omega]
    simp [h]
  · rw [if_neg (by omega)]
    simp [h]
theorem pick_shr (a : List (BitVec 64)) (m : Nat) (s : Bool) : wB (pickB a (m : Int) s) = wB (shrB a m s) := by
  refine wB_congr fun i hi => ?_
  unfold pickB shrB
  by_cases h : i + m < 256
  · rw [if_pos (by omega), if_pos h, show ((i : Int) + (m : Int)).toNat = i + m from by omega]
  · rw [if_neg (by omega), if_neg h]
noncomputable def rShlS : FSpec := { run := fun ins => match ins with
  | [.agg 4 (.u 64 k), .agg 4 (.u 64 a)] => chk (a.length = 4) (some (.agg 4 (.u 64 (wB (shlB a (min (wv k) 256)))), []))
  | _ => none }
theorem rShl_sound : SoundFn Try.prog glB 23 rShlS.run := by
  have G := good_of (P := Try.prog) glB_ro (l := [(65, numS), (67, pickS)]) (by simp only [List.forall_mem_cons]; exact ⟨num_sound, pick_sound, by simp⟩)
  refine soundFn_of_W G Try.func23 (by decide) rfl (by decide) ?_
  intro ins ret outs h
  unfold rShlS at h
  dsimp only at h
  split at h
  rotate_left
  · cases h
  rename_i k a
  obtain ⟨la, h'⟩ := chk_some h
  clear h
  cases h'
  refine ⟨by show 2 ≤ 10; decide, fun w0 ext av => ?_⟩
  rw [Try.ntmps23, st0_eq]
  have hm : min (wv k) 256 ≤ 256 := by omega
  generalize hq : min (wv k) 256 = m at hm
  have e : wB (pickB a (-(m : Int)) ((0#64).getLsbD 0)) = wB (shlB a m) := pick_shl a m
  have b0 : (0#64).toNat ≤ 1 := by decide
  rw [← e]
  repeat' first
    | refine W.seq ?_ | (refine W.regS G ?_; dsimp only) | refine SW.nil ?_ | refine thenQ_normal ?_ | refine W.skip ?_ | refine W.exit ?_ | refine thenQ_exit ?_ | refine inBlockQ_exit ?_ | refine inBlockQ_normal ?_
    | (apply SW.toC; refine SWcall.go (And.intro numS.eq_1 (And.intro pickS.eq_1 hq)) ?_) | (apply SW.toOp; refine SWop.go (And.intro numS.eq_1 (And.intro pickS.eq_1 hq)) ?_) | (apply SW.toCG; first | refine SWcall.yes (And.intro numS.eq_1 (And.intro pickS.eq_1 hq)) ?_ | refine SWcall.no (And.intro numS.eq_1 (And.intro pickS.eq_1 hq)) ?_) | (apply SW.toG; first | refine SWop.yes (And.intro numS.eq_1 (And.intro pickS.eq_1 hq)) ?_ | refine SWop.no (And.intro numS.eq_1 (And.intro pickS.eq_1 hq)) ?_)
  refine W.drawS G [[], [], [1], [2, 1], [0, 3, 2, 1], [4, 0, 3, 2, 1]] hmix ?_
  dsimp only
  repeat' first
    | (apply DW.nil; (focus (decide +kernel)))
    | (apply DW.toC; refine DWcall.go (And.intro numS.eq_1 (And.intro pickS.eq_1 hq)) ?_) | (apply DW.toOp; refine DWop.go (And.intro numS.eq_1 (And.intro pickS.eq_1 hq)) ?_) | (apply DW.toCG; first | refine DWcall.yes (And.intro numS.eq_1 (And.intro pickS.eq_1 hq)) ?_ | refine DWcall.no (And.intro numS.eq_1 (And.intro pickS.eq_1 hq)) ?_) | (apply DW.toG; first | refine DWop.yes (And.intro numS.eq_1 (And.intro pickS.eq_1 hq)) ?_ | refine DWop.no (And.intro numS.eq_1 (And.intro pickS.eq_1 hq)) ?_)
  repeat' first
    | refine W.seq ?_ | (refine W.regS G ?_; dsimp only) | refine SW.nil ?_ | refine thenQ_normal ?_ | refine W.skip ?_ | refine W.exit ?_ | refine thenQ_exit ?_ | refine inBlockQ_exit ?_ | refine inBlockQ_normal ?_ | refine W.block ?_
    | (apply SW.toC; refine SWcall.go (And.intro numS.eq_1 (And.intro pickS.eq_1 hq)) ?_) | (apply SW.toOp; refine SWop.go (And.intro numS.eq_1 (And.intro pickS.eq_1 hq)) ?_) | (apply SW.toCG; first | refine SWcall.yes (And.intro numS.eq_1 (And.intro pickS.eq_1 hq)) ?_ | refine SWcall.no (And.intro numS.eq_1 (And.intro pickS.eq_1 hq)) ?_) | (apply SW.toG; first | refine SWop.yes (And.intro numS.eq_1 (And.intro pickS.eq_1 hq)) ?_ | refine SWop.no (And.intro numS.eq_1 (And.intro pickS.eq_1 hq)) ?_)
  refine W.ret ?_
  repeat' first
    | refine thenQ_ret ?_
    | refine inBlockQ_ret ?_
  refine fin1Z (And.intro numS.eq_1 (And.intro pickS.eq_1 hq)) ?_
  exact leV_refl
noncomputable def rShrS : FSpec := { run := fun ins => match ins with
  | [.agg 4 (.u 64 k), .agg 4 (.u 64 a)] => chk (a.length = 4) (some (.agg 4 (.u 64 (wB (shrB a (min (wv k) 256) false))), []))
  | _ => none }
theorem rShr_sound : SoundFn Try.prog glB 25 rShrS.run := by
  have G := good_of (P := Try.prog) glB_ro (l := [(65, numS), (67, pickS)]) (by simp only [List.forall_mem_cons]; exact ⟨num_sound, pick_sound, by simp⟩)
  refine soundFn_of_W G Try.func25 (by decide) rfl (by decide) ?_
  intro ins ret outs h
  unfold rShrS at h
  dsimp only at h
  split at h
  rotate_left
  · cases h
  rename_i k a
  obtain ⟨la, h'⟩ := chk_some h
  clear h
  cases h'
  refine ⟨by show 2 ≤ 9; decide, fun w0 ext av => ?_⟩
  rw [Try.ntmps25, st0_eq]
  have hm : min (wv k) 256 ≤ 256 := by omega
  generalize hq : min (wv k) 256 = m at hm
  have e : wB (pickB a (m : Int) ((0#64).getLsbD 0)) = wB (shrB a m false) := pick_shr a m false
  have b0 : (0#64).toNat ≤ 1 := by decide
  rw [← e]
  repeat' first
    | refine W.seq ?_ | (refine W.regS G ?_; dsimp only) | refine SW.nil ?_ | refine thenQ_normal ?_ | refine W.skip ?_ | refine W.exit ?_ | refine thenQ_exit ?_ | refine inBlockQ_exit ?_ | refine inBlockQ_normal ?_
    | (apply SW.toC; refine SWcall.go (And.intro numS.eq_1 (And.intro pickS.eq_1 hq)) ?_) | (apply SW.toOp; refine SWop.go (And.intro numS.eq_1 (And.intro pickS.eq_1 hq)) ?_) | (apply SW.toCG; first | refine SWcall.yes (And.intro numS.eq_1 (And.intro pickS.eq_1 hq)) ?_ | refine SWcall.no (And.intro numS.eq_1 (And.intro pickS.eq_1 hq)) ?_) | (apply SW.toG; first | refine SWop.yes (And.intro numS.eq_1 (And.intro pickS.eq_1 hq)) ?_ | refine SWop.no (And.intro numS.eq_1 (And.intro pickS.eq_1 hq)) ?_)
  refine W.drawS G [[], [], [1], [0, 2, 1], [3, 0, 2, 1]] hmix ?_
  dsimp only
  repeat' first
    | (apply DW.nil; (focus (decide +kernel)))
    | (apply DW.toC; refine DWcall.go (And.intro numS.eq_1 (And.intro pickS.eq_1 hq)) ?_) | (apply DW.toOp; refine DWop.go (And.intro numS.eq_1 (And.intro pickS.eq_1 hq)) ?_) | (apply DW.toCG; first | refine DWcall.yes (And.intro numS.eq_1 (And.intro pickS.eq_1 hq)) ?_ | refine DWcall.no (And.intro numS.eq_1 (And.intro pickS.eq_1 hq)) ?_) | (apply DW.toG; first | refine DWop.yes (And.intro numS.eq_1 (And.intro pickS.eq_1 hq)) ?_ | refine DWop.no (And.intro numS.eq_1 (And.intro pickS.eq_1 hq)) ?_)
  repeat' first
    | refine W.seq ?_ | (refine W.regS G ?_; dsimp only) | refine SW.nil ?_ | refine thenQ_normal ?_ | refine W.skip ?_ | refine W.exit ?_ | refine thenQ_exit ?_ | refine inBlockQ_exit ?_ | refine inBlockQ_normal ?_ | refine W.block ?_
    | (apply SW.toC; refine SWcall.go (And.intro numS.eq_1 (And.intro pickS.eq_1 hq)) ?_) | (apply SW.toOp; refine SWop.go (And.intro numS.eq_1 (And.intro pickS.eq_1 hq)) ?_) | (apply SW.toCG; first | refine SWcall.yes (And.intro numS.eq_1 (And.intro pickS.eq_1 hq)) ?_ | refine SWcall.no (And.intro numS.eq_1 (And.intro pickS.eq_1 hq)) ?_) | (apply SW.toG; first | refine SWop.yes (And.intro numS.eq_1 (And.intro pickS.eq_1 hq)) ?_ | refine SWop.no (And.intro numS.eq_1 (And.intro pickS.eq_1 hq)) ?_)
  refine W.ret ?_
  repeat' first
    | refine thenQ_ret ?_
    | refine inBlockQ_ret ?_
  refine fin1Z (And.intro numS.eq_1 (And.intro pickS.eq_1 hq)) ?_
  exact leV_refl
noncomputable def rSarS : FSpec := { run := fun ins => match ins with
  | [.agg 4 (.u 64 k), .agg 4 (.u 64 a)] => chk (a.length = 4) (some (.agg 4 (.u 64 (wB (shrB a (min (wv k) 256) (bitAt a 255)))), []))
  | _ => none }
theorem rSar_sound : SoundFn Try.prog glB 27 rSarS.run := by
  have G := good_of (P := Try.prog) glB_ro (l := [(65, numS), (67, pickS)]) (by simp only [List.forall_mem_cons]; exact ⟨num_sound, pick_sound, by simp⟩)
  refine soundFn_of_W G Try.func27 (by decide) rfl (by decide) ?_
  intro ins ret outs h
  unfold rSarS at h
  dsimp only at h
  split at h
  rotate_left
  · cases h
  rename_i k a
  obtain ⟨la, h'⟩ := chk_some h
  clear h
  cases h'
  refine ⟨by show 2 ≤ 12; decide, fun w0 ext av => ?_⟩
  rw [Try.ntmps27, st0_eq]
  have hm : min (wv k) 256 ≤ 256 := by omega
  generalize hq : min (wv k) 256 = m at hm
  have et : (a.getD 3 0 >>> 63).getLsbD 0 = bitAt a 255 := by
    rw [BitVec.getLsbD_ushiftRight]
    rfl
  have b0 : (a.getD 3 0 >>> 63).toNat ≤ 1 := by
    rw [BitVec.toNat_ushiftRight, Nat.shiftRight_eq_div_pow]
    have := (a.getD 3 0).isLt
    generalize (a.getD 3 0).toNat = y at *
    simp only [Nat.reducePow] at *
    omega
  have e : wB (pickB a (m : Int) ((a.getD 3 0 >>> 63).getLsbD 0)) = wB (shrB a m (bitAt a 255)) := by rw [et]; exact pick_shr a m _
  rw [← e]
  repeat' first
    | refine W.seq ?_ | (refine W.regS G ?_; dsimp only) | refine SW.nil ?_ | refine thenQ_normal ?_ | refine W.skip ?_ | refine W.exit ?_ | refine thenQ_exit ?_ | refine inBlockQ_exit ?_ | refine inBlockQ_normal ?_
    | (apply SW.toC; refine SWcall.go (And.intro numS.eq_1 (And.intro pickS.eq_1 hq)) ?_) | (apply SW.toOp; refine SWop.go (And.intro numS.eq_1 (And.intro pickS.eq_1 hq)) ?_) | (apply SW.toCG; first | refine SWcall.yes (And.intro numS.eq_1 (And.intro pickS.eq_1 hq)) ?_ | refine SWcall.no (And.intro numS.eq_1 (And.intro pickS.eq_1 hq)) ?_) | (apply SW.toG; first | refine SWop.yes (And.intro numS.eq_1 (And.intro pickS.eq_1 hq)) ?_ | refine SWop.no (And.intro numS.eq_1 (And.intro pickS.eq_1 hq)) ?_)
  refine W.drawS G [[], [], [1], [], [3], [4, 3], [0, 2, 1, 5, 4, 3], [6, 0, 2, 1, 5, 4, 3]] hmix ?_
  dsimp only
  repeat' first
    | (apply DW.nil; (focus (decide +kernel)))
    | (apply DW.toC; refine DWcall.go (And.intro numS.eq_1 (And.intro pickS.eq_1 hq)) ?_) | (apply DW.toOp; refine DWop.go (And.intro numS.eq_1 (And.intro pickS.eq_1 hq)) ?_) | (apply DW.toCG; first | refine DWcall.yes (And.intro numS.eq_1 (And.intro pickS.eq_1 hq)) ?_ | refine DWcall.no (And.intro numS.eq_1 (And.intro pickS.eq_1 hq)) ?_) | (apply DW.toG; first | refine DWop.yes (And.intro numS.eq_1 (And.intro pickS.eq_1 hq)) ?_ | refine DWop.no (And.intro numS.eq_1 (And.intro pickS.eq_1 hq)) ?_)
  repeat' first
    | refine W.seq ?_ | (refine W.regS G ?_; dsimp only) | refine SW.nil ?_ | refine thenQ_normal ?_ | refine W.skip ?_ | refine W.exit ?_ | refine thenQ_exit ?_ | refine inBlockQ_exit ?_ | refine inBlockQ_normal ?_ | refine W.block ?_
    | (apply SW.toC; refine SWcall.go (And.intro numS.eq_1 (And.intro pickS.eq_1 hq)) ?_) | (apply SW.toOp; refine SWop.go (And.intro numS.eq_1 (And.intro pickS.eq_1 hq)) ?_) | (apply SW.toCG; first | refine SWcall.yes (And.intro numS.eq_1 (And.intro pickS.eq_1 hq)) ?_ | refine SWcall.no (And.intro numS.eq_1 (And.intro pickS.eq_1 hq)) ?_) | (apply SW.toG; first | refine SWop.yes (And.intro numS.eq_1 (And.intro pickS.eq_1 hq)) ?_ | refine SWop.no (And.intro numS.eq_1 (And.intro pickS.eq_1 hq)) ?_)
  refine W.ret ?_
  repeat' first
    | refine thenQ_ret ?_
    | refine inBlockQ_ret ?_
  refine fin1Z (And.intro numS.eq_1 (And.intro pickS.eq_1 hq)) ?_
  exact leV_refl
theorem set_bit {l : List (BitVec 64)} {x : BitVec 64} {i b : Nat} (hl : l.length = 4) (hi : i < 256) (hx : x.toNat ≤ 1) : bitAt (l.set (i / 64) ((l.getD (i / 64) 0 &&& ~~~ (1#64 <<< (i % 64))) ||| x <<< (i % 64))) b = if b = i then x.getLsbD 0 else bitAt l b := by
  rw [bitAt_set (by omega)]
  by_cases h : b / 64 = i / 64
  · rw [if_pos h, BitVec.getLsbD_or, BitVec.getLsbD_and, BitVec.getLsbD_not, BitVec.getLsbD_shiftLeft, BitVec.getLsbD_shiftLeft, BitVec.getLsbD_one]
    have e1 : (l.getD (i / 64) 0).getLsbD (b % 64) = bitAt l b := by unfold bitAt; rw [h]
    rw [e1]
    have h3 : b % 64 < 64 := by omega
    by_cases h2 : b = i
    · subst h2
      rw [if_pos rfl]
      simp [h3]
    · rw [if_neg h2]
      have h4 : ¬ b % 64 = i % 64 := by omega
      by_cases h5 : b % 64 < i % 64
      · simp [h3, h5]
      · have h7 : ¬ b % 64 - i % 64 = 0 := by omega
        have h6 : x.getLsbD (b % 64 - i % 64) = false := by
          rw [bit_get]
          have : x.toNat / 2 ^ (b % 64 - i % 64) = 0 := by
            refine Nat.div_eq_of_lt ?_
            have : 2 ^ 1 ≤ 2 ^ (b % 64 - i % 64) := Nat.pow_le_pow_right (by decide) (by omega)
            omega
          rw [this]
          rfl
        simp [h3, h6, h7]
  · rw [if_neg h]
    have h2 : ¬ b = i := fun c => h (by rw [c])
    rw [if_neg h2]
noncomputable def rSxS : FSpec := { run := fun ins => match ins with
  | [.agg 4 (.u 64 k), .agg 4 (.u 64 a)] => chk (a.length = 4) (some (.agg 4 (.u 64 (sxF a (wv k))), []))
  | _ => none }
theorem rSx_sound : SoundFn Try.prog glB 20 rSxS.run := by
  have G := good_of (P := Try.prog) glB_ro (l := [(65, numS), (66, bitS)]) (by simp only [List.forall_mem_cons]; exact ⟨num_sound, bit_sound, by simp⟩)
  refine soundFn_of_W G Try.func20 (by decide) rfl (by decide) ?_
  intro ins ret outs h
  unfold rSxS at h
  dsimp only at h
  split at h
  rotate_left
  · cases h
  rename_i k a
  obtain ⟨la, h'⟩ := chk_some h
  clear h
  cases h'
  refine ⟨by show 2 ≤ 45; decide, fun w0 ext av => ?_⟩
  rw [Try.ntmps20, st0_eq]
  have hF : sxF a (wv k) = if 31 ≤ wv k then a else wB (sxB a (wv k)) := rfl
  have hm : min (wv k) 256 ≤ 256 := by omega
  have hm2 : ¬ 31 ≤ min (wv k) 256 → wv k = min (wv k) 256 ∧ ¬ 31 ≤ wv k := by omega
  have hm3 : 31 ≤ min (wv k) 256 → 31 ≤ wv k := by omega
  generalize hq : min (wv k) 256 = m at hm hm2 hm3
  repeat' first
    | refine W.seq ?_ | (refine W.regS G ?_; dsimp only) | refine SW.nil ?_ | refine thenQ_normal ?_ | refine W.skip ?_ | refine W.exit ?_ | refine thenQ_exit ?_ | refine inBlockQ_exit ?_ | refine inBlockQ_normal ?_ | refine W.block ?_
    | (apply SW.toC; refine SWcall.go (And.intro numS.eq_1 hq) ?_) | (apply SW.toOp; refine SWop.go (And.intro numS.eq_1 hq) ?_) | (apply SW.toCG; first | refine SWcall.yes (And.intro numS.eq_1 hq) ?_ | refine SWcall.no (And.intro numS.eq_1 hq) ?_) | (apply SW.toG; first | refine SWop.yes (And.intro numS.eq_1 hq) ?_ | refine SWop.no (And.intro numS.eq_1 hq) ?_)
  refine W.condZ G (And.intro numS.eq_1 hq) ?_ ?_
  all_goals intro hc
  · have hc' := of_decide_eq_true hc
    rw [if_pos (hm3 (by omega))] at hF
    rw [hF]
    repeat' first
      | refine W.seq ?_ | (refine W.regS G ?_; dsimp only) | refine SW.nil ?_ | refine thenQ_normal ?_ | refine W.skip ?_ | refine W.exit ?_ | refine thenQ_exit ?_ | refine inBlockQ_exit ?_ | refine inBlockQ_normal ?_ | refine W.block ?_
      | (apply SW.toC; refine SWcall.go (And.intro numS.eq_1 hq) ?_) | (apply SW.toOp; refine SWop.go (And.intro numS.eq_1 hq) ?_) | (apply SW.toCG; first | refine SWcall.yes (And.intro numS.eq_1 hq) ?_ | refine SWcall.no (And.intro numS.eq_1 hq) ?_) | (apply SW.toG; first | refine SWop.yes (And.intro numS.eq_1 hq) ?_ | refine SWop.no (And.intro numS.eq_1 hq) ?_)
    refine W.ret ?_
    repeat' first
      | refine thenQ_ret ?_
      | refine inBlockQ_ret ?_
    refine fin1Z (And.intro numS.eq_1 hq) ?_
    exact leV_refl
  · have hc' := of_decide_eq_false hc
    obtain ⟨h1, h2⟩ := hm2 (by omega)
    rw [if_neg h2] at hF
    rw [h1] at hF
    rw [h1, hF]
    clear hF h1 h2 hm2 hm3
    have e1 : 8 * (m : Int) + 7 + 1 = ((8 * m + 8 : Nat) : Int) := by omega
    have hm31 : m < 31 := by omega
    repeat' first
      | refine W.seq ?_ | (refine W.regS G ?_; dsimp only) | refine SW.nil ?_ | refine thenQ_normal ?_ | refine W.skip ?_ | refine W.exit ?_ | refine thenQ_exit ?_ | refine inBlockQ_exit ?_ | refine inBlockQ_normal ?_ | refine W.block ?_
      | (apply SW.toC; refine SWcall.go True.intro ?_) | (apply SW.toOp; refine SWop.go True.intro ?_) | (apply SW.toCG; first | refine SWcall.yes True.intro ?_ | refine SWcall.no True.intro ?_) | (apply SW.toG; first | refine SWop.yes True.intro ?_ | refine SWop.no True.intro ?_)
    refine W.loopI (ι := {p : Nat × List (BitVec 64) // 8 * m + 8 ≤ p.1 ∧ p.1 ≤ 256 ∧ p.2.length = 4 ∧ ∀ b, b < 256 → bitAt p.2 b = if b < p.1 then sxB a m b else bitAt a b}) (fun p => sL [(2, .p 2 0 0 0), (3, .p 3 0 0 0), (4, .p 4 0 0 0), (6, .i (8 * (m : Int) + 7)), (7, .p 7 0 0 0), (8, .i (p.1.1 : Int))] [(2, .agg 4 (.u 64 k)), (3, .agg 4 (.u 64 a)), (4, .agg 4 (.u 64 (zeros 64 4))), (7, .agg 4 (.u 64 p.1.2))] 45) (fun p => 256 - p.1.1) ⟨(8 * m + 8, a), Nat.le_refl _, by dsimp only; omega, la, ?_⟩ (Imp.le ?_) ?_
    · intro b hb
      dsimp only
      unfold sxB
      by_cases h : b < 8 * m + 8
      · rw [if_pos h, if_pos (by omega)]
      · rw [if_neg h]
    · exact sL_leZ e1
    rintro ⟨⟨i, l⟩, hl, hi, ll, hI⟩
    dsimp only at hl hi ll hI
    repeat' first
      | refine W.seq ?_ | (refine W.regS G ?_; dsimp only) | refine SW.nil ?_ | refine thenQ_normal ?_ | refine W.skip ?_ | refine W.exit ?_ | refine thenQ_exit ?_ | refine inBlockQ_exit ?_ | refine inBlockQ_normal ?_ | refine W.block ?_
      | (apply SW.toC; refine SWcall.go ll ?_) | (apply SW.toOp; refine SWop.go ll ?_) | (apply SW.toCG; first | refine SWcall.yes ll ?_ | refine SWcall.no ll ?_) | (apply SW.toG; first | refine SWop.yes ll ?_ | refine SWop.no ll ?_)
    refine W.condZ G ll ?_ ?_
    all_goals intro ht
    · have ht' := of_decide_eq_true ht
      have hi2 : i < 256 := by omega
      have e1 : ((i : Int) / 64) = ((i / 64 : Nat) : Int) := by omega
      have e2 : ((i : Int) % 64) = ((i % 64 : Nat) : Int) := by omega
      have e3 : (BitVec.ofInt 64 ((i % 64 : Nat) : Int)).toNat = i % 64 := by rw [BitVec.toNat_ofInt]; omega
      have e4 : 8 * (m : Int) + 7 = ((8 * m + 7 : Nat) : Int) := by omega
      have b4 : 8 * m + 7 < 256 := by omega
      obtain ⟨b1, b2⟩ := bit_one (a.getD ((8 * m + 7) / 64) 0) ((8 * m + 7) % 64)
      have hb : ∀ b, b < 256 → bitAt (l.set (i / 64) ((l.getD (i / 64) 0 &&& ~~~ (1#64 <<< (i % 64))) ||| (a.getD ((8 * m + 7) / 64) 0 >>> ((8 * m + 7) % 64) &&& 1#64) <<< (i % 64))) b = if b < i + 1 then sxB a m b else bitAt a b := by
        intro b hb
        rw [set_bit ll hi2 b1, b2, hI b hb]
        by_cases h2 : b = i
        · subst h2
          rw [if_pos rfl, if_pos (by omega)]
          unfold sxB
          rw [if_neg (by omega)]
          rfl
        · rw [if_neg h2]
          by_cases h3 : b < i
          · rw [if_pos h3, if_pos (by omega)]
          · rw [if_neg h3, if_neg (by omega)]
      generalize hgen : (8 * m + 7) = hh at e4 b4 hb
      repeat' first
        | refine W.seq ?_ | (refine W.regS G ?_; dsimp only) | refine SW.nil ?_ | refine thenQ_normal ?_ | refine W.skip ?_ | refine W.exit ?_ | refine thenQ_exit ?_ | refine inBlockQ_exit ?_ | refine inBlockQ_normal ?_
        | (apply SW.toC; refine SWcall.go (And.intro ll (And.intro e1 (And.intro e2 (And.intro e3 (And.intro e4 bitS.eq_1))))) ?_) | (apply SW.toOp; refine SWop.go (And.intro ll (And.intro e1 (And.intro e2 (And.intro e3 (And.intro e4 bitS.eq_1))))) ?_) | (apply SW.toCG; first | refine SWcall.yes (And.intro ll (And.intro e1 (And.intro e2 (And.intro e3 (And.intro e4 bitS.eq_1))))) ?_ | refine SWcall.no (And.intro ll (And.intro e1 (And.intro e2 (And.intro e3 (And.intro e4 bitS.eq_1))))) ?_) | (apply SW.toG; first | refine SWop.yes (And.intro ll (And.intro e1 (And.intro e2 (And.intro e3 (And.intro e4 bitS.eq_1))))) ?_ | refine SWop.no (And.intro ll (And.intro e1 (And.intro e2 (And.intro e3 (And.intro e4 bitS.eq_1))))) ?_)
      refine W.block ?_
      repeat' first
        | refine W.seq ?_ | (refine W.regS G ?_; dsimp only) | refine SW.nil ?_ | refine thenQ_normal ?_ | refine W.skip ?_ | refine W.exit ?_ | refine thenQ_exit ?_ | refine inBlockQ_exit ?_ | refine inBlockQ_normal ?_
        | (apply SW.toC; refine SWcall.go (And.intro ll (And.intro e1 (And.intro e2 (And.intro e3 (And.intro e4 bitS.eq_1))))) ?_) | (apply SW.toOp; refine SWop.go (And.intro ll (And.intro e1 (And.intro e2 (And.intro e3 (And.intro e4 bitS.eq_1))))) ?_) | (apply SW.toCG; first | refine SWcall.yes (And.intro ll (And.intro e1 (And.intro e2 (And.intro e3 (And.intro e4 bitS.eq_1))))) ?_ | refine SWcall.no (And.intro ll (And.intro e1 (And.intro e2 (And.intro e3 (And.intro e4 bitS.eq_1))))) ?_) | (apply SW.toG; first | refine SWop.yes (And.intro ll (And.intro e1 (And.intro e2 (And.intro e3 (And.intro e4 bitS.eq_1))))) ?_ | refine SWop.no (And.intro ll (And.intro e1 (And.intro e2 (And.intro e3 (And.intro e4 bitS.eq_1))))) ?_)
      refine W.drawS G [[], [0], [], [2], [3, 2], [4, 3, 2], [], [6], [7, 6], [8, 7, 6], [5, 4, 3, 2, 9, 8, 7, 6], [], [], [11, 12], [], [14], [15, 14], [13, 11, 12, 16, 15, 14], [10, 5, 4, 3, 2, 9, 8, 7, 6, 17, 13, 11, 12, 16, 15, 14], [1, 0, 2, 3, 4, 5, 6, 7, 8, 9, 10, 11, 12, 13, 14, 15, 16, 17, 18], [19, 1, 0, 2, 3, 4, 5, 6, 7, 8, 9, 10, 11, 12, 13, 14, 15, 16, 17, 18]] hmix ?_
      dsimp only
      repeat' first
        | (apply DW.nil; (focus (decide +kernel)))
        | (apply DW.toC; refine DWcall.go (And.intro ll (And.intro e1 (And.intro e2 (And.intro e3 (And.intro e4 bitS.eq_1))))) ?_) | (apply DW.toOp; refine DWop.go (And.intro ll (And.intro e1 (And.intro e2 (And.intro e3 (And.intro e4 bitS.eq_1))))) ?_) | (apply DW.toCG; first | refine DWcall.yes (And.intro ll (And.intro e1 (And.intro e2 (And.intro e3 (And.intro e4 bitS.eq_1))))) ?_ | refine DWcall.no (And.intro ll (And.intro e1 (And.intro e2 (And.intro e3 (And.intro e4 bitS.eq_1))))) ?_) | (apply DW.toG; first | refine DWop.yes (And.intro ll (And.intro e1 (And.intro e2 (And.intro e3 (And.intro e4 bitS.eq_1))))) ?_ | refine DWop.no (And.intro ll (And.intro e1 (And.intro e2 (And.intro e3 (And.intro e4 bitS.eq_1))))) ?_)
      repeat' first
        | refine W.seq ?_ | (refine W.regS G ?_; dsimp only) | refine SW.nil ?_ | refine thenQ_normal ?_ | refine W.skip ?_ | refine W.exit ?_ | refine thenQ_exit ?_ | refine inBlockQ_exit ?_ | refine inBlockQ_normal ?_ | refine W.block ?_
        | (apply SW.toC; refine SWcall.go (And.intro ll (And.intro e1 (And.intro e2 (And.intro e3 (And.intro e4 bitS.eq_1))))) ?_) | (apply SW.toOp; refine SWop.go (And.intro ll (And.intro e1 (And.intro e2 (And.intro e3 (And.intro e4 bitS.eq_1))))) ?_) | (apply SW.toCG; first | refine SWcall.yes (And.intro ll (And.intro e1 (And.intro e2 (And.intro e3 (And.intro e4 bitS.eq_1))))) ?_ | refine SWcall.no (And.intro ll (And.intro e1 (And.intro e2 (And.intro e3 (And.intro e4 bitS.eq_1))))) ?_) | (apply SW.toG; first | refine SWop.yes (And.intro ll (And.intro e1 (And.intro e2 (And.intro e3 (And.intro e4 bitS.eq_1))))) ?_ | refine SWop.no (And.intro ll (And.intro e1 (And.intro e2 (And.intro e3 (And.intro e4 bitS.eq_1))))) ?_)
      refine ⟨⟨(i + 1, _), by dsimp only; omega, by dsimp only; omega, ?_, hb⟩, Imp.le ?_, by show 256 - (i + 1) < 256 - i; omega⟩
      · dsimp only; rw [List.length_set]; exact ll
      exact sL_leZ (And.intro ll (And.intro e1 (And.intro e2 (And.intro e3 (And.intro e4 bitS.eq_1)))))
    have ht' := of_decide_eq_false ht
    obtain rfl : i = 256 := by omega
    have hf : l = wB (sxB a m) := eq_wB ll fun b hb => by rw [hI b hb, if_pos hb]
    rw [← hf]
    repeat' first
      | refine W.seq ?_ | (refine W.regS G ?_; dsimp only) | refine SW.nil ?_ | refine thenQ_normal ?_ | refine W.skip ?_ | refine W.exit ?_ | refine thenQ_exit ?_ | refine inBlockQ_exit ?_ | refine inBlockQ_normal ?_ | refine W.block ?_
      | (apply SW.toC; refine SWcall.go ll ?_) | (apply SW.toOp; refine SWop.go ll ?_) | (apply SW.toCG; first | refine SWcall.yes ll ?_ | refine SWcall.no ll ?_) | (apply SW.toG; first | refine SWop.yes ll ?_ | refine SWop.no ll ?_)
    refine W.ret ?_
    repeat' first
      | refine thenQ_ret ?_
      | refine inBlockQ_ret ?_
    refine fin1Z ll ?_
    exact leV_refl
end Go.Vm.C01

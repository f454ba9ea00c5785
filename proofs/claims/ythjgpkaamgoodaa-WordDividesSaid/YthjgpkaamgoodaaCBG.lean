/- What some functions of the program compute, walked through once. -/
import Derived.Test.YthjgpkaamgoodaaCBF
import Derived.Test.YthjgpkaamgoodaaCT
namespace Go.Vm.C01
open Go Go.Proofs
set_option linter.unusedVariables false
set_option linter.unusedSimpArgs false
set_option maxRecDepth 100000
set_option maxHeartbeats 8000000

/-! ### bits: the document -/
noncomputable def numS : FSpec := { run := fun ins => match ins with
  | [.agg 4 (.u 64 a)] => some (.i ((min (wv a) 256 : Nat) : Int), [])
  | _ => none }
theorem num_sound : SoundFn Try.prog glB 65 numS.run := by
  have G := good_of (P := Try.prog) glB_ro (l := []) (by simp)
  refine soundFn_of_W G Try.func65 (by decide) rfl (by decide) ?_
  intro ins ret outs h
  unfold numS at h
  dsimp only at h
  split at h
  rotate_left
  · cases h
  rename_i a
  cases h
  refine ⟨by show 1 ≤ 24; decide, fun w0 ext av => ?_⟩
  rw [Try.ntmps65, st0_eq]
  have big : ¬ a.getD 1 0 ||| a.getD 2 0 ||| a.getD 3 0 = 0 → min (wv a) 256 = 256 := fun h => by
    have := sm_no h
    omega
  by_cases z1 : a.getD 1 0 = 0
  · by_cases z2 : a.getD 2 0 = 0
    · by_cases z3 : a.getD 3 0 = 0
      · have hv : wv a = (a.getD 0 0).toNat := sm_yes (by rw [z1, z2, z3]; decide)
        have e1 : decide ((0 : BitVec 64) = 0#64) = true := rfl
        repeat' first
          | refine W.seq ?_ | (refine W.regS G ?_; dsimp only) | refine SW.nil ?_ | refine thenQ_normal ?_ | refine W.skip ?_ | refine W.exit ?_ | refine thenQ_exit ?_ | refine inBlockQ_exit ?_ | refine inBlockQ_normal ?_ | refine W.block ?_
          | (apply SW.toC; refine SWcall.go (And.intro z1 (And.intro z2 z3)) ?_) | (apply SW.toOp; refine SWop.go (And.intro z1 (And.intro z2 z3)) ?_) | (apply SW.toCG; first | refine SWcall.yes (And.intro z1 (And.intro z2 z3)) ?_ | refine SWcall.no (And.intro z1 (And.intro z2 z3)) ?_) | (apply SW.toG; first | refine SWop.yes (And.intro z1 (And.intro z2 z3)) ?_ | refine SWop.no (And.intro z1 (And.intro z2 z3)) ?_)
        refine W.condZ G (And.intro z1 (And.intro z2 z3)) ?_ ?_
        all_goals intro hc
        · have hc2 : 256 < (a.getD 0 0).toNat := yes_of hc
          have em : min (wv a) 256 = 256 := by rw [hv]; omega
          rw [em]
          repeat' first
            | refine W.seq ?_ | (refine W.regS G ?_; dsimp only) | refine SW.nil ?_ | refine thenQ_normal ?_ | refine W.skip ?_ | refine W.exit ?_ | refine thenQ_exit ?_ | refine inBlockQ_exit ?_ | refine inBlockQ_normal ?_ | refine W.block ?_
            | (apply SW.toC; refine SWcall.go (And.intro z1 (And.intro z2 z3)) ?_) | (apply SW.toOp; refine SWop.go (And.intro z1 (And.intro z2 z3)) ?_) | (apply SW.toCG; first | refine SWcall.yes (And.intro z1 (And.intro z2 z3)) ?_ | refine SWcall.no (And.intro z1 (And.intro z2 z3)) ?_) | (apply SW.toG; first | refine SWop.yes (And.intro z1 (And.intro z2 z3)) ?_ | refine SWop.no (And.intro z1 (And.intro z2 z3)) ?_)
          refine W.ret ?_
          repeat' first
            | refine thenQ_ret ?_
            | refine inBlockQ_ret ?_
          refine fin1Z (And.intro z1 (And.intro z2 z3)) ?_
          exact leV_refl
        · have hc2 : ¬ 256 < (a.getD 0 0).toNat := no_of hc
          have em : min (wv a) 256 = (a.getD 0 0).toNat := by rw [hv]; omega
          rw [em]
          repeat' first
            | refine W.seq ?_ | (refine W.regS G ?_; dsimp only) | refine SW.nil ?_ | refine thenQ_normal ?_ | refine W.skip ?_ | refine W.exit ?_ | refine thenQ_exit ?_ | refine inBlockQ_exit ?_ | refine inBlockQ_normal ?_ | refine W.block ?_
            | (apply SW.toC; refine SWcall.go (And.intro z1 (And.intro z2 z3)) ?_) | (apply SW.toOp; refine SWop.go (And.intro z1 (And.intro z2 z3)) ?_) | (apply SW.toCG; first | refine SWcall.yes (And.intro z1 (And.intro z2 z3)) ?_ | refine SWcall.no (And.intro z1 (And.intro z2 z3)) ?_) | (apply SW.toG; first | refine SWop.yes (And.intro z1 (And.intro z2 z3)) ?_ | refine SWop.no (And.intro z1 (And.intro z2 z3)) ?_)
          refine W.ret ?_
          repeat' first
            | refine thenQ_ret ?_
            | refine inBlockQ_ret ?_
          refine fin1Z (And.intro z1 (And.intro z2 z3)) ?_
          exact leV_refl
      · rw [big (fun h => z3 (or_z h).2)]
        have d3 := decU_ne (y := 0#64) z3
        repeat' first
          | refine W.seq ?_ | (refine W.regS G ?_; dsimp only) | refine SW.nil ?_ | refine thenQ_normal ?_ | refine W.skip ?_ | refine W.exit ?_ | refine thenQ_exit ?_ | refine inBlockQ_exit ?_ | refine inBlockQ_normal ?_ | refine W.block ?_
          | (apply SW.toC; refine SWcall.go (And.intro z1 (And.intro z2 d3)) ?_) | (apply SW.toOp; refine SWop.go (And.intro z1 (And.intro z2 d3)) ?_) | (apply SW.toCG; first | refine SWcall.yes (And.intro z1 (And.intro z2 d3)) ?_ | refine SWcall.no (And.intro z1 (And.intro z2 d3)) ?_) | (apply SW.toG; first | refine SWop.yes (And.intro z1 (And.intro z2 d3)) ?_ | refine SWop.no (And.intro z1 (And.intro z2 d3)) ?_)
        refine W.condZ G (And.intro z1 (And.intro z2 d3)) ?_ ?_
        all_goals intro hc
        · repeat' first
            | refine W.seq ?_ | (refine W.regS G ?_; dsimp only) | refine SW.nil ?_ | refine thenQ_normal ?_ | refine W.skip ?_ | refine W.exit ?_ | refine thenQ_exit ?_ | refine inBlockQ_exit ?_ | refine inBlockQ_normal ?_ | refine W.block ?_
            | (apply SW.toC; refine SWcall.go (And.intro z1 (And.intro z2 d3)) ?_) | (apply SW.toOp; refine SWop.go (And.intro z1 (And.intro z2 d3)) ?_) | (apply SW.toCG; first | refine SWcall.yes (And.intro z1 (And.intro z2 d3)) ?_ | refine SWcall.no (And.intro z1 (And.intro z2 d3)) ?_) | (apply SW.toG; first | refine SWop.yes (And.intro z1 (And.intro z2 d3)) ?_ | refine SWop.no (And.intro z1 (And.intro z2 d3)) ?_)
          refine W.ret ?_
          repeat' first
            | refine thenQ_ret ?_
            | refine inBlockQ_ret ?_
          refine fin1Z (And.intro z1 (And.intro z2 d3)) ?_
          exact leV_refl
        · exact absurd hc (by decide)
    · rw [big (fun h => z2 (or_z (or_z h).1).2)]
      have d2 := decU_ne (y := 0#64) z2
      repeat' first
        | refine W.seq ?_ | (refine W.regS G ?_; dsimp only) | refine SW.nil ?_ | refine thenQ_normal ?_ | refine W.skip ?_ | refine W.exit ?_ | refine thenQ_exit ?_ | refine inBlockQ_exit ?_ | refine inBlockQ_normal ?_ | refine W.block ?_
        | (apply SW.toC; refine SWcall.go (And.intro z1 d2) ?_) | (apply SW.toOp; refine SWop.go (And.intro z1 d2) ?_) | (apply SW.toCG; first | refine SWcall.yes (And.intro z1 d2) ?_ | refine SWcall.no (And.intro z1 d2) ?_) | (apply SW.toG; first | refine SWop.yes (And.intro z1 d2) ?_ | refine SWop.no (And.intro z1 d2) ?_)
      refine W.condZ G (And.intro z1 d2) ?_ ?_
      all_goals intro hc
      · repeat' first
          | refine W.seq ?_ | (refine W.regS G ?_; dsimp only) | refine SW.nil ?_ | refine thenQ_normal ?_ | refine W.skip ?_ | refine W.exit ?_ | refine thenQ_exit ?_ | refine inBlockQ_exit ?_ | refine inBlockQ_normal ?_ | refine W.block ?_
          | (apply SW.toC; refine SWcall.go (And.intro z1 d2) ?_) | (apply SW.toOp; refine SWop.go (And.intro z1 d2) ?_) | (apply SW.toCG; first | refine SWcall.yes (And.intro z1 d2) ?_ | refine SWcall.no (And.intro z1 d2) ?_) | (apply SW.toG; first | refine SWop.yes (And.intro z1 d2) ?_ | refine SWop.no (And.intro z1 d2) ?_)
        refine W.ret ?_
        repeat' first
          | refine thenQ_ret ?_
          | refine inBlockQ_ret ?_
        refine fin1Z (And.intro z1 d2) ?_
        exact leV_refl
      · exact absurd hc (by decide)
  · rw [big (fun h => z1 (or_z (or_z h).1).1)]
    have d1 := decU_ne (y := 0#64) z1
    repeat' first
      | refine W.seq ?_ | (refine W.regS G ?_; dsimp only) | refine SW.nil ?_ | refine thenQ_normal ?_ | refine W.skip ?_ | refine W.exit ?_ | refine thenQ_exit ?_ | refine inBlockQ_exit ?_ | refine inBlockQ_normal ?_ | refine W.block ?_
      | (apply SW.toC; refine SWcall.go d1 ?_) | (apply SW.toOp; refine SWop.go d1 ?_) | (apply SW.toCG; first | refine SWcall.yes d1 ?_ | refine SWcall.no d1 ?_) | (apply SW.toG; first | refine SWop.yes d1 ?_ | refine SWop.no d1 ?_)
    refine W.condZ G d1 ?_ ?_
    all_goals intro hc
    · repeat' first
        | refine W.seq ?_ | (refine W.regS G ?_; dsimp only) | refine SW.nil ?_ | refine thenQ_normal ?_ | refine W.skip ?_ | refine W.exit ?_ | refine thenQ_exit ?_ | refine inBlockQ_exit ?_ | refine inBlockQ_normal ?_ | refine W.block ?_
        | (apply SW.toC; refine SWcall.go d1 ?_) | (apply SW.toOp; refine SWop.go d1 ?_) | (apply SW.toCG; first | refine SWcall.yes d1 ?_ | refine SWcall.no d1 ?_) | (apply SW.toG; first | refine SWop.yes d1 ?_ | refine SWop.no d1 ?_)
      refine W.ret ?_
      repeat' first
        | refine thenQ_ret ?_
        | refine inBlockQ_ret ?_
      refine fin1Z d1 ?_
      exact leV_refl
    · exact absurd hc (by decide)
theorem or_step {l : List (BitVec 64)} {x : BitVec 64} {i b : Nat} (hl : l.length = 4) (hi : i < 256) (hx : x.toNat ≤ 1) : bitAt (l.set (i / 64) (l.getD (i / 64) 0 ||| x <<< (i % 64))) b = (bitAt l b || (decide (b = i) && x.getLsbD 0)) := by
  rw [bitAt_set (by omega)]
  by_cases h : b / 64 = i / 64
  · rw [if_pos h, BitVec.getLsbD_or, BitVec.getLsbD_shiftLeft]
    have e1 : (l.getD (i / 64) 0).getLsbD (b % 64) = bitAt l b := by unfold bitAt; rw [h]
    rw [e1]
    by_cases h2 : b = i
    · subst h2
      have h3 : b % 64 < 64 := by omega
      simp [h3]
    · have h4 : ¬ b % 64 = i % 64 := by omega
      by_cases h5 : b % 64 < i % 64
      · simp [h2, h5]
      · have h6 : x.getLsbD (b % 64 - i % 64) = false := by
          rw [bit_get]
          have : x.toNat / 2 ^ (b % 64 - i % 64) = 0 := by
            refine Nat.div_eq_of_lt ?_
            have : 2 ^ 1 ≤ 2 ^ (b % 64 - i % 64) := Nat.pow_le_pow_right (by decide) (by omega)
            omega
          rw [this]
          rfl
        simp [h2, h6]
  · rw [if_neg h]
    have h2 : ¬ b = i := fun c => h (by rw [c])
    simp [h2]
theorem bit_one (y : BitVec 64) (j : Nat) : (y >>> j &&& 1#64).toNat ≤ 1 ∧ (y >>> j &&& 1#64).getLsbD 0 = y.getLsbD j := by
  constructor
  · rw [bit_nat]; omega
  · rw [bit_get, bit_get, bit_nat, Nat.pow_zero, Nat.div_one, Nat.mod_mod]
def pickB (a : List (BitVec 64)) (sh : Int) (z : Bool) (i : Nat) : Bool := if 0 ≤ (i : Int) + sh ∧ (i : Int) + sh < 256 then bitAt a ((i : Int) + sh).toNat else z
noncomputable def pickS : FSpec := { run := fun ins => match ins with
  | [.agg 4 (.u 64 a), .i sh, .u 64 f] => chk (-256 ≤ sh ∧ sh ≤ 256 ∧ f.toNat ≤ 1) (some (.agg 4 (.u 64 (wB (pickB a sh (f.getLsbD 0)))), []))
  | _ => none }
theorem pick_sound : SoundFn Try.prog glB 67 pickS.run := by
  have G := good_of (P := Try.prog) glB_ro (l := [(66, bitS)]) (by simp only [List.forall_mem_cons]; exact ⟨bit_sound, by simp⟩)
  refine soundFn_of_W G Try.func67 (by decide) rfl (by decide) ?_
  intro ins ret outs h
  unfold pickS at h
  dsimp only at h
  split at h
  rotate_left
  · cases h
  rename_i a sh f
  obtain ⟨hl, h'⟩ := chk_some h
  clear h
  cases h'
  obtain ⟨s1, s2, hf⟩ := hl
  refine ⟨by show 3 ≤ 43; decide, fun w0 ext av => ?_⟩
  rw [Try.ntmps67, st0_eq]
  repeat' first
    | refine W.seq ?_ | (refine W.regS G ?_; dsimp only) | refine SW.nil ?_ | refine thenQ_normal ?_ | refine W.skip ?_ | refine W.exit ?_ | refine thenQ_exit ?_ | refine inBlockQ_exit ?_ | refine inBlockQ_normal ?_ | refine W.block ?_
    | (apply SW.toC; refine SWcall.go True.intro ?_) | (apply SW.toOp; refine SWop.go True.intro ?_) | (apply SW.toCG; first | refine SWcall.yes True.intro ?_ | refine SWcall.no True.intro ?_) | (apply SW.toG; first | refine SWop.yes True.intro ?_ | refine SWop.no True.intro ?_)
  refine W.loopI (ι := {p : Nat × List (BitVec 64) // p.1 ≤ 256 ∧ p.2.length = 4 ∧ ∀ b, b < 256 → bitAt p.2 b = (decide (b < p.1) && pickB a sh (f.getLsbD 0) b)}) (fun p => sL [(1, .i sh), (2, .u 64 f), (3, .p 3 0 0 0), (6, .p 6 0 0 0), (7, .p 7 0 0 0), (8, .i (p.1.1 : Int))] [(3, .agg 4 (.u 64 a)), (6, .agg 4 (.u 64 (zeros 64 4))), (7, .agg 4 (.u 64 p.1.2))] 43) (fun p => 256 - p.1.1) ⟨(0, zeros 64 4), by show 0 ≤ 256; omega, rfl, fun b hb => by rw [bitAt_zeros]; simp⟩ (Imp.le ?_) ?_
  · exact sL_leZ True.intro
  rintro ⟨⟨i, l⟩, hi, ll, hI⟩
  dsimp only at hi ll hI
  repeat' first
    | refine W.seq ?_ | (refine W.regS G ?_; dsimp only) | refine SW.nil ?_ | refine thenQ_normal ?_ | refine W.skip ?_ | refine W.exit ?_ | refine thenQ_exit ?_ | refine inBlockQ_exit ?_ | refine inBlockQ_normal ?_ | refine W.block ?_
    | (apply SW.toC; refine SWcall.go ll ?_) | (apply SW.toOp; refine SWop.go ll ?_) | (apply SW.toCG; first | refine SWcall.yes ll ?_ | refine SWcall.no ll ?_) | (apply SW.toG; first | refine SWop.yes ll ?_ | refine SWop.no ll ?_)
  refine W.condZ G ll ?_ ?_
  all_goals intro ht
  · have ht' := of_decide_eq_true ht
    have hi2 : i < 256 := by omega
    have e1 : ((i : Int) / 64) = ((i / 64 : Nat) : Int) := by omega
    have e2 : ((i : Int) % 64) = ((i % 64 : Nat) : Int) := by omega
    have e3 : (BitVec.ofInt 64 ((i % 64 : Nat) : Int)).toNat = i % 64 := by rw [BitVec.toNat_ofInt]; omega
    have next : ∀ x : BitVec 64, x.toNat ≤ 1 → x.getLsbD 0 = pickB a sh (f.getLsbD 0) i → ∀ b, b < 256 → bitAt (l.set (i / 64) (l.getD (i / 64) 0 ||| x <<< (i % 64))) b = (decide (b < i + 1) && pickB a sh (f.getLsbD 0) b) := by
      intro x hx h0 b hb
      rw [or_step ll hi2 hx, hI b hb, h0]
      by_cases h2 : b = i
      · subst h2
        simp
      · by_cases h3 : b < i
        · have h4 : b < i + 1 := by omega
          simp [h2, h3, h4]
        · have h4 : ¬ b < i + 1 := by omega
          simp [h2, h3, h4]
    by_cases hr : 0 ≤ (i : Int) + sh ∧ (i : Int) + sh < 256
    · have hp : pickB a sh (f.getLsbD 0) i = bitAt a ((i : Int) + sh).toNat := if_pos hr
      obtain ⟨k, hk⟩ := Int.eq_ofNat_of_zero_le hr.1
      rw [hk] at hp hr
      have ek : ((k : Nat) : Int).toNat = k := by omega
      rw [ek] at hp
      have d1 : decide (0 ≤ (k : Int)) = true := by simp
      have d2 : decide ((k : Int) < 256) = true := by simp; omega
      obtain ⟨b1, b2⟩ := bit_one (a.getD (k / 64) 0) (k % 64)
      have hb := next _ b1 (b2.trans hp.symm)
      repeat' first
        | refine W.seq ?_ | (refine W.regS G ?_; dsimp only) | refine SW.nil ?_ | refine thenQ_normal ?_ | refine W.skip ?_ | refine W.exit ?_ | refine thenQ_exit ?_ | refine inBlockQ_exit ?_ | refine inBlockQ_normal ?_ | refine W.block ?_
        | (apply SW.toC; refine SWcall.go (And.intro ll (And.intro e1 (And.intro e2 (And.intro e3 (And.intro hk (And.intro d1 (And.intro d2 bitS.eq_1))))))) ?_) | (apply SW.toOp; refine SWop.go (And.intro ll (And.intro e1 (And.intro e2 (And.intro e3 (And.intro hk (And.intro d1 (And.intro d2 bitS.eq_1))))))) ?_) | (apply SW.toCG; first | refine SWcall.yes (And.intro ll (And.intro e1 (And.intro e2 (And.intro e3 (And.intro hk (And.intro d1 (And.intro d2 bitS.eq_1))))))) ?_ | refine SWcall.no (And.intro ll (And.intro e1 (And.intro e2 (And.intro e3 (And.intro hk (And.intro d1 (And.intro d2 bitS.eq_1))))))) ?_) | (apply SW.toG; first | refine SWop.yes (And.intro ll (And.intro e1 (And.intro e2 (And.intro e3 (And.intro hk (And.intro d1 (And.intro d2 bitS.eq_1))))))) ?_ | refine SWop.no (And.intro ll (And.intro e1 (And.intro e2 (And.intro e3 (And.intro hk (And.intro d1 (And.intro d2 bitS.eq_1))))))) ?_)
      refine W.condZ G (And.intro ll (And.intro e1 (And.intro e2 (And.intro e3 (And.intro hk (And.intro d1 (And.intro d2 bitS.eq_1))))))) ?_ ?_
      all_goals intro hc
      · repeat' first
          | refine W.seq ?_ | (refine W.regS G ?_; dsimp only) | refine SW.nil ?_ | refine thenQ_normal ?_ | refine W.skip ?_ | refine W.exit ?_ | refine thenQ_exit ?_ | refine inBlockQ_exit ?_ | refine inBlockQ_normal ?_ | refine W.block ?_
          | (apply SW.toC; refine SWcall.go (And.intro ll (And.intro e1 (And.intro e2 (And.intro e3 (And.intro hk (And.intro d1 (And.intro d2 bitS.eq_1))))))) ?_) | (apply SW.toOp; refine SWop.go (And.intro ll (And.intro e1 (And.intro e2 (And.intro e3 (And.intro hk (And.intro d1 (And.intro d2 bitS.eq_1))))))) ?_) | (apply SW.toCG; first | refine SWcall.yes (And.intro ll (And.intro e1 (And.intro e2 (And.intro e3 (And.intro hk (And.intro d1 (And.intro d2 bitS.eq_1))))))) ?_ | refine SWcall.no (And.intro ll (And.intro e1 (And.intro e2 (And.intro e3 (And.intro hk (And.intro d1 (And.intro d2 bitS.eq_1))))))) ?_) | (apply SW.toG; first | refine SWop.yes (And.intro ll (And.intro e1 (And.intro e2 (And.intro e3 (And.intro hk (And.intro d1 (And.intro d2 bitS.eq_1))))))) ?_ | refine SWop.no (And.intro ll (And.intro e1 (And.intro e2 (And.intro e3 (And.intro hk (And.intro d1 (And.intro d2 bitS.eq_1))))))) ?_)
        refine ⟨⟨(i + 1, _), by dsimp only; omega, ?_, hb⟩, Imp.le ?_, by show 256 - (i + 1) < 256 - i; omega⟩
        · dsimp only; rw [List.length_set]; exact ll
        exact sL_leZ (And.intro ll (And.intro e1 (And.intro e2 (And.intro e3 (And.intro hk (And.intro d1 (And.intro d2 bitS.eq_1)))))))
      · exact absurd hc (by decide)
    · have hp : pickB a sh (f.getLsbD 0) i = f.getLsbD 0 := if_neg hr
      have hb := next f hf hp.symm
      by_cases h0 : 0 ≤ (i : Int) + sh
      · have d1 : decide (0 ≤ (i : Int) + sh) = true := by simp; omega
        have d2 : decide ((i : Int) + sh < 256) = false := by simp; omega
        repeat' first
          | refine W.seq ?_ | (refine W.regS G ?_; dsimp only) | refine SW.nil ?_ | refine thenQ_normal ?_ | refine W.skip ?_ | refine W.exit ?_ | refine thenQ_exit ?_ | refine inBlockQ_exit ?_ | refine inBlockQ_normal ?_ | refine W.block ?_
          | (apply SW.toC; refine SWcall.go (And.intro ll (And.intro e1 (And.intro e2 (And.intro e3 (And.intro d1 d2))))) ?_) | (apply SW.toOp; refine SWop.go (And.intro ll (And.intro e1 (And.intro e2 (And.intro e3 (And.intro d1 d2))))) ?_) | (apply SW.toCG; first | refine SWcall.yes (And.intro ll (And.intro e1 (And.intro e2 (And.intro e3 (And.intro d1 d2))))) ?_ | refine SWcall.no (And.intro ll (And.intro e1 (And.intro e2 (And.intro e3 (And.intro d1 d2))))) ?_) | (apply SW.toG; first | refine SWop.yes (And.intro ll (And.intro e1 (And.intro e2 (And.intro e3 (And.intro d1 d2))))) ?_ | refine SWop.no (And.intro ll (And.intro e1 (And.intro e2 (And.intro e3 (And.intro d1 d2))))) ?_)
        refine W.condZ G (And.intro ll (And.intro e1 (And.intro e2 (And.intro e3 (And.intro d1 d2))))) ?_ ?_
        all_goals intro hc
        · exact absurd hc (by decide)
        · repeat' first
            | refine W.seq ?_ | (refine W.regS G ?_; dsimp only) | refine SW.nil ?_ | refine thenQ_normal ?_ | refine W.skip ?_ | refine W.exit ?_ | refine thenQ_exit ?_ | refine inBlockQ_exit ?_ | refine inBlockQ_normal ?_ | refine W.block ?_
            | (apply SW.toC; refine SWcall.go (And.intro ll (And.intro e1 (And.intro e2 (And.intro e3 (And.intro d1 d2))))) ?_) | (apply SW.toOp; refine SWop.go (And.intro ll (And.intro e1 (And.intro e2 (And.intro e3 (And.intro d1 d2))))) ?_) | (apply SW.toCG; first | refine SWcall.yes (And.intro ll (And.intro e1 (And.intro e2 (And.intro e3 (And.intro d1 d2))))) ?_ | refine SWcall.no (And.intro ll (And.intro e1 (And.intro e2 (And.intro e3 (And.intro d1 d2))))) ?_) | (apply SW.toG; first | refine SWop.yes (And.intro ll (And.intro e1 (And.intro e2 (And.intro e3 (And.intro d1 d2))))) ?_ | refine SWop.no (And.intro ll (And.intro e1 (And.intro e2 (And.intro e3 (And.intro d1 d2))))) ?_)
          refine ⟨⟨(i + 1, _), by dsimp only; omega, ?_, hb⟩, Imp.le ?_, by show 256 - (i + 1) < 256 - i; omega⟩
          · dsimp only; rw [List.length_set]; exact ll
          exact sL_leZ (And.intro ll (And.intro e1 (And.intro e2 (And.intro e3 (And.intro d1 d2)))))
      · have d1 : decide (0 ≤ (i : Int) + sh) = false := by simp; omega
        repeat' first
          | refine W.seq ?_ | (refine W.regS G ?_; dsimp only) | refine SW.nil ?_ | refine thenQ_normal ?_ | refine W.skip ?_ | refine W.exit ?_ | refine thenQ_exit ?_ | refine inBlockQ_exit ?_ | refine inBlockQ_normal ?_ | refine W.block ?_
          | (apply SW.toC; refine SWcall.go (And.intro ll (And.intro e1 (And.intro e2 (And.intro e3 d1)))) ?_) | (apply SW.toOp; refine SWop.go (And.intro ll (And.intro e1 (And.intro e2 (And.intro e3 d1)))) ?_) | (apply SW.toCG; first | refine SWcall.yes (And.intro ll (And.intro e1 (And.intro e2 (And.intro e3 d1)))) ?_ | refine SWcall.no (And.intro ll (And.intro e1 (And.intro e2 (And.intro e3 d1)))) ?_) | (apply SW.toG; first | refine SWop.yes (And.intro ll (And.intro e1 (And.intro e2 (And.intro e3 d1)))) ?_ | refine SWop.no (And.intro ll (And.intro e1 (And.intro e2 (And.intro e3 d1)))) ?_)
        refine W.condZ G (And.intro ll (And.intro e1 (And.intro e2 (And.intro e3 d1)))) ?_ ?_
        all_goals intro hc
        · exact absurd hc (by decide)
        · repeat' first
            | refine W.seq ?_ | (refine W.regS G ?_; dsimp only) | refine SW.nil ?_ | refine thenQ_normal ?_ | refine W.skip ?_ | refine W.exit ?_ | refine thenQ_exit ?_ | refine inBlockQ_exit ?_ | refine inBlockQ_normal ?_ | refine W.block ?_
            | (apply SW.toC; refine SWcall.go (And.intro ll (And.intro e1 (And.intro e2 (And.intro e3 d1)))) ?_) | (apply SW.toOp; refine SWop.go (And.intro ll (And.intro e1 (And.intro e2 (And.intro e3 d1)))) ?_) | (apply SW.toCG; first | refine SWcall.yes (And.intro ll (And.intro e1 (And.intro e2 (And.intro e3 d1)))) ?_ | refine SWcall.no (And.intro ll (And.intro e1 (And.intro e2 (And.intro e3 d1)))) ?_) | (apply SW.toG; first | refine SWop.yes (And.intro ll (And.intro e1 (And.intro e2 (And.intro e3 d1)))) ?_ | refine SWop.no (And.intro ll (And.intro e1 (And.intro e2 (And.intro e3 d1)))) ?_)
          refine ⟨⟨(i + 1, _), by dsimp only; omega, ?_, hb⟩, Imp.le ?_, by show 256 - (i + 1) < 256 - i; omega⟩
          · dsimp only; rw [List.length_set]; exact ll
          exact sL_leZ (And.intro ll (And.intro e1 (And.intro e2 (And.intro e3 d1))))
  have ht' := of_decide_eq_false ht
  obtain rfl : i = 256 := by omega
  have hf : l = wB (pickB a sh (f.getLsbD 0)) := eq_wB ll fun b hb => by rw [hI b hb]; simp [hb]
  rw [← hf]
  repeat' first
    | refine W.seq ?_ | (refine W.regS G ?_; dsimp only) | refine SW.nil ?_ | refine thenQ_normal ?_ | refine W.skip ?_ | refine W.exit ?_ | refine thenQ_exit ?_ | refine inBlockQ_exit ?_ | refine inBlockQ_normal ?_ | refine W.block ?_
    | (apply SW.toC; refine SWcall.go ll ?_) | (apply SW.toOp; refine SWop.go ll ?_) | (apply SW.toCG; first | refine SWcall.yes ll ?_ | refine SWcall.no ll ?_) | (apply SW.toG; first | refine SWop.yes ll ?_ | refine SWop.no ll ?_)
  refine W.ret ?_
  repeat' first
    | refine thenQ_ret ?_
    | refine inBlockQ_ret ?_
  refine fin1Z ll ?_
  exact leV_refl
end Go.Vm.C01

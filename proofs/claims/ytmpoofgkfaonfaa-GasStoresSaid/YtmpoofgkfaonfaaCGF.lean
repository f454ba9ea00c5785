/- What some functions of the program compute, walked through once. -/
import Derived.Test.YtmpoofgkfaonfaaCGE
namespace Go.Vm.C19
open Go Go.Proofs
set_option linter.unusedVariables false
set_option linter.unusedSimpArgs false
set_option maxRecDepth 100000
set_option maxHeartbeats 8000000

/-! ### memory that grows -/
theorem mem_mono {a b : Nat} (h : a ≤ b) : memN a ≤ memN b := by
  have h1 : wdN a ≤ wdN b := by unfold wdN; omega
  have h2 : wdN a * wdN a ≤ wdN b * wdN b := Nat.mul_le_mul h1 h1
  unfold memN
  generalize wdN a * wdN a = p at *
  generalize wdN b * wdN b = q at *
  omega
theorem memU_val {x : BitVec 64} (h : x.toNat ≤ 4294967296) : (memU x).toNat = memN x.toNat := by
  unfold memU
  rw [if_pos h, BitVec.toNat_ofNat]
  exact Nat.mod_eq_of_lt (mem_lt h)
def grU (a b : BitVec 64) : BitVec 64 := if a.toNat ≤ 4294967296 ∧ b.toNat ≤ 4294967296 then BitVec.ofNat 64 (memN b.toNat - memN a.toNat) else 0#64
def grB (a b : BitVec 64) : Bool := decide (a.toNat ≤ 4294967296) && decide (b.toNat ≤ 4294967296)
noncomputable def growS : FSpec := { run := fun ins => match ins with
  | [.u 64 a, .u 64 b] => some (.tup [.u 64 (grU a b), .b (grB a b)], [])
  | _ => none }
theorem grow_sound : SoundFn Try.prog glB 16 growS.run := by
  have G := good_of (P := Try.prog) glB_ro (l := [(55, memoryS)]) (by simp only [List.forall_mem_cons]; exact ⟨memory_sound, by simp⟩)
  refine soundFn_of_W G Try.func16 (by decide) rfl (by decide) ?_
  intro ins ret outs h
  unfold growS at h
  dsimp only at h
  split at h
  rotate_left
  · cases h
  rename_i a b
  cases h
  refine ⟨by show 2 ≤ 31; decide, fun w0 ext av => ?_⟩
  rw [Try.ntmps16, st0_eq]
  have hB : grB a b = (decide (a.toNat ≤ 4294967296) && decide (b.toNat ≤ 4294967296)) := rfl
  by_cases ha : a.toNat ≤ 4294967296
  · have ea := decide_eq_true ha
    have va := memU_val ha
    by_cases hb : b.toNat ≤ 4294967296
    · have eb := decide_eq_true hb
      have vb := memU_val hb
      have hU : grU a b = BitVec.ofNat 64 (memN b.toNat - memN a.toNat) := if_pos ⟨ha, hb⟩
      rw [ea, eb] at hB
      have la := mem_lt ha
      have lb := mem_lt hb
      by_cases h : memU a < memU b
      · have h3 : (memU a).toNat < (memU b).toNat := h
        have hq := eq_true h
        have e : grU a b = memU b - memU a := by
          rw [hU]
          refine BitVec.eq_of_toNat_eq ?_
          rw [BitVec.toNat_ofNat, BitVec.toNat_sub, va, vb]
          omega
        rw [e, hB]
        repeat' first
          | refine W.seq ?_ | (refine W.regS G ?_; dsimp only) | refine SW.nil ?_ | refine thenQ_normal ?_ | refine W.skip ?_ | refine W.exit ?_ | refine thenQ_exit ?_ | refine inBlockQ_exit ?_ | refine inBlockQ_normal ?_ | refine W.block ?_
          | (apply SW.toC; refine SWcall.go (And.intro memoryS.eq_1 (And.intro ea (And.intro eb hq))) ?_) | (apply SW.toOp; refine SWop.go (And.intro memoryS.eq_1 (And.intro ea (And.intro eb hq))) ?_) | (apply SW.toCG; first | refine SWcall.yes (And.intro memoryS.eq_1 (And.intro ea (And.intro eb hq))) ?_ | refine SWcall.no (And.intro memoryS.eq_1 (And.intro ea (And.intro eb hq))) ?_) | (apply SW.toG; first | refine SWop.yes (And.intro memoryS.eq_1 (And.intro ea (And.intro eb hq))) ?_ | refine SWop.no (And.intro memoryS.eq_1 (And.intro ea (And.intro eb hq))) ?_)
        refine W.condZ G (And.intro memoryS.eq_1 (And.intro ea (And.intro eb hq))) ?_ ?_
        all_goals intro hc
        · exact absurd hc (by decide)
        repeat' first
          | refine W.seq ?_ | (refine W.regS G ?_; dsimp only) | refine SW.nil ?_ | refine thenQ_normal ?_ | refine W.skip ?_ | refine W.exit ?_ | refine thenQ_exit ?_ | refine inBlockQ_exit ?_ | refine inBlockQ_normal ?_ | refine W.block ?_
          | (apply SW.toC; refine SWcall.go (And.intro memoryS.eq_1 (And.intro ea (And.intro eb hq))) ?_) | (apply SW.toOp; refine SWop.go (And.intro memoryS.eq_1 (And.intro ea (And.intro eb hq))) ?_) | (apply SW.toCG; first | refine SWcall.yes (And.intro memoryS.eq_1 (And.intro ea (And.intro eb hq))) ?_ | refine SWcall.no (And.intro memoryS.eq_1 (And.intro ea (And.intro eb hq))) ?_) | (apply SW.toG; first | refine SWop.yes (And.intro memoryS.eq_1 (And.intro ea (And.intro eb hq))) ?_ | refine SWop.no (And.intro memoryS.eq_1 (And.intro ea (And.intro eb hq))) ?_)
        refine W.ret ?_
        repeat' first
          | refine thenQ_ret ?_
          | refine inBlockQ_ret ?_
        refine fin2Z (And.intro memoryS.eq_1 (And.intro ea (And.intro eb hq))) ?_ ?_
        · exact leV_refl
        · exact leV_refl
      · have h3 : ¬ (memU a).toNat < (memU b).toNat := h
        have hq := eq_false h
        have e : grU a b = memU a - memU a := by
          rw [hU]
          refine BitVec.eq_of_toNat_eq ?_
          rw [BitVec.toNat_ofNat, BitVec.toNat_sub, va]
          omega
        rw [e, hB]
        repeat' first
          | refine W.seq ?_ | (refine W.regS G ?_; dsimp only) | refine SW.nil ?_ | refine thenQ_normal ?_ | refine W.skip ?_ | refine W.exit ?_ | refine thenQ_exit ?_ | refine inBlockQ_exit ?_ | refine inBlockQ_normal ?_ | refine W.block ?_
          | (apply SW.toC; refine SWcall.go (And.intro memoryS.eq_1 (And.intro ea (And.intro eb hq))) ?_) | (apply SW.toOp; refine SWop.go (And.intro memoryS.eq_1 (And.intro ea (And.intro eb hq))) ?_) | (apply SW.toCG; first | refine SWcall.yes (And.intro memoryS.eq_1 (And.intro ea (And.intro eb hq))) ?_ | refine SWcall.no (And.intro memoryS.eq_1 (And.intro ea (And.intro eb hq))) ?_) | (apply SW.toG; first | refine SWop.yes (And.intro memoryS.eq_1 (And.intro ea (And.intro eb hq))) ?_ | refine SWop.no (And.intro memoryS.eq_1 (And.intro ea (And.intro eb hq))) ?_)
        refine W.condZ G (And.intro memoryS.eq_1 (And.intro ea (And.intro eb hq))) ?_ ?_
        all_goals intro hc
        · exact absurd hc (by decide)
        repeat' first
          | refine W.seq ?_ | (refine W.regS G ?_; dsimp only) | refine SW.nil ?_ | refine thenQ_normal ?_ | refine W.skip ?_ | refine W.exit ?_ | refine thenQ_exit ?_ | refine inBlockQ_exit ?_ | refine inBlockQ_normal ?_ | refine W.block ?_
          | (apply SW.toC; refine SWcall.go (And.intro memoryS.eq_1 (And.intro ea (And.intro eb hq))) ?_) | (apply SW.toOp; refine SWop.go (And.intro memoryS.eq_1 (And.intro ea (And.intro eb hq))) ?_) | (apply SW.toCG; first | refine SWcall.yes (And.intro memoryS.eq_1 (And.intro ea (And.intro eb hq))) ?_ | refine SWcall.no (And.intro memoryS.eq_1 (And.intro ea (And.intro eb hq))) ?_) | (apply SW.toG; first | refine SWop.yes (And.intro memoryS.eq_1 (And.intro ea (And.intro eb hq))) ?_ | refine SWop.no (And.intro memoryS.eq_1 (And.intro ea (And.intro eb hq))) ?_)
        refine W.ret ?_
        repeat' first
          | refine thenQ_ret ?_
          | refine inBlockQ_ret ?_
        refine fin2Z (And.intro memoryS.eq_1 (And.intro ea (And.intro eb hq))) ?_ ?_
        · exact leV_refl
        · exact leV_refl
    · have eb := decide_eq_false hb
      have hU : grU a b = 0#64 := if_neg (fun c => hb c.2)
      rw [ea, eb] at hB
      rw [hU, hB]
      repeat' first
        | refine W.seq ?_ | (refine W.regS G ?_; dsimp only) | refine SW.nil ?_ | refine thenQ_normal ?_ | refine W.skip ?_ | refine W.exit ?_ | refine thenQ_exit ?_ | refine inBlockQ_exit ?_ | refine inBlockQ_normal ?_ | refine W.block ?_
        | (apply SW.toC; refine SWcall.go (And.intro memoryS.eq_1 (And.intro ea eb)) ?_) | (apply SW.toOp; refine SWop.go (And.intro memoryS.eq_1 (And.intro ea eb)) ?_) | (apply SW.toCG; first | refine SWcall.yes (And.intro memoryS.eq_1 (And.intro ea eb)) ?_ | refine SWcall.no (And.intro memoryS.eq_1 (And.intro ea eb)) ?_) | (apply SW.toG; first | refine SWop.yes (And.intro memoryS.eq_1 (And.intro ea eb)) ?_ | refine SWop.no (And.intro memoryS.eq_1 (And.intro ea eb)) ?_)
      refine W.condZ G (And.intro memoryS.eq_1 (And.intro ea eb)) ?_ ?_
      all_goals intro hc
      · repeat' first
          | refine W.seq ?_ | (refine W.regS G ?_; dsimp only) | refine SW.nil ?_ | refine thenQ_normal ?_ | refine W.skip ?_ | refine W.exit ?_ | refine thenQ_exit ?_ | refine inBlockQ_exit ?_ | refine inBlockQ_normal ?_ | refine W.block ?_
          | (apply SW.toC; refine SWcall.go (And.intro memoryS.eq_1 (And.intro ea eb)) ?_) | (apply SW.toOp; refine SWop.go (And.intro memoryS.eq_1 (And.intro ea eb)) ?_) | (apply SW.toCG; first | refine SWcall.yes (And.intro memoryS.eq_1 (And.intro ea eb)) ?_ | refine SWcall.no (And.intro memoryS.eq_1 (And.intro ea eb)) ?_) | (apply SW.toG; first | refine SWop.yes (And.intro memoryS.eq_1 (And.intro ea eb)) ?_ | refine SWop.no (And.intro memoryS.eq_1 (And.intro ea eb)) ?_)
        refine W.ret ?_
        repeat' first
          | refine thenQ_ret ?_
          | refine inBlockQ_ret ?_
        refine fin2Z (And.intro memoryS.eq_1 (And.intro ea eb)) ?_ ?_
        · exact leV_refl
        · exact leV_refl
      · exact absurd hc (by decide)
  · have ea := decide_eq_false ha
    have hU : grU a b = 0#64 := if_neg (fun c => ha c.1)
    have hB2 : grB a b = false := by rw [hB, ea]; rfl
    rw [hU, hB2]
    repeat' first
      | refine W.seq ?_ | (refine W.regS G ?_; dsimp only) | refine SW.nil ?_ | refine thenQ_normal ?_ | refine W.skip ?_ | refine W.exit ?_ | refine thenQ_exit ?_ | refine inBlockQ_exit ?_ | refine inBlockQ_normal ?_ | refine W.block ?_
      | (apply SW.toC; refine SWcall.go (And.intro memoryS.eq_1 ea) ?_) | (apply SW.toOp; refine SWop.go (And.intro memoryS.eq_1 ea) ?_) | (apply SW.toCG; first | refine SWcall.yes (And.intro memoryS.eq_1 ea) ?_ | refine SWcall.no (And.intro memoryS.eq_1 ea) ?_) | (apply SW.toG; first | refine SWop.yes (And.intro memoryS.eq_1 ea) ?_ | refine SWop.no (And.intro memoryS.eq_1 ea) ?_)
    refine W.condZ G (And.intro memoryS.eq_1 ea) ?_ ?_
    all_goals intro hc
    · repeat' first
        | refine W.seq ?_ | (refine W.regS G ?_; dsimp only) | refine SW.nil ?_ | refine thenQ_normal ?_ | refine W.skip ?_ | refine W.exit ?_ | refine thenQ_exit ?_ | refine inBlockQ_exit ?_ | refine inBlockQ_normal ?_ | refine W.block ?_
        | (apply SW.toC; refine SWcall.go (And.intro memoryS.eq_1 ea) ?_) | (apply SW.toOp; refine SWop.go (And.intro memoryS.eq_1 ea) ?_) | (apply SW.toCG; first | refine SWcall.yes (And.intro memoryS.eq_1 ea) ?_ | refine SWcall.no (And.intro memoryS.eq_1 ea) ?_) | (apply SW.toG; first | refine SWop.yes (And.intro memoryS.eq_1 ea) ?_ | refine SWop.no (And.intro memoryS.eq_1 ea) ?_)
      refine W.ret ?_
      repeat' first
        | refine thenQ_ret ?_
        | refine inBlockQ_ret ?_
      refine fin2Z (And.intro memoryS.eq_1 ea) ?_ ?_
      · exact leV_refl
      · exact leV_refl
    · exact absurd hc (by decide)
theorem gr_val {a b : BitVec 64} (ha : a.toNat ≤ 4294967296) (hb : b.toNat ≤ 4294967296) : (grU a b).toNat = memN b.toNat - memN a.toNat := by
  have := mem_lt hb
  unfold grU
  rw [if_pos ⟨ha, hb⟩, BitVec.toNat_ofNat]
  omega
noncomputable def growsS : FSpec := { run := fun ins => match ins with
  | [.u 64 a, .u 64 b, .u 64 c] => some (.b true, [])
  | _ => none }
theorem grows_sound : SoundFn Try.prog glB 5 growsS.run := by
  have G := good_of (P := Try.prog) glB_ro (l := [(16, growS), (17, memoryS), (11, glivesS)]) (by simp only [List.forall_mem_cons]; exact ⟨grow_sound, Memory_sound, lives_sound, by simp⟩)
  refine soundFn_of_W G Try.func5 (by decide) rfl (by decide) ?_
  intro ins ret outs h
  unfold growsS at h
  dsimp only at h
  split at h
  rotate_left
  · cases h
  rename_i a b c
  cases h
  refine ⟨by show 3 ≤ 84; decide, fun w0 ext av => ?_⟩
  rw [Try.ntmps5, st0_eq]
  have nP : ¬ (4294967297#64 : BitVec 64) = 0 := by decide
  have hm : ∀ x : BitVec 64, (x % 4294967297#64).toNat ≤ 4294967296 := fun x => by
    rw [BitVec.toNat_umod]
    show x.toNat % 4294967297 ≤ _
    omega
  have ha := hm a
  have hb := hm b
  have hc := hm c
  obtain ⟨x, hx⟩ : ∃ x, a % 4294967297#64 = x := ⟨_, rfl⟩
  obtain ⟨y, hy⟩ : ∃ y, b % 4294967297#64 = y := ⟨_, rfl⟩
  obtain ⟨z, hz⟩ : ∃ z, c % 4294967297#64 = z := ⟨_, rfl⟩
  rw [hx] at ha
  rw [hy] at hb
  rw [hz] at hc
  clear hm
  repeat' first
    | refine W.seq ?_ | (refine W.regS G ?_; dsimp only) | refine SW.nil ?_ | refine thenQ_normal ?_ | refine W.skip ?_ | refine W.exit ?_ | refine thenQ_exit ?_ | refine inBlockQ_exit ?_ | refine inBlockQ_normal ?_
    | (apply SW.toC; refine SWcall.go (And.intro nP (And.intro hx (And.intro hy hz))) ?_) | (apply SW.toOp; refine SWop.go (And.intro nP (And.intro hx (And.intro hy hz))) ?_) | (apply SW.toCG; first | refine SWcall.yes (And.intro nP (And.intro hx (And.intro hy hz))) ?_ | refine SWcall.no (And.intro nP (And.intro hx (And.intro hy hz))) ?_) | (apply SW.toG; first | refine SWop.yes (And.intro nP (And.intro hx (And.intro hy hz))) ?_ | refine SWop.no (And.intro nP (And.intro hx (And.intro hy hz))) ?_)
  refine W.midI (ι := {p : BitVec 64 × BitVec 64 // p.1.toNat ≤ p.2.toNat ∧ p.2.toNat ≤ 4294967296}) (fun p => sL [(0, .u 64 p.1.1), (1, .u 64 p.1.2), (2, .u 64 z)] [] 84) ?_ ?_
  · refine W.condZ G (And.intro nP (And.intro hx (And.intro hy hz))) ?_ ?_
    all_goals intro hd
    · have hd' : y.toNat < x.toNat := yes_of hd
      repeat' first
        | refine W.seq ?_ | (refine W.regS G ?_; dsimp only) | refine SW.nil ?_ | refine thenQ_normal ?_ | refine W.skip ?_ | refine W.exit ?_ | refine thenQ_exit ?_ | refine inBlockQ_exit ?_ | refine inBlockQ_normal ?_ | refine W.block ?_
        | (apply SW.toC; refine SWcall.go (And.intro nP (And.intro hx (And.intro hy hz))) ?_) | (apply SW.toOp; refine SWop.go (And.intro nP (And.intro hx (And.intro hy hz))) ?_) | (apply SW.toCG; first | refine SWcall.yes (And.intro nP (And.intro hx (And.intro hy hz))) ?_ | refine SWcall.no (And.intro nP (And.intro hx (And.intro hy hz))) ?_) | (apply SW.toG; first | refine SWop.yes (And.intro nP (And.intro hx (And.intro hy hz))) ?_ | refine SWop.no (And.intro nP (And.intro hx (And.intro hy hz))) ?_)
      refine ⟨⟨(y, x), by dsimp only; omega, ha⟩, Imp.le ?_⟩
      exact sL_leZ (And.intro nP (And.intro hx (And.intro hy hz)))
    · have hd' : ¬ y.toNat < x.toNat := no_of hd
      repeat' first
        | refine W.seq ?_ | (refine W.regS G ?_; dsimp only) | refine SW.nil ?_ | refine thenQ_normal ?_ | refine W.skip ?_ | refine W.exit ?_ | refine thenQ_exit ?_ | refine inBlockQ_exit ?_ | refine inBlockQ_normal ?_ | refine W.block ?_
        | (apply SW.toC; refine SWcall.go (And.intro nP (And.intro hx (And.intro hy hz))) ?_) | (apply SW.toOp; refine SWop.go (And.intro nP (And.intro hx (And.intro hy hz))) ?_) | (apply SW.toCG; first | refine SWcall.yes (And.intro nP (And.intro hx (And.intro hy hz))) ?_ | refine SWcall.no (And.intro nP (And.intro hx (And.intro hy hz))) ?_) | (apply SW.toG; first | refine SWop.yes (And.intro nP (And.intro hx (And.intro hy hz))) ?_ | refine SWop.no (And.intro nP (And.intro hx (And.intro hy hz))) ?_)
      refine ⟨⟨(x, y), by dsimp only; omega, hb⟩, Imp.le ?_⟩
      exact sL_leZ (And.intro nP (And.intro hx (And.intro hy hz)))
  clear hx hy hz ha hb
  clear x y
  rintro ⟨⟨x, y⟩, h1, h2⟩
  dsimp only at h1 h2 ⊢
  repeat' first
    | refine W.seq ?_ | (refine W.regS G ?_; dsimp only) | refine SW.nil ?_ | refine thenQ_normal ?_ | refine W.skip ?_ | refine W.exit ?_ | refine thenQ_exit ?_ | refine inBlockQ_exit ?_ | refine inBlockQ_normal ?_
    | (apply SW.toC; refine SWcall.go True.intro ?_) | (apply SW.toOp; refine SWop.go True.intro ?_) | (apply SW.toCG; first | refine SWcall.yes True.intro ?_ | refine SWcall.no True.intro ?_) | (apply SW.toG; first | refine SWop.yes True.intro ?_ | refine SWop.no True.intro ?_)
  refine W.midI (ι := {p : BitVec 64 × BitVec 64 // p.1.toNat ≤ p.2.toNat ∧ x.toNat ≤ p.2.toNat ∧ p.2.toNat ≤ 4294967296}) (fun p => sL [(0, .u 64 x), (1, .u 64 p.1.1), (2, .u 64 p.1.2)] [] 84) ?_ ?_
  · refine W.condZ G True.intro ?_ ?_
    all_goals intro hd
    · have hd' : z.toNat < y.toNat := yes_of hd
      repeat' first
        | refine W.seq ?_ | (refine W.regS G ?_; dsimp only) | refine SW.nil ?_ | refine thenQ_normal ?_ | refine W.skip ?_ | refine W.exit ?_ | refine thenQ_exit ?_ | refine inBlockQ_exit ?_ | refine inBlockQ_normal ?_ | refine W.block ?_
        | (apply SW.toC; refine SWcall.go True.intro ?_) | (apply SW.toOp; refine SWop.go True.intro ?_) | (apply SW.toCG; first | refine SWcall.yes True.intro ?_ | refine SWcall.no True.intro ?_) | (apply SW.toG; first | refine SWop.yes True.intro ?_ | refine SWop.no True.intro ?_)
      refine ⟨⟨(z, y), by dsimp only; omega, h1, h2⟩, Imp.le ?_⟩
      exact sL_leZ True.intro
    · have hd' : ¬ z.toNat < y.toNat := no_of hd
      repeat' first
        | refine W.seq ?_ | (refine W.regS G ?_; dsimp only) | refine SW.nil ?_ | refine thenQ_normal ?_ | refine W.skip ?_ | refine W.exit ?_ | refine thenQ_exit ?_ | refine inBlockQ_exit ?_ | refine inBlockQ_normal ?_ | refine W.block ?_
        | (apply SW.toC; refine SWcall.go True.intro ?_) | (apply SW.toOp; refine SWop.go True.intro ?_) | (apply SW.toCG; first | refine SWcall.yes True.intro ?_ | refine SWcall.no True.intro ?_) | (apply SW.toG; first | refine SWop.yes True.intro ?_ | refine SWop.no True.intro ?_)
      refine ⟨⟨(y, z), by dsimp only; omega, by dsimp only; omega, hc⟩, Imp.le ?_⟩
      exact sL_leZ True.intro
  clear h1 h2 hc
  clear y z
  rintro ⟨⟨y, z⟩, h1, h2, h3⟩
  dsimp only at h1 h2 h3 ⊢
  repeat' first
    | refine W.seq ?_ | (refine W.regS G ?_; dsimp only) | refine SW.nil ?_ | refine thenQ_normal ?_ | refine W.skip ?_ | refine W.exit ?_ | refine thenQ_exit ?_ | refine inBlockQ_exit ?_ | refine inBlockQ_normal ?_
    | (apply SW.toC; refine SWcall.go True.intro ?_) | (apply SW.toOp; refine SWop.go True.intro ?_) | (apply SW.toCG; first | refine SWcall.yes True.intro ?_ | refine SWcall.no True.intro ?_) | (apply SW.toG; first | refine SWop.yes True.intro ?_ | refine SWop.no True.intro ?_)
  refine W.midI (ι := {p : BitVec 64 × BitVec 64 // p.1.toNat ≤ p.2.toNat ∧ p.2.toNat ≤ z.toNat}) (fun p => sL [(0, .u 64 p.1.1), (1, .u 64 p.1.2), (2, .u 64 z)] [] 84) ?_ ?_
  · refine W.condZ G True.intro ?_ ?_
    all_goals intro hd
    · have hd' : y.toNat < x.toNat := yes_of hd
      repeat' first
        | refine W.seq ?_ | (refine W.regS G ?_; dsimp only) | refine SW.nil ?_ | refine thenQ_normal ?_ | refine W.skip ?_ | refine W.exit ?_ | refine thenQ_exit ?_ | refine inBlockQ_exit ?_ | refine inBlockQ_normal ?_ | refine W.block ?_
        | (apply SW.toC; refine SWcall.go True.intro ?_) | (apply SW.toOp; refine SWop.go True.intro ?_) | (apply SW.toCG; first | refine SWcall.yes True.intro ?_ | refine SWcall.no True.intro ?_) | (apply SW.toG; first | refine SWop.yes True.intro ?_ | refine SWop.no True.intro ?_)
      refine ⟨⟨(y, x), by dsimp only; omega, h2⟩, Imp.le ?_⟩
      exact sL_leZ True.intro
    · have hd' : ¬ y.toNat < x.toNat := no_of hd
      repeat' first
        | refine W.seq ?_ | (refine W.regS G ?_; dsimp only) | refine SW.nil ?_ | refine thenQ_normal ?_ | refine W.skip ?_ | refine W.exit ?_ | refine thenQ_exit ?_ | refine inBlockQ_exit ?_ | refine inBlockQ_normal ?_ | refine W.block ?_
        | (apply SW.toC; refine SWcall.go True.intro ?_) | (apply SW.toOp; refine SWop.go True.intro ?_) | (apply SW.toCG; first | refine SWcall.yes True.intro ?_ | refine SWcall.no True.intro ?_) | (apply SW.toG; first | refine SWop.yes True.intro ?_ | refine SWop.no True.intro ?_)
      refine ⟨⟨(x, y), by dsimp only; omega, h1⟩, Imp.le ?_⟩
      exact sL_leZ True.intro
  clear h1 h2
  clear x y
  rintro ⟨⟨x, y⟩, h1, h2⟩
  dsimp only at h1 h2 ⊢
  have v1 := gr_val (a := x) (b := y) (by omega) (by omega)
  have v2 := gr_val (a := y) (b := z) (by omega) (by omega)
  have v3 := gr_val (a := x) (b := z) (by omega) (by omega)
  have m1 := mem_mono h1
  have m2 := mem_mono h2
  have l1 := mem_lt h3
  have w1 := memU_val (x := x) (by omega)
  have w3 := memU_val (x := z) (by omega)
  have b3 : grB x z = true := by
    unfold grB
    rw [decide_eq_true (by omega), decide_eq_true h3]
    rfl
  have f1 : grU x y + grU y z = grU x z := by
    refine BitVec.eq_of_toNat_eq ?_
    rw [BitVec.toNat_add, v1, v2, v3]
    omega
  have f2 : memU z - memU x = grU x z := by
    refine BitVec.eq_of_toNat_eq ?_
    rw [BitVec.toNat_sub, w1, w3, v3]
    omega
  repeat' first
    | refine W.seq ?_ | (refine W.regS G ?_; dsimp only) | refine SW.nil ?_ | refine thenQ_normal ?_ | refine W.skip ?_ | refine W.exit ?_ | refine thenQ_exit ?_ | refine inBlockQ_exit ?_ | refine inBlockQ_normal ?_ | refine W.block ?_
    | (apply SW.toC; refine SWcall.go (And.intro growS.eq_1 (And.intro memoryS.eq_1 (And.intro glivesS.eq_1 (And.intro b3 (And.intro f1 f2))))) ?_) | (apply SW.toOp; refine SWop.go (And.intro growS.eq_1 (And.intro memoryS.eq_1 (And.intro glivesS.eq_1 (And.intro b3 (And.intro f1 f2))))) ?_) | (apply SW.toCG; first | refine SWcall.yes (And.intro growS.eq_1 (And.intro memoryS.eq_1 (And.intro glivesS.eq_1 (And.intro b3 (And.intro f1 f2))))) ?_ | refine SWcall.no (And.intro growS.eq_1 (And.intro memoryS.eq_1 (And.intro glivesS.eq_1 (And.intro b3 (And.intro f1 f2))))) ?_) | (apply SW.toG; first | refine SWop.yes (And.intro growS.eq_1 (And.intro memoryS.eq_1 (And.intro glivesS.eq_1 (And.intro b3 (And.intro f1 f2))))) ?_ | refine SWop.no (And.intro growS.eq_1 (And.intro memoryS.eq_1 (And.intro glivesS.eq_1 (And.intro b3 (And.intro f1 f2))))) ?_)
  refine W.ret ?_
  repeat' first
    | refine thenQ_ret ?_
    | refine inBlockQ_ret ?_
  refine fin1Z (And.intro growS.eq_1 (And.intro memoryS.eq_1 (And.intro glivesS.eq_1 (And.intro b3 (And.intro f1 f2))))) ?_
  exact leV_refl
end Go.Vm.C19

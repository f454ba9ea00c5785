/- What some functions of the program compute, walked through once. -/
import Derived.Test.YtioffpklmlmhcaaDoorVc
import Derived.Test.YtioffpklmlmhcaaDoorProg
import Derived.Test.YtioffpklmlmhcaaDoorCTy
namespace Go.Vm.C03
open Go Go.Proofs
set_option linter.unusedVariables false
set_option linter.unusedSimpArgs false
set_option maxRecDepth 100000
set_option maxHeartbeats 8000000
variable {gl : Nat → Option Row}

def rotF (x : BitVec 64) (k : Int) : BitVec 64 := (x <<< ((BitVec.ofInt 64 k &&& 63#64).toNat)) ||| (x >>> ((64#64 - (BitVec.ofInt 64 k &&& 63#64)).toNat))
def upF (x : BitVec 64) (n : Int) : BitVec 64 := x <<< (BitVec.ofInt 64 (n % 64)).toNat ||| x >>> (BitVec.ofInt 64 (64 - n % 64)).toNat
noncomputable def rotS : FSpec := { run := fun ins => match ins with
  | [.u 64 x, .i k] => some (.u 64 (rotF x k), [])
  | _ => none }
noncomputable def upS : FSpec := { run := fun ins => match ins with
  | [.u 64 x, .i k] => chk (0 ≤ k ∧ k ≤ 1000) (some (.u 64 (upF x k), []))
  | _ => none }
theorem rot_sound (hro : ∀ g r, gl g = some r → r.ro = r) : SoundFn Tryd.prog gl 20 rotS.run := by
  have G := good_of (P := Tryd.prog) hro (l := []) (by simp)
  refine soundFn_of_W G Tryd.func20 (by decide) rfl (by decide) ?_
  intro ins ret outs h
  unfold rotS at h
  dsimp only at h
  split at h
  rotate_left
  · cases h
  rename_i x k
  cases h
  refine ⟨by show 2 ≤ 17; decide, fun w0 ext av => ?_⟩
  rw [Tryd.ntmps20, st0_eq]
  repeat' first
    | refine W.seq ?_ | (refine W.regS G ?_; dsimp only) | refine SW.nil ?_ | refine thenQ_normal ?_ | refine W.skip ?_ | refine W.exit ?_ | refine thenQ_exit ?_ | refine inBlockQ_exit ?_ | refine inBlockQ_normal ?_ | refine W.block ?_
    | (apply SW.toC; refine SWcall.go True.intro ?_) | (apply SW.toOp; refine SWop.go True.intro ?_) | (apply SW.toCG; first | refine SWcall.yes True.intro ?_ | refine SWcall.no True.intro ?_) | (apply SW.toG; first | refine SWop.yes True.intro ?_ | refine SWop.no True.intro ?_)
  refine W.ret ?_
  repeat' first
    | refine thenQ_ret ?_
    | refine inBlockQ_ret ?_
  refine fin1Z True.intro ?_
  exact leV_refl
theorem up_sound (hro : ∀ g r, gl g = some r → r.ro = r) : SoundFn Tryd.prog gl 21 upS.run := by
  have G := good_of (P := Tryd.prog) hro (l := []) (by simp)
  refine soundFn_of_W G Tryd.func21 (by decide) rfl (by decide) ?_
  intro ins ret outs h
  unfold upS at h
  dsimp only at h
  split at h
  rotate_left
  · cases h
  rename_i x k
  obtain ⟨hk, h'⟩ := chk_some h
  clear h
  cases h'
  refine ⟨by show 2 ≤ 17; decide, fun w0 ext av => ?_⟩
  rw [Tryd.ntmps21, st0_eq]
  repeat' first
    | refine W.seq ?_ | (refine W.regS G ?_; dsimp only) | refine SW.nil ?_ | refine thenQ_normal ?_ | refine W.skip ?_ | refine W.exit ?_ | refine thenQ_exit ?_ | refine inBlockQ_exit ?_ | refine inBlockQ_normal ?_ | refine W.block ?_
    | (apply SW.toC; refine SWcall.go True.intro ?_) | (apply SW.toOp; refine SWop.go True.intro ?_) | (apply SW.toCG; first | refine SWcall.yes True.intro ?_ | refine SWcall.no True.intro ?_) | (apply SW.toG; first | refine SWop.yes True.intro ?_ | refine SWop.no True.intro ?_)
  refine W.ret ?_
  repeat' first
    | refine thenQ_ret ?_
    | refine inBlockQ_ret ?_
  refine fin1Z True.intro ?_
  exact leV_refl

/-! ### the constants of the rounds -/
def cStep (j : Nat) (s : BitVec 64 × Int) : BitVec 64 × Int :=
  (if s.2 % 2 = 1 then s.1 ^^^ 1#64 <<< ((1#64 <<< (BitVec.ofInt 64 (j : Int)).toNat) - 1#64).toNat else s.1,
   if 256 ≤ 2 * s.2 then ((((2 * s.2) % 256).toNat ^^^ 113 : Nat) : Int) else 2 * s.2)
def cIn (r : Int) (j : Nat) : BitVec 64 × Int := itN cStep j (0#64, r)
def cRow (i : Nat) : List (BitVec 64) × Int := itN (fun _ s => (s.1 ++ [(cIn s.2 7).1], (cIn s.2 7).2)) i ([], 1)
noncomputable def constS : FSpec := { run := fun ins => match ins with
  | [] => some (.sl true (.u 64 (cRow 24).1), [])
  | _ => none }
theorem cStep_in (j : Nat) (s : BitVec 64 × Int) (h : 0 ≤ s.2 ∧ s.2 < 256) : 0 ≤ (cStep j s).2 ∧ (cStep j s).2 < 256 := by
  unfold cStep
  dsimp only
  split
  · have h1 : ((2 * s.2) % 256).toNat < 2 ^ 8 := by omega
    have h2 : ((2 * s.2) % 256).toNat ^^^ 113 < 2 ^ 8 := Nat.xor_lt_two_pow h1 (by decide)
    omega
  · omega
theorem cIn_in {r : Int} (h : 0 ≤ r ∧ r < 256) (j : Nat) : 0 ≤ (cIn r j).2 ∧ (cIn r j).2 < 256 :=
  itN_inv (p := fun (s : BitVec 64 × Int) => 0 ≤ s.2 ∧ s.2 < 256) (fun j s hs => cStep_in j s hs) j h
theorem cRow_in (i : Nat) : (0 ≤ (cRow i).2 ∧ (cRow i).2 < 256) ∧ (cRow i).1.length = i := by
  induction i with
  | zero => exact ⟨by decide, rfl⟩
  | succ i ih =>
    have e : cRow (i + 1) = ((cRow i).1 ++ [(cIn (cRow i).2 7).1], (cIn (cRow i).2 7).2) := rfl
    rw [e]
    exact ⟨cIn_in ih.1 7, by simp [ih.2]⟩
theorem const_sound (hro : ∀ g r, gl g = some r → r.ro = r) : SoundFn Tryd.prog gl 17 constS.run := by
  have G := good_of (P := Tryd.prog) hro (l := []) (by simp)
  refine soundFn_of_W G Tryd.func17 (by decide) rfl (by decide) ?_
  intro ins ret outs h
  unfold constS at h
  dsimp only at h
  split at h
  rotate_left
  · cases h
  cases h
  refine ⟨by show 0 ≤ 37; decide, fun w0 ext av => ?_⟩
  rw [Tryd.ntmps17, st0_eq]
  repeat' first
    | refine W.seq ?_ | (refine W.regS G ?_; dsimp only) | refine SW.nil ?_ | refine thenQ_normal ?_ | refine W.skip ?_ | refine W.exit ?_ | refine thenQ_exit ?_ | refine inBlockQ_exit ?_ | refine inBlockQ_normal ?_ | refine W.block ?_
    | (apply SW.toC; refine SWcall.go True.intro ?_) | (apply SW.toOp; refine SWop.go True.intro ?_) | (apply SW.toCG; first | refine SWcall.yes True.intro ?_ | refine SWcall.no True.intro ?_) | (apply SW.toG; first | refine SWop.yes True.intro ?_ | refine SWop.no True.intro ?_)
  refine W.loopI (ι := {i : Nat // i ≤ 24}) (fun i => sL [(1, .gr 6 i.1), (2, .i (cRow i.1).2), (3, .i i.1)] [(6, .row (.u 64 (cRow i.1).1))] 37) (fun i => 24 - i.1) ⟨0, Nat.zero_le _⟩ (Imp.le ?_) ?_
  · exact sL_leZ True.intro
  rintro ⟨i, hi⟩
  obtain ⟨hr, hl⟩ := cRow_in i
  have e : cRow (i + 1) = ((cRow i).1 ++ [(cIn (cRow i).2 7).1], (cIn (cRow i).2 7).2) := rfl
  have hend : i = 24 → (cRow 24).1 = (cRow i).1 := by rintro rfl; rfl
  generalize (cRow i).1 = l at e hl hend ⊢
  generalize (cRow i).2 = r0 at e hr ⊢
  repeat' first
    | refine W.seq ?_ | (refine W.regS G ?_; dsimp only) | refine SW.nil ?_ | refine thenQ_normal ?_ | refine W.skip ?_ | refine W.exit ?_ | refine thenQ_exit ?_ | refine inBlockQ_exit ?_ | refine inBlockQ_normal ?_ | refine W.block ?_
    | (apply SW.toC; refine SWcall.go hl ?_) | (apply SW.toOp; refine SWop.go hl ?_) | (apply SW.toCG; first | refine SWcall.yes hl ?_ | refine SWcall.no hl ?_) | (apply SW.toG; first | refine SWop.yes hl ?_ | refine SWop.no hl ?_)
  refine W.condZ G hl ?_ ?_
  all_goals intro ht
  · have ht' := of_decide_eq_true ht
    repeat' first
      | refine W.seq ?_ | (refine W.regS G ?_; dsimp only) | refine SW.nil ?_ | refine thenQ_normal ?_ | refine W.skip ?_ | refine W.exit ?_ | refine thenQ_exit ?_ | refine inBlockQ_exit ?_ | refine inBlockQ_normal ?_ | refine W.block ?_
      | (apply SW.toC; refine SWcall.go hl ?_) | (apply SW.toOp; refine SWop.go hl ?_) | (apply SW.toCG; first | refine SWcall.yes hl ?_ | refine SWcall.no hl ?_) | (apply SW.toG; first | refine SWop.yes hl ?_ | refine SWop.no hl ?_)
    refine W.loopI (ι := {j : Nat // j ≤ 7}) (fun j => sL [(1, .gr 6 i), (2, .i (cIn r0 j.1).2), (3, .i i), (4, .u 64 (cIn r0 j.1).1), (5, .i j.1)] [(6, .row (.u 64 l))] 37) (fun j => 7 - j.1) ⟨0, Nat.zero_le _⟩ (Imp.le ?_) ?_
    · exact sL_leZ hl
    rintro ⟨j, hj⟩
    have hs := cIn_in hr j
    have e2 : cIn r0 (j + 1) = cStep j (cIn r0 j) := rfl
    have hend2 : j = 7 → cIn r0 7 = cIn r0 j := by rintro rfl; rfl
    generalize cIn r0 j = s at hs e2 hend2 ⊢
    repeat' first
      | refine W.seq ?_ | (refine W.regS G ?_; dsimp only) | refine SW.nil ?_ | refine thenQ_normal ?_ | refine W.skip ?_ | refine W.exit ?_ | refine thenQ_exit ?_ | refine inBlockQ_exit ?_ | refine inBlockQ_normal ?_ | refine W.block ?_
      | (apply SW.toC; refine SWcall.go hl ?_) | (apply SW.toOp; refine SWop.go hl ?_) | (apply SW.toCG; first | refine SWcall.yes hl ?_ | refine SWcall.no hl ?_) | (apply SW.toG; first | refine SWop.yes hl ?_ | refine SWop.no hl ?_)
    refine W.condZ G hl ?_ ?_
    all_goals intro hu
    · have hu' := of_decide_eq_true hu
      repeat' first
        | refine W.seq ?_ | (refine W.regS G ?_; dsimp only) | refine SW.nil ?_ | refine thenQ_normal ?_ | refine W.skip ?_ | refine W.exit ?_ | refine thenQ_exit ?_ | refine inBlockQ_exit ?_ | refine inBlockQ_normal ?_ | refine W.block ?_
        | (apply SW.toC; refine SWcall.go hl ?_) | (apply SW.toOp; refine SWop.go hl ?_) | (apply SW.toCG; first | refine SWcall.yes hl ?_ | refine SWcall.no hl ?_) | (apply SW.toG; first | refine SWop.yes hl ?_ | refine SWop.no hl ?_)
      refine W.mid (sL [(1, .gr 6 i), (2, .i s.2), (3, .i i), (4, .u 64 (cStep j s).1), (5, .i j)] [(6, .row (.u 64 l))] 37) ?_ ?_
      · refine W.condZ G hl ?_ ?_
        all_goals intro hv
        · have hv' := of_decide_eq_true hv
          have e3 : (cStep j s).1 = s.1 ^^^ 1#64 <<< ((1#64 <<< (BitVec.ofInt 64 (j : Int)).toNat) - 1#64).toNat := by simp only [cStep, if_pos hv']
          repeat' first
            | refine W.seq ?_ | (refine W.regS G ?_; dsimp only) | refine SW.nil ?_ | refine thenQ_normal ?_ | refine W.skip ?_ | refine W.exit ?_ | refine thenQ_exit ?_ | refine inBlockQ_exit ?_ | refine inBlockQ_normal ?_ | refine W.block ?_
            | (apply SW.toC; refine SWcall.go hl ?_) | (apply SW.toOp; refine SWop.go hl ?_) | (apply SW.toCG; first | refine SWcall.yes hl ?_ | refine SWcall.no hl ?_) | (apply SW.toG; first | refine SWop.yes hl ?_ | refine SWop.no hl ?_)
          refine Imp.le ?_
          exact sL_leZ (And.intro e3 hl)
        · have hv' := of_decide_eq_false hv
          have e3 : (cStep j s).1 = s.1 := by simp only [cStep, if_neg hv']
          repeat' first
            | refine W.seq ?_ | (refine W.regS G ?_; dsimp only) | refine SW.nil ?_ | refine thenQ_normal ?_ | refine W.skip ?_ | refine W.exit ?_ | refine thenQ_exit ?_ | refine inBlockQ_exit ?_ | refine inBlockQ_normal ?_ | refine W.block ?_
            | (apply SW.toC; refine SWcall.go hl ?_) | (apply SW.toOp; refine SWop.go hl ?_) | (apply SW.toCG; first | refine SWcall.yes hl ?_ | refine SWcall.no hl ?_) | (apply SW.toG; first | refine SWop.yes hl ?_ | refine SWop.no hl ?_)
          refine Imp.le ?_
          exact sL_leZ (And.intro e3 hl)
      repeat' first
        | refine W.seq ?_ | (refine W.regS G ?_; dsimp only) | refine SW.nil ?_ | refine thenQ_normal ?_ | refine W.skip ?_ | refine W.exit ?_ | refine thenQ_exit ?_ | refine inBlockQ_exit ?_ | refine inBlockQ_normal ?_ | refine W.block ?_
        | (apply SW.toC; refine SWcall.go hl ?_) | (apply SW.toOp; refine SWop.go hl ?_) | (apply SW.toCG; first | refine SWcall.yes hl ?_ | refine SWcall.no hl ?_) | (apply SW.toG; first | refine SWop.yes hl ?_ | refine SWop.no hl ?_)
      refine W.midB (sL [(1, .gr 6 i), (2, .i (cStep j s).2), (3, .i i), (4, .u 64 (cStep j s).1), (5, .i j)] [(6, .row (.u 64 l))] 37) ?_ ?_
      · refine W.condZ G hl ?_ ?_
        all_goals intro hv
        · have hv' := of_decide_eq_true hv
          have e3 : (cStep j s).2 = ((((2 * s.2) % 256).toNat ^^^ 113 : Nat) : Int) := by simp only [cStep, if_pos hv']
          repeat' first
            | refine W.seq ?_ | (refine W.regS G ?_; dsimp only) | refine SW.nil ?_ | refine thenQ_normal ?_ | refine W.skip ?_ | refine W.exit ?_ | refine thenQ_exit ?_ | refine inBlockQ_exit ?_ | refine inBlockQ_normal ?_ | refine W.block ?_
            | (apply SW.toC; refine SWcall.go hl ?_) | (apply SW.toOp; refine SWop.go hl ?_) | (apply SW.toCG; first | refine SWcall.yes hl ?_ | refine SWcall.no hl ?_) | (apply SW.toG; first | refine SWop.yes hl ?_ | refine SWop.no hl ?_)
          refine Imp.le ?_
          exact sL_leZ (And.intro e3 hl)
        · have hv' := of_decide_eq_false hv
          have e3 : (cStep j s).2 = 2 * s.2 := by simp only [cStep, if_neg hv']
          repeat' first
            | refine W.seq ?_ | (refine W.regS G ?_; dsimp only) | refine SW.nil ?_ | refine thenQ_normal ?_ | refine W.skip ?_ | refine W.exit ?_ | refine thenQ_exit ?_ | refine inBlockQ_exit ?_ | refine inBlockQ_normal ?_ | refine W.block ?_
            | (apply SW.toC; refine SWcall.go hl ?_) | (apply SW.toOp; refine SWop.go hl ?_) | (apply SW.toCG; first | refine SWcall.yes hl ?_ | refine SWcall.no hl ?_) | (apply SW.toG; first | refine SWop.yes hl ?_ | refine SWop.no hl ?_)
          refine Imp.le ?_
          exact sL_leZ (And.intro e3 hl)
      repeat' first
        | refine W.seq ?_ | (refine W.regS G ?_; dsimp only) | refine SW.nil ?_ | refine thenQ_normal ?_ | refine W.skip ?_ | refine W.exit ?_ | refine thenQ_exit ?_ | refine inBlockQ_exit ?_ | refine inBlockQ_normal ?_ | refine W.block ?_
        | (apply SW.toC; refine SWcall.go hl ?_) | (apply SW.toOp; refine SWop.go hl ?_) | (apply SW.toCG; first | refine SWcall.yes hl ?_ | refine SWcall.no hl ?_) | (apply SW.toG; first | refine SWop.yes hl ?_ | refine SWop.no hl ?_)
      refine ⟨⟨j + 1, by omega⟩, Imp.le ?_, by show _ - (j + 1) < _ - j; omega⟩
      exact sL_leZ (And.intro e2 hl)
    have hu' := of_decide_eq_false hu
    have hj7 := hend2 (by omega)
    repeat' first
      | refine W.seq ?_ | (refine W.regS G ?_; dsimp only) | refine SW.nil ?_ | refine thenQ_normal ?_ | refine W.skip ?_ | refine W.exit ?_ | refine thenQ_exit ?_ | refine inBlockQ_exit ?_ | refine inBlockQ_normal ?_ | refine W.block ?_
      | (apply SW.toC; refine SWcall.go hl ?_) | (apply SW.toOp; refine SWop.go hl ?_) | (apply SW.toCG; first | refine SWcall.yes hl ?_ | refine SWcall.no hl ?_) | (apply SW.toG; first | refine SWop.yes hl ?_ | refine SWop.no hl ?_)
    refine ⟨⟨i + 1, by omega⟩, Imp.le ?_, by show _ - (i + 1) < _ - i; omega⟩
    exact sL_leZ (And.intro e (And.intro hj7 hl))
  have ht' := of_decide_eq_false ht
  obtain rfl : i = 24 := by omega
  repeat' first
    | refine W.seq ?_ | (refine W.regS G ?_; dsimp only) | refine SW.nil ?_ | refine thenQ_normal ?_ | refine W.skip ?_ | refine W.exit ?_ | refine thenQ_exit ?_ | refine inBlockQ_exit ?_ | refine inBlockQ_normal ?_ | refine W.block ?_
    | (apply SW.toC; refine SWcall.go hl ?_) | (apply SW.toOp; refine SWop.go hl ?_) | (apply SW.toCG; first | refine SWcall.yes hl ?_ | refine SWcall.no hl ?_) | (apply SW.toG; first | refine SWop.yes hl ?_ | refine SWop.no hl ?_)
  refine W.ret ?_
  repeat' first
    | refine thenQ_ret ?_
    | refine inBlockQ_ret ?_
  refine fin1Z hl ?_
  rw [← hend rfl]
  exact leV_refl
end Go.Vm.C03

/- What some functions of the program compute, walked through once. -/
import Derived.Test.YthhabhaljdcgpaaDoorCB
namespace Go.Vm.C06
open Go Go.Proofs
set_option linter.unusedVariables false
set_option linter.unusedSimpArgs false
set_option maxRecDepth 100000
set_option maxHeartbeats 8000000
variable {gl : Nat → Option Row}

/-! ### the first primes -/

/-- is no one of the first i of ps a divisor of p? -/
def primeTo (ps : List (BitVec 64)) (p : BitVec 64) (i : Nat) : Bool := itN (fun i b => b && !decide (p % ps.getD i 0 = 0#64)) i true
def primeStep (s : List (BitVec 64) × BitVec 64) : List (BitVec 64) × BitVec 64 :=
  (if primeTo s.1 s.2 s.1.length = true then s.1 ++ [s.2] else s.1, s.2 + 1#64)
def primesIt (k : Nat) : List (BitVec 64) × BitVec 64 := itN (fun _ => primeStep) k ([], 2#64)
noncomputable def primesS (n k : Nat) : FSpec := { run := fun ins => match ins with
  | [.i m] => chk (m = n) (some (.sl true (.u 64 (primesIt k).1), []))
  | _ => none }
/-- that k rounds find n of them, and no fewer -/
structure PrimesOK (n k : Nat) : Prop where
  len : (primesIt k).1.length = n
  few : ∀ j, j < k → (primesIt j).1.length < n
  ne : ∀ j, j < k → ∀ i, i < (primesIt j).1.length → ¬ (primesIt j).1.getD i 0 = 0

theorem primes_sound (hro : ∀ g r, gl g = some r → r.ro = r) {n k : Nat} (ok : PrimesOK n k) (hn : n < 1000) : SoundFn Tryd.prog gl 12 (primesS n k).run := by
  have G := good_of (P := Tryd.prog) hro (l := []) (by simp)
  refine soundFn_of_W G Tryd.func12 (by decide) rfl (by decide) ?_
  intro ins ret outs h
  unfold primesS at h
  dsimp only at h
  split at h
  rotate_left
  · cases h
  rename_i m
  obtain ⟨hm, h'⟩ := chk_some h
  clear h
  subst hm
  cases h'
  refine ⟨by show 1 ≤ 36; decide, fun w0 ext av => ?_⟩
  rw [Tryd.ntmps12, st0_eq]
  repeat' first
    | refine W.seq ?_ | (refine W.regS G ?_; dsimp only) | refine SW.nil ?_ | refine thenQ_normal ?_ | refine W.skip ?_ | refine W.exit ?_ | refine thenQ_exit ?_ | refine inBlockQ_exit ?_ | refine inBlockQ_normal ?_ | refine W.block ?_
    | (apply SW.toC; refine SWcall.go True.intro ?_) | (apply SW.toOp; refine SWop.go True.intro ?_) | (apply SW.toCG; first | refine SWcall.yes True.intro ?_ | refine SWcall.no True.intro ?_) | (apply SW.toG; first | refine SWop.yes True.intro ?_ | refine SWop.no True.intro ?_)
  refine W.loopI (ι := {j : Nat // j ≤ k}) (fun j => sL [(0, .i n), (3, .gr 7 (primesIt j.1).1.length), (4, .u 64 (primesIt j.1).2)] [(7, .row (.u 64 (primesIt j.1).1))] 36) (fun j => k - j.1) ⟨0, Nat.zero_le _⟩ (Imp.le ?_) ?_
  · exact sL_leZ True.intro
  rintro ⟨j, hj⟩
  have L0 : (primesIt j).1.length ≤ n := by
    rcases Nat.lt_or_ge j k with h | h
    · exact Nat.le_of_lt (ok.few j h)
    · obtain rfl : j = k := by omega
      exact Nat.le_of_eq ok.len
  repeat' first
    | refine W.seq ?_ | (refine W.regS G ?_; dsimp only) | refine SW.nil ?_ | refine thenQ_normal ?_ | refine W.skip ?_ | refine W.exit ?_ | refine thenQ_exit ?_ | refine inBlockQ_exit ?_ | refine inBlockQ_normal ?_ | refine W.block ?_
    | (apply SW.toC; refine SWcall.go True.intro ?_) | (apply SW.toOp; refine SWop.go True.intro ?_) | (apply SW.toCG; first | refine SWcall.yes True.intro ?_ | refine SWcall.no True.intro ?_) | (apply SW.toG; first | refine SWop.yes True.intro ?_ | refine SWop.no True.intro ?_)
  refine W.condZ G True.intro ?_ ?_
  all_goals intro ht
  · have ht' := of_decide_eq_true ht
    have hjk : j < k := by
      rcases Nat.lt_or_ge j k with h | h
      · exact h
      · obtain rfl : j = k := by omega
        have := ok.len; omega
    repeat' first
      | refine W.seq ?_ | (refine W.regS G ?_; dsimp only) | refine SW.nil ?_ | refine thenQ_normal ?_ | refine W.skip ?_ | refine W.exit ?_ | refine thenQ_exit ?_ | refine inBlockQ_exit ?_ | refine inBlockQ_normal ?_ | refine W.block ?_
      | (apply SW.toC; refine SWcall.go True.intro ?_) | (apply SW.toOp; refine SWop.go True.intro ?_) | (apply SW.toCG; first | refine SWcall.yes True.intro ?_ | refine SWcall.no True.intro ?_) | (apply SW.toG; first | refine SWop.yes True.intro ?_ | refine SWop.no True.intro ?_)
    refine W.loopI (ι := {i : Nat // i ≤ (primesIt j).1.length}) (fun i => sL [(0, .i n), (3, .gr 7 (primesIt j).1.length), (4, .u 64 (primesIt j).2), (5, .b (primeTo (primesIt j).1 (primesIt j).2 i)), (6, .i i.1)] [(7, .row (.u 64 (primesIt j).1))] 36) (fun i => (primesIt j).1.length - i.1) ⟨0, Nat.zero_le _⟩ (Imp.le ?_) ?_
    · exact sL_leZ True.intro
    rintro ⟨i, hi⟩
    repeat' first
      | refine W.seq ?_ | (refine W.regS G ?_; dsimp only) | refine SW.nil ?_ | refine thenQ_normal ?_ | refine W.skip ?_ | refine W.exit ?_ | refine thenQ_exit ?_ | refine inBlockQ_exit ?_ | refine inBlockQ_normal ?_ | refine W.block ?_
      | (apply SW.toC; refine SWcall.go True.intro ?_) | (apply SW.toOp; refine SWop.go True.intro ?_) | (apply SW.toCG; first | refine SWcall.yes True.intro ?_ | refine SWcall.no True.intro ?_) | (apply SW.toG; first | refine SWop.yes True.intro ?_ | refine SWop.no True.intro ?_)
    refine W.condZ G True.intro ?_ ?_
    all_goals intro hu
    · have hu' := of_decide_eq_true hu
      have hz := ok.ne j hjk i (by omega)
      cases hb : primeTo (primesIt j).1 (primesIt j).2 i
      · skip
        repeat' first
          | refine W.seq ?_ | (refine W.regS G ?_; dsimp only) | refine SW.nil ?_ | refine thenQ_normal ?_ | refine W.skip ?_ | refine W.exit ?_ | refine thenQ_exit ?_ | refine inBlockQ_exit ?_ | refine inBlockQ_normal ?_ | refine W.block ?_
          | (apply SW.toC; refine SWcall.go hb ?_) | (apply SW.toOp; refine SWop.go hb ?_) | (apply SW.toCG; first | refine SWcall.yes hb ?_ | refine SWcall.no hb ?_) | (apply SW.toG; first | refine SWop.yes hb ?_ | refine SWop.no hb ?_)
        refine ⟨⟨i + 1, by omega⟩, Imp.le ?_, by show _ - (i + 1) < _ - i; omega⟩
        have hb' : primeTo (primesIt j).1 (primesIt j).2 (i + 1) = false := by simp [primeTo, itN] at hb ⊢; simp [hb]
        exact sL_leZ (And.intro hb' hb)
      · skip
        repeat' first
          | refine W.seq ?_ | (refine W.regS G ?_; dsimp only) | refine SW.nil ?_ | refine thenQ_normal ?_ | refine W.skip ?_ | refine W.exit ?_ | refine thenQ_exit ?_ | refine inBlockQ_exit ?_ | refine inBlockQ_normal ?_ | refine W.block ?_
          | (apply SW.toC; refine SWcall.go (And.intro hb hz) ?_) | (apply SW.toOp; refine SWop.go (And.intro hb hz) ?_) | (apply SW.toCG; first | refine SWcall.yes (And.intro hb hz) ?_ | refine SWcall.no (And.intro hb hz) ?_) | (apply SW.toG; first | refine SWop.yes (And.intro hb hz) ?_ | refine SWop.no (And.intro hb hz) ?_)
        refine ⟨⟨i + 1, by omega⟩, Imp.le ?_, by show _ - (i + 1) < _ - i; omega⟩
        have hb' : primeTo (primesIt j).1 (primesIt j).2 (i + 1) = !decide ((primesIt j).2 % (primesIt j).1.getD i 0 = 0#64) := by
          show (primeTo (primesIt j).1 (primesIt j).2 i && _) = _
          rw [hb]; rfl
        exact sL_leZ (And.intro hb' (And.intro hb hz))
    · have hu' := of_decide_eq_false hu
      obtain rfl : i = (primesIt j).1.length := by omega
      repeat' first
        | refine W.seq ?_ | (refine W.regS G ?_; dsimp only) | refine SW.nil ?_ | refine thenQ_normal ?_ | refine W.skip ?_ | refine W.exit ?_ | refine thenQ_exit ?_ | refine inBlockQ_exit ?_ | refine inBlockQ_normal ?_ | refine W.block ?_
        | (apply SW.toC; refine SWcall.go True.intro ?_) | (apply SW.toOp; refine SWop.go True.intro ?_) | (apply SW.toCG; first | refine SWcall.yes True.intro ?_ | refine SWcall.no True.intro ?_) | (apply SW.toG; first | refine SWop.yes True.intro ?_ | refine SWop.no True.intro ?_)
      refine W.condZ G True.intro ?_ ?_
      all_goals intro hv
      · repeat' first
          | refine W.seq ?_ | (refine W.regS G ?_; dsimp only) | refine SW.nil ?_ | refine thenQ_normal ?_ | refine W.skip ?_ | refine W.exit ?_ | refine thenQ_exit ?_ | refine inBlockQ_exit ?_ | refine inBlockQ_normal ?_ | refine W.block ?_
          | (apply SW.toC; refine SWcall.go True.intro ?_) | (apply SW.toOp; refine SWop.go True.intro ?_) | (apply SW.toCG; first | refine SWcall.yes True.intro ?_ | refine SWcall.no True.intro ?_) | (apply SW.toG; first | refine SWop.yes True.intro ?_ | refine SWop.no True.intro ?_)
        refine ⟨⟨j + 1, by omega⟩, Imp.le ?_, by show _ - (j + 1) < _ - j; omega⟩
        have e : primesIt (j + 1) = ((primesIt j).1 ++ [(primesIt j).2], (primesIt j).2 + 1#64) := by
          show primeStep (primesIt j) = _
          simp only [primeStep, hv, if_true]
        have e' : (primesIt (j + 1)).1.length = (primesIt j).1.length + 1 := by rw [e]; simp
        exact sL_leZ e
      · repeat' first
          | refine W.seq ?_ | (refine W.regS G ?_; dsimp only) | refine SW.nil ?_ | refine thenQ_normal ?_ | refine W.skip ?_ | refine W.exit ?_ | refine thenQ_exit ?_ | refine inBlockQ_exit ?_ | refine inBlockQ_normal ?_ | refine W.block ?_
          | (apply SW.toC; refine SWcall.go True.intro ?_) | (apply SW.toOp; refine SWop.go True.intro ?_) | (apply SW.toCG; first | refine SWcall.yes True.intro ?_ | refine SWcall.no True.intro ?_) | (apply SW.toG; first | refine SWop.yes True.intro ?_ | refine SWop.no True.intro ?_)
        refine ⟨⟨j + 1, by omega⟩, Imp.le ?_, by show _ - (j + 1) < _ - j; omega⟩
        have e : primesIt (j + 1) = ((primesIt j).1, (primesIt j).2 + 1#64) := by
          show primeStep (primesIt j) = _
          simp [primeStep, hv]
        exact sL_leZ e
  · have ht' := of_decide_eq_false ht
    obtain rfl : j = k := by
      rcases Nat.lt_or_ge j k with h | h
      · have := ok.few j h; omega
      · omega
    repeat' first
      | refine W.seq ?_ | (refine W.regS G ?_; dsimp only) | refine SW.nil ?_ | refine thenQ_normal ?_ | refine W.skip ?_ | refine W.exit ?_ | refine thenQ_exit ?_ | refine inBlockQ_exit ?_ | refine inBlockQ_normal ?_ | refine W.block ?_
      | (apply SW.toC; refine SWcall.go True.intro ?_) | (apply SW.toOp; refine SWop.go True.intro ?_) | (apply SW.toCG; first | refine SWcall.yes True.intro ?_ | refine SWcall.no True.intro ?_) | (apply SW.toG; first | refine SWop.yes True.intro ?_ | refine SWop.no True.intro ?_)
    refine W.ret ?_
    repeat' first
      | refine thenQ_ret ?_
      | refine inBlockQ_ret ?_
    refine fin1Z True.intro ?_
    exact leV_refl
end Go.Vm.C06

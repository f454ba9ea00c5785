/- What some functions of the program compute, walked through once. -/
import Derived.Test.YthhabhaljdcgpaaDoorCC
namespace Go.Vm.C06
open Go Go.Proofs
set_option linter.unusedVariables false
set_option linter.unusedSimpArgs false
set_option maxRecDepth 100000
set_option maxHeartbeats 8000000
variable {gl : Nat → Option Row}

/-! ### roots -/
def limTo (n : BitVec 64) (k : Nat) : List (BitVec 64) := itN (fun _ l => [0#64] ++ l) k [n]
def fracY (i : Nat) (x : List (BitVec 64)) : List (BitVec 64) := x.set ((i : Int) / 16).toNat (x.getD ((i : Int) / 16).toNat 0 ||| 1#64 <<< (BitVec.ofInt 64 ((i : Int) % 16)).toNat)
def fracP (R : Nat) (y : List (BitVec 64)) : List (BitVec 64) := if R = 3 then prodF (prodF y y) y else prodF y y
def fracStep (R : Nat) (lim : List (BitVec 64)) (i : Nat) (x : List (BitVec 64)) : List (BitVec 64) := if lessF lim (fracP R (fracY i x)) = true then x else fracY i x
def fracTo (n : BitVec 64) (R B k : Nat) : List (BitVec 64) := itN (fun k x => fracStep R (limTo n (R * B / 16)) (B + 4 - k) x) k (zeros 64 (B / 16 + 1))
def fracOut (x : List (BitVec 64)) (c k : Nat) : BitVec 64 := itN (fun k o => o <<< 16 ||| x.getD (c - 1 - k) 0) k 0#64
def fracF (n : BitVec 64) (R B : Nat) : BitVec 64 := fracOut (fracTo n R B (B + 5)) (B / 16) (B / 16)
noncomputable def fracS : FSpec := { run := fun ins => match ins with
  | [.u 64 n, .i r, .i b] => chk (0 ≤ r ∧ r ≤ 3 ∧ 0 ≤ b ∧ b ≤ 1000 ∧ b % 16 = 0) (some (.u 64 (fracF n r.toNat b.toNat), []))
  | _ => none }

theorem limTo_len (n : BitVec 64) (k : Nat) : (limTo n k).length = k + 1 := by
  induction k with
  | zero => rfl
  | succ k ih => show ([0#64] ++ limTo n k).length = _; simp [ih]
theorem fracY_len (i : Nat) (x : List (BitVec 64)) : (fracY i x).length = x.length := by simp [fracY]
theorem fracTo_len (n : BitVec 64) (R B k : Nat) : (fracTo n R B k).length = B / 16 + 1 :=
  itN_inv (p := fun (s : List (BitVec 64)) => s.length = B / 16 + 1) (fun i s hs => by simp only [fracStep]; split <;> simp [fracY_len, hs]) k (by simp [zeros])
theorem prodF_len (a b : List (BitVec 64)) : (prodF a b).length = a.length + b.length := prodTo_len _ _ _

theorem frac_sound (hro : ∀ g r, gl g = some r → r.ro = r) : SoundFn Tryd.prog gl 13 fracS.run := by
  have G := good_of (P := Tryd.prog) hro (l := [(19, prodS), (20, lessS)]) (by simp only [List.forall_mem_cons]; exact ⟨prod_sound hro, less_sound hro, by simp⟩)
  refine soundFn_of_W G Tryd.func13 (by decide) rfl (by decide) ?_
  intro ins ret outs h
  unfold fracS at h
  dsimp only at h
  split at h
  rotate_left
  · cases h
  rename_i n r b
  obtain ⟨hb, h'⟩ := chk_some h
  clear h
  obtain ⟨R, rfl⟩ : ∃ R : Nat, r = R := ⟨r.toNat, by omega⟩
  obtain ⟨B, rfl⟩ : ∃ B : Nat, b = B := ⟨b.toNat, by omega⟩
  cases h'
  simp only [Int.toNat_natCast]
  have hR : R ≤ 3 := by omega
  have hB : B ≤ 1000 := by omega
  have hB16 : B % 16 = 0 := by omega
  have hRB : R * B ≤ 3000 := Nat.mul_le_mul hR hB
  have hRB' : (R : Int) * (B : Int) = ((R * B : Nat) : Int) := by rw [Int.natCast_mul]
  refine ⟨by show 3 ≤ 83; decide, fun w0 ext av => ?_⟩
  rw [Tryd.ntmps13, st0_eq]
  repeat' first
    | refine W.seq ?_ | (refine W.regS G ?_; dsimp only) | refine SW.nil ?_ | refine thenQ_normal ?_ | refine W.skip ?_ | refine W.exit ?_ | refine thenQ_exit ?_ | refine inBlockQ_exit ?_ | refine inBlockQ_normal ?_ | refine W.block ?_
    | (apply SW.toC; refine SWcall.go hRB' ?_) | (apply SW.toOp; refine SWop.go hRB' ?_) | (apply SW.toCG; first | refine SWcall.yes hRB' ?_ | refine SWcall.no hRB' ?_) | (apply SW.toG; first | refine SWop.yes hRB' ?_ | refine SWop.no hRB' ?_)
  refine W.loopI (ι := {k : Nat // k ≤ R * B / 16}) (fun k => sL [(1, .i R), (2, .i B), (7, .gr 900 (k.1 + 1)), (8, .i k.1)] [(900, .row (.u 64 (limTo n k.1)))] 83) (fun k => R * B / 16 - k.1) ⟨0, Nat.zero_le _⟩ (Imp.swap 16 900 (by decide) (by decide) ?_) ?_
  · exact sL_leZ hRB'
  rintro ⟨k, hk⟩
  have L1 := limTo_len n k
  repeat' first
    | refine W.seq ?_ | (refine W.regS G ?_; dsimp only) | refine SW.nil ?_ | refine thenQ_normal ?_ | refine W.skip ?_ | refine W.exit ?_ | refine thenQ_exit ?_ | refine inBlockQ_exit ?_ | refine inBlockQ_normal ?_ | refine W.block ?_
    | (apply SW.toC; refine SWcall.go (And.intro hRB' L1) ?_) | (apply SW.toOp; refine SWop.go (And.intro hRB' L1) ?_) | (apply SW.toCG; first | refine SWcall.yes (And.intro hRB' L1) ?_ | refine SWcall.no (And.intro hRB' L1) ?_) | (apply SW.toG; first | refine SWop.yes (And.intro hRB' L1) ?_ | refine SWop.no (And.intro hRB' L1) ?_)
  refine W.condZ G (And.intro hRB' L1) ?_ ?_
  all_goals intro ht
  · have ht' := of_decide_eq_true ht
    repeat' first
      | refine W.seq ?_ | (refine W.regS G ?_; dsimp only) | refine SW.nil ?_ | refine thenQ_normal ?_ | refine W.skip ?_ | refine W.exit ?_ | refine thenQ_exit ?_ | refine inBlockQ_exit ?_ | refine inBlockQ_normal ?_ | refine W.block ?_
      | (apply SW.toC; refine SWcall.go (And.intro hRB' L1) ?_) | (apply SW.toOp; refine SWop.go (And.intro hRB' L1) ?_) | (apply SW.toCG; first | refine SWcall.yes (And.intro hRB' L1) ?_ | refine SWcall.no (And.intro hRB' L1) ?_) | (apply SW.toG; first | refine SWop.yes (And.intro hRB' L1) ?_ | refine SWop.no (And.intro hRB' L1) ?_)
    refine ⟨⟨k + 1, by omega⟩, Imp.swap 25 900 (by decide) (by decide) ?_, by show _ - (k + 1) < _ - k; omega⟩
    exact sL_leZ (And.intro hRB' L1)
  · have ht' := of_decide_eq_false ht
    obtain rfl : k = R * B / 16 := by omega
    repeat' first
      | refine W.seq ?_ | (refine W.regS G ?_; dsimp only) | refine SW.nil ?_ | refine thenQ_normal ?_ | refine W.skip ?_ | refine W.exit ?_ | refine thenQ_exit ?_ | refine inBlockQ_exit ?_ | refine inBlockQ_normal ?_ | refine W.block ?_
      | (apply SW.toC; refine SWcall.go True.intro ?_) | (apply SW.toOp; refine SWop.go True.intro ?_) | (apply SW.toCG; first | refine SWcall.yes True.intro ?_ | refine SWcall.no True.intro ?_) | (apply SW.toG; first | refine SWop.yes True.intro ?_ | refine SWop.no True.intro ?_)
    have hB1 : ((B : Int) / 16 + 1).toNat = B / 16 + 1 := by omega
    have hB2 : (B : Int) / 16 = ((B / 16 : Nat) : Int) := by omega
    generalize hlim : limTo n (R * B / 16) = lim at L1 ⊢
    refine W.loopI (ι := {k : Nat // k ≤ B + 5}) (fun k => sL [(1, .i R), (2, .i B), (7, .gr 900 (R * B / 16 + 1)), (9, .gr 901 (B / 16 + 1)), (10, .i ((B : Int) + 4 - k.1))] [(900, .row (.u 64 lim)), (901, .row (.u 64 (fracTo n R B k.1)))] 83) (fun k => B + 5 - k.1) ⟨0, Nat.zero_le _⟩ (Imp.swap 31 901 (by decide) (by decide) ?_) ?_
    · exact sL_leZ hB1
    rintro ⟨k, hk⟩
    have L2 := fracTo_len n R B k
    repeat' first
      | refine W.seq ?_ | (refine W.regS G ?_; dsimp only) | refine SW.nil ?_ | refine thenQ_normal ?_ | refine W.skip ?_ | refine W.exit ?_ | refine thenQ_exit ?_ | refine inBlockQ_exit ?_ | refine inBlockQ_normal ?_ | refine W.block ?_
      | (apply SW.toC; refine SWcall.go True.intro ?_) | (apply SW.toOp; refine SWop.go True.intro ?_) | (apply SW.toCG; first | refine SWcall.yes True.intro ?_ | refine SWcall.no True.intro ?_) | (apply SW.toG; first | refine SWop.yes True.intro ?_ | refine SWop.no True.intro ?_)
    refine W.condZ G True.intro ?_ ?_
    all_goals intro hu
    · have hu' := of_decide_eq_true hu
      have e1 : (B : Int) + 4 - k = ((B + 4 - k : Nat) : Int) := by omega
      have hs : fracTo n R B (k + 1) = fracStep R lim (B + 4 - k) (fracTo n R B k) := by rw [← hlim]; rfl
      generalize hX : fracTo n R B k = X at L2 hs ⊢
      have hY := fracY_len (B + 4 - k) X
      have hP : (fracP R (fracY (B + 4 - k) X)).length ≤ 3 * (B / 16 + 1) := by
        unfold fracP
        split <;> simp only [prodF_len, hY, L2] <;> omega
      repeat' first
        | refine W.seq ?_ | (refine W.regS G ?_; dsimp only) | refine SW.nil ?_ | refine thenQ_normal ?_ | refine W.skip ?_ | refine W.exit ?_ | refine thenQ_exit ?_ | refine inBlockQ_exit ?_ | refine inBlockQ_normal ?_ | refine W.block ?_
        | (apply SW.toC; refine SWcall.go (And.intro e1 (And.intro L1 (And.intro L2 (And.intro prodF_len (And.intro prodS.eq_1 lessS.eq_1))))) ?_) | (apply SW.toOp; refine SWop.go (And.intro e1 (And.intro L1 (And.intro L2 (And.intro prodF_len (And.intro prodS.eq_1 lessS.eq_1))))) ?_) | (apply SW.toCG; first | refine SWcall.yes (And.intro e1 (And.intro L1 (And.intro L2 (And.intro prodF_len (And.intro prodS.eq_1 lessS.eq_1))))) ?_ | refine SWcall.no (And.intro e1 (And.intro L1 (And.intro L2 (And.intro prodF_len (And.intro prodS.eq_1 lessS.eq_1))))) ?_) | (apply SW.toG; first | refine SWop.yes (And.intro e1 (And.intro L1 (And.intro L2 (And.intro prodF_len (And.intro prodS.eq_1 lessS.eq_1))))) ?_ | refine SWop.no (And.intro e1 (And.intro L1 (And.intro L2 (And.intro prodF_len (And.intro prodS.eq_1 lessS.eq_1))))) ?_)
      generalize hI : B + 4 - k = I at *
      refine W.mid (sL [(1, .i R), (2, .i B), (7, .gr 900 (R * B / 16 + 1)), (9, .gr 901 (B / 16 + 1)), (10, .i I), (11, .gr 38 (B / 16 + 1)), (12, .sl true (.u 64 (fracP R (fracY I X))))] [(900, .row (.u 64 lim)), (901, .row (.u 64 X)), (38, .row (.u 64 (fracY I X)))] 83) ?_ ?_
      · refine W.condZ G (And.intro e1 (And.intro L1 (And.intro L2 (And.intro prodF_len (And.intro prodS.eq_1 lessS.eq_1))))) ?_ ?_
        all_goals intro hv
        · have hv' := of_decide_eq_true hv
          have hR3 : R = 3 := by omega
          repeat' first
            | refine W.seq ?_ | (refine W.regS G ?_; dsimp only) | refine SW.nil ?_ | refine thenQ_normal ?_ | refine W.skip ?_ | refine W.exit ?_ | refine thenQ_exit ?_ | refine inBlockQ_exit ?_ | refine inBlockQ_normal ?_ | refine W.block ?_
            | (apply SW.toC; refine SWcall.go (And.intro e1 (And.intro L1 (And.intro L2 (And.intro prodF_len (And.intro prodS.eq_1 lessS.eq_1))))) ?_) | (apply SW.toOp; refine SWop.go (And.intro e1 (And.intro L1 (And.intro L2 (And.intro prodF_len (And.intro prodS.eq_1 lessS.eq_1))))) ?_) | (apply SW.toCG; first | refine SWcall.yes (And.intro e1 (And.intro L1 (And.intro L2 (And.intro prodF_len (And.intro prodS.eq_1 lessS.eq_1))))) ?_ | refine SWcall.no (And.intro e1 (And.intro L1 (And.intro L2 (And.intro prodF_len (And.intro prodS.eq_1 lessS.eq_1))))) ?_) | (apply SW.toG; first | refine SWop.yes (And.intro e1 (And.intro L1 (And.intro L2 (And.intro prodF_len (And.intro prodS.eq_1 lessS.eq_1))))) ?_ | refine SWop.no (And.intro e1 (And.intro L1 (And.intro L2 (And.intro prodF_len (And.intro prodS.eq_1 lessS.eq_1))))) ?_)
          refine Imp.le ?_
          have hp : fracP R (fracY I X) = prodF (prodF (fracY I X) (fracY I X)) (fracY I X) := by simp only [fracP, hR3, if_true]
          exact sL_leZ (And.intro hp (And.intro e1 (And.intro L1 (And.intro L2 (And.intro prodF_len (And.intro prodS.eq_1 lessS.eq_1))))))
        · have hv' := of_decide_eq_false hv
          have hR3 : ¬ R = 3 := by omega
          repeat' first
            | refine W.seq ?_ | (refine W.regS G ?_; dsimp only) | refine SW.nil ?_ | refine thenQ_normal ?_ | refine W.skip ?_ | refine W.exit ?_ | refine thenQ_exit ?_ | refine inBlockQ_exit ?_ | refine inBlockQ_normal ?_ | refine W.block ?_
            | (apply SW.toC; refine SWcall.go (And.intro e1 (And.intro L1 (And.intro L2 (And.intro prodF_len (And.intro prodS.eq_1 lessS.eq_1))))) ?_) | (apply SW.toOp; refine SWop.go (And.intro e1 (And.intro L1 (And.intro L2 (And.intro prodF_len (And.intro prodS.eq_1 lessS.eq_1))))) ?_) | (apply SW.toCG; first | refine SWcall.yes (And.intro e1 (And.intro L1 (And.intro L2 (And.intro prodF_len (And.intro prodS.eq_1 lessS.eq_1))))) ?_ | refine SWcall.no (And.intro e1 (And.intro L1 (And.intro L2 (And.intro prodF_len (And.intro prodS.eq_1 lessS.eq_1))))) ?_) | (apply SW.toG; first | refine SWop.yes (And.intro e1 (And.intro L1 (And.intro L2 (And.intro prodF_len (And.intro prodS.eq_1 lessS.eq_1))))) ?_ | refine SWop.no (And.intro e1 (And.intro L1 (And.intro L2 (And.intro prodF_len (And.intro prodS.eq_1 lessS.eq_1))))) ?_)
          refine Imp.le ?_
          have hp : fracP R (fracY I X) = prodF (fracY I X) (fracY I X) := by simp only [fracP, if_neg hR3]
          exact sL_leZ (And.intro hp (And.intro e1 (And.intro L1 (And.intro L2 (And.intro prodF_len (And.intro prodS.eq_1 lessS.eq_1))))))
      repeat' first
        | refine W.seq ?_ | (refine W.regS G ?_; dsimp only) | refine SW.nil ?_ | refine thenQ_normal ?_ | refine W.skip ?_ | refine W.exit ?_ | refine thenQ_exit ?_ | refine inBlockQ_exit ?_ | refine inBlockQ_normal ?_ | refine W.block ?_
        | (apply SW.toC; refine SWcall.go (And.intro L1 (And.intro L2 (And.intro hY (And.intro prodS.eq_1 lessS.eq_1)))) ?_) | (apply SW.toOp; refine SWop.go (And.intro L1 (And.intro L2 (And.intro hY (And.intro prodS.eq_1 lessS.eq_1)))) ?_) | (apply SW.toCG; first | refine SWcall.yes (And.intro L1 (And.intro L2 (And.intro hY (And.intro prodS.eq_1 lessS.eq_1)))) ?_ | refine SWcall.no (And.intro L1 (And.intro L2 (And.intro hY (And.intro prodS.eq_1 lessS.eq_1)))) ?_) | (apply SW.toG; first | refine SWop.yes (And.intro L1 (And.intro L2 (And.intro hY (And.intro prodS.eq_1 lessS.eq_1)))) ?_ | refine SWop.no (And.intro L1 (And.intro L2 (And.intro hY (And.intro prodS.eq_1 lessS.eq_1)))) ?_)
      refine W.condZ G (And.intro L1 (And.intro L2 (And.intro hY (And.intro prodS.eq_1 lessS.eq_1)))) ?_ ?_
      all_goals intro hw
      · repeat' first
          | refine W.seq ?_ | (refine W.regS G ?_; dsimp only) | refine SW.nil ?_ | refine thenQ_normal ?_ | refine W.skip ?_ | refine W.exit ?_ | refine thenQ_exit ?_ | refine inBlockQ_exit ?_ | refine inBlockQ_normal ?_ | refine W.block ?_
          | (apply SW.toC; refine SWcall.go (And.intro L1 (And.intro L2 (And.intro hY (And.intro prodS.eq_1 lessS.eq_1)))) ?_) | (apply SW.toOp; refine SWop.go (And.intro L1 (And.intro L2 (And.intro hY (And.intro prodS.eq_1 lessS.eq_1)))) ?_) | (apply SW.toCG; first | refine SWcall.yes (And.intro L1 (And.intro L2 (And.intro hY (And.intro prodS.eq_1 lessS.eq_1)))) ?_ | refine SWcall.no (And.intro L1 (And.intro L2 (And.intro hY (And.intro prodS.eq_1 lessS.eq_1)))) ?_) | (apply SW.toG; first | refine SWop.yes (And.intro L1 (And.intro L2 (And.intro hY (And.intro prodS.eq_1 lessS.eq_1)))) ?_ | refine SWop.no (And.intro L1 (And.intro L2 (And.intro hY (And.intro prodS.eq_1 lessS.eq_1)))) ?_)
        refine ⟨⟨k + 1, by omega⟩, Imp.swap 38 901 (by decide) (by decide) ?_, by show _ - (k + 1) < _ - k; omega⟩
        have hw' : lessF lim (fracP R (fracY I X)) = false := by simpa using hw
        have hs' : fracTo n R B (k + 1) = fracY I X := by rw [hs]; simp only [fracStep, hw']; rfl
        exact sL_leZ (And.intro hs' (And.intro L1 (And.intro L2 (And.intro hY (And.intro prodS.eq_1 lessS.eq_1)))))
      · repeat' first
          | refine W.seq ?_ | (refine W.regS G ?_; dsimp only) | refine SW.nil ?_ | refine thenQ_normal ?_ | refine W.skip ?_ | refine W.exit ?_ | refine thenQ_exit ?_ | refine inBlockQ_exit ?_ | refine inBlockQ_normal ?_ | refine W.block ?_
          | (apply SW.toC; refine SWcall.go (And.intro L1 (And.intro L2 (And.intro hY (And.intro prodS.eq_1 lessS.eq_1)))) ?_) | (apply SW.toOp; refine SWop.go (And.intro L1 (And.intro L2 (And.intro hY (And.intro prodS.eq_1 lessS.eq_1)))) ?_) | (apply SW.toCG; first | refine SWcall.yes (And.intro L1 (And.intro L2 (And.intro hY (And.intro prodS.eq_1 lessS.eq_1)))) ?_ | refine SWcall.no (And.intro L1 (And.intro L2 (And.intro hY (And.intro prodS.eq_1 lessS.eq_1)))) ?_) | (apply SW.toG; first | refine SWop.yes (And.intro L1 (And.intro L2 (And.intro hY (And.intro prodS.eq_1 lessS.eq_1)))) ?_ | refine SWop.no (And.intro L1 (And.intro L2 (And.intro hY (And.intro prodS.eq_1 lessS.eq_1)))) ?_)
        refine ⟨⟨k + 1, by omega⟩, Imp.le ?_, by show _ - (k + 1) < _ - k; omega⟩
        have hw' : lessF lim (fracP R (fracY I X)) = true := by simpa using hw
        have hs' : fracTo n R B (k + 1) = X := by rw [hs]; simp only [fracStep, hw']; rfl
        exact sL_leZ (And.intro hs' (And.intro L1 (And.intro L2 (And.intro hY (And.intro prodS.eq_1 lessS.eq_1)))))
    · have hu' := of_decide_eq_false hu
      obtain rfl : k = B + 5 := by omega
      generalize hX : fracTo n R B (B + 5) = X at L2 ⊢
      have hF : fracF n R B = fracOut X (B / 16) (B / 16) := by rw [← hX]; rfl
      repeat' first
        | refine W.seq ?_ | (refine W.regS G ?_; dsimp only) | refine SW.nil ?_ | refine thenQ_normal ?_ | refine W.skip ?_ | refine W.exit ?_ | refine thenQ_exit ?_ | refine inBlockQ_exit ?_ | refine inBlockQ_normal ?_ | refine W.block ?_
        | (apply SW.toC; refine SWcall.go (And.intro L2 hB2) ?_) | (apply SW.toOp; refine SWop.go (And.intro L2 hB2) ?_) | (apply SW.toCG; first | refine SWcall.yes (And.intro L2 hB2) ?_ | refine SWcall.no (And.intro L2 hB2) ?_) | (apply SW.toG; first | refine SWop.yes (And.intro L2 hB2) ?_ | refine SWop.no (And.intro L2 hB2) ?_)
      refine W.loopI (ι := {k : Nat // k ≤ B / 16}) (fun k => sL [(9, .gr 901 (B / 16 + 1)), (13, .u 64 (fracOut X (B / 16) k.1)), (14, .i (((B / 16 : Nat) : Int) - 1 - k.1))] [(901, .row (.u 64 X))] 83) (fun k => B / 16 - k.1) ⟨0, Nat.zero_le _⟩ (Imp.le ?_) ?_
      · exact sL_leZ (And.intro L2 hB2)
      rintro ⟨k, hk⟩
      repeat' first
        | refine W.seq ?_ | (refine W.regS G ?_; dsimp only) | refine SW.nil ?_ | refine thenQ_normal ?_ | refine W.skip ?_ | refine W.exit ?_ | refine thenQ_exit ?_ | refine inBlockQ_exit ?_ | refine inBlockQ_normal ?_ | refine W.block ?_
        | (apply SW.toC; refine SWcall.go (And.intro L2 hB2) ?_) | (apply SW.toOp; refine SWop.go (And.intro L2 hB2) ?_) | (apply SW.toCG; first | refine SWcall.yes (And.intro L2 hB2) ?_ | refine SWcall.no (And.intro L2 hB2) ?_) | (apply SW.toG; first | refine SWop.yes (And.intro L2 hB2) ?_ | refine SWop.no (And.intro L2 hB2) ?_)
      refine W.condZ G (And.intro L2 hB2) ?_ ?_
      all_goals intro hv
      · have hv' := of_decide_eq_true hv
        have e1 : ((B / 16 : Nat) : Int) - 1 - k = ((B / 16 - 1 - k : Nat) : Int) := by omega
        repeat' first
          | refine W.seq ?_ | (refine W.regS G ?_; dsimp only) | refine SW.nil ?_ | refine thenQ_normal ?_ | refine W.skip ?_ | refine W.exit ?_ | refine thenQ_exit ?_ | refine inBlockQ_exit ?_ | refine inBlockQ_normal ?_ | refine W.block ?_
          | (apply SW.toC; refine SWcall.go (And.intro e1 L2) ?_) | (apply SW.toOp; refine SWop.go (And.intro e1 L2) ?_) | (apply SW.toCG; first | refine SWcall.yes (And.intro e1 L2) ?_ | refine SWcall.no (And.intro e1 L2) ?_) | (apply SW.toG; first | refine SWop.yes (And.intro e1 L2) ?_ | refine SWop.no (And.intro e1 L2) ?_)
        refine ⟨⟨k + 1, by omega⟩, Imp.le ?_, by show _ - (k + 1) < _ - k; omega⟩
        exact sL_leZ (And.intro e1 L2)
      · have hv' := of_decide_eq_false hv
        obtain rfl : k = B / 16 := by omega
        repeat' first
          | refine W.seq ?_ | (refine W.regS G ?_; dsimp only) | refine SW.nil ?_ | refine thenQ_normal ?_ | refine W.skip ?_ | refine W.exit ?_ | refine thenQ_exit ?_ | refine inBlockQ_exit ?_ | refine inBlockQ_normal ?_ | refine W.block ?_
          | (apply SW.toC; refine SWcall.go hF ?_) | (apply SW.toOp; refine SWop.go hF ?_) | (apply SW.toCG; first | refine SWcall.yes hF ?_ | refine SWcall.no hF ?_) | (apply SW.toG; first | refine SWop.yes hF ?_ | refine SWop.no hF ?_)
        refine W.ret ?_
        repeat' first
          | refine thenQ_ret ?_
          | refine inBlockQ_ret ?_
        refine fin1Z hF ?_
        rw [hF]; exact leV_refl
end Go.Vm.C06

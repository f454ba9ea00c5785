/- What some functions of the program compute, walked through once. -/
import Derived.Test.YtpgfoccjobgniaaDoorCA
namespace Go.Vm.C04
open Go Go.Proofs
set_option linter.unusedVariables false
set_option linter.unusedSimpArgs false
set_option maxRecDepth 100000
set_option maxHeartbeats 8000000
variable {gl : Nat → Option Row}

/-! ### the first bits of a root's fraction -/
def goalF (p : BitVec 64) (k : Nat) : List (BitVec 64) := itN (fun _ g => 0#64 :: g) k [p]
def fyF (i : Nat) (x : List (BitVec 64)) : List (BitVec 64) := x.set (i / 16) (x.getD (i / 16) 0 ||| 1#64 <<< (i % 16))
def ftF (r : Int) (y : List (BitVec 64)) : List (BitVec 64) := if r = 3 then prodF (prodF y y) y else prodF y y
def fsF (goal : List (BitVec 64)) (r : Int) (i : Nat) (x : List (BitVec 64)) : List (BitVec 64) := if lessF goal (ftF r (fyF i x)) (max goal.length (ftF r (fyF i x)).length) = true then x else fyF i x
def fxF (goal : List (BitVec 64)) (r : Int) (k : Nat) : List (BitVec 64) := itN (fun k x => fsF goal r (36 - k) x) k (zeros 64 3)
def fnF (x : List (BitVec 64)) (k : Nat) : BitVec 64 := itN (fun k n => n <<< 16 ||| x.getD (1 - k) 0) k 0#64
def fracF (p : BitVec 64) (r : Int) : BitVec 64 := fnF (fxF (goalF p (2 * r.toNat)) r 37) 2
theorem goalF_len (p : BitVec 64) (k : Nat) : (goalF p k).length = k + 1 := by
  induction k with
  | zero => rfl
  | succ k ih => show (0#64 :: goalF p k).length = _; simp [ih]
theorem fyF_len (i : Nat) (x : List (BitVec 64)) : (fyF i x).length = x.length := by simp [fyF]
theorem fsF_len (goal : List (BitVec 64)) (r : Int) (i : Nat) (x : List (BitVec 64)) : (fsF goal r i x).length = x.length := by unfold fsF; split <;> simp [fyF]
theorem fxF_len (goal : List (BitVec 64)) (r : Int) (k : Nat) : (fxF goal r k).length = 3 := itN_inv (p := fun (t : List (BitVec 64)) => t.length = 3) (fun _ _ h => by rw [fsF_len]; exact h) k rfl
noncomputable def fracS : FSpec := { run := fun ins => match ins with
  | [.u 64 p, .i r, .i n] => chk (n = 32 ∧ (r = 2 ∨ r = 3)) (some (.u 64 (fracF p r), []))
  | _ => none }
theorem frac_sound (hro : ∀ g r, gl g = some r → r.ro = r) : SoundFn Tryd.prog gl 20 fracS.run := by
  have G := good_of (P := Tryd.prog) hro (l := [(23, prodS), (24, lessS)]) (by simp only [List.forall_mem_cons]; exact ⟨prod_sound hro, less_sound hro, by simp⟩)
  refine soundFn_of_W G Tryd.func20 (by decide) rfl (by decide) ?_
  intro ins ret outs h
  unfold fracS at h
  dsimp only at h
  split at h
  rotate_left
  · cases h
  rename_i p r n
  obtain ⟨hl, h'⟩ := chk_some h
  clear h
  cases h'
  obtain ⟨rfl, hr⟩ := hl
  refine ⟨by show 3 ≤ 83; decide, fun w0 ext av => ?_⟩
  rw [Tryd.ntmps20, st0_eq]
  have eN : (r * 32 / 16) = ((2 * r.toNat : Nat) : Int) := by rcases hr with rfl | rfl <;> decide
  have hF : fracF p r = fnF (fxF (goalF p (2 * r.toNat)) r 37) 2 := rfl
  generalize hN : 2 * r.toNat = N at eN hF
  have hN6 : N ≤ 6 := by omega
  repeat' first
    | refine W.seq ?_ | (refine W.regS G ?_; dsimp only) | refine SW.nil ?_ | refine thenQ_normal ?_ | refine W.skip ?_ | refine W.exit ?_ | refine thenQ_exit ?_ | refine inBlockQ_exit ?_ | refine inBlockQ_normal ?_
    | (apply SW.toC; refine SWcall.go True.intro ?_) | (apply SW.toOp; refine SWop.go True.intro ?_) | (apply SW.toCG; first | refine SWcall.yes True.intro ?_ | refine SWcall.no True.intro ?_) | (apply SW.toG; first | refine SWop.yes True.intro ?_ | refine SWop.no True.intro ?_)
  refine W.mid (sL [(1, .i r), (2, .i 32), (7, .gr 16 (N + 1))] [(16, .row (.u 64 (goalF p N)))] 83) ?_ ?_
  · repeat' first
      | refine W.seq ?_ | (refine W.regS G ?_; dsimp only) | refine SW.nil ?_ | refine thenQ_normal ?_ | refine W.skip ?_ | refine W.exit ?_ | refine thenQ_exit ?_ | refine inBlockQ_exit ?_ | refine inBlockQ_normal ?_ | refine W.block ?_
      | (apply SW.toC; refine SWcall.go True.intro ?_) | (apply SW.toOp; refine SWop.go True.intro ?_) | (apply SW.toCG; first | refine SWcall.yes True.intro ?_ | refine SWcall.no True.intro ?_) | (apply SW.toG; first | refine SWop.yes True.intro ?_ | refine SWop.no True.intro ?_)
    refine W.loopI (ι := {k : Nat // k ≤ N}) (fun k => sL [(1, .i r), (2, .i 32), (7, .gr 16 (k.1 + 1)), (8, .i k.1)] [(16, .row (.u 64 (goalF p k.1)))] 83) (fun k => N - k.1) ⟨0, Nat.zero_le _⟩ (Imp.le ?_) ?_
    · exact sL_leZ True.intro
    rintro ⟨k, hk⟩
    have e : goalF p (k + 1) = 0#64 :: goalF p k := itN_succ _ _ _
    have l0 := goalF_len p k
    have hend : k = N → goalF p N = goalF p k := by rintro rfl; rfl
    generalize goalF p k = g at e l0 hend ⊢
    repeat' first
      | refine W.seq ?_ | (refine W.regS G ?_; dsimp only) | refine SW.nil ?_ | refine thenQ_normal ?_ | refine W.skip ?_ | refine W.exit ?_ | refine thenQ_exit ?_ | refine inBlockQ_exit ?_ | refine inBlockQ_normal ?_ | refine W.block ?_
      | (apply SW.toC; refine SWcall.go (And.intro eN l0) ?_) | (apply SW.toOp; refine SWop.go (And.intro eN l0) ?_) | (apply SW.toCG; first | refine SWcall.yes (And.intro eN l0) ?_ | refine SWcall.no (And.intro eN l0) ?_) | (apply SW.toG; first | refine SWop.yes (And.intro eN l0) ?_ | refine SWop.no (And.intro eN l0) ?_)
    refine W.condZ G (And.intro eN l0) ?_ ?_
    all_goals intro ht
    · have ht' := of_decide_eq_true ht
      repeat' first
        | refine W.seq ?_ | (refine W.regS G ?_; dsimp only) | refine SW.nil ?_ | refine thenQ_normal ?_ | refine W.skip ?_ | refine W.exit ?_ | refine thenQ_exit ?_ | refine inBlockQ_exit ?_ | refine inBlockQ_normal ?_ | refine W.block ?_
        | (apply SW.toC; refine SWcall.go (And.intro eN l0) ?_) | (apply SW.toOp; refine SWop.go (And.intro eN l0) ?_) | (apply SW.toCG; first | refine SWcall.yes (And.intro eN l0) ?_ | refine SWcall.no (And.intro eN l0) ?_) | (apply SW.toG; first | refine SWop.yes (And.intro eN l0) ?_ | refine SWop.no (And.intro eN l0) ?_)
      refine ⟨⟨k + 1, by omega⟩, Imp.swap 25 16 (by decide) (by decide) ?_, by show _ - (k + 1) < _ - k; omega⟩
      exact sL_leZ (And.intro e (And.intro eN l0))
    have ht' := of_decide_eq_false ht
    obtain rfl : k = N := by omega
    have hh := hend rfl
    repeat' first
      | refine W.seq ?_ | (refine W.regS G ?_; dsimp only) | refine SW.nil ?_ | refine thenQ_normal ?_ | refine W.skip ?_ | refine W.exit ?_ | refine thenQ_exit ?_ | refine inBlockQ_exit ?_ | refine inBlockQ_normal ?_ | refine W.block ?_
      | (apply SW.toC; refine SWcall.go (And.intro eN l0) ?_) | (apply SW.toOp; refine SWop.go (And.intro eN l0) ?_) | (apply SW.toCG; first | refine SWcall.yes (And.intro eN l0) ?_ | refine SWcall.no (And.intro eN l0) ?_) | (apply SW.toG; first | refine SWop.yes (And.intro eN l0) ?_ | refine SWop.no (And.intro eN l0) ?_)
    refine Imp.le ?_
    exact sL_leZ (And.intro hh (And.intro eN l0))
  have lg := goalF_len p N
  generalize goalF p N = g at hF lg ⊢
  have e16 : ((32 : Int) / 16) = 2 := by decide
  repeat' first
    | refine W.seq ?_ | (refine W.regS G ?_; dsimp only) | refine SW.nil ?_ | refine thenQ_normal ?_ | refine W.skip ?_ | refine W.exit ?_ | refine thenQ_exit ?_ | refine inBlockQ_exit ?_ | refine inBlockQ_normal ?_
    | (apply SW.toC; refine SWcall.go e16 ?_) | (apply SW.toOp; refine SWop.go e16 ?_) | (apply SW.toCG; first | refine SWcall.yes e16 ?_ | refine SWcall.no e16 ?_) | (apply SW.toG; first | refine SWop.yes e16 ?_ | refine SWop.no e16 ?_)
  refine W.mid (sL [(2, .i 32), (9, .gr 31 3)] [(31, .row (.u 64 (fxF g r 37)))] 83) ?_ ?_
  · repeat' first
      | refine W.seq ?_ | (refine W.regS G ?_; dsimp only) | refine SW.nil ?_ | refine thenQ_normal ?_ | refine W.skip ?_ | refine W.exit ?_ | refine thenQ_exit ?_ | refine inBlockQ_exit ?_ | refine inBlockQ_normal ?_ | refine W.block ?_
      | (apply SW.toC; refine SWcall.go e16 ?_) | (apply SW.toOp; refine SWop.go e16 ?_) | (apply SW.toCG; first | refine SWcall.yes e16 ?_ | refine SWcall.no e16 ?_) | (apply SW.toG; first | refine SWop.yes e16 ?_ | refine SWop.no e16 ?_)
    refine W.loopI (ι := {k : Nat // k ≤ 37}) (fun k => sL [(1, .i r), (2, .i 32), (7, .gr 16 (N + 1)), (9, .gr 31 3), (10, .i (36 - (k.1 : Int)))] [(16, .row (.u 64 g)), (31, .row (.u 64 (fxF g r k.1)))] 83) (fun k => 37 - k.1) ⟨0, Nat.zero_le _⟩ (Imp.le ?_) ?_
    · exact sL_leZ e16
    rintro ⟨k, hk⟩
    have e : fxF g r (k + 1) = fsF g r (36 - k) (fxF g r k) := itN_succ _ _ _
    have l0 := fxF_len g r k
    have hend : k = 37 → fxF g r 37 = fxF g r k := by rintro rfl; rfl
    generalize fxF g r k = x at e l0 hend ⊢
    repeat' first
      | refine W.seq ?_ | (refine W.regS G ?_; dsimp only) | refine SW.nil ?_ | refine thenQ_normal ?_ | refine W.skip ?_ | refine W.exit ?_ | refine thenQ_exit ?_ | refine inBlockQ_exit ?_ | refine inBlockQ_normal ?_ | refine W.block ?_
      | (apply SW.toC; refine SWcall.go l0 ?_) | (apply SW.toOp; refine SWop.go l0 ?_) | (apply SW.toCG; first | refine SWcall.yes l0 ?_ | refine SWcall.no l0 ?_) | (apply SW.toG; first | refine SWop.yes l0 ?_ | refine SWop.no l0 ?_)
    refine W.condZ G l0 ?_ ?_
    all_goals intro ht
    · have ht' := of_decide_eq_true ht
      obtain ⟨i, hi⟩ : ∃ i, i = 36 - k := ⟨_, rfl⟩
      rw [← hi] at e
      have ei : (36 - (k : Int)) = (i : Int) := by omega
      have e1 : ((i : Int) / 16) = ((i / 16 : Nat) : Int) := by omega
      have e2 : ((i : Int) % 16) = ((i % 16 : Nat) : Int) := by omega
      have e3 : (BitVec.ofInt 64 ((i % 16 : Nat) : Int)).toNat = i % 16 := by rw [BitVec.toNat_ofInt]; omega
      have hy : x.set (i / 16) (x.getD (i / 16) 0 ||| 1#64 <<< (i % 16)) = fyF i x := rfl
      have ly : (fyF i x).length = 3 := by rw [fyF_len, l0]
      have hs2 : fsF g r i x = if lessF g (ftF r (fyF i x)) (max g.length (ftF r (fyF i x)).length) = true then x else fyF i x := rfl
      generalize fyF i x = y at hy ly hs2
      have ht2 : ftF r y = if r = 3 then prodF (prodF y y) y else prodF y y := rfl
      have lp : (prodF y y).length = 6 := by rw [prodF_len, ly]
      have lq : (prodF (prodF y y) y).length = 9 := by rw [prodF_len, lp, ly]
      have lt : (ftF r y).length ≤ 9 := by rw [ht2]; split <;> omega
      repeat' first
        | refine W.seq ?_ | (refine W.regS G ?_; dsimp only) | refine SW.nil ?_ | refine thenQ_normal ?_ | refine W.skip ?_ | refine W.exit ?_ | refine thenQ_exit ?_ | refine inBlockQ_exit ?_ | refine inBlockQ_normal ?_
        | (apply SW.toC; refine SWcall.go (And.intro ei (And.intro e1 (And.intro e2 (And.intro e3 (And.intro hy (And.intro l0 (And.intro ly (And.intro prodS.eq_1 lp)))))))) ?_) | (apply SW.toOp; refine SWop.go (And.intro ei (And.intro e1 (And.intro e2 (And.intro e3 (And.intro hy (And.intro l0 (And.intro ly (And.intro prodS.eq_1 lp)))))))) ?_) | (apply SW.toCG; first | refine SWcall.yes (And.intro ei (And.intro e1 (And.intro e2 (And.intro e3 (And.intro hy (And.intro l0 (And.intro ly (And.intro prodS.eq_1 lp)))))))) ?_ | refine SWcall.no (And.intro ei (And.intro e1 (And.intro e2 (And.intro e3 (And.intro hy (And.intro l0 (And.intro ly (And.intro prodS.eq_1 lp)))))))) ?_) | (apply SW.toG; first | refine SWop.yes (And.intro ei (And.intro e1 (And.intro e2 (And.intro e3 (And.intro hy (And.intro l0 (And.intro ly (And.intro prodS.eq_1 lp)))))))) ?_ | refine SWop.no (And.intro ei (And.intro e1 (And.intro e2 (And.intro e3 (And.intro hy (And.intro l0 (And.intro ly (And.intro prodS.eq_1 lp)))))))) ?_)
      refine W.block ?_
      repeat' first
        | refine W.seq ?_ | (refine W.regS G ?_; dsimp only) | refine SW.nil ?_ | refine thenQ_normal ?_ | refine W.skip ?_ | refine W.exit ?_ | refine thenQ_exit ?_ | refine inBlockQ_exit ?_ | refine inBlockQ_normal ?_
        | (apply SW.toC; refine SWcall.go (And.intro ei (And.intro e1 (And.intro e2 (And.intro e3 (And.intro hy (And.intro l0 (And.intro ly (And.intro prodS.eq_1 lp)))))))) ?_) | (apply SW.toOp; refine SWop.go (And.intro ei (And.intro e1 (And.intro e2 (And.intro e3 (And.intro hy (And.intro l0 (And.intro ly (And.intro prodS.eq_1 lp)))))))) ?_) | (apply SW.toCG; first | refine SWcall.yes (And.intro ei (And.intro e1 (And.intro e2 (And.intro e3 (And.intro hy (And.intro l0 (And.intro ly (And.intro prodS.eq_1 lp)))))))) ?_ | refine SWcall.no (And.intro ei (And.intro e1 (And.intro e2 (And.intro e3 (And.intro hy (And.intro l0 (And.intro ly (And.intro prodS.eq_1 lp)))))))) ?_) | (apply SW.toG; first | refine SWop.yes (And.intro ei (And.intro e1 (And.intro e2 (And.intro e3 (And.intro hy (And.intro l0 (And.intro ly (And.intro prodS.eq_1 lp)))))))) ?_ | refine SWop.no (And.intro ei (And.intro e1 (And.intro e2 (And.intro e3 (And.intro hy (And.intro l0 (And.intro ly (And.intro prodS.eq_1 lp)))))))) ?_)
      refine W.mid (sL [(1, .i r), (2, .i 32), (7, .gr 16 (N + 1)), (9, .gr 31 3), (10, .i i), (11, .gr 38 3), (12, .sl true (.u 64 (ftF r y)))] [(16, .row (.u 64 g)), (31, .row (.u 64 x)), (38, .row (.u 64 y))] 83) ?_ ?_
      · refine W.condZ G (And.intro ei (And.intro e1 (And.intro e2 (And.intro e3 (And.intro hy (And.intro l0 (And.intro ly (And.intro prodS.eq_1 lp)))))))) ?_ ?_
        all_goals intro hc
        · have hc' := of_decide_eq_true hc
          rw [if_pos hc'] at ht2
          repeat' first
            | refine W.seq ?_ | (refine W.regS G ?_; dsimp only) | refine SW.nil ?_ | refine thenQ_normal ?_ | refine W.skip ?_ | refine W.exit ?_ | refine thenQ_exit ?_ | refine inBlockQ_exit ?_ | refine inBlockQ_normal ?_ | refine W.block ?_
            | (apply SW.toC; refine SWcall.go (And.intro ei (And.intro e1 (And.intro e2 (And.intro e3 (And.intro hy (And.intro l0 (And.intro ly (And.intro prodS.eq_1 lp)))))))) ?_) | (apply SW.toOp; refine SWop.go (And.intro ei (And.intro e1 (And.intro e2 (And.intro e3 (And.intro hy (And.intro l0 (And.intro ly (And.intro prodS.eq_1 lp)))))))) ?_) | (apply SW.toCG; first | refine SWcall.yes (And.intro ei (And.intro e1 (And.intro e2 (And.intro e3 (And.intro hy (And.intro l0 (And.intro ly (And.intro prodS.eq_1 lp)))))))) ?_ | refine SWcall.no (And.intro ei (And.intro e1 (And.intro e2 (And.intro e3 (And.intro hy (And.intro l0 (And.intro ly (And.intro prodS.eq_1 lp)))))))) ?_) | (apply SW.toG; first | refine SWop.yes (And.intro ei (And.intro e1 (And.intro e2 (And.intro e3 (And.intro hy (And.intro l0 (And.intro ly (And.intro prodS.eq_1 lp)))))))) ?_ | refine SWop.no (And.intro ei (And.intro e1 (And.intro e2 (And.intro e3 (And.intro hy (And.intro l0 (And.intro ly (And.intro prodS.eq_1 lp)))))))) ?_)
          refine Imp.le ?_
          exact sL_leZ (And.intro ht2 (And.intro lq (And.intro ei (And.intro e1 (And.intro e2 (And.intro e3 (And.intro hy (And.intro l0 (And.intro ly (And.intro prodS.eq_1 lp))))))))))
        · have hc' := of_decide_eq_false hc
          rw [if_neg hc'] at ht2
          repeat' first
            | refine W.seq ?_ | (refine W.regS G ?_; dsimp only) | refine SW.nil ?_ | refine thenQ_normal ?_ | refine W.skip ?_ | refine W.exit ?_ | refine thenQ_exit ?_ | refine inBlockQ_exit ?_ | refine inBlockQ_normal ?_ | refine W.block ?_
            | (apply SW.toC; refine SWcall.go (And.intro ei (And.intro e1 (And.intro e2 (And.intro e3 (And.intro hy (And.intro l0 (And.intro ly (And.intro prodS.eq_1 lp)))))))) ?_) | (apply SW.toOp; refine SWop.go (And.intro ei (And.intro e1 (And.intro e2 (And.intro e3 (And.intro hy (And.intro l0 (And.intro ly (And.intro prodS.eq_1 lp)))))))) ?_) | (apply SW.toCG; first | refine SWcall.yes (And.intro ei (And.intro e1 (And.intro e2 (And.intro e3 (And.intro hy (And.intro l0 (And.intro ly (And.intro prodS.eq_1 lp)))))))) ?_ | refine SWcall.no (And.intro ei (And.intro e1 (And.intro e2 (And.intro e3 (And.intro hy (And.intro l0 (And.intro ly (And.intro prodS.eq_1 lp)))))))) ?_) | (apply SW.toG; first | refine SWop.yes (And.intro ei (And.intro e1 (And.intro e2 (And.intro e3 (And.intro hy (And.intro l0 (And.intro ly (And.intro prodS.eq_1 lp)))))))) ?_ | refine SWop.no (And.intro ei (And.intro e1 (And.intro e2 (And.intro e3 (And.intro hy (And.intro l0 (And.intro ly (And.intro prodS.eq_1 lp)))))))) ?_)
          refine Imp.le ?_
          exact sL_leZ (And.intro ht2 (And.intro ei (And.intro e1 (And.intro e2 (And.intro e3 (And.intro hy (And.intro l0 (And.intro ly (And.intro prodS.eq_1 lp)))))))))
      generalize ftF r y = t at hs2 lt
      repeat' first
        | refine W.seq ?_ | (refine W.regS G ?_; dsimp only) | refine SW.nil ?_ | refine thenQ_normal ?_ | refine W.skip ?_ | refine W.exit ?_ | refine thenQ_exit ?_ | refine inBlockQ_exit ?_ | refine inBlockQ_normal ?_ | refine W.block ?_
        | (apply SW.toC; refine SWcall.go (And.intro lg (And.intro lessS.eq_1 ly)) ?_) | (apply SW.toOp; refine SWop.go (And.intro lg (And.intro lessS.eq_1 ly)) ?_) | (apply SW.toCG; first | refine SWcall.yes (And.intro lg (And.intro lessS.eq_1 ly)) ?_ | refine SWcall.no (And.intro lg (And.intro lessS.eq_1 ly)) ?_) | (apply SW.toG; first | refine SWop.yes (And.intro lg (And.intro lessS.eq_1 ly)) ?_ | refine SWop.no (And.intro lg (And.intro lessS.eq_1 ly)) ?_)
      refine W.condZ G lg ?_ ?_
      all_goals intro hc
      · have hb0 : lessF g t (max g.length t.length) = false := by rw [lg]; simpa using hc
        rw [hb0, if_neg (by decide)] at hs2
        repeat' first
          | refine W.seq ?_ | (refine W.regS G ?_; dsimp only) | refine SW.nil ?_ | refine thenQ_normal ?_ | refine W.skip ?_ | refine W.exit ?_ | refine thenQ_exit ?_ | refine inBlockQ_exit ?_ | refine inBlockQ_normal ?_ | refine W.block ?_
          | (apply SW.toC; refine SWcall.go lg ?_) | (apply SW.toOp; refine SWop.go lg ?_) | (apply SW.toCG; first | refine SWcall.yes lg ?_ | refine SWcall.no lg ?_) | (apply SW.toG; first | refine SWop.yes lg ?_ | refine SWop.no lg ?_)
        refine ⟨⟨k + 1, by omega⟩, Imp.swap 38 31 (by decide) (by decide) ?_, by show _ - (k + 1) < _ - k; omega⟩
        have e5 : (i : Int) - 1 = 36 - ((k + 1 : Nat) : Int) := by omega
        exact sL_leZ (And.intro e (And.intro hs2 (And.intro e5 lg)))
      · have hb0 : lessF g t (max g.length t.length) = true := by rw [lg]; simpa using hc
        rw [hb0, if_pos rfl] at hs2
        repeat' first
          | refine W.seq ?_ | (refine W.regS G ?_; dsimp only) | refine SW.nil ?_ | refine thenQ_normal ?_ | refine W.skip ?_ | refine W.exit ?_ | refine thenQ_exit ?_ | refine inBlockQ_exit ?_ | refine inBlockQ_normal ?_ | refine W.block ?_
          | (apply SW.toC; refine SWcall.go lg ?_) | (apply SW.toOp; refine SWop.go lg ?_) | (apply SW.toCG; first | refine SWcall.yes lg ?_ | refine SWcall.no lg ?_) | (apply SW.toG; first | refine SWop.yes lg ?_ | refine SWop.no lg ?_)
        refine ⟨⟨k + 1, by omega⟩, Imp.le ?_, by show _ - (k + 1) < _ - k; omega⟩
        have e5 : (i : Int) - 1 = 36 - ((k + 1 : Nat) : Int) := by omega
        exact sL_leZ (And.intro e (And.intro hs2 (And.intro e5 lg)))
    have ht' := of_decide_eq_false ht
    obtain rfl : k = 37 := by omega
    have hh := hend rfl
    repeat' first
      | refine W.seq ?_ | (refine W.regS G ?_; dsimp only) | refine SW.nil ?_ | refine thenQ_normal ?_ | refine W.skip ?_ | refine W.exit ?_ | refine thenQ_exit ?_ | refine inBlockQ_exit ?_ | refine inBlockQ_normal ?_ | refine W.block ?_
      | (apply SW.toC; refine SWcall.go l0 ?_) | (apply SW.toOp; refine SWop.go l0 ?_) | (apply SW.toCG; first | refine SWcall.yes l0 ?_ | refine SWcall.no l0 ?_) | (apply SW.toG; first | refine SWop.yes l0 ?_ | refine SWop.no l0 ?_)
    refine Imp.le ?_
    exact sL_leZ (And.intro hh l0)
  have l1 := fxF_len g r 37
  generalize fxF g r 37 = x at hF l1 ⊢
  repeat' first
    | refine W.seq ?_ | (refine W.regS G ?_; dsimp only) | refine SW.nil ?_ | refine thenQ_normal ?_ | refine W.skip ?_ | refine W.exit ?_ | refine thenQ_exit ?_ | refine inBlockQ_exit ?_ | refine inBlockQ_normal ?_ | refine W.block ?_
    | (apply SW.toC; refine SWcall.go e16 ?_) | (apply SW.toOp; refine SWop.go e16 ?_) | (apply SW.toCG; first | refine SWcall.yes e16 ?_ | refine SWcall.no e16 ?_) | (apply SW.toG; first | refine SWop.yes e16 ?_ | refine SWop.no e16 ?_)
  refine W.loopI (ι := {k : Nat // k ≤ 2}) (fun k => sL [(9, .gr 31 3), (13, .u 64 (fnF x k.1)), (14, .i (1 - (k.1 : Int)))] [(31, .row (.u 64 x))] 83) (fun k => 2 - k.1) ⟨0, Nat.zero_le _⟩ (Imp.le ?_) ?_
  · exact sL_leZ e16
  rintro ⟨k, hk⟩
  have e : fnF x (k + 1) = fnF x k <<< 16 ||| x.getD (1 - k) 0 := itN_succ _ _ _
  have hend : k = 2 → fnF x 2 = fnF x k := by rintro rfl; rfl
  generalize fnF x k = n at e hend ⊢
  repeat' first
    | refine W.seq ?_ | (refine W.regS G ?_; dsimp only) | refine SW.nil ?_ | refine thenQ_normal ?_ | refine W.skip ?_ | refine W.exit ?_ | refine thenQ_exit ?_ | refine inBlockQ_exit ?_ | refine inBlockQ_normal ?_ | refine W.block ?_
    | (apply SW.toC; refine SWcall.go l1 ?_) | (apply SW.toOp; refine SWop.go l1 ?_) | (apply SW.toCG; first | refine SWcall.yes l1 ?_ | refine SWcall.no l1 ?_) | (apply SW.toG; first | refine SWop.yes l1 ?_ | refine SWop.no l1 ?_)
  refine W.condZ G l1 ?_ ?_
  all_goals intro ht
  · have ht' := of_decide_eq_true ht
    have ei : (1 - (k : Int)) = ((1 - k : Nat) : Int) := by omega
    have e5 : (((1 - k : Nat) : Int) - 1) = 1 - ((k + 1 : Nat) : Int) := by omega
    repeat' first
      | refine W.seq ?_ | (refine W.regS G ?_; dsimp only) | refine SW.nil ?_ | refine thenQ_normal ?_ | refine W.skip ?_ | refine W.exit ?_ | refine thenQ_exit ?_ | refine inBlockQ_exit ?_ | refine inBlockQ_normal ?_ | refine W.block ?_
      | (apply SW.toC; refine SWcall.go (And.intro l1 ei) ?_) | (apply SW.toOp; refine SWop.go (And.intro l1 ei) ?_) | (apply SW.toCG; first | refine SWcall.yes (And.intro l1 ei) ?_ | refine SWcall.no (And.intro l1 ei) ?_) | (apply SW.toG; first | refine SWop.yes (And.intro l1 ei) ?_ | refine SWop.no (And.intro l1 ei) ?_)
    refine ⟨⟨k + 1, by omega⟩, Imp.le ?_, by show _ - (k + 1) < _ - k; omega⟩
    exact sL_leZ (And.intro e (And.intro e5 (And.intro l1 ei)))
  have ht' := of_decide_eq_false ht
  obtain rfl : k = 2 := by omega
  have hh := hend rfl
  repeat' first
    | refine W.seq ?_ | (refine W.regS G ?_; dsimp only) | refine SW.nil ?_ | refine thenQ_normal ?_ | refine W.skip ?_ | refine W.exit ?_ | refine thenQ_exit ?_ | refine inBlockQ_exit ?_ | refine inBlockQ_normal ?_ | refine W.block ?_
    | (apply SW.toC; refine SWcall.go l1 ?_) | (apply SW.toOp; refine SWop.go l1 ?_) | (apply SW.toCG; first | refine SWcall.yes l1 ?_ | refine SWcall.no l1 ?_) | (apply SW.toG; first | refine SWop.yes l1 ?_ | refine SWop.no l1 ?_)
  refine W.ret ?_
  repeat' first
    | refine thenQ_ret ?_
    | refine inBlockQ_ret ?_
  refine fin1Z l1 ?_
  rw [hF, hh]
  exact leV_refl
/-! ### the first primes -/

/-- is no one of the first i of ps a divisor of p? -/
def primeTo (ps : List (BitVec 64)) (p : BitVec 64) (i : Nat) : Bool := itN (fun i b => b && !decide (p % ps.getD i 0 = 0#64)) i true
def primeStep (s : List (BitVec 64) × BitVec 64) : List (BitVec 64) × BitVec 64 :=
  (if primeTo s.1 s.2 s.1.length = true then s.1 ++ [s.2] else s.1, s.2 + 1#64)
def primesIt (k : Nat) : List (BitVec 64) × BitVec 64 := itN (fun _ => primeStep) k ([], 2#64)
noncomputable def primesS (n k : Nat) : FSpec := { run := fun ins => match ins with
  | [.i m] => chk (m = n) (some (.sl true (.u 64 (primesIt k).1), []))
  | _ => none }
/-- that k rounds find n of them, and no fewer -/
structure PrimesOK (n k : Nat) : Prop where
  len : (primesIt k).1.length = n
  few : ∀ j, j < k → (primesIt j).1.length < n
  ne : ∀ j, j < k → ∀ i, i < (primesIt j).1.length → ¬ (primesIt j).1.getD i 0 = 0

theorem primes_sound (hro : ∀ g r, gl g = some r → r.ro = r) {n k : Nat} (ok : PrimesOK n k) (hn : n < 1000) : SoundFn Tryd.prog gl 19 (primesS n k).run := by
  have G := good_of (P := Tryd.prog) hro (l := []) (by simp)
  refine soundFn_of_W G Tryd.func19 (by decide) rfl (by decide) ?_
  intro ins ret outs h
  unfold primesS at h
  dsimp only at h
  split at h
  rotate_left
  · cases h
  rename_i m
  obtain ⟨hm, h'⟩ := chk_some h
  clear h
  subst hm
  cases h'
  refine ⟨by show 1 ≤ 36; decide, fun w0 ext av => ?_⟩
  rw [Tryd.ntmps19, st0_eq]
  repeat' first
    | refine W.seq ?_ | (refine W.regS G ?_; dsimp only) | refine SW.nil ?_ | refine thenQ_normal ?_ | refine W.skip ?_ | refine W.exit ?_ | refine thenQ_exit ?_ | refine inBlockQ_exit ?_ | refine inBlockQ_normal ?_ | refine W.block ?_
    | (apply SW.toC; refine SWcall.go True.intro ?_) | (apply SW.toOp; refine SWop.go True.intro ?_) | (apply SW.toCG; first | refine SWcall.yes True.intro ?_ | refine SWcall.no True.intro ?_) | (apply SW.toG; first | refine SWop.yes True.intro ?_ | refine SWop.no True.intro ?_)
  refine W.loopI (ι := {j : Nat // j ≤ k}) (fun j => sL [(0, .i n), (3, .gr 7 (primesIt j.1).1.length), (4, .u 64 (primesIt j.1).2)] [(7, .row (.u 64 (primesIt j.1).1))] 36) (fun j => k - j.1) ⟨0, Nat.zero_le _⟩ (Imp.le ?_) ?_
  · exact sL_leZ True.intro
  rintro ⟨j, hj⟩
  have L0 : (primesIt j).1.length ≤ n := by
    rcases Nat.lt_or_ge j k with h | h
    · exact Nat.le_of_lt (ok.few j h)
    · obtain rfl : j = k := by omega
      exact Nat.le_of_eq ok.len
  repeat' first
    | refine W.seq ?_ | (refine W.regS G ?_; dsimp only) | refine SW.nil ?_ | refine thenQ_normal ?_ | refine W.skip ?_ | refine W.exit ?_ | refine thenQ_exit ?_ | refine inBlockQ_exit ?_ | refine inBlockQ_normal ?_ | refine W.block ?_
    | (apply SW.toC; refine SWcall.go True.intro ?_) | (apply SW.toOp; refine SWop.go True.intro ?_) | (apply SW.toCG; first | refine SWcall.yes True.intro ?_ | refine SWcall.no True.intro ?_) | (apply SW.toG; first | refine SWop.yes True.intro ?_ | refine SWop.no True.intro ?_)
  refine W.condZ G True.intro ?_ ?_
  all_goals intro ht
  · have ht' := of_decide_eq_true ht
    have hjk : j < k := by
      rcases Nat.lt_or_ge j k with h | h
      · exact h
      · obtain rfl : j = k := by omega
        have := ok.len; omega
    repeat' first
      | refine W.seq ?_ | (refine W.regS G ?_; dsimp only) | refine SW.nil ?_ | refine thenQ_normal ?_ | refine W.skip ?_ | refine W.exit ?_ | refine thenQ_exit ?_ | refine inBlockQ_exit ?_ | refine inBlockQ_normal ?_ | refine W.block ?_
      | (apply SW.toC; refine SWcall.go True.intro ?_) | (apply SW.toOp; refine SWop.go True.intro ?_) | (apply SW.toCG; first | refine SWcall.yes True.intro ?_ | refine SWcall.no True.intro ?_) | (apply SW.toG; first | refine SWop.yes True.intro ?_ | refine SWop.no True.intro ?_)
    refine W.loopI (ι := {i : Nat // i ≤ (primesIt j).1.length}) (fun i => sL [(0, .i n), (3, .gr 7 (primesIt j).1.length), (4, .u 64 (primesIt j).2), (5, .b (primeTo (primesIt j).1 (primesIt j).2 i)), (6, .i i.1)] [(7, .row (.u 64 (primesIt j).1))] 36) (fun i => (primesIt j).1.length - i.1) ⟨0, Nat.zero_le _⟩ (Imp.le ?_) ?_
    · exact sL_leZ True.intro
    rintro ⟨i, hi⟩
    repeat' first
      | refine W.seq ?_ | (refine W.regS G ?_; dsimp only) | refine SW.nil ?_ | refine thenQ_normal ?_ | refine W.skip ?_ | refine W.exit ?_ | refine thenQ_exit ?_ | refine inBlockQ_exit ?_ | refine inBlockQ_normal ?_ | refine W.block ?_
      | (apply SW.toC; refine SWcall.go True.intro ?_) | (apply SW.toOp; refine SWop.go True.intro ?_) | (apply SW.toCG; first | refine SWcall.yes True.intro ?_ | refine SWcall.no True.intro ?_) | (apply SW.toG; first | refine SWop.yes True.intro ?_ | refine SWop.no True.intro ?_)
    refine W.condZ G True.intro ?_ ?_
    all_goals intro hu
    · have hu' := of_decide_eq_true hu
      have hz := ok.ne j hjk i (by omega)
      cases hb : primeTo (primesIt j).1 (primesIt j).2 i
      · skip
        repeat' first
          | refine W.seq ?_ | (refine W.regS G ?_; dsimp only) | refine SW.nil ?_ | refine thenQ_normal ?_ | refine W.skip ?_ | refine W.exit ?_ | refine thenQ_exit ?_ | refine inBlockQ_exit ?_ | refine inBlockQ_normal ?_ | refine W.block ?_
          | (apply SW.toC; refine SWcall.go hb ?_) | (apply SW.toOp; refine SWop.go hb ?_) | (apply SW.toCG; first | refine SWcall.yes hb ?_ | refine SWcall.no hb ?_) | (apply SW.toG; first | refine SWop.yes hb ?_ | refine SWop.no hb ?_)
        refine ⟨⟨i + 1, by omega⟩, Imp.le ?_, by show _ - (i + 1) < _ - i; omega⟩
        have hb' : primeTo (primesIt j).1 (primesIt j).2 (i + 1) = false := by simp [primeTo, itN] at hb ⊢; simp [hb]
        exact sL_leZ (And.intro hb' hb)
      · skip
        repeat' first
          | refine W.seq ?_ | (refine W.regS G ?_; dsimp only) | refine SW.nil ?_ | refine thenQ_normal ?_ | refine W.skip ?_ | refine W.exit ?_ | refine thenQ_exit ?_ | refine inBlockQ_exit ?_ | refine inBlockQ_normal ?_ | refine W.block ?_
          | (apply SW.toC; refine SWcall.go (And.intro hb hz) ?_) | (apply SW.toOp; refine SWop.go (And.intro hb hz) ?_) | (apply SW.toCG; first | refine SWcall.yes (And.intro hb hz) ?_ | refine SWcall.no (And.intro hb hz) ?_) | (apply SW.toG; first | refine SWop.yes (And.intro hb hz) ?_ | refine SWop.no (And.intro hb hz) ?_)
        refine ⟨⟨i + 1, by omega⟩, Imp.le ?_, by show _ - (i + 1) < _ - i; omega⟩
        have hb' : primeTo (primesIt j).1 (primesIt j).2 (i + 1) = !decide ((primesIt j).2 % (primesIt j).1.getD i 0 = 0#64) := by
          show (primeTo (primesIt j).1 (primesIt j).2 i && _) = _
          rw [hb]; rfl
        exact sL_leZ (And.intro hb' (And.intro hb hz))
    · have hu' := of_decide_eq_false hu
      obtain rfl : i = (primesIt j).1.length := by omega
      repeat' first
        | refine W.seq ?_ | (refine W.regS G ?_; dsimp only) | refine SW.nil ?_ | refine thenQ_normal ?_ | refine W.skip ?_ | refine W.exit ?_ | refine thenQ_exit ?_ | refine inBlockQ_exit ?_ | refine inBlockQ_normal ?_ | refine W.block ?_
        | (apply SW.toC; refine SWcall.go True.intro ?_) | (apply SW.toOp; refine SWop.go True.intro ?_) | (apply SW.toCG; first | refine SWcall.yes True.intro ?_ | refine SWcall.no True.intro ?_) | (apply SW.toG; first | refine SWop.yes True.intro ?_ | refine SWop.no True.intro ?_)
      refine W.condZ G True.intro ?_ ?_
      all_goals intro hv
      · repeat' first
          | refine W.seq ?_ | (refine W.regS G ?_; dsimp only) | refine SW.nil ?_ | refine thenQ_normal ?_ | refine W.skip ?_ | refine W.exit ?_ | refine thenQ_exit ?_ | refine inBlockQ_exit ?_ | refine inBlockQ_normal ?_ | refine W.block ?_
          | (apply SW.toC; refine SWcall.go True.intro ?_) | (apply SW.toOp; refine SWop.go True.intro ?_) | (apply SW.toCG; first | refine SWcall.yes True.intro ?_ | refine SWcall.no True.intro ?_) | (apply SW.toG; first | refine SWop.yes True.intro ?_ | refine SWop.no True.intro ?_)
        refine ⟨⟨j + 1, by omega⟩, Imp.le ?_, by show _ - (j + 1) < _ - j; omega⟩
        have e : primesIt (j + 1) = ((primesIt j).1 ++ [(primesIt j).2], (primesIt j).2 + 1#64) := by
          show primeStep (primesIt j) = _
          simp only [primeStep, hv, if_true]
        have e' : (primesIt (j + 1)).1.length = (primesIt j).1.length + 1 := by rw [e]; simp
        exact sL_leZ e
      · repeat' first
          | refine W.seq ?_ | (refine W.regS G ?_; dsimp only) | refine SW.nil ?_ | refine thenQ_normal ?_ | refine W.skip ?_ | refine W.exit ?_ | refine thenQ_exit ?_ | refine inBlockQ_exit ?_ | refine inBlockQ_normal ?_ | refine W.block ?_
          | (apply SW.toC; refine SWcall.go True.intro ?_) | (apply SW.toOp; refine SWop.go True.intro ?_) | (apply SW.toCG; first | refine SWcall.yes True.intro ?_ | refine SWcall.no True.intro ?_) | (apply SW.toG; first | refine SWop.yes True.intro ?_ | refine SWop.no True.intro ?_)
        refine ⟨⟨j + 1, by omega⟩, Imp.le ?_, by show _ - (j + 1) < _ - j; omega⟩
        have e : primesIt (j + 1) = ((primesIt j).1, (primesIt j).2 + 1#64) := by
          show primeStep (primesIt j) = _
          simp [primeStep, hv]
        exact sL_leZ e
  · have ht' := of_decide_eq_false ht
    obtain rfl : j = k := by
      rcases Nat.lt_or_ge j k with h | h
      · have := ok.few j h; omega
      · omega
    repeat' first
      | refine W.seq ?_ | (refine W.regS G ?_; dsimp only) | refine SW.nil ?_ | refine thenQ_normal ?_ | refine W.skip ?_ | refine W.exit ?_ | refine thenQ_exit ?_ | refine inBlockQ_exit ?_ | refine inBlockQ_normal ?_ | refine W.block ?_
      | (apply SW.toC; refine SWcall.go True.intro ?_) | (apply SW.toOp; refine SWop.go True.intro ?_) | (apply SW.toCG; first | refine SWcall.yes True.intro ?_ | refine SWcall.no True.intro ?_) | (apply SW.toG; first | refine SWop.yes True.intro ?_ | refine SWop.no True.intro ?_)
    refine W.ret ?_
    repeat' first
      | refine thenQ_ret ?_
      | refine inBlockQ_ret ?_
    refine fin1Z True.intro ?_
    exact leV_refl

/-! ### the table -/
theorem P64_ok : PrimesOK 64 310 := by
  have mono : ∀ j, (primesIt j).1.length ≤ (primesIt (j + 1)).1.length := by
    intro j
    show _ ≤ (primeStep (primesIt j)).1.length
    unfold primeStep
    split <;> simp
  have le : ∀ d j, (primesIt j).1.length ≤ (primesIt (j + d)).1.length := by
    intro d
    induction d with
    | zero => intro j; exact Nat.le_refl _
    | succ d ih => intro j; exact Nat.le_trans (ih j) (mono (j + d))
  have l309 : (primesIt 309).1.length = 63 := by decide +kernel
  have val : ∀ j, j ≤ 310 → (primesIt j).2.toNat = 2 + j := by
    intro j
    induction j with
    | zero => intro _; rfl
    | succ j ih =>
      intro hj
      have := ih (by omega)
      show ((primesIt j).2 + 1#64).toNat = _
      rw [BitVec.toNat_add, this]
      show (2 + j + 1) % 2 ^ 64 = _
      omega
  have all : ∀ j, j ≤ 310 → ∀ x ∈ (primesIt j).1, x ≠ 0 := by
    intro j
    induction j with
    | zero => intro _ x hx; cases hx
    | succ j ih =>
      intro hj x hx
      have hx : x ∈ (primeStep (primesIt j)).1 := hx
      unfold primeStep at hx
      dsimp only at hx
      split at hx
      · rcases List.mem_append.1 hx with h | h
        · exact ih (by omega) x h
        · obtain rfl : x = (primesIt j).2 := by simpa using h
          intro h0
          have := val j (by omega)
          rw [h0] at this
          have : (0 : Nat) = 2 + j := this
          omega
      · exact ih (by omega) x hx
  refine ⟨by decide +kernel, fun j hj => ?_, fun j hj i hi h0 => ?_⟩
  · have := le (309 - j) j
    rw [show j + (309 - j) = 309 by omega, l309] at this
    omega
  · refine all j (by omega) ((primesIt j).1.getD i 0) ?_ h0
    rw [List.getD_eq_getElem?_getD, List.getElem?_eq_getElem hi]
    exact List.getElem_mem hi
def P64 : List (BitVec 64) := (primesIt 310).1
theorem P64_len : P64.length = 64 := P64_ok.len
def tabK (k : Nat) : List (BitVec 32) := itN (fun i l => l ++ [BitVec.setWidth 32 (fracF (P64.getD i 0) 3)]) k []
def tabH (k : Nat) : List (BitVec 32) := itN (fun i h => h.set i (BitVec.setWidth 32 (fracF (P64.getD i 0) 2))) k (zeros 32 8)
theorem tabK_len (k : Nat) : (tabK k).length = k := by
  induction k with
  | zero => rfl
  | succ k ih => show (tabK k ++ _).length = _; simp [ih]
noncomputable def tableS : FSpec := { run := fun ins => match ins with
  | [] => some (.tup [.sl true (.u 32 (tabK 64)), .agg 8 (.u 32 (tabH 8))], [])
  | _ => none }
theorem table_sound (hro : ∀ g r, gl g = some r → r.ro = r) : SoundFn Tryd.prog gl 14 tableS.run := by
  have G := good_of (P := Tryd.prog) hro (l := [(19, primesS 64 310), (20, fracS)]) (by simp only [List.forall_mem_cons]; exact ⟨primes_sound hro P64_ok (by decide), frac_sound hro, by simp⟩)
  refine soundFn_of_W G Tryd.func14 (by decide) rfl (by decide) ?_
  intro ins ret outs h
  unfold tableS at h
  dsimp only at h
  split at h
  rotate_left
  · cases h
  cases h
  refine ⟨by show 0 ≤ 37; decide, fun w0 ext av => ?_⟩
  rw [Tryd.ntmps14, st0_eq]
  have hP : (primesIt 310).1 = P64 := rfl
  have lP := P64_len
  repeat' first
    | refine W.seq ?_ | (refine W.regS G ?_; dsimp only) | refine SW.nil ?_ | refine thenQ_normal ?_ | refine W.skip ?_ | refine W.exit ?_ | refine thenQ_exit ?_ | refine inBlockQ_exit ?_ | refine inBlockQ_normal ?_
    | (apply SW.toC; refine SWcall.go (And.intro primesS.eq_1 hP) ?_) | (apply SW.toOp; refine SWop.go (And.intro primesS.eq_1 hP) ?_) | (apply SW.toCG; first | refine SWcall.yes (And.intro primesS.eq_1 hP) ?_ | refine SWcall.no (And.intro primesS.eq_1 hP) ?_) | (apply SW.toG; first | refine SWop.yes (And.intro primesS.eq_1 hP) ?_ | refine SWop.no (And.intro primesS.eq_1 hP) ?_)
  refine W.mid (sL [(1, .p 1 0 0 0), (2, .sl true (.u 64 P64)), (3, .gr 8 64), (4, .p 4 0 0 0)] [(1, .agg 8 (.u 32 (zeros 32 8))), (8, .row (.u 32 (tabK 64))), (4, .agg 8 (.u 32 (zeros 32 8)))] 37) ?_ ?_
  · repeat' first
      | refine W.seq ?_ | (refine W.regS G ?_; dsimp only) | refine SW.nil ?_ | refine thenQ_normal ?_ | refine W.skip ?_ | refine W.exit ?_ | refine thenQ_exit ?_ | refine inBlockQ_exit ?_ | refine inBlockQ_normal ?_ | refine W.block ?_
      | (apply SW.toC; refine SWcall.go (And.intro primesS.eq_1 hP) ?_) | (apply SW.toOp; refine SWop.go (And.intro primesS.eq_1 hP) ?_) | (apply SW.toCG; first | refine SWcall.yes (And.intro primesS.eq_1 hP) ?_ | refine SWcall.no (And.intro primesS.eq_1 hP) ?_) | (apply SW.toG; first | refine SWop.yes (And.intro primesS.eq_1 hP) ?_ | refine SWop.no (And.intro primesS.eq_1 hP) ?_)
    refine W.loopI (ι := {i : Nat // i ≤ 64}) (fun i => sL [(1, .p 1 0 0 0), (2, .sl true (.u 64 P64)), (3, .gr 8 i.1), (4, .p 4 0 0 0), (5, .i i.1)] [(1, .agg 8 (.u 32 (zeros 32 8))), (8, .row (.u 32 (tabK i.1))), (4, .agg 8 (.u 32 (zeros 32 8)))] 37) (fun i => 64 - i.1) ⟨0, Nat.zero_le _⟩ (Imp.le ?_) ?_
    · exact sL_leZ (And.intro primesS.eq_1 hP)
    rintro ⟨i, hi⟩
    have e : tabK (i + 1) = tabK i ++ [BitVec.setWidth 32 (fracF (P64.getD i 0) 3)] := itN_succ _ _ _
    have l0 := tabK_len i
    have hend : i = 64 → tabK 64 = tabK i := by rintro rfl; rfl
    generalize tabK i = l at e l0 hend ⊢
    repeat' first
      | refine W.seq ?_ | (refine W.regS G ?_; dsimp only) | refine SW.nil ?_ | refine thenQ_normal ?_ | refine W.skip ?_ | refine W.exit ?_ | refine thenQ_exit ?_ | refine inBlockQ_exit ?_ | refine inBlockQ_normal ?_ | refine W.block ?_
      | (apply SW.toC; refine SWcall.go (And.intro lP l0) ?_) | (apply SW.toOp; refine SWop.go (And.intro lP l0) ?_) | (apply SW.toCG; first | refine SWcall.yes (And.intro lP l0) ?_ | refine SWcall.no (And.intro lP l0) ?_) | (apply SW.toG; first | refine SWop.yes (And.intro lP l0) ?_ | refine SWop.no (And.intro lP l0) ?_)
    refine W.condZ G (And.intro lP l0) ?_ ?_
    all_goals intro ht
    · have ht' := of_decide_eq_true ht
      repeat' first
        | refine W.seq ?_ | (refine W.regS G ?_; dsimp only) | refine SW.nil ?_ | refine thenQ_normal ?_ | refine W.skip ?_ | refine W.exit ?_ | refine thenQ_exit ?_ | refine inBlockQ_exit ?_ | refine inBlockQ_normal ?_ | refine W.block ?_
        | (apply SW.toC; refine SWcall.go (And.intro lP (And.intro l0 fracS.eq_1)) ?_) | (apply SW.toOp; refine SWop.go (And.intro lP (And.intro l0 fracS.eq_1)) ?_) | (apply SW.toCG; first | refine SWcall.yes (And.intro lP (And.intro l0 fracS.eq_1)) ?_ | refine SWcall.no (And.intro lP (And.intro l0 fracS.eq_1)) ?_) | (apply SW.toG; first | refine SWop.yes (And.intro lP (And.intro l0 fracS.eq_1)) ?_ | refine SWop.no (And.intro lP (And.intro l0 fracS.eq_1)) ?_)
      refine ⟨⟨i + 1, by omega⟩, Imp.le ?_, by show _ - (i + 1) < _ - i; omega⟩
      exact sL_leZ (And.intro e (And.intro lP (And.intro l0 fracS.eq_1)))
    have ht' := of_decide_eq_false ht
    obtain rfl : i = 64 := by omega
    have hh := hend rfl
    repeat' first
      | refine W.seq ?_ | (refine W.regS G ?_; dsimp only) | refine SW.nil ?_ | refine thenQ_normal ?_ | refine W.skip ?_ | refine W.exit ?_ | refine thenQ_exit ?_ | refine inBlockQ_exit ?_ | refine inBlockQ_normal ?_ | refine W.block ?_
      | (apply SW.toC; refine SWcall.go (And.intro lP l0) ?_) | (apply SW.toOp; refine SWop.go (And.intro lP l0) ?_) | (apply SW.toCG; first | refine SWcall.yes (And.intro lP l0) ?_ | refine SWcall.no (And.intro lP l0) ?_) | (apply SW.toG; first | refine SWop.yes (And.intro lP l0) ?_ | refine SWop.no (And.intro lP l0) ?_)
    refine Imp.le ?_
    exact sL_leZ (And.intro hh (And.intro lP l0))
  have lk := tabK_len 64
  have hR : ∀ ys, ys = [V.sl true (.u 32 (tabK 64)), V.agg 8 (.u 32 (tabH 8))] → V.tup [V.sl true (.u 32 (tabK 64)), V.agg 8 (.u 32 (tabH 8))] = V.tup ys := by rintro _ rfl; rfl
  generalize tabK 64 = K at lk ⊢
  repeat' first
    | refine W.seq ?_ | (refine W.regS G ?_; dsimp only) | refine SW.nil ?_ | refine thenQ_normal ?_ | refine W.skip ?_ | refine W.exit ?_ | refine thenQ_exit ?_ | refine inBlockQ_exit ?_ | refine inBlockQ_normal ?_
    | (apply SW.toC; refine SWcall.go True.intro ?_) | (apply SW.toOp; refine SWop.go True.intro ?_) | (apply SW.toCG; first | refine SWcall.yes True.intro ?_ | refine SWcall.no True.intro ?_) | (apply SW.toG; first | refine SWop.yes True.intro ?_ | refine SWop.no True.intro ?_)
  refine W.mid (sL [(1, .p 1 0 0 0), (3, .gr 8 64), (4, .p 4 0 0 0)] [(1, .agg 8 (.u 32 (zeros 32 8))), (8, .row (.u 32 K)), (4, .agg 8 (.u 32 (tabH 8)))] 37) ?_ ?_
  · repeat' first
      | refine W.seq ?_ | (refine W.regS G ?_; dsimp only) | refine SW.nil ?_ | refine thenQ_normal ?_ | refine W.skip ?_ | refine W.exit ?_ | refine thenQ_exit ?_ | refine inBlockQ_exit ?_ | refine inBlockQ_normal ?_ | refine W.block ?_
      | (apply SW.toC; refine SWcall.go True.intro ?_) | (apply SW.toOp; refine SWop.go True.intro ?_) | (apply SW.toCG; first | refine SWcall.yes True.intro ?_ | refine SWcall.no True.intro ?_) | (apply SW.toG; first | refine SWop.yes True.intro ?_ | refine SWop.no True.intro ?_)
    refine W.loopI (ι := {i : Nat // i ≤ 8}) (fun i => sL [(1, .p 1 0 0 0), (2, .sl true (.u 64 P64)), (3, .gr 8 64), (4, .p 4 0 0 0), (6, .i i.1)] [(1, .agg 8 (.u 32 (zeros 32 8))), (8, .row (.u 32 K)), (4, .agg 8 (.u 32 (tabH i.1)))] 37) (fun i => 8 - i.1) ⟨0, Nat.zero_le _⟩ (Imp.le ?_) ?_
    · exact sL_leZ True.intro
    rintro ⟨i, hi⟩
    have e : tabH (i + 1) = (tabH i).set i (BitVec.setWidth 32 (fracF (P64.getD i 0) 2)) := itN_succ _ _ _
    have hend : i = 8 → tabH 8 = tabH i := by rintro rfl; rfl
    generalize tabH i = h at e hend ⊢
    repeat' first
      | refine W.seq ?_ | (refine W.regS G ?_; dsimp only) | refine SW.nil ?_ | refine thenQ_normal ?_ | refine W.skip ?_ | refine W.exit ?_ | refine thenQ_exit ?_ | refine inBlockQ_exit ?_ | refine inBlockQ_normal ?_ | refine W.block ?_
      | (apply SW.toC; refine SWcall.go lP ?_) | (apply SW.toOp; refine SWop.go lP ?_) | (apply SW.toCG; first | refine SWcall.yes lP ?_ | refine SWcall.no lP ?_) | (apply SW.toG; first | refine SWop.yes lP ?_ | refine SWop.no lP ?_)
    refine W.condZ G lP ?_ ?_
    all_goals intro ht
    · have ht' := of_decide_eq_true ht
      repeat' first
        | refine W.seq ?_ | (refine W.regS G ?_; dsimp only) | refine SW.nil ?_ | refine thenQ_normal ?_ | refine W.skip ?_ | refine W.exit ?_ | refine thenQ_exit ?_ | refine inBlockQ_exit ?_ | refine inBlockQ_normal ?_ | refine W.block ?_
        | (apply SW.toC; refine SWcall.go (And.intro lP fracS.eq_1) ?_) | (apply SW.toOp; refine SWop.go (And.intro lP fracS.eq_1) ?_) | (apply SW.toCG; first | refine SWcall.yes (And.intro lP fracS.eq_1) ?_ | refine SWcall.no (And.intro lP fracS.eq_1) ?_) | (apply SW.toG; first | refine SWop.yes (And.intro lP fracS.eq_1) ?_ | refine SWop.no (And.intro lP fracS.eq_1) ?_)
      refine ⟨⟨i + 1, by omega⟩, Imp.le ?_, by show _ - (i + 1) < _ - i; omega⟩
      exact sL_leZ (And.intro e (And.intro lP fracS.eq_1))
    have ht' := of_decide_eq_false ht
    obtain rfl : i = 8 := by omega
    have hh := hend rfl
    repeat' first
      | refine W.seq ?_ | (refine W.regS G ?_; dsimp only) | refine SW.nil ?_ | refine thenQ_normal ?_ | refine W.skip ?_ | refine W.exit ?_ | refine thenQ_exit ?_ | refine inBlockQ_exit ?_ | refine inBlockQ_normal ?_ | refine W.block ?_
      | (apply SW.toC; refine SWcall.go lP ?_) | (apply SW.toOp; refine SWop.go lP ?_) | (apply SW.toCG; first | refine SWcall.yes lP ?_ | refine SWcall.no lP ?_) | (apply SW.toG; first | refine SWop.yes lP ?_ | refine SWop.no lP ?_)
    refine Imp.le ?_
    exact sL_leZ (And.intro hh lP)
  generalize tabH 8 = Hh
  repeat' first
    | refine W.seq ?_ | (refine W.regS G ?_; dsimp only) | refine SW.nil ?_ | refine thenQ_normal ?_ | refine W.skip ?_ | refine W.exit ?_ | refine thenQ_exit ?_ | refine inBlockQ_exit ?_ | refine inBlockQ_normal ?_ | refine W.block ?_
    | (apply SW.toC; refine SWcall.go lk ?_) | (apply SW.toOp; refine SWop.go lk ?_) | (apply SW.toCG; first | refine SWcall.yes lk ?_ | refine SWcall.no lk ?_) | (apply SW.toG; first | refine SWop.yes lk ?_ | refine SWop.no lk ?_)
  refine W.drawS G [[], [], [0], [1, 2, 0]] hmix ?_
  dsimp only
  repeat' first
    | (apply DW.nil; (focus (decide +kernel)))
    | (apply DW.toC; refine DWcall.go lk ?_) | (apply DW.toOp; refine DWop.go lk ?_) | (apply DW.toCG; first | refine DWcall.yes lk ?_ | refine DWcall.no lk ?_) | (apply DW.toG; first | refine DWop.yes lk ?_ | refine DWop.no lk ?_)
  repeat' first
    | refine W.seq ?_ | (refine W.regS G ?_; dsimp only) | refine SW.nil ?_ | refine thenQ_normal ?_ | refine W.skip ?_ | refine W.exit ?_ | refine thenQ_exit ?_ | refine inBlockQ_exit ?_ | refine inBlockQ_normal ?_ | refine W.block ?_
    | (apply SW.toC; refine SWcall.go lk ?_) | (apply SW.toOp; refine SWop.go lk ?_) | (apply SW.toCG; first | refine SWcall.yes lk ?_ | refine SWcall.no lk ?_) | (apply SW.toG; first | refine SWop.yes lk ?_ | refine SWop.no lk ?_)
  refine W.ret ?_
  repeat' first
    | refine thenQ_ret ?_
    | refine inBlockQ_ret ?_
  refine fin2Z (And.intro lk lk) ?_ ?_
  · exact leV_refl
  · exact leV_refl
end Go.Vm.C04

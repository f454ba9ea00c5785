/- What some functions of the program compute, walked through once. -/
import Derived.Test.YthhabhaljdcgpaaDoorCA
namespace Go.Vm.C06
open Go Go.Proofs
set_option linter.unusedVariables false
set_option linter.unusedSimpArgs false
set_option maxRecDepth 100000
set_option maxHeartbeats 8000000
variable {gl : Nat → Option Row}

def numF (b : List (BitVec 8)) : Nat → BitVec 64 := fun k => itN (fun k n => n <<< (8#64).toNat ||| BitVec.setWidth 64 (b.getD (7 - (k:Int)).toNat 0)) k 0
noncomputable def numS : FSpec := { run := fun ins => match ins with
  | [.sl false (.u 8 b)] => chk (8 ≤ b.length ∧ b.length < 1000000) (some (.u 64 (numF b 8), []))
  | _ => none }

theorem num_sound (hro : ∀ g r, gl g = some r → r.ro = r) : SoundFn Tryd.prog gl 17 numS.run := by
  have G := good_of (P := Tryd.prog) hro (l := []) (by simp)
  refine soundFn_of_W G Tryd.func17 (by decide) rfl (by decide) ?_
  intro ins ret outs h
  unfold numS at h
  dsimp only at h
  split at h
  rotate_left
  · cases h
  rename_i b
  obtain ⟨hk, h⟩ := chk_some h
  cases h
  refine ⟨by show 1 ≤ 18; decide, fun w0 ext av => ?_⟩
  rw [Tryd.ntmps17, st0_eq]
  repeat' first
    | refine W.seq ?_ | (refine W.regS G ?_; dsimp only) | refine SW.nil ?_ | refine thenQ_normal ?_ | refine W.skip ?_ | refine W.exit ?_ | refine thenQ_exit ?_ | refine inBlockQ_exit ?_ | refine inBlockQ_normal ?_ | refine W.block ?_
    | (apply SW.toC; refine SWcall.go True.intro ?_) | (apply SW.toOp; refine SWop.go True.intro ?_) | (apply SW.toCG; first | refine SWcall.yes True.intro ?_ | refine SWcall.no True.intro ?_) | (apply SW.toG; first | refine SWop.yes True.intro ?_ | refine SWop.no True.intro ?_)
  refine W.loopI (ι := {k : Nat // k ≤ 8}) (fun k => sL [(0, .sl false (.u 8 b)), (3, .u 64 (numF b k)), (4, .i (7 - k.1))] [] 18) (fun k => 8 - k.1) ⟨0, by omega⟩ (Imp.le ?_) ?_
  · exact sL_leZ True.intro
  rintro ⟨k, hk⟩
  repeat' first
    | refine W.seq ?_ | (refine W.regS G ?_; dsimp only) | refine SW.nil ?_ | refine thenQ_normal ?_ | refine W.skip ?_ | refine W.exit ?_ | refine thenQ_exit ?_ | refine inBlockQ_exit ?_ | refine inBlockQ_normal ?_ | refine W.block ?_
    | (apply SW.toC; refine SWcall.go True.intro ?_) | (apply SW.toOp; refine SWop.go True.intro ?_) | (apply SW.toCG; first | refine SWcall.yes True.intro ?_ | refine SWcall.no True.intro ?_) | (apply SW.toG; first | refine SWop.yes True.intro ?_ | refine SWop.no True.intro ?_)
  refine W.condZ G True.intro ?_ ?_
  all_goals intro ht
  · have hk' := of_decide_eq_true ht
    repeat' first
      | refine W.seq ?_ | (refine W.regS G ?_; dsimp only) | refine SW.nil ?_ | refine thenQ_normal ?_ | refine W.skip ?_ | refine W.exit ?_ | refine thenQ_exit ?_ | refine inBlockQ_exit ?_ | refine inBlockQ_normal ?_ | refine W.block ?_
      | (apply SW.toC; refine SWcall.go True.intro ?_) | (apply SW.toOp; refine SWop.go True.intro ?_) | (apply SW.toCG; first | refine SWcall.yes True.intro ?_ | refine SWcall.no True.intro ?_) | (apply SW.toG; first | refine SWop.yes True.intro ?_ | refine SWop.no True.intro ?_)
    refine ⟨⟨k + 1, by omega⟩, Imp.le ?_, by show 8 - (k + 1) < 8 - k; omega⟩
    exact sL_leZ True.intro
  · have hk' := of_decide_eq_false ht
    obtain rfl : k = 8 := by omega
    repeat' first
      | refine W.seq ?_ | (refine W.regS G ?_; dsimp only) | refine SW.nil ?_ | refine thenQ_normal ?_ | refine W.skip ?_ | refine W.exit ?_ | refine thenQ_exit ?_ | refine inBlockQ_exit ?_ | refine inBlockQ_normal ?_ | refine W.block ?_
      | (apply SW.toC; refine SWcall.go True.intro ?_) | (apply SW.toOp; refine SWop.go True.intro ?_) | (apply SW.toCG; first | refine SWcall.yes True.intro ?_ | refine SWcall.no True.intro ?_) | (apply SW.toG; first | refine SWop.yes True.intro ?_ | refine SWop.no True.intro ?_)
    refine W.ret ?_
    repeat' first
      | refine thenQ_ret ?_
      | refine inBlockQ_ret ?_
    refine fin1Z True.intro ?_
    exact leV_refl

/-- is the number of limbs a less than that of b, seen from limb m on downward? -/
def lessGo (a b : List (BitVec 64)) : Nat → Bool
  | 0 => false
  | m + 1 => if a.getD m 0 = b.getD m 0 then lessGo a b m else decide (a.getD m 0 < b.getD m 0)
def lessF (a b : List (BitVec 64)) : Bool := lessGo a b (max a.length b.length)
noncomputable def lessS : FSpec := { run := fun ins => match ins with
  | [.sl false (.u 64 a), .sl false (.u 64 b)] => chk (a.length < 1000000 ∧ b.length < 1000000) (some (.b (lessF a b), []))
  | _ => none }

theorem less_sound (hro : ∀ g r, gl g = some r → r.ro = r) : SoundFn Tryd.prog gl 20 lessS.run := by
  have G := good_of (P := Tryd.prog) hro (l := []) (by simp)
  refine soundFn_of_W G Tryd.func20 (by decide) rfl (by decide) ?_
  intro ins ret outs h
  unfold lessS at h
  dsimp only at h
  split at h
  rotate_left
  · cases h
  rename_i a b
  obtain ⟨hl, h⟩ := chk_some h
  cases h
  refine ⟨by show 2 ≤ 45; decide, fun w0 ext av => ?_⟩
  rw [Tryd.ntmps20, st0_eq]
  repeat' first
    | refine W.seq ?_ | (refine W.regS G ?_; dsimp only) | refine SW.nil ?_ | refine thenQ_normal ?_ | refine W.skip ?_ | refine W.exit ?_ | refine thenQ_exit ?_ | refine inBlockQ_exit ?_ | refine inBlockQ_normal ?_ | refine W.block ?_
    | (apply SW.toC; refine SWcall.go True.intro ?_) | (apply SW.toOp; refine SWop.go True.intro ?_) | (apply SW.toCG; first | refine SWcall.yes True.intro ?_ | refine SWcall.no True.intro ?_) | (apply SW.toG; first | refine SWop.yes True.intro ?_ | refine SWop.no True.intro ?_)
  refine W.mid (sL [(0, .sl false (.u 64 a)), (1, .sl false (.u 64 b)), (4, .b false), (5, .i (max a.length b.length : Nat))] [] 45) ?_ ?_
  · refine W.condZ G True.intro ?_ ?_
    all_goals intro ht
    · have ht' := of_decide_eq_true ht
      repeat' first
        | refine W.seq ?_ | (refine W.regS G ?_; dsimp only) | refine SW.nil ?_ | refine thenQ_normal ?_ | refine W.skip ?_ | refine W.exit ?_ | refine thenQ_exit ?_ | refine inBlockQ_exit ?_ | refine inBlockQ_normal ?_ | refine W.block ?_
        | (apply SW.toC; refine SWcall.go True.intro ?_) | (apply SW.toOp; refine SWop.go True.intro ?_) | (apply SW.toCG; first | refine SWcall.yes True.intro ?_ | refine SWcall.no True.intro ?_) | (apply SW.toG; first | refine SWop.yes True.intro ?_ | refine SWop.no True.intro ?_)
      refine Imp.le ?_
      exact sL_leZ True.intro
    · have ht' := of_decide_eq_false ht
      repeat' first
        | refine W.seq ?_ | (refine W.regS G ?_; dsimp only) | refine SW.nil ?_ | refine thenQ_normal ?_ | refine W.skip ?_ | refine W.exit ?_ | refine thenQ_exit ?_ | refine inBlockQ_exit ?_ | refine inBlockQ_normal ?_ | refine W.block ?_
        | (apply SW.toC; refine SWcall.go True.intro ?_) | (apply SW.toOp; refine SWop.go True.intro ?_) | (apply SW.toCG; first | refine SWcall.yes True.intro ?_ | refine SWcall.no True.intro ?_) | (apply SW.toG; first | refine SWop.yes True.intro ?_ | refine SWop.no True.intro ?_)
      refine Imp.le ?_
      exact sL_leZ True.intro
  repeat' first
    | refine W.seq ?_ | (refine W.regS G ?_; dsimp only) | refine SW.nil ?_ | refine thenQ_normal ?_ | refine W.skip ?_ | refine W.exit ?_ | refine thenQ_exit ?_ | refine inBlockQ_exit ?_ | refine inBlockQ_normal ?_ | refine W.block ?_
    | (apply SW.toC; refine SWcall.go True.intro ?_) | (apply SW.toOp; refine SWop.go True.intro ?_) | (apply SW.toCG; first | refine SWcall.yes True.intro ?_ | refine SWcall.no True.intro ?_) | (apply SW.toG; first | refine SWop.yes True.intro ?_ | refine SWop.no True.intro ?_)
  refine W.loopI (ι := {m : Nat // m ≤ max a.length b.length ∧ lessGo a b m = lessF a b}) (fun m => sL [(0, .sl false (.u 64 a)), (1, .sl false (.u 64 b)), (6, .i (m.1 - 1))] [] 45) (fun m => m.1) ⟨_, Nat.le_refl _, rfl⟩ (Imp.le ?_) ?_
  · exact sL_leZ True.intro
  rintro ⟨m, hm, hgo⟩
  repeat' first
    | refine W.seq ?_ | (refine W.regS G ?_; dsimp only) | refine SW.nil ?_ | refine thenQ_normal ?_ | refine W.skip ?_ | refine W.exit ?_ | refine thenQ_exit ?_ | refine inBlockQ_exit ?_ | refine inBlockQ_normal ?_ | refine W.block ?_
    | (apply SW.toC; refine SWcall.go True.intro ?_) | (apply SW.toOp; refine SWop.go True.intro ?_) | (apply SW.toCG; first | refine SWcall.yes True.intro ?_ | refine SWcall.no True.intro ?_) | (apply SW.toG; first | refine SWop.yes True.intro ?_ | refine SWop.no True.intro ?_)
  refine W.condZ G True.intro ?_ ?_
  all_goals intro ht
  · have ht' := of_decide_eq_true ht
    obtain ⟨m, rfl⟩ : ∃ k, m = k + 1 := ⟨m - 1, by omega⟩
    have e1 : ((m + 1 : Nat) : Int) - 1 = m := by omega
    simp only [e1] at *
    repeat' first
      | refine W.seq ?_ | (refine W.regS G ?_; dsimp only) | refine SW.nil ?_ | refine thenQ_normal ?_ | refine W.skip ?_ | refine W.exit ?_ | refine thenQ_exit ?_ | refine inBlockQ_exit ?_ | refine inBlockQ_normal ?_ | refine W.block ?_
      | (apply SW.toC; refine SWcall.go True.intro ?_) | (apply SW.toOp; refine SWop.go True.intro ?_) | (apply SW.toCG; first | refine SWcall.yes True.intro ?_ | refine SWcall.no True.intro ?_) | (apply SW.toG; first | refine SWop.yes True.intro ?_ | refine SWop.no True.intro ?_)
    refine W.mid (sL [(0, .sl false (.u 64 a)), (1, .sl false (.u 64 b)), (6, .i m), (7, .u 64 (a.getD m 0)), (8, .u 64 0#64)] [] 45) ?_ ?_
    · refine W.condZ G True.intro ?_ ?_
      all_goals intro h1
      · have h2 := of_decide_eq_true h1
        repeat' first
          | refine W.seq ?_ | (refine W.regS G ?_; dsimp only) | refine SW.nil ?_ | refine thenQ_normal ?_ | refine W.skip ?_ | refine W.exit ?_ | refine thenQ_exit ?_ | refine inBlockQ_exit ?_ | refine inBlockQ_normal ?_ | refine W.block ?_
          | (apply SW.toC; refine SWcall.go True.intro ?_) | (apply SW.toOp; refine SWop.go True.intro ?_) | (apply SW.toCG; first | refine SWcall.yes True.intro ?_ | refine SWcall.no True.intro ?_) | (apply SW.toG; first | refine SWop.yes True.intro ?_ | refine SWop.no True.intro ?_)
        refine Imp.le ?_
        exact sL_leZ True.intro
      · have h2 := of_decide_eq_false h1
        have h3 : a.getD m 0 = 0#64 := getD_ge (by omega)
        repeat' first
          | refine W.seq ?_ | (refine W.regS G ?_; dsimp only) | refine SW.nil ?_ | refine thenQ_normal ?_ | refine W.skip ?_ | refine W.exit ?_ | refine thenQ_exit ?_ | refine inBlockQ_exit ?_ | refine inBlockQ_normal ?_ | refine W.block ?_
          | (apply SW.toC; refine SWcall.go True.intro ?_) | (apply SW.toOp; refine SWop.go True.intro ?_) | (apply SW.toCG; first | refine SWcall.yes True.intro ?_ | refine SWcall.no True.intro ?_) | (apply SW.toG; first | refine SWop.yes True.intro ?_ | refine SWop.no True.intro ?_)
        refine Imp.le ?_
        exact sL_leZ h3
    repeat' first
      | refine W.seq ?_ | (refine W.regS G ?_; dsimp only) | refine SW.nil ?_ | refine thenQ_normal ?_ | refine W.skip ?_ | refine W.exit ?_ | refine thenQ_exit ?_ | refine inBlockQ_exit ?_ | refine inBlockQ_normal ?_ | refine W.block ?_
      | (apply SW.toC; refine SWcall.go True.intro ?_) | (apply SW.toOp; refine SWop.go True.intro ?_) | (apply SW.toCG; first | refine SWcall.yes True.intro ?_ | refine SWcall.no True.intro ?_) | (apply SW.toG; first | refine SWop.yes True.intro ?_ | refine SWop.no True.intro ?_)
    refine W.mid (sL [(0, .sl false (.u 64 a)), (1, .sl false (.u 64 b)), (6, .i m), (7, .u 64 (a.getD m 0)), (8, .u 64 (b.getD m 0))] [] 45) ?_ ?_
    · refine W.condZ G True.intro ?_ ?_
      all_goals intro h1
      · have h2 := of_decide_eq_true h1
        repeat' first
          | refine W.seq ?_ | (refine W.regS G ?_; dsimp only) | refine SW.nil ?_ | refine thenQ_normal ?_ | refine W.skip ?_ | refine W.exit ?_ | refine thenQ_exit ?_ | refine inBlockQ_exit ?_ | refine inBlockQ_normal ?_ | refine W.block ?_
          | (apply SW.toC; refine SWcall.go True.intro ?_) | (apply SW.toOp; refine SWop.go True.intro ?_) | (apply SW.toCG; first | refine SWcall.yes True.intro ?_ | refine SWcall.no True.intro ?_) | (apply SW.toG; first | refine SWop.yes True.intro ?_ | refine SWop.no True.intro ?_)
        refine Imp.le ?_
        exact sL_leZ True.intro
      · have h2 := of_decide_eq_false h1
        have h3 : b.getD m 0 = 0#64 := getD_ge (by omega)
        repeat' first
          | refine W.seq ?_ | (refine W.regS G ?_; dsimp only) | refine SW.nil ?_ | refine thenQ_normal ?_ | refine W.skip ?_ | refine W.exit ?_ | refine thenQ_exit ?_ | refine inBlockQ_exit ?_ | refine inBlockQ_normal ?_ | refine W.block ?_
          | (apply SW.toC; refine SWcall.go True.intro ?_) | (apply SW.toOp; refine SWop.go True.intro ?_) | (apply SW.toCG; first | refine SWcall.yes True.intro ?_ | refine SWcall.no True.intro ?_) | (apply SW.toG; first | refine SWop.yes True.intro ?_ | refine SWop.no True.intro ?_)
        refine Imp.le ?_
        exact sL_leZ h3
    repeat' first
      | refine W.seq ?_ | (refine W.regS G ?_; dsimp only) | refine SW.nil ?_ | refine thenQ_normal ?_ | refine W.skip ?_ | refine W.exit ?_ | refine thenQ_exit ?_ | refine inBlockQ_exit ?_ | refine inBlockQ_normal ?_ | refine W.block ?_
      | (apply SW.toC; refine SWcall.go True.intro ?_) | (apply SW.toOp; refine SWop.go True.intro ?_) | (apply SW.toCG; first | refine SWcall.yes True.intro ?_ | refine SWcall.no True.intro ?_) | (apply SW.toG; first | refine SWop.yes True.intro ?_ | refine SWop.no True.intro ?_)
    refine W.condZ G True.intro ?_ ?_
    all_goals intro h1
    · have h2 : ¬ a.getD m 0 = b.getD m 0 := by simpa using h1
      repeat' first
        | refine W.seq ?_ | (refine W.regS G ?_; dsimp only) | refine SW.nil ?_ | refine thenQ_normal ?_ | refine W.skip ?_ | refine W.exit ?_ | refine thenQ_exit ?_ | refine inBlockQ_exit ?_ | refine inBlockQ_normal ?_ | refine W.block ?_
        | (apply SW.toC; refine SWcall.go True.intro ?_) | (apply SW.toOp; refine SWop.go True.intro ?_) | (apply SW.toCG; first | refine SWcall.yes True.intro ?_ | refine SWcall.no True.intro ?_) | (apply SW.toG; first | refine SWop.yes True.intro ?_ | refine SWop.no True.intro ?_)
      refine W.ret ?_
      repeat' first
        | refine thenQ_ret ?_
        | refine inBlockQ_ret ?_
      have h3 : lessF a b = decide (a.getD m 0 < b.getD m 0) := by rw [← hgo]; simp only [lessGo, if_neg h2]
      refine fin1Z True.intro ?_
      rw [h3]; exact leV_refl
    · have h2 : a.getD m 0 = b.getD m 0 := by simpa using h1
      repeat' first
        | refine W.seq ?_ | (refine W.regS G ?_; dsimp only) | refine SW.nil ?_ | refine thenQ_normal ?_ | refine W.skip ?_ | refine W.exit ?_ | refine thenQ_exit ?_ | refine inBlockQ_exit ?_ | refine inBlockQ_normal ?_ | refine W.block ?_
        | (apply SW.toC; refine SWcall.go True.intro ?_) | (apply SW.toOp; refine SWop.go True.intro ?_) | (apply SW.toCG; first | refine SWcall.yes True.intro ?_ | refine SWcall.no True.intro ?_) | (apply SW.toG; first | refine SWop.yes True.intro ?_ | refine SWop.no True.intro ?_)
      refine ⟨⟨m, by omega, ?_⟩, Imp.le ?_, Nat.lt_succ_self m⟩
      · rw [← hgo]; simp only [lessGo, if_pos h2]
      exact sL_leZ True.intro
  · have ht' := of_decide_eq_false ht
    obtain rfl : m = 0 := by omega
    repeat' first
      | refine W.seq ?_ | (refine W.regS G ?_; dsimp only) | refine SW.nil ?_ | refine thenQ_normal ?_ | refine W.skip ?_ | refine W.exit ?_ | refine thenQ_exit ?_ | refine inBlockQ_exit ?_ | refine inBlockQ_normal ?_ | refine W.block ?_
      | (apply SW.toC; refine SWcall.go True.intro ?_) | (apply SW.toOp; refine SWop.go True.intro ?_) | (apply SW.toCG; first | refine SWcall.yes True.intro ?_ | refine SWcall.no True.intro ?_) | (apply SW.toG; first | refine SWop.yes True.intro ?_ | refine SWop.no True.intro ?_)
    refine W.ret ?_
    repeat' first
      | refine thenQ_ret ?_
      | refine inBlockQ_ret ?_
    have h3 : lessF a b = false := by rw [← hgo]; rfl
    refine fin1Z True.intro ?_
    rw [h3]; exact leV_refl

/-! ### products of numbers in limbs of sixteen bits -/

def prodStep (ai : BitVec 64) (b : List (BitVec 64)) (i j : Nat) (s : List (BitVec 64) × BitVec 64) : List (BitVec 64) × BitVec 64 :=
  (s.1.set (i + j) ((s.1.getD (i + j) 0 + ai * b.getD j 0 + s.2) &&& 65535#64), (s.1.getD (i + j) 0 + ai * b.getD j 0 + s.2) >>> 16)
def prodIn (ai : BitVec 64) (b : List (BitVec 64)) (i : Nat) (o : List (BitVec 64)) (j : Nat) : List (BitVec 64) × BitVec 64 := itN (prodStep ai b i) j (o, 0#64)
def prodRow (a b : List (BitVec 64)) (i : Nat) (o : List (BitVec 64)) : List (BitVec 64) :=
  (prodIn (a.getD i 0) b i o b.length).1.set (i + b.length) (prodIn (a.getD i 0) b i o b.length).2
def prodTo (a b : List (BitVec 64)) (i : Nat) : List (BitVec 64) := itN (prodRow a b) i (zeros 64 (a.length + b.length))
def prodF (a b : List (BitVec 64)) : List (BitVec 64) := prodTo a b a.length
noncomputable def prodS : FSpec := { run := fun ins => match ins with
  | [.sl false (.u 64 a), .sl false (.u 64 b)] => chk (a.length < 1000000 ∧ b.length < 1000000) (some (.sl true (.u 64 (prodF a b)), []))
  | _ => none }

theorem prodIn_len (ai : BitVec 64) (b : List (BitVec 64)) (i : Nat) (o : List (BitVec 64)) (j : Nat) : (prodIn ai b i o j).1.length = o.length :=
  itN_inv (p := fun (s : List (BitVec 64) × BitVec 64) => s.1.length = o.length) (fun j s hs => by simp [prodStep, hs]) j rfl
theorem prodTo_len (a b : List (BitVec 64)) (i : Nat) : (prodTo a b i).length = a.length + b.length :=
  itN_inv (p := fun (s : List (BitVec 64)) => s.length = a.length + b.length) (fun j s hs => by simp [prodRow, prodIn_len, hs]) i (by simp [zeros])

theorem prod_sound (hro : ∀ g r, gl g = some r → r.ro = r) : SoundFn Tryd.prog gl 19 prodS.run := by
  have G := good_of (P := Tryd.prog) hro (l := []) (by simp)
  refine soundFn_of_W G Tryd.func19 (by decide) rfl (by decide) ?_
  intro ins ret outs h
  unfold prodS at h
  dsimp only at h
  split at h
  rotate_left
  · cases h
  rename_i a b
  obtain ⟨hl, h⟩ := chk_some h
  cases h
  refine ⟨by show 2 ≤ 63; decide, fun w0 ext av => ?_⟩
  rw [Tryd.ntmps19, st0_eq]
  repeat' first
    | refine W.seq ?_ | (refine W.regS G ?_; dsimp only) | refine SW.nil ?_ | refine thenQ_normal ?_ | refine W.skip ?_ | refine W.exit ?_ | refine thenQ_exit ?_ | refine inBlockQ_exit ?_ | refine inBlockQ_normal ?_ | refine W.block ?_
    | (apply SW.toC; refine SWcall.go True.intro ?_) | (apply SW.toOp; refine SWop.go True.intro ?_) | (apply SW.toCG; first | refine SWcall.yes True.intro ?_ | refine SWcall.no True.intro ?_) | (apply SW.toG; first | refine SWop.yes True.intro ?_ | refine SWop.no True.intro ?_)
  refine W.loopI (ι := {i : Nat // i ≤ a.length}) (fun i => sL [(0, .sl false (.u 64 a)), (1, .sl false (.u 64 b)), (5, .gr 15 (a.length + b.length)), (6, .i i.1)] [(15, .row (.u 64 (prodTo a b i)))] 63) (fun i => a.length - i.1) ⟨0, Nat.zero_le _⟩ (Imp.le ?_) ?_
  · exact sL_leZ True.intro
  rintro ⟨i, hi⟩
  have L1 := prodTo_len a b i
  repeat' first
    | refine W.seq ?_ | (refine W.regS G ?_; dsimp only) | refine SW.nil ?_ | refine thenQ_normal ?_ | refine W.skip ?_ | refine W.exit ?_ | refine thenQ_exit ?_ | refine inBlockQ_exit ?_ | refine inBlockQ_normal ?_ | refine W.block ?_
    | (apply SW.toC; refine SWcall.go L1 ?_) | (apply SW.toOp; refine SWop.go L1 ?_) | (apply SW.toCG; first | refine SWcall.yes L1 ?_ | refine SWcall.no L1 ?_) | (apply SW.toG; first | refine SWop.yes L1 ?_ | refine SWop.no L1 ?_)
  refine W.condZ G L1 ?_ ?_
  all_goals intro ht
  · have ht' := of_decide_eq_true ht
    repeat' first
      | refine W.seq ?_ | (refine W.regS G ?_; dsimp only) | refine SW.nil ?_ | refine thenQ_normal ?_ | refine W.skip ?_ | refine W.exit ?_ | refine thenQ_exit ?_ | refine inBlockQ_exit ?_ | refine inBlockQ_normal ?_ | refine W.block ?_
      | (apply SW.toC; refine SWcall.go L1 ?_) | (apply SW.toOp; refine SWop.go L1 ?_) | (apply SW.toCG; first | refine SWcall.yes L1 ?_ | refine SWcall.no L1 ?_) | (apply SW.toG; first | refine SWop.yes L1 ?_ | refine SWop.no L1 ?_)
    refine W.loopI (ι := {j : Nat // j ≤ b.length}) (fun j => sL [(0, .sl false (.u 64 a)), (1, .sl false (.u 64 b)), (5, .gr 15 (a.length + b.length)), (6, .i i), (7, .u 64 (prodIn (a.getD i 0) b i (prodTo a b i) j).2), (8, .i j.1)] [(15, .row (.u 64 (prodIn (a.getD i 0) b i (prodTo a b i) j).1))] 63) (fun j => b.length - j.1) ⟨0, Nat.zero_le _⟩ (Imp.le ?_) ?_
    · exact sL_leZ L1
    rintro ⟨j, hj⟩
    have L2 := prodIn_len (a.getD i 0) b i (prodTo a b i) j
    repeat' first
      | refine W.seq ?_ | (refine W.regS G ?_; dsimp only) | refine SW.nil ?_ | refine thenQ_normal ?_ | refine W.skip ?_ | refine W.exit ?_ | refine thenQ_exit ?_ | refine inBlockQ_exit ?_ | refine inBlockQ_normal ?_ | refine W.block ?_
      | (apply SW.toC; refine SWcall.go (And.intro L1 L2) ?_) | (apply SW.toOp; refine SWop.go (And.intro L1 L2) ?_) | (apply SW.toCG; first | refine SWcall.yes (And.intro L1 L2) ?_ | refine SWcall.no (And.intro L1 L2) ?_) | (apply SW.toG; first | refine SWop.yes (And.intro L1 L2) ?_ | refine SWop.no (And.intro L1 L2) ?_)
    refine W.condZ G (And.intro L1 L2) ?_ ?_
    all_goals intro hu
    · have hu' := of_decide_eq_true hu
      repeat' first
        | refine W.seq ?_ | (refine W.regS G ?_; dsimp only) | refine SW.nil ?_ | refine thenQ_normal ?_ | refine W.skip ?_ | refine W.exit ?_ | refine thenQ_exit ?_ | refine inBlockQ_exit ?_ | refine inBlockQ_normal ?_ | refine W.block ?_
        | (apply SW.toC; refine SWcall.go (And.intro L1 L2) ?_) | (apply SW.toOp; refine SWop.go (And.intro L1 L2) ?_) | (apply SW.toCG; first | refine SWcall.yes (And.intro L1 L2) ?_ | refine SWcall.no (And.intro L1 L2) ?_) | (apply SW.toG; first | refine SWop.yes (And.intro L1 L2) ?_ | refine SWop.no (And.intro L1 L2) ?_)
      refine W.drawS G [[], [], [], [1, 2], [0, 3, 1, 2], [4, 0, 3, 1, 2], [], [], [6, 7], [8, 6, 7], [], [], [10, 11], [12, 10, 11], [9, 8, 6, 7, 13, 12, 10, 11], [5, 4, 0, 3, 1, 2, 14, 9, 8, 6, 7, 13, 12, 10, 11], [], [15, 5, 4, 0, 3, 1, 2, 14, 9, 8, 6, 7, 13, 12, 10, 11, 16], [17, 15, 5, 4, 0, 3, 1, 2, 14, 9, 8, 6, 7, 13, 12, 10, 11, 16]] hmix ?_
      dsimp only
      repeat' first
        | (apply DW.nil; (focus (decide +kernel)))
        | (apply DW.toC; refine DWcall.go (And.intro L1 L2) ?_) | (apply DW.toOp; refine DWop.go (And.intro L1 L2) ?_) | (apply DW.toCG; first | refine DWcall.yes (And.intro L1 L2) ?_ | refine DWcall.no (And.intro L1 L2) ?_) | (apply DW.toG; first | refine DWop.yes (And.intro L1 L2) ?_ | refine DWop.no (And.intro L1 L2) ?_)
      repeat' first
        | refine W.seq ?_ | (refine W.regS G ?_; dsimp only) | refine SW.nil ?_ | refine thenQ_normal ?_ | refine W.skip ?_ | refine W.exit ?_ | refine thenQ_exit ?_ | refine inBlockQ_exit ?_ | refine inBlockQ_normal ?_ | refine W.block ?_
        | (apply SW.toC; refine SWcall.go (And.intro L1 L2) ?_) | (apply SW.toOp; refine SWop.go (And.intro L1 L2) ?_) | (apply SW.toCG; first | refine SWcall.yes (And.intro L1 L2) ?_ | refine SWcall.no (And.intro L1 L2) ?_) | (apply SW.toG; first | refine SWop.yes (And.intro L1 L2) ?_ | refine SWop.no (And.intro L1 L2) ?_)
      refine ⟨⟨j + 1, by omega⟩, Imp.le ?_, by show b.length - (j + 1) < b.length - j; omega⟩
      exact sL_leZ (And.intro L1 L2)
    · have hu' := of_decide_eq_false hu
      obtain rfl : j = b.length := by omega
      repeat' first
        | refine W.seq ?_ | (refine W.regS G ?_; dsimp only) | refine SW.nil ?_ | refine thenQ_normal ?_ | refine W.skip ?_ | refine W.exit ?_ | refine thenQ_exit ?_ | refine inBlockQ_exit ?_ | refine inBlockQ_normal ?_ | refine W.block ?_
        | (apply SW.toC; refine SWcall.go (And.intro L1 L2) ?_) | (apply SW.toOp; refine SWop.go (And.intro L1 L2) ?_) | (apply SW.toCG; first | refine SWcall.yes (And.intro L1 L2) ?_ | refine SWcall.no (And.intro L1 L2) ?_) | (apply SW.toG; first | refine SWop.yes (And.intro L1 L2) ?_ | refine SWop.no (And.intro L1 L2) ?_)
      refine ⟨⟨i + 1, by omega⟩, Imp.le ?_, by show a.length - (i + 1) < a.length - i; omega⟩
      exact sL_leZ (And.intro L1 L2)
  · have ht' := of_decide_eq_false ht
    obtain rfl : i = a.length := by omega
    repeat' first
      | refine W.seq ?_ | (refine W.regS G ?_; dsimp only) | refine SW.nil ?_ | refine thenQ_normal ?_ | refine W.skip ?_ | refine W.exit ?_ | refine thenQ_exit ?_ | refine inBlockQ_exit ?_ | refine inBlockQ_normal ?_ | refine W.block ?_
      | (apply SW.toC; refine SWcall.go L1 ?_) | (apply SW.toOp; refine SWop.go L1 ?_) | (apply SW.toCG; first | refine SWcall.yes L1 ?_ | refine SWcall.no L1 ?_) | (apply SW.toG; first | refine SWop.yes L1 ?_ | refine SWop.no L1 ?_)
    refine W.ret ?_
    repeat' first
      | refine thenQ_ret ?_
      | refine inBlockQ_ret ?_
    refine fin1Z L1 ?_
    exact leV_refl
end Go.Vm.C06
